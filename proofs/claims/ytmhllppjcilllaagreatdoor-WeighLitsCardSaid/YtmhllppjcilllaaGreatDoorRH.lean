import Derived.Test.YtmhllppjcilllaaGreatDoorM1
import Derived.Test.YtmhllppjcilllaaGreatDoorRP
set_option linter.unusedSimpArgs false
set_option linter.unusedVariables false
set_option maxRecDepth 100000
set_option maxHeartbeats 400000
section
namespace Cs
def jf (a b i:Nat):Nat:=if a%10^i<b%10^i then 1 else 0
theorem brw_zero (a b:Nat):jf a b 0=0:=by simp [jf,Nat.mod_one]
theorem brw_le (a b i:Nat):jf a b i≤1:=by unfold jf;split <;> omega
theorem sub_div (a b p:Nat) (h:b≤a) (hp:0<p):(a-b) / p+(b / p+(if a%p<b%p then 1 else 0))=a / p:=by
 have ha:=Nat.div_add_mod a p;have hb:=Nat.div_add_mod b p;have ra:=Nat.mod_lt a hp;have rb:=Nat.mod_lt b hp;generalize hx:a / p=x at *
 generalize hy:b / p=y at *
 generalize a%p=A at *
 generalize b%p=B at *
 split
 ·rename_i hlt;have hyx:y+1≤x:=by
   refine Nat.le_of_not_lt fun h2=>?_;have:p*x≤p*y:=Nat.mul_le_mul_left _ (by omega);omega
  obtain ⟨z,rfl⟩:∃ z,x=z+(y+1):=⟨x-(y+1),by omega⟩;have e:a-b=A+p-B+p*z:=by
   rw [Nat.mul_add,Nat.mul_add] at ha;omega
  rw [e,Nat.add_mul_div_left _ _ hp,Nat.div_eq_of_lt (by omega)];omega
 ·rename_i hlt;have hyx:y≤x:=by
   refine Nat.le_of_not_lt fun h2=>?_;have:p*(x+1)≤p*y:=Nat.mul_le_mul_left _ h2;rw [Nat.mul_add] at this;omega
  obtain ⟨z,rfl⟩:∃ z,x=z+y:=⟨x-y,by omega⟩;have e:a-b=A-B+p*z:=by
   rw [Nat.mul_add] at ha;omega
  rw [e,Nat.add_mul_div_left _ _ hp,Nat.div_eq_of_lt (by omega)];omega
theorem sub_dg (a b i:Nat) (h:b≤a):(dg 10 a i+10-dg 10 b i-jf a b i)%10=dg 10 (a-b) i:=by
 have h1:=sub_div a b (10^i) h (jj i);unfold dg jf;split at h1
 ·rename_i hlt;rw [if_pos hlt];omega
 ·rename_i hlt;rw [if_neg hlt];omega
theorem brw_succ (a b i:Nat):jf a b (i+1)=if dg 10 a i<dg 10 b i+jf a b i then 1 else 0:=by
 have ha:=pV 10 a i;have hb:=pV 10 b i;have ra:=Nat.mod_lt a (jj i);have rb:=Nat.mod_lt b (jj i);unfold jf;rw [ha,hb];generalize dg 10 a i=x;generalize dg 10 b i=y;generalize 10^i=p at *
 generalize a%p=A at *
 generalize b%p=B at *
 have key:A+p*x<B+p*y↔x<y+(if A<B then 1 else 0):=by
  rcases Nat.lt_trichotomy x y with h | h | h
  ·have:p*(x+1)≤p*y:=Nat.mul_le_mul_left _ h;rw [Nat.mul_add] at this;constructor
   ·intro;split <;> omega
   ·intro;omega
  ·subst h;constructor
   ·intro h;rw [if_pos (by omega)];omega
   ·intro h;split at h <;> omega
  ·have:p*(y+1)≤p*x:=Nat.mul_le_mul_left _ h;rw [Nat.mul_add] at this;constructor
   ·intro;omega
   ·intro h2;split at h2 <;> omega
 by_cases h:A+p*x<B+p*y
 ·rw [if_pos h,if_pos (key.1 h)]
 ·rw [if_neg h,if_neg (fun h2=>h (key.2 h2))]
theorem sub_nd (a b:Nat):nd 10 (a-b)≤nd 10 a:=zeV 10 (by decide) (Nat.sub_le _ _)
theorem div_nd (a b:Nat):nd 10 (a / b)≤nd 10 a:=zeV 10 (by decide) (Nat.div_le_self _ _)
end Cs
end
section
open Go Go.RowKit Cs
namespace Go.Proofs.YtmhllppjcilllaaGreatDoor
theorem zbc (a:ByteArray):a.toList=a.data.toList:=by simp [ByteArray.toList_eq]
theorem zj9 {a b:ByteArray} (h:a≠b):(a.toList==b.toList)=false:=beq_eq_false_iff_ne.2 fun e=>h (by
 rw [zbc,zbc] at e;apply ByteArray.ext;apply Array.ext';exact e)
theorem zke (w:World) (a b:ByteArray) (h:a.size<b.size):Calls Tryz.prog 170 #[.string a,.string b] w fun e w'=>e = .returned (.int .i64 (-1))∧w=w':=by
 go_enter Tryz.func170, Tryz.ntmps170;go_wp2;go_ret;exact ⟨rfl,rfl⟩
theorem rcmp_eq (w:World) (a:ByteArray) (hl:Op.bytesLess a.toList a.toList=false):Calls Tryz.prog 170 #[.string a,.string a] w fun e w'=>e = .returned (.int .i64 0)∧w=w':=by
 go_enter Tryz.func170, Tryz.ntmps170;go_wp2;go_ret;exact ⟨rfl,rfl⟩
theorem xN (w:World) (a b:ByteArray) (h:b.size<a.size) (hne:a≠b):Calls Tryz.prog 170 #[.string a,.string b] w fun e w'=>e = .returned (.int .i64 1)∧w=w':=by
 have hne2:=zj9 hne;have h1:decide (a.size<b.size)=false:=decide_eq_false (by omega);have h2:((a.size:Int)==(b.size:Int))=false:=beq_eq_false_iff_ne.2 (by omega);clear hne;go_enter Tryz.func170, Tryz.ntmps170;go_wp2;go_ret;exact ⟨rfl,rfl⟩
theorem rcmp_gt (w:World) (a b:ByteArray) (h:a.size=b.size) (hl:Op.bytesLess a.toList b.toList=false) (hne:a≠b):Calls Tryz.prog 170 #[.string a,.string b] w fun e w'=>e = .returned (.int .i64 1)∧w=w':=by
 have hne2:=zj9 hne;clear hne;have hi:a.size≤b.size:=by omega
 have hj:b.size≤a.size:=by omega
 clear h;go_enter Tryz.func170, Tryz.ntmps170;go_wp2;go_ret;exact ⟨rfl,rfl⟩
theorem zjd (w:World) (a b:Nat):Calls Tryz.prog 170 #[.string (zc a),.string (zc b)] w fun e w'=>e = .returned (.int .i64 (qv a b))∧w=w':=by
 rcases Nat.lt_trichotomy (zz a) (zz b) with h | h | h
 ·have hlt:a<b:=Nat.lt_of_not_le fun h2=>by have:=oU h2;omega
  unfold qv;rw [if_pos hlt];exact zke w _ _ (by rw [qS,qS];exact h)
 ·have hs:(zc a).size=(zc b).size:=by rw [qS,qS];exact h
  have hl:=zjx a b h;rw [← zbc,← zbc] at hl;rcases Nat.lt_trichotomy a b with h1 | h1 | h1
  ·unfold qv;rw [if_pos h1];exact gz w _ _ hs (by rw [hl];exact decide_eq_true h1)
  ·subst h1;unfold qv;rw [if_neg (Nat.lt_irrefl _),if_pos rfl];exact rcmp_eq w _ (by rw [hl];exact decide_eq_false (Nat.lt_irrefl _))
  ·unfold qv;rw [if_neg (by omega),if_neg (by omega)];exact rcmp_gt w _ _ hs (by rw [hl];exact decide_eq_false (by omega)) (fun e=>by have:=zdv e;omega)
 ·have hlt:b<a:=Nat.lt_of_not_le fun h2=>by have:=oU h2;omega
  unfold qv;rw [if_neg (by omega),if_neg (by omega)];exact xN w _ _ (by rw [qS,qS];exact h) (fun e=>by have:=zdv e;omega)
end Go.Proofs.YtmhllppjcilllaaGreatDoor
end
section
open Go Go.RowKit Cs
namespace Cs
theorem half_dg (a i:Nat):(10*(a / 10^(i+1)%2)+dg 10 a i) / 2=dg 10 (a / 2) i∧(10*(a / 10^(i+1)%2)+dg 10 a i)%2=a / 10^i%2:=by
 have e1:a / 10^(i+1)=a / 10^i / 10:=by rw [Nat.pow_succ,Nat.div_div_eq_div_mul]
 have e2:a / 2 / 10^i=a / 10^i / 2:=by rw [Nat.div_div_eq_div_mul,Nat.div_div_eq_div_mul,Nat.mul_comm]
 unfold dg;rw [e1,e2];generalize a / 10^i=x;omega
theorem nd2_half (a:Nat) (h:a≠0):nd 2 a=nd 2 (a / 2)+1:=by
 rw [zfK 2 a (by decide) (by omega),Nat.add_comm]
theorem zfa (a:Nat):a<10^zz a:=Nat.lt_of_lt_of_le (jS 10 a (by decide)) (Nat.pow_le_pow_right (by decide) (pQ a))
theorem zio (a m:Nat) (ha:zz a≤m):nd 2 a≤4*m:=by
 refine (yg 2 (by decide) _ _).2 ?_;refine Nat.lt_of_lt_of_le (zfa a) ?_;refine Nat.le_trans (Nat.pow_le_pow_left (show 10≤2^4 by decide) _) ?_;rw [← Nat.pow_mul];exact Nat.pow_le_pow_right (by decide) (by omega)
end Cs
namespace Go.Proofs.YtmhllppjcilllaaGreatDoor
theorem rsub_any (w:World) (a b:Nat) (ha:zz a≤10000000) (hb:zz b≤10000000) (hab:b≤a) :
  Calls Tryz.prog 171 #[.string (zc a),.string (zc b)] w fun e w'=>e = .returned (.tuple #[.string (zc (a-b)),.bool true])∧Below w.heap.size w w':=by
 obtain ⟨ti,hi,hz0,hz1,hz2⟩:=info_parts zdc;have hsa:=qS a;have hna:=pQ a;have h1a:=ze9 a;have hda:=fun W i hi=>zb5 W a i (by omega) hi;have hdb:=fun W i hi=>zb5 W b i (by omega) hi;have hcm:=fun W=>zjd W a b;have hM:decide (qv a b<0)=false:=decide_eq_false (by unfold qv;split <;> (try split) <;> omega);have hfm:=fun W A n cap h0 h1 h2 h3=>zdd W A n cap (a-b) h0 h1 h2 h3;have hnd:=sub_nd a b;obtain ⟨M,hM'⟩:∃ M,qv a b=M:=⟨_,rfl⟩;rw [hM'] at hcm hM;obtain ⟨sa,hsa'⟩:∃ s,s=zc a:=⟨_,rfl⟩;obtain ⟨sb,hsb'⟩:∃ s,s=zc b:=⟨_,rfl⟩;rw [← hsa'] at hsa hda hcm ⊢;rw [← hsb'] at hdb hcm ⊢;clear hsa' hsb' hM';have HDA:=zb hda;have HDB:=zb hdb;have HF:=zb hfm;have HCM:=zb hcm;clear hda hdb hfm hcm;have hza:sa.size≤10000000:=by omega
 have hz1a:1≤sa.size:=by omega
 have hna':nd 10 (a-b)≤sa.size:=by omega
 clear ha hb hsa hna h1a hnd;go_enter Tryz.func171, Tryz.ntmps171;go_wp2_with (go_at_call 170;(with_reducible refine (HCM.out _).mono ?_);rintro e w' ⟨rfl,rfl⟩)
 go_loopw [6,7,8,9] (fun l c i d wr=>∃ k:Nat,k≤sa.size∧i = .int .i64 k∧c = .int .i64 (jf a b k)∧wr.ownsRow w.heap.size 3 1 l k (dgi (a-b) k)∧Below w.heap.size w wr)
  (fun _ _ i _ _=>sa.size-(intOf i).toNat)
 case atStart=>exact ⟨0,by omega,rfl,by rw [brw_zero];rfl,World.ownsRow_nil _ _ _ _,zx _ _⟩
 case round =>
  obtain ⟨k,hk,rfl,rfl,hown,hbel⟩:=hrel;have hszw:=hbel.size;have hc1:=brw_le a b k;have da:=yS a k;have db:=yS b k;have hdg:=sub_dg a b k hab;have hcs:=brw_succ a b k;have hlt0:∀ k,u6.ownBlock=some k→w.heap.size≤k:=fun k hk=>(hown.lt k hk).1;rcases Nat.lt_or_ge k sa.size with h1 | h1
  ·rcases Nat.lt_or_ge (dg 10 a k) (dg 10 b k+jf a b k) with h2 | h2
   ·rw [if_pos h2] at hcs;have X1:Hid ((dg 10 a k:Int)-(dg 10 b k:Int)-(jf a b k:Int)+10=((dg 10 (a-b) k:Nat):Int)):=by
     show _=_;omega
    have HCS:=zb hcs;have h3:decide ((dg 10 a k:Int)-(dg 10 b k:Int)-(jf a b k:Int)<0)=true:=decide_eq_true (by omega);clear hcs hdg h2;go_wp2_with (first
     | (go_at_call 155;(with_reducible refine (HDA.out _ k (by omega)).mono ?_);rintro e w' ⟨rfl,rfl⟩)
     | (go_at_call 155;(with_reducible refine (HDB.out _ k (by omega)).mono ?_);rintro e w' ⟨rfl,rfl⟩)
     | (at_builtin;go_loud (refine wpList_append_own _ rfl _ _ 26 rfl w.heap.size 3 ti (.int .i64 0) 1 8 Tryz.underlying26 hi hz0 hz1 hz2 rfl (by decide) _ _ _ rfl (hown.alloc _) ⟨wr.heap.size,0,none⟩ 1 1 [.int .i64 ((dg 10 a k:Int)-(dg 10 b k:Int)-(jf a b k:Int)+10)] rfl rfl pM zeU (by unfold maxLen;omega) (by omega) (by simp;omega) ?_);intro v3 w3 hown3 hgr3 _))
    have hbel3:=(hbel.alloc hbel.size _).grown hgr3 (by simp;omega) (fun k e=>hlt0 k e);rw [X1.out,← ze6] at hown3;go_roundw
    case rel=>exact ⟨k+1,by omega,by go_num,by rw [HCS.out];rfl,hown3,hbel3⟩
    case measure=>simp [intOf];omega
   ·rw [if_neg (by omega)] at hcs;have X1:Hid ((dg 10 a k:Int)-(dg 10 b k:Int)-(jf a b k:Int)=((dg 10 (a-b) k:Nat):Int)):=by
     show _=_;omega
    have HCS:=zb hcs;have h3:decide ((dg 10 a k:Int)-(dg 10 b k:Int)-(jf a b k:Int)<0)=false:=decide_eq_false (by omega);clear hcs hdg h2;go_wp2_with (first
     | (go_at_call 155;(with_reducible refine (HDA.out _ k (by omega)).mono ?_);rintro e w' ⟨rfl,rfl⟩)
     | (go_at_call 155;(with_reducible refine (HDB.out _ k (by omega)).mono ?_);rintro e w' ⟨rfl,rfl⟩)
     | (at_builtin;go_loud (refine wpList_append_own _ rfl _ _ 26 rfl w.heap.size 3 ti (.int .i64 0) 1 8 Tryz.underlying26 hi hz0 hz1 hz2 rfl (by decide) _ _ _ rfl (hown.alloc _) ⟨wr.heap.size,0,none⟩ 1 1 [.int .i64 ((dg 10 a k:Int)-(dg 10 b k:Int)-(jf a b k:Int))] rfl rfl pM zeU (by unfold maxLen;omega) (by omega) (by simp;omega) ?_);intro v3 w3 hown3 hgr3 _))
    have hbel3:=(hbel.alloc hbel.size _).grown hgr3 (by simp;omega) (fun k e=>hlt0 k e);rw [X1.out,← ze6] at hown3;go_roundw
    case rel=>exact ⟨k+1,by omega,by go_num,by rw [HCS.out];rfl,hown3,hbel3⟩
    case measure=>simp [intOf];omega
  ·obtain rfl:k=sa.size:=by omega
   obtain ⟨go',cp,rfl,hgo1,hgo2⟩:=yX hown (by omega);have hrd:Rd wr wr.heap.size (some ⟨go',0,none⟩) sa.size (yk (a-b)):=Rd.of_own hown fun i hi=>ziy _ _ _ hi;have HR:=zb hrd;have HNA:=zb hna';clear hrd hown hdg hcs hna';go_wp2_with (go_at_call 148;(with_reducible refine (HF.out _ _ sa.size cp hz1a (by omega) HNA.out HR.out).mono ?_);rintro e w' ⟨rfl,hb9⟩)
   go_ret2;exact ⟨rfl,zw hbel hb9 hszw⟩
theorem xK (w:World) (a:Nat) (ha:zz a≤10000000) :
  Calls Tryz.prog 164 #[.string (zc a)] w fun e w'=>e = .returned (.string (zc (a / 2)))∧Below w.heap.size w w':=by
 have hsa:=qS a;have hna:=pQ a;have h1a:=ze9 a;have hda:=fun W i hi=>zb5 W a i (by omega) hi;have hfm:=fun W A n cap h0 h1 h2 h3=>zdd W A n cap (a / 2) h0 h1 h2 h3;have hnd:=div_nd a 2;have hz2:a / 10^zz a=0:=Nat.div_eq_of_lt (zfa a);obtain ⟨sa,hsa'⟩:∃ s,s=zc a:=⟨_,rfl⟩;rw [← hsa'] at hsa hda ⊢;rw [← hsa] at hz2;clear hsa';have hmk:=zie sa.size (by omega);have HDA:=zb hda;have HF:=zb hfm;have HZ2:=zb hz2;clear hda hfm hz2;have hza:sa.size≤10000000:=by omega
 have hz1a:1≤sa.size:=by omega
 have hna':nd 10 (a / 2)≤sa.size:=by omega
 have HNA:=zb hna';clear ha hsa hna h1a hnd hna';go_enter Tryz.func164, Tryz.ntmps164;go_wp2;go_loopw [4,5,6] (fun r i d wr=>∃ k:Nat,k≤sa.size∧i = .int .i64 ((k:Int)-1)∧r = .int .i64 ((a / 10^k%2:Nat):Int)∧wr.rowIs w.heap.size 3 sa.size (fun j=>if k≤j then yk (a / 2) j else .int .i64 0)∧Below w.heap.size w wr)
  (fun _ i _ _=>(intOf i+1).toNat)
 case atStart=>exact ⟨sa.size,zu _,rfl,by rw [HZ2.out];rfl,pS w (.int .i64 0) sa.size 3 _ rfl (fun i hi=>by rw [if_neg (by omega)]),(zx _ _).alloc (zu _) _⟩
 case round =>
  obtain ⟨k,hk,rfl,rfl,hrow,hbel⟩:=hrel;rcases Nat.eq_zero_or_pos k with h0 | h0
  ·subst h0;have hrd:Rd wr wr.heap.size (some ⟨w.heap.size,0,none⟩) sa.size (yk (a / 2)):=Rd.of_row (hrow.congr fun i hi=>by rw [if_pos (by omega)]) (zu _) hrow.lt;have HR:=zb hrd;have hbl:=hbel.size;clear hrd hmk hrow;go_wp2_with (go_at_call 148;(with_reducible refine (HF.out _ _ sa.size sa.size hz1a (by omega) HNA.out HR.out).mono ?_);rintro e w' ⟨rfl,hb9⟩)
   go_ret;exact ⟨rfl,zw hbel hb9 hbl⟩
  ·obtain ⟨m,rfl⟩:∃ m,k=m+1:=⟨k-1,by omega⟩;have da:=yS a m;obtain ⟨hd1,hd2⟩:=half_dg a m;have hcell:=hrow.cell (i:=m) (by omega);have hfr:=hrow.frozen m;have hrl:=Nat.mod_lt (a / 10^(m+1)) (show 2 > 0 by decide);have hset:=hrow.set m (yk (a / 2) m);have hset2:(wr.setCell ⟨w.heap.size,m,none⟩ (.int .i64 ((dg 10 (a / 2) m:Nat):Int))).rowIs w.heap.size 3 sa.size (fun j=>if m≤j then yk (a / 2) j else .int .i64 0):=hset.congr fun i hi=>by
    by_cases e:i=m
    ·rw [if_pos e,if_pos (by omega),e]
    ·rw [if_neg e];by_cases e2:m+1≤i
     ·rw [if_pos e2,if_pos (by omega)]
     ·rw [if_neg e2,if_neg (by omega)]
   have HS2:=zb hset2;obtain ⟨r,hr⟩:∃ r,a / 10^(m+1)%2=r:=⟨_,rfl⟩;obtain ⟨r',hr'⟩:∃ r,a / 10^m%2=r:=⟨_,rfl⟩;obtain ⟨x,hx⟩:∃ x,dg 10 a m=x:=⟨_,rfl⟩;obtain ⟨y,hy⟩:∃ y,dg 10 (a / 2) m=y:=⟨_,rfl⟩;have hd:=HDA.out;have hdm:=fun W=>hd W m (by omega);rw [hx] at hdm da hd1 hd2;rw [hr] at hd1 hd2 hrl ⊢;rw [hy] at hd1 HS2;rw [hr'] at hd2;have Y1:(10*(r:Int)+(x:Int)) / 2=(y:Int):=by omega
   have Y2:(10*(r:Int)+(x:Int))%2=(r':Int):=by omega
   have HR':=zb hr';have HDM:=zb hdm;have e0:((m:Int)+1)-1=(m:Int):=by omega
   have hcell2:wr.cell? ⟨w.heap.size,m,none⟩=some (.int .i64 0):=hcell.trans (by rw [if_neg (by omega)]);have hi1:(m:Int)<(sa.size:Int):=by omega
   have hi2:m<sa.size:=by omega
   rw [show (((m+1:Nat):Int)-1)=(m:Int) by omega];clear hd hdm hr hr' hx hy hd1 hd2 hset hset2 hcell hmk e0;go_wp2_with (go_at_call 155;(with_reducible refine (HDM.out _).mono ?_);rintro e w' ⟨rfl,rfl⟩)
   go_roundw
   case rel=>exact ⟨m,by omega,rfl,by rw [HR'.out,Y2],HS2.out,hbel.setCell (by simp) _⟩
   case measure=>simp [intOf] <;> omega
theorem ziW (w:World) (a:Nat) (ha:zz a≤10000000) :
  Calls Tryz.prog 127 #[.string (zc a)] w fun e w'=>e = .returned (.int .i64 (nd 2 a:Nat))∧Below w.heap.size w w':=by
 have hb:=zio a 10000000 ha;go_enter Tryz.func127, Tryz.ntmps127;go_wp2;go_loopw [0,3] (fun s n wr=>∃ k x:Nat,s = .string (zc x)∧n = .int .i64 k∧x≤a∧Hid (k+nd 2 x=nd 2 a)∧Below w.heap.size w wr) (fun _ n _=>nd 2 a-(intOf n).toNat)
 case atStart=>exact ⟨0,a,rfl,rfl,zu _,Nat.zero_add _,zx _ _⟩
 case round =>
  obtain ⟨k,x,rfl,rfl,hxa,HK,hbel⟩:=hrel;have h0:=zg8 x;have hk:=HK.out;by_cases hx0:x=0
  ·have hd:(zc x).toList=[48]:=h0.2 hx0;have hkk:k=nd 2 a:=by rw [hx0,zcq] at hk;omega
   have HKK:=zb hkk;clear h0 hk hkk hx0 hb ha hxa HK;generalize zc x=s at *
   go_wp2;go_ret;exact ⟨zgl (by rw [HKK.out]),hbel⟩
  ·have hd:¬ (zc x).toList=[48]:=fun h=>hx0 (h0.1 h);have hd2:((zc x).toList==[48])=false:=beq_eq_false_iff_ne.2 hd;have hhf:=fun W=>xK W x (Nat.le_trans (oU hxa) ha);have HHF:=zb hhf;have hn2:=nd2_half x hx0;have hk3:k+1≤nd 2 a:=by omega
   have HN:=zb (show (k+1)+nd 2 (x / 2)=nd 2 a by omega);have hxx:x / 2≤a:=by omega
   clear h0 hk hx0 hhf hn2 HK;generalize nd 2 a=m at *
   generalize zc x=s at *
   go_wp2_with (go_at_call 164;(with_reducible refine (HHF.out _).mono ?_);rintro e w3 ⟨rfl,hb3⟩)
   go_roundw
   case rel=>exact ⟨k+1,x / 2,rfl,by go_num,hxx,HN,zw hbel hb3 hbel.size⟩
   case measure=>simp [intOf];omega
end Go.Proofs.YtmhllppjcilllaaGreatDoor
end
