import Derived.Test.YtmhllppjcilllaaGreatDoorM1
import Derived.Test.YtmhllppjcilllaaGreatDoorRP
import Derived.Test.YtmhllppjcilllaaGreatDoorD1
import Derived.WalkMore
set_option linter.unusedSimpArgs false
set_option linter.unusedVariables false
section
set_option maxRecDepth 100000
set_option maxHeartbeats 400000
section
namespace Cs
def jg (a b i:Nat):Nat:=if a%10^i<b%10^i then 1 else 0
theorem brw_zero (a b:Nat):jg a b 0=0:=by simp [jg,Nat.mod_one]
theorem brw_le (a b i:Nat):jg a b i≤1:=by unfold jg;split <;> omega
theorem sub_div (a b p:Nat) (h:b≤a) (hp:0<p):(a-b) / p+(b / p+(if a%p<b%p then 1 else 0))=a / p:=by
 have ha:=Nat.div_add_mod a p;have hb:=Nat.div_add_mod b p;have ra:=Nat.mod_lt a hp;have rb:=Nat.mod_lt b hp;generalize hx:a / p=x at *
 generalize hy:b / p=y at *
 generalize a%p=A at *
 generalize b%p=B at *
 split
 ·rename_i hlt;have hyx:y+1≤x:=by
   refine Nat.le_of_not_lt fun h2=>?_;have:p*x≤p*y:=Nat.mul_le_mul_left _ (by omega);omega
  obtain ⟨z,rfl⟩:∃ z,x=z+(y+1):=⟨x-(y+1),by omega⟩;have e:a-b=A+p-B+p*z:=by
   rw [Nat.mul_add,Nat.mul_add] at ha;omega
  rw [e,Nat.add_mul_div_left _ _ hp,Nat.div_eq_of_lt (by omega)];omega
 ·rename_i hlt;have hyx:y≤x:=by
   refine Nat.le_of_not_lt fun h2=>?_;have:p*(x+1)≤p*y:=Nat.mul_le_mul_left _ h2;rw [Nat.mul_add] at this;omega
  obtain ⟨z,rfl⟩:∃ z,x=z+y:=⟨x-y,by omega⟩;have e:a-b=A-B+p*z:=by
   rw [Nat.mul_add] at ha;omega
  rw [e,Nat.add_mul_div_left _ _ hp,Nat.div_eq_of_lt (by omega)];omega
theorem sub_dg (a b i:Nat) (h:b≤a):(dg 10 a i+10-dg 10 b i-jg a b i)%10=dg 10 (a-b) i:=by
 have h1:=sub_div a b (10^i) h (jl i);unfold dg jg;split at h1
 ·rename_i hlt;rw [if_pos hlt];omega
 ·rename_i hlt;rw [if_neg hlt];omega
theorem brw_succ (a b i:Nat):jg a b (i+1)=if dg 10 a i<dg 10 b i+jg a b i then 1 else 0:=by
 have ha:=pT 10 a i;have hb:=pT 10 b i;have ra:=Nat.mod_lt a (jl i);have rb:=Nat.mod_lt b (jl i);unfold jg;rw [ha,hb];generalize dg 10 a i=x;generalize dg 10 b i=y;generalize 10^i=p at *
 generalize a%p=A at *
 generalize b%p=B at *
 have key:A+p*x<B+p*y↔x<y+(if A<B then 1 else 0):=by
  rcases Nat.lt_trichotomy x y with h | h | h
  ·have:p*(x+1)≤p*y:=Nat.mul_le_mul_left _ h;rw [Nat.mul_add] at this;constructor
   ·intro;split <;> omega
   ·intro;omega
  ·subst h;constructor
   ·intro h;rw [if_pos (by omega)];omega
   ·intro h;split at h <;> omega
  ·have:p*(y+1)≤p*x:=Nat.mul_le_mul_left _ h;rw [Nat.mul_add] at this;constructor
   ·intro;omega
   ·intro h2;split at h2 <;> omega
 by_cases h:A+p*x<B+p*y
 ·rw [if_pos h,if_pos (key.1 h)]
 ·rw [if_neg h,if_neg (fun h2=>h (key.2 h2))]
theorem sub_nd (a b:Nat):nd 10 (a-b)≤nd 10 a:=zeS 10 (by decide) (Nat.sub_le _ _)
theorem div_nd (a b:Nat):nd 10 (a / b)≤nd 10 a:=zeS 10 (by decide) (Nat.div_le_self _ _)
end Cs
end
section
open Go Go.RowKit Cs
namespace Go.Proofs.YtmhllppjcilllaaGreatDoor
theorem zbn (a:ByteArray):a.toList=a.data.toList:=by simp [ByteArray.toList_eq]
theorem zjH {a b:ByteArray} (h:a≠b):(a.toList==b.toList)=false:=beq_eq_false_iff_ne.2 fun e=>h (by
 rw [zbn,zbn] at e;apply ByteArray.ext;apply Array.ext';exact e)
theorem zki (w:World) (a b:ByteArray) (h:a.size<b.size):Calls Tryz.prog 170 #[.string a,.string b] w fun e w'=>e = .returned (.int .i64 (-1))∧w=w':=by
 go_enter Tryz.func170, Tryz.ntmps170;go_wp2;go_ret;exact ⟨rfl,rfl⟩
theorem rcmp_eq (w:World) (a:ByteArray) (hl:Op.bytesLess a.toList a.toList=false):Calls Tryz.prog 170 #[.string a,.string a] w fun e w'=>e = .returned (.int .i64 0)∧w=w':=by
 go_enter Tryz.func170, Tryz.ntmps170;go_wp2;go_ret;exact ⟨rfl,rfl⟩
theorem xD (w:World) (a b:ByteArray) (h:b.size<a.size) (hne:a≠b):Calls Tryz.prog 170 #[.string a,.string b] w fun e w'=>e = .returned (.int .i64 1)∧w=w':=by
 have hne2:=zjH hne;have h1:decide (a.size<b.size)=false:=decide_eq_false (by omega);have h2:((a.size:Int)==(b.size:Int))=false:=beq_eq_false_iff_ne.2 (by omega);clear hne;go_enter Tryz.func170, Tryz.ntmps170;go_wp2;go_ret;exact ⟨rfl,rfl⟩
theorem rcmp_gt (w:World) (a b:ByteArray) (h:a.size=b.size) (hl:Op.bytesLess a.toList b.toList=false) (hne:a≠b):Calls Tryz.prog 170 #[.string a,.string b] w fun e w'=>e = .returned (.int .i64 1)∧w=w':=by
 have hne2:=zjH hne;clear hne;have hi:a.size≤b.size:=by omega
 have hj:b.size≤a.size:=by omega
 clear h;go_enter Tryz.func170, Tryz.ntmps170;go_wp2;go_ret;exact ⟨rfl,rfl⟩
theorem ziV (w:World) (a b:Nat):Calls Tryz.prog 170 #[.string (zl a),.string (zl b)] w fun e w'=>e = .returned (.int .i64 (qg a b))∧w=w':=by
 rcases Nat.lt_trichotomy (zA a) (zA b) with h | h | h
 ·have hlt:a<b:=Nat.lt_of_not_le fun h2=>by have:=zbm h2;omega
  unfold qg;rw [if_pos hlt];exact zki w _ _ (by rw [qZ,qZ];exact h)
 ·have hs:(zl a).size=(zl b).size:=by rw [qZ,qZ];exact h
  have hl:=less_dec a b h;rw [← zbn,← zbn] at hl;rcases Nat.lt_trichotomy a b with h1 | h1 | h1
  ·unfold qg;rw [if_pos h1];exact rcmp_lt w _ _ hs (by rw [hl];exact decide_eq_true h1)
  ·subst h1;unfold qg;rw [if_neg (Nat.lt_irrefl _),if_pos rfl];exact rcmp_eq w _ (by rw [hl];exact decide_eq_false (Nat.lt_irrefl _))
  ·unfold qg;rw [if_neg (by omega),if_neg (by omega)];exact rcmp_gt w _ _ hs (by rw [hl];exact decide_eq_false (by omega)) (fun e=>by have:=zeb e;omega)
 ·have hlt:b<a:=Nat.lt_of_not_le fun h2=>by have:=zbm h2;omega
  unfold qg;rw [if_neg (by omega),if_neg (by omega)];exact xD w _ _ (by rw [qZ,qZ];exact h) (fun e=>by have:=zeb e;omega)
end Go.Proofs.YtmhllppjcilllaaGreatDoor
end
section
open Go Go.RowKit Cs
namespace Cs
theorem half_dg (a i:Nat):(10*(a / 10^(i+1)%2)+dg 10 a i) / 2=dg 10 (a / 2) i∧(10*(a / 10^(i+1)%2)+dg 10 a i)%2=a / 10^i%2:=by
 have e1:a / 10^(i+1)=a / 10^i / 10:=by rw [Nat.pow_succ,Nat.div_div_eq_div_mul]
 have e2:a / 2 / 10^i=a / 10^i / 2:=by rw [Nat.div_div_eq_div_mul,Nat.div_div_eq_div_mul,Nat.mul_comm]
 unfold dg;rw [e1,e2];generalize a / 10^i=x;omega
theorem nd2_half (a:Nat) (h:a≠0):nd 2 a=nd 2 (a / 2)+1:=by
 rw [zfG 2 a (by decide) (by omega),Nat.add_comm]
theorem zeW (a:Nat):a<10^zA a:=Nat.lt_of_lt_of_le (jX 10 a (by decide)) (Nat.pow_le_pow_right (by decide) (pV a))
theorem nd2_dec (a m:Nat) (ha:zA a≤m):nd 2 a≤4*m:=by
 refine (yj 2 (by decide) _ _).2 ?_;refine Nat.lt_of_lt_of_le (zeW a) ?_;refine Nat.le_trans (Nat.pow_le_pow_left (show 10≤2^4 by decide) _) ?_;rw [← Nat.pow_mul];exact Nat.pow_le_pow_right (by decide) (by omega)
end Cs
namespace Go.Proofs.YtmhllppjcilllaaGreatDoor
theorem rsub_any (w:World) (a b:Nat) (ha:zA a≤10000000) (hb:zA b≤10000000) (hab:b≤a) :
  Calls Tryz.prog 171 #[.string (zl a),.string (zl b)] w fun e w'=>e = .returned (.tuple #[.string (zl (a-b)),.bool true])∧Below w.heap.size w w':=by
 obtain ⟨ti,hi,hz0,hz1,hz2⟩:=info_parts zda;have hsa:=qZ a;have hna:=pV a;have h1a:=ze7 a;have hda:=fun W i hi=>zb0 W a i (by omega) hi;have hdb:=fun W i hi=>zb0 W b i (by omega) hi;have hcm:=fun W=>ziV W a b;have hM:decide (qg a b<0)=false:=decide_eq_false (by unfold qg;split <;> (try split) <;> omega);have hfm:=fun W A n cap h0 h1 h2 h3=>zdb W A n cap (a-b) h0 h1 h2 h3;have hnd:=sub_nd a b;obtain ⟨M,hM'⟩:∃ M,qg a b=M:=⟨_,rfl⟩;rw [hM'] at hcm hM;obtain ⟨sa,hsa'⟩:∃ s,s=zl a:=⟨_,rfl⟩;obtain ⟨sb,hsb'⟩:∃ s,s=zl b:=⟨_,rfl⟩;rw [← hsa'] at hsa hda hcm ⊢;rw [← hsb'] at hdb hcm ⊢;clear hsa' hsb' hM';have HDA:=zc hda;have HDB:=zc hdb;have HF:=zc hfm;have HCM:=zc hcm;clear hda hdb hfm hcm;have hza:sa.size≤10000000:=by omega
 have hz1a:1≤sa.size:=by omega
 have hna':nd 10 (a-b)≤sa.size:=by omega
 clear ha hb hsa hna h1a hnd;go_enter Tryz.func171, Tryz.ntmps171;go_wp2_with (go_at_call 170;(with_reducible refine (HCM.out _).mono ?_);rintro e w' ⟨rfl,rfl⟩)
 go_loopw [6,7,8,9] (fun l c i d wr=>∃ k:Nat,k≤sa.size∧i = .int .i64 k∧c = .int .i64 (jg a b k)∧wr.ownsRow w.heap.size 3 1 l k (dgi (a-b) k)∧Below w.heap.size w wr)
  (fun _ _ i _ _=>sa.size-(intOf i).toNat)
 case atStart=>exact ⟨0,by omega,rfl,by rw [brw_zero];rfl,World.ownsRow_nil _ _ _ _,zy _ _⟩
 case round =>
  obtain ⟨k,hk,rfl,rfl,hown,hbel⟩:=hrel;have hszw:=hbel.size;have hc1:=brw_le a b k;have da:=yY a k;have db:=yY b k;have hdg:=sub_dg a b k hab;have hcs:=brw_succ a b k;have hlt0:∀ k,u6.ownBlock=some k→w.heap.size≤k:=fun k hk=>(hown.lt k hk).1;rcases Nat.lt_or_ge k sa.size with h1 | h1
  ·rcases Nat.lt_or_ge (dg 10 a k) (dg 10 b k+jg a b k) with h2 | h2
   ·rw [if_pos h2] at hcs;have X1:Hid ((dg 10 a k:Int)-(dg 10 b k:Int)-(jg a b k:Int)+10=((dg 10 (a-b) k:Nat):Int)):=by
     show _=_;omega
    have HCS:=zc hcs;have h3:decide ((dg 10 a k:Int)-(dg 10 b k:Int)-(jg a b k:Int)<0)=true:=decide_eq_true (by omega);clear hcs hdg h2;go_wp2_with (first
     | (go_at_call 155;(with_reducible refine (HDA.out _ k (by omega)).mono ?_);rintro e w' ⟨rfl,rfl⟩)
     | (go_at_call 155;(with_reducible refine (HDB.out _ k (by omega)).mono ?_);rintro e w' ⟨rfl,rfl⟩)
     | (at_builtin;go_loud (refine wpList_append_own _ rfl _ _ 26 rfl w.heap.size 3 ti (.int .i64 0) 1 8 Tryz.underlying26 hi hz0 hz1 hz2 rfl (by decide) _ _ _ rfl (hown.alloc _) ⟨wr.heap.size,0,none⟩ 1 1 [.int .i64 ((dg 10 a k:Int)-(dg 10 b k:Int)-(jg a b k:Int)+10)] rfl rfl zeR zeQ (by unfold maxLen;omega) (by omega) (by simp;omega) ?_);intro v3 w3 hown3 hgr3 _))
    have hbel3:=(hbel.alloc hbel.size _).grown hgr3 (by simp;omega) (fun k e=>hlt0 k e);rw [X1.out,← ze5] at hown3;go_roundw
    case rel=>exact ⟨k+1,by omega,by go_num,by rw [HCS.out];rfl,hown3,hbel3⟩
    case measure=>simp [intOf];omega
   ·rw [if_neg (by omega)] at hcs;have X1:Hid ((dg 10 a k:Int)-(dg 10 b k:Int)-(jg a b k:Int)=((dg 10 (a-b) k:Nat):Int)):=by
     show _=_;omega
    have HCS:=zc hcs;have h3:decide ((dg 10 a k:Int)-(dg 10 b k:Int)-(jg a b k:Int)<0)=false:=decide_eq_false (by omega);clear hcs hdg h2;go_wp2_with (first
     | (go_at_call 155;(with_reducible refine (HDA.out _ k (by omega)).mono ?_);rintro e w' ⟨rfl,rfl⟩)
     | (go_at_call 155;(with_reducible refine (HDB.out _ k (by omega)).mono ?_);rintro e w' ⟨rfl,rfl⟩)
     | (at_builtin;go_loud (refine wpList_append_own _ rfl _ _ 26 rfl w.heap.size 3 ti (.int .i64 0) 1 8 Tryz.underlying26 hi hz0 hz1 hz2 rfl (by decide) _ _ _ rfl (hown.alloc _) ⟨wr.heap.size,0,none⟩ 1 1 [.int .i64 ((dg 10 a k:Int)-(dg 10 b k:Int)-(jg a b k:Int))] rfl rfl zeR zeQ (by unfold maxLen;omega) (by omega) (by simp;omega) ?_);intro v3 w3 hown3 hgr3 _))
    have hbel3:=(hbel.alloc hbel.size _).grown hgr3 (by simp;omega) (fun k e=>hlt0 k e);rw [X1.out,← ze5] at hown3;go_roundw
    case rel=>exact ⟨k+1,by omega,by go_num,by rw [HCS.out];rfl,hown3,hbel3⟩
    case measure=>simp [intOf];omega
  ·obtain rfl:k=sa.size:=by omega
   obtain ⟨go',cp,rfl,hgo1,hgo2⟩:=zb6 hown (by omega);have hrd:Rd wr wr.heap.size (some ⟨go',0,none⟩) sa.size (yr (a-b)):=Rd.of_own hown fun i hi=>zi3 _ _ _ hi;have HR:=zc hrd;have HNA:=zc hna';clear hrd hown hdg hcs hna';go_wp2_with (go_at_call 148;(with_reducible refine (HF.out _ _ sa.size cp hz1a (by omega) HNA.out HR.out).mono ?_);rintro e w' ⟨rfl,hb9⟩)
   go_ret2;exact ⟨rfl,zx hbel hb9 hszw⟩
theorem xC (w:World) (a:Nat) (ha:zA a≤10000000) :
  Calls Tryz.prog 164 #[.string (zl a)] w fun e w'=>e = .returned (.string (zl (a / 2)))∧Below w.heap.size w w':=by
 have hsa:=qZ a;have hna:=pV a;have h1a:=ze7 a;have hda:=fun W i hi=>zb0 W a i (by omega) hi;have hfm:=fun W A n cap h0 h1 h2 h3=>zdb W A n cap (a / 2) h0 h1 h2 h3;have hnd:=div_nd a 2;have hz2:a / 10^zA a=0:=Nat.div_eq_of_lt (zeW a);obtain ⟨sa,hsa'⟩:∃ s,s=zl a:=⟨_,rfl⟩;rw [← hsa'] at hsa hda ⊢;rw [← hsa] at hz2;clear hsa';have hmk:=zim sa.size (by omega);have HDA:=zc hda;have HF:=zc hfm;have HZ2:=zc hz2;clear hda hfm hz2;have hza:sa.size≤10000000:=by omega
 have hz1a:1≤sa.size:=by omega
 have hna':nd 10 (a / 2)≤sa.size:=by omega
 have HNA:=zc hna';clear ha hsa hna h1a hnd hna';go_enter Tryz.func164, Tryz.ntmps164;go_wp2;go_loopw [4,5,6] (fun r i d wr=>∃ k:Nat,k≤sa.size∧i = .int .i64 ((k:Int)-1)∧r = .int .i64 ((a / 10^k%2:Nat):Int)∧wr.rowIs w.heap.size 3 sa.size (fun j=>if k≤j then yr (a / 2) j else .int .i64 0)∧Below w.heap.size w wr)
  (fun _ i _ _=>(intOf i+1).toNat)
 case atStart=>exact ⟨sa.size,zv _,rfl,by rw [HZ2.out];rfl,oX w (.int .i64 0) sa.size 3 _ rfl (fun i hi=>by rw [if_neg (by omega)]),(zy _ _).alloc (zv _) _⟩
 case round =>
  obtain ⟨k,hk,rfl,rfl,hrow,hbel⟩:=hrel;rcases Nat.eq_zero_or_pos k with h0 | h0
  ·subst h0;have hrd:Rd wr wr.heap.size (some ⟨w.heap.size,0,none⟩) sa.size (yr (a / 2)):=Rd.of_row (hrow.congr fun i hi=>by rw [if_pos (by omega)]) (zv _) hrow.lt;have HR:=zc hrd;have hbl:=hbel.size;clear hrd hmk hrow;go_wp2_with (go_at_call 148;(with_reducible refine (HF.out _ _ sa.size sa.size hz1a (by omega) HNA.out HR.out).mono ?_);rintro e w' ⟨rfl,hb9⟩)
   go_ret;exact ⟨rfl,zx hbel hb9 hbl⟩
  ·obtain ⟨m,rfl⟩:∃ m,k=m+1:=⟨k-1,by omega⟩;have da:=yY a m;obtain ⟨hd1,hd2⟩:=half_dg a m;have hcell:=hrow.cell (i:=m) (by omega);have hfr:=hrow.frozen m;have hrl:=Nat.mod_lt (a / 10^(m+1)) (show 2 > 0 by decide);have hset:=hrow.set m (yr (a / 2) m);have hset2:(wr.setCell ⟨w.heap.size,m,none⟩ (.int .i64 ((dg 10 (a / 2) m:Nat):Int))).rowIs w.heap.size 3 sa.size (fun j=>if m≤j then yr (a / 2) j else .int .i64 0):=hset.congr fun i hi=>by
    by_cases e:i=m
    ·rw [if_pos e,if_pos (by omega),e]
    ·rw [if_neg e];by_cases e2:m+1≤i
     ·rw [if_pos e2,if_pos (by omega)]
     ·rw [if_neg e2,if_neg (by omega)]
   have HS2:=zc hset2;obtain ⟨r,hr⟩:∃ r,a / 10^(m+1)%2=r:=⟨_,rfl⟩;obtain ⟨r',hr'⟩:∃ r,a / 10^m%2=r:=⟨_,rfl⟩;obtain ⟨x,hx⟩:∃ x,dg 10 a m=x:=⟨_,rfl⟩;obtain ⟨y,hy⟩:∃ y,dg 10 (a / 2) m=y:=⟨_,rfl⟩;have hd:=HDA.out;have hdm:=fun W=>hd W m (by omega);rw [hx] at hdm da hd1 hd2;rw [hr] at hd1 hd2 hrl ⊢;rw [hy] at hd1 HS2;rw [hr'] at hd2;have Y1:(10*(r:Int)+(x:Int)) / 2=(y:Int):=by omega
   have Y2:(10*(r:Int)+(x:Int))%2=(r':Int):=by omega
   have HR':=zc hr';have HDM:=zc hdm;have e0:((m:Int)+1)-1=(m:Int):=by omega
   have hcell2:wr.cell? ⟨w.heap.size,m,none⟩=some (.int .i64 0):=hcell.trans (by rw [if_neg (by omega)]);have hi1:(m:Int)<(sa.size:Int):=by omega
   have hi2:m<sa.size:=by omega
   rw [show (((m+1:Nat):Int)-1)=(m:Int) by omega];clear hd hdm hr hr' hx hy hd1 hd2 hset hset2 hcell hmk e0;go_wp2_with (go_at_call 155;(with_reducible refine (HDM.out _).mono ?_);rintro e w' ⟨rfl,rfl⟩)
   go_roundw
   case rel=>exact ⟨m,by omega,rfl,by rw [HR'.out,Y2],HS2.out,hbel.setCell (by simp) _⟩
   case measure=>simp [intOf] <;> omega
theorem rlen_any (w:World) (a:Nat) (ha:zA a≤10000000) :
  Calls Tryz.prog 127 #[.string (zl a)] w fun e w'=>e = .returned (.int .i64 (nd 2 a:Nat))∧Below w.heap.size w w':=by
 have hb:=nd2_dec a 10000000 ha;go_enter Tryz.func127, Tryz.ntmps127;go_wp2;go_loopw [0,3] (fun s n wr=>∃ k x:Nat,s = .string (zl x)∧n = .int .i64 k∧x≤a∧Hid (k+nd 2 x=nd 2 a)∧Below w.heap.size w wr) (fun _ n _=>nd 2 a-(intOf n).toNat)
 case atStart=>exact ⟨0,a,rfl,rfl,zv _,Nat.zero_add _,zy _ _⟩
 case round =>
  obtain ⟨k,x,rfl,rfl,hxa,HK,hbel⟩:=hrel;have h0:=zgB x;have hk:=HK.out;by_cases hx0:x=0
  ·have hd:(zl x).toList=[48]:=h0.2 hx0;have hkk:k=nd 2 a:=by rw [hx0,zcn] at hk;omega
   have HKK:=zc hkk;clear h0 hk hkk hx0 hb ha hxa HK;generalize zl x=s at *
   go_wp2;go_ret;exact ⟨zgm (by rw [HKK.out]),hbel⟩
  ·have hd:¬ (zl x).toList=[48]:=fun h=>hx0 (h0.1 h);have hd2:((zl x).toList==[48])=false:=beq_eq_false_iff_ne.2 hd;have hhf:=fun W=>xC W x (Nat.le_trans (zbm hxa) ha);have HHF:=zc hhf;have hn2:=nd2_half x hx0;have hk3:k+1≤nd 2 a:=by omega
   have HN:=zc (show (k+1)+nd 2 (x / 2)=nd 2 a by omega);have hxx:x / 2≤a:=by omega
   clear h0 hk hx0 hhf hn2 HK;generalize nd 2 a=m at *
   generalize zl x=s at *
   go_wp2_with (go_at_call 164;(with_reducible refine (HHF.out _).mono ?_);rintro e w3 ⟨rfl,hb3⟩)
   go_roundw
   case rel=>exact ⟨k+1,x / 2,rfl,by go_num,hxx,HN,zx hbel hb3 hbel.size⟩
   case measure=>simp [intOf];omega
end Go.Proofs.YtmhllppjcilllaaGreatDoor
end
end
section
set_option maxRecDepth 100000
set_option maxHeartbeats 4000000
section
open Go Go.RowKit Cs
namespace Go.Proofs.YtmhllppjcilllaaGreatDoor
theorem form_nil (w:World):Calls Tryz.prog 148 #[.slice none 0 0] w fun e w'=>e = .returned (.string (zl 0))∧Below w.heap.size w w':=by
 obtain ⟨ti,hi,hz0,hz1,hz2⟩:=info_parts zdY;have hz:=zc5;rw [hz];have hmk:∀ u:World,(Instr.makeSlice 139 (.int .i64 0) (.int .i64 0)).run Tryz.prog u = .ok (.slice (some ⟨u.heap.size,0,none⟩) 0 0) (u.alloc (.cells (madeCells #[.int .u8 0] 0) 5)):=fun u =>
  run_make_row 139 5 ti (.int .u8 0) Tryz.underlying139 hi hz0 hz1 rfl .i64 .i64 0 (by rw [hz2];omega) (by omega) u
 go_enter Tryz.func148, Tryz.ntmps148;go_wp2_with fail
 go_loop [3] (fun t=>t = .int .i64 0) (fun _=>0)
 case atStart=>rfl
 case round =>
  subst hrel;go_wp2_with fail
  go_loopw [4,5] (fun o i wr=>o = .slice (some ⟨w.heap.size,0,none⟩) 0 0∧i = .int .i64 (-1)∧Below w.heap.size w wr) (fun _ _ _=>0)
  case atStart=>exact ⟨rfl,rfl,(zy _ _).alloc (zv _) _⟩
  case round =>
   obtain ⟨rfl,rfl,hbel⟩:=hrel;go_wp2_with fail
   go_ret;exact ⟨rfl,hbel⟩
theorem zik (w:World) (V:Nat) (hV:V<18446744073709551616):Calls Tryz.prog 109 #[.int .u64 (V:Int)] w fun e w'=>e = .returned (.string (zl V))∧Below w.heap.size w w':=by
 obtain ⟨ti,hi,hz0,hz1,hz2⟩:=info_parts zda;have hfm:=fun W A n cap h0 h1 h2 h3=>zdb W A n cap V h0 h1 h2 h3;have hn20:nd 10 V≤20:=(zbF V 20).2 (Nat.lt_of_lt_of_le hV (by decide));have HF:=zc hfm;clear hfm;go_enter Tryz.func109, Tryz.ntmps109;go_wp2;go_loopw [0,3] (fun x l wr=>∃ k:Nat,k≤nd 10 V∧x = .int .u64 ((V / 10^k:Nat):Int)∧wr.ownsRow w.heap.size 3 1 l k (dgi V k)∧(k=0→l = .slice none 0 0)∧Below w.heap.size w wr)
  (fun x _ _=>(intOf x).toNat)
 case atStart=>exact ⟨0,Nat.zero_le _,by rw [Nat.pow_zero,Nat.div_one],World.ownsRow_nil _ _ _ _,fun _=>rfl,zy _ _⟩
 case round =>
  obtain ⟨k,hk,rfl,hown,hnil,hbel⟩:=hrel;have hszw:=hbel.size;obtain ⟨Q,hQ⟩:∃ Q,V / 10^k=Q:=⟨_,rfl⟩;have hQ1:V / 10^(k+1)=Q / 10:=by rw [Nat.pow_succ,← Nat.div_div_eq_div_mul,hQ]
  have hQ2:dg 10 V k=Q%10:=by unfold dg;rw [hQ]
  have hQV:Q≤V:=by rw [← hQ];exact Nat.div_le_self _ _
  rcases Nat.eq_zero_or_pos Q with h0 | h0
  ·have hk2:nd 10 V≤k:=by
    rw [zbF];rw [h0] at hQ;exact Nat.lt_of_not_le fun h=>by
     have:=Nat.div_pos h (Nat.pow_pos (show 0<10 by decide));omega
   obtain rfl:k=nd 10 V:=by omega
   rw [hQ,h0];rcases Nat.eq_zero_or_pos (nd 10 V) with hz | hz
   ·have hV0:V=0:=by
     have:=(zbF V 0).1 (by omega);simpa using this
    obtain rfl:u3 = .slice none 0 0:=hnil hz;subst hV0;clear hown HF;go_wp2_with fail
    refine (form_nil _).mono ?_;rintro e w' ⟨rfl,hb9⟩;go_wp2_with fail
    go_ret;exact ⟨rfl,zx hbel hb9 hszw⟩
   ·obtain ⟨go',cp,rfl,hgo1,hgo2⟩:=zb6 hown hz;have hrd:Rd wr wr.heap.size (some ⟨go',0,none⟩) (nd 10 V) (yr V):=Rd.of_own hown fun i hi=>zi3 _ _ _ hi;have HR:=zc hrd;clear hrd hown;go_wp2_with fail
    refine (HF.out _ _ (nd 10 V) cp hz (by omega) (zv _) HR.out).mono ?_;rintro e w' ⟨rfl,hb9⟩;go_wp2_with fail
    go_ret;exact ⟨rfl,zx hbel hb9 hszw⟩
  ·have hk3:k<nd 10 V:=Nat.lt_of_not_le fun h=>by
    have:=(zbF V k).1 h;have:=Nat.div_eq_of_lt this;omega
   have hlt0:∀ k,u3.ownBlock=some k→w.heap.size≤k:=fun k hk=>(hown.lt k hk).1;rw [hQ];have e1:((Q:Int)%10)=((dg 10 V k:Nat):Int):=by rw [hQ2];omega
   have HQ1:=zc hQ1;have HE:=zc e1;clear hQ hQ1 hQ2 e1;go_wp2_with (at_builtin;go_loud (refine wpList_append_own _ rfl _ _ 26 rfl w.heap.size 3 ti (.int .i64 0) 1 8 Tryz.underlying26 hi hz0 hz1 hz2 rfl (by decide) _ _ _ rfl (hown.alloc _) ⟨wr.heap.size,0,none⟩ 1 1 [.int .i64 ((Q:Int)%10)] rfl rfl zeR zeQ (by unfold maxLen;omega) (by omega) (by simp;omega) ?_;intro v' w3 hown3 hgr3 _))
   have hbel3:=(hbel.alloc hbel.size _).grown hgr3 (by simp;omega) (fun k e=>hlt0 k e);rw [HE.out,← ze5] at hown3;exact ⟨⟨k+1,by omega,by rw [HQ1.out];simp,hown3,fun h=>absurd h (by omega),hbel3⟩,by simp [intOf];omega⟩
noncomputable def dcvN (v:Value):Nat:=open Classical in if h:∃ n,v = .string (zl n) then h.choose else 0
theorem ze6 (n:Nat):dcvN (.string (zl n))=n:=by
 have h:∃ m,Value.string (zl n) = .string (zl m):=⟨n,rfl⟩;unfold dcvN;rw [dif_pos h];have:=h.choose_spec;injection this with this;exact (zeb this).symm
theorem dec10:zl 10=⟨#[49,48]⟩:=by decide +kernel
def dvF (Q m t j:Nat):Value:=if j=m then .int .i64 (t:Int) else if m+1≤j then yr Q j else .int .i64 0
theorem zgo (w:World) (a b:Nat) (ha:zA a≤1000000) (hb:zA b≤1000000) (hb0:0<b) :
  Calls Tryz.prog 147 #[.string (zl a),.string (zl b)] w fun e w'=>e = .returned (.tuple #[.string (zl (a / b)),.string (zl (a%b)),.bool true])∧Below w.heap.size w w':=by
 have hsa:=qZ a;have hna:=pV a;have h1a:=ze7 a;have hbne:((zl b).toList==[48])=false:=beq_eq_false_iff_ne.2 fun e=>by have:=(zgB b).1 e;omega
 have hrd:∀ k,zA (rd a b k)≤1000001:=fun k=>by
  have h:rd a b k<b:=Nat.mod_lt _ hb0;have:=zbm (Nat.le_of_lt h);omega
 have hx:∀ k,zA (rd a b (k+1)*10+dg 10 a k)≤1000002:=fun k=>by
  have h:=rd_lt a b k hb0;have h2:=zbm (Nat.le_of_lt h);have h3:zA (10*b)≤1000001:=by
   refine zfb _ _ ?_ (by omega);have:=zeW b
   calc 10*b<10*10^zA b:=by omega
    _=10^(zA b+1):=by rw [Nat.pow_succ];omega
    _≤10^1000001:=Nat.pow_le_pow_right (by decide) (by omega)
  omega
 have hmu:=fun W k=>zcV W (rd a b k) 10 (by have:=hrd k;omega) (by decide +kernel);rw [dec10] at hmu;have hda:=fun W i hi=>zb0 W a i (by omega) hi;have hof:=fun W k=>zik W (dg 10 a k) (by have:=yY a k;omega);have had:=fun W k=>zgq W (rd a b (k+1)*10) (dg 10 a k) (by have:=hx k;have:=zbm (show rd a b (k+1)*10≤rd a b (k+1)*10+dg 10 a k by omega);omega) (by have:=hx k;have:=zbm (show dg 10 a k≤rd a b (k+1)*10+dg 10 a k by omega);omega);have hcm:=fun W x=>ziV W x b;have hsu:=fun W k t (h:(t+1)*b≤rd a b (k+1)*10+dg 10 a k)=>rsub_any W (rd a b (k+1)*10+dg 10 a k-t*b) b (by have:=hx k;have:=zbm (show rd a b (k+1)*10+dg 10 a k-t*b≤rd a b (k+1)*10+dg 10 a k by omega);omega) (by omega) (by rw [Nat.succ_mul] at h;omega);have hnd:=div_nd a b;have hfm:=fun W A n cap h0 h1 h2 h3=>zdb W A n cap (a / b) h0 h1 h2 h3;have hz0:rd a b (zA a)=0:=rd_top a b _ hna;obtain ⟨sa,hsa'⟩:∃ s,s=zl a:=⟨_,rfl⟩;rw [← hsa'] at hsa hda ⊢;rw [← hsa] at hz0;clear hsa';have hmk:=zim sa.size (by omega);have HMU:=zc hmu;have HDA:=zc hda;have HOF:=zc hof;have HAD:=zc had;have HCM:=zc hcm;have HSU:=zc hsu;have HF:=zc hfm;have HZ0:=zc hz0;have HZZ:=zc (show zl 0=(⟨#[48]⟩:ByteArray) from zc5);have hza:sa.size≤1000000:=by omega
 have hz1a:1≤sa.size:=by omega
 have hna':nd 10 (a / b)≤sa.size:=by omega
 have HNA:=zc hna';clear ha hb hsa hna h1a hnd hna' hmu hda hof had hcm hsu hfm hz0 hrd hx;go_enter Tryz.func147, Tryz.ntmps147;go_wp2;go_loopw [8,9] (fun r i wr=>∃ k:Nat,k≤sa.size∧i = .int .i64 ((k:Int)-1)∧r = .string (zl (rd a b k))∧wr.rowIs w.heap.size 3 sa.size (fun j=>if k≤j then yr (a / b) j else .int .i64 0)∧Below w.heap.size w wr)
  (fun _ i _=>(intOf i+1).toNat)
 case atStart=>exact ⟨sa.size,zv _,rfl,by rw [HZ0.out,HZZ.out],oX w (.int .i64 0) sa.size 3 _ rfl (fun i hi=>by rw [if_neg (by omega)]),(zy _ _).alloc (zv _) _⟩
 case round =>
  obtain ⟨k,hk,rfl,rfl,hrow,hbel⟩:=hrel;rcases Nat.eq_zero_or_pos k with h0 | h0
  ·subst h0;have hrd:Rd wr wr.heap.size (some ⟨w.heap.size,0,none⟩) sa.size (yr (a / b)):=Rd.of_row (hrow.congr fun i hi=>by rw [if_pos (by omega)]) (zv _) hrow.lt;have HR:=zc hrd;have hbl:=hbel.size;have hz:=rd_zero a b;rw [hz];clear hrd hmk hrow hz;go_wp2_with fail
   refine (HF.out _ _ sa.size sa.size hz1a (by omega) HNA.out HR.out).mono ?_;rintro e w' ⟨rfl,hb9⟩;go_wp2_with fail
   go_ret3;exact ⟨rfl,zx hbel hb9 hbl⟩
  ·obtain ⟨m,rfl⟩:∃ m,k=m+1:=⟨k-1,by omega⟩;have hrow0:wr.rowIs w.heap.size 3 sa.size (dvF (a / b) m 0):=hrow.congr fun j hj=>by
    unfold dvF;by_cases e:j=m
    ·subst e;rw [if_pos rfl,if_neg (by omega)];rfl
    ·rw [if_neg e]
   have hstep:=rd_step a b m;have hdig:=rd_digit a b m hb0;have hxlt:=rd_lt a b m hb0;obtain ⟨x,hx⟩:∃ x,rd a b (m+1)*10+dg 10 a m=x:=⟨_,rfl⟩;have hmu:=fun W=>HMU.out W (m+1);have hda:=fun W=>HDA.out W m (by omega);have hof:=fun W=>HOF.out W m;have had:=fun W=>HAD.out W m;have hsu:=fun W t=>HSU.out W m t;rw [hx] at hstep hdig hxlt had;simp only [hx] at hsu;have HMU':=zc hmu;have HDA':=zc hda;have HOF':=zc hof;have HAD':=zc had;have HSU':=zc hsu;have HST:=zc hstep;have HDG:=zc hdig;have HX:=zc hx;have d10:=yY a m;rw [show (((m+1:Nat):Int)-1)=(m:Int) by omega];clear hmu hda hof had hsu hstep hdig hrow hx;generalize dg 10 a m=D at *
   generalize hRR:rd a b (m+1)=RR at *
   clear hRR;have hwD:IntKind.u64.wrap (D:Int)=(D:Int):=by rw [IntKind.wrap_u64];omega
   go_wp2_with fail
   refine (HMU'.out _).mono ?_;rintro e w1 ⟨rfl,hb1⟩;go_wp2_with fail
   refine (HDA'.out _).mono ?_;rintro e w2 ⟨rfl,rfl⟩;go_wp2_with fail
   refine (HOF'.out _).mono ?_;rintro e w3 ⟨rfl,hb3⟩;go_wp2_with fail
   refine (HAD'.out _).mono ?_;rintro e w4 ⟨rfl,hb4⟩;have hB:=(hb1.trans (hb3.mono hb1.size)).trans (hb4.mono (Nat.le_trans hb1.size hb3.size));have hrow4:=zh hrow0 hB;have hbel4:=zx hbel hB hbel.size;clear hb1 hb3 hb4 hB hrow0 hbel;go_wp2_with fail
   go_loopw [8] (fun r wr=>∃ t:Nat,t*b≤x∧r = .string (zl (x-t*b))∧wr.rowIs w.heap.size 3 sa.size (dvF (a / b) m t)∧Below w.heap.size w wr) (fun r _=>dcvN r)
   case atStart=>exact ⟨0,by omega,by rw [Nat.zero_mul];rfl,hrow4,hbel4⟩
   case round =>
    clear hrow4 hbel4;obtain ⟨t,ht,rfl,hrow,hbel⟩:=hrel;have ht10:t<10:=Nat.lt_of_not_le fun h=>by
     have:=Nat.mul_le_mul_right b h;omega
    rcases Nat.lt_or_ge (x-t*b) b with hlt | hge
    ·have hq:t=x / b:=by
      have h1:x / b=t:=Nat.div_eq_of_lt_le (by rw [Nat.mul_comm] at ht;rw [Nat.mul_comm];omega) (by rw [Nat.succ_mul];omega);exact h1.symm
     have hr:x-t*b=rd a b m:=by
      rw [← HST.out];have:=Nat.div_add_mod x b;rw [← hq,Nat.mul_comm] at this;omega
     have hc:qg (x-t*b) b = -1:=by unfold qg;rw [if_pos hlt]
     have hcm:=fun W=>HCM.out W (x-t*b);rw [hc] at hcm;have HC':=zc hcm;have HRR:=zc hr;have HTT:=zc (hq.trans HDG.out);clear hq hr hc hcm;go_wp2_with fail
     refine (HC'.out _).mono ?_;rintro e w5 ⟨rfl,rfl⟩;go_wp2_with fail
     refine ⟨⟨m,by omega,rfl,by rw [HRR.out],hrow.congr fun j hj=>?_,hbel⟩,by simp [intOf] <;> omega⟩;unfold dvF;by_cases e:j=m
     ·subst e;rw [if_pos rfl,if_pos (zv _),HTT.out];rfl
     ·rw [if_neg e];by_cases e2:m+1≤j
      ·rw [if_pos e2,if_pos (by omega)]
      ·rw [if_neg e2,if_neg (by omega)]
    ·have hc:0≤qg (x-t*b) b:=by unfold qg;rw [if_neg (by omega)];split <;> decide
     have hle:(t+1)*b≤x:=by rw [Nat.succ_mul];omega
     have hcm:=fun W=>HCM.out W (x-t*b);have hsu:=fun W=>HSU'.out W t hle;have hse:x-t*b-b=x-(t+1)*b:=by rw [Nat.succ_mul];omega
     rw [hse] at hsu;have hml:x-(t+1)*b<x-t*b:=by omega
     have hd:decide (0≤qg (x-t*b) b)=true:=decide_eq_true hc;generalize qg (x-t*b) b=C at *
     have HC':=zc hcm;have HS':=zc hsu;have hcell:=hrow.cell (i:=m) (by omega);have hcell2:wr.cell? ⟨w.heap.size,m,none⟩=some (.int .i64 (t:Int)):=hcell.trans (by unfold dvF;rw [if_pos rfl]);have hfr:=hrow.frozen m;have hrl:=hrow.lt;clear hcell hcm hsu hc;go_wp2_with fail
     refine (HC'.out _).mono ?_;rintro e w5 ⟨rfl,rfl⟩;go_wp2_with fail
     refine (HS'.out _).mono ?_;rintro e w6 ⟨rfl,hb6⟩;have hrow6:=zh hrow hb6;have hcell6:w6.cell? ⟨w.heap.size,m,none⟩=some (.int .i64 (t:Int)):=(hrow6.cell (i:=m) (by omega)).trans (by unfold dvF;rw [if_pos rfl]);have hfr6:=hrow6.frozen m;have hset:=hrow6.set m (.int .i64 ((t+1:Nat):Int));have hset2:(w6.setCell ⟨w.heap.size,m,none⟩ (.int .i64 ((t+1:Nat):Int))).rowIs w.heap.size 3 sa.size (dvF (a / b) m (t+1)):=hset.congr fun j hj=>by
      unfold dvF;by_cases e:j=m
      ·rw [if_pos e,if_pos e]
      ·rw [if_neg e,if_neg e,if_neg e]
     have hbel6:=(zx hbel hb6 hbel.size).setCell (p:=⟨w.heap.size,m,none⟩) (zv _) (.int .i64 ((t+1:Nat):Int));have HS2:=zc hset2;have HB2:=zc hbel6;have hi1:(m:Int)<(sa.size:Int):=by omega
     have hi2:m<sa.size:=by omega
     have hi3:(0:Int)≤(m:Int):=by omega
     clear hcell2 hfr hset hset2 hbel6 hb6 hrow;go_wp2_with fail
     exact ⟨⟨t+1,hle,rfl,HS2.out,HB2.out⟩,by rw [ze6,ze6];exact hml⟩
theorem rgcd_any (w:World) (a b:Nat) (ha:zA a≤1000000) (hb:zA b≤1000000) :
  Calls Tryz.prog 146 #[.string (zl a),.string (zl b)] w fun e w'=>e = .returned (.string (zl (Nat.gcd a b)))∧Below w.heap.size w w':=by
 have hdv:=fun W x y h1 h2 h3=>zgo W x y h1 h2 h3;have HDV:=zc hdv;clear hdv;have HG:Hid (∀ x y,0<y→Nat.gcd y (x%y)=Nat.gcd x y):=zc fun x y h=>by rw [Nat.gcd_comm y,← Nat.gcd_rec,Nat.gcd_comm]
 go_enter Tryz.func146, Tryz.ntmps146;go_wp2_with fail
 go_loopw [0,1] (fun s t wr=>∃ x y:Nat,s = .string (zl x)∧t = .string (zl y)∧zA x≤1000000∧zA y≤1000000∧Nat.gcd x y=Nat.gcd a b∧Below w.heap.size w wr) (fun _ t _=>dcvN t)
 case atStart=>exact ⟨a,b,rfl,rfl,ha,hb,rfl,zy _ _⟩
 case round =>
  clear ha hb;obtain ⟨x,y,rfl,rfl,hx,hy,hg,hbel⟩:=hrel;rcases Nat.eq_zero_or_pos y with h0 | h0
  ·have hbe:((zl y).toList==[48])=true:=by rw [beq_iff_eq];exact (zgB y).2 h0
   have hxg:x=Nat.gcd a b:=by rw [← hg,h0,Nat.gcd_zero_right]
   have HXG:=zc hxg;have hb3:((zl y).toList != [48])=false:=by simp [bne,hbe]
   clear hg hxg h0;go_wp2_with fail
   go_ret;exact ⟨by rw [HXG.out];rfl,hbel⟩
  ·have hbe:((zl y).toList==[48])=false:=beq_eq_false_iff_ne.2 fun e=>by have:=(zgB y).1 e;omega
   have hml:x%y<y:=Nat.mod_lt _ h0;have hgg:=HG.out x y h0;rw [hg] at hgg;have HGG:=zc hgg;have hdy:zA (x%y)≤1000000:=by have:=zbm (Nat.le_of_lt hml);omega
   have hdv:=fun W=>HDV.out W x y hx hy h0;have HD':=zc hdv;generalize x / y=Q at *
   have hb3:((zl y).toList != [48])=true:=by simp [bne,hbe]
   clear hdv hg hgg;go_wp2_with fail
   refine (HD'.out _).mono ?_;rintro e w1 ⟨rfl,hb1⟩;go_wp2_with fail
   exact ⟨⟨y,x%y,rfl,rfl,hy,hdy,HGG.out,zx hbel hb1 hbel.size⟩,by rw [ze6,ze6];exact hml⟩
end Go.Proofs.YtmhllppjcilllaaGreatDoor
end
end
