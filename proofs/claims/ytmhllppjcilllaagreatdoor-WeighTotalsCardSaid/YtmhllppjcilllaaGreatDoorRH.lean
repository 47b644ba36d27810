import Derived.Test.YtmhllppjcilllaaGreatDoorM1
import Derived.Test.YtmhllppjcilllaaGreatDoorRP
set_option linter.unusedSimpArgs false
set_option linter.unusedVariables false
set_option maxRecDepth 100000
set_option maxHeartbeats 400000
section
namespace Cs
def brw (a b i:Nat):Nat:=if a%10^i<b%10^i then 1 else 0
theorem brw_zero (a b:Nat):brw a b 0=0:=by simp [brw,Nat.mod_one]
theorem brw_le (a b i:Nat):brw a b i≤1:=by unfold brw;split <;> omega
theorem sub_div (a b p:Nat) (h:b≤a) (hp:0<p):(a-b) / p+(b / p+(if a%p<b%p then 1 else 0))=a / p:=by
 have ha:=Nat.div_add_mod a p;have hb:=Nat.div_add_mod b p;have ra:=Nat.mod_lt a hp;have rb:=Nat.mod_lt b hp
 generalize hx:a / p=x at *
 generalize hy:b / p=y at *
 generalize a%p=A at *
 generalize b%p=B at *
 split
 ·rename_i hlt
  have hyx:y+1≤x:=by
   refine Nat.le_of_not_lt fun h2=>?_;have:p*x≤p*y:=Nat.mul_le_mul_left _ (by omega);omega
  obtain ⟨z,rfl⟩:∃ z,x=z+(y+1):=⟨x-(y+1),by omega⟩
  have e:a-b=A+p-B+p*z:=by
   rw [Nat.mul_add,Nat.mul_add] at ha;omega
  rw [e,Nat.add_mul_div_left _ _ hp,Nat.div_eq_of_lt (by omega)];omega
 ·rename_i hlt
  have hyx:y≤x:=by
   refine Nat.le_of_not_lt fun h2=>?_;have:p*(x+1)≤p*y:=Nat.mul_le_mul_left _ h2;rw [Nat.mul_add] at this;omega
  obtain ⟨z,rfl⟩:∃ z,x=z+y:=⟨x-y,by omega⟩
  have e:a-b=A-B+p*z:=by
   rw [Nat.mul_add] at ha;omega
  rw [e,Nat.add_mul_div_left _ _ hp,Nat.div_eq_of_lt (by omega)];omega
theorem sub_dg (a b i:Nat) (h:b≤a):(dg 10 a i+10-dg 10 b i-brw a b i)%10=dg 10 (a-b) i:=by
 have h1:=sub_div a b (10^i) h (ten_pos i);unfold dg brw;split at h1
 ·rename_i hlt;rw [if_pos hlt];omega
 ·rename_i hlt;rw [if_neg hlt];omega
theorem brw_succ (a b i:Nat):brw a b (i+1)=if dg 10 a i<dg 10 b i+brw a b i then 1 else 0:=by
 have ha:=mod_succ 10 a i;have hb:=mod_succ 10 b i;have ra:=Nat.mod_lt a (ten_pos i);have rb:=Nat.mod_lt b (ten_pos i);unfold brw;rw [ha,hb];generalize dg 10 a i=x;generalize dg 10 b i=y
 generalize 10^i=p at *
 generalize a%p=A at *
 generalize b%p=B at *
 have key:A+p*x<B+p*y↔x<y+(if A<B then 1 else 0):=by
  rcases Nat.lt_trichotomy x y with h | h | h
  ·have:p*(x+1)≤p*y:=Nat.mul_le_mul_left _ h;rw [Nat.mul_add] at this
   constructor
   ·intro;split <;> omega
   ·intro;omega
  ·subst h
   constructor
   ·intro h;rw [if_pos (by omega)];omega
   ·intro h;split at h <;> omega
  ·have:p*(y+1)≤p*x:=Nat.mul_le_mul_left _ h;rw [Nat.mul_add] at this
   constructor
   ·intro;omega
   ·intro h2;split at h2 <;> omega
 by_cases h:A+p*x<B+p*y
 ·rw [if_pos h,if_pos (key.1 h)]
 ·rw [if_neg h,if_neg (fun h2=>h (key.2 h2))]
theorem sub_nd (a b:Nat):nd 10 (a-b)≤nd 10 a:=nd_mono 10 (by decide) (Nat.sub_le _ _)
theorem div_nd (a b:Nat):nd 10 (a / b)≤nd 10 a:=nd_mono 10 (by decide) (Nat.div_le_self _ _)
end Cs
end
section
open Go Go.RowKit Cs
namespace Go.Proofs.YtmhllppjcilllaaGreatDoor
theorem bytes_toList (a:ByteArray):a.toList=a.data.toList:=by simp [ByteArray.toList_eq]
theorem bytes_ne {a b:ByteArray} (h:a≠b):(a.toList==b.toList)=false:=beq_eq_false_iff_ne.2 fun e=>h (by
 rw [bytes_toList,bytes_toList] at e;apply ByteArray.ext;apply Array.ext'
 exact e)
theorem rcmp_short (w:World) (a b:ByteArray) (h:a.size<b.size):Calls Tryz.prog 170 #[.string a,.string b] w fun e w'=>e = .returned (.int .i64 (-1))∧w=w':=by
 go_enter Tryz.func170, Tryz.ntmps170
 go_wp2
 go_ret
 exact ⟨rfl,rfl⟩
theorem rcmp_eq (w:World) (a:ByteArray) (hl:Op.bytesLess a.toList a.toList=false):Calls Tryz.prog 170 #[.string a,.string a] w fun e w'=>e = .returned (.int .i64 0)∧w=w':=by
 go_enter Tryz.func170, Tryz.ntmps170
 go_wp2
 go_ret
 exact ⟨rfl,rfl⟩
theorem rcmp_long (w:World) (a b:ByteArray) (h:b.size<a.size) (hne:a≠b):Calls Tryz.prog 170 #[.string a,.string b] w fun e w'=>e = .returned (.int .i64 1)∧w=w':=by
 have hne2:=bytes_ne hne;have h1:decide (a.size<b.size)=false:=decide_eq_false (by omega);have h2:((a.size:Int)==(b.size:Int))=false:=beq_eq_false_iff_ne.2 (by omega);clear hne
 go_enter Tryz.func170, Tryz.ntmps170
 go_wp2
 go_ret
 exact ⟨rfl,rfl⟩
theorem rcmp_gt (w:World) (a b:ByteArray) (h:a.size=b.size) (hl:Op.bytesLess a.toList b.toList=false) (hne:a≠b):Calls Tryz.prog 170 #[.string a,.string b] w fun e w'=>e = .returned (.int .i64 1)∧w=w':=by
 have hne2:=bytes_ne hne;clear hne
 have hi:a.size≤b.size:=by omega
 have hj:b.size≤a.size:=by omega
 clear h
 go_enter Tryz.func170, Tryz.ntmps170
 go_wp2
 go_ret
 exact ⟨rfl,rfl⟩
theorem rcmp_any (w:World) (a b:Nat):Calls Tryz.prog 170 #[.string (dec a),.string (dec b)] w fun e w'=>e = .returned (.int .i64 (cmpN a b))∧w=w':=by
 rcases Nat.lt_trichotomy (decN a) (decN b) with h | h | h
 ·have hlt:a<b:=Nat.lt_of_not_le fun h2=>by have:=decN_mono h2;omega
  unfold cmpN;rw [if_pos hlt];exact rcmp_short w _ _ (by rw [dec_size,dec_size];exact h)
 ·have hs:(dec a).size=(dec b).size:=by rw [dec_size,dec_size];exact h
  have hl:=less_dec a b h;rw [← bytes_toList,← bytes_toList] at hl;rcases Nat.lt_trichotomy a b with h1 | h1 | h1
  ·unfold cmpN;rw [if_pos h1];exact rcmp_lt w _ _ hs (by rw [hl];exact decide_eq_true h1)
  ·subst h1;unfold cmpN;rw [if_neg (Nat.lt_irrefl _),if_pos rfl];exact rcmp_eq w _ (by rw [hl];exact decide_eq_false (Nat.lt_irrefl _))
  ·unfold cmpN;rw [if_neg (by omega),if_neg (by omega)];exact rcmp_gt w _ _ hs (by rw [hl];exact decide_eq_false (by omega)) (fun e=>by have:=dec_inj e;omega)
 ·have hlt:b<a:=Nat.lt_of_not_le fun h2=>by have:=decN_mono h2;omega
  unfold cmpN;rw [if_neg (by omega),if_neg (by omega)];exact rcmp_long w _ _ (by rw [dec_size,dec_size];exact h) (fun e=>by have:=dec_inj e;omega)
end Go.Proofs.YtmhllppjcilllaaGreatDoor
end
section
open Go Go.RowKit Cs
namespace Cs
theorem half_dg (a i:Nat):(10*(a / 10^(i+1)%2)+dg 10 a i) / 2=dg 10 (a / 2) i∧(10*(a / 10^(i+1)%2)+dg 10 a i)%2=a / 10^i%2:=by
 have e1:a / 10^(i+1)=a / 10^i / 10:=by rw [Nat.pow_succ,Nat.div_div_eq_div_mul]
 have e2:a / 2 / 10^i=a / 10^i / 2:=by rw [Nat.div_div_eq_div_mul,Nat.div_div_eq_div_mul,Nat.mul_comm]
 unfold dg;rw [e1,e2];generalize a / 10^i=x;omega
theorem nd2_half (a:Nat) (h:a≠0):nd 2 a=nd 2 (a / 2)+1:=by
 rw [nd_pos 2 a (by decide) (by omega),Nat.add_comm]
theorem lt_decN (a:Nat):a<10^decN a:=Nat.lt_of_lt_of_le (lt_pow_nd 10 a (by decide)) (Nat.pow_le_pow_right (by decide) (nd_decN a))
theorem nd2_dec (a m:Nat) (ha:decN a≤m):nd 2 a≤4*m:=by
 refine (nd_le_iff 2 (by decide) _ _).2 ?_;refine Nat.lt_of_lt_of_le (lt_decN a) ?_;refine Nat.le_trans (Nat.pow_le_pow_left (show 10≤2^4 by decide) _) ?_;rw [← Nat.pow_mul];exact Nat.pow_le_pow_right (by decide) (by omega)
end Cs
namespace Go.Proofs.YtmhllppjcilllaaGreatDoor
theorem rsub_any (w:World) (a b:Nat) (ha:decN a≤10000000) (hb:decN b≤10000000) (hab:b≤a) :
  Calls Tryz.prog 171 #[.string (dec a),.string (dec b)] w fun e w'=>e = .returned (.tuple #[.string (dec (a-b)),.bool true])∧Below w.heap.size w w':=by
 obtain ⟨ti,hi,hz0,hz1,hz2⟩:=info_parts info_int;have hsa:=dec_size a;have hna:=nd_decN a;have h1a:=decN_one a;have hda:=fun W i hi=>rdigit_any W a i (by omega) hi;have hdb:=fun W i hi=>rdigit_any W b i (by omega) hi;have hcm:=fun W=>rcmp_any W a b;have hM:decide (cmpN a b<0)=false:=decide_eq_false (by unfold cmpN;split <;> (try split) <;> omega);have hfm:=fun W A n cap h0 h1 h2 h3=>form_pos W A n cap (a-b) h0 h1 h2 h3;have hnd:=sub_nd a b;obtain ⟨M,hM'⟩:∃ M,cmpN a b=M:=⟨_,rfl⟩;rw [hM'] at hcm hM;obtain ⟨sa,hsa'⟩:∃ s,s=dec a:=⟨_,rfl⟩;obtain ⟨sb,hsb'⟩:∃ s,s=dec b:=⟨_,rfl⟩;rw [← hsa'] at hsa hda hcm ⊢;rw [← hsb'] at hdb hcm ⊢;clear hsa' hsb' hM';have HDA:=zqh hda;have HDB:=zqh hdb;have HF:=zqh hfm;have HCM:=zqh hcm;clear hda hdb hfm hcm
 have hza:sa.size≤10000000:=by omega
 have hz1a:1≤sa.size:=by omega
 have hna':nd 10 (a-b)≤sa.size:=by omega
 clear ha hb hsa hna h1a hnd
 go_enter Tryz.func171, Tryz.ntmps171
 go_wp2_with (go_at_call 170;(with_reducible refine (HCM.out _).mono ?_);rintro e w' ⟨rfl,rfl⟩)
 go_loopw [6,7,8,9] (fun l c i d wr=>∃ k:Nat,k≤sa.size∧i = .int .i64 k∧c = .int .i64 (brw a b k)∧wr.ownsRow w.heap.size 3 1 l k (dgi (a-b) k)∧Below w.heap.size w wr)
  (fun _ _ i _ _=>sa.size-(intOf i).toNat)
 case atStart=>exact ⟨0,by omega,rfl,by rw [brw_zero];rfl,World.ownsRow_nil _ _ _ _,zqr _ _⟩
 case round =>
  obtain ⟨k,hk,rfl,rfl,hown,hbel⟩:=hrel;have hszw:=hbel.size;have hc1:=brw_le a b k;have da:=dg10_lt a k;have db:=dg10_lt b k;have hdg:=sub_dg a b k hab;have hcs:=brw_succ a b k;have hlt0:∀ k,u6.ownBlock=some k→w.heap.size≤k:=fun k hk=>(hown.lt k hk).1;rcases Nat.lt_or_ge k sa.size with h1 | h1
  ·rcases Nat.lt_or_ge (dg 10 a k) (dg 10 b k+brw a b k) with h2 | h2
   ·rw [if_pos h2] at hcs
    have X1:Hid ((dg 10 a k:Int)-(dg 10 b k:Int)-(brw a b k:Int)+10=((dg 10 (a-b) k:Nat):Int)):=by
     show _=_;omega
    have HCS:=zqh hcs;have h3:decide ((dg 10 a k:Int)-(dg 10 b k:Int)-(brw a b k:Int)<0)=true:=decide_eq_true (by omega);clear hcs hdg h2
    go_wp2_with (first
     | (go_at_call 155;(with_reducible refine (HDA.out _ k (by omega)).mono ?_);rintro e w' ⟨rfl,rfl⟩)
     | (go_at_call 155;(with_reducible refine (HDB.out _ k (by omega)).mono ?_);rintro e w' ⟨rfl,rfl⟩)
     | (at_builtin;go_loud (refine wpList_append_own _ rfl _ _ 26 rfl w.heap.size 3 ti (.int .i64 0) 1 8 Tryz.underlying26 hi hz0 hz1 hz2 rfl (by decide) _ _ _ rfl (hown.alloc _) ⟨wr.heap.size,0,none⟩ 1 1 [.int .i64 ((dg 10 a k:Int)-(dg 10 b k:Int)-(brw a b k:Int)+10)] rfl rfl newOne oneInt (by unfold maxLen;omega) (by omega) (by simp;omega) ?_);intro v3 w3 hown3 hgr3 _))
    have hbel3:=(hbel.alloc hbel.size _).grown hgr3 (by simp;omega) (fun k e=>hlt0 k e);rw [X1.out,← dgi_succ] at hown3
    go_roundw
    case rel=>exact ⟨k+1,by omega,by go_num,by rw [HCS.out];rfl,hown3,hbel3⟩
    case measure=>simp [intOf];omega
   ·rw [if_neg (by omega)] at hcs
    have X1:Hid ((dg 10 a k:Int)-(dg 10 b k:Int)-(brw a b k:Int)=((dg 10 (a-b) k:Nat):Int)):=by
     show _=_;omega
    have HCS:=zqh hcs;have h3:decide ((dg 10 a k:Int)-(dg 10 b k:Int)-(brw a b k:Int)<0)=false:=decide_eq_false (by omega);clear hcs hdg h2
    go_wp2_with (first
     | (go_at_call 155;(with_reducible refine (HDA.out _ k (by omega)).mono ?_);rintro e w' ⟨rfl,rfl⟩)
     | (go_at_call 155;(with_reducible refine (HDB.out _ k (by omega)).mono ?_);rintro e w' ⟨rfl,rfl⟩)
     | (at_builtin;go_loud (refine wpList_append_own _ rfl _ _ 26 rfl w.heap.size 3 ti (.int .i64 0) 1 8 Tryz.underlying26 hi hz0 hz1 hz2 rfl (by decide) _ _ _ rfl (hown.alloc _) ⟨wr.heap.size,0,none⟩ 1 1 [.int .i64 ((dg 10 a k:Int)-(dg 10 b k:Int)-(brw a b k:Int))] rfl rfl newOne oneInt (by unfold maxLen;omega) (by omega) (by simp;omega) ?_);intro v3 w3 hown3 hgr3 _))
    have hbel3:=(hbel.alloc hbel.size _).grown hgr3 (by simp;omega) (fun k e=>hlt0 k e);rw [X1.out,← dgi_succ] at hown3
    go_roundw
    case rel=>exact ⟨k+1,by omega,by go_num,by rw [HCS.out];rfl,hown3,hbel3⟩
    case measure=>simp [intOf];omega
  ·obtain rfl:k=sa.size:=by omega
   obtain ⟨go',cp,rfl,hgo1,hgo2⟩:=ownsForm hown (by omega);have hrd:Rd wr wr.heap.size (some ⟨go',0,none⟩) sa.size (dgF (a-b)):=Rd.of_own hown fun i hi=>dgi_get _ _ _ hi;have HR:=zqh hrd;have HNA:=zqh hna';clear hrd hown hdg hcs hna'
   go_wp2_with (go_at_call 148;(with_reducible refine (HF.out _ _ sa.size cp hz1a (by omega) HNA.out HR.out).mono ?_);rintro e w' ⟨rfl,hb9⟩)
   go_ret2
   exact ⟨rfl,zqx hbel hb9 hszw⟩
theorem rhalf_any (w:World) (a:Nat) (ha:decN a≤10000000) :
  Calls Tryz.prog 164 #[.string (dec a)] w fun e w'=>e = .returned (.string (dec (a / 2)))∧Below w.heap.size w w':=by
 have hsa:=dec_size a;have hna:=nd_decN a;have h1a:=decN_one a;have hda:=fun W i hi=>rdigit_any W a i (by omega) hi;have hfm:=fun W A n cap h0 h1 h2 h3=>form_pos W A n cap (a / 2) h0 h1 h2 h3;have hnd:=div_nd a 2;have hz2:a / 10^decN a=0:=Nat.div_eq_of_lt (lt_decN a);obtain ⟨sa,hsa'⟩:∃ s,s=dec a:=⟨_,rfl⟩;rw [← hsa'] at hsa hda ⊢;rw [← hsa] at hz2;clear hsa';have hmk:=rmk_int sa.size (by omega);have HDA:=zqh hda;have HF:=zqh hfm;have HZ2:=zqh hz2;clear hda hfm hz2
 have hza:sa.size≤10000000:=by omega
 have hz1a:1≤sa.size:=by omega
 have hna':nd 10 (a / 2)≤sa.size:=by omega
 have HNA:=zqh hna';clear ha hsa hna h1a hnd hna'
 go_enter Tryz.func164, Tryz.ntmps164
 go_wp2
 go_loopw [4,5,6] (fun r i d wr=>∃ k:Nat,k≤sa.size∧i = .int .i64 ((k:Int)-1)∧r = .int .i64 ((a / 10^k%2:Nat):Int)∧wr.rowIs w.heap.size 3 sa.size (fun j=>if k≤j then dgF (a / 2) j else .int .i64 0)∧Below w.heap.size w wr)
  (fun _ i _ _=>(intOf i+1).toNat)
 case atStart=>exact ⟨sa.size,zqn _,rfl,by rw [HZ2.out];rfl,rowMade w (.int .i64 0) sa.size 3 _ rfl (fun i hi=>by rw [if_neg (by omega)]),(zqr _ _).alloc (zqn _) _⟩
 case round =>
  obtain ⟨k,hk,rfl,rfl,hrow,hbel⟩:=hrel;rcases Nat.eq_zero_or_pos k with h0 | h0
  ·subst h0;have hrd:Rd wr wr.heap.size (some ⟨w.heap.size,0,none⟩) sa.size (dgF (a / 2)):=Rd.of_row (hrow.congr fun i hi=>by rw [if_pos (by omega)]) (zqn _) hrow.lt;have HR:=zqh hrd;have hbl:=hbel.size;clear hrd hmk hrow
   go_wp2_with (go_at_call 148;(with_reducible refine (HF.out _ _ sa.size sa.size hz1a (by omega) HNA.out HR.out).mono ?_);rintro e w' ⟨rfl,hb9⟩)
   go_ret
   exact ⟨rfl,zqx hbel hb9 hbl⟩
  ·obtain ⟨m,rfl⟩:∃ m,k=m+1:=⟨k-1,by omega⟩;have da:=dg10_lt a m;obtain ⟨hd1,hd2⟩:=half_dg a m;have hcell:=hrow.cell (i:=m) (by omega);have hfr:=hrow.frozen m;have hrl:=Nat.mod_lt (a / 10^(m+1)) (show 2 > 0 by decide);have hset:=hrow.set m (dgF (a / 2) m)
   have hset2:(wr.setCell ⟨w.heap.size,m,none⟩ (.int .i64 ((dg 10 (a / 2) m:Nat):Int))).rowIs w.heap.size 3 sa.size (fun j=>if m≤j then dgF (a / 2) j else .int .i64 0):=hset.congr fun i hi=>by
    by_cases e:i=m
    ·rw [if_pos e,if_pos (by omega),e]
    ·rw [if_neg e];by_cases e2:m+1≤i
     ·rw [if_pos e2,if_pos (by omega)]
     ·rw [if_neg e2,if_neg (by omega)]
   have HS2:=zqh hset2;obtain ⟨r,hr⟩:∃ r,a / 10^(m+1)%2=r:=⟨_,rfl⟩;obtain ⟨r',hr'⟩:∃ r,a / 10^m%2=r:=⟨_,rfl⟩;obtain ⟨x,hx⟩:∃ x,dg 10 a m=x:=⟨_,rfl⟩;obtain ⟨y,hy⟩:∃ y,dg 10 (a / 2) m=y:=⟨_,rfl⟩;have hd:=HDA.out;have hdm:=fun W=>hd W m (by omega);rw [hx] at hdm da hd1 hd2;rw [hr] at hd1 hd2 hrl ⊢;rw [hy] at hd1 HS2;rw [hr'] at hd2
   have Y1:(10*(r:Int)+(x:Int)) / 2=(y:Int):=by omega
   have Y2:(10*(r:Int)+(x:Int))%2=(r':Int):=by omega
   have HR':=zqh hr';have HDM:=zqh hdm
   have e0:((m:Int)+1)-1=(m:Int):=by omega
   have hcell2:wr.cell? ⟨w.heap.size,m,none⟩=some (.int .i64 0):=hcell.trans (by rw [if_neg (by omega)])
   have hi1:(m:Int)<(sa.size:Int):=by omega
   have hi2:m<sa.size:=by omega
   rw [show (((m+1:Nat):Int)-1)=(m:Int) by omega];clear hd hdm hr hr' hx hy hd1 hd2 hset hset2 hcell hmk e0
   go_wp2_with (go_at_call 155;(with_reducible refine (HDM.out _).mono ?_);rintro e w' ⟨rfl,rfl⟩)
   go_roundw
   case rel=>exact ⟨m,by omega,rfl,by rw [HR'.out,Y2],HS2.out,hbel.setCell (by simp) _⟩
   case measure=>simp [intOf] <;> omega
theorem rlen_any (w:World) (a:Nat) (ha:decN a≤10000000) :
  Calls Tryz.prog 127 #[.string (dec a)] w fun e w'=>e = .returned (.int .i64 (nd 2 a:Nat))∧Below w.heap.size w w':=by
 have hb:=nd2_dec a 10000000 ha
 go_enter Tryz.func127, Tryz.ntmps127
 go_wp2
 go_loopw [0,3] (fun s n wr=>∃ k x:Nat,s = .string (dec x)∧n = .int .i64 k∧x≤a∧Hid (k+nd 2 x=nd 2 a)∧Below w.heap.size w wr) (fun _ n _=>nd 2 a-(intOf n).toNat)
 case atStart=>exact ⟨0,a,rfl,rfl,zqn _,Nat.zero_add _,zqr _ _⟩
 case round =>
  obtain ⟨k,x,rfl,rfl,hxa,HK,hbel⟩:=hrel;have h0:=dec_is0 x;have hk:=HK.out;by_cases hx0:x=0
  ·have hd:(dec x).toList=[48]:=h0.2 hx0
   have hkk:k=nd 2 a:=by rw [hx0,nd_zero] at hk;omega
   have HKK:=zqh hkk;clear h0 hk hkk hx0 hb ha hxa HK
   generalize dec x=s at *
   go_wp2
   go_ret
   exact ⟨ret_int (by rw [HKK.out]),hbel⟩
  ·have hd:¬ (dec x).toList=[48]:=fun h=>hx0 (h0.1 h);have hd2:((dec x).toList==[48])=false:=beq_eq_false_iff_ne.2 hd;have hhf:=fun W=>rhalf_any W x (Nat.le_trans (decN_mono hxa) ha);have HHF:=zqh hhf;have hn2:=nd2_half x hx0
   have hk3:k+1≤nd 2 a:=by omega
   have HN:=zqh (show (k+1)+nd 2 (x / 2)=nd 2 a by omega)
   have hxx:x / 2≤a:=by omega
   clear h0 hk hx0 hhf hn2 HK
   generalize nd 2 a=m at *
   generalize dec x=s at *
   go_wp2_with (go_at_call 164;(with_reducible refine (HHF.out _).mono ?_);rintro e w3 ⟨rfl,hb3⟩)
   go_roundw
   case rel=>exact ⟨k+1,x / 2,rfl,by go_num,hxx,HN,zqx hbel hb3 hbel.size⟩
   case measure=>simp [intOf];omega
end Go.Proofs.YtmhllppjcilllaaGreatDoor
end
