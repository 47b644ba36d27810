import Derived.Test.YtmhllppjcilllaaGreatDoorN4
set_option linter.unusedSimpArgs false
set_option linter.unusedVariables false
set_option maxRecDepth 100000
set_option maxHeartbeats 1000000
section
open Go Go.RowKit Cs
namespace Go.Proofs.YtmhllppjcilllaaGreatDoor
theorem cellNew2 (w:World) (c:Array Value) (t:TypeId) (o:Obj) (i:Nat) (v:Value) (h:c[i]?=some v):((w.alloc (.cells c t)).alloc o).cell? ⟨w.heap.size,i,none⟩=some v:=by
 have h1:i<c.size:=by
  rcases Nat.lt_or_ge i c.size with h2 | h2
  ·exact h2
  ·rw [Array.getElem?_eq_none h2] at h;cases h
 have h3:=((World.rowIs_alloc w c t (fun i=>(c[i]?).getD undef) fun i hi=>by rw [Array.getElem?_eq_getElem hi];rfl).alloc o).cell h1;rw [h3,h];rfl
theorem formed_ins {x:Nd} {n:Int} {k:Nat} (h:qk x n (k:Int)=true):∀ i,i<x.ins.length→∃ m:Nat,x.ins.getD i 0=(m:Int)∧m<k:=by
 intro i hi;unfold qk at h;split at h
 ·cases h
 ·rename_i h1;have h2:¬ ((x.ins.getD i 0<0)∨(k:Int)≤x.ins.getD i 0):=by
   intro h3;apply h1;refine List.any_eq_true.2 ⟨x.ins.getD i 0,?_,by simpa using h3⟩;rw [List.getD_eq_getElem?_getD,List.getElem?_eq_getElem hi];exact List.getElem_mem hi
  exact ⟨(x.ins.getD i 0).toNat,by omega,by omega⟩
theorem zcL (w:World) (N:Nt) (A:Option Addr) (c:Nat) (hN:NtAt w w.heap.size A N.l) (hv:zG N=true) :
  Calls Tryz.prog 65 #[qg N A c] w fun e w'=>∃ g,e = .returned (.slice (some ⟨g,0,none⟩) N.l.length N.l.length)∧w.heap.size≤g∧w'.rowIs g 96 (N.l.length*2) (qe (own N.l))∧Below w.heap.size w w':=by
 obtain ⟨hn0,hn1,hl0,hl1⟩:=qN hv;have hck:je N=0:=by unfold je;rw [hv];rfl
 have hfm:=fun k hk=>jn hv k hk;obtain ⟨n,l⟩:=N;simp only at hN hn0 hn1 hl0 hl1 hfm;have HF:=zb hfm;clear hfm hv;have hbox:=yQ w ⟨n,l⟩ A c 24 _ rfl;have hbl:Below w.heap.size w (w.alloc (.cells #[.int .i64 n,.slice A l.length c] 24)):=(zx _ _).alloc (zu _) _;have hchk:=zbs (w.alloc (.cells #[.int .i64 n,.slice A l.length c] 24)) ⟨n,l⟩ A c (by simp only;omega) ((hN.below hbl).more hbl.size);rw [hck] at hchk;have HCK:=zb hchk;clear hchk hck;have hmk:=mk_set l.length (by omega);go_enter Tryz.func65, Tryz.ntmps65;go_wp2_with (go_at_call 46;refine HCK.out.mono ?_;rintro e w5 ⟨rfl,hb5⟩;have hbox5:=zo hbox hb5;have hbl5:=Below.trans' hbl hb5 hbl.size;have hw5:=hbox5.lt;obtain ⟨hc1,hc2⟩:=qy hbox5)
 have hrow5:=ziQ w5 l.length 96 w5.heap.size rfl;have hbl6:=hbl5.alloc (Nat.le_of_lt hw5) (.cells (madeCells #[.int .u64 0,.int .u64 0] (l.length*2)) 96);clear hbox hbl HCK hb5 hbox5 hc1 hc2 hmk hbl5;go_loopw [18] (fun t wr=>∃ k:Nat,k≤l.length∧t = .int .i64 k∧wr.rowIs w5.heap.size 96 (l.length*2) (qe (own (l.take k)))∧Below w.heap.size w wr) (fun t _=>l.length-(intOf t).toNat)
 case atStart=>exact ⟨0,by omega,rfl,hrow5,hbl6⟩
 case round =>
  clear hrow5 hbl6;obtain ⟨k,hk,rfl,hrow,hbl⟩:=hrel;have hg:=hrow.lt;by_cases hlt:k<l.length
  ·obtain ⟨b,o,rfl,hbB,hcs⟩:=hN (by omega);have hnd:=hcs k hlt;clear hcs;have ht:=jT yT l k hlt;have hfk:=HF.out k hlt;obtain ⟨x,hx⟩:∃ x,l[k]=x:=⟨_,rfl⟩;rw [hx] at hnd ht hfk;have HT:=zb ht;clear ht hx;have hin:=formed_ins hfk;have HIN:=zb hin;clear hin hfk;obtain ⟨hk1,hk2,⟨A',c',hk3,hrd⟩,hr1,hr2,hr3,hr4⟩:=hnd;replace hk1:=zB hbl hbB hk1;replace hk2:=zB hbl hbB hk2;replace hk3:=zB hbl hbB hk3;have HRD:=zb hrd;clear hrd;obtain ⟨L,hL⟩:∃ L,own (l.take k)=L:=⟨_,rfl⟩;have hLl:L.length=k:=by rw [← hL];exact yA _ _ _ (by omega)
   rw [hL] at hrow
   change Hid (own (l.take (k+1))=own (l.take k)++[yT (own (l.take k)) x]) at HT
   rw [hL] at HT;clear hL;obtain ⟨hl1,hl2⟩:=hr2;obtain ⟨W1,hW1⟩:∃ W1,(wr.alloc (.cells #[.int .i64 x.kind,.int .i64 x.lit,.slice A' x.ins.length c'] 66)).alloc (.cells #[.int .i64 (zQ x.lit)] 3)=W1:=⟨_,rfl⟩;have hbW:Below wr.heap.size wr W1:=by rw [← hW1];exact ((zx _ _).alloc (zu _) _).alloc (by simp) _
   have hzW:W1.heap.size=wr.heap.size+1+1:=by rw [← hW1];simp
   have hnb:W1.cell? ⟨wr.heap.size,2,none⟩=some (.slice A' x.ins.length c'):=by rw [← hW1];exact cellNew2 wr #[.int .i64 x.kind,.int .i64 x.lit,.slice A' x.ins.length c'] _ _ 2 _ rfl
   have hof:Calls Tryz.prog 116 #[.slice (some ⟨wr.heap.size+1,0,none⟩) 1 1] W1 fun e w'=>e = .returned (qm (zZ 0 (zQ x.lit)))∧Below W1.heap.size W1 w':=of_list W1 (some ⟨wr.heap.size+1,0,none⟩) 1 [zQ x.lit] (by simp) (fun _=>⟨wr.heap.size+1,0,rfl,by omega,fun i hi=>by
    have:i=0:=by simp at hi;omega
    subst this;rw [← hW1];exact zV (qF (wr.alloc _) (.int .i64 (zQ x.lit)) _ _ (by simp))⟩)
   have HOF:=zb hof;clear hof;have HBW:=zb hbW;clear hbW;have HW1:=zb hW1;clear hW1;go_wp2_with (first
    | (go_at_call 117;(with_reducible refine (zda _ _ hl1 hl2).mono ?_);rintro e w6 ⟨rfl,rfl⟩)
    | (go_at_call 116;rw [HW1.out];(with_reducible refine HOF.out.mono ?_);rintro e w6 ⟨rfl,hb6⟩
       have hrow6:=zd8 (zo hrow HBW.out) hb6 (by omega);have hbl6:=Below.trans' (Below.trans' hbl HBW.out hbl.size) hb6 (by have:=hbl.size;omega);have hnb6:=zB hb6 (by omega) hnb;have hz6:=hb6.size;obtain ⟨hs1,hs2,hs3,hs4⟩:=qE hrow6 k (by omega)))
   have hst:=ziP hrow6 k (zZ 0 (zQ x.lit)) hLl.symm;have hbs:=(hbl6.setCell (p:=⟨w5.heap.size,k*2,none⟩) (Nat.le_of_lt hw5) (.int .u64 (lo (zZ 0 (zQ x.lit)):Int))).setCell (p:=⟨w5.heap.size,k*2+1,none⟩) (Nat.le_of_lt hw5) (.int .u64 (hi (zZ 0 (zQ x.lit)):Int));clear hrow6 hbl6 hs1 hs2 hs3 hs4 hrow hbl HOF HBW HW1 hnb hnb6 hk1 hk2 hk3;go_loopw [34] (fun t wq=>∃ m:Nat,m≤x.ins.length∧t = .int .i64 m∧wq.rowIs w5.heap.size 96 (l.length*2) (qe (L++[(x.ins.take m).foldl (fun s k=>s ||| L.getD k.toNat 0) (zZ 0 (zQ x.lit))]))∧Below w.heap.size w wq) (fun t _=>x.ins.length-(intOf t).toNat)
   case atStart=>exact ⟨0,by omega,rfl,hst,hbs⟩
   case round =>
    clear hst hbs;obtain ⟨m,hm,rfl,hrow,hbl⟩:=hrel;have hg2:=hrow.lt;by_cases hmlt:m<x.ins.length
    ·obtain ⟨b',o',rfl,hbB',hcs⟩:=HRD.out (by omega);have hc:=zB hbl hbB' (hcs m hmlt);clear hcs;unfold zO at hc;obtain ⟨j,hj1,hj2⟩:=HIN.out m hmlt;rw [hj1] at hc;have hft:(x.ins.take (m+1)).foldl (fun s k=>s ||| L.getD k.toNat 0) (zZ 0 (zQ x.lit))=(x.ins.take m).foldl (fun s k=>s ||| L.getD k.toNat 0) (zZ 0 (zQ x.lit)) ||| L.getD j 0:=by
      have ht:x.ins.take (m+1)=x.ins.take m++[x.ins[m]]:=List.take_succ_eq_append_getElem hmlt;have he:x.ins[m]=(j:Int):=by rw [← hj1];simp [List.getD,hmlt]
      rw [ht,List.foldl_append,he];rfl
     have HFT:=zb hft;clear hft hj1;obtain ⟨s,hs⟩:∃ s,(x.ins.take m).foldl (fun s k=>s ||| L.getD k.toNat 0) (zZ 0 (zQ x.lit))=s:=⟨_,rfl⟩;rw [hs] at hrow HFT;clear hs;have hsj:(L++[s]).getD j 0=L.getD j 0:=by rw [jm,if_neg (by omega)]
     have hsk:(L++[s]).getD k 0=s:=by rw [jm,if_pos hLl.symm]
     obtain ⟨hs1,hs2,hs3,hs4⟩:=qE hrow k (by omega);obtain ⟨hs5,hs6,_,_⟩:=qE hrow j (by omega);rw [hsj] at hs5 hs6;rw [hsk] at hs1 hs2;clear hsj hsk;obtain ⟨sj,hsj⟩:∃ sj,L.getD j 0=sj:=⟨_,rfl⟩;rw [hsj] at hs5 hs6 HFT;have hi1:(0:Int)≤(j:Int):=by omega
     have hi2:(j:Int)<(l.length:Int):=by omega
     have hi3:(k:Int)<(l.length:Int):=by omega
     have hsj':(L++[s]).getD j 0=sj:=by rw [jm,if_neg (by omega),hsj]
     have hsk':(L++[s]).getD k 0=s:=by rw [jm,if_pos hLl.symm]
     have HSJ:=zb hsj';have HSK:=zb hsk';clear hsj hsj' hsk';go_wp2_with fail
     have hrow':=hrow.drew;have hbl':Below w.heap.size w wr.drew:=qV hbl 1
     go_region_law (
      go_simp;go_at_call 67;(with_reducible refine (zgX _ s sj).mono ?_);rintro e w8 ⟨rfl,hb8⟩;have hrow8:=zo hrow' hb8;have hbl8:=zw hbl' hb8 hbl'.size;obtain ⟨hk1,hk2,hf1,hf2⟩:=qE hrow8 k (by omega))
     all_goals
      try go_wp2
      go_roundw
      case rel =>
       refine ⟨m+1,by omega,by go_num,?_,(hbl8.setCell (Nat.le_of_lt hw5) _).setCell (Nat.le_of_lt hw5) _⟩;rw [HFT.out];exact ziR hrow8 k _ hLl.symm
      case measure=>simp [intOf];omega
    ·obtain rfl:m=x.ins.length:=by omega
     go_wp2;go_roundw
     case rel =>
      refine ⟨k+1,by omega,by go_num,?_,hbl⟩;rw [HT.out];rw [List.take_length] at hrow;exact hrow
     case measure=>simp [intOf];omega
  ·obtain rfl:k=l.length:=by omega
   go_wp2;go_ret;rw [List.take_length] at hrow;exact ⟨_,rfl,Nat.le_of_lt hw5,hrow,hbl⟩
end Go.Proofs.YtmhllppjcilllaaGreatDoor
end
section
open Go Go.RowKit Cs
namespace Cs
def apart (O:List Nat):Nat→List Int→Bool
 | _,[]=>true
 | s,k::ks=>if s &&& O.getD k.toNat 0=0 then apart O (s ||| O.getD k.toNat 0) ks else false
def yD (O:List Nat):List Nd→Bool
 | []=>true
 | x::xs=>if x.kind=3 then apart O 0 x.ins&&yD O xs else yD O xs
def qt (N:Nt):Bool:=yD (own N.l) N.l
end Cs
namespace Go.Proofs.YtmhllppjcilllaaGreatDoor
theorem eq_set (a b c d:Int) (w:World):(Op.equalIn 10000 96 (.agg #[.int .u64 a,.int .u64 b]) (.agg #[.int .u64 c,.int .u64 d])).run Tryz.prog w = .ok (a==c&&b==d) w:=by
 have u3:=Tryz.underlying64;have a3:=Tryz.isAgg64;have z3:=Tryz.sizeOf64;rw [show (10000:Nat)=9999+1 from rfl,Op.equalIn];simp only [Sem.run_bind,run_underlying Tryz.underlying96,Result.andThen_ok];simp only [Std.Legacy.Range.forIn_eq_forIn_range',Std.Legacy.Range.size,Nat.sub_zero,Nat.add_sub_cancel,Nat.div_one,List.range'_succ,List.range'_zero,List.forIn_cons,List.forIn_nil];go_simp;by_cases h1:a=c <;> by_cases h2:b=d <;> simp [h1,h2]
theorem eq_zero (s:Nat) (hs:qD s) (w:World):(Op.equalIn 10000 96 (.agg #[.int .u64 (lo s:Int),.int .u64 (hi s:Int)]) (.agg #[.int .u64 0,.int .u64 0])).run Tryz.prog w = .ok (decide (s=0)) w:=by
 rw [eq_set];congr 1;rw [Bool.eq_iff_iff];simp only [Bool.and_eq_true,beq_iff_eq,decide_eq_true_eq];constructor
 ·rintro ⟨h1,h2⟩;have:=set_eq s hs;have h3:lo s=0:=by omega
  have h4:hi s=0:=by omega
  rw [h3,h4] at this;omega
 ·rintro rfl;exact ⟨rfl,rfl⟩
theorem zen (w:World) (N:Nt) (A:Option Addr) (c:Nat) (hN:NtAt w w.heap.size A N.l) (hv:zG N=true) :
  Calls Tryz.prog 25 #[qg N A c] w fun e w'=>e = .returned (.bool (qt N))∧Below w.heap.size w w':=by
 obtain ⟨hn0,hn1,hl0,hl1⟩:=qN hv;have hck:je N=0:=by unfold je;rw [hv];rfl
 have hfm:=fun k hk=>jn hv k hk;have hnc:=fun W h=>zbs W N A c (by omega) h;have hnv:=fun W h=>zcL W N A c h hv;rw [hck] at hnc;have HNC:=zb hnc;clear hnc;have HNV:=zb hnv;clear hnv;obtain ⟨n,l⟩:=N;simp only at hN hn0 hn1 hl0 hl1 hfm;have HF:=zb hfm;clear hfm hv hck;have hbox:=yQ w ⟨n,l⟩ A c 24 _ rfl;have hbl:Below w.heap.size w (w.alloc (.cells #[.int .i64 n,.slice A l.length c] 24)):=(zx _ _).alloc (zu _) _;go_enter Tryz.func25, Tryz.ntmps25;go_wp2_with (first
  | (go_at_call 46
     (with_reducible refine (HNC.out _ ((hN.below hbl).more hbl.size)).mono ?_);rintro e w5 ⟨rfl,hb5⟩;have hbox5:=zo hbox hb5;have hbl5:=zw hbl hb5 hbl.size;have hw5:=hbox5.lt;obtain ⟨hc1,hc2⟩:=qy hbox5)
  | (go_at_call 65
     (with_reducible refine (HNV.out _ ((hN.below hbl5).more hbl5.size)).mono ?_);rintro e w6 ⟨g,rfl,hg,hrow6,hb6⟩;have hbox6:=zo hbox5 hb6;have hbl6:=zw hbl5 hb6 hbl5.size;obtain ⟨hc3,hc4⟩:=qy hbox6))
 clear hbox hbl HNC HNV hb5 hbox5 hc1 hc2 hbl5 hbox6 hb6 hc3 hc4;obtain ⟨O,hO⟩:∃ O,own l=O:=⟨_,rfl⟩;have hdc:qt ⟨n,l⟩=yD O l:=by unfold qt;rw [hO]
 have hOl:O.length=l.length:=by rw [← hO];exact zdt l
 rw [hO] at hrow6;have hOs:∀ j,qD (O.getD j 0):=by rw [← hO];exact zgt l
 have HOS:=zb hOs;have HDC:=zb hdc;clear hdc hO hOs;go_loopw [17] (fun t wr=>∃ k:Nat,k≤l.length∧t = .int .i64 k∧Hid (yD O l=yD O (l.drop k))∧wr.rowIs g 96 (l.length*2) (qe O)∧Below w.heap.size w wr) (fun t _=>l.length-(intOf t).toNat)
 case atStart=>exact ⟨0,by omega,rfl,rfl,hrow6,hbl6⟩
 case round =>
  clear hrow6 hbl6;obtain ⟨k,hk,rfl,HD,hrow,hbl⟩:=hrel;by_cases hlt:k<l.length
  ·obtain ⟨b,o,rfl,hbB,hcs⟩:=hN (by omega);have hnd:=hcs k hlt;clear hcs;have hfk:=HF.out k hlt;have hdr:l.drop k=l[k]::l.drop (k+1):=List.drop_eq_getElem_cons hlt;obtain ⟨x,hx⟩:∃ x,l[k]=x:=⟨_,rfl⟩;rw [hx] at hnd hfk hdr;have HDR:=zb hdr;clear hdr hx;have hin:=formed_ins hfk;have HIN:=zb hin;clear hin hfk;obtain ⟨hk1,hk2,⟨A',c',hk3,hrd⟩,hr1,hr2,hr3,hr4⟩:=hnd;replace hk1:=zB hbl hbB hk1;replace hk2:=zB hbl hbB hk2;replace hk3:=zB hbl hbB hk3;have HRD:=zb hrd;clear hrd;by_cases h3:x.kind=3
   ·rw [h3] at hk1;have hd:yD O l=(apart O 0 x.ins&&yD O (l.drop (k+1))):=by
     rw [HD.out,HDR.out];show (if _ then _ else _)=_;rw [if_pos h3]
    have HD2:=zb hd;clear hd h3;have hz:=hrow.lt;have hz2:=hbl.size;go_wp2;have hs0:=zdS (wr.alloc (.cells #[.int .i64 3,.int .i64 x.lit,.slice A' x.ins.length c'] 66)) 96 (wr.heap.size+1) (by simp);have hr0:=(hrow.alloc (.cells #[.int .i64 3,.int .i64 x.lit,.slice A' x.ins.length c'] 66)).alloc (.cells #[.int .u64 0,.int .u64 0] 96);have hb0:=(hbl.alloc hz2 (.cells #[.int .i64 3,.int .i64 x.lit,.slice A' x.ins.length c'] 66)).alloc (by simp;omega) (.cells #[.int .u64 0,.int .u64 0] 96);obtain ⟨W0,rfl⟩:∃ W0,W0=wr:=⟨wr,rfl⟩;clear hrow hbl hk1 hk2 hk3;go_loopw [27] (fun t wq=>∃ m s:Nat,m≤x.ins.length∧t = .int .i64 m∧Hid (apart O 0 x.ins=apart O s (x.ins.drop m)∧qD s)∧wq.rowIs (W0.heap.size+1) 96 2 (pJ s)∧wq.rowIs g 96 (l.length*2) (qe O)∧Below w.heap.size w wq) (fun t _=>x.ins.length-(intOf t).toNat)
    case atStart=>exact ⟨0,0,by omega,rfl,⟨rfl,zdb⟩,hs0,hr0,hb0⟩
    case round =>
     clear hs0 hr0 hb0;obtain ⟨m,s,hm,rfl,HP,hset,hrow,hbl⟩:=hrel;by_cases hmlt:m<x.ins.length
     ·obtain ⟨b',o',rfl,hbB',hcs⟩:=HRD.out (by omega);have hc:=zB hbl hbB' (hcs m hmlt);clear hcs;unfold zO at hc;obtain ⟨j,hj1,hj2⟩:=HIN.out m hmlt;rw [hj1] at hc;have hdr:x.ins.drop m=(j:Int)::x.ins.drop (m+1):=by
       rw [List.drop_eq_getElem_cons hmlt];congr 1;rw [← hj1];simp [List.getD,hmlt]
      have hi1:(0:Int)≤(j:Int):=by omega
      have hi2:(j:Int)<(l.length:Int):=by omega
      obtain ⟨hs1,hs2,hs3,hs4⟩:=yF hset;obtain ⟨hs5,hs6,_,_⟩:=qE hrow j (by omega);have hap:apart O 0 x.ins=(if s &&& O.getD j 0=0 then apart O (s ||| O.getD j 0) (x.ins.drop (m+1)) else false):=by
       rw [HP.out.1,hdr];rfl
      obtain ⟨sj,hsj⟩:∃ sj,O.getD j 0=sj:=⟨_,rfl⟩;rw [hsj] at hs5 hs6 hap;have hsjs:qD sj:=by rw [← hsj];exact HOS.out j
      have hsu:qD (s ||| sj):=zg1 HP.out.2 hsjs;have heq:=eq_zero (s &&& sj) (zh6 HP.out.2);have HSU:=zb hsu;clear hdr hj1 hsjs hsu;have hrow':=hrow.drew;have hset':=hset.drew;have hbl':Below w.heap.size w wr.drew:=qV hbl 1;have hhz:=hset.lt;by_cases h0:s &&& sj=0
      ·rw [if_pos h0] at hap;rw [decide_eq_true h0] at heq;have HAP:=zb hap;have HSJ:=zb hsj;clear hap hsj h0;go_wp2_with fail
       go_region_law (
        go_simp;go_at_call 66;(with_reducible refine (oe _ s sj).mono ?_);rintro e w8 ⟨rfl,hb8⟩;have hrow8:=zo hrow' hb8;have hset8:=zo hset' hb8;have hbl8:=zw hbl' hb8 hbl'.size)
       all_goals
        obtain ⟨hs1,hs2,hs3,hs4⟩:=yF hset8;obtain ⟨hs5,hs6,_,_⟩:=qE hrow8 j (by omega);rw [HSJ.out] at hs5 hs6;have hrow8':=hrow8.drew;have hset8':=hset8.drew;have hbl8':Below w.heap.size w w8.drew:=qV hbl8 1;try go_wp2_with fail
        go_region_law (
         go_simp;go_at_call 67;(with_reducible refine (zgX _ s sj).mono ?_);rintro e w9 ⟨rfl,hb9⟩;have hrow9:=zo hrow8' hb9;have hset9:=zo hset8' hb9;have hbl9:=zw hbl8' hb9 hbl8'.size;obtain ⟨hp1,hp2,hp3,hp4⟩:=yF hset9)
        all_goals
         try go_wp2
         go_roundw
         case rel =>
          refine ⟨m+1,s ||| sj,by omega,by go_num,⟨HAP.out,HSU.out⟩,zeJ hset9 _,(hrow9.setOther (by simp;omega) _).setOther (by simp;omega) _,(hbl9.setCell (by simp;omega) _).setCell (by simp;omega) _⟩
         case measure=>simp [intOf];omega
      ·rw [if_neg h0] at hap;rw [decide_eq_false h0] at heq;have HAP:=zb hap;have HSJ:=zb hsj;clear hap hsj h0;go_wp2_with fail
       go_region_law (
        go_simp;go_at_call 66;(with_reducible refine (oe _ s sj).mono ?_);rintro e w8 ⟨rfl,hb8⟩;have hbl8:=zw hbl' hb8 hbl'.size)
       all_goals
        try go_wp2_with fail
        go_ret;refine ⟨?_,hbl8⟩;rw [HDC.out,HD2.out,HAP.out];rfl
     ·obtain rfl:m=x.ins.length:=by omega
      have hap:=HP.out.1;rw [List.drop_length] at hap
      change apart O 0 x.ins=true at hap
      have hd:=HD2.out;rw [hap,Bool.true_and] at hd;have HD3:=zb hd;clear hap hd;go_wp2;go_roundw
      case rel =>
       exact ⟨k+1,by omega,by go_num,HD3.out,hrow,hbl⟩
      case measure=>simp [intOf];omega
   ·have hd:yD O l=yD O (l.drop (k+1)):=by
     rw [HD.out,HDR.out];show (if _ then _ else _)=_;rw [if_neg h3]
    have HD2:=zb hd;clear hd;have hb3:(x.kind==3)=false:=beq_eq_false_iff_ne.2 h3;go_wp2;go_roundw
    case rel =>
     refine ⟨k+1,by omega,by go_num,HD2.out,hrow.alloc _,hbl.alloc hbl.size _⟩
    case measure=>simp [intOf];omega
  ·obtain rfl:k=l.length:=by omega
   have hd:=HD.out;rw [List.drop_length] at hd;have HD2:=zb hd;clear hd;go_wp2;go_ret;refine ⟨?_,hbl⟩;rw [HDC.out,HD2.out];rfl
end Go.Proofs.YtmhllppjcilllaaGreatDoor
end
section
open Go Go.RowKit Cs
namespace Go.Proofs.YtmhllppjcilllaaGreatDoor
theorem vlist_rd (w:World) (s:Nat) (hT:Tab w):Calls Tryz.prog 99 #[qm s] w fun e w' =>
  ∃ A c,e = .returned (.slice A (vl s).length c)∧Rd w' w'.heap.size A (vl s).length (zO (vl s))∧Below w.heap.size w w':=by
 refine (zgV w s hT).mono ?_;rintro e w' ⟨v,rfl,how,hb⟩;rcases Nat.eq_zero_or_pos (vl s).length with h | h
 ·have h2:=how.2;rcases h2 with ⟨rfl,h3⟩ | ⟨g,cap,cur,hv,hb',hg,_⟩
  ·exact ⟨none,0,by rw [h],by rw [h];exact Rd.zero _ _ _ _,hb⟩
  ·exact ⟨some ⟨g,0,none⟩,cap,by rw [hv],by rw [h];exact Rd.zero _ _ _ _,hb⟩
 ·obtain ⟨g,cap,rfl,h1,h2⟩:=yX how h;refine ⟨some ⟨g,0,none⟩,cap,rfl,Rd.of_own how fun i hi=>?_,hb⟩;rw [List.getElem?_map,List.getElem?_eq_getElem hi];unfold zO;simp [List.getD,hi]
end Go.Proofs.YtmhllppjcilllaaGreatDoor
end
section
open Go Go.RowKit Cs
namespace Go.Proofs.YtmhllppjcilllaaGreatDoor
theorem o8 (w:World) (s:Nat) (hT:Tab w):Calls Tryz.prog 99 #[qm s] w fun e w' =>
  ∃ A c,e = .returned (.slice A (vl s).length c)∧Rd w' w'.heap.size A (vl s).length (zO (vl s))∧(∀ b o,A=some ⟨b,o,none⟩→w.heap.size≤b)∧Below w.heap.size w w':=by
 refine (zgV w s hT).mono ?_;rintro e w' ⟨v,rfl,how,hb⟩;rcases Nat.eq_zero_or_pos (vl s).length with h | h
 ·have h2:=how.2;rcases h2 with ⟨rfl,h3⟩ | ⟨g,cap,cur,hv,hb',hg,_⟩
  ·exact ⟨none,0,by rw [h],by rw [h];exact Rd.zero _ _ _ _,(fun _ _ h=>by cases h),hb⟩
  ·exact ⟨some ⟨g,0,none⟩,cap,by rw [hv],by rw [h];exact Rd.zero _ _ _ _,(fun _ _ h=>by cases h;exact hb'),hb⟩
 ·obtain ⟨g,cap,rfl,h1,h2⟩:=yX how h;refine ⟨some ⟨g,0,none⟩,cap,rfl,Rd.of_own how fun i hi=>?_,(fun _ _ h=>by cases h;exact h1),hb⟩;rw [List.getElem?_map,List.getElem?_eq_getElem hi];unfold zO;simp [List.getD,hi]
theorem zfD {w:World} {B:Nat} {A:Option Addr} {n:Nat} {f:Nat→Value} (h:Rd w B A n f) (a:Addr) (v:Value) (hne:∀ b o,A=some ⟨b,o,none⟩→b≠a.block):Rd (w.setCell a v) B A n f:=fun hn=>by
 obtain ⟨b,o,hA,hb,hc⟩:=h hn;exact ⟨b,o,hA,hb,fun i hi=>(World.cell?_setCell_far _ _ _ _ (by have:=hne b o hA;exact fun e=>this e.symm)).trans (hc i hi)⟩
end Go.Proofs.YtmhllppjcilllaaGreatDoor
end
section
open Go Go.RowKit Cs
namespace Cs
structure Rg (α:Type) where
 zero:α
 one:α
 add:α→α→α
 mul:α→α→α
 lit:Int→α
 both:Int→α
namespace Rg
variable {α:Type} (R:Rg α)
def wide (x:α) (vs:List Int):α:=vs.foldl (fun x v=>R.mul x (R.both v)) x
def gap (O:List Nat) (acc:List α) (all:Nat) (k:Nat):α:=R.wide (acc.getD k R.zero) (vl (zP all (O.getD k 0)))
def start (x:Nd):α:=if x.kind=2 then R.lit x.lit else if x.kind=1∨x.kind=3 then R.one else R.zero
def in1 (O:List Nat) (acc:List α) (x:Nd) (s:α) (k:Int):α:=if x.kind=1∨x.kind=3 then R.mul s (acc.getD k.toNat R.zero) else R.add s (R.gap O acc (O.getD acc.length 0) k.toNat)
def step (O:List Nat) (acc:List α) (x:Nd):α:=x.ins.foldl (R.in1 O acc x) (R.start x)
def all (O:List Nat) (l:List Nd):List α:=scan (R.step O) [] l
def sum (N:Nt):α:=R.gap (own N.l) (R.all (own N.l) N.l) (qo N.n) (N.l.length-1)
end Rg
structure Rl {α β:Type} (R:Rg α) (S:Rg β) (r:α→β→Prop):Prop where
 zero:r R.zero S.zero
 one:r R.one S.one
 add:∀ a b c d,r a b→r c d→r (R.add a c) (S.add b d)
 mul:∀ a b c d,r a b→r c d→r (R.mul a c) (S.mul b d)
 lit:∀ l,r (R.lit l) (S.lit l)
 both:∀ v,r (R.both v) (S.both v)
section
variable {α β:Type} {R:Rg α} {S:Rg β} {r:α→β→Prop}
def RLs (R:Rg α) (S:Rg β) (r:α→β→Prop) (p:List α) (q:List β):Prop:=p.length=q.length∧∀ j,r (p.getD j R.zero) (q.getD j S.zero)
theorem RLs.nil (h:Rl R S r):RLs R S r [] []:=⟨rfl,fun j=>by simpa using h.zero⟩
theorem RLs.snoc {p:List α} {q:List β} {a:α} {b:β} (h:Rl R S r) (hl:RLs R S r p q) (ha:r a b):RLs R S r (p++[a]) (q++[b]):=by
 obtain ⟨h1,h2⟩:=hl;refine ⟨by simp [h1],fun j=>?_⟩;rw [List.getD_eq_getElem?_getD,List.getD_eq_getElem?_getD,List.getElem?_append,List.getElem?_append,← h1];split
 ·rw [← List.getD_eq_getElem?_getD,← List.getD_eq_getElem?_getD];exact h2 j
 ·rcases Nat.eq_zero_or_pos (j-p.length) with h3 | h3
  ·rw [h3];exact ha
  ·rw [List.getElem?_eq_none (by simp;omega),List.getElem?_eq_none (by simp;omega)];exact h.zero
theorem Rl.wide (h:Rl R S r):∀ (vs:List Int) (a:α) (b:β),r a b→r (R.wide a vs) (S.wide b vs)
 | [],_,_,hab=>hab
 | v::vs,_,_,hab=>Rl.wide h vs _ _ (h.mul _ _ _ _ hab (h.both v))
theorem Rl.gap (h:Rl R S r) {p:List α} {q:List β} (hl:RLs R S r p q) (O:List Nat) (all k:Nat):r (R.gap O p all k) (S.gap O q all k):=h.wide _ _ _ (hl.2 k)
theorem Rl.start (h:Rl R S r) (x:Nd):r (R.start x) (S.start x):=by
 unfold Rg.start;split
 ·exact h.lit _
 ·split
  ·exact h.one
  ·exact h.zero
theorem Rl.in1 (h:Rl R S r) {p:List α} {q:List β} (hl:RLs R S r p q) (O:List Nat) (x:Nd) {a:α} {b:β} (hab:r a b) (k:Int):r (R.in1 O p x a k) (S.in1 O q x b k):=by
 unfold Rg.in1;split
 ·exact h.mul _ _ _ _ hab (hl.2 _)
 ·rw [hl.1];exact h.add _ _ _ _ hab (h.gap hl _ _ _)
theorem Rl.fold (h:Rl R S r) {p:List α} {q:List β} (hl:RLs R S r p q) (O:List Nat) (x:Nd):∀ (ks:List Int) (a:α) (b:β),r a b→r (ks.foldl (R.in1 O p x) a) (ks.foldl (S.in1 O q x) b)
 | [],_,_,hab=>hab
 | k::ks,_,_,hab=>Rl.fold h hl O x ks _ _ (h.in1 hl O x hab k)
theorem Rl.step (h:Rl R S r) {p:List α} {q:List β} (hl:RLs R S r p q) (O:List Nat) (x:Nd):r (R.step O p x) (S.step O q x):=h.fold hl O x _ _ _ (h.start x)
theorem Rl.scan (h:Rl R S r) (O:List Nat):∀ (l:List Nd) {p:List α} {q:List β},RLs R S r p q→RLs R S r (scan (R.step O) p l) (Cs.scan (S.step O) q l)
 | [],_,_,hl=>hl
 | x::xs,_,_,hl=>Rl.scan h O xs (hl.snoc h (h.step hl O x))
theorem Rl.all (h:Rl R S r) (O:List Nat) (l:List Nd):RLs R S r (R.all O l) (S.all O l):=h.scan O l (RLs.nil h)
theorem Rl.sum (h:Rl R S r) (N:Nt):r (R.sum N) (S.sum N):=h.gap (h.all _ _) _ _ _
end
def R1:Rg Nat:=⟨0,1,(·+·),(·*·),fun _=>1,fun _=>2⟩
def jq:Nat:=4096
theorem zcr:jq=4096:=rfl
attribute [irreducible] jq
def zR:Nat:=2^jq
theorem yr:1<zR:=Nat.one_lt_two_pow (by rw [zcr];decide)
theorem zdO:zR=2^jq:=rfl
attribute [irreducible] zR
def yp (f:Nat→Int→Nat):Nat→List Int→Bool
 | _,[]=>true
 | s,k::ks=>if f s k<zR then yp f (f s k) ks else false
def yy (O:List Nat) (acc:List Nat):List Nd→Bool
 | []=>true
 | x::xs=>yp (R1.in1 O acc x) (R1.start x) x.ins&&yy O (acc++[R1.step O acc x]) xs
def qJ (N:Nt):Bool:=yy (own N.l) [] N.l
theorem zfJ (f:Nat→Int→Nat):∀ (ks:List Int) (s m:Nat),yp f s ks=true→s<zR→(ks.take m).foldl f s<zR
 | [],s,m,_,hs=>by simpa using hs
 | k::ks,s,0,_,hs=>by simpa using hs
 | k::ks,s,m+1,h,hs=>by
   unfold yp at h;split at h
   ·rename_i h1;show (ks.take m).foldl f (f s k)<zR;exact zfJ f ks _ m h h1
   ·cases h
theorem R1_start (x:Nd):R1.start x<zR:=by
 unfold Rg.start R1;simp only;split
 ·exact yr
 ·split
  ·exact yr
  ·exact Nat.lt_trans Nat.zero_lt_one yr
theorem zdl (O:List Nat):∀ (xs ys:List Nd) (acc:List Nat),yy O acc (xs++ys)=(yy O acc xs&&yy O (scan (R1.step O) acc xs) ys)
 | [],ys,acc=>by simp [yy,scan]
 | x::xs,ys,acc=>by
   show (_&&yy O _ (xs++ys))=((_&&_)&&_);rw [zdl O xs ys,Bool.and_assoc];rfl
theorem zdo {N:Nt} (h:qJ N=true) (k:Nat) (hk:k<N.l.length) (m:Nat) :
  (N.l[k].ins.take m).foldl (R1.in1 (own N.l) (scan (R1.step (own N.l)) [] (N.l.take k)) N.l[k]) (R1.start N.l[k])<zR:=by
 unfold qJ at h;have e:N.l=N.l.take k++N.l[k]::N.l.drop (k+1):=by
  rw [← List.drop_eq_getElem_cons hk,List.take_append_drop]
 have h2:yy (own N.l) [] (N.l.take k++N.l[k]::N.l.drop (k+1))=true:=by rw [← e];exact h
 rw [zdl,Bool.and_eq_true] at h2;have h3:=h2.2;unfold yy at h3;rw [Bool.and_eq_true] at h3;exact zfJ _ _ _ _ h3.1 (R1_start _)
theorem zjW {N:Nt} (h:qJ N=true) (k:Nat):(R1.all (own N.l) N.l).getD k 0<zR:=by
 by_cases hk:k<N.l.length
 ·unfold Rg.all;rw [zhf _ _ _ _ hk];have:=zdo h k hk N.l[k].ins.length;rw [List.take_length] at this;exact this
 ·rw [List.getD_eq_getElem?_getD,List.getElem?_eq_none (by unfold Rg.all;rw [zce];simp;omega)];exact Nat.lt_trans Nat.zero_lt_one yr
theorem zi8 (x:Nat) (vs:List Int):R1.wide x vs=x*2^vs.length:=by
 induction vs generalizing x with
 | nil=>simp [Rg.wide]
 | cons v vs ih =>
   show R1.wide (x*2) vs=_;rw [ih,List.length_cons,Nat.pow_succ,Nat.mul_assoc,Nat.mul_comm 2]
theorem zhx (V e m:Nat) (h:V<2^e) (he:e≤8*m):n8 V≤m:=by
 rw [pY,zcE];exact Nat.lt_of_lt_of_le h (Nat.pow_le_pow_right (by decide) he)
theorem n8_big (V:Nat) (h:V<zR*2^200):n8 V≤1000 :=
 zhx V (jq+200) 1000 (by rw [Nat.pow_add,← zdO];exact h) (by rw [zcr];decide)
theorem zdG (V:Nat) (h:V<zR):n8 V≤1000:=n8_big V (Nat.lt_of_lt_of_le h (Nat.le_mul_of_pos_right _ (Nat.two_pow_pos _)))
end Cs
end
