import Derived.Test.YtoljkoifgnmbgaaGreatDoorN3
import Derived.Test.YtoljkoifgnmbgaaGreatDoorKl
set_option linter.unusedSimpArgs false
set_option linter.unusedVariables false
set_option maxRecDepth 100000
set_option maxHeartbeats 8000000
open Go Go.RowKit Cs
namespace Go.Proofs.YtoljkoifgnmbgaaGreatDoor
theorem chp_ok {T:List Int} {D:Nat} (h1:TOk 2 T) (h2:T.length≤1000000) (h3:1<D):SesOk chpN 2 kLoP kHiP T D :=
 ⟨by decide +kernel,by decide +kernel,by decide +kernel,rfl,kP_in,by decide +kernel,h1,h2,h3⟩
section
variable {w:World} {D E:Nat} {g:Sg} {N:Nt} {n:Nat} {lo hi:List Pr} {tv:Value} {T:List Int} {k:Int}
abbrev sesC (N:Nt) (n:Nat) (T:List Int):Nat:=(RL n (cLo n T) (cHi n T)).sum N
abbrev sesW (N:Nt) (n:Nat) (lo hi:List Pr) (T:List Int):Pr:=(RP n (wLo n lo T) (wHi n hi T)).sum N
theorem sesC_small (ok:SesOk N n lo hi T D):n8 (sesC N n T)≤100000:=by
 refine n8_r (RL_wide cLo_le cHi_le _ (RL_all cLo_le cHi_le ok.hs _) _ (vl_length _))
theorem sesW_small (ok:SesOk N n lo hi T D):Sp (sesW N n lo hi T):=by
 obtain ⟨hn0,hn1,hl0,hl1⟩:=vld_bounds ok.hv
 have:=p_wide (ok.wok T) ok.hv ok.hd ok.hs ok.hn N.l.length (zqn _) (N.l.length-1) (by omega) (allTo N.n) (fun x hx=>by
  have:=own_sub ok.hv N.l.length (N.l.length-1) (by omega) (by omega) x hx;rw [allTo_bit]
  exact decide_eq_true (by omega)) 128
 rw [List.take_length,List.take_of_length_le (vl_length _)] at this;exact this
theorem shows_at (h:SesAt w D E g N n lo hi tv T k) (ok:SesOk N n lo hi T D) (hT:Tab w) :
  Calls Tryz.prog 29 #[.pointer (some ⟨g.b,0,none⟩),.string (dec (sesC N n T)),.string (ptext (sesW N n lo hi T).1 (sesW N n lo hi T).2),.int .i64 k] w fun e w'=>e = .returned (.bool true)∧Below w.heap.size w w':=by
 have hco:=fun W (hb:Below w.heap.size w W)=>count_at (h.below hb) ok (hT.below hb);have hwe:=fun W (hb:Below w.heap.size w W)=>weight_at (h.below hb) ok (hT.below hb);have hto:=fun W (hb:Below w.heap.size w W)=>touched_at (h.below hb) ok.hv;have hc8:=sesC_small ok;have hw8:=sesW_small ok;obtain ⟨V,hV⟩:∃ V,sesC N n T=V:=⟨_,rfl⟩;obtain ⟨Q,hQ⟩:∃ Q,sesW N n lo hi T=Q:=⟨_,rfl⟩;simp only [show (RL n (cLo n T) (cHi n T)).sum N=V from hV] at hco;simp only [show (RP n (wLo n lo T) (wHi n hi T)).sum N=Q from hQ] at hwe;rw [hV] at hc8 ⊢;rw [hQ] at hw8 ⊢;obtain ⟨qn,qd⟩:=Q;have htx:=fun W=>text_any W V (by omega);have hqx:=fun W=>qtext_any W qn qd hw8.1 hw8.2;have HCO:=zqh hco;have HWE:=zqh hwe;have HTO:=zqh hto;have HTX:=zqh htx;have HQX:=zqh hqx;clear hco hwe hto hc8 hw8 htx hqx h ok hT hV hQ;have b0:=Below.refl w.heap.size w
 go_enter Tryz.func29, Tryz.ntmps29
 go_wp2_with (first
  | (go_at_call 24;(with_reducible refine (HCO.out _ b0).mono ?_);rintro e w1 ⟨rfl,hb1⟩;have r1:=arrNew w1 #[.string (natB V)] 54 w1.heap.size 1 rfl rfl;have b1:=(zqx b0 hb1 b0.size).alloc (Nat.le_trans b0.size hb1.size) (.cells #[.string (natB V)] 54))
  | (go_at_call 25;(with_reducible refine (HWE.out _ b1).mono ?_);rintro e w2 ⟨rfl,hb2⟩;have r2:=arrNew w2 #[.string (natB qn),.string (natB qd)] 60 w2.heap.size 2 rfl rfl;have r1':=(rowBelow r1 hb2).alloc (.cells #[.string (natB qn),.string (natB qd)] 60);have b2:=(zqx b1 hb2 b1.size).alloc (Nat.le_trans b1.size hb2.size) (.cells #[.string (natB qn),.string (natB qd)] 60);have c1:(w2.alloc (.cells #[.string (natB qn),.string (natB qd)] 60)).cell? ⟨w1.heap.size,0,none⟩=some (.string (natB V)):=r1'.cell (i:=0) (by decide))
  | (go_at_call 68;(with_reducible refine (HTX.out _).mono ?_);rintro e w3 ⟨rfl,hb3⟩;have r2':=rowBelow r2 hb3;have b3:=zqx b2 hb3 b2.size;have c2:w3.cell? ⟨w2.heap.size,0,none⟩=some (.string (natB qn)):=r2'.cell (i:=0) (by decide);have c3:w3.cell? ⟨w2.heap.size,1,none⟩=some (.string (natB qd)):=r2'.cell (i:=1) (by decide))
  | (go_at_call 69;(with_reducible refine (HQX.out _).mono ?_);rintro e w4 ⟨rfl,hb4⟩;have b4:=zqx b3 hb4 b3.size)
  | (go_at_call 27;(with_reducible refine (HTO.out _ b4).mono ?_);rintro e w5 ⟨rfl,rfl⟩))
 all_goals
  go_ret
  exact ⟨by simp,b4⟩
end
theorem str3' {w:World} {g:Nat} {t:TypeId} {a b c:ByteArray} (h:w.rowIs g t 3 (arrF #[.string a,.string b,.string c])):w.rowIs g t 3 (strF [a,b,c]):=h.congr (fun i hi=>by
 match i,hi with
 | 0,_=>rfl
 | 1,_=>rfl
 | 2,_=>rfl)
theorem wt_get' {w:World} {lo hi:List ByteArray} {e:Ending} {w':World} (h:WtsR w lo hi e w') (h1:okL lo lo.length) (h2:okL hi hi.length):Below w.heap.size w w'∧∃ Al Ah cl ch,e = .returned (.tuple #[wtsV Al Ah lo.length hi.length cl ch,.bool (decide (lo.length≤140)&&decide (hi.length≤140))])∧lo.length≤cl∧hi.length≤ch ∧
   Rd w' w'.heap.size Al (lo.length*2) (prsF (prL lo))∧Rd w' w'.heap.size Ah (hi.length*2) (prsF (prL hi)):=by
 obtain ⟨hb,h⟩:=h;rcases h with ⟨hn,_⟩ | ⟨_,h⟩
 ·exact absurd ⟨h1,h2⟩ hn
 ·exact ⟨hb,h⟩
theorem SsAt.lower {w:World} {D D' E:Nat} {g:Sg} {N:Nt} {n:Nat} {lo hi:List Pr} {tv:Value} {T:List Int} {k:Int} {C1 C2 C3:List Nat} {P1 P2 P3:List Pr} (h:SsAt w D E g N n lo hi tv T k C1 C2 C3 P1 P2 P3) (hD:D'≤D):SsAt w D' E g N n lo hi tv T k C1 C2 C3 P1 P2 P3 :=
 { h with ro:=h.ro.wide hD (zqn _),ok:={ h.ok with bD:=Nat.le_trans hD h.ok.bD } }
theorem wt_k {w:World} {e:Ending} {w':World} (h:WtsR w kLo kHi e w'):Below w.heap.size w w'∧∃ Al Ah cl ch,e = .returned (.tuple #[wtsV Al Ah 3 3 cl ch,.bool true])∧3≤cl∧3≤ch ∧
   Rd w' w'.heap.size Al (3*2) (prsF kLoP)∧Rd w' w'.heap.size Ah (3*2) (prsF kHiP):=by
 have:=wt_get' h kLo_ok kHi_ok;rw [kLo_pr,kHi_pr] at this;exact this
def ChpR (w:World) (e:Ending) (w':World):Prop:=∃ g E,e = .returned (.tuple #[.pointer (some ⟨g.b,0,none⟩),.int .i64 0])∧SesAt w' w.heap.size E g chpN 2 kLoP kHiP (.slice none 0 0) [] 0∧Below w.heap.size w w'
theorem chapter_any (w:World) (hT:Tab w):Calls Tryz.prog 28 #[] w (ChpR w):=by
 have r3:=arrNew w #[.int .i64 1,.int .i64 2] 3 w.heap.size 2 rfl rfl;have r4:=arrNew (w.alloc (.cells #[.int .i64 1,.int .i64 2] 3)) #[.int .i64 0,.int .i64 3] 3 (w.heap.size+1) 2 (by simp) rfl;have r5:=arrNew ((w.alloc (.cells #[.int .i64 1,.int .i64 2] 3)).alloc (.cells #[.int .i64 0,.int .i64 3] 3)) (chpNA w.heap.size (w.heap.size+1)) 76 (w.heap.size+1+1) 15 (by simp) rfl;have hnt:=chpN_at (B:=w.heap.size+1+1+1) (by omega) (by omega) ((r3.alloc _).alloc _) (by omega) (r4.alloc _) r5;have hbl:=(((Below.refl w.heap.size w).alloc (zqn _) (.cells #[.int .i64 1,.int .i64 2] 3)).alloc (by simp) (.cells #[.int .i64 0,.int .i64 3] 3)).alloc (by simp;omega) (.cells (chpNA w.heap.size (w.heap.size+1)) 76);have r0:=arrNew (((w.alloc (.cells #[.int .i64 1,.int .i64 2] 3)).alloc (.cells #[.int .i64 0,.int .i64 3] 3)).alloc (.cells (chpNA w.heap.size (w.heap.size+1)) 76)) #[.int .i64 2,.slice (some ⟨w.heap.size+1+1,0,none⟩) 5 5] 24 (w.heap.size+1+1+1) 2 (by simp) rfl;have hbl2:=hbl.alloc (by simp;omega) (.cells #[.int .i64 2,.slice (some ⟨w.heap.size+1+1,0,none⟩) 5 5] 24);have hnt2:=hnt.below ((Below.refl (w.heap.size+1+1+1) _).alloc (by simp) (.cells #[.int .i64 2,.slice (some ⟨w.heap.size+1+1,0,none⟩) 5 5] 24));have HTT:=zqh hT;clear r3 r4 r5 hnt hbl hT
 go_enter Tryz.func28, Tryz.ntmps28
 go_upto_region 1 with (fail)
 go_cut [2] from 5 to 13 (fun p wx=>∃ gn gb,p = .pointer (some ⟨gb,0,none⟩)∧wx.rowIs gb 24 2 (arrF #[.int .i64 2,.slice (some ⟨gn,0,none⟩) 5 5])∧NtAt wx wx.heap.size (some ⟨gn,0,none⟩) chpN.l∧Below w.heap.size w wx)
 case first =>
  go_wp2_with fail
  go_meet
  exact ⟨w.heap.size+1+1,w.heap.size+1+1+1,by simp,r0,hnt2.more (by simp),hbl2⟩
 case rest =>
 clear r0 hnt2 hbl2;obtain ⟨gn,gb,rfl,r0,hnt,hbl⟩:=hcut;have q1:=str3' ((arrNew wc #[.string ⟨#[48]⟩,.string ⟨#[51,47,52]⟩,.string ⟨#[49,47,50]⟩] 9 wc.heap.size 3 rfl rfl).alloc (.cells #[.string ⟨#[48]⟩,.string ⟨#[49,47,52]⟩,.string ⟨#[49,47,50]⟩] 9));have q2:=str3' (arrNew (wc.alloc (.cells #[.string ⟨#[48]⟩,.string ⟨#[51,47,52]⟩,.string ⟨#[49,47,50]⟩] 9)) #[.string ⟨#[48]⟩,.string ⟨#[49,47,52]⟩,.string ⟨#[49,47,50]⟩] 9 (wc.heap.size+1) 3 (by simp) rfl);have hb2:=((Below.refl wc.heap.size wc).alloc (zqn _) (.cells #[.string ⟨#[48]⟩,.string ⟨#[51,47,52]⟩,.string ⟨#[49,47,50]⟩] 9)).alloc (by simp) (.cells #[.string ⟨#[48]⟩,.string ⟨#[49,47,52]⟩,.string ⟨#[49,47,50]⟩] 9);have hws:Calls Tryz.prog 14 #[.slice (some ⟨wc.heap.size,0,none⟩) 3 3,.slice (some ⟨wc.heap.size+1,0,none⟩) 3 3] ((wc.alloc (.cells #[.string ⟨#[48]⟩,.string ⟨#[51,47,52]⟩,.string ⟨#[49,47,50]⟩] 9)).alloc (.cells #[.string ⟨#[48]⟩,.string ⟨#[49,47,52]⟩,.string ⟨#[49,47,50]⟩] 9)) (WtsR _ kLo kHi):=weights_any _ kLo kHi (some ⟨wc.heap.size,0,none⟩) (some ⟨wc.heap.size+1,0,none⟩) 3 3 (by decide) (by decide) (Rd.of_row q1 (zqn _) q1.lt) (Rd.of_row q2 (zqn _) q2.lt) (fun i=>by match i with | 0=>decide | 1=>decide | 2=>decide | i+3=>exact Nat.zero_le _) (fun i=>by match i with | 0=>decide | 1=>decide | 2=>decide | i+3=>exact Nat.zero_le _);have HWS:=zqh hws;have HR0:=zqh r0;have HNT:=zqh hnt;have HBL:=zqh hbl;have HB2:=zqh hb2;clear q1 q2 hws r0 hnt hbl hb2
 go_upto_region 2 with (fail)
 go_cut [3] from 15 to 19 (fun p wx=>∃ gw Al Ah cl ch,p = .pointer (some ⟨gw,0,none⟩)∧wx.rowIs gw 30 2 (arrF #[.slice Al 3 cl,.slice Ah 3 ch])∧3≤cl∧3≤ch∧Rd wx wx.heap.size Al ((2+1)*2) (prsF kLoP)∧Rd wx wx.heap.size Ah ((2+1)*2) (prsF kHiP)∧Below wc.heap.size wc wx)
 case first =>
  go_wp2_with (go_at_call 14;(with_reducible refine HWS.out.mono ?_);rintro e w9 hwr;obtain ⟨hb9,Al,Ah,cl,ch,rfl,g1,g2,g3,g4⟩:=wt_k hwr)
  all_goals
   go_meet
   exact ⟨w9.heap.size,Al,Ah,cl,ch,rfl,arrNew w9 _ _ _ _ rfl rfl,g1,g2,(g3.alloc (zqn _) _).more (by simp),(g4.alloc (zqn _) _).more (by simp),(zqx HB2.out hb9 HB2.out.size).alloc (Nat.le_trans HB2.out.size hb9.size) _⟩
 case rest =>
 obtain ⟨gw,Al,Ah,cl,ch,rfl,rw3,g1,g2,g3,g4,hb3⟩:=hcut;have hbx:=zqx HBL.out hb3 HBL.out.size;have r0:=rowBelow HR0.out hb3;have hnt:=(HNT.out.below hb3).more hb3.size
 have hnw:Calls Tryz.prog 15 #[.agg #[.int .i64 2,.slice (some ⟨gn,0,none⟩) 5 5],.agg #[.slice Al 3 cl,.slice Ah 3 ch]] wc fun e w'=>∃ g E,e = .returned (.tuple #[.pointer (some ⟨g.b,0,none⟩),.int .i64 0])∧SesAt w' wc.heap.size E g chpN 2 kLoP kHiP (.slice none 0 0) [] 0∧Below wc.heap.size wc w' :=
  new_ok wc chpN (some ⟨gn,0,none⟩) 5 2 cl ch kLoP kHiP Al Ah hnt (by decide +kernel) (by decide +kernel) (by decide +kernel) rfl (HTT.out.below hbx) chp_ins kP_in (by decide +kernel) g3 g4 g1 g2
 have HNW:=zqh hnw;have s1:wc.cell? ⟨gb,0,none⟩=some (.int .i64 2):=r0.cell (i:=0) (by decide);have s2:wc.cell? ⟨gb,1,none⟩=some (.slice (some ⟨gn,0,none⟩) 5 5):=r0.cell (i:=1) (by decide);have s3:wc.cell? ⟨gw,0,none⟩=some (.slice Al 3 cl):=rw3.cell (i:=0) (by decide);have s4:wc.cell? ⟨gw,1,none⟩=some (.slice Ah 3 ch):=rw3.cell (i:=1) (by decide);clear hnw hnt g1 g2 g3 g4 r0 rw3
 go_wp2_with (go_at_call 15;(with_reducible refine HNW.out.mono ?_);rintro e w9 ⟨g,E,rfl,hs9,hb9⟩)
 all_goals
  go_ret2
  exact ⟨g,E,rfl,hs9.lower hbx.size,zqx hbx hb9 hbx.size⟩
structure Lv (w:World) (E:Nat) (g:Sg) (N:Nt) (n:Nat) (lo hi:List Pr) (tv:Value) (T:List Int) (k:Int) (W:World):Prop where
 ses:SesAt W w.heap.size E g N n lo hi tv T k
 bl:Below w.heap.size w W
section
variable {w W W':World} {E:Nat} {g:Sg} {N:Nt} {n:Nat} {lo hi:List Pr} {tv:Value} {T:List Int} {k:Int}
theorem Lv.below (h:Lv w E g N n lo hi tv T k W) (hb:Below W.heap.size W W'):Lv w E g N n lo hi tv T k W':=⟨h.ses.below hb,zqx h.bl hb h.bl.size⟩
theorem SsAt.keepBelow {D:Nat} {C1 C2 C3:List Nat} {P1 P2 P3:List Pr} (h:SsAt W D E g N n lo hi tv T k C1 C2 C3 P1 P2 P3) (hk:Keep (g.all tv) W W'):Below D W W' :=
 hk.toBelow (fun x hx=>by
  have h1:=h.ok.bD;have h2:=h.ok.bE;unfold Cs.Sg.all at hx;rcases List.mem_append.1 hx with hx | hx
  ·rcases List.mem_cons.1 hx with rfl | hx
   ·exact h1
   ·have:=h.ok.rE x hx;omega
  ·have:=h.tE' (x:=x) (by simpa using hx)
   omega) (by have:=h.ok.bD;have:=h.ok.bE;have:=h.eU;omega)
theorem Lv.shows (h:Lv w E g N n lo hi tv T k W) (ok:SesOk N n lo hi T w.heap.size) (hT:Tab w) (s1 s2:ByteArray) (m:Int) (e1:dec (sesC N n T)=s1) (e2:ptext (sesW N n lo hi T).1 (sesW N n lo hi T).2=s2) (e3:k=m) :
  Calls Tryz.prog 29 #[.pointer (some ⟨g.b,0,none⟩),.string s1,.string s2,.int .i64 m] W fun e w'=>e = .returned (.bool true)∧Below W.heap.size W w':=by
 subst e1 e2 e3;exact shows_at h.ses ok (hT.below h.bl)
theorem Lv.push (h:Lv w E g N n lo hi tv T k W) (ok:SesOk N n lo hi T w.heap.size) (hT:Tab w) (hlen:T.length<1000000) (l:Int) (hb:litOk l N.n=true) (ht1:l ∉ T) (ht2 : -l ∉ T) :
  Calls Tryz.prog 22 #[.pointer (some ⟨g.b,0,none⟩),.int .i64 l] W fun e w'=>e = .returned (.int .i64 0)∧∃ tv',Lv w E g N n lo hi tv' (T++[l]) (tch N l.natAbs:Nat) w':=by
 refine (push_ok l h.ses ok (hT.below h.bl) hlen hb ht1 ht2).mono ?_;rintro e w' ⟨rfl,tv',q,kp,_⟩;exact ⟨rfl,tv',q,h.bl.trans (h.ses.keepBelow kp)⟩
theorem Lv.pop {l:Int} (h:Lv w E g N n lo hi tv (T++[l]) k W) (ok:SesOk N n lo hi (T++[l]) w.heap.size) (hT:Tab w) :
  Calls Tryz.prog 20 #[.pointer (some ⟨g.b,0,none⟩)] W fun e w'=>e = .returned (.int .i64 0)∧∃ tv',Lv w E g N n lo hi tv' T (tch N l.natAbs:Nat) w':=by
 refine (pop_ok l h.ses ok (hT.below h.bl)).mono ?_;rintro e w' ⟨rfl,tv',q,kp,_⟩;exact ⟨rfl,tv',q,h.bl.trans (h.ses.keepBelow kp)⟩
end
theorem chp_tok1:TOk 2 [2]:=⟨by decide,by decide⟩
theorem chp_tok2:TOk 2 [2,1]:=⟨by decide,by decide⟩
theorem chp_t2:tch chpN 2=3:=by decide +kernel
theorem chp_t1:tch chpN 1=4:=by decide +kernel
theorem chp_c0:dec (sesC chpN 2 [])=⟨#[51]⟩:=by decide +kernel
theorem chp_c1:dec (sesC chpN 2 [2])=⟨#[50]⟩:=by decide +kernel
theorem chp_c2:dec (sesC chpN 2 [2,1])=⟨#[49]⟩:=by decide +kernel
theorem chp_w0:ptext (sesW chpN 2 kLoP kHiP []).1 (sesW chpN 2 kLoP kHiP []).2=⟨#[53,47,56]⟩:=by decide +kernel
theorem chp_w1:ptext (sesW chpN 2 kLoP kHiP [2]).1 (sesW chpN 2 kLoP kHiP [2]).2=⟨#[49,47,50]⟩:=by decide +kernel
theorem chp_w2:ptext (sesW chpN 2 kLoP kHiP [2,1]).1 (sesW chpN 2 kLoP kHiP [2,1]).2=⟨#[49,47,56]⟩:=by decide +kernel
section
variable {w W:World} {E:Nat} {g:Sg} {tv:Value}
theorem chp_show0 (h:Lv w E g chpN 2 kLoP kHiP tv [] 0 W) (hT:Tab w):Calls Tryz.prog 29 #[.pointer (some ⟨g.b,0,none⟩),.string ⟨#[51]⟩,.string ⟨#[53,47,56]⟩,.int .i64 0] W fun e w'=>e = .returned (.bool true)∧Lv w E g chpN 2 kLoP kHiP tv [] 0 w' :=
 (h.shows (chp_ok TOk.nil (by decide) hT.lt) hT _ _ 0 chp_c0 chp_w0 rfl).mono fun e w' h2=>⟨h2.1,h.below h2.2⟩
theorem chp_show3 (h:Lv w E g chpN 2 kLoP kHiP tv [] 3 W) (hT:Tab w):Calls Tryz.prog 29 #[.pointer (some ⟨g.b,0,none⟩),.string ⟨#[51]⟩,.string ⟨#[53,47,56]⟩,.int .i64 3] W fun e w'=>e = .returned (.bool true)∧Lv w E g chpN 2 kLoP kHiP tv [] 3 w' :=
 (h.shows (chp_ok TOk.nil (by decide) hT.lt) hT _ _ 3 chp_c0 chp_w0 rfl).mono fun e w' h2=>⟨h2.1,h.below h2.2⟩
theorem chp_show1 (h:Lv w E g chpN 2 kLoP kHiP tv [2] 3 W) (hT:Tab w):Calls Tryz.prog 29 #[.pointer (some ⟨g.b,0,none⟩),.string ⟨#[50]⟩,.string ⟨#[49,47,50]⟩,.int .i64 3] W fun e w'=>e = .returned (.bool true)∧Lv w E g chpN 2 kLoP kHiP tv [2] 3 w' :=
 (h.shows (chp_ok chp_tok1 (by decide) hT.lt) hT _ _ 3 chp_c1 chp_w1 rfl).mono fun e w' h2=>⟨h2.1,h.below h2.2⟩
theorem chp_show2 (h:Lv w E g chpN 2 kLoP kHiP tv [2,1] 4 W) (hT:Tab w):Calls Tryz.prog 29 #[.pointer (some ⟨g.b,0,none⟩),.string ⟨#[49]⟩,.string ⟨#[49,47,56]⟩,.int .i64 4] W fun e w'=>e = .returned (.bool true)∧Lv w E g chpN 2 kLoP kHiP tv [2,1] 4 w' :=
 (h.shows (chp_ok chp_tok2 (by decide) hT.lt) hT _ _ 4 chp_c2 chp_w2 rfl).mono fun e w' h2=>⟨h2.1,h.below h2.2⟩
theorem chp_push2 {k:Int} (h:Lv w E g chpN 2 kLoP kHiP tv [] k W) (hT:Tab w):Calls Tryz.prog 22 #[.pointer (some ⟨g.b,0,none⟩),.int .i64 2] W fun e w'=>e = .returned (.int .i64 0)∧∃ tv',Lv w E g chpN 2 kLoP kHiP tv' [2] 3 w':=by
 refine (Lv.push h (chp_ok TOk.nil (by decide) hT.lt) hT (by decide) 2 (by decide) (by decide) (by decide)).mono ?_;rintro e w' ⟨h1,tv',h2⟩
 have e3:((tch chpN ((2:Int)).natAbs:Nat):Int)=3:=by
  have:=chp_t2;show ((tch chpN 2:Nat):Int)=3
  rw [this];rfl
 rw [e3] at h2;exact ⟨h1,tv',h2⟩
theorem chp_push1 {k:Int} (h:Lv w E g chpN 2 kLoP kHiP tv [2] k W) (hT:Tab w):Calls Tryz.prog 22 #[.pointer (some ⟨g.b,0,none⟩),.int .i64 1] W fun e w'=>e = .returned (.int .i64 0)∧∃ tv',Lv w E g chpN 2 kLoP kHiP tv' [2,1] 4 w':=by
 refine (Lv.push h (chp_ok chp_tok1 (by decide) hT.lt) hT (by decide) 1 (by decide) (by decide) (by decide)).mono ?_;rintro e w' ⟨h1,tv',h2⟩
 have e3:((tch chpN ((1:Int)).natAbs:Nat):Int)=4:=by
  have:=chp_t1;show ((tch chpN 1:Nat):Int)=4
  rw [this];rfl
 rw [e3] at h2;exact ⟨h1,tv',h2⟩
theorem chp_pop1 {k:Int} (h:Lv w E g chpN 2 kLoP kHiP tv [2,1] k W) (hT:Tab w):Calls Tryz.prog 20 #[.pointer (some ⟨g.b,0,none⟩)] W fun e w'=>e = .returned (.int .i64 0)∧∃ tv',Lv w E g chpN 2 kLoP kHiP tv' [2] 4 w':=by
 refine (Lv.pop (T:=[2]) (l:=1) h (chp_ok chp_tok2 (by decide) hT.lt) hT).mono ?_;rintro e w' ⟨h1,tv',h2⟩
 have e3:((tch chpN ((1:Int)).natAbs:Nat):Int)=4:=by
  have:=chp_t1;show ((tch chpN 1:Nat):Int)=4
  rw [this];rfl
 rw [e3] at h2;exact ⟨h1,tv',h2⟩
theorem chp_pop2 {k:Int} (h:Lv w E g chpN 2 kLoP kHiP tv [2] k W) (hT:Tab w):Calls Tryz.prog 20 #[.pointer (some ⟨g.b,0,none⟩)] W fun e w'=>e = .returned (.int .i64 0)∧∃ tv',Lv w E g chpN 2 kLoP kHiP tv' [] 3 w':=by
 refine (Lv.pop (T:=[]) (l:=2) h (chp_ok chp_tok1 (by decide) hT.lt) hT).mono ?_;rintro e w' ⟨h1,tv',h2⟩
 have e3:((tch chpN ((2:Int)).natAbs:Nat):Int)=3:=by
  have:=chp_t2;show ((tch chpN 2:Nat):Int)=3
  rw [this];rfl
 rw [e3] at h2;exact ⟨h1,tv',h2⟩
theorem chp_twice {k:Int} (h:Lv w E g chpN 2 kLoP kHiP tv [2,1] k W):Calls Tryz.prog 22 #[.pointer (some ⟨g.b,0,none⟩),.int .i64 (-1)] W fun e w'=>e = .returned (.int .i64 4)∧Lv w E g chpN 2 kLoP kHiP tv [2,1] k w' :=
 (push_twice (-1) (by decide) (by decide) h.ses (by decide +kernel) rfl (by decide) (by decide) (by decide)).mono fun e w' h2=>⟨h2.1,h.below h2.2⟩
theorem chp_pop3 {k:Int} (h:Lv w E g chpN 2 kLoP kHiP tv [] k W):Calls Tryz.prog 20 #[.pointer (some ⟨g.b,0,none⟩)] W fun e w'=>e = .returned (.int .i64 8)∧Lv w E g chpN 2 kLoP kHiP tv [] k w' :=
 (pop_none h.ses (by decide +kernel)).mono fun e w' h2=>⟨h2.1,h2.2▸h⟩
end
theorem works_any (w:World) (hT:Tab w):Calls Tryz.prog 13 #[] w fun e w'=>e = .returned (.bool true)∧Below w.heap.size w w':=by
 have HCH:=zqh (chapter_any w hT);have HT:Hid (Tab w):=zqh hT;clear hT
 go_enter Tryz.func13, Tryz.ntmps13
 go_wp2_with (first
  | (go_at_call 28;(with_reducible refine HCH.out.mono ?_);rintro e w1 ⟨g,E,rfl,hs,hb⟩;have a0:=zqh (Lv.mk hs hb);clear hs hb HCH)
  | (go_at_call 29;(with_reducible refine (chp_show0 a0.out HT.out).mono ?_);rintro e w0 ⟨rfl,hx⟩;have a1:=zqh hx;clear hx a0)
  | (go_at_call 22;(with_reducible refine (chp_push2 a1.out HT.out).mono ?_);rintro e w0 ⟨rfl,tv1,hx⟩;have a2:=zqh hx;clear hx a1)
  | (go_at_call 29;(with_reducible refine (chp_show1 a2.out HT.out).mono ?_);rintro e w0 ⟨rfl,hx⟩;have a3:=zqh hx;clear hx a2)
  | (go_at_call 22;(with_reducible refine (chp_push1 a3.out HT.out).mono ?_);rintro e w0 ⟨rfl,tv1,hx⟩;have a4:=zqh hx;clear hx a3)
  | (go_at_call 29;(with_reducible refine (chp_show2 a4.out HT.out).mono ?_);rintro e w0 ⟨rfl,hx⟩;have a5:=zqh hx;clear hx a4)
  | (go_at_call 22;(with_reducible refine (chp_twice a5.out).mono ?_);rintro e w0 ⟨rfl,hx⟩;have a6:=zqh hx;clear hx a5)
  | (go_at_call 20;(with_reducible refine (chp_pop1 a6.out HT.out).mono ?_);rintro e w0 ⟨rfl,tv1,hx⟩;have a7:=zqh hx;clear hx a6)
  | (go_at_call 20;(with_reducible refine (chp_pop2 a7.out HT.out).mono ?_);rintro e w0 ⟨rfl,tv1,hx⟩;have a8:=zqh hx;clear hx a7)
  | (go_at_call 20;(with_reducible refine (chp_pop3 a8.out).mono ?_);rintro e w0 ⟨rfl,hx⟩;have a9:=zqh hx;clear hx a8)
  | (go_at_call 29;(with_reducible refine (chp_show3 a9.out HT.out).mono ?_);rintro e w0 ⟨rfl,hx⟩;have a10:=zqh hx;clear hx a9))
 all_goals
  go_ret
  exact ⟨rfl,a10.out.bl⟩
end Go.Proofs.YtoljkoifgnmbgaaGreatDoor
