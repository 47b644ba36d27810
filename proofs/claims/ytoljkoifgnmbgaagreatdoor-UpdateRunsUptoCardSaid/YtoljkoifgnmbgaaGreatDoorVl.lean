import Derived.Test.YtoljkoifgnmbgaaGreatDoorVj
import Derived.Test.YtoljkoifgnmbgaaGreatDoorKl
set_option linter.unusedSimpArgs false
set_option linter.unusedVariables false
section
set_option maxRecDepth 100000
set_option maxHeartbeats 2000000
open Go Go.RowKit Cs
namespace Go.Proofs.YtoljkoifgnmbgaaGreatDoor
theorem new_err (w:World) (N:Nt) (A:Option Addr) (c ml mh cl ch:Nat) (Al Ah:Option Addr) (R:Int) (hR:R≠0)
  (hck:∀ W,Below w.heap.size w W→Calls Tryz.prog 40 #[ql N A c,jM Al Ah ml mh cl ch] W fun e w'=>e = .returned (.int .i64 R)∧Below W.heap.size W w') :
  Calls Tryz.prog 15 #[ql N A c,jM Al Ah ml mh cl ch] w fun e w'=>e = .returned (.tuple #[.pointer none,.int .i64 R])∧Below w.heap.size w w':=by
 have HCK:=za hck;have h1:(R != 0)=true:=bne_iff_ne.2 hR;have h2:(R==0)=false:=by simpa using hR
 have h3:¬ R=0:=hR;have a3:=((Below.refl w.heap.size w).alloc (zi _) (.cells #[.int .i64 N.n,.slice A N.l.length c] 24)).alloc (by simp) (.cells #[.slice Al ml cl,.slice Ah mh ch] 30);clear hck hR;go_enter Tryz.func15, Tryz.ntmps15;go_wp2_with (go_at_call 40;(with_reducible refine (HCK.out _ a3).mono ?_);rintro e w9 ⟨rfl,hb9⟩)
 all_goals
  go_ret2;exact ⟨rfl,zu a3 hb9 a3.size⟩
end Go.Proofs.YtoljkoifgnmbgaaGreatDoor
end
section
set_option maxRecDepth 100000
set_option maxHeartbeats 8000000
open Go Go.RowKit Cs
namespace Go.Proofs.YtoljkoifgnmbgaaGreatDoor
theorem zeI {T:List Int} {D:Nat} (h1:TOk 2 T) (h2:T.length≤1000000) (h3:1<D):SesOk chpN 2 qG qF T D :=
 ⟨by decide +kernel,by decide +kernel,by decide +kernel,rfl,kP_in,by decide +kernel,h1,h2,h3⟩
section
variable {w:World} {D E:Nat} {g:Sg} {N:Nt} {n:Nat} {lo hi:List Pr} {tv:Value} {T:List Int} {k:Int}
abbrev yq (N:Nt) (n:Nat) (T:List Int):Nat:=(RL n (qC n T) (qE n T)).sum N
abbrev yw (N:Nt) (n:Nat) (lo hi:List Pr) (T:List Int):Pr:=(RP n (qk n lo T) (qm n hi T)).sum N
theorem zlc (ok:SesOk N n lo hi T D):n8 (yq N n T)≤100000:=by
 refine n8_r (zjC zek zel _ (zgQ zek zel ok.hs _) _ (zbe _))
theorem zgx (ok:SesOk N n lo hi T D):Sp (yw N n lo hi T):=by
 obtain ⟨hn0,hn1,hl0,hl1⟩:=qD ok.hv;have:=j7 (ok.wok T) ok.hv ok.hd ok.hs ok.hn N.l.length (zi _) (N.l.length-1) (by omega) (qs N.n) (fun x hx=>by
  have:=zcn ok.hv N.l.length (N.l.length-1) (by omega) (by omega) x hx;rw [zbm];exact decide_eq_true (by omega)) 128
 rw [List.take_length,List.take_of_length_le (zbe _)] at this;exact this
theorem shows_at (h:y6 w D E g N n lo hi tv T k) (ok:SesOk N n lo hi T D) (hT:Tab w) :
  Calls Tryz.prog 29 #[.pointer (some ⟨g.b,0,none⟩),.string (zj (yq N n T)),.string (ptext (yw N n lo hi T).1 (yw N n lo hi T).2),.int .i64 k] w fun e w'=>e = .returned (.bool true)∧Below w.heap.size w w':=by
 have hco:=fun W (hb:Below w.heap.size w W)=>count_at (h.below hb) ok (hT.below hb);have hwe:=fun W (hb:Below w.heap.size w W)=>xB (h.below hb) ok (hT.below hb);have hto:=fun W (hb:Below w.heap.size w W)=>zkW (h.below hb) ok.hv;have hc8:=zlc ok;have hw8:=zgx ok;obtain ⟨V,hV⟩:∃ V,yq N n T=V:=⟨_,rfl⟩;obtain ⟨Q,hQ⟩:∃ Q,yw N n lo hi T=Q:=⟨_,rfl⟩;simp only [show (RL n (qC n T) (qE n T)).sum N=V from hV] at hco;simp only [show (RP n (qk n lo T) (qm n hi T)).sum N=Q from hQ] at hwe;rw [hV] at hc8 ⊢;rw [hQ] at hw8 ⊢;obtain ⟨qn,qd⟩:=Q;have htx:=fun W=>zha W V (by omega);have hqx:=fun W=>zin W qn qd hw8.1 hw8.2;have HCO:=za hco;have HWE:=za hwe;have HTO:=za hto;have HTX:=za htx;have HQX:=za hqx;clear hco hwe hto hc8 hw8 htx hqx h ok hT hV hQ;have b0:=Below.refl w.heap.size w;go_enter Tryz.func29, Tryz.ntmps29;go_wp2_with (first
  | (go_at_call 24;(with_reducible refine (HCO.out _ b0).mono ?_);rintro e w1 ⟨rfl,hb1⟩;have r1:=zU w1 #[.string (zb V)] 54 w1.heap.size 1 rfl rfl;have b1:=(zu b0 hb1 b0.size).alloc (Nat.le_trans b0.size hb1.size) (.cells #[.string (zb V)] 54))
  | (go_at_call 25;(with_reducible refine (HWE.out _ b1).mono ?_);rintro e w2 ⟨rfl,hb2⟩;have r2:=zU w2 #[.string (zb qn),.string (zb qd)] 60 w2.heap.size 2 rfl rfl;have r1':=(zh r1 hb2).alloc (.cells #[.string (zb qn),.string (zb qd)] 60);have b2:=(zu b1 hb2 b1.size).alloc (Nat.le_trans b1.size hb2.size) (.cells #[.string (zb qn),.string (zb qd)] 60);have c1:(w2.alloc (.cells #[.string (zb qn),.string (zb qd)] 60)).cell? ⟨w1.heap.size,0,none⟩=some (.string (zb V)):=r1'.cell (i:=0) (by decide))
  | (go_at_call 68;(with_reducible refine (HTX.out _).mono ?_);rintro e w3 ⟨rfl,hb3⟩;have r2':=zh r2 hb3;have b3:=zu b2 hb3 b2.size;have c2:w3.cell? ⟨w2.heap.size,0,none⟩=some (.string (zb qn)):=r2'.cell (i:=0) (by decide);have c3:w3.cell? ⟨w2.heap.size,1,none⟩=some (.string (zb qd)):=r2'.cell (i:=1) (by decide))
  | (go_at_call 69;(with_reducible refine (HQX.out _).mono ?_);rintro e w4 ⟨rfl,hb4⟩;have b4:=zu b3 hb4 b3.size)
  | (go_at_call 27;(with_reducible refine (HTO.out _ b4).mono ?_);rintro e w5 ⟨rfl,rfl⟩))
 all_goals
  go_ret;exact ⟨by simp,b4⟩
end
theorem str3' {w:World} {g:Nat} {t:TypeId} {a b c:ByteArray} (h:w.rowIs g t 3 (zE #[.string a,.string b,.string c])):w.rowIs g t 3 (qW [a,b,c]):=h.congr (fun i hi=>by
 match i,hi with
 | 0,_=>rfl
 | 1,_=>rfl
 | 2,_=>rfl)
theorem wt_get' {w:World} {lo hi:List ByteArray} {e:Ending} {w':World} (h:WtsR w lo hi e w') (h1:qx lo lo.length) (h2:qx hi hi.length):Below w.heap.size w w'∧∃ Al Ah cl ch,e = .returned (.tuple #[jM Al Ah lo.length hi.length cl ch,.bool (decide (lo.length≤140)&&decide (hi.length≤140))])∧lo.length≤cl∧hi.length≤ch ∧
   Rd w' w'.heap.size Al (lo.length*2) (zT (prL lo))∧Rd w' w'.heap.size Ah (hi.length*2) (zT (prL hi)):=by
 obtain ⟨hb,h⟩:=h;rcases h with ⟨hn,_⟩ | ⟨_,h⟩
 ·exact absurd ⟨h1,h2⟩ hn
 ·exact ⟨hb,h⟩
theorem SsAt.lower {w:World} {D D' E:Nat} {g:Sg} {N:Nt} {n:Nat} {lo hi:List Pr} {tv:Value} {T:List Int} {k:Int} {C1 C2 C3:List Nat} {P1 P2 P3:List Pr} (h:SsAt w D E g N n lo hi tv T k C1 C2 C3 P1 P2 P3) (hD:D'≤D):SsAt w D' E g N n lo hi tv T k C1 C2 C3 P1 P2 P3 :=
 { h with ro:=h.ro.wide hD (zi _),ok:={ h.ok with bD:=Nat.le_trans hD h.ok.bD } }
theorem wt_k {w:World} {e:Ending} {w':World} (h:WtsR w kLo kHi e w'):Below w.heap.size w w'∧∃ Al Ah cl ch,e = .returned (.tuple #[jM Al Ah 3 3 cl ch,.bool true])∧3≤cl∧3≤ch ∧
   Rd w' w'.heap.size Al (3*2) (zT qG)∧Rd w' w'.heap.size Ah (3*2) (zT qF):=by
 have:=wt_get' h kLo_ok kHi_ok;rw [kLo_pr,kHi_pr] at this;exact this
def ChpR (w:World) (e:Ending) (w':World):Prop:=∃ g E,e = .returned (.tuple #[.pointer (some ⟨g.b,0,none⟩),.int .i64 0])∧y6 w' w.heap.size E g chpN 2 qG qF (.slice none 0 0) [] 0∧Below w.heap.size w w'
theorem zj5 (w:World) (hT:Tab w):Calls Tryz.prog 28 #[] w (ChpR w):=by
 have r3:=zU w #[.int .i64 1,.int .i64 2] 3 w.heap.size 2 rfl rfl;have r4:=zU (w.alloc (.cells #[.int .i64 1,.int .i64 2] 3)) #[.int .i64 0,.int .i64 3] 3 (w.heap.size+1) 2 (by simp) rfl;have r5:=zU ((w.alloc (.cells #[.int .i64 1,.int .i64 2] 3)).alloc (.cells #[.int .i64 0,.int .i64 3] 3)) (oZ w.heap.size (w.heap.size+1)) 76 (w.heap.size+1+1) 15 (by simp) rfl;have hnt:=chpN_at (B:=w.heap.size+1+1+1) (by omega) (by omega) ((r3.alloc _).alloc _) (by omega) (r4.alloc _) r5;have hbl:=(((Below.refl w.heap.size w).alloc (zi _) (.cells #[.int .i64 1,.int .i64 2] 3)).alloc (by simp) (.cells #[.int .i64 0,.int .i64 3] 3)).alloc (by simp;omega) (.cells (oZ w.heap.size (w.heap.size+1)) 76);have r0:=zU (((w.alloc (.cells #[.int .i64 1,.int .i64 2] 3)).alloc (.cells #[.int .i64 0,.int .i64 3] 3)).alloc (.cells (oZ w.heap.size (w.heap.size+1)) 76)) #[.int .i64 2,.slice (some ⟨w.heap.size+1+1,0,none⟩) 5 5] 24 (w.heap.size+1+1+1) 2 (by simp) rfl;have hbl2:=hbl.alloc (by simp;omega) (.cells #[.int .i64 2,.slice (some ⟨w.heap.size+1+1,0,none⟩) 5 5] 24);have hnt2:=hnt.below ((Below.refl (w.heap.size+1+1+1) _).alloc (by simp) (.cells #[.int .i64 2,.slice (some ⟨w.heap.size+1+1,0,none⟩) 5 5] 24));have HTT:=za hT;clear r3 r4 r5 hnt hbl hT;go_enter Tryz.func28, Tryz.ntmps28;go_upto_region 1 with (fail)
 go_cut [2] from 5 to 13 (fun p wx=>∃ gn gb,p = .pointer (some ⟨gb,0,none⟩)∧wx.rowIs gb 24 2 (zE #[.int .i64 2,.slice (some ⟨gn,0,none⟩) 5 5])∧NtAt wx wx.heap.size (some ⟨gn,0,none⟩) chpN.l∧Below w.heap.size w wx)
 case first =>
  go_wp2_with fail
  go_meet;exact ⟨w.heap.size+1+1,w.heap.size+1+1+1,by simp,r0,hnt2.more (by simp),hbl2⟩
 case rest =>
 clear r0 hnt2 hbl2;obtain ⟨gn,gb,rfl,r0,hnt,hbl⟩:=hcut;have q1:=str3' ((zU wc #[.string ⟨#[48]⟩,.string ⟨#[51,47,52]⟩,.string ⟨#[49,47,50]⟩] 9 wc.heap.size 3 rfl rfl).alloc (.cells #[.string ⟨#[48]⟩,.string ⟨#[49,47,52]⟩,.string ⟨#[49,47,50]⟩] 9));have q2:=str3' (zU (wc.alloc (.cells #[.string ⟨#[48]⟩,.string ⟨#[51,47,52]⟩,.string ⟨#[49,47,50]⟩] 9)) #[.string ⟨#[48]⟩,.string ⟨#[49,47,52]⟩,.string ⟨#[49,47,50]⟩] 9 (wc.heap.size+1) 3 (by simp) rfl);have hb2:=((Below.refl wc.heap.size wc).alloc (zi _) (.cells #[.string ⟨#[48]⟩,.string ⟨#[51,47,52]⟩,.string ⟨#[49,47,50]⟩] 9)).alloc (by simp) (.cells #[.string ⟨#[48]⟩,.string ⟨#[49,47,52]⟩,.string ⟨#[49,47,50]⟩] 9);have hws:Calls Tryz.prog 14 #[.slice (some ⟨wc.heap.size,0,none⟩) 3 3,.slice (some ⟨wc.heap.size+1,0,none⟩) 3 3] ((wc.alloc (.cells #[.string ⟨#[48]⟩,.string ⟨#[51,47,52]⟩,.string ⟨#[49,47,50]⟩] 9)).alloc (.cells #[.string ⟨#[48]⟩,.string ⟨#[49,47,52]⟩,.string ⟨#[49,47,50]⟩] 9)) (WtsR _ kLo kHi):=zfp _ kLo kHi (some ⟨wc.heap.size,0,none⟩) (some ⟨wc.heap.size+1,0,none⟩) 3 3 (by decide) (by decide) (Rd.of_row q1 (zi _) q1.lt) (Rd.of_row q2 (zi _) q2.lt) (fun i=>by match i with | 0=>decide | 1=>decide | 2=>decide | i+3=>exact Nat.zero_le _) (fun i=>by match i with | 0=>decide | 1=>decide | 2=>decide | i+3=>exact Nat.zero_le _);have HWS:=za hws;have HR0:=za r0;have HNT:=za hnt;have HBL:=za hbl;have HB2:=za hb2;clear q1 q2 hws r0 hnt hbl hb2;go_upto_region 2 with (fail)
 go_cut [3] from 15 to 19 (fun p wx=>∃ gw Al Ah cl ch,p = .pointer (some ⟨gw,0,none⟩)∧wx.rowIs gw 30 2 (zE #[.slice Al 3 cl,.slice Ah 3 ch])∧3≤cl∧3≤ch∧Rd wx wx.heap.size Al ((2+1)*2) (zT qG)∧Rd wx wx.heap.size Ah ((2+1)*2) (zT qF)∧Below wc.heap.size wc wx)
 case first =>
  go_wp2_with (go_at_call 14;(with_reducible refine HWS.out.mono ?_);rintro e w9 hwr;obtain ⟨hb9,Al,Ah,cl,ch,rfl,g1,g2,g3,g4⟩:=wt_k hwr)
  all_goals
   go_meet;exact ⟨w9.heap.size,Al,Ah,cl,ch,rfl,zU w9 _ _ _ _ rfl rfl,g1,g2,(g3.alloc (zi _) _).more (by simp),(g4.alloc (zi _) _).more (by simp),(zu HB2.out hb9 HB2.out.size).alloc (Nat.le_trans HB2.out.size hb9.size) _⟩
 case rest =>
 obtain ⟨gw,Al,Ah,cl,ch,rfl,rw3,g1,g2,g3,g4,hb3⟩:=hcut;have hbx:=zu HBL.out hb3 HBL.out.size;have r0:=zh HR0.out hb3;have hnt:=(HNT.out.below hb3).more hb3.size;have hnw:Calls Tryz.prog 15 #[.agg #[.int .i64 2,.slice (some ⟨gn,0,none⟩) 5 5],.agg #[.slice Al 3 cl,.slice Ah 3 ch]] wc fun e w'=>∃ g E,e = .returned (.tuple #[.pointer (some ⟨g.b,0,none⟩),.int .i64 0])∧y6 w' wc.heap.size E g chpN 2 qG qF (.slice none 0 0) [] 0∧Below wc.heap.size wc w' :=
  new_ok wc chpN (some ⟨gn,0,none⟩) 5 2 cl ch qG qF Al Ah hnt (by decide +kernel) (by decide +kernel) (by decide +kernel) rfl (HTT.out.below hbx) chp_ins kP_in (by decide +kernel) g3 g4 g1 g2
 have HNW:=za hnw;have s1:wc.cell? ⟨gb,0,none⟩=some (.int .i64 2):=r0.cell (i:=0) (by decide);have s2:wc.cell? ⟨gb,1,none⟩=some (.slice (some ⟨gn,0,none⟩) 5 5):=r0.cell (i:=1) (by decide);have s3:wc.cell? ⟨gw,0,none⟩=some (.slice Al 3 cl):=rw3.cell (i:=0) (by decide);have s4:wc.cell? ⟨gw,1,none⟩=some (.slice Ah 3 ch):=rw3.cell (i:=1) (by decide);clear hnw hnt g1 g2 g3 g4 r0 rw3;go_wp2_with (go_at_call 15;(with_reducible refine HNW.out.mono ?_);rintro e w9 ⟨g,E,rfl,hs9,hb9⟩)
 all_goals
  go_ret2;exact ⟨g,E,rfl,hs9.lower hbx.size,zu hbx hb9 hbx.size⟩
structure Lv (w:World) (E:Nat) (g:Sg) (N:Nt) (n:Nat) (lo hi:List Pr) (tv:Value) (T:List Int) (k:Int) (W:World):Prop where
 ses:y6 W w.heap.size E g N n lo hi tv T k
 bl:Below w.heap.size w W
section
variable {w W W':World} {E:Nat} {g:Sg} {N:Nt} {n:Nat} {lo hi:List Pr} {tv:Value} {T:List Int} {k:Int}
theorem Lv.below (h:Lv w E g N n lo hi tv T k W) (hb:Below W.heap.size W W'):Lv w E g N n lo hi tv T k W':=⟨h.ses.below hb,zu h.bl hb h.bl.size⟩
theorem SsAt.keepBelow {D:Nat} {C1 C2 C3:List Nat} {P1 P2 P3:List Pr} (h:SsAt W D E g N n lo hi tv T k C1 C2 C3 P1 P2 P3) (hk:Keep (g.all tv) W W'):Below D W W' :=
 hk.toBelow (fun x hx=>by
  have h1:=h.ok.bD;have h2:=h.ok.bE;unfold Cs.Sg.all at hx;rcases List.mem_append.1 hx with hx | hx
  ·rcases List.mem_cons.1 hx with rfl | hx
   ·exact h1
   ·have:=h.ok.rE x hx;omega
  ·have:=h.tE' (x:=x) (by simpa using hx);omega) (by have:=h.ok.bD;have:=h.ok.bE;have:=h.eU;omega)
theorem Lv.shows (h:Lv w E g N n lo hi tv T k W) (ok:SesOk N n lo hi T w.heap.size) (hT:Tab w) (s1 s2:ByteArray) (m:Int) (e1:zj (yq N n T)=s1) (e2:ptext (yw N n lo hi T).1 (yw N n lo hi T).2=s2) (e3:k=m) :
  Calls Tryz.prog 29 #[.pointer (some ⟨g.b,0,none⟩),.string s1,.string s2,.int .i64 m] W fun e w'=>e = .returned (.bool true)∧Below W.heap.size W w':=by
 subst e1 e2 e3;exact shows_at h.ses ok (hT.below h.bl)
theorem Lv.push (h:Lv w E g N n lo hi tv T k W) (ok:SesOk N n lo hi T w.heap.size) (hT:Tab w) (hlen:T.length<1000000) (l:Int) (hb:qi l N.n=true) (ht1:l ∉ T) (ht2 : -l ∉ T) :
  Calls Tryz.prog 22 #[.pointer (some ⟨g.b,0,none⟩),.int .i64 l] W fun e w'=>e = .returned (.int .i64 0)∧∃ tv',Lv w E g N n lo hi tv' (T++[l]) (qY N l.natAbs:Nat) w':=by
 refine (gQ l h.ses ok (hT.below h.bl) hlen hb ht1 ht2).mono ?_;rintro e w' ⟨rfl,tv',q,kp,_⟩;exact ⟨rfl,tv',q,h.bl.trans (h.ses.keepBelow kp)⟩
theorem Lv.pop {l:Int} (h:Lv w E g N n lo hi tv (T++[l]) k W) (ok:SesOk N n lo hi (T++[l]) w.heap.size) (hT:Tab w) :
  Calls Tryz.prog 20 #[.pointer (some ⟨g.b,0,none⟩)] W fun e w'=>e = .returned (.int .i64 0)∧∃ tv',Lv w E g N n lo hi tv' T (qY N l.natAbs:Nat) w':=by
 refine (pop_ok l h.ses ok (hT.below h.bl)).mono ?_;rintro e w' ⟨rfl,tv',q,kp,_⟩;exact ⟨rfl,tv',q,h.bl.trans (h.ses.keepBelow kp)⟩
end
theorem zhA:TOk 2 [2]:=⟨by decide,by decide⟩
theorem zkC:TOk 2 [2,1]:=⟨by decide,by decide⟩
theorem chp_t2:qY chpN 2=3:=by decide +kernel
theorem chp_t1:qY chpN 1=4:=by decide +kernel
theorem chp_c0:zj (yq chpN 2 [])=⟨#[51]⟩:=by decide +kernel
theorem chp_c1:zj (yq chpN 2 [2])=⟨#[50]⟩:=by decide +kernel
theorem chp_c2:zj (yq chpN 2 [2,1])=⟨#[49]⟩:=by decide +kernel
theorem chp_w0:ptext (yw chpN 2 qG qF []).1 (yw chpN 2 qG qF []).2=⟨#[53,47,56]⟩:=by decide +kernel
theorem chp_w1:ptext (yw chpN 2 qG qF [2]).1 (yw chpN 2 qG qF [2]).2=⟨#[49,47,50]⟩:=by decide +kernel
theorem chp_w2:ptext (yw chpN 2 qG qF [2,1]).1 (yw chpN 2 qG qF [2,1]).2=⟨#[49,47,56]⟩:=by decide +kernel
section
variable {w W:World} {E:Nat} {g:Sg} {tv:Value}
theorem pW (h:Lv w E g chpN 2 qG qF tv [] 0 W) (hT:Tab w):Calls Tryz.prog 29 #[.pointer (some ⟨g.b,0,none⟩),.string ⟨#[51]⟩,.string ⟨#[53,47,56]⟩,.int .i64 0] W fun e w'=>e = .returned (.bool true)∧Lv w E g chpN 2 qG qF tv [] 0 w' :=
 (h.shows (zeI TOk.nil (by decide) hT.lt) hT _ _ 0 chp_c0 chp_w0 rfl).mono fun e w' h2=>⟨h2.1,h.below h2.2⟩
theorem pT (h:Lv w E g chpN 2 qG qF tv [] 3 W) (hT:Tab w):Calls Tryz.prog 29 #[.pointer (some ⟨g.b,0,none⟩),.string ⟨#[51]⟩,.string ⟨#[53,47,56]⟩,.int .i64 3] W fun e w'=>e = .returned (.bool true)∧Lv w E g chpN 2 qG qF tv [] 3 w' :=
 (h.shows (zeI TOk.nil (by decide) hT.lt) hT _ _ 3 chp_c0 chp_w0 rfl).mono fun e w' h2=>⟨h2.1,h.below h2.2⟩
theorem pV (h:Lv w E g chpN 2 qG qF tv [2] 3 W) (hT:Tab w):Calls Tryz.prog 29 #[.pointer (some ⟨g.b,0,none⟩),.string ⟨#[50]⟩,.string ⟨#[49,47,50]⟩,.int .i64 3] W fun e w'=>e = .returned (.bool true)∧Lv w E g chpN 2 qG qF tv [2] 3 w' :=
 (h.shows (zeI zhA (by decide) hT.lt) hT _ _ 3 chp_c1 chp_w1 rfl).mono fun e w' h2=>⟨h2.1,h.below h2.2⟩
theorem pU (h:Lv w E g chpN 2 qG qF tv [2,1] 4 W) (hT:Tab w):Calls Tryz.prog 29 #[.pointer (some ⟨g.b,0,none⟩),.string ⟨#[49]⟩,.string ⟨#[49,47,56]⟩,.int .i64 4] W fun e w'=>e = .returned (.bool true)∧Lv w E g chpN 2 qG qF tv [2,1] 4 w' :=
 (h.shows (zeI zkC (by decide) hT.lt) hT _ _ 4 chp_c2 chp_w2 rfl).mono fun e w' h2=>⟨h2.1,h.below h2.2⟩
theorem pX {k:Int} (h:Lv w E g chpN 2 qG qF tv [] k W) (hT:Tab w):Calls Tryz.prog 22 #[.pointer (some ⟨g.b,0,none⟩),.int .i64 2] W fun e w'=>e = .returned (.int .i64 0)∧∃ tv',Lv w E g chpN 2 qG qF tv' [2] 3 w':=by
 refine (Lv.push h (zeI TOk.nil (by decide) hT.lt) hT (by decide) 2 (by decide) (by decide) (by decide)).mono ?_;rintro e w' ⟨h1,tv',h2⟩;have e3:((qY chpN ((2:Int)).natAbs:Nat):Int)=3:=by
  have:=chp_t2;show ((qY chpN 2:Nat):Int)=3;rw [this];rfl
 rw [e3] at h2;exact ⟨h1,tv',h2⟩
theorem pY {k:Int} (h:Lv w E g chpN 2 qG qF tv [2] k W) (hT:Tab w):Calls Tryz.prog 22 #[.pointer (some ⟨g.b,0,none⟩),.int .i64 1] W fun e w'=>e = .returned (.int .i64 0)∧∃ tv',Lv w E g chpN 2 qG qF tv' [2,1] 4 w':=by
 refine (Lv.push h (zeI zhA (by decide) hT.lt) hT (by decide) 1 (by decide) (by decide) (by decide)).mono ?_;rintro e w' ⟨h1,tv',h2⟩;have e3:((qY chpN ((1:Int)).natAbs:Nat):Int)=4:=by
  have:=chp_t1;show ((qY chpN 1:Nat):Int)=4;rw [this];rfl
 rw [e3] at h2;exact ⟨h1,tv',h2⟩
theorem chp_pop1 {k:Int} (h:Lv w E g chpN 2 qG qF tv [2,1] k W) (hT:Tab w):Calls Tryz.prog 20 #[.pointer (some ⟨g.b,0,none⟩)] W fun e w'=>e = .returned (.int .i64 0)∧∃ tv',Lv w E g chpN 2 qG qF tv' [2] 4 w':=by
 refine (Lv.pop (T:=[2]) (l:=1) h (zeI zkC (by decide) hT.lt) hT).mono ?_;rintro e w' ⟨h1,tv',h2⟩;have e3:((qY chpN ((1:Int)).natAbs:Nat):Int)=4:=by
  have:=chp_t1;show ((qY chpN 1:Nat):Int)=4;rw [this];rfl
 rw [e3] at h2;exact ⟨h1,tv',h2⟩
theorem chp_pop2 {k:Int} (h:Lv w E g chpN 2 qG qF tv [2] k W) (hT:Tab w):Calls Tryz.prog 20 #[.pointer (some ⟨g.b,0,none⟩)] W fun e w'=>e = .returned (.int .i64 0)∧∃ tv',Lv w E g chpN 2 qG qF tv' [] 3 w':=by
 refine (Lv.pop (T:=[]) (l:=2) h (zeI zhA (by decide) hT.lt) hT).mono ?_;rintro e w' ⟨h1,tv',h2⟩;have e3:((qY chpN ((2:Int)).natAbs:Nat):Int)=3:=by
  have:=chp_t2;show ((qY chpN 2:Nat):Int)=3;rw [this];rfl
 rw [e3] at h2;exact ⟨h1,tv',h2⟩
theorem pS {k:Int} (h:Lv w E g chpN 2 qG qF tv [2,1] k W):Calls Tryz.prog 22 #[.pointer (some ⟨g.b,0,none⟩),.int .i64 (-1)] W fun e w'=>e = .returned (.int .i64 4)∧Lv w E g chpN 2 qG qF tv [2,1] k w' :=
 (zg4 (-1) (by decide) (by decide) h.ses (by decide +kernel) rfl (by decide) (by decide) (by decide)).mono fun e w' h2=>⟨h2.1,h.below h2.2⟩
theorem chp_pop3 {k:Int} (h:Lv w E g chpN 2 qG qF tv [] k W):Calls Tryz.prog 20 #[.pointer (some ⟨g.b,0,none⟩)] W fun e w'=>e = .returned (.int .i64 8)∧Lv w E g chpN 2 qG qF tv [] k w' :=
 (zke h.ses (by decide +kernel)).mono fun e w' h2=>⟨h2.1,h2.2▸h⟩
end
theorem zfn (w:World) (hT:Tab w):Calls Tryz.prog 13 #[] w fun e w'=>e = .returned (.bool true)∧Below w.heap.size w w':=by
 have HCH:=za (zj5 w hT);have HT:Hid (Tab w):=za hT;clear hT;go_enter Tryz.func13, Tryz.ntmps13;go_wp2_with (first
  | (go_at_call 28;(with_reducible refine HCH.out.mono ?_);rintro e w1 ⟨g,E,rfl,hs,hb⟩;have a0:=za (Lv.mk hs hb);clear hs hb HCH)
  | (go_at_call 29;(with_reducible refine (pW a0.out HT.out).mono ?_);rintro e w0 ⟨rfl,hx⟩;have a1:=za hx;clear hx a0)
  | (go_at_call 22;(with_reducible refine (pX a1.out HT.out).mono ?_);rintro e w0 ⟨rfl,tv1,hx⟩;have a2:=za hx;clear hx a1)
  | (go_at_call 29;(with_reducible refine (pV a2.out HT.out).mono ?_);rintro e w0 ⟨rfl,hx⟩;have a3:=za hx;clear hx a2)
  | (go_at_call 22;(with_reducible refine (pY a3.out HT.out).mono ?_);rintro e w0 ⟨rfl,tv1,hx⟩;have a4:=za hx;clear hx a3)
  | (go_at_call 29;(with_reducible refine (pU a4.out HT.out).mono ?_);rintro e w0 ⟨rfl,hx⟩;have a5:=za hx;clear hx a4)
  | (go_at_call 22;(with_reducible refine (pS a5.out).mono ?_);rintro e w0 ⟨rfl,hx⟩;have a6:=za hx;clear hx a5)
  | (go_at_call 20;(with_reducible refine (chp_pop1 a6.out HT.out).mono ?_);rintro e w0 ⟨rfl,tv1,hx⟩;have a7:=za hx;clear hx a6)
  | (go_at_call 20;(with_reducible refine (chp_pop2 a7.out HT.out).mono ?_);rintro e w0 ⟨rfl,tv1,hx⟩;have a8:=za hx;clear hx a7)
  | (go_at_call 20;(with_reducible refine (chp_pop3 a8.out).mono ?_);rintro e w0 ⟨rfl,hx⟩;have a9:=za hx;clear hx a8)
  | (go_at_call 29;(with_reducible refine (pT a9.out HT.out).mono ?_);rintro e w0 ⟨rfl,hx⟩;have a10:=za hx;clear hx a9))
 all_goals
  go_ret;exact ⟨rfl,a10.out.bl⟩
end Go.Proofs.YtoljkoifgnmbgaaGreatDoor
end
