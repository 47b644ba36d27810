import Derived.Test.YtoljkoifgnmbgaaGreatDoorVl
set_option linter.unusedSimpArgs false
set_option linter.unusedVariables false
open Go Go.RowKit Cs
namespace Go.Proofs.YtoljkoifgnmbgaaGreatDoor
structure OneAt (w:World) (N:Nt) (A:Option Addr) (c b0:Nat) (W:World):Prop where
 bl:Below w.heap.size w W
 nt:NtAt W W.heap.size A N.l
 rb:W.rowIs b0 24 2 (arrF #[.int .i64 N.n,.slice A N.l.length c])
section
variable {w W W':World} {N:Nt} {A:Option Addr} {c b0:Nat}
theorem OneAt.below (h:OneAt w N A c b0 W) (hb:Below W.heap.size W W'):OneAt w N A c b0 W' :=
 ⟨zqx h.bl hb h.bl.size,(h.nt.below hb).more hb.size,rowBelow h.rb hb⟩
theorem OneAt.cells (h:OneAt w N A c b0 W):W.cell? ⟨b0,0,none⟩=some (.int .i64 N.n)∧W.cell? ⟨b0,1,none⟩=some (.slice A N.l.length c) :=
 ⟨h.rb.cell (i:=0) (by decide),h.rb.cell (i:=1) (by decide)⟩
theorem oneNew (w:World) (N:Nt) (A:Option Addr) (c:Nat) (hN:NtAt w w.heap.size A N.l):OneAt w N A c w.heap.size (w.alloc (.cells #[.int .i64 N.n,.slice A N.l.length c] 24)) :=
 have hb:=(Below.refl w.heap.size w).alloc (zqn _) (.cells #[.int .i64 N.n,.slice A N.l.length c] 24)
 ⟨hb,(hN.below hb).more hb.size,arrNew w _ _ _ _ rfl rfl⟩
end
abbrev Bx:=Nat×TypeId×Nat×(Nat→Value)
structure Ly (w:World) (E:Nat) (g:Sg) (N:Nt) (n:Nat) (lo hi:List Pr) (tv:Value) (T:List Int) (k:Int) (B:List Bx) (W:World):Prop where
 lv:Lv w E g N n lo hi tv T k W
 bx:∀ b∈B,W.rowIs b.1 b.2.1 b.2.2.1 b.2.2.2∧b.1 ∉ g.all tv
section
variable {w W W':World} {E:Nat} {g:Sg} {N:Nt} {n:Nat} {lo hi:List Pr} {tv:Value} {T:List Int} {k:Int} {B:List Bx}
theorem Ly.below (h:Ly w E g N n lo hi tv T k B W) (hb:Below W.heap.size W W'):Ly w E g N n lo hi tv T k B W' :=
 ⟨h.lv.below hb,fun b hm=>⟨rowBelow (h.bx b hm).1 hb,(h.bx b hm).2⟩⟩
theorem Ly.allLt (h:Ly w E g N n lo hi tv T k B W):∀ x∈g.all tv,x<W.heap.size:=by
 intro x hx;have hs:=h.lv.ses;unfold Cs.Sg.all at hx;rcases List.mem_append.1 hx with hx | hx
 ·rcases List.mem_cons.1 hx with rfl | hx
  ·exact hs.lt
  ·simp only [Sg.rows,List.mem_cons,List.not_mem_nil,or_false] at hx;rcases hx with rfl | rfl | rfl | rfl | rfl | rfl
   ·exact hs.c1.lt
   ·exact hs.c2.lt
   ·exact hs.c3.lt
   ·exact hs.p1.lt
   ·exact hs.p2.lt
   ·exact hs.p3.lt
 ·exact (hs.tr.lt x (by simpa using hx)).2
theorem Ly.new (h:Ly w E g N n lo hi tv T k B W) (a:Array Value) (t:TypeId) (x m:Nat) (hx:W.heap.size=x) (hm:a.size=m):Ly w E g N n lo hi tv T k ((x,t,m,arrF a)::B) (W.alloc (.cells a t)):=by
 have h2:=h.below ((zqr _ _).alloc (zqn _) (.cells a t));refine ⟨h2.lv,fun b hb=>?_⟩;rcases List.mem_cons.1 hb with rfl | hb
 ·exact ⟨arrNew W a t x m hx hm,fun hm=>absurd (h.allLt x hm) (by omega)⟩
 ·exact h2.bx b hb
theorem Ly.ofLv {lo hi:List Pr} (h:Lv w E g N n lo hi tv T k W):Ly w E g N n lo hi tv T k [] W:=⟨h,fun b hb=>by cases hb⟩
theorem Ly.row (h:Ly w E g N n lo hi tv T k B W) (b:Bx) (hb:b∈B):W.rowIs b.1 b.2.1 b.2.2.1 b.2.2.2:=(h.bx b hb).1
theorem Ly.keep {tv':Value} {T':List Int} {k':Int} (h:Ly w E g N n lo hi tv T k B W) (hl:Lv w E g N n lo hi tv' T' k' W') (hk:Keep (g.all tv) W W') (ht:tv'.ownBlock=tv.ownBlock∨∃ X,tv'.ownBlock=some X∧W.heap.size≤X):Ly w E g N n lo hi tv' T' k' B W' :=
 ⟨hl,fun b hb=>by
   obtain ⟨h1,h2⟩:=h.bx b hb;refine ⟨h1.of_block (hk.block b.1 h1.lt h2),fun hm=>?_⟩;unfold Cs.Sg.all at hm h2;rcases List.mem_append.1 hm with h3 | h3
   ·exact h2 (List.mem_append_left _ h3)
   ·rcases ht with e | ⟨X,e,hX⟩
    ·rw [e] at h3;exact h2 (List.mem_append_right _ h3)
    ·rw [e] at h3
     have:b.1=X:=by simpa [eq_comm] using h3
     have:=h1.lt
     omega⟩
theorem Ly.push (h:Ly w E g N n lo hi tv T k B W) (ok:SesOk N n lo hi T w.heap.size) (hT:Tab w) (hlen:T.length<1000000) (l:Int) (hb:litOk l N.n=true) (ht1:l ∉ T) (ht2 : -l ∉ T) :
  Calls Tryz.prog 22 #[.pointer (some ⟨g.b,0,none⟩),.int .i64 l] W fun e w'=>e = .returned (.int .i64 0)∧∃ tv',Ly w E g N n lo hi tv' (T++[l]) (tch N l.natAbs:Nat) B w':=by
 refine (push_ok l h.lv.ses ok (hT.below h.lv.bl) hlen hb ht1 ht2).mono ?_;rintro e w' ⟨rfl,tv',q,kp,ht⟩;exact ⟨rfl,tv',h.keep ⟨q,h.lv.bl.trans (h.lv.ses.keepBelow kp)⟩ kp ht⟩
theorem Ly.pop {l:Int} (h:Ly w E g N n lo hi tv (T++[l]) k B W) (ok:SesOk N n lo hi (T++[l]) w.heap.size) (hT:Tab w) :
  Calls Tryz.prog 20 #[.pointer (some ⟨g.b,0,none⟩)] W fun e w'=>e = .returned (.int .i64 0)∧∃ tv',Ly w E g N n lo hi tv' T (tch N l.natAbs:Nat) B w':=by
 refine (pop_ok l h.lv.ses ok (hT.below h.lv.bl)).mono ?_;rintro e w' ⟨rfl,tv',q,kp,ht⟩;exact ⟨rfl,tv',h.keep ⟨q,h.lv.bl.trans (h.lv.ses.keepBelow kp)⟩ kp (Or.inl ht)⟩
theorem Ly.count (h:Ly w E g N n lo hi tv T k B W) (ok:SesOk N n lo hi T w.heap.size) (hT:Tab w) :
  Calls Tryz.prog 24 #[.pointer (some ⟨g.b,0,none⟩)] W fun e w'=>e = .returned (.tuple #[natV (sesC N n T),.int .i64 0])∧Ly w E g N n lo hi tv T k B w' :=
 (count_at h.lv.ses ok (hT.below h.lv.bl)).mono fun e w' h2=>⟨h2.1,h.below h2.2⟩
end
end Go.Proofs.YtoljkoifgnmbgaaGreatDoor
