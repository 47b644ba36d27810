import Derived.Test.YtoljkoifgnmbgaaGreatDoorShort
import Derived.Test.YtoljkoifgnmbgaaGreatDoorM1
import Derived.Test.YtoljkoifgnmbgaaGreatDoorS1
import Derived.Laws.EntriesVeiled
import Derived.Laws.ResultCell
import Derived.Deep.CutRange
import Derived.Test.YtoljkoifgnmbgaaGreatDoorQ1
set_option linter.unusedSimpArgs false
set_option linter.unusedVariables false
section
set_option maxRecDepth 100000
set_option maxHeartbeats 400000
section
open Go Go.RowKit Cs
namespace Cs
def wt (nt l:Int):Nat:=if l=nt then 0 else 1
def RN (nt:Int):Rg Nat:=⟨0,1,(·+·),(·*·),wt nt,fun v=>wt nt v+wt nt (-v)⟩
def qz (N:Nt):Int:=if zC N then (if qv N then (if qQ N then 0 else 2) else 210) else 1
end Cs
namespace Go.Proofs.YtoljkoifgnmbgaaGreatDoor
abbrev wtV (p:Nat):Value:=.func (.func 125) #[] #[.pointer (some ⟨p,0,none⟩)]
abbrev btV (q:Nat):Value:=.func (.func 128) #[] #[.pointer (some ⟨q,0,none⟩)]
abbrev numV (p q:Nat):Value:=.agg #[.func (.func 126) #[] #[],.func (.func 127) #[] #[],.func (.func 36) #[] #[],.func (.func 48) #[] #[],wtV p,btV q]
theorem zgi (w:World) (N:Nt) (A:Option Addr) (c:Nat) (hlen:N.l.length≤140737488355328) (hN:NtAt w w.heap.size A N.l) (hT:Tab w) :
  Calls Tryz.prog 74 #[ql N A c] w fun e w'=>e = .returned (.int .i64 (qz N))∧Below w.heap.size w w':=by
 have hbox:=jx w N A c 24 _ rfl;have hbl:Below w.heap.size w (w.alloc (.cells #[.int .i64 N.n,.slice A N.l.length c] 24)):=(zA _ _).alloc (zi _) _;cases hv:zC N
 ·have hck:qz N=1:=by unfold qz;rw [hv];rfl
  have hnc:∀ W,NtAt W W.heap.size A N.l→Calls Tryz.prog 86 #[ql N A c] W fun e w'=>e = .returned (.int .i64 1)∧Below W.heap.size W w':=fun W h=>by
   have:=zbq W N A c hlen h;have h2:jm N=1:=by unfold jm;rw [hv];rfl
   rwa [h2] at this
  rw [hck];have HNC:=za hnc;clear hck hnc hv;obtain ⟨n,l⟩:=N;go_enter Tryz.func74, Tryz.ntmps74;go_wp2_with (
   go_at_call 86;(with_reducible refine (HNC.out _ ((hN.below hbl).more hbl.size)).mono ?_);rintro e w5 ⟨rfl,hb5⟩;have hbl5:=zu hbl hb5 hbl.size)
  go_ret;exact ⟨rfl,hbl5⟩
 ·have hck:qz N=if qv N then (if qQ N then 0 else 2) else 210:=by unfold qz;rw [hv];rfl
  have hnc:∀ W,NtAt W W.heap.size A N.l→Calls Tryz.prog 86 #[ql N A c] W fun e w'=>e = .returned (.int .i64 0)∧Below W.heap.size W w':=fun W h=>by
   have:=zbq W N A c hlen h;have h2:jm N=0:=by unfold jm;rw [hv];rfl
   rwa [h2] at this
  have hdc:=fun W h=>zeN W N A c h hv;have hsh:=fun W h hT=>xR W N A c h hv hT;rw [hck];have HNC:=za hnc;clear hck hnc hv;cases hd:qv N
  ·rw [hd] at hdc;have HDC:=za hdc;clear hdc hd hsh;obtain ⟨n,l⟩:=N;go_enter Tryz.func74, Tryz.ntmps74;go_wp2_with (first
    | (go_at_call 86
       (with_reducible refine (HNC.out _ ((hN.below hbl).more hbl.size)).mono ?_);rintro e w5 ⟨rfl,hb5⟩;have hbl5:=zu hbl hb5 hbl.size;have hbox5:=zh hbox hb5;obtain ⟨hc1,hc2⟩:=yg hbox5)
    | (go_at_call 121
       (with_reducible refine (HDC.out _ ((hN.below hbl5).more hbl5.size)).mono ?_);rintro e w6 ⟨rfl,hb6⟩;have hbl6:=zu hbl5 hb6 hbl5.size))
   go_ret;exact ⟨rfl,hbl6⟩
  ·rw [hd] at hdc;have HDC:=za hdc;clear hdc hd;cases hs:qQ N
   all_goals
    rw [hs] at hsh;have HSH:=za hsh;clear hsh hs;obtain ⟨n,l⟩:=N;go_enter Tryz.func74, Tryz.ntmps74;go_wp2_with (first
     | (go_at_call 86
        (with_reducible refine (HNC.out _ ((hN.below hbl).more hbl.size)).mono ?_);rintro e w5 ⟨rfl,hb5⟩;have hbl5:=zu hbl hb5 hbl.size;have hbox5:=zh hbox hb5;obtain ⟨hc1,hc2⟩:=yg hbox5)
     | (go_at_call 121
        (with_reducible refine (HDC.out _ ((hN.below hbl5).more hbl5.size)).mono ?_);rintro e w6 ⟨rfl,hb6⟩;have hbl6:=zu hbl5 hb6 hbl5.size;have hbox6:=zh hbox5 hb6;obtain ⟨hc3,hc4⟩:=yg hbox6)
     | (go_at_call 122
        (with_reducible refine (HSH.out _ ((hN.below hbl6).more hbl6.size) (hT.below hbl6)).mono ?_);rintro e w7 ⟨rfl,hb7⟩;have hbl7:=zu hbl6 hb7 hbl6.size))
    go_ret;exact ⟨rfl,hbl7⟩
end Go.Proofs.YtoljkoifgnmbgaaGreatDoor
end
section
open Go Go.RowKit Cs
namespace Cs
theorem zhT (s:Nat):∀ v∈vl s,1≤v∧v≤128:=by
 intro v hv;rw [zkT,List.mem_map] at hv;obtain ⟨u,hu,rfl⟩:=hv;unfold zhS at hu;simp at hu;omega
end Cs
end
end
section
open Go Go.RowKit Cs
end
section
end
section
section
open Go Go.RowKit Cs
namespace Cs
abbrev sN (f:Nat→Nat) (m:Nat):Nat:=(RN 0).sumTo f m
def pcn (n s:Nat):Nat:=sN (fun i=>if s.testBit i then 1 else 0) n
end Cs
namespace Cs
def hld (s:Nat) (l:Int):Bool:=decide (zQ l≠0)&&(s.testBit ((zQ l).toNat-1)==decide (0<l))
def evStart (s:Nat) (x:Nd):Bool:=decide (x.kind=1)||decide (x.kind=3)||(decide (x.kind=2)&&hld s x.lit)
def evIn (acc:List Bool) (x:Nd) (b:Bool) (k:Int):Bool:=if x.kind=3 then b&&acc.getD k.toNat false else b||acc.getD k.toNat false
def evStep (s:Nat) (acc:List Bool) (x:Nd):Bool:=x.ins.foldl (evIn acc x) (evStart s x)
def truth (s:Nat) (l:List Nd):List Bool:=scan (evStep s) [] l
theorem zeG {x:Nd} {n b:Int} (h:qK x n b=true):x.kind=0∨x.kind=1∨x.kind=2∨x.kind=3∨x.kind=4:=by
 rcases zba h with ⟨h1 | h1 | h1,_⟩ | h1 | h1
 ·exact .inl h1
 ·exact .inr (.inl h1)
 ·exact .inr (.inr (.inl h1))
 ·exact .inr (.inr (.inr (.inl h1)))
 ·exact .inr (.inr (.inr (.inr h1)))
end Cs
namespace Cs
def b1 (b:Bool):Nat:=if b then 1 else 0
end Cs
end
end
