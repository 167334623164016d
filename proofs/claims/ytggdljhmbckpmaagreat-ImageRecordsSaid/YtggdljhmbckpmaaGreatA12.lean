/- Several operations of a drawn region that may come up; one continuation for all orders. -/
import Derived.Test.YtggdljhmbckpmaaGreatA11
set_option linter.unusedVariables false
set_option linter.unusedSimpArgs false
namespace Go.Proofs.YtggdljhmbckpmaaGreat
open Go Go.RowKit
attribute [local semireducible] T TC En PW GW CallsK CallsP Sl Rd Ls At S TA
section
variable {F : Fence} {n : Nat} {P : Program} {w0 : World} {D : List Deferred} {ops : Array Oper} {Q : Exit → Act → World → Prop} {Hc : List Hp} {Rc : List MP} {E : List Value} {H : List Hp} {R : List MP}
theorem sub_cons {α : Type _} {a : α} {l L : List α} (h : a ∈ L) (k : ∀ p ∈ l, p ∈ L) : ∀ p ∈ a :: l, p ∈ L := fun p hp => by
  rcases List.mem_cons.1 hp with rfl | hp
  · exact h
  · exact k p hp
theorem cut0 {G p : Prop} (h : G → p) (k : G) : p := h k
theorem cut1 {G : Nat → Prop} {p : Prop} (h : (∀ b, G b) → p) (k : ∀ b, G b) : p := h k
theorem cut2 {G : Nat → Nat → Prop} {p : Prop} (h : (∀ b c, G b c) → p) (k : ∀ b c, G b c) : p := h k
theorem cutV {G : Value → Prop} {p : Prop} (h : (∀ b, G b) → p) (k : ∀ b, G b) : p := h k
/-- Two may come up. -/
theorem TA_two' (i j : Nat) {di dj : Option Tmp} {oi oj : Op} {ti tj : TypeId} {pi pj : String} {ai aj : Array Edge} {gi gj : Option (Nat × Bool)} {k : Nat} {listed li lj : Array Bool} (hr : Region.ready .any ops listed = [i, j]) (ho : ops[i]? = some ⟨di, oi, ti, pi, ai, gi⟩) (ho' : ops[j]? = some ⟨dj, oj, tj, pj, aj, gj⟩) (hli : listed.setIfInBounds i true = li) (hlj : listed.setIfInBounds j true = lj)
    (hw : wnt ops ⟨di, oi, ti, pi, ai, gi⟩ E = true) (hw' : wnt ops ⟨dj, oj, tj, pj, aj, gj⟩ E = true)
    (h : OW F n P w0 D Q ⟨di, oi, ti, pi, ai, gi⟩ E H R (fun v H' R' => ((∀ w, S w0 w H' R' → S w0 w Hc Rc) ∨ lastOp ops i = true) ∧ TA F n P w0 D ops Q Hc Rc k li (setD E di v) H' R'))
    (h' : OW F n P w0 D Q ⟨dj, oj, tj, pj, aj, gj⟩ E H R (fun v H' R' => ((∀ w, S w0 w H' R' → S w0 w Hc Rc) ∨ lastOp ops j = true) ∧ TA F n P w0 D ops Q Hc Rc k lj (setD E dj v) H' R')) : TA F n P w0 D ops Q Hc Rc (k + 1) listed E H R :=
  TA_two i j hr ho ho' hli hlj hw hw' h h'
/-- Three may come up. -/
theorem TA_three (i j l : Nat) {di dj dl : Option Tmp} {oi oj ol : Op} {ti tj tl : TypeId} {pi pj pl : String} {ai aj al : Array Edge} {gi gj gl : Option (Nat × Bool)} {k : Nat} {listed li lj ll : Array Bool} (hr : Region.ready .any ops listed = [i, j, l]) (ho : ops[i]? = some ⟨di, oi, ti, pi, ai, gi⟩) (ho' : ops[j]? = some ⟨dj, oj, tj, pj, aj, gj⟩) (ho2 : ops[l]? = some ⟨dl, ol, tl, pl, al, gl⟩) (hli : listed.setIfInBounds i true = li) (hlj : listed.setIfInBounds j true = lj) (hll : listed.setIfInBounds l true = ll)
    (hw : wnt ops ⟨di, oi, ti, pi, ai, gi⟩ E = true) (hw' : wnt ops ⟨dj, oj, tj, pj, aj, gj⟩ E = true) (hw2 : wnt ops ⟨dl, ol, tl, pl, al, gl⟩ E = true)
    (h : OW F n P w0 D Q ⟨di, oi, ti, pi, ai, gi⟩ E H R (fun v H' R' => ((∀ w, S w0 w H' R' → S w0 w Hc Rc) ∨ lastOp ops i = true) ∧ TA F n P w0 D ops Q Hc Rc k li (setD E di v) H' R'))
    (h' : OW F n P w0 D Q ⟨dj, oj, tj, pj, aj, gj⟩ E H R (fun v H' R' => ((∀ w, S w0 w H' R' → S w0 w Hc Rc) ∨ lastOp ops j = true) ∧ TA F n P w0 D ops Q Hc Rc k lj (setD E dj v) H' R'))
    (h2 : OW F n P w0 D Q ⟨dl, ol, tl, pl, al, gl⟩ E H R (fun v H' R' => ((∀ w, S w0 w H' R' → S w0 w Hc Rc) ∨ lastOp ops l = true) ∧ TA F n P w0 D ops Q Hc Rc k ll (setD E dl v) H' R')) : TA F n P w0 D ops Q Hc Rc (k + 1) listed E H R := by
  subst hli; subst hlj; subst hll
  exact TA_all hr (by simp) (fun q hq o2 hoq => by
    simp at hq
    rcases hq with rfl | rfl | rfl
    · rw [ho] at hoq; cases hoq; exact ⟨fun _ => h, fun hf => by rw [hw] at hf; cases hf⟩
    · rw [ho'] at hoq; cases hoq; exact ⟨fun _ => h', fun hf => by rw [hw'] at hf; cases hf⟩
    · rw [ho2] at hoq; cases hoq; exact ⟨fun _ => h2, fun hf => by rw [hw2] at hf; cases hf⟩)
end
end Go.Proofs.YtggdljhmbckpmaaGreat
