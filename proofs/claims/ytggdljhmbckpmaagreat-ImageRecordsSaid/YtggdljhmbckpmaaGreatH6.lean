/- Rows: how long a slice that is handed in may be. -/
import Derived.Test.YtggdljhmbckpmaaGreatH3
import Derived.SizedLaws
import Derived.OpenShut
set_option linter.unusedVariables false
set_option linter.unusedSimpArgs false
namespace Go.Proofs.YtggdljhmbckpmaaGreat
set_option maxRecDepth 100000
open Go Go.RowKit Go.WideShapes
attribute [local semireducible] At S Sl Ls
theorem bytes_len {P : Program} {t e : TypeId} {H : Type} {enc : TypeId × Value → H} {w : World} {base : Nat} {spare : Nat → Bool} {held : Bool} {A : Option Addr} {n c : Nat} {d : DataW H} {ps : List MemPlace} (hu : P.underlying t = some (.slice e)) (h : DataW.Trod enc P w base spare held t (.slice A n c) d ps)
    {ts : List TypeId} {ds : List (DataW H)} (hz : (DataW.weightsEach P ts ds).all (· ≤ reachBytes) = true) {j : Nat} (ht : ts[j]? = some t) (hd : ds[j]? = some d) (he : decide (1 ≤ P.bytesOf e) = true) : n ≤ 140737488355328 := by
  obtain ⟨fuel, hf⟩ := h
  rcases DataW.trod_slice hu hf with ⟨e1, _⟩ | ⟨a, len, cap, elems, rest, m, _, e1, e2, _, _, _, hl, _⟩
  · simp only [Value.cells, Array.toList, List.cons.injEq, Value.slice.injEq] at e1
    omega
  · simp only [Value.cells, Array.toList, List.cons.injEq, Value.slice.injEq] at e1
    obtain ⟨⟨_, rfl, _⟩, _⟩ := e1
    injection e2 with e2 _
    subst e2
    have := sized_slice hz ht hd hu
    have h1 := of_decide_eq_true he
    have h2 := reachBytes_lt
    rw [List.length_map, List.length_map, hl] at this
    have h3 : (n + rest.length) * 1 ≤ (n + rest.length) * P.bytesOf e := Nat.mul_le_mul_left _ h1
    omega
end Go.Proofs.YtggdljhmbckpmaaGreat
