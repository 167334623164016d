/- Rows: how long a slice that is handed in may be. -/
import Derived.Test.YtggdljhmbckpmaaH3
import Derived.SizedLaws
import Derived.OpenShut
set_option linter.unusedVariables false
set_option linter.unusedSimpArgs false
namespace Go.Proofs.Ytggdljhmbckpmaa
set_option maxRecDepth 100000
open Go Go.RowKit Go.WideShapes
attribute [local semireducible] At S Sl Ls
theorem bytes_len {P : Program} {t e : TypeId} {H : Type} {enc : TypeId × Value → H} {w : World} {base : Nat} {spare : Nat → Bool} {held : Bool} {A : Option Addr} {n c : Nat} {d : DataW H} {ps : List MemPlace} (hu : P.underlying t = some (.slice e)) (h : DataW.Trod enc P w base spare held t (.slice A n c) d ps)
    {ts : List TypeId} {ds : List (DataW H)} (hz : (DataW.weightsEach P ts ds).all (· ≤ reachBytes) = true) {j : Nat} (ht : ts[j]? = some t) (hd : ds[j]? = some d) (he : decide (1 ≤ P.bytesOf e) = true) : n ≤ 140737488355328 := by
  obtain ⟨fuel, hf⟩ := h
  rcases DataW.trod_slice hu hf with ⟨e1, _⟩ | ⟨a, len, cap, elems, rest, m, _, e1, e2, _, _, _, hl, _⟩
  · simp only [Value.cells, Array.toList, List.cons.injEq, Value.slice.injEq] at e1
    omega
  · simp only [Value.cells, Array.toList, List.cons.injEq, Value.slice.injEq] at e1
    obtain ⟨⟨_, rfl, _⟩, _⟩ := e1
    injection e2 with e2 _
    subst e2
    have := sized_slice hz ht hd hu
    have h1 := of_decide_eq_true he
    have h2 := reachBytes_lt
    rw [List.length_map, List.length_map, hl] at this
    have h3 : (n + rest.length) * 1 ≤ (n + rest.length) * P.bytesOf e := Nat.mul_le_mul_left _ h1
    omega
/-- Where the power fails: its value, and what it reads as. -/
theorem opn_fail {H : Type} {enc : TypeId × Value → H} {w : World} {base : Nat} {spare : Nat → Bool} {held : Bool} {cs : Array Value} {d : DataW H} {ps : List MemPlace} (h : DataW.Trod enc Try.prog w base spare held 74 (.agg cs) d ps) : ∃ (bh : UInt8) (A : Option Addr) (c : Nat) (xs : List Int), Value.agg cs = .agg #[byteV bh, .slice A xs.length c] ∧ (Sl (.slice A xs.length c) xs).p (cst w) := by
  obtain ⟨fuel, hf⟩ := h
  obtain ⟨u, v, a, b, e, ha, hb⟩ := opn_two Try.underlying74 (by kernel_rfl) rfl rfl rfl rfl (by kernel_rfl) (by kernel_rfl) (opn_u8 Try.underlying5) opn_ints hf
  obtain ⟨cl⟩ := cs
  obtain rfl : cl = [u, v] := e
  obtain ⟨v', ev', hv⟩ := hb
  have eu : [u] = [byteV a] := ha
  simp at eu ev'
  subst eu ev'
  obtain ⟨A2, c2, rfl, h3⟩ := hv
  exact ⟨a, A2, c2, b, rfl, A2, c2, rfl, h3⟩
theorem opn_u16 {H : Type} {enc : TypeId × Value → H} {w : World} {base : Nat} {spare : Nat → Bool} {held : Bool} {fuel : Nat} {v : Value} {x : DataW H × List MemPlace} (hx : DataW.trod enc Try.prog w base spare held fuel 80 [v] = some x) : ∃ n : Nat, v = .int .u16 (n : Int) ∧ n < 65536 := by
  obtain ⟨n, e, _, hw⟩ := DataW.trod_int Try.underlying80 hx
  simp only [Lit.wf, Bool.and_eq_true, decide_eq_true_eq] at hw
  have h1 : (0 : Int) ≤ n := hw.1
  have h2 : n ≤ (65535 : Int) := hw.2
  simp at e
  exact ⟨n.toNat, by rw [e, Int.toNat_of_nonneg h1], by omega⟩
/-- Three numbers of 16 bits in a row: their value. -/
theorem opn_arr3 {H : Type} {enc : TypeId × Value → H} {W w : World} {b0 base : Nat} {spare : Nat → Bool} {held : Bool} {v : Value} {d : DataW H} {ps : List MemPlace} (hv : Value.okWide Try.prog W .any b0 81 v) (h : DataW.Trod enc Try.prog w base spare held 81 v d ps) : ∃ n0 n1 n2 : Nat, v = .agg #[.int .u16 (n0 : Int), .int .u16 (n1 : Int), .int .u16 (n2 : Int)] ∧ n0 < 65536 ∧ n1 < 65536 ∧ n2 < 65536 := by
  simp only [Value.okWide, Try.underlying81] at hv
  obtain ⟨cs, rfl, hsz, _⟩ := hv
  obtain ⟨fuel, hf⟩ := h
  obtain ⟨xs, m, _, _, hl, hxl, hel⟩ := DataW.trod_array Try.underlying81 hf
  have c81 : Try.prog.cellsOf 81 = 3 := by kernel_rfl
  have c80 : Try.prog.cellsOf 80 = 1 := by kernel_rfl
  rw [c81] at hl
  obtain ⟨cl⟩ := cs
  have hl' : cl.length = 3 := hl
  match cl, hl' with
  | [a, b, c], _ =>
    have g0 := hel 0 (by omega)
    have g1 := hel 1 (by omega)
    have g2 := hel 2 (by omega)
    rw [c80, List.getElem?_eq_getElem (by omega)] at g0 g1 g2
    obtain ⟨n0, e0, k0⟩ := opn_u16 (v := a) g0
    obtain ⟨n1, e1, k1⟩ := opn_u16 (v := b) g1
    obtain ⟨n2, e2, k2⟩ := opn_u16 (v := c) g2
    subst e0 e1 e2
    exact ⟨n0, n1, n2, rfl, k0, k1, k2⟩
end Go.Proofs.Ytggdljhmbckpmaa
