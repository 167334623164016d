/- What is known of each element of a slice that is handed in. -/
import Derived.Test.YtggdljhmbckpmaaH10
import Derived.Test.YtggdljhmbckpmaaD2
set_option linter.unusedVariables false
set_option linter.unusedSimpArgs false
namespace Go.Proofs.Ytggdljhmbckpmaa
open Go Go.RowKit
attribute [local semireducible] At S Sl Ls Rd

/-- The facts of the elements of a slice: where each lies, and what it reads as. -/
def El {α : Type} [Rep α] [Unp α] (A : Option Addr) (xs : List α) (R : List MP) : Prop := ∀ (i : Nat) (d : α), xs[i]? = some d → ∃ b o y, A = some ⟨b, o, none⟩ ∧ Unp.ok d y ∧ (∀ p ∈ Unp.fs d y, p ∈ R) ∧ At b (o + i * Rep.size α) (Unp.cs d y) ∈ R
theorem El.mono {α : Type} [Rep α] [Unp α] {A : Option Addr} {xs : List α} {R R' : List MP} (h : El A xs R) (hR : ∀ p ∈ R, p ∈ R') : El A xs R' := fun i d hi => by
  obtain ⟨b, o, y, h1, h2, h3, h4⟩ := h i d hi
  exact ⟨b, o, y, h1, h2, fun p hp => hR p (h3 p hp), hR _ h4⟩
theorem el_all {α : Type} [Rep α] [Unp α] {s : Sto} {A : Option Addr} {c : Nat} {xs : List α} (h : (Sl (.slice A xs.length c) xs).p s) : ∃ L : List MP, (∀ p ∈ L, p.p s) ∧ El A xs L := by
  obtain ⟨A', c', e, _, h3⟩ := h
  injection e with e _ _
  subst e
  have hall : ∀ n, n ≤ xs.length → ∃ L : List MP, (∀ p ∈ L, p.p s) ∧ ∀ i d, i < n → xs[i]? = some d → ∃ b o y, A = some ⟨b, o, none⟩ ∧ Unp.ok d y ∧ (∀ p ∈ Unp.fs d y, p ∈ L) ∧ At b (o + i * Rep.size α) (Unp.cs d y) ∈ L := by
    intro n
    induction n with
    | zero => exact fun _ => ⟨[], fun p hp => (by cases hp), fun i d hi => (by omega)⟩
    | succ n ih =>
      intro hn
      obtain ⟨L, h1, h2⟩ := ih (by omega)
      obtain ⟨b, o, eA, hl⟩ := h3 (by omega)
      obtain ⟨cs, hr, hc⟩ := hl n xs[n] (List.getElem?_eq_getElem (by omega))
      obtain ⟨y, rfl, hok, hf⟩ := Unp.un hr
      refine ⟨At b (o + n * Rep.size α) (Unp.cs xs[n] y) :: (Unp.fs xs[n] y ++ L), fun p hp => ?_, fun i d hi hd => ?_⟩
      · rcases List.mem_cons.1 hp with rfl | hp
        · exact hc
        · rcases List.mem_append.1 hp with hp | hp
          · exact hf p hp
          · exact h1 p hp
      · rcases Nat.lt_or_ge i n with hin | hin
        · obtain ⟨b', o', y', g1, g2, g3, g4⟩ := h2 i d hin hd
          exact ⟨b', o', y', g1, g2, fun p hp => List.mem_cons_of_mem _ (List.mem_append_right _ (g3 p hp)), List.mem_cons_of_mem _ (List.mem_append_right _ g4)⟩
        · obtain rfl : i = n := by omega
          rw [List.getElem?_eq_getElem (by omega)] at hd
          injection hd with hd
          subst hd
          exact ⟨b, o, y, eA, hok, fun p hp => List.mem_cons_of_mem _ (List.mem_append_left _ hp), List.mem_cons_self⟩
  obtain ⟨L, h1, h2⟩ := hall xs.length (Nat.le_refl _)
  exact ⟨L, h1, fun i d (hd : xs[i]? = some d) => h2 i d (List.getElem?_eq_some_iff.1 hd).1 hd⟩
/-- Each element of a slice can be written and read back. -/
theorem vd_all {α : Type} [Rep α] [Cod α] [CodV α] {s : Sto} {A : Option Addr} {c : Nat} {xs : List α} (h : (Sl (.slice A xs.length c) xs).p s) : ∀ (i : Nat) (d : α), xs[i]? = some d → Cod.Vd d := fun i d hd => by
  obtain ⟨A', c', e, _, h3⟩ := h
  obtain ⟨b, o, eA, hl⟩ := h3 (by have := (List.getElem?_eq_some_iff.1 hd).1; omega)
  obtain ⟨cs, hr, hc⟩ := hl i d hd
  exact CodV.vd hr
/-- Two fields, of 1 and 1 cell: as a pair. -/
theorem opn_pair {P : Program} {t t1 t2 : TypeId} {f1 f2 : Field} {α β : Type} [Rep α] [Rep β] (h : P.underlying t = some (.struct #[f1, f2])) (hc : P.cellsOf t = 2) (h1 : f1.type = t1) (h2 : f2.type = t2) (o1 : f1.offset = 0) (o2 : f2.offset = 1) (c1 : P.cellsOf t1 = 1) (c2 : P.cellsOf t2 = 1) (k1 : Opn P t1 α) (k2 : Opn P t2 β) : Opn P t (α × β) := fun H enc w base spare held fuel cs x hx => by
  obtain ⟨u, v, a, b, rfl, ha, hb⟩ := opn_two h hc h1 h2 o1 o2 c1 c2 k1 k2 hx
  exact ⟨(a, b), [u], [v], rfl, ha, hb⟩
theorem opn_fails : Opn Try.prog 86 (List (UInt8 × List Int)) := opn_slice Try.underlying86 (by kernel_rfl) (show 0 < 2 by decide) (opn_pair Try.underlying74 (by kernel_rfl) rfl rfl rfl rfl (by kernel_rfl) (by kernel_rfl) (opn_u8 Try.underlying5) opn_ints)
theorem opn_machs : Opn Try.prog 85 (List MaD) := opn_slice Try.underlying85 (by kernel_rfl) (show 0 < 16 by decide) opn_ma
end Go.Proofs.Ytggdljhmbckpmaa
