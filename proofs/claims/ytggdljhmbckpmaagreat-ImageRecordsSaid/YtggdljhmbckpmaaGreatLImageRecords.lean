/- Proved here: ImageRecords of package peculiumlaw30 (the given statement Rows.ImageRecordsSaid): it returns true at every input. Conditions: none but those that the given statement itself names. -/
import Derived.Test.YtggdljhmbckpmaaGreatRows
import Derived.Test.YtggdljhmbckpmaaGreatZN
import Derived.Test.YtggdljhmbckpmaaGreatH6
import Derived.WalkKit
import Derived.ProofKit
import Derived.OpenShut
import Derived.ShutString
import Derived.ChangeOld
import Derived.Below
import Derived.SizedLaws
set_option linter.unusedVariables false
namespace Go.Proofs.YtggdljhmbckpmaaGreat.imageRecords
open Go.ChangeShapes Go.WideShapes Go.ChangeAt Go.RowKit
theorem own : ownKnob Tryz.prog.godebug = none := by kernel_rfl
theorem laidOut : laidOutB Tryz.prog = true := by kernel_rfl
set_option maxRecDepth 100000 in
theorem lifted (os : Os) (started : os.Started) (H : Type) (enc : TypeId × Value → H) :
    ReturnsInHanded {} Tryz.checked os 4 .any (Rows.imageRecordsSpec.pre6 enc Tryz.prog Tryz.f4 Rows.imageRecordsRow.domain false) (Rows.imageRecordsSpec.post enc Tryz.prog Tryz.f4 false true false false) := by
  refine returnsInHanded_of_change_sized (C := Tryz.checked) own started (by kernel_rfl) Tryz.func4
    (ChangeSpec.witness6 (enc := enc) (C := Tryz.checked) false ⟨#[], #[.agg #[.slice none 0 0, .slice none 0 0], .slice none 0 0], []⟩ 8 (by kernel_rfl) (by kernel_rfl) (by kernel_rfl) (by kernel_rfl)) ?_
  intro W base args ds gs before hval0 hW hcnd hsz0 _
  have hval : ∀ (j : Nat) t v, Tryz.f4.params[j]? = some t → args[j]? = some v → Value.okWide Tryz.prog W .any base t v := hval0
  have hW' := hW
  obtain ⟨p, q, hA0, hV, rfl, hfz, hnd⟩ := hW
  have hA : DataW.TrodAll enc Tryz.prog W 0 (fun _ => true) true Tryz.f4.params.toList args.toList ds p := hA0
  rw [Tryz.params4] at hA hval
  obtain ⟨v0, vs0, d0, ds0, p0, q0, hargs, rfl, rfl, h0, r0⟩ := trodAll_cons hA
  obtain ⟨v1, vs1, d1, ds1, p1, q1, rfl, rfl, rfl, h1, r1⟩ := trodAll_cons r0
  obtain ⟨rfl, rfl, rfl⟩ := trodAll_nil r1
  obtain rfl : args = #[v0, v1] := by cases args; simp_all
  obtain ⟨rfl, rfl⟩ := trodVars_none hV
  obtain ⟨cs0, rfl, _⟩ := okWide_struct Tryz.underlying51 (hval 0 51 v0 rfl rfl)
  have k0 := h0
  obtain ⟨A0, c0, B0, e0, x0, hx0, s0, t0⟩ := opn_drive h0
  injection hx0 with hx0
  subst hx0
  have a0 := Sl_len s0
  have b0 := Sl_len t0
  have lt0 : ∀ x ∈ p0, x.block < W.heap.size := by obtain ⟨m, hm⟩ := k0; exact DataW.trod_lt m _ _ _ hm
  obtain ⟨A1, n1, c1, rfl⟩ := okWide_slice Tryz.underlying33 (hval 1 33 v1 rfl rfl)
  have k1 := h1
  obtain ⟨A1', x1, c1', hx1, s1⟩ := opn_bytes.sl h1 rfl
  injection hx1 with hx1 hx2 hx3
  subst hx1 hx2 hx3
  have a1 := Sl_len s1
  have z1 := bytes_len Tryz.underlying33 h1 hsz0 (j := 1) (by rw [Tryz.params4]; rfl) rfl (by kernel_rfl)
  have lt1 : ∀ x ∈ p1, x.block < W.heap.size := by obtain ⟨m, hm⟩ := k1; exact DataW.trod_lt m _ _ _ hm
  clear hA0 hval0 hsz0
  have hR : ∀ p ∈ [Sl (.slice A0 x0.bytes.length c0) x0.bytes, Sl (.slice B0 x0.pending.length e0) x0.pending, Sl (.slice A1 x1.length c1) x1], p.p (cst W) := by
    intro p hp
    simp only [List.mem_cons, List.not_mem_nil, or_false] at hp
    rcases hp with rfl | rfl | rfl
    · exact s0
    · exact t0
    · exact s1
  refine ((records_law_k (w0 := W) (H := []) (R := [Sl (.slice A0 x0.bytes.length c0) x0.bytes, Sl (.slice B0 x0.pending.length e0) x0.pending, Sl (.slice A1 x1.length c1) x1]) (K := fun (v : Value) (_ : List Hp) (_ : List MP) => v = Value.bool true) A0 c0 B0 e0 A1 c1 x0 x1 a0 b0 z1 (by simp) (by simp) (by simp) rfl).run (S.self hR)).mono fun e W' ⟨v, H', R', he, hs, hk⟩ => ?_
  subst he hk
  have bel := hs.below
  exact ⟨_, rfl, _, _, _, [], _, [], hW', trodAll_mk1 (shut_bool Tryz.underlying4 _), (trodAll_cons_mk (Below.trod laidOut (by kernel_rfl) (of_decide_eq_true (by kernel_rfl)) k0 bel lt0) (trodAll_cons_mk (Below.trod laidOut (by kernel_rfl) (of_decide_eq_true (by kernel_rfl)) k1 bel lt1) trodAll_mk0)), rfl, bel.frame _, fun h => by cases h⟩
theorem over : Rows.imageRecordsRow.holds Tryz.pinned (OpenSpec.ofChange Rows.imageRecordsSpec) :=
  OpenClaim.holds_of_wide 4 Tryz.f4 rfl rfl rfl rfl rfl rfl rfl ⟨rfl, rfl, rfl, rfl, rfl⟩ rfl rfl rfl rfl rfl (by kernel_rfl) Tryz.func4 (by kernel_rfl)
    (of_decide_eq_true (by kernel_rfl)) (by unfold Func.isWrapper; first | (rw [if_pos (by decide +kernel)]; kernel_rfl) | (rw [if_neg (by decide +kernel)]; exact ⟨rfl, rfl⟩))
    (fun os started H enc _ => lifted os started H enc)
theorem proved : Rows.ImageRecordsSaid := over
end Go.Proofs.YtggdljhmbckpmaaGreat.imageRecords
namespace Go.Proofs.YtggdljhmbckpmaaGreat
theorem imageRecords_holds : Rows.ImageRecordsSaid := imageRecords.proved
end Go.Proofs.YtggdljhmbckpmaaGreat
