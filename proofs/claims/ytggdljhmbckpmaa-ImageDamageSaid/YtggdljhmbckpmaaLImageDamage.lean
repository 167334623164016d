/- Proved here: ImageDamage of package peculiumlaw30 (the given statement Rows.ImageDamageSaid): it returns true at every input. Conditions: none but those that the given statement itself names. -/
import Derived.Test.YtggdljhmbckpmaaRows
import Derived.Test.YtggdljhmbckpmaaH8
import Derived.Test.YtggdljhmbckpmaaH6
import Derived.WalkKit
import Derived.ProofKit
import Derived.OpenShut
import Derived.ShutString
import Derived.ChangeOld
import Derived.Below
import Derived.SizedLaws
set_option linter.unusedVariables false
namespace Go.Proofs.Ytggdljhmbckpmaa.imageDamage
open Go.ChangeShapes Go.WideShapes Go.ChangeAt Go.RowKit
theorem own : ownKnob Try.prog.godebug = none := by kernel_rfl
theorem laidOut : laidOutB Try.prog = true := by kernel_rfl
set_option maxRecDepth 100000 in
theorem lifted (os : Os) (started : os.Started) (H : Type) (enc : TypeId × Value → H) :
    ReturnsInHanded {} Try.checked os 7 .any (Rows.imageDamageSpec.pre6 enc Try.prog Try.f7 Rows.imageDamageRow.domain false) (Rows.imageDamageSpec.post enc Try.prog Try.f7 false true false false) := by
  refine returnsInHanded_of_change_sized (C := Try.checked) own started (by kernel_rfl) Try.func7
    (ChangeSpec.witness6 (enc := enc) (C := Try.checked) false ⟨#[], #[.agg #[.slice none 0 0, .slice none 0 0], .agg #[.int .u16 0, .int .u16 0, .int .u16 0]], []⟩ 8 (by kernel_rfl) (by kernel_rfl) (by kernel_rfl) (by kernel_rfl)) ?_
  intro W base args ds gs before hval0 hW hcnd hsz0 _
  have hval : ∀ (j : Nat) t v, Try.f7.params[j]? = some t → args[j]? = some v → Value.okWide Try.prog W .any base t v := hval0
  have hW' := hW
  obtain ⟨p, q, hA0, hV, rfl, hfz, hnd⟩ := hW
  have hA : DataW.TrodAll enc Try.prog W 0 (fun _ => true) true Try.f7.params.toList args.toList ds p := hA0
  rw [Try.params7] at hA hval
  obtain ⟨v0, vs0, d0, ds0, p0, q0, hargs, rfl, rfl, h0, r0⟩ := trodAll_cons hA
  obtain ⟨v1, vs1, d1, ds1, p1, q1, rfl, rfl, rfl, h1, r1⟩ := trodAll_cons r0
  obtain ⟨rfl, rfl, rfl⟩ := trodAll_nil r1
  obtain rfl : args = #[v0, v1] := by cases args; simp_all
  obtain ⟨rfl, rfl⟩ := trodVars_none hV
  obtain ⟨cs0, rfl, _⟩ := okWide_struct Try.underlying45 (hval 0 45 v0 rfl rfl)
  have k0 := h0
  obtain ⟨A0, c0, B0, e0, x0, hx0, s0, t0⟩ := opn_drive h0
  injection hx0 with hx0
  subst hx0
  have a0 := Sl_len s0
  have b0 := Sl_len t0
  have lt0 : ∀ x ∈ p0, x.block < W.heap.size := by obtain ⟨m, hm⟩ := k0; exact DataW.trod_lt m _ _ _ hm
  have k1 := h1
  obtain ⟨na1, nb1, nc1, rfl, la1, lb1, lc1⟩ := opn_arr3 (hval 1 81 v1 rfl rfl) h1
  have lt1 : ∀ x ∈ p1, x.block < W.heap.size := by obtain ⟨m, hm⟩ := k1; exact DataW.trod_lt m _ _ _ hm
  clear hA0 hval0 hsz0
  have hR : ∀ p ∈ [Sl (.slice A0 x0.bytes.length c0) x0.bytes, Sl (.slice B0 x0.pending.length e0) x0.pending], p.p (cst W) := by
    intro p hp
    simp only [List.mem_cons, List.not_mem_nil, or_false] at hp
    rcases hp with rfl | rfl
    · exact s0
    · exact t0
  refine ((damage_k (w0 := W) (H := []) (R := [Sl (.slice A0 x0.bytes.length c0) x0.bytes, Sl (.slice B0 x0.pending.length e0) x0.pending]) (K := fun (v : Value) (_ : List Hp) (_ : List MP) => v = Value.bool true) A0 c0 B0 e0 x0 na1 nb1 nc1 a0 b0 la1 lb1 lc1 (by simp) (by simp) rfl).run (S.self hR)).mono fun e W' ⟨v, H', R', he, hs, hk⟩ => ?_
  subst he hk
  have bel := hs.below
  exact ⟨_, rfl, _, _, _, [], _, [], hW', trodAll_mk1 (shut_bool Try.underlying4 _), (trodAll_cons_mk (Below.trod laidOut (by kernel_rfl) (of_decide_eq_true (by kernel_rfl)) k0 bel lt0) (trodAll_cons_mk (Below.trod laidOut (by kernel_rfl) (of_decide_eq_true (by kernel_rfl)) k1 bel lt1) trodAll_mk0)), rfl, bel.frame _, fun h => by cases h⟩
theorem over : Rows.imageDamageRow.holds Try.pinned (OpenSpec.ofChange Rows.imageDamageSpec) :=
  OpenClaim.holds_of_wide 7 Try.f7 rfl rfl rfl rfl rfl rfl rfl ⟨rfl, rfl, rfl, rfl, rfl⟩ rfl rfl rfl rfl rfl (by kernel_rfl) Try.func7 (by kernel_rfl)
    (of_decide_eq_true (by kernel_rfl)) (by unfold Func.isWrapper; first | (rw [if_pos (by decide +kernel)]; kernel_rfl) | (rw [if_neg (by decide +kernel)]; exact ⟨rfl, rfl⟩))
    (fun os started H enc _ => lifted os started H enc)
theorem proved : Rows.ImageDamageSaid := over
end Go.Proofs.Ytggdljhmbckpmaa.imageDamage
namespace Go.Proofs.Ytggdljhmbckpmaa
theorem imageDamage_holds : Rows.ImageDamageSaid := imageDamage.proved
end Go.Proofs.Ytggdljhmbckpmaa
