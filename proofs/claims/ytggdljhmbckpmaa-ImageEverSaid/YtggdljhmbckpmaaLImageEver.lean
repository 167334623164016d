/- Proved here: ImageEver of package peculiumlaw30 (the given statement Rows.ImageEverSaid): it returns true at every input. Conditions: none but those that the given statement itself names. -/
import Derived.Test.YtggdljhmbckpmaaRows
import Derived.Test.YtggdljhmbckpmaaH12
import Derived.WalkKit
import Derived.ProofKit
import Derived.OpenShut
import Derived.ShutString
import Derived.ChangeOld
import Derived.Below
import Derived.SizedLaws
set_option linter.unusedVariables false
namespace Go.Proofs.Ytggdljhmbckpmaa.imageEver
open Go.ChangeShapes Go.WideShapes Go.ChangeAt Go.RowKit
theorem own : ownKnob Try.prog.godebug = none := by kernel_rfl
theorem laidOut : laidOutB Try.prog = true := by kernel_rfl
set_option maxRecDepth 100000 in
theorem lifted (os : Os) (started : os.Started) (H : Type) (enc : TypeId × Value → H) :
    ReturnsInHanded {} Try.checked os 9 .any (Rows.imageEverSpec.pre6 enc Try.prog Try.f9 Rows.imageEverRow.domain false) (Rows.imageEverSpec.post enc Try.prog Try.f9 false true false false) := by
  refine returnsInHanded_of_change_sized (C := Try.checked) own started (by kernel_rfl) Try.func9
    (ChangeSpec.witness6 (enc := enc) (C := Try.checked) false ⟨#[], #[.int .u16 0, .slice none 0 0, .slice none 0 0], []⟩ 8 (by kernel_rfl) (by kernel_rfl) (by kernel_rfl) (by kernel_rfl)) ?_
  intro W base args ds gs before hval0 hW hcnd hsz0 _
  have hval : ∀ (j : Nat) t v, Try.f9.params[j]? = some t → args[j]? = some v → Value.okWide Try.prog W .any base t v := hval0
  have hW' := hW
  obtain ⟨p, q, hA0, hV, rfl, hfz, hnd⟩ := hW
  have hA : DataW.TrodAll enc Try.prog W 0 (fun _ => true) true Try.f9.params.toList args.toList ds p := hA0
  rw [Try.params9] at hA hval
  obtain ⟨v0, vs0, d0, ds0, p0, q0, hargs, rfl, rfl, h0, r0⟩ := trodAll_cons hA
  obtain ⟨v1, vs1, d1, ds1, p1, q1, rfl, rfl, rfl, h1, r1⟩ := trodAll_cons r0
  obtain ⟨v2, vs2, d2, ds2, p2, q2, rfl, rfl, rfl, h2, r2⟩ := trodAll_cons r1
  obtain ⟨rfl, rfl, rfl⟩ := trodAll_nil r2
  obtain rfl : args = #[v0, v1, v2] := by cases args; simp_all
  obtain ⟨rfl, rfl⟩ := trodVars_none hV
  obtain ⟨n0, rfl⟩ := okWide_int Try.underlying80 (hval 0 80 v0 rfl rfl)
  have k0 := h0
  obtain ⟨fuel0, hf0⟩ := h0
  obtain ⟨z0, e0, lz0⟩ := opn_u16 (v := .int .u16 n0) hf0
  injection e0 with _ e0
  subst e0
  have lt0 : ∀ x ∈ p0, x.block < W.heap.size := by obtain ⟨m, hm⟩ := k0; exact DataW.trod_lt m _ _ _ hm
  obtain ⟨A1, n1, c1, rfl⟩ := okWide_slice Try.underlying85 (hval 1 85 v1 rfl rfl)
  have k1 := h1
  obtain ⟨A1', x1, c1', hx1, s1⟩ := opn_machs.sl h1 rfl
  injection hx1 with hx1 hx2 hx3
  subst hx1 hx2 hx3
  have z1 := bytes_len Try.underlying85 h1 hsz0 (j := 1) (by rw [Try.params9]; rfl) rfl (by kernel_rfl)
  have lt1 : ∀ x ∈ p1, x.block < W.heap.size := by obtain ⟨m, hm⟩ := k1; exact DataW.trod_lt m _ _ _ hm
  obtain ⟨A2, n2, c2, rfl⟩ := okWide_slice Try.underlying86 (hval 2 86 v2 rfl rfl)
  have k2 := h2
  obtain ⟨A2', x2, c2', hx1, s2⟩ := opn_fails.sl h2 rfl
  injection hx1 with hx1 hx2 hx3
  subst hx1 hx2 hx3
  have a2 := Sl_len s2
  have lt2 : ∀ x ∈ p2, x.block < W.heap.size := by obtain ⟨m, hm⟩ := k2; exact DataW.trod_lt m _ _ _ hm
  clear hA0 hval0 hsz0
  obtain ⟨L1, g1, el1⟩ := el_all s1
  obtain ⟨L2, g2, el2⟩ := el_all s2
  have vd1 := vd_all s1
  have hR : ∀ p ∈ L1 ++ L2, p.p (cst W) := by
    intro p hp
    rcases List.mem_append.1 hp with hp | hp
    · exact g1 p hp
    · exact g2 p hp
  refine ((ever_k (w0 := W) (H := []) (R := L1 ++ L2) (K := fun (v : Value) (_ : List Hp) (_ : List MP) => v = Value.bool true) z0 lz0 A1 c1 x1 A2 c2 x2 (by omega) a2 (el1.mono (fun p hp => List.mem_append_left _ hp)) vd1 (el2.mono (fun p hp => List.mem_append_right _ hp)) rfl).run (S.self hR)).mono fun e W' ⟨v, H', R', he, hs, hk⟩ => ?_
  subst he hk
  have bel := hs.below
  exact ⟨_, rfl, _, _, _, [], _, [], hW', trodAll_mk1 (shut_bool Try.underlying4 _), (trodAll_cons_mk (Below.trod laidOut (by kernel_rfl) (of_decide_eq_true (by kernel_rfl)) k0 bel lt0) (trodAll_cons_mk (Below.trod laidOut (by kernel_rfl) (of_decide_eq_true (by kernel_rfl)) k1 bel lt1) (trodAll_cons_mk (Below.trod laidOut (by kernel_rfl) (of_decide_eq_true (by kernel_rfl)) k2 bel lt2) trodAll_mk0))), rfl, bel.frame _, fun h => by cases h⟩
theorem over : Rows.imageEverRow.holds Try.pinned (OpenSpec.ofChange Rows.imageEverSpec) :=
  OpenClaim.holds_of_wide 9 Try.f9 rfl rfl rfl rfl rfl rfl rfl ⟨rfl, rfl, rfl, rfl, rfl⟩ rfl rfl rfl rfl rfl (by kernel_rfl) Try.func9 (by kernel_rfl)
    (of_decide_eq_true (by kernel_rfl)) (by unfold Func.isWrapper; first | (rw [if_pos (by decide +kernel)]; kernel_rfl) | (rw [if_neg (by decide +kernel)]; exact ⟨rfl, rfl⟩))
    (fun os started H enc _ => lifted os started H enc)
theorem proved : Rows.ImageEverSaid := over
end Go.Proofs.Ytggdljhmbckpmaa.imageEver
namespace Go.Proofs.Ytggdljhmbckpmaa
theorem imageEver_holds : Rows.ImageEverSaid := imageEver.proved
end Go.Proofs.Ytggdljhmbckpmaa
