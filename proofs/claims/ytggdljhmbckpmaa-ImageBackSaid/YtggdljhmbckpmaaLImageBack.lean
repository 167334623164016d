/- Proved here: ImageBack of package peculiumlaw30 (the given statement Rows.ImageBackSaid): it returns true at every input. Conditions: none but those that the given statement itself names. -/
import Derived.Test.YtggdljhmbckpmaaRows
import Derived.Test.YtggdljhmbckpmaaH9
import Derived.Test.YtggdljhmbckpmaaH6
import Derived.Test.YtggdljhmbckpmaaH10
import Derived.WalkKit
import Derived.ProofKit
import Derived.OpenShut
import Derived.ShutString
import Derived.ChangeOld
import Derived.Below
import Derived.SizedLaws
set_option linter.unusedVariables false
namespace Go.Proofs.Ytggdljhmbckpmaa.imageBack
open Go.ChangeShapes Go.WideShapes Go.ChangeAt Go.RowKit
theorem own : ownKnob Try.prog.godebug = none := by kernel_rfl
theorem laidOut : laidOutB Try.prog = true := by kernel_rfl
set_option maxRecDepth 100000 in
theorem lifted (os : Os) (started : os.Started) (H : Type) (enc : TypeId × Value → H) :
    ReturnsInHanded {} Try.checked os 3 .any (Rows.imageBackSpec.pre6 enc Try.prog Try.f3 Rows.imageBackRow.domain false) (Rows.imageBackSpec.post enc Try.prog Try.f3 false true false false) := by
  refine returnsInHanded_of_change_sized (C := Try.checked) own started (by kernel_rfl) Try.func3
    (ChangeSpec.witness6 (enc := enc) (C := Try.checked) false ⟨#[], #[.agg #[.int .i64 0, .int .i64 0, .int .i64 0, .int .i64 0, .int .i64 0, .int .i64 0, .bool false, .slice none 0 0, .slice none 0 0, .slice none 0 0, .slice none 0 0, .slice none 0 0, .slice none 0 0, .slice none 0 0, .slice none 0 0, .int .i64 0], .slice none 0 0], []⟩ 8 (by kernel_rfl) (by kernel_rfl) (by kernel_rfl) (by kernel_rfl)) ?_
  intro W base args ds gs before hval0 hW hcnd hsz0 _
  have hval : ∀ (j : Nat) t v, Try.f3.params[j]? = some t → args[j]? = some v → Value.okWide Try.prog W .any base t v := hval0
  have hW' := hW
  obtain ⟨p, q, hA0, hV, rfl, hfz, hnd⟩ := hW
  have hA : DataW.TrodAll enc Try.prog W 0 (fun _ => true) true Try.f3.params.toList args.toList ds p := hA0
  rw [Try.params3] at hA hval
  obtain ⟨v0, vs0, d0, ds0, p0, q0, hargs, rfl, rfl, h0, r0⟩ := trodAll_cons hA
  obtain ⟨v1, vs1, d1, ds1, p1, q1, rfl, rfl, rfl, h1, r1⟩ := trodAll_cons r0
  obtain ⟨rfl, rfl, rfl⟩ := trodAll_nil r1
  obtain rfl : args = #[v0, v1] := by cases args; simp_all
  obtain ⟨rfl, rfl⟩ := trodVars_none hV
  obtain ⟨cs0, rfl, _⟩ := okWide_struct Try.underlying32 (hval 0 32 v0 rfl rfl)
  have k0 := h0
  obtain ⟨x0, y0, hx0, ok0, vd0, f0⟩ := opn_mach h0
  injection hx0 with hx0
  subst hx0
  have lt0 : ∀ x ∈ p0, x.block < W.heap.size := by obtain ⟨m, hm⟩ := k0; exact DataW.trod_lt m _ _ _ hm
  obtain ⟨A1, n1, c1, rfl⟩ := okWide_slice Try.underlying33 (hval 1 33 v1 rfl rfl)
  have k1 := h1
  obtain ⟨A1', x1, c1', hx1, s1⟩ := opn_bytes.sl h1 rfl
  injection hx1 with hx1 hx2 hx3
  subst hx1 hx2 hx3
  have a1 := Sl_len s1
  have z1 := bytes_len Try.underlying33 h1 hsz0 (j := 1) (by rw [Try.params3]; rfl) rfl (by kernel_rfl)
  have lt1 : ∀ x ∈ p1, x.block < W.heap.size := by obtain ⟨m, hm⟩ := k1; exact DataW.trod_lt m _ _ _ hm
  clear hA0 hval0 hsz0
  have hR : ∀ p ∈ Unp.fs x0 y0 ++ [Sl (.slice A1 x1.length c1) x1], p.p (cst W) := by
    intro p hp
    rcases List.mem_append.1 hp with hp | hp
    · exact f0 p hp
    simp only [List.mem_cons, List.not_mem_nil, or_false] at hp
    rcases hp with rfl
    · exact s1
  refine ((back_law_k (w0 := W) (H := []) (R := Unp.fs x0 y0 ++ [Sl (.slice A1 x1.length c1) x1]) (K := fun (v : Value) (_ : List Hp) (_ : List MP) => v = Value.bool true) x0 y0 ok0 vd0 A1 c1 x1 z1 (fun p hp => List.mem_append_left _ hp) (List.mem_append_right _ (by simp)) rfl).run (S.self hR)).mono fun e W' ⟨v, H', R', he, hs, hk⟩ => ?_
  subst he hk
  have bel := hs.below
  exact ⟨_, rfl, _, _, _, [], _, [], hW', trodAll_mk1 (shut_bool Try.underlying4 _), (trodAll_cons_mk (Below.trod laidOut (by kernel_rfl) (of_decide_eq_true (by kernel_rfl)) k0 bel lt0) (trodAll_cons_mk (Below.trod laidOut (by kernel_rfl) (of_decide_eq_true (by kernel_rfl)) k1 bel lt1) trodAll_mk0)), rfl, bel.frame _, fun h => by cases h⟩
theorem over : Rows.imageBackRow.holds Try.pinned (OpenSpec.ofChange Rows.imageBackSpec) :=
  OpenClaim.holds_of_wide 3 Try.f3 rfl rfl rfl rfl rfl rfl rfl ⟨rfl, rfl, rfl, rfl, rfl⟩ rfl rfl rfl rfl rfl (by kernel_rfl) Try.func3 (by kernel_rfl)
    (of_decide_eq_true (by kernel_rfl)) (by unfold Func.isWrapper; first | (rw [if_pos (by decide +kernel)]; kernel_rfl) | (rw [if_neg (by decide +kernel)]; exact ⟨rfl, rfl⟩))
    (fun os started H enc _ => lifted os started H enc)
theorem proved : Rows.ImageBackSaid := over
end Go.Proofs.Ytggdljhmbckpmaa.imageBack
namespace Go.Proofs.Ytggdljhmbckpmaa
theorem imageBack_holds : Rows.ImageBackSaid := imageBack.proved
end Go.Proofs.Ytggdljhmbckpmaa
