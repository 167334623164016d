/- Proved here: ImageCodes of package peculiumlaw30 (the given statement Rows.ImageCodesUptoSaid): it returns true at every input. Conditions: none but those that the given statement itself names. -/
import Derived.Test.YtggdljhmbckpmaaGreatRows
import Derived.Test.YtggdljhmbckpmaaGreatHA
import Derived.WalkKit
import Derived.ProofKit
import Derived.OpenShut
import Derived.ShutString
import Derived.ChangeOld
import Derived.Below
import Derived.SizedLaws
import Derived.JoinedCond
import Derived.Deep.CondSized
set_option linter.unusedVariables false
set_option linter.unusedSimpArgs false
namespace Go.Proofs.YtggdljhmbckpmaaGreat.imageCodesUpto
open Go.ChangeShapes Go.WideShapes Go.ChangeAt Go.RowKit
theorem own : ownKnob Tryz.prog.godebug = none := by kernel_rfl
theorem xH : laidOutB Tryz.prog = true := by kernel_rfl
set_option maxRecDepth 100000 in
theorem lifted (os : Os) (started : os.Started) (H : Type) (enc : TypeId × Value → H) (F : Stop.Interp) :
    ReturnsInHanded {} Tryz.checked os 3 .any ((Rows.OpenSpec.upto Rows.imageCodesSpec).pre6 enc Tryz.prog Tryz.f3 Rows.imageCodesUptoRow.domain false) (((Rows.OpenSpec.upto Rows.imageCodesSpec).at F).post enc Tryz.prog Tryz.f3 false true false false) := by
  refine returnsInHanded_of_cond_sized (C := Tryz.checked) (s := Rows.OpenSpec.upto Rows.imageCodesSpec) (k := Rows.uptoSmall) rfl own started (by kernel_rfl) Tryz.func3
    (OpenSpec.witness (enc := enc) (C := Tryz.checked) (s := Rows.OpenSpec.upto Rows.imageCodesSpec) (k := Rows.uptoSmall) rfl false ⟨#[], #[.agg #[.int .i64 0, .int .i64 0, .int .i64 0, .int .i64 0, .int .i64 0, .int .i64 0, .bool false, .slice none 0 0, .slice none 0 0, .slice none 0 0, .slice none 0 0, .slice none 0 0, .slice none 0 0, .slice none 0 0, .slice none 0 0, .int .i64 0], .slice none 0 0], []⟩ 8 (by kernel_rfl) (by kernel_rfl) (by kernel_rfl)
      (x := ([.agg [.lit (.int .i64 0), .lit (.int .i64 0), .lit (.int .i64 0), .lit (.int .i64 0), .lit (.int .i64 0), .lit (.int .i64 0), .lit (.bool false), .nil, .nil, .nil, .nil, .nil, .agg [.nil], .nil, .nil, .lit (.int .i64 0)], .nil], [], [])) (by kernel_rfl) rfl (by kernel_rfl)) ?_
  intro W base args ds gs before hval0 hW hcnd hk0 hsz0 _
  have hval : ∀ (j : Nat) t v, Tryz.f3.params[j]? = some t → args[j]? = some v → Value.okWide Tryz.prog W .any base t v := hval0
  have hW' := hW
  obtain ⟨p, q, hA0, hV, rfl, hfz, hnd⟩ := hW
  have hA : DataW.TrodAll enc Tryz.prog W 0 (fun _ => true) true Tryz.f3.params.toList args.toList ds p := hA0
  rw [Tryz.params3] at hA hval
  obtain ⟨v0, vs0, d0, ds0, p0, q0, hargs, rfl, rfl, h0, r0⟩ := trodAll_cons hA
  obtain ⟨v1, vs1, d1, ds1, p1, q1, rfl, rfl, rfl, h1, r1⟩ := trodAll_cons r0
  obtain ⟨rfl, rfl, rfl⟩ := trodAll_nil r1
  obtain rfl : args = #[v0, v1] := by cases args; simp_all
  obtain ⟨rfl, rfl⟩ := trodVars_none hV
  obtain ⟨cs0, rfl, _⟩ := okWide_struct Tryz.underlying32 (hval 0 32 v0 rfl rfl)
  have k0 := h0
  obtain ⟨x0, y0, hx0, ok0, vd0, f0, bk0⟩ := r4 h0
  injection hx0 with hx0
  subst hx0
  have hst0 : (stB x0).length ≤ 1000000000 := by
    have hb := of_decide_eq_true hk0
    simp only [List.append_nil, List.cons_append, List.nil_append, Rows.uptoBulkAll] at hb
    have e3 : (stB x0).length = 3 + (Cod.enc (α := jT) x0).length := by rw [stB, List.length_append]; rfl
    omega
  have lt0 : ∀ x ∈ p0, x.block < W.heap.size := by obtain ⟨m, hm⟩ := k0; exact DataW.trod_lt m _ _ _ hm
  obtain ⟨A1, n1, c1, rfl⟩ := okWide_slice Tryz.underlying33 (hval 1 33 v1 rfl rfl)
  have k1 := h1
  obtain ⟨A1', x1, c1', hx1, s1⟩ := opn_bytes.sl h1 rfl
  injection hx1 with hx1 hx2 hx3
  subst hx1 hx2 hx3
  have a1 := wE s1
  have z1 := yN Tryz.underlying33 h1 hsz0 (j := 1) (by rw [Tryz.params3]; rfl) rfl (by kernel_rfl)
  have lt1 : ∀ x ∈ p1, x.block < W.heap.size := by obtain ⟨m, hm⟩ := k1; exact DataW.trod_lt m _ _ _ hm
  clear hA0 hval0 hsz0
  have hR : ∀ p ∈ Unp.fs x0 y0 ++ [Sl (.slice A1 x1.length c1) x1], p.p (sA W) := by
    intro p hp
    rcases List.mem_append.1 hp with hp | hp
    · exact f0 p hp
    simp only [List.mem_cons, List.not_mem_nil, or_false] at hp
    rcases hp with rfl
    · exact s1
  refine ((codes_k (w0 := W) (H := []) (R := Unp.fs x0 y0 ++ [Sl (.slice A1 x1.length c1) x1]) (K := fun (v : Value) (_ : List Hp) (_ : List MP) => v = Value.bool true) x0 y0 ok0 hst0 A1 c1 x1 z1 (fun p hp => List.mem_append_left _ hp) (List.mem_append_right _ (by simp)) rfl).run (S.self hR)).mono fun e W' ⟨v, H', R', he, hs, hk⟩ => ?_
  subst he hk
  have bel := hs.below
  exact ⟨_, rfl, _, _, _, [], _, [], hW', trodAll_mk1 (shut_bool Tryz.underlying4 _), (trodAll_cons_mk (Below.trod xH (by kernel_rfl) (of_decide_eq_true (by kernel_rfl)) k0 bel lt0) (trodAll_cons_mk (Below.trod xH (by kernel_rfl) (of_decide_eq_true (by kernel_rfl)) k1 bel lt1) trodAll_mk0)), rfl, bel.frame _, fun h => by cases h⟩
theorem over : Rows.imageCodesUptoRow.holds Tryz.pinned (Rows.OpenSpec.upto Rows.imageCodesSpec) :=
  OpenClaim.holds_of_cond 3 Tryz.f3 rfl rfl rfl rfl rfl rfl rfl ⟨rfl, rfl, rfl, rfl, rfl⟩ rfl rfl rfl rfl rfl (by kernel_rfl) Tryz.func3 (by kernel_rfl)
    (of_decide_eq_true (by kernel_rfl)) (by unfold Func.isWrapper; first | (rw [if_pos (by decide +kernel)]; kernel_rfl) | (rw [if_neg (by decide +kernel)]; exact ⟨rfl, rfl⟩))
    (fun os started H enc _ F => lifted os started H enc F)
theorem proved : Rows.ImageCodesUptoSaid := over
end Go.Proofs.YtggdljhmbckpmaaGreat.imageCodesUpto
namespace Go.Proofs.YtggdljhmbckpmaaGreat
theorem imageCodesUpto_holds : Rows.ImageCodesUptoSaid := imageCodesUpto.proved
end Go.Proofs.YtggdljhmbckpmaaGreat
