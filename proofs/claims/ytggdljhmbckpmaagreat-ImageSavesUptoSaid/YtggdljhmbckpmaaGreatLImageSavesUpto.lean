/- Proved here: ImageSaves of package peculiumlaw30 (the given statement Rows.ImageSavesUptoSaid): it returns true at every input. Conditions: none but those that the given statement itself names. -/
import Derived.Test.YtggdljhmbckpmaaGreatRows
import Derived.Test.YtggdljhmbckpmaaGreatHSJ
import Derived.Test.YtggdljhmbckpmaaGreatHB
import Derived.WalkKit
import Derived.ProofKit
import Derived.OpenShut
import Derived.ShutString
import Derived.ChangeOld
import Derived.Below
import Derived.SizedLaws
import Derived.JoinedCond
import Derived.Deep.CondSized
set_option linter.unusedVariables false
set_option linter.unusedSimpArgs false
namespace Go.Proofs.YtggdljhmbckpmaaGreat.imageSavesUpto
open Go.ChangeShapes Go.WideShapes Go.ChangeAt Go.RowKit
theorem own : ownKnob Tryz.prog.godebug = none := by kernel_rfl
theorem zO : laidOutB Tryz.prog = true := by kernel_rfl
set_option maxRecDepth 100000 in
theorem lifted (os : Os) (started : os.Started) (H : Type) (enc : TypeId × Value → H) (F : Stop.Interp) :
    ReturnsInHanded {} Tryz.checked os 5 .any ((Rows.OpenSpec.upto Rows.imageSavesSpec).pre6 enc Tryz.prog Tryz.f5 Rows.imageSavesUptoRow.domain false) (((Rows.OpenSpec.upto Rows.imageSavesSpec).at F).post enc Tryz.prog Tryz.f5 false true false false) := by
  refine returnsInHanded_of_cond_sized (C := Tryz.checked) (s := Rows.OpenSpec.upto Rows.imageSavesSpec) (k := Rows.uptoSmall) rfl own started (by kernel_rfl) Tryz.func5
    (OpenSpec.witness (enc := enc) (C := Tryz.checked) (s := Rows.OpenSpec.upto Rows.imageSavesSpec) (k := Rows.uptoSmall) rfl false ⟨#[], #[.agg #[.slice none 0 0, .slice none 0 0], .agg #[.int .i64 0, .int .i64 0, .int .i64 0, .int .i64 0, .int .i64 0, .int .i64 0, .bool false, .slice none 0 0, .slice none 0 0, .slice none 0 0, .slice none 0 0, .slice none 0 0, .slice none 0 0, .slice none 0 0, .slice none 0 0, .int .i64 0]], []⟩ 8 (by kernel_rfl) (by kernel_rfl) (by kernel_rfl)
      (x := ([.agg [.nil, .nil], .agg [.lit (.int .i64 0), .lit (.int .i64 0), .lit (.int .i64 0), .lit (.int .i64 0), .lit (.int .i64 0), .lit (.int .i64 0), .lit (.bool false), .nil, .nil, .nil, .nil, .nil, .agg [.nil], .nil, .nil, .lit (.int .i64 0)]], [], [])) (by kernel_rfl) rfl (by kernel_rfl)) ?_
  intro W base args ds gs before hval0 hW hcnd hk0 hsz0 _
  have hval : ∀ (j : Nat) t v, Tryz.f5.params[j]? = some t → args[j]? = some v → Value.okWide Tryz.prog W .any base t v := hval0
  have hW' := hW
  obtain ⟨p, q, hA0, hV, rfl, hfz, hnd⟩ := hW
  have hA : DataW.TrodAll enc Tryz.prog W 0 (fun _ => true) true Tryz.f5.params.toList args.toList ds p := hA0
  rw [Tryz.params5] at hA hval
  obtain ⟨v0, vs0, d0, ds0, p0, q0, hargs, rfl, rfl, h0, r0⟩ := trodAll_cons hA
  obtain ⟨v1, vs1, d1, ds1, p1, q1, rfl, rfl, rfl, h1, r1⟩ := trodAll_cons r0
  obtain ⟨rfl, rfl, rfl⟩ := trodAll_nil r1
  obtain rfl : args = #[v0, v1] := by cases args; simp_all
  obtain ⟨rfl, rfl⟩ := trodVars_none hV
  obtain ⟨cs0, rfl, _⟩ := okWide_struct Tryz.underlying51 (hval 0 51 v0 rfl rfl)
  have k0 := h0
  obtain ⟨A0, c0, B0, e0, x0, hx0, s0, t0⟩ := r9 h0
  injection hx0 with hx0
  subst hx0
  have a0 := wA s0
  have b0 := wA t0
  have lt0 : ∀ x ∈ p0, x.block < W.heap.size := by obtain ⟨m, hm⟩ := k0; exact DataW.trod_lt m _ _ _ hm
  obtain ⟨cs1, rfl, _⟩ := okWide_struct Tryz.underlying32 (hval 1 32 v1 rfl rfl)
  have k1 := h1
  obtain ⟨x1, y1, hx1, ok1, vd1, f1, bk1⟩ := opb_mach h1
  injection hx1 with hx1
  subst hx1
  have hst1 : (stB x1).length ≤ 1000000000 := by
    have hb := of_decide_eq_true hk0
    simp only [List.append_nil, List.cons_append, List.nil_append, Rows.uptoBulkAll] at hb
    have e3 : (stB x1).length = 3 + (Cod.enc (α := jO) x1).length := by rw [stB, List.length_append]; rfl
    omega
  have lt1 : ∀ x ∈ p1, x.block < W.heap.size := by obtain ⟨m, hm⟩ := k1; exact DataW.trod_lt m _ _ _ hm
  clear hA0 hval0 hsz0
  have hR : ∀ p ∈ Unp.fs x1 y1 ++ [Sl (.slice A0 x0.bytes.length c0) x0.bytes, Sl (.slice B0 x0.pending.length e0) x0.pending], p.p (sM W) := by
    intro p hp
    rcases List.mem_append.1 hp with hp | hp
    · exact f1 p hp
    simp only [List.mem_cons, List.not_mem_nil, or_false] at hp
    rcases hp with rfl | rfl
    · exact s0
    · exact t0
  refine ((saves_k (w0 := W) (H := []) (R := Unp.fs x1 y1 ++ [Sl (.slice A0 x0.bytes.length c0) x0.bytes, Sl (.slice B0 x0.pending.length e0) x0.pending]) (K := fun (v : Value) (_ : List Hp) (_ : List MP) => v = Value.bool true) A0 c0 B0 e0 x0 x1 y1 ok1 vd1 hst1 a0 b0 (List.mem_append_right _ dB) (List.mem_append_right _ dB) (fun p hp => List.mem_append_left _ hp) rfl).run (S.self hR)).mono fun e W' ⟨v, H', R', he, hs, hk⟩ => ?_
  subst he hk
  have bel := hs.below
  exact ⟨_, rfl, _, _, _, [], _, [], hW', trodAll_mk1 (shut_bool Tryz.underlying4 _), (trodAll_cons_mk (Below.trod zO (by kernel_rfl) (of_decide_eq_true (by kernel_rfl)) k0 bel lt0) (trodAll_cons_mk (Below.trod zO (by kernel_rfl) (of_decide_eq_true (by kernel_rfl)) k1 bel lt1) trodAll_mk0)), rfl, bel.frame _, fun h => by cases h⟩
theorem over : Rows.imageSavesUptoRow.holds Tryz.pinned (Rows.OpenSpec.upto Rows.imageSavesSpec) :=
  OpenClaim.holds_of_cond 5 Tryz.f5 rfl rfl rfl rfl rfl rfl rfl ⟨rfl, rfl, rfl, rfl, rfl⟩ rfl rfl rfl rfl rfl (by kernel_rfl) Tryz.func5 (by kernel_rfl)
    (of_decide_eq_true (by kernel_rfl)) (by unfold Func.isWrapper; first | (rw [if_pos jN]; kernel_rfl) | (rw [if_neg jN]; exact ⟨rfl, rfl⟩))
    (fun os started H enc _ F => lifted os started H enc F)
theorem proved : Rows.ImageSavesUptoSaid := over
end Go.Proofs.YtggdljhmbckpmaaGreat.imageSavesUpto
namespace Go.Proofs.YtggdljhmbckpmaaGreat
theorem imageSavesUpto_holds : Rows.ImageSavesUptoSaid := imageSavesUpto.proved
end Go.Proofs.YtggdljhmbckpmaaGreat
