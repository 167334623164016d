/- Encode: walk. -/
import Derived.Test.YtggdljhmbckpmaaE2
import Derived.Test.YtggdljhmbckpmaaF8
set_option linter.unusedVariables false
set_option linter.unusedSimpArgs false
namespace Go.Proofs.Ytggdljhmbckpmaa
open Go Go.RowKit
set_option maxRecDepth 100000
set_option maxHeartbeats 1600000

section
variable {P : Program} {w0 : World} {E : List Value} {H : List Hp} {R : List MP} {ty : TypeId} {K : Value → List MP → Prop}
theorem pw_index_str {t : TypeId} {x ix : Operand} {s : ByteArray} {k : IntKind} {i : Int} {c : UInt8} [h : TyU P t .string] (hx : ev E x = .string s) (hix : ev E ix = .int k i) (h0 : 0 ≤ i) (hc : s[i.toNat]? = some c) (kk : K (byteV c) R) : PW P w0 E (.index t x ix) ty H R K :=
  pw_val rfl (fun w _ => by
    rw [hx, hix]
    simp only [Instr.index, asIntOf, Sem.run_bind, Sem.run_pure, Result.andThen_ok, run_underlying h.und, if_pos h0, hc]
    rfl) kk
end
instance : TyI Try.prog 20 := ⟨by kernel_rfl⟩
def headMa : List UInt8 := [109, 97, 1]
def encR (out : List UInt8) : List UInt8 × Int := if 3 + out.length ≤ 250000 then (headMa ++ out, 0) else ([], 2)
theorem encode_k {w0 : World} {H : List Hp} {R R0 : List MP} {K : Value → List Hp → List MP → Prop} (cells : List Value) (out : List UInt8) (hst : ∀ bw, Wr Try.prog w0 R0 37 [.pointer (some ⟨bw, 0, none⟩), .agg cells.toArray] bw out) (hlen : cells.length = 16) (hsub : ∀ p ∈ R0, p ∈ R)
    (k : KB K (encR out) H R) : CallsK Try.prog w0 11 #[.agg cells.toArray] H R K := by
  refine callsM_of Try.func11 rfl Try.ntmps11 nep ?_
  apply TC_seq; apply TC_region
  repeat' ((refine T_gen rfl rfl ?_; ((first | refine gw_box clp (fun b => ?_) | refine gw_alloc clp (fun b => ?_))); refine T_nv ?_))
  apply T_nil; apply En_then; apply TC_seq; apply TC_region
  repeat' (first | (refine T_defer (cap := [_, _]) rfl ?_) | (refine T_pure rfl rfl ?_; ((refine pw_makeFuncL agp agp ?_)); refine T_nv ?_))
  apply T_nil; apply En_then; apply TC_seq; apply TC_region
  rename_i b1 b2
  revert b
  intro b3
  repeat' (first | (refine T_pure rfl rfl ?_; ((first | refine pw_as ?_ | refine pw_build bldp ?_)); refine T_nv ?_) | (refine T_gen rfl rfl ?_; ((refine gw_box clp (fun b => ?_))); refine T_nv ?_))
  apply T_nil; apply En_then
  refine TC_nilrow 5 1 ?_
  -- the deferred function, when it is too much
  have hpan : ∀ (E' : List Value) (R' : List MP), (∀ p ∈ R, p ∈ R') → E'.getD 2 undef = .pointer (some ⟨b2, 0, none⟩) → E'.getD 3 undef = .pointer (some ⟨b3, 0, none⟩) → ¬ (3 + out.length ≤ 250000) → LVm Try.prog w0 Try.f11 K (.panicking tl) [⟨.fn (.func 35) [.pointer (some ⟨b2, 0, none⟩), .pointer (some ⟨b3, 0, none⟩)].toArray, #[]⟩] E' (.blk b3 [.int .i64 0] 35 :: .blk b2 [.slice none 0 0] 33 :: .blk b1 cells 32 :: H) R' := by
    intro E' R' hR' hE2 hE3 hbig
    refine LVm_rec Try.func35 rfl rfl Try.ntmps35 rfl (by simp only [setD, List.length_cons, List.length_nil, Nat.reduceAdd, Nat.reduceSub, List.replicate_succ, List.replicate_zero, List.cons_append, List.nil_append, List.set_cons_succ, List.set_cons_zero]; rfl) ?_
    repeat' (first | (refine T_pure rfl rfl ?_; refine pw_eqnil_held rfl rfl ?_; refine T_nv ?_) | (refine T_pure rfl rfl ?_; refine pw_assert_yes rfl rfl ?_; refine T_nv ?_) | (apply TC_seq) | (apply TC_region) | (apply TC_block) | (apply TC_cond_true; exact rfl) | (apply TC_cond_false; exact rfl) | (apply T_nil) | (apply En_then) | (apply En_block) | (apply T_store; exact rfl; ((first | refine gw_store (i := 0) rfl clp rfl (by rfl) (by simp) (by simp [Value.oneCell']) ?_ | refine gw_store (i := 1) rfl clp rfl (by rfl) (by simp) (by simp [Value.oneCell']) ?_ | refine gw_store (i := 2) rfl clp rfl (by rfl) (by simp) (by simp [Value.oneCell']) ?_)); refine T_nv ?_; refine T_hq ?_) | (refine T_pure rfl rfl ?_; ((refine pw_extract rfl rfl ?_)); refine T_nv ?_) | (refine T_gen rfl rfl ?_; ((refine gw_alloc clp (fun b => ?_))); refine T_nv ?_))
    exact En_dpost (.inl rfl) (LVm_nil (res2 rfl (rv_cell (i := 2) hE2 rfl rfl) (rv_cell (i := 1) hE3 rfl rfl)) H (Sl (.slice none 0 0) ([] : List UInt8) :: R) (fun w hs => (hs.weaken sbp hR').sl_nil UInt8) (KB_eq (r' := ([], 2)) (by unfold encR; rw [if_neg hbig]) k none 0))
  have hret : ∀ (E' : List Value) (H' : List Hp) (R' : List MP) (A : Option Addr) (c : Nat), (∀ p ∈ R, p ∈ R') → H.Sublist H' → E'.getD 2 undef = .pointer (some ⟨b2, 0, none⟩) → E'.getD 3 undef = .pointer (some ⟨b3, 0, none⟩) → 3 + out.length ≤ 250000 → LVm Try.prog w0 Try.f11 K .returning [⟨.fn (.func 35) [.pointer (some ⟨b2, 0, none⟩), .pointer (some ⟨b3, 0, none⟩)].toArray, #[]⟩] E' (.blk b3 [.int .i64 0] 35 :: .blk b2 [.slice A (headMa ++ out).length c] 33 :: H') (Sl (.slice A (headMa ++ out).length c) (headMa ++ out) :: R') := by
    intro E' H' R' A c hR' hH' hE2 hE3 hbig
    refine LVm_rec Try.func35 rfl rfl Try.ntmps35 rfl (by simp only [setD, List.length_cons, List.length_nil, Nat.reduceAdd, Nat.reduceSub, List.replicate_succ, List.replicate_zero, List.cons_append, List.nil_append, List.set_cons_succ, List.set_cons_zero]; rfl) ?_
    repeat' (first | (refine T_pure rfl rfl ?_; refine pw_eqnil_nil rfl ?_; refine T_nv ?_) | (apply TC_seq) | (apply TC_region) | (apply TC_block) | (apply TC_cond_true; exact rfl) | (apply T_nil) | (apply En_then) | (apply En_block) | (refine T_pure rfl rfl ?_; ((refine pw_as ?_)); refine T_nv ?_))
    exact En_dpost (.inl rfl) (LVm_nil (res2 rfl (rv_cell (i := 1) hE2 rfl rfl) (rv_cell (i := 0) hE3 rfl rfl)) H (Sl (.slice A (headMa ++ out).length c) (headMa ++ out) :: R) (fun w hs => hs.weaken (List.Sublist.cons _ (List.Sublist.cons _ hH')) (sub_cons List.mem_cons_self (fun p hp => List.mem_cons_of_mem _ (hR' p hp)))) (KB_eq (r' := (headMa ++ out, 0)) (by unfold encR; rw [if_pos hbig]) k A c))
  repeat' (first | (apply TC_seq) | (apply TC_region) | (apply TC_block) | (apply T_nil) | (apply En_then) | (refine T_pure rfl rfl ?_; ((refine pw_mv ?_)); refine T_nv ?_))
  refine TC_unroll 4 ?_
  apply TCr_succ
  repeat' (first | (refine T_pure rfl rfl ?_; refine pw_index_str (c := 109) rfl rfl (by omega) rfl ?_; refine T_nv ?_) | (apply TC_seq) | (apply TC_region) | (apply TC_block) | (apply TC_skip) | (apply TC_cond_true; exact rfl) | (apply T_nil) | (apply En_then) | (apply T_bin; exact rfl; ((refine pw_lss rfl rfl (fun h => ?_) (fun h => ?_))) <;> (first | (exfalso; omega) | refine T_nv ?_)) | (refine T_pure rfl rfl ?_; ((first | refine pw_mv ?_ | refine pw_as ?_)); refine T_nv ?_))
  refine T_wr rfl rfl (byte_w b 109) (fun _ h => (by cases h)) (bs := []) rfl rfl (by decide) (fun _ v0 => ?_) (fun hgt => absurd hgt (by decide))
  refine T_nv ?_
  repeat' (first | (apply TC_region) | (apply T_nil) | (apply En_then) | (apply En_block) | (apply T_bin; exact rfl; ((refine pw_add64 rfl rfl (by omega) (by omega) ?_)); refine T_nv ?_) | (refine T_pure rfl rfl ?_; ((refine pw_mv ?_)); refine T_nv ?_))
  apply En_round
  apply TCr_succ
  repeat' (first | (refine T_pure rfl rfl ?_; refine pw_index_str (c := 97) rfl rfl (by omega) rfl ?_; refine T_nv ?_) | (apply TC_seq) | (apply TC_region) | (apply TC_block) | (apply TC_skip) | (apply TC_cond_true; exact rfl) | (apply T_nil) | (apply En_then) | (apply T_bin; exact rfl; ((refine pw_lss rfl rfl (fun h => ?_) (fun h => ?_))) <;> (first | (exfalso; omega) | refine T_nv ?_)) | (refine T_pure rfl rfl ?_; ((first | refine pw_mv ?_ | refine pw_as ?_)); refine T_nv ?_))
  refine T_wr rfl rfl (byte_w b 97) (fun _ h => (by cases h)) (bs := [109]) rfl rfl (by decide) (fun _ v1 => ?_) (fun hgt => absurd hgt (by decide))
  refine T_nv ?_
  repeat' (first | (apply TC_region) | (apply T_nil) | (apply En_then) | (apply En_block) | (apply T_bin; exact rfl; ((refine pw_add64 rfl rfl (by omega) (by omega) ?_)); refine T_nv ?_) | (refine T_pure rfl rfl ?_; ((refine pw_mv ?_)); refine T_nv ?_))
  apply En_round
  apply TCr_succ
  repeat' (first | (refine T_pure rfl rfl ?_; refine pw_index_str (c := 1) rfl rfl (by omega) rfl ?_; refine T_nv ?_) | (apply TC_seq) | (apply TC_region) | (apply TC_block) | (apply TC_skip) | (apply TC_cond_true; exact rfl) | (apply T_nil) | (apply En_then) | (apply T_bin; exact rfl; ((refine pw_lss rfl rfl (fun h => ?_) (fun h => ?_))) <;> (first | (exfalso; omega) | refine T_nv ?_)) | (refine T_pure rfl rfl ?_; ((first | refine pw_mv ?_ | refine pw_as ?_)); refine T_nv ?_))
  refine T_wr rfl rfl (byte_w b 1) (fun _ h => (by cases h)) (bs := [109, 97]) rfl rfl (by decide) (fun _ v2 => ?_) (fun hgt => absurd hgt (by decide))
  refine T_nv ?_
  repeat' (first | (apply TC_region) | (apply T_nil) | (apply En_then) | (apply En_block) | (apply T_bin; exact rfl; ((refine pw_add64 rfl rfl (by omega) (by omega) ?_)); refine T_nv ?_) | (refine T_pure rfl rfl ?_; ((refine pw_mv ?_)); refine T_nv ?_))
  apply En_round
  apply TCr_succ
  repeat' (first | (refine T_load rfl ?_; refine pw_load (i := 4) rfl rfl (cellsVal_all hlen) ?_; refine T_nv ?_) | (apply TC_seq) | (apply TC_region) | (apply TC_exit) | (apply TC_cond_false; exact rfl) | (apply T_nil) | (apply En_then) | (apply En_then_exit) | (apply En_block_exit) | (apply T_bin; exact rfl; ((refine pw_lss rfl rfl (fun h => ?_) (fun h => ?_))) <;> (first | (exfalso; omega) | refine T_nv ?_)) | (refine T_pure rfl rfl ?_; ((refine pw_mv ?_)); refine T_nv ?_))
  refine T_wr rfl rfl (hst b) hsub (bs := headMa) rfl rfl (by decide) (fun hle v4 => ?_) (fun hgt => ?_)
  rotate_left
  · skip
    repeat' ((apply En_then_panic))
    exact En_leave_panic (hpan _ R (fun _ h => h) rfl rfl (by simp only [headMa, List.length_cons, List.length_nil] at hgt; omega))
  refine T_nv ?_
  refine T_stays 0 rfl (fun A c hv => ?_)
  subst hv
  refine T_hq ?_
  repeat' (first | (apply TC_seq) | (apply TC_region) | (apply TC_ret) | (apply T_nil) | (apply En_then) | (apply T_load; exact rfl; ((refine pw_load (i := 0) rfl rfl rfl ?_)); refine T_nv ?_) | (apply T_store; exact rfl; ((first | refine gw_store (i := 1) rfl clp rfl (by rfl) (by simp) (by simp [Value.oneCell']) ?_ | refine gw_store (i := 2) rfl clp rfl (by rfl) (by simp) (by simp [Value.oneCell']) ?_)); refine T_nv ?_; refine T_hq ?_) | (refine T_pure rfl rfl ?_; ((first | refine pw_mv ?_ | refine pw_nilCheck rfl ?_ | refine pw_fieldAddr rfl ?_)); refine T_nv ?_))
  refine En_weaken (.blk b3 [.int .i64 0] 35 :: .blk b2 [.slice A (headMa ++ out).length c] 33 :: .blk b1 cells 32 :: H) _ (fun w hs => hs.weaken (List.Sublist.cons _ (List.Sublist.refl _)) (fun _ h => h)) ?_
  exact En_leave_ret (.inl rfl) (hret _ (.blk b1 cells 32 :: H) R A c (fun _ h => h) (List.sublist_cons_self _ _) rfl rfl (by simp only [headMa, List.length_cons, List.length_nil] at hle; omega))
end Go.Proofs.Ytggdljhmbckpmaa
