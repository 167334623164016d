/- Decode: its small functions, and the run at a wrong head: walks. Joins that other exits pass by. -/
import Derived.Test.YtggdljhmbckpmaaE6J
import Derived.Test.YtggdljhmbckpmaaA13J
set_option linter.unusedVariables false
set_option linter.unusedSimpArgs false
namespace Go.Proofs.Ytggdljhmbckpmaa
open Go Go.RowKit
set_option maxRecDepth 100000
set_option maxHeartbeats 1600000

instance : TyU Try.prog 99 (.struct #[{ name := "at", type := 3, offset := 0, embedded := false, tag := "", pkgPath := "peculium/image", byteOffset := 0 }]) := ⟨Try.underlying99⟩
def rf (n : Int) : List PanicEntry := [{ v := .iface 99 (.agg #[.int .i64 n]), recovered := false }]
theorem next_r {w0 : World} {H : List Hp} {R : List MP} {K : Value → List Hp → List MP → Prop} {KP : List PanicEntry → List Hp → List MP → Prop} (br : Nat) (A : Option Addr) (c : Nat) (xs : List UInt8) (at_ : Nat) (hx : xs.length ≤ 9223372036854775806) (hat : at_ ≤ xs.length) (hm : Sl (.slice A xs.length c) xs ∈ R)
    (k : ∀ (h : at_ < xs.length), K (byteV xs[at_]) (.blk br [.slice A xs.length c, .int .i64 ((at_ + 1 : Nat) : Int)] 104 :: H) R) (kp : xs.length ≤ at_ → KP (rf xs.length) H R) :
    CallsP Try.prog w0 39 #[.pointer (some ⟨br, 0, none⟩)] (.blk br [.slice A xs.length c, .int .i64 (at_ : Int)] 104 :: H) R K KP := by
  refine callsP_of Try.func39 rfl Try.ntmps39 nep ?_
  repeat' (first | (apply TC_seq) | (apply TC_region) | (apply T_nil) | (apply En_then) | (refine T_pure rfl rfl ?_; ((refine pw_as ?_)); refine T_nv ?_))
  refine TC_draw mixed (by decide +kernel) (fun _ _ _ _ _ _ h => h) (List.Sublist.refl _) ?_
  all_goals ((refine TA_p 0 ?_; ((refine pw_mv ?_)); refine TA_nv ?_))
  all_goals ((refine TA_p 1 ?_; ((refine pw_nilCheck rfl ?_)); refine TA_nv ?_))
  all_goals ((refine TA_p 2 ?_; ((refine pw_fieldAddr rfl ?_)); refine TA_nv ?_))
  all_goals ((refine TA_p 3 ?_; ((refine pw_load (i := 0) rfl rfl rfl ?_)); refine TA_nv ?_))
  all_goals ((refine TA_p 4 ?_; ((refine pw_mv ?_)); refine TA_nv ?_))
  all_goals ((refine TA_p 5 ?_; ((refine pw_nilCheck rfl ?_)); refine TA_nv ?_))
  all_goals ((refine TA_p 6 ?_; ((refine pw_fieldAddr rfl ?_)); refine TA_nv ?_))
  all_goals ((refine TA_p 7 ?_; ((refine pw_load (i := 0) rfl rfl rfl ?_)); refine TA_nv ?_))
  all_goals ((refine TA_p 8 ?_; ((refine pw_len rfl ?_)); refine TA_nv ?_))
  all_goals ((refine TA_p 9 ?_; ((refine pw_geq rfl rfl (fun h => ?_) (fun h => ?_))) <;> (refine TA_nv ?_)))
  all_goals refine TA_d ?_
  · skip
    repeat' (first | (refine T_panic rfl rfl ?_) | (apply TC_region) | (apply TC_cond_true; exact rfl) | (apply En_then) | (apply En_then_panic) | (apply T_load; exact rfl; ((refine pw_load (i := 0) rfl rfl rfl ?_)); refine T_nv ?_) | (refine T_pure rfl rfl ?_; ((first | refine pw_mv ?_ | refine pw_nilCheck rfl ?_ | refine pw_fieldAddr rfl ?_ | refine pw_len rfl ?_ | refine pw_build bldp ?_ | refine pw_makeInterface rfl ?_)); refine T_nv ?_))
    exact En_panicked (fin_P H R (fun w hs => hs.weaken sbp kpp) (kp (by omega)))
  · have hlt : at_ < xs.length := by omega
    have e1 : (((at_ : Int) + 1) - 1) = (at_ : Int) := by omega
    repeat' (first | (apply TC_seq) | (apply TC_region) | (apply TC_skip) | (apply TC_cond_false; exact rfl) | (apply T_nil) | (apply En_then) | (apply T_load; exact rfl; ((refine pw_load (i := 0) rfl rfl rfl ?_)); refine T_nv ?_) | (apply T_bin; exact rfl; ((refine pw_add64 rfl rfl (by omega) (by omega) ?_)); refine T_nv ?_) | (apply T_store; exact rfl; ((refine gw_store (i := 0) rfl clp rfl (by rfl) (by simp) (by simp [Value.oneCell']) ?_)); refine T_nv ?_; refine T_hq ?_) | (refine T_pure rfl rfl ?_; ((first | refine pw_mv ?_ | refine pw_nilCheck rfl ?_ | refine pw_fieldAddr rfl ?_)); refine T_nv ?_))
    refine TC_draw mixed (by decide +kernel) (fun _ _ _ _ _ _ h => h) (List.Sublist.refl _) ?_
    all_goals ((refine TA_p 0 ?_; ((refine pw_mv ?_)); refine TA_nv ?_))
    all_goals ((refine TA_p 1 ?_; ((refine pw_nilCheck rfl ?_)); refine TA_nv ?_))
    all_goals ((refine TA_p 2 ?_; ((refine pw_fieldAddr rfl ?_)); refine TA_nv ?_))
    all_goals ((refine TA_p 3 ?_; ((refine pw_load (i := 0) rfl rfl rfl ?_)); refine TA_nv ?_))
    all_goals ((refine TA_p 4 ?_; ((refine pw_mv ?_)); refine TA_nv ?_))
    all_goals ((refine TA_p 5 ?_; ((refine pw_nilCheck rfl ?_)); refine TA_nv ?_))
    all_goals ((refine TA_p 6 ?_; ((refine pw_fieldAddr rfl ?_)); refine TA_nv ?_))
    all_goals ((refine TA_p 7 ?_; ((refine pw_load (i := 0) rfl rfl rfl ?_)); refine TA_nv ?_))
    all_goals ((refine TA_p 8 ?_; ((refine pw_sub64 rfl rfl (by omega) (by omega) ?_)); refine TA_nv ?_))
    all_goals ((refine TA_p 9 ?_; ((refine pw_index_b evp rfl memt (List.getElem?_eq_getElem (by omega)) (by omega) (fun b o => ?_))); refine TA_nv ?_))
    all_goals ((refine TA_p 10 ?_; ((refine pw_load_at0 rfl memr rfl ?_)); refine TA_nv ?_))
    all_goals ((refine TA_p 11 ?_; ((refine pw_as ?_)); refine TA_nv ?_))
    all_goals refine TA_d ?_
    repeat' (first | (apply TC_ret) | (apply En_then))
    have e2 : (((at_ : Int) + 1) - 1).toNat = at_ := by omega
    have k' := k hlt
    simp only [e2]
    refine En_fin (.inl rfl) (res1 rfl (rv_tmp rfl)) (fin_R _ R (fun w hs => hs.weaken sbp kpp) k')
theorem back_r {w0 : World} {H : List Hp} {R : List MP} {K : Value → List Hp → List MP → Prop} {KP : List PanicEntry → List Hp → List MP → Prop} (br : Nat) (v : Value) (at_ : Int) (ha : 1 ≤ at_) (hb : at_ ≤ 9223372036854775807)
    (kp : KP (rf (at_ - 1)) H R) : CallsP Try.prog w0 40 #[.pointer (some ⟨br, 0, none⟩)] (.blk br [v, .int .i64 at_] 104 :: H) R K KP := by
  refine callsP_of Try.func40 rfl Try.ntmps40 nep ?_
  repeat' (first | (refine T_load rfl ?_; refine pw_load (i := 0) (o := 1) rfl rfl rfl ?_; refine T_nv ?_) | (refine T_panic rfl rfl ?_) | (apply TC_region) | (apply T_bin; exact rfl; ((refine pw_sub64 rfl rfl (by omega) (by omega) ?_)); refine T_nv ?_) | (refine T_pure rfl rfl ?_; ((first | refine pw_mv ?_ | refine pw_nilCheck rfl ?_ | refine pw_fieldAddr rfl ?_ | refine pw_build bldp ?_ | refine pw_makeInterface rfl ?_)); refine T_nv ?_))
  exact En_panicked (fin_P H R (fun w hs => hs.weaken sbp kpp) kp)
theorem next_bad {w0 : World} {H : List Hp} {R : List MP} {K : Value → List Hp → List MP → Prop} (br : Nat) (A : Option Addr) (c : Nat) (xs : List UInt8) (at_ : Nat) (hx : xs.length ≤ 9223372036854775806) (hlt : at_ < xs.length) (hm : Sl (.slice A xs.length c) xs ∈ R)
    (k : K (byteV xs[at_]) (.blk br [.slice A xs.length c, .int .i64 ((at_ + 1 : Nat) : Int)] 104 :: H) R) :
    CallsK Try.prog w0 39 #[.pointer (some ⟨br, 0, none⟩)] (.blk br [.slice A xs.length c, .int .i64 (at_ : Int)] 104 :: H) R K :=
  (next_r br A c xs at_ hx (by omega) hm (fun _ => k) (fun h => absurd h (by omega))).k

def machZ : List Value := [.int .i64 0, .int .i64 0, .int .i64 0, .int .i64 0, .int .i64 0, .int .i64 0, .bool false, .slice none 0 0, .slice none 0 0, .slice none 0 0, .slice none 0 0, .slice none 0 0, .slice none 0 0, .slice none 0 0, .slice none 0 0, .int .i64 0]
/-- A wrong third byte of the head. -/
theorem decode_bad {w0 : World} {H : List Hp} {R : List MP} {K : Value → List Hp → List MP → Prop} (A : Option Addr) (c : Nat) (hm : Sl (.slice A 3 c) ([109, 97, 2] : List UInt8) ∈ R)
    (k : K (.tuple #[.agg machZ.toArray, .int .i64 2, .int .i64 300]) H R) : CallsK Try.prog w0 12 #[.slice A 3 c] H R K := by
  refine callsM_of Try.func12 rfl Try.ntmps12 nep ?_
  apply TC_seq; apply TC_region
  repeat' ((refine T_gen rfl rfl ?_; ((refine gw_alloc clp (fun b => ?_))); refine T_nv ?_))
  rename_i b2 b3
  revert b
  intro b4
  apply T_nil; apply En_then
  repeat' (first | (refine T_defer (cap := [_, _, _]) rfl ?_) | (apply TC_seq) | (apply TC_region) | (apply TC_block) | (apply TC_skip) | (apply TC_cond_false; exact rfl) | (apply T_nil) | (apply En_then) | (apply T_bin; exact rfl; ((refine pw_gtr rfl rfl (fun h => ?_) (fun h => ?_))) <;> (first | (exfalso; omega) | refine T_nv ?_)) | (refine T_pure rfl rfl ?_; ((first | refine pw_mv ?_ | refine pw_as ?_ | refine pw_len rfl ?_ | refine pw_makeFuncL agp agp ?_ | refine pw_build bldp ?_)); refine T_nv ?_) | (refine T_gen rfl rfl ?_; ((refine gw_box clp (fun b => ?_))); refine T_nv ?_))
  refine TC_unroll 3 ?_
  apply TCr_succ
  repeat' (first | (apply TC_seq) | (apply TC_region) | (apply TC_block) | (apply TC_skip) | (apply TC_cond_true; exact rfl) | (apply T_nil) | (apply En_then) | (apply T_bin; exact rfl; ((refine pw_lss rfl rfl (fun h => ?_) (fun h => ?_))) <;> (first | (exfalso; omega) | refine T_nv ?_)) | (refine T_pure rfl rfl ?_; ((first | refine pw_mv ?_ | refine pw_as ?_)); refine T_nv ?_))
  refine TC_draw mixed (by decide +kernel) (hQ_rec (by decide +kernel)) (List.Sublist.cons _ (List.Sublist.refl _)) ?_
  all_goals ((refine TA_ps 0 (List.Sublist.cons _ (List.Sublist.refl _)) ?_; ((refine pw_mv ?_)); refine TA_nv ?_))
  all_goals ((refine TA_ps 1 (List.Sublist.cons _ (List.Sublist.refl _)) ?_; ((refine pw_nilCheck rfl ?_)); refine TA_nv ?_))
  all_goals ((refine TA_ps 2 (List.Sublist.cons _ (List.Sublist.refl _)) ?_; ((refine pw_fieldAddr rfl ?_)); refine TA_nv ?_))
  all_goals ((refine TA_ps 4 (List.Sublist.cons _ (List.Sublist.refl _)) ?_; ((refine pw_mv ?_)); refine TA_nv ?_))
  all_goals ((refine TA_ps 5 (List.Sublist.cons _ (List.Sublist.refl _)) ?_; ((refine pw_index_str (c := 109) rfl rfl (by omega) rfl ?_)); refine TA_nv ?_))
  -- left: [3, 6]; ready: [3]: ['call']
  refine TA_o 3 ?_
  refine ow_callf arp ?_; refine next_bad b A c [109, 97, 2] 0 (by decide) (by decide) hm ?_
  refine ⟨.inl (fun w hs => hs.weaken (List.Sublist.cons _ (List.Sublist.refl _)) (fun _ h => h)), ?_⟩; refine TA_nv ?_
  all_goals ((refine TA_ps 6 (List.Sublist.cons _ (List.Sublist.refl _)) ?_; ((refine pw_neq rfl rfl (fun h => ?_) (fun h => ?_))) <;> (refine TA_nv ?_)))
  all_goals refine TA_d ?_
  · exact absurd rfl (by assumption)
  repeat' (first | (apply TC_region) | (apply TC_skip) | (apply TC_cond_false; exact rfl) | (apply T_nil) | (apply En_then) | (apply En_block) | (apply T_bin; exact rfl; ((refine pw_add64 rfl rfl (by omega) (by omega) ?_)); refine T_nv ?_) | (refine T_pure rfl rfl ?_; ((refine pw_mv ?_)); refine T_nv ?_))
  apply En_round
  apply TCr_succ
  repeat' (first | (apply TC_seq) | (apply TC_region) | (apply TC_block) | (apply TC_skip) | (apply TC_cond_true; exact rfl) | (apply T_nil) | (apply En_then) | (apply T_bin; exact rfl; ((refine pw_lss rfl rfl (fun h => ?_) (fun h => ?_))) <;> (first | (exfalso; omega) | refine T_nv ?_)) | (refine T_pure rfl rfl ?_; ((first | refine pw_mv ?_ | refine pw_as ?_)); refine T_nv ?_))
  refine TC_draw mixed (by decide +kernel) (hQ_rec (by decide +kernel)) (List.Sublist.cons _ (List.Sublist.refl _)) ?_
  all_goals ((refine TA_ps 0 (List.Sublist.cons _ (List.Sublist.refl _)) ?_; ((refine pw_mv ?_)); refine TA_nv ?_))
  all_goals ((refine TA_ps 1 (List.Sublist.cons _ (List.Sublist.refl _)) ?_; ((refine pw_nilCheck rfl ?_)); refine TA_nv ?_))
  all_goals ((refine TA_ps 2 (List.Sublist.cons _ (List.Sublist.refl _)) ?_; ((refine pw_fieldAddr rfl ?_)); refine TA_nv ?_))
  all_goals ((refine TA_ps 4 (List.Sublist.cons _ (List.Sublist.refl _)) ?_; ((refine pw_mv ?_)); refine TA_nv ?_))
  all_goals ((refine TA_ps 5 (List.Sublist.cons _ (List.Sublist.refl _)) ?_; ((refine pw_index_str (c := 97) rfl rfl (by omega) rfl ?_)); refine TA_nv ?_))
  -- left: [3, 6]; ready: [3]: ['call']
  refine TA_o 3 ?_
  refine ow_callf arp ?_; refine next_bad b A c [109, 97, 2] 1 (by decide) (by decide) hm ?_
  refine ⟨.inl (fun w hs => hs.weaken (List.Sublist.cons _ (List.Sublist.refl _)) (fun _ h => h)), ?_⟩; refine TA_nv ?_
  all_goals ((refine TA_ps 6 (List.Sublist.cons _ (List.Sublist.refl _)) ?_; ((refine pw_neq rfl rfl (fun h => ?_) (fun h => ?_))) <;> (refine TA_nv ?_)))
  all_goals refine TA_d ?_
  · exact absurd rfl (by assumption)
  repeat' (first | (apply TC_region) | (apply TC_skip) | (apply TC_cond_false; exact rfl) | (apply T_nil) | (apply En_then) | (apply En_block) | (apply T_bin; exact rfl; ((refine pw_add64 rfl rfl (by omega) (by omega) ?_)); refine T_nv ?_) | (refine T_pure rfl rfl ?_; ((refine pw_mv ?_)); refine T_nv ?_))
  apply En_round
  apply TCr_succ
  repeat' (first | (apply TC_seq) | (apply TC_region) | (apply TC_block) | (apply TC_skip) | (apply TC_cond_true; exact rfl) | (apply T_nil) | (apply En_then) | (apply T_bin; exact rfl; ((refine pw_lss rfl rfl (fun h => ?_) (fun h => ?_))) <;> (first | (exfalso; omega) | refine T_nv ?_)) | (refine T_pure rfl rfl ?_; ((first | refine pw_mv ?_ | refine pw_as ?_)); refine T_nv ?_))
  refine TC_draw mixed (by decide +kernel) (hQ_rec (by decide +kernel)) (List.Sublist.cons _ (List.Sublist.refl _)) ?_
  all_goals ((refine TA_ps 0 (List.Sublist.cons _ (List.Sublist.refl _)) ?_; ((refine pw_mv ?_)); refine TA_nv ?_))
  all_goals ((refine TA_ps 1 (List.Sublist.cons _ (List.Sublist.refl _)) ?_; ((refine pw_nilCheck rfl ?_)); refine TA_nv ?_))
  all_goals ((refine TA_ps 2 (List.Sublist.cons _ (List.Sublist.refl _)) ?_; ((refine pw_fieldAddr rfl ?_)); refine TA_nv ?_))
  all_goals ((refine TA_ps 4 (List.Sublist.cons _ (List.Sublist.refl _)) ?_; ((refine pw_mv ?_)); refine TA_nv ?_))
  all_goals ((refine TA_ps 5 (List.Sublist.cons _ (List.Sublist.refl _)) ?_; ((refine pw_index_str (c := 1) rfl rfl (by omega) rfl ?_)); refine TA_nv ?_))
  -- left: [3, 6]; ready: [3]: ['call']
  refine TA_o 3 ?_
  refine ow_callf arp ?_; refine next_bad b A c [109, 97, 2] 2 (by decide) (by decide) hm ?_
  refine ⟨.inl (fun w hs => hs.weaken (List.Sublist.cons _ (List.Sublist.refl _)) (fun _ h => h)), ?_⟩; refine TA_nv ?_
  all_goals ((refine TA_ps 6 (List.Sublist.cons _ (List.Sublist.refl _)) ?_; ((refine pw_neq rfl rfl (fun h => ?_) (fun h => ?_))) <;> (refine TA_nv ?_)))
  all_goals refine TA_d ?_
  rotate_left
  · rename_i h
    exact absurd h (by decide)
  repeat' (first | (apply TC_region) | (apply TC_cond_true; exact rfl) | (apply En_then) | (refine T_pure rfl rfl ?_; ((refine pw_mv ?_)); refine T_nv ?_))
  refine T_ow rfl ?_
  refine ow_callfP (KP := fun ch H' R' => ch = rf 2 ∧ H' = .blk b4 [.int .i64 0] 35 :: .blk b3 [.int .i64 0] 3 :: .blk b2 machZ 32 :: H ∧ R' = R) rfl (back_r b _ _ (by decide) (by decide) ⟨rfl, rfl, rfl⟩) ?_
  rintro ch H' R' ⟨rfl, rfl, rfl⟩
  repeat' (first | (apply En_then_panic) | (apply En_block_panic))
  refine En_leave_panic (LVm_rec Try.func38 rfl rfl Try.ntmps38 rfl (by simp only [setD, List.length_cons, List.length_nil, Nat.reduceAdd, Nat.reduceSub, List.replicate_succ, List.replicate_zero, List.cons_append, List.nil_append, List.set_cons_succ, List.set_cons_zero]; rfl) ?_)
  repeat' (first | (refine T_pure rfl rfl ?_; refine pw_eqnil_held rfl rfl ?_; refine T_nv ?_) | (refine T_pure rfl rfl ?_; refine pw_assert_yes rfl rfl ?_; refine T_nv ?_) | (apply TC_seq) | (apply TC_region) | (apply TC_block) | (apply TC_cond_true; exact rfl) | (apply TC_cond_false; exact rfl) | (apply T_nil) | (apply En_then) | (apply T_store; exact rfl; ((refine gw_store (i := 0) rfl clp rfl (by rfl) (by simp) (by simp [Value.oneCell']) ?_)); refine T_nv ?_; refine T_hq ?_) | (refine T_pure rfl rfl ?_; ((refine pw_extract rfl rfl ?_)); refine T_nv ?_) | (refine T_gen rfl rfl ?_; ((refine gw_alloc clp (fun b => ?_))); refine T_nv ?_))
  refine TC_draw mixed (by decide +kernel) (hQ_dpost (p := fun e => isDst _ e = true)) (List.Sublist.cons_cons _ (List.Sublist.cons _ (List.Sublist.cons _ (List.Sublist.cons _ (List.Sublist.refl _))))) ?_
  all_goals ((refine TA_ps 0 (List.Sublist.cons_cons _ (List.Sublist.cons _ (List.Sublist.cons _ (List.Sublist.cons _ (List.Sublist.refl _))))) ?_; ((refine pw_build bldp ?_)); refine TA_nv ?_))
  all_goals ((refine TA_ps 1 (List.Sublist.cons_cons _ (List.Sublist.cons _ (List.Sublist.cons _ (List.Sublist.cons _ (List.Sublist.refl _))))) ?_; ((refine pw_fieldAddr rfl ?_)); refine TA_nv ?_))
  all_goals ((refine TA_ps 2 (List.Sublist.cons_cons _ (List.Sublist.cons _ (List.Sublist.cons _ (List.Sublist.cons _ (List.Sublist.refl _))))) ?_; ((refine pw_load (i := 0) rfl rfl rfl ?_)); refine TA_nv ?_))
  -- left: [3, 4, 5]; ready: [3]: ['store']
  refine TA_g 3 ?_
  refine gw_store (i := 3) rfl clp rfl (by rfl) (by simp [machZ]) (by simp [Value.oneCell']) ?_
  refine ⟨.inl (fun w hs => hs.weaken (List.Sublist.cons_cons _ (List.Sublist.cons _ (List.Sublist.cons _ (List.Sublist.cons _ (List.Sublist.refl _))))) (fun _ h => h)), ?_⟩
  refine TA_nv ?_
  refine TA_hq ?_
  refine TA_g 4 ?_
  refine gw_store (i := 2) rfl clp rfl (by rfl) (by simp [machZ]) (by simp [Value.oneCell']) ?_
  refine ⟨.inl (fun w hs => hs.weaken (List.Sublist.cons_cons _ (List.Sublist.cons _ (List.Sublist.cons _ (List.Sublist.cons _ (List.Sublist.refl _))))) (fun _ h => h)), ?_⟩
  refine TA_nv ?_
  refine TA_hq ?_
  refine TA_g 5 ?_
  refine gw_store (i := 1) rfl clp rfl (by rfl) (by simp [machZ]) (by simp [Value.oneCell']) ?_
  refine ⟨.inl (fun w hs => hs.weaken (List.Sublist.cons_cons _ (List.Sublist.cons _ (List.Sublist.cons _ (List.Sublist.cons _ (List.Sublist.refl _))))) (fun _ h => h)), ?_⟩
  refine TA_nv ?_
  refine TA_hq ?_
  refine TA_done (by decide +kernel) ?_
  repeat' ((apply En_block))
  exact En_dpost (.inl rfl) (LVm_nil (res3 rfl (rv_cell (i := 3) rfl rfl rfl) (rv_cell (i := 2) rfl rfl rfl) (rv_cell (i := 1) rfl rfl rfl)) H R' (fun w hs => hs.weaken sbp (fun _ h => h)) k)
end Go.Proofs.Ytggdljhmbckpmaa
namespace Go.Proofs.Ytggdljhmbckpmaa
open Go Go.RowKit
attribute [local semireducible] T TC En PW GW OW CallsK CallsP Sl Rd Ls At S TA
section
variable {F : Fence} {n : Nat} {P : Program} {w0 : World} {D : List Deferred} {ops : Array Oper} {Q : Exit → Act → World → Prop} {rest : List Oper} {E : List Value} {H : List Hp} {R : List MP}
def MidP (Q : Exit → Act → World → Prop) (w0 : World) (D : List Deferred) (E0 : List Value) (js : List Nat) (M : (Nat → Value) → List Hp → List MP → Prop) : Exit → Act → World → Prop :=
  fun e a w => match e with
  | .normal => ∃ j H R, a = act (setJ E0 js j) D ∧ S w0 w H R ∧ M j H R
  | e => Q e a w
theorem TC_cutP {x y : Code} (js : List Nat) (M : (Nat → Value) → List Hp → List MP → Prop) (h1 : TC F n P w0 D x (MidP Q w0 D E js M) E H R) (h2 : ∀ j H R, M j H R → TC F n P w0 D y Q (setJ E js j) H R) : TC F n P w0 D (.seq x y) Q E H R := fun w hs =>
  wpIn_seq (wpIn_mono (h1 w hs) (fun e a w' he => by
    cases e with
    | normal =>
      obtain ⟨j, H', R', e1, e2, e3⟩ := he
      subst e1
      exact h2 j H' R' e3 w' e2
    | _ => exact he))
theorem En_midP {E0 : List Value} {js : List Nat} {M : (Nat → Value) → List Hp → List MP → Prop} (H' : List Hp) (R' : List MP) (hE : setJ E0 js (fun i => E.getD i undef) = E) (hM : M (fun i => E.getD i undef) H' R') (hw : ∀ w, S w0 w H R → S w0 w H' R') : En w0 D (MidP Q w0 D E0 js M) .normal E H R := fun w hs =>
  ⟨_, H', R', by rw [hE], hw w hs, hM⟩
theorem En_midP_panic {E0 : List Value} {js : List Nat} {M : (Nat → Value) → List Hp → List MP → Prop} {ch : List PanicEntry} (h : En w0 D Q (.panic ch) E H R) : En w0 D (MidP Q w0 D E0 js M) (.panic ch) E H R := h
theorem En_midP_ret {E0 : List Value} {js : List Nat} {M : (Nat → Value) → List Hp → List MP → Prop} (h : En w0 D Q .ret E H R) : En w0 D (MidP Q w0 D E0 js M) .ret E H R := h
theorem En_midP_exit {E0 : List Value} {js : List Nat} {M : (Nat → Value) → List Hp → List MP → Prop} {id : Nat} (h : En w0 D Q (.exit id) E H R) : En w0 D (MidP Q w0 D E0 js M) (.exit id) E H R := h
theorem En_fact {e : Exit} {p : Prop} (h : ∀ w, S w0 w H R → p) (k : p → En w0 D Q e E H R) : En w0 D Q e E H R := fun w hs => k (h w hs) w hs
end
section
variable {P : Program} {w0 : World} {E : List Value} {H : List Hp} {R : List MP} {ty : TypeId} {K : Value → List Hp → List MP → Prop}
theorem gw_build1 {t e : TypeId} {x : Operand} {sz by_ : Nat} {zs cs : List Value} [h : TyL P t e sz by_ zs] (hsz : sz ≤ 1000) (hx : (ev E x).cells = cs.toArray) (hl : cs.length = sz) (kk : ∀ b, K (.slice (some ⟨b, 0, none⟩) 1 1) (.blk b cs e :: H) R) : GW P w0 E (.buildSlice t 1 #[(0, x)]) ty H R K :=
  gw_buildSlice (by omega) (by simp [partsL, hx, hl]) rfl kk
end
end Go.Proofs.Ytggdljhmbckpmaa
