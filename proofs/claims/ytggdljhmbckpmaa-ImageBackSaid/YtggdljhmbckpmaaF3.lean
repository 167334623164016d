/- The functions of package image on drives: walks. -/
import Derived.Test.YtggdljhmbckpmaaF2
set_option linter.unusedVariables false
set_option linter.unusedSimpArgs false
namespace Go.Proofs.Ytggdljhmbckpmaa
open Go Go.RowKit
set_option maxRecDepth 100000
set_option maxHeartbeats 800000

def withinB (at_ n size : Int) : Bool := decide (0 ≤ at_ ∧ at_ ≤ size ∧ n ≤ size - at_)
theorem within_k {w0 : World} {H : List Hp} {R : List MP} {K : Value → List Hp → List MP → Prop} (a n s : Int) (ha : InI a) (hn : 0 ≤ n ∧ n ≤ 9223372036854775807) (hs : 0 ≤ s ∧ s ≤ 9223372036854775807)
    (k : K (.bool (withinB a n s)) H R) : CallsK Try.prog w0 62 #[.int .i64 a, .int .i64 n, .int .i64 s] H R K := by
  unfold withinB at k
  unfold InI at ha
  refine calls_of Try.func62 rfl Try.ntmps62 nep ?_
  repeat' (first | (apply TC_seq) | (apply TC_region) | (apply TC_ret) | (apply T_nil) | (apply En_then) | (apply T_bin; exact rfl; ((refine pw_sub64 rfl rfl (by omega) (by omega) ?_)); refine T_nv ?_) | (apply T_bin; exact rfl; ((first | refine pw_leq rfl rfl (fun h => ?_) (fun h => ?_) | refine pw_geq rfl rfl (fun h => ?_) (fun h => ?_))) <;> (refine T_nv ?_)) | (refine T_pure rfl rfl ?_; ((first | refine pw_mv ?_ | refine pw_as ?_ | refine pw_pick_t rfl evp ?_ | refine pw_pick_f rfl evp ?_)); refine T_nv ?_) | (refine T_skipped rfl ?_; refine T_nv ?_))
  all_goals
    refine En_fin (.inl rfl) (res1 rfl (rv_tmp rfl)) (fin_K H R (fun _ h => h) ?_)
    (first | (rw [decide_eq_false (by omega)] at k; exact k) | (rw [decide_eq_true (by omega)] at k; exact k))

theorem within_k2 {w0 : World} {H : List Hp} {R : List MP} {K : Value → List Hp → List MP → Prop} (a n s : Int) (ha : InI a) (hn : 0 ≤ n ∧ n ≤ 9223372036854775807) (hs : 0 ≤ s ∧ s ≤ 9223372036854775807)
    (kt : withinB a n s = true → K (.bool true) H R) (kf : withinB a n s = false → K (.bool false) H R) : CallsK Try.prog w0 62 #[.int .i64 a, .int .i64 n, .int .i64 s] H R K := by
  refine within_k a n s ha hn hs ?_
  cases h : withinB a n s
  · exact kf h
  · exact kt h

abbrev dv (A : Option Addr) (c : Nat) (A2 : Option Addr) (c2 : Nat) (d : Drive) : Value := .agg #[.slice A d.bytes.length c, .slice A2 d.pending.length c2]
def wOk (n : Nat) (w : DW) : Bool := withinB w.at_ (w.data.length : Int) (n : Int)
def checkD (d : Drive) : Bool := decide (64 ≤ d.bytes.length) && decide (d.bytes.length ≤ 600000) && decide (d.bytes.length % 2 = 0) && decide (d.pending.length ≤ 100) && d.pending.all (wOk d.bytes.length)
def errD (d : Drive) : Int := if checkD d then 0 else 301
theorem errD_no {d : Drive} (h : ¬ (64 ≤ d.bytes.length ∧ d.bytes.length ≤ 600000 ∧ d.bytes.length % 2 = 0 ∧ d.pending.length ≤ 100)) : errD d = 301 := by
  unfold errD checkD
  rw [if_neg]
  simp only [Bool.and_eq_true, decide_eq_true_eq]
  intro hh
  exact h ⟨hh.1.1.1.1, hh.1.1.1.2, hh.1.1.2, hh.1.2⟩
theorem errD_w {d : Drive} {i : Nat} (hi : i < d.pending.length) (h : wOk d.bytes.length d.pending[i] = false) : errD d = 301 := by
  unfold errD checkD
  rw [if_neg]
  simp only [Bool.and_eq_true]
  intro hh
  have := List.all_eq_true.1 hh.2 _ (List.getElem_mem hi)
  rw [h] at this; cases this
theorem errD_yes {d : Drive} (h : 64 ≤ d.bytes.length ∧ d.bytes.length ≤ 600000 ∧ d.bytes.length % 2 = 0 ∧ d.pending.length ≤ 100) (hw : ∀ i (hi : i < d.pending.length), wOk d.bytes.length d.pending[i] = true) : errD d = 0 := by
  unfold errD checkD
  rw [if_pos]
  simp only [Bool.and_eq_true, decide_eq_true_eq]
  refine ⟨⟨⟨⟨h.1, h.2.1⟩, h.2.2.1⟩, h.2.2.2⟩, List.all_eq_true.2 fun w hw' => ?_⟩
  obtain ⟨i, hi, rfl⟩ := List.mem_iff_getElem.1 hw'
  exact hw i hi
theorem K_int {K : Value → List Hp → List MP → Prop} {k : IntKind} {H : List Hp} {R : List MP} {a b : Int} (h : a = b) (hk : K (.int k b) H R) : K (.int k a) H R := h ▸ hk



theorem check_k {w0 : World} {H : List Hp} {R : List MP} {K : Value → List Hp → List MP → Prop} (A : Option Addr) (c : Nat) (A2 : Option Addr) (c2 : Nat) (d : Drive) (hb : d.bytes.length ≤ 9223372036854775807) (hp : d.pending.length ≤ 9223372036854775807)
    (hm : Sl (.slice A d.bytes.length c) d.bytes ∈ R) (hm2 : Sl (.slice A2 d.pending.length c2) d.pending ∈ R)
    (k : K (.int .i64 (errD d)) H R) : CallsK Try.prog w0 27 #[dv A c A2 c2 d] H R K := by
  refine calls_of Try.func27 rfl Try.ntmps27 nep ?_
  repeat' (first | (apply TC_seq) | (apply TC_region) | (apply TC_block) | (apply TC_ret) | (apply TC_skip) | (apply TC_cond_true; exact rfl) | (apply TC_cond_false; exact rfl) | (apply T_nil) | (apply En_then) | (apply En_then_ret) | (apply T_load; exact rfl; ((refine pw_load (i := 0) rfl rfl rfl ?_)); refine T_nv ?_) | (apply T_bin; exact rfl; ((refine pw_rem rfl rfl (by omega) (by omega) ?_)); refine T_nv ?_) | (apply T_bin; exact rfl; ((first | refine pw_lss rfl rfl (fun h => ?_) (fun h => ?_) | refine pw_gtr rfl rfl (fun h => ?_) (fun h => ?_) | refine pw_eql rfl rfl (fun h => ?_) (fun h => ?_))) <;> (refine T_nv ?_)) | (refine T_pure rfl rfl ?_; ((first | refine pw_mv ?_ | refine pw_as ?_ | refine pw_pick_t rfl evp ?_ | refine pw_pick_f rfl evp ?_ | refine pw_fieldAddr rfl ?_ | refine pw_len rfl ?_)); refine T_nv ?_) | (refine T_skipped rfl ?_; refine T_nv ?_) | (refine T_gen rfl rfl ?_; ((refine gw_box clp (fun b => ?_))); refine T_nv ?_))
  iterate 4
    · refine En_fin (.inl rfl) (res1 rfl (rv_tmp rfl)) (fin_K H R (fun w hs => hs.weaken (List.sublist_cons_self _ _) (fun p hp => hp)) ?_)
      exact K_int (errD_no (by omega)).symm k
  have hlen : 64 ≤ d.bytes.length ∧ d.bytes.length ≤ 600000 ∧ d.bytes.length % 2 = 0 ∧ d.pending.length ≤ 100 := by omega
  refine TC_loopS [2, 5, 29, 30, 31, 32, 33, 34, 35, 36, 37, 38, 39, 40, 41] (fun m j H' R' => .blk b [.slice A d.bytes.length c, .slice A2 d.pending.length c2] 45 :: H = H' ∧ R = R' ∧ ∃ i : Nat, i + m = d.pending.length ∧ j 29 = .int .i64 i ∧ ∀ l (hl : l < d.pending.length), l < i → wOk d.bytes.length d.pending[l] = true) d.pending.length sjp ⟨rfl, rfl, 0, by omega, rfl, fun l hl h => by omega⟩ ?_
  rintro m j H' R' ⟨hH, hR, i, hi, h29, hall⟩
  subst hH; subst hR
  refine TC_env (by simp only [setJ, List.foldl_cons, List.foldl_nil, List.set_cons_succ, List.set_cons_zero, *]; rfl) ?_
  have HA := Go.Lib.hid hall
  clear hall
  repeat' (first | (refine T_ow rfl ?_; refine ow_callf arp ?_; refine within_k2 _ _ _ hI ⟨by omega, by omega⟩ ⟨by omega, by omega⟩ (fun hB => ?_) (fun hB => ?_) <;> refine T_nv ?_) | (apply TC_seq) | (apply TC_region) | (apply TC_block) | (apply TC_ret) | (apply TC_skip) | (apply TC_exit) | (apply TC_cond_true; exact rfl) | (apply TC_cond_false; exact rfl) | (apply T_nil) | (apply En_then) | (apply En_then_ret) | (apply En_then_exit) | (apply En_block) | (apply En_block_ret) | (apply En_block_exit) | (apply T_load; exact rfl; ((first | refine pw_load (i := 0) rfl rfl rfl ?_ | refine pw_load_at0 rfl memr rfl ?_)); refine T_nv ?_) | (apply T_bin; exact rfl; ((refine pw_add64 rfl rfl (by omega) (by omega) ?_)); refine T_nv ?_) | (apply T_bin; exact rfl; ((refine pw_lss rfl rfl (fun h => ?_) (fun h => ?_))) <;> (refine T_nv ?_)) | (apply T_idx; exact rfl; ((refine pw_index_wN evp rfl memt (List.getElem?_eq_getElem (by omega)) (fun b o A c hI hL => ?_))); refine T_nv ?_) | (apply T_store; exact rfl; ((refine gw_store (i := 0) rfl clp rfl (by rfl) (by simp) (by simp [Value.oneCell']) ?_)); refine T_nv ?_; refine T_hq ?_) | (refine T_pure rfl rfl ?_; ((first | refine pw_mv ?_ | refine pw_as ?_ | refine pw_fieldAddr rfl ?_ | refine pw_len rfl ?_ | refine pw_not rfl ?_)); refine T_nv ?_) | (refine T_gen rfl rfl ?_; ((refine gw_alloc clp (fun b => ?_))); refine T_nv ?_))
  · refine En_backS (m - 1) _ R (by omega) sjp ⟨rfl, rfl, i + 1, by omega, rfl, fun l hl h => ?_⟩ (fun w hs => hs.weaken (by simp) (fun p hp => by simp [hp]))
    by_cases e : l = i
    · subst e; exact hB
    · exact HA.out l hl (by omega)
  · refine En_fin (.inl rfl) (res1 rfl (rv_tmp rfl)) (fin_K H R (fun w hs => hs.weaken (by simp) (fun p hp => by simp [hp])) ?_)
    exact K_int (errD_w (by omega) hB).symm k
  · refine En_fin (.inl rfl) (res1 rfl (rv_tmp rfl)) (fin_K H R (fun w hs => hs.weaken (by simp) (fun p hp => hp)) ?_)
    exact K_int (errD_yes hlen (fun l hl => HA.out l hl (by omega))).symm k
end Go.Proofs.Ytggdljhmbckpmaa
