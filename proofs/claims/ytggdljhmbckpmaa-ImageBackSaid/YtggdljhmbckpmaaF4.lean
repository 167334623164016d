/- What a drive has: walks. -/
import Derived.Test.YtggdljhmbckpmaaF3
set_option linter.unusedVariables false
set_option linter.unusedSimpArgs false
namespace Go.Proofs.Ytggdljhmbckpmaa
open Go Go.RowKit
set_option maxRecDepth 100000
set_option maxHeartbeats 800000

def spl (xs : List UInt8) (a : Nat) (ys : List UInt8) : List UInt8 := xs.take a ++ ys ++ xs.drop (a + ys.length)
def hasB (d : Drive) : List UInt8 := d.pending.foldl (fun xs w => spl xs w.at_.toNat w.data) d.bytes
theorem spl_length (xs : List UInt8) (a : Nat) (ys : List UInt8) (h : a + ys.length ≤ xs.length) : (spl xs a ys).length = xs.length := by
  simp [spl]; omega
theorem overlay_bytes (xs : List UInt8) (a : Nat) (ys : List UInt8) (sp : List Value) (h : a + ys.length ≤ xs.length) : overlay (bytesV xs ++ sp) a (bytesV ys) = bytesV (spl xs a ys) ++ sp := by
  simp only [overlay, spl, bytesV_append]
  have h1 : (bytesV xs ++ sp).take a = bytesV (xs.take a) := by
    rw [List.take_append_of_le_length (by simp; omega)]; simp [bytesV, List.map_take]
  have h2 : (bytesV xs ++ sp).drop (a + (bytesV ys).length) = bytesV (xs.drop (a + ys.length)) ++ sp := by
    rw [List.drop_append_of_le_length (by simp; omega)]; simp [bytesV, List.map_drop]
  rw [h1, h2]; simp
theorem copy_done (xs ys : List UInt8) (sp : List Value) (a dn o' : Nat) (hdn : dn = xs.length - a) (ho : dn = 0 ∨ o' = 0 + a * 1) (h : a + ys.length ≤ xs.length) : overlay (bytesV xs ++ sp) o' (bytesV (ys.take dn)) = bytesV (spl xs a ys) ++ sp := by
  rw [List.take_of_length_le (show ys.length ≤ dn by omega)]
  rcases ho with ho | ho
  · have hy : ys = [] := List.eq_nil_of_length_eq_zero (by omega)
    subst hy
    have e : overlay (bytesV xs ++ sp) o' (bytesV []) = bytesV xs ++ sp := by simp [overlay, bytesV]
    rw [e]
    simp [spl]
  · have : o' = a := by omega
    subst this
    exact overlay_bytes xs o' ys sp h
theorem withinB_spec {a : Int} {n s : Nat} (h : withinB a (n : Int) (s : Int) = true) : 0 ≤ a ∧ a.toNat + n ≤ s := by
  unfold withinB at h
  have := of_decide_eq_true h
  omega
theorem checkD_spec {d : Drive} (h : checkD d = true) : 64 ≤ d.bytes.length ∧ d.bytes.length ≤ 600000 ∧ d.bytes.length % 2 = 0 ∧ d.pending.length ≤ 100 ∧ ∀ i (hi : i < d.pending.length), 0 ≤ d.pending[i].at_ ∧ d.pending[i].at_.toNat + d.pending[i].data.length ≤ d.bytes.length := by
  unfold checkD at h
  simp only [Bool.and_eq_true, decide_eq_true_eq] at h
  obtain ⟨⟨⟨⟨h1, h2⟩, h3⟩, h4⟩, h5⟩ := h
  refine ⟨h1, h2, h3, h4, fun i hi => ?_⟩
  have := List.all_eq_true.1 h5 _ (List.getElem_mem hi)
  exact withinB_spec this
theorem has_fold_length (n : Nat) : ∀ (ws : List DW) (xs : List UInt8), xs.length = n → (∀ w ∈ ws, w.at_.toNat + w.data.length ≤ n) → (ws.foldl (fun xs w => spl xs w.at_.toNat w.data) xs).length = n
  | [], xs, h, _ => h
  | w :: ws, xs, h, hw => has_fold_length n ws _ (by rw [spl_length _ _ _ (by rw [h]; exact hw w (by simp))]; exact h) (fun w' hw' => hw w' (by simp [hw']))
theorem hasB_length {d : Drive} (h : checkD d = true) : (hasB d).length = d.bytes.length := by
  obtain ⟨_, _, _, _, hw⟩ := checkD_spec h
  refine has_fold_length _ _ _ rfl fun w hw' => ?_
  obtain ⟨i, hi, rfl⟩ := List.mem_iff_getElem.1 hw'
  exact (hw i hi).2

theorem has_k {w0 : World} {H : List Hp} {R : List MP} {K : Value → List Hp → List MP → Prop} (A : Option Addr) (c : Nat) (A2 : Option Addr) (c2 : Nat) (d : Drive) (hd : checkD d = true)
    (hm : Sl (.slice A d.bytes.length c) d.bytes ∈ R) (hm2 : Sl (.slice A2 d.pending.length c2) d.pending ∈ R)
    (k : ∀ v, K v (.row v 5 1 (hasB d).length (bytesV (hasB d)) :: H) R) : CallsK Try.prog w0 50 #[dv A c A2 c2 d] H R K := by
  obtain ⟨h64, hmax, hmod, h100, hw⟩ := checkD_spec hd
  rw [hasB_length hd] at k
  have HW := Go.Lib.hid hw
  clear hw
  refine calls_of Try.func50 rfl Try.ntmps50 nep ?_
  repeat' (first | (refine T_ow rfl ?_; refine ow_callf arp ?_; refine clone_k _ _ _ (by omega) memt (fun v => ?_); refine T_nv ?_) | (apply TC_seq) | (apply TC_region) | (apply TC_block) | (apply T_nil) | (apply En_then) | (apply T_load; exact rfl; ((first | refine pw_load (i := 0) rfl rfl rfl ?_ | refine pw_load (i := 1) rfl rfl rfl ?_)); refine T_nv ?_) | (refine T_pure rfl rfl ?_; ((first | refine pw_mv ?_ | refine pw_as ?_ | refine pw_fieldAddr rfl ?_ | refine pw_len rfl ?_)); refine T_nv ?_) | (refine T_gen rfl rfl ?_; ((refine gw_box clp (fun b => ?_))); refine T_nv ?_))
  refine TC_unrow 0 rfl (by omega) (fun b' cap sp hv hl1 hl2 hcap hcapm => ?_)
  subst hv
  refine TC_hp hpp ?_
  refine TC_loopS [5, 12, 13, 14, 15, 16, 17, 18, 19, 20, 21, 22, 23] (fun m j H' R' => R = R' ∧ ∃ i : Nat, i + m = d.pending.length ∧ j 12 = .int .i64 i ∧ ∃ cur : List UInt8, cur.length = d.bytes.length ∧ cur = (d.pending.take i).foldl (fun xs w => spl xs w.at_.toNat w.data) d.bytes ∧
    (.blk b' (bytesV cur ++ sp) 5 :: .blk b [.slice A d.bytes.length c, .slice A2 d.pending.length c2] 45 :: H) = H') d.pending.length sjp ⟨rfl, 0, by omega, rfl, d.bytes, rfl, rfl, rfl⟩ ?_
  rintro m j H' R' ⟨hR, i, hi, h12, cur, hcl, hcur, hH⟩
  subst hH; subst hR
  have HC := Go.Lib.hid hcur
  clear hcur
  refine TC_env (by simp only [setJ, List.foldl_cons, List.foldl_nil, List.set_cons_succ, List.set_cons_zero, h12]; rfl) ?_
  repeat' (first | (apply TC_seq) | (apply TC_region) | (apply TC_block) | (apply TC_ret) | (apply TC_skip) | (apply TC_exit) | (apply TC_cond_true; exact rfl) | (apply TC_cond_false; exact rfl) | (apply T_nil) | (apply En_then) | (apply En_then_exit) | (apply En_block_exit) | (apply T_load; exact rfl; ((refine pw_load_at0 rfl memr rfl ?_)); refine T_nv ?_) | (apply T_bin; exact rfl; ((refine pw_lss rfl rfl (fun h => ?_) (fun h => ?_))) <;> (refine T_nv ?_)) | (apply T_idx; exact rfl; ((refine pw_index_wN evp rfl memt (List.getElem?_eq_getElem (by omega)) (fun b o A c hI hL => ?_))); refine T_nv ?_) | (apply T_store; exact rfl; ((refine gw_store (i := 0) rfl clp rfl (by rfl) (by simp) (by simp [Value.oneCell']) ?_)); refine T_nv ?_; refine T_hq ?_) | (refine T_pure rfl rfl ?_; ((first | refine pw_mv ?_ | refine pw_as ?_)); refine T_nv ?_) | (refine T_gen rfl rfl ?_; ((refine gw_alloc clp (fun b => ?_))); refine T_nv ?_))
  · have hwi : 0 ≤ d.pending[i].at_ ∧ d.pending[i].at_.toNat + d.pending[i].data.length ≤ d.bytes.length := HW.out i (by omega)
    refine TC_draw mixed (by decide +kernel) (fun _ _ _ _ _ _ h => h) (List.Sublist.cons_cons _ (List.Sublist.cons _ (List.Sublist.refl _))) ?_
    all_goals ((refine TA_ps 0 (List.Sublist.cons_cons _ (List.Sublist.cons _ (List.Sublist.refl _))) ?_; ((refine pw_mv ?_)); refine TA_nv ?_))
    all_goals ((refine TA_ps 1 (List.Sublist.cons_cons _ (List.Sublist.cons _ (List.Sublist.refl _))) ?_; ((refine pw_fieldAddr rfl ?_)); refine TA_nv ?_))
    all_goals ((refine TA_ps 2 (List.Sublist.cons_cons _ (List.Sublist.cons _ (List.Sublist.refl _))) ?_; ((refine pw_load (i := 0) rfl rfl rfl ?_)); refine TA_nv ?_))
    all_goals ((refine TA_ps 3 (List.Sublist.cons_cons _ (List.Sublist.cons _ (List.Sublist.refl _))) ?_; ((refine pw_slice_o rfl rfl rfl (by omega) (by omega) (by omega) (fun o' ho' => ?_))); refine TA_nv ?_))
    all_goals ((refine TA_ps 4 (List.Sublist.cons_cons _ (List.Sublist.cons _ (List.Sublist.refl _))) ?_; ((refine pw_fieldAddr rfl ?_)); refine TA_nv ?_))
    all_goals ((refine TA_ps 5 (List.Sublist.cons_cons _ (List.Sublist.cons _ (List.Sublist.refl _))) ?_; ((refine pw_load (i := 0) rfl rfl rfl ?_)); refine TA_nv ?_))
    -- left: [6]; ready: [6]: ['call copy']
    refine TA_g 6 ?_
    refine gw_copy (i := 1) rfl rfl memt rfl (fun h => by simp; omega) ?_
    refine ⟨.inl (fun w hs => hs.weaken (by simp) (fun p hp => hp)), ?_⟩
    refine TA_done (by decide +kernel) ?_
    repeat' (first | (apply TC_region) | (apply T_nil) | (apply En_then) | (apply En_block) | (apply T_bin; exact rfl; ((refine pw_add64 rfl rfl (by omega) (by omega) ?_)); refine T_nv ?_) | (refine T_pure rfl rfl ?_; ((refine pw_mv ?_)); refine T_nv ?_))
    refine En_backS (m - 1) (.blk b' (bytesV (spl cur d.pending[i].at_.toNat d.pending[i].data) ++ sp) 5 :: _) R (by omega) sjp ⟨rfl, i + 1, by omega, rfl, spl cur d.pending[i].at_.toNat d.pending[i].data, by rw [spl_length _ _ _ (by omega)]; exact hcl, ?_, rfl⟩ (fun w hs => ?_)
    · rw [HC.out, List.take_succ_eq_append_getElem (by omega), List.foldl_append, List.foldl_cons, List.foldl_nil]
    · have e := copy_done cur d.pending[i].data sp d.pending[i].at_.toNat ((d.bytes.length : Int).toNat - d.pending[i].at_.toNat) o' (by simp [hcl]) ho' (by omega)
      rw [e] at hs
      exact hs.weaken (by simp) (fun p hp => by simp [hp])
  · refine En_fin (.inl rfl) (res1 rfl (rv_tmp rfl)) (fin_K (.row (.slice (some ⟨b', 0, none⟩) d.bytes.length cap) 5 1 d.bytes.length (bytesV (hasB d)) :: H) R (fun w hs => ?_) (k _))
    have hc2 : cur = hasB d := by
      rw [HC.out, List.take_of_length_le (by omega)]; rfl
    rw [hc2] at hs
    have h1 := hs.torow (i := 0) (n := d.bytes.length) (cap := cap) (size := 1) rfl (by rw [← hl1]; simp [hasB_length hd]) (by simp [hasB_length hd]) hcap hcapm
    exact h1.weaken (by simp) (fun p hp => hp)
end Go.Proofs.Ytggdljhmbckpmaa
