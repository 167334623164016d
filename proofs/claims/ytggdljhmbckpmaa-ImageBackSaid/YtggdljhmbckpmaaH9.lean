/- ImageBack: walk. -/
import Derived.Test.YtggdljhmbckpmaaG2
import Derived.Test.YtggdljhmbckpmaaH1
import Derived.Test.YtggdljhmbckpmaaMB
import Derived.Test.YtggdljhmbckpmaaNC
import Derived.Test.YtggdljhmbckpmaaWC
set_option linter.unusedVariables false
set_option linter.unusedSimpArgs false
namespace Go.Proofs.Ytggdljhmbckpmaa
open Go Go.RowKit
set_option maxRecDepth 100000
set_option maxHeartbeats 4000000

theorem decR_of {xs : List UInt8} {m : MaD} {a f : Int} (h : decR xs = (m, a, f)) (hf : f = 0) : xs = stB m ∧ xs.length ≤ 250000 := by
  subst hf
  unfold decR at h
  split at h
  · injection h with _ h
    injection h with _ h
    cases h
  · split at h
    · injection h with _ h
      injection h with _ h
      cases h
    · rename_i m' hm
      injection h with h _
      subst h
      exact ⟨stD_can hm, by omega⟩
theorem decR_st {m : MaD} (hv : Cod.Vd (α := MaD) m) (hl : (stB m).length ≤ 250000) : decR (stB m) = (m, 0, 0) := by
  unfold decR
  rw [if_neg (by omega), stD_rt hv]
theorem encM_of {m : MaD} {bs : List UInt8} {e : Int} (h : encM m = (bs, e)) (he : e = 0) : bs = stB m ∧ (stB m).length ≤ 250000 := by
  subst he
  rw [encM_eq] at h
  split at h
  · injection h with h _
    exact ⟨h.symm, by assumption⟩
  · injection h with _ h
    cases h
theorem encM_st {m : MaD} (hl : (stB m).length ≤ 250000) : encM m = (stB m, 0) := by
  rw [encM_eq, if_pos hl]
theorem back_law_k {w0 : World} {H : List Hp} {R : List MP} {K : Value → List Hp → List MP → Prop} (x : MaD) (u : Unp.Y MaD) (hok : Unp.ok x u) (hv : Cod.Vd (α := MaD) x) (A1 : Option Addr) (c1 : Nat) (bb : List UInt8) (hb : bb.length ≤ 140737488355328)
    (hfs : ∀ p ∈ Unp.fs x u, p ∈ R) (hm : Sl (.slice A1 bb.length c1) bb ∈ R) (k : K (.bool true) H R) : CallsK Try.prog w0 3 #[.agg (Unp.cs x u).toArray, .slice A1 bb.length c1] H R K := by
  have hlen : (Unp.cs x u).length = 16 := UnpL.len x u
  obtain ⟨⟨bs, e⟩, he⟩ : ∃ r, encM x = r := ⟨_, rfl⟩
  obtain ⟨⟨m, at_, f⟩, hd⟩ : ∃ r, decR bb = r := ⟨_, rfl⟩
  refine calls_of Try.func3 rfl Try.ntmps3 nep ?_
  apply TC_seq; apply TC_region
  repeat' (first | (refine T_gen rfl rfl ?_; refine gw_box clp (fun b2 => ?_); refine T_nv ?_) | (refine T_pure rfl rfl ?_; ((refine pw_as ?_)); refine T_nv ?_))
  revert b2
  intro b2
  apply T_nil; apply En_then
  apply TC_seq; apply TC_region
  repeat' (first | (refine T_ow rfl ?_; refine ow_callf arp ?_; refine sane_k ?_; refine T_nv ?_) | (refine T_pure rfl rfl ?_; ((refine pw_as ?_)); refine T_nv ?_))
  apply T_nil; apply En_then
  apply TC_seq; apply TC_region
  repeat' (first | (refine T_load rfl ?_; refine pw_load (i := 0) rfl rfl (cellsVal_all hlen) ?_; refine T_nv ?_) | (refine T_ow rfl ?_; refine ow_callf arp ?_; refine encodeM_k x u hok hfs (KB_eq (r := (bs, e)) he.symm (fun A3 c3 => ?_)); refine T_nv ?_) | (refine T_pure rfl rfl ?_; ((first | refine pw_mv ?_ | refine pw_as ?_ | refine pw_extract rfl rfl ?_)); refine T_nv ?_))
  apply T_nil; apply En_then
  refine TC_cutS [24, 25, 26, 27, 28, 29, 30, 31, 32, 33, 34, 35, 36, 37, 8, 9, 10, 22, 23] (fun j H' R' => H' = .blk b2 (Unp.cs x u) 32 :: H ∧ R' = R) ?_ ?_
  · skip
    repeat' (first | (apply TC_seq) | (apply TC_region) | (apply TC_skip) | (apply TC_cond_true; exact rfl) | (apply TC_cond_false; exact rfl) | (apply T_nil) | (apply En_then) | (apply T_bin; exact rfl; ((refine pw_eql rfl rfl (fun h => ?_) (fun h => ?_))) <;> (refine T_nv ?_)) | (refine T_pure rfl rfl ?_; ((refine pw_mv ?_)); refine T_nv ?_))
    · have h0 := h
      obtain ⟨hbs, hbl⟩ := encM_of he h0
      subst h0
      subst hbs
      repeat' (first | (refine T_ow rfl ?_; refine ow_callf arp ?_; refine decode_k A3 c3 (stB x) (by omega) List.mem_cons_self (KDm_eq (r := (x, 0, 0)) (decR_st hv hbl).symm (fun y hy => ?_)); refine T_nv ?_) | (refine T_pure rfl rfl ?_; ((first | refine pw_mv ?_ | refine pw_extract rfl rfl ?_)); refine T_nv ?_) | (refine T_gen rfl rfl ?_; ((refine gw_alloc clp (fun b => ?_))); refine T_nv ?_))
      have hly : (Unp.cs x y).length = 16 := UnpL.len x y
      repeat' (first | (refine T_gen rfl rfl ?_; refine gw_store (i := 0) (vs := Unp.cs x y) rfl rfl rfl hly (by simp) (UnpL.one _ _) ?_; rw [overlay_all (by rw [hly]; rfl)]; refine T_nv ?_; refine T_hq ?_) | (refine T_load rfl ?_; refine pw_load (i := 0) rfl rfl (cellsVal_all hly) ?_; refine T_nv ?_) | (refine T_load rfl ?_; refine pw_load (i := 1) rfl rfl (cellsVal_all hlen) ?_; refine T_nv ?_) | (refine T_ow rfl ?_; refine ow_callf arp ?_; refine same26_k x x u y (fun p hp => List.mem_append_right _ (List.mem_cons_of_mem _ (hfs p hp))) (fun p hp => List.mem_append_left _ hp) (fun r hr => ?_); (obtain rfl : r = true := hr rfl); refine T_nv ?_) | (apply TC_seq) | (apply TC_region) | (apply TC_skip) | (apply TC_cond_false; exact rfl) | (apply T_nil) | (apply En_then) | (apply T_bin; exact rfl; ((refine pw_neq rfl rfl (fun h => ?_) (fun h => ?_))) <;> (first | (exfalso; omega) | refine T_nv ?_)) | (refine T_pure rfl rfl ?_; ((first | refine pw_mv ?_ | refine pw_as ?_ | refine pw_pick_f rfl evp ?_ | refine pw_not rfl ?_)); refine T_nv ?_))
      exact En_midS (.blk b2 (Unp.cs x u) 32 :: H) R sjp ⟨rfl, rfl⟩ (fun w hs => hs.weaken sbp (fun p hp => List.mem_append_right _ (List.mem_cons_of_mem _ hp)))
    · exact En_midS (.blk b2 (Unp.cs x u) 32 :: H) R sjp ⟨rfl, rfl⟩ (fun w hs => hs.weaken sbp (fun p hp => List.mem_cons_of_mem _ hp))
  rintro j H' R' ⟨hH, hR⟩
  subst hH hR
  refine TC_env (by simp only [setJ, List.foldl_cons, List.foldl_nil, List.set_cons_succ, List.set_cons_zero]; rfl) ?_
  repeat' (first | (refine T_ow rfl ?_; refine ow_callf arp ?_; refine decode_k A1 c1 bb (by omega) hm (KDm_eq (r := (m, at_, f)) hd.symm (fun y hy => ?_)); refine T_nv ?_) | (apply TC_seq) | (apply TC_region) | (refine T_pure rfl rfl ?_; ((first | refine pw_mv ?_ | refine pw_extract rfl rfl ?_)); refine T_nv ?_) | (refine T_gen rfl rfl ?_; ((refine gw_alloc clp (fun b => ?_))); refine T_nv ?_))
  have hly : (Unp.cs m y).length = 16 := UnpL.len m y
  repeat' (first | (refine T_gen rfl rfl ?_; refine gw_store (i := 0) (vs := Unp.cs m y) rfl rfl rfl hly (by simp) (UnpL.one _ _) ?_; rw [overlay_all (by rw [hly]; rfl)]; refine T_nv ?_; refine T_hq ?_) | (apply TC_seq) | (apply TC_region) | (apply TC_ret) | (apply TC_skip) | (apply TC_cond_true; exact rfl) | (apply TC_cond_false; exact rfl) | (apply T_nil) | (apply En_then) | (apply En_then_ret) | (apply T_load; exact rfl; ((refine pw_load (i := 0) rfl rfl rfl ?_)); refine T_nv ?_) | (apply T_bin; exact rfl; ((refine pw_neq rfl rfl (fun h => ?_) (fun h => ?_))) <;> (refine T_nv ?_)) | (refine T_pure rfl rfl ?_; ((first | refine pw_mv ?_ | refine pw_as ?_)); refine T_nv ?_))
  · exact En_fin (.inl rfl) (res1 rfl (rv_tmp rfl)) (fin_K H R' (fun w hs => hs.weaken sbp (fun p hp => by (exact List.mem_append_right _ hp))) k)
  · have h0 := h
    obtain ⟨hbs, hbl⟩ := decR_of hd h0
    subst hbs
    repeat' (first | (refine T_ow rfl ?_; refine ow_callf arp ?_; refine encodeM_k m y hy (fun p hp => List.mem_append_left _ hp) (KB_eq (r := (stB m, 0)) (encM_st hbl).symm (fun A4 c4 => ?_)); refine T_nv ?_) | (apply TC_seq) | (apply TC_region) | (apply T_nil) | (apply En_then) | (apply T_bin; exact rfl; ((refine pw_eql rfl rfl (fun h => ?_) (fun h => ?_))) <;> (first | (exfalso; omega) | refine T_nv ?_)) | (refine T_pure rfl rfl ?_; ((first | refine pw_mv ?_ | refine pw_as ?_ | refine pw_pick_t rfl evp ?_ | refine pw_extract rfl rfl ?_)); refine T_nv ?_))
    repeat' (first | (refine T_ow rfl ?_; refine ow_callf arp ?_; refine sameBytes_k2 _ _ _ _ _ _ (stB m) (stB m) (List.mem_cons_of_mem _ (List.mem_append_right _ hm)) List.mem_cons_self (fun _ => ?_) (fun hh => absurd rfl hh); refine T_nv ?_) | (apply TC_ret) | (apply T_nil) | (apply En_then) | (refine T_pure rfl rfl ?_; ((first | refine pw_as ?_ | refine pw_pick_t rfl evp ?_)); refine T_nv ?_))
    exact En_fin (.inl rfl) (res1 rfl (rv_tmp rfl)) (fin_K H R' (fun w hs => hs.weaken sbp (fun p hp => by (exact List.mem_cons_of_mem _ (List.mem_append_right _ hp)))) k)
end Go.Proofs.Ytggdljhmbckpmaa
