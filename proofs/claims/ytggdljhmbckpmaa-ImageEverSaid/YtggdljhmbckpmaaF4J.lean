/- What a drive has: walks. Drives: NewDrive, right, and the search for what is not right: walks. Read; records: their ends, their words: walks. -/
import Derived.Test.YtggdljhmbckpmaaA17J
import Derived.Test.YtggdljhmbckpmaaA9J
set_option linter.unusedVariables false
set_option linter.unusedSimpArgs false
namespace Go.Proofs.Ytggdljhmbckpmaa
open Go Go.RowKit
set_option maxRecDepth 100000
set_option maxHeartbeats 800000

def spl (xs : List UInt8) (a : Nat) (ys : List UInt8) : List UInt8 := xs.take a ++ ys ++ xs.drop (a + ys.length)
def hasB (d : Drive) : List UInt8 := d.pending.foldl (fun xs w => spl xs w.at_.toNat w.data) d.bytes
theorem spl_length (xs : List UInt8) (a : Nat) (ys : List UInt8) (h : a + ys.length ≤ xs.length) : (spl xs a ys).length = xs.length := by
  simp [spl]; omega
theorem overlay_bytes (xs : List UInt8) (a : Nat) (ys : List UInt8) (sp : List Value) (h : a + ys.length ≤ xs.length) : overlay (bytesV xs ++ sp) a (bytesV ys) = bytesV (spl xs a ys) ++ sp := by
  simp only [overlay, spl, bytesV_append]
  have h1 : (bytesV xs ++ sp).take a = bytesV (xs.take a) := by
    rw [List.take_append_of_le_length (by simp; omega)]; simp [bytesV, List.map_take]
  have h2 : (bytesV xs ++ sp).drop (a + (bytesV ys).length) = bytesV (xs.drop (a + ys.length)) ++ sp := by
    rw [List.drop_append_of_le_length (by simp; omega)]; simp [bytesV, List.map_drop]
  rw [h1, h2]; simp
theorem copy_done (xs ys : List UInt8) (sp : List Value) (a dn o' : Nat) (hdn : dn = xs.length - a) (ho : dn = 0 ∨ o' = 0 + a * 1) (h : a + ys.length ≤ xs.length) : overlay (bytesV xs ++ sp) o' (bytesV (ys.take dn)) = bytesV (spl xs a ys) ++ sp := by
  rw [List.take_of_length_le (show ys.length ≤ dn by omega)]
  rcases ho with ho | ho
  · have hy : ys = [] := List.eq_nil_of_length_eq_zero (by omega)
    subst hy
    have e : overlay (bytesV xs ++ sp) o' (bytesV []) = bytesV xs ++ sp := by simp [overlay, bytesV]
    rw [e]
    simp [spl]
  · have : o' = a := by omega
    subst this
    exact overlay_bytes xs o' ys sp h
theorem withinB_spec {a : Int} {n s : Nat} (h : withinB a (n : Int) (s : Int) = true) : 0 ≤ a ∧ a.toNat + n ≤ s := by
  unfold withinB at h
  have := of_decide_eq_true h
  omega
theorem checkD_spec {d : Drive} (h : checkD d = true) : 64 ≤ d.bytes.length ∧ d.bytes.length ≤ 600000 ∧ d.bytes.length % 2 = 0 ∧ d.pending.length ≤ 100 ∧ ∀ i (hi : i < d.pending.length), 0 ≤ d.pending[i].at_ ∧ d.pending[i].at_.toNat + d.pending[i].data.length ≤ d.bytes.length := by
  unfold checkD at h
  simp only [Bool.and_eq_true, decide_eq_true_eq] at h
  obtain ⟨⟨⟨⟨h1, h2⟩, h3⟩, h4⟩, h5⟩ := h
  refine ⟨h1, h2, h3, h4, fun i hi => ?_⟩
  have := List.all_eq_true.1 h5 _ (List.getElem_mem hi)
  exact withinB_spec this
theorem has_fold_length (n : Nat) : ∀ (ws : List DW) (xs : List UInt8), xs.length = n → (∀ w ∈ ws, w.at_.toNat + w.data.length ≤ n) → (ws.foldl (fun xs w => spl xs w.at_.toNat w.data) xs).length = n
  | [], xs, h, _ => h
  | w :: ws, xs, h, hw => has_fold_length n ws _ (by rw [spl_length _ _ _ (by rw [h]; exact hw w (by simp))]; exact h) (fun w' hw' => hw w' (by simp [hw']))
theorem hasB_length {d : Drive} (h : checkD d = true) : (hasB d).length = d.bytes.length := by
  obtain ⟨_, _, _, _, hw⟩ := checkD_spec h
  refine has_fold_length _ _ _ rfl fun w hw' => ?_
  obtain ⟨i, hi, rfl⟩ := List.mem_iff_getElem.1 hw'
  exact (hw i hi).2

theorem has_k {w0 : World} {H : List Hp} {R : List MP} {K : Value → List Hp → List MP → Prop} (A : Option Addr) (c : Nat) (A2 : Option Addr) (c2 : Nat) (d : Drive) (hd : checkD d = true)
    (hm : Sl (.slice A d.bytes.length c) d.bytes ∈ R) (hm2 : Sl (.slice A2 d.pending.length c2) d.pending ∈ R)
    (k : ∀ v, K v (.row v 5 1 (hasB d).length (bytesV (hasB d)) :: H) R) : CallsK Try.prog w0 50 #[dv A c A2 c2 d] H R K := by
  obtain ⟨h64, hmax, hmod, h100, hw⟩ := checkD_spec hd
  rw [hasB_length hd] at k
  have HW := Go.Lib.hid hw
  clear hw
  refine calls_of Try.func50 rfl Try.ntmps50 nep ?_
  repeat' (first | (refine T_ow rfl ?_; refine ow_callf arp ?_; refine clone_k _ _ _ (by omega) memt (fun v => ?_); refine T_nv ?_) | (apply TC_seq) | (apply TC_region) | (apply TC_block) | (apply T_nil) | (apply En_then) | (apply T_load; exact rfl; ((first | refine pw_load (i := 0) rfl rfl rfl ?_ | refine pw_load (i := 1) rfl rfl rfl ?_)); refine T_nv ?_) | (refine T_pure rfl rfl ?_; ((first | refine pw_mv ?_ | refine pw_as ?_ | refine pw_fieldAddr rfl ?_ | refine pw_len rfl ?_)); refine T_nv ?_) | (refine T_gen rfl rfl ?_; ((refine gw_box clp (fun b => ?_))); refine T_nv ?_))
  refine TC_unrow 0 rfl (by omega) (fun b' cap sp hv hl1 hl2 hcap hcapm => ?_)
  subst hv
  refine TC_hp hpp ?_
  refine TC_loopS [5, 12, 13, 14, 15, 16, 17, 18, 19, 20, 21, 22, 23] (fun m j H' R' => R = R' ∧ ∃ i : Nat, i + m = d.pending.length ∧ j 12 = .int .i64 i ∧ ∃ cur : List UInt8, cur.length = d.bytes.length ∧ cur = (d.pending.take i).foldl (fun xs w => spl xs w.at_.toNat w.data) d.bytes ∧
    (.blk b' (bytesV cur ++ sp) 5 :: .blk b [.slice A d.bytes.length c, .slice A2 d.pending.length c2] 45 :: H) = H') d.pending.length sjp ⟨rfl, 0, by omega, rfl, d.bytes, rfl, rfl, rfl⟩ ?_
  rintro m j H' R' ⟨hR, i, hi, h12, cur, hcl, hcur, hH⟩
  subst hH; subst hR
  have HC := Go.Lib.hid hcur
  clear hcur
  refine TC_env (by simp only [setJ, List.foldl_cons, List.foldl_nil, List.set_cons_succ, List.set_cons_zero, h12]; rfl) ?_
  repeat' (first | (apply TC_seq) | (apply TC_region) | (apply TC_block) | (apply TC_ret) | (apply TC_skip) | (apply TC_exit) | (apply TC_cond_true; exact rfl) | (apply TC_cond_false; exact rfl) | (apply T_nil) | (apply En_then) | (apply En_then_exit) | (apply En_block_exit) | (apply T_load; exact rfl; ((refine pw_load_at0 rfl memr rfl ?_)); refine T_nv ?_) | (apply T_bin; exact rfl; ((refine pw_lss rfl rfl (fun h => ?_) (fun h => ?_))) <;> (refine T_nv ?_)) | (apply T_idx; exact rfl; ((refine pw_index_wN evp rfl memt (List.getElem?_eq_getElem (by omega)) (fun b o A c hI hL => ?_))); refine T_nv ?_) | (apply T_store; exact rfl; ((refine gw_store (i := 0) rfl clp rfl (by rfl) (by simp) (by simp [Value.oneCell']) ?_)); refine T_nv ?_; refine T_hq ?_) | (refine T_pure rfl rfl ?_; ((first | refine pw_mv ?_ | refine pw_as ?_)); refine T_nv ?_) | (refine T_gen rfl rfl ?_; ((refine gw_alloc clp (fun b => ?_))); refine T_nv ?_))
  · have hwi : 0 ≤ d.pending[i].at_ ∧ d.pending[i].at_.toNat + d.pending[i].data.length ≤ d.bytes.length := HW.out i (by omega)
    refine TC_draw mixed (by decide +kernel) (fun _ _ _ _ _ _ h => h) (List.Sublist.cons_cons _ (List.Sublist.cons _ (List.Sublist.refl _))) ?_
    all_goals ((refine TA_ps 0 (List.Sublist.cons_cons _ (List.Sublist.cons _ (List.Sublist.refl _))) ?_; ((refine pw_mv ?_)); refine TA_nv ?_))
    all_goals ((refine TA_ps 1 (List.Sublist.cons_cons _ (List.Sublist.cons _ (List.Sublist.refl _))) ?_; ((refine pw_fieldAddr rfl ?_)); refine TA_nv ?_))
    all_goals ((refine TA_ps 2 (List.Sublist.cons_cons _ (List.Sublist.cons _ (List.Sublist.refl _))) ?_; ((refine pw_load (i := 0) rfl rfl rfl ?_)); refine TA_nv ?_))
    all_goals ((refine TA_ps 3 (List.Sublist.cons_cons _ (List.Sublist.cons _ (List.Sublist.refl _))) ?_; ((refine pw_slice_o rfl rfl rfl (by omega) (by omega) (by omega) (fun o' ho' => ?_))); refine TA_nv ?_))
    all_goals ((refine TA_ps 4 (List.Sublist.cons_cons _ (List.Sublist.cons _ (List.Sublist.refl _))) ?_; ((refine pw_fieldAddr rfl ?_)); refine TA_nv ?_))
    all_goals ((refine TA_ps 5 (List.Sublist.cons_cons _ (List.Sublist.cons _ (List.Sublist.refl _))) ?_; ((refine pw_load (i := 0) rfl rfl rfl ?_)); refine TA_nv ?_))
    -- left: [6]; ready: [6]: ['call copy']
    refine TA_g 6 ?_
    refine gw_copy (i := 1) rfl rfl memt rfl (fun h => by simp; omega) ?_
    refine ⟨.inl (fun w hs => hs.weaken (by simp) (fun p hp => hp)), ?_⟩
    refine TA_done (by decide +kernel) ?_
    repeat' (first | (apply TC_region) | (apply T_nil) | (apply En_then) | (apply En_block) | (apply T_bin; exact rfl; ((refine pw_add64 rfl rfl (by omega) (by omega) ?_)); refine T_nv ?_) | (refine T_pure rfl rfl ?_; ((refine pw_mv ?_)); refine T_nv ?_))
    refine En_backS (m - 1) (.blk b' (bytesV (spl cur d.pending[i].at_.toNat d.pending[i].data) ++ sp) 5 :: _) R (by omega) sjp ⟨rfl, i + 1, by omega, rfl, spl cur d.pending[i].at_.toNat d.pending[i].data, by rw [spl_length _ _ _ (by omega)]; exact hcl, ?_, rfl⟩ (fun w hs => ?_)
    · rw [HC.out, List.take_succ_eq_append_getElem (by omega), List.foldl_append, List.foldl_cons, List.foldl_nil]
    · have e := copy_done cur d.pending[i].data sp d.pending[i].at_.toNat ((d.bytes.length : Int).toNat - d.pending[i].at_.toNat) o' (by simp [hcl]) ho' (by omega)
      rw [e] at hs
      exact hs.weaken (by simp) (fun p hp => by simp [hp])
  · refine En_fin (.inl rfl) (res1 rfl (rv_tmp rfl)) (fin_K (.row (.slice (some ⟨b', 0, none⟩) d.bytes.length cap) 5 1 d.bytes.length (bytesV (hasB d)) :: H) R (fun w hs => ?_) (k _))
    have hc2 : cur = hasB d := by
      rw [HC.out, List.take_of_length_le (by omega)]; rfl
    rw [hc2] at hs
    have h1 := hs.torow (i := 0) (n := d.bytes.length) (cap := cap) (size := 1) rfl (by rw [← hl1]; simp [hasB_length hd]) (by simp [hasB_length hd]) hcap hcapm
    exact h1.weaken (by simp) (fun p hp => hp)
end Go.Proofs.Ytggdljhmbckpmaa
namespace Go.Proofs.Ytggdljhmbckpmaa
open Go Go.RowKit
set_option maxRecDepth 100000
set_option maxHeartbeats 800000

abbrev dvR (A : Option Addr) (c : Nat) (A2 : Option Addr) (c2 : Nat) (d : Drive) (R : List MP) : List MP := Sl (.slice A d.bytes.length c) d.bytes :: Sl (.slice A2 d.pending.length c2) d.pending :: R
/-- A drive and an errno are returned, the drive for good. -/
def KD (K : Value → List Hp → List MP → Prop) (r : Drive × Int) (H : List Hp) (R : List MP) : Prop := ∀ A c A2 c2, K (.tuple #[dv A c A2 c2 r.1, .int .i64 r.2]) H (dvR A c A2 c2 r.1 R)
theorem KD_eq {K : Value → List Hp → List MP → Prop} {r r' : Drive × Int} {H : List Hp} {R : List MP} (e : r = r') (h : KD K r H R) : KD K r' H R := e ▸ h
theorem KD_none {w0 w : World} {H : List Hp} {R : List MP} (h : S w0 w H R) : S w0 w H (dvR none 0 none 0 ⟨[], []⟩ R) := (h.sl_nil DW).sl_nil UInt8

def newD (n : Int) : Drive × Int := if n < 64 ∨ 600000 < n ∨ n % 2 = 1 then (⟨[], []⟩, 1) else (⟨List.replicate n.toNat 0, []⟩, 0)
theorem bytesV_rep (n : Nat) : bytesV (List.replicate n 0) = List.replicate n (.int .u8 0) := by simp [bytesV, byteV]
theorem newDrive_k {w0 : World} {H : List Hp} {R : List MP} {K : Value → List Hp → List MP → Prop} (n : Int) (hI : InI n) (k : KD K (newD n) H R) : CallsK Try.prog w0 19 #[.int .i64 n] H R K := by
  unfold InI at hI
  refine calls_of Try.func19 rfl Try.ntmps19 nep ?_
  repeat' (first | (apply TC_seq) | (apply TC_region) | (apply TC_ret) | (apply TC_skip) | (apply TC_cond_true; exact rfl) | (apply TC_cond_false; exact rfl) | (apply T_nil) | (apply En_then) | (apply En_then_ret) | (apply T_bin; exact rfl; ((refine pw_rem rfl rfl (by omega) (by omega) ?_)); refine T_nv ?_) | (apply T_bin; exact rfl; ((first | refine pw_lss rfl rfl (fun h => ?_) (fun h => ?_) | refine pw_gtr rfl rfl (fun h => ?_) (fun h => ?_) | refine pw_eql rfl rfl (fun h => ?_) (fun h => ?_))) <;> (refine T_nv ?_)) | (apply T_store; exact rfl; ((refine gw_store (i := 0) rfl clp rfl (by rfl) (by simp) (by simp [Value.oneCell']) ?_)); refine T_nv ?_; refine T_hq ?_) | (refine T_pure rfl rfl ?_; ((first | refine pw_mv ?_ | refine pw_as ?_ | refine pw_pick_t rfl evp ?_ | refine pw_pick_f rfl evp ?_ | refine pw_build bldp ?_)); refine T_nv ?_) | (refine T_skipped rfl ?_; refine T_nv ?_) | (refine T_gen rfl rfl ?_; ((refine gw_alloc clp (fun b => ?_))); refine T_nv ?_))
  iterate 3
    · refine En_fin (.inl rfl) (res2 rfl (rv_cell (i := 0) rfl rfl rfl) (rv_tmp rfl)) (fin_K H _ (fun w hs => KD_none (hs.weaken (by simp) (fun _ h => h))) ?_)
      exact KD_eq (r' := (⟨[], []⟩, 1)) (by unfold newD; rw [if_pos (by omega)]) k none 0 none 0
  obtain ⟨m, rfl⟩ : ∃ m : Nat, n = m := ⟨n.toNat, by omega⟩
  refine T_gen rfl rfl ?_
  refine gw_make (n := m) rfl rfl (by omega) (by omega) (fun b' => ?_)
  refine T_nv ?_
  repeat' (first | (apply TC_ret) | (apply T_nil) | (apply En_then) | (apply T_store; exact rfl; ((refine gw_store (i := 1) rfl clp rfl (by rfl) (by simp) (by simp [Value.oneCell']) ?_)); refine T_nv ?_; refine T_hq ?_) | (refine T_pure rfl rfl ?_; ((first | refine pw_as ?_ | refine pw_build bldp ?_)); refine T_nv ?_))
  have k' := KD_eq (r' := (⟨List.replicate m 0, []⟩, 0)) (by unfold newD; rw [if_neg (by omega)]; simp) k (some ⟨b', 0, none⟩) m none 0
  simp only [dv, dvR, List.length_replicate, List.length_nil] at k'
  refine En_fin (.inl rfl) (res2 rfl (rv_cell (i := 1) rfl rfl rfl) (rv_tmp rfl)) (fin_K H _ (fun w hs => ?_) k')
  rw [← bytesV_rep] at hs
  have h2 := hs.bytes_stay (i := 0) (n := m) (c := m) rfl (by simp) (by omega) (by simp only [maxL]; omega)
  exact ((h2.sl_nil DW).weaken (by simp) (fun p hp => by
    simp only [List.mem_cons] at hp ⊢
    rcases hp with hp | hp | hp
    · exact .inr (.inl hp)
    · exact .inl hp
    · exact .inr (.inr hp)))

def rightB (n : Nat) (x : DO) : Bool := if x.kind = 1 then withinB x.at_ (x.data.length : Int) (n : Int) else if x.kind = 2 then decide (x.at_ = 0 ∧ x.data.length = 0) else false
abbrev opV (A : Option Addr) (c : Nat) (x : DO) : Value := .agg #[.int .i64 x.kind, .int .i64 x.at_, .slice A x.data.length c]
theorem right_k {w0 : World} {H : List Hp} {R : List MP} {K : Value → List Hp → List MP → Prop} (A : Option Addr) (c : Nat) (A2 : Option Addr) (c2 : Nat) (A3 : Option Addr) (c3 : Nat) (d : Drive) (x : DO) (hb : d.bytes.length ≤ 9223372036854775807) (hI : InI x.at_) (hl : x.data.length ≤ 9223372036854775807)
    (k : K (.bool (rightB d.bytes.length x)) H R) : CallsK Try.prog w0 56 #[dv A c A2 c2 d, opV A3 c3 x] H R K := by
  refine calls_of Try.func56 rfl Try.ntmps56 nep ?_
  repeat' (first | (refine T_ow rfl ?_; refine ow_callf arp ?_; refine within_k _ _ _ hI ⟨by omega, by omega⟩ ⟨by omega, by omega⟩ ?_; refine T_nv ?_) | (apply TC_seq) | (apply TC_region) | (apply TC_block) | (apply TC_ret) | (apply TC_skip) | (apply TC_cond_true; exact rfl) | (apply TC_cond_false; exact rfl) | (apply T_nil) | (apply En_then) | (apply En_then_ret) | (apply En_block) | (apply En_block_ret) | (apply T_load; exact rfl; ((first | refine pw_load (i := 0) rfl rfl rfl ?_ | refine pw_load (i := 1) rfl rfl rfl ?_)); refine T_nv ?_) | (apply T_bin; exact rfl; ((refine pw_eql rfl rfl (fun h => ?_) (fun h => ?_))) <;> (refine T_nv ?_)) | (refine T_pure rfl rfl ?_; ((first | refine pw_mv ?_ | refine pw_as ?_ | refine pw_pick_t rfl evp ?_ | refine pw_pick_f rfl evp ?_ | refine pw_fieldAddr rfl ?_ | refine pw_len rfl ?_)); refine T_nv ?_) | (refine T_skipped rfl ?_; refine T_nv ?_) | (refine T_gen rfl rfl ?_; ((refine gw_box clp (fun b => ?_))); refine T_nv ?_))
  all_goals
    refine En_fin (.inl rfl) (res1 rfl (rv_tmp rfl)) (fin_K H R (fun w hs => hs.weaken (by simp) (fun _ h => h)) ?_)
    refine K_bool ?_ k
    (first | simp [rightB, *]; done | (simp [rightB, *]; rw [← List.length_eq_zero_iff]; omega))
theorem do1_k {w0 : World} {H : List Hp} {R : List MP} {K : Value → List Hp → List MP → Prop} (i bd : Nat) (A : Option Addr) (c : Nat) (A2 : Option Addr) (c2 : Nat) (A3 : Option Addr) (c3 : Nat) (d : Drive) (x : DO) (hi : H[i]? = some (.blk bd [.slice A d.bytes.length c, .slice A2 d.pending.length c2] 45))
    (hb : d.bytes.length ≤ 9223372036854775807) (hI : InI x.at_) (hl : x.data.length ≤ 9223372036854775807)
    (k : K (.bool (!rightB d.bytes.length x)) H R) : CallsK Try.prog w0 55 #[opV A3 c3 x, .pointer (some ⟨bd, 0, none⟩)] H R K := by
  refine calls_of Try.func55 rfl Try.ntmps55 nep ?_
  repeat' (first | (refine T_pure rfl rfl ?_; refine pw_load (i := i + 1) rfl (by simpa using hi) rfl ?_; refine T_nv ?_) | (refine T_ow rfl ?_; refine ow_callf arp ?_; refine right_k _ _ _ _ _ _ d x hb hI hl ?_; refine T_nv ?_) | (apply TC_seq) | (apply TC_region) | (apply TC_ret) | (apply T_nil) | (apply En_then) | (apply T_load; exact rfl; ((refine pw_load (i := 0) rfl rfl rfl ?_)); refine T_nv ?_) | (refine T_pure rfl rfl ?_; ((first | refine pw_as ?_ | refine pw_not rfl ?_)); refine T_nv ?_) | (refine T_gen rfl rfl ?_; ((refine gw_box clp (fun b => ?_))); refine T_nv ?_))
  refine En_fin (.inl rfl) (res1 rfl (rv_tmp rfl)) (fin_K H R (fun w hs => hs.weaken (by simp) (fun _ h => h)) k)

theorem do1_k2 {w0 : World} {H : List Hp} {R : List MP} {K : Value → List Hp → List MP → Prop} (i bd : Nat) (A : Option Addr) (c : Nat) (A2 : Option Addr) (c2 : Nat) (A3 : Option Addr) (c3 : Nat) (d : Drive) (x : DO) (hi : H[i]? = some (.blk bd [.slice A d.bytes.length c, .slice A2 d.pending.length c2] 45))
    (hb : d.bytes.length ≤ 9223372036854775807) (hI : InI x.at_) (hl : x.data.length ≤ 9223372036854775807)
    (kt : rightB d.bytes.length x = false → K (.bool true) H R) (kf : rightB d.bytes.length x = true → K (.bool false) H R) : CallsK Try.prog w0 55 #[opV A3 c3 x, .pointer (some ⟨bd, 0, none⟩)] H R K := by
  refine do1_k i bd A c A2 c2 A3 c3 d x hi hb hI hl ?_
  cases h : rightB d.bytes.length x
  · exact kt h
  · exact kf h
/-- The place of the first operation that is not right. -/
def badAt (n : Nat) : List DO → Nat → Int
  | [], _ => -1
  | x :: l, i => if rightB n x then badAt n l (i + 1) else i
theorem badAt_nonneg (n : Nat) : ∀ (l : List DO) (i : Nat), decide (0 ≤ badAt n l i) = !l.all (rightB n)
  | [], i => by simp [badAt]
  | x :: l, i => by
    have ih := badAt_nonneg n l (i + 1)
    cases h : rightB n x <;> simp [badAt, h]
    simpa using ih
theorem index_k {w0 : World} {H : List Hp} {R : List MP} {K : Value → List Hp → List MP → Prop} (i bd : Nat) (A : Option Addr) (c : Nat) (A2 : Option Addr) (c2 : Nat) (A3 : Option Addr) (c3 : Nat) (d : Drive) (l : List DO) (hi : H[i]? = some (.blk bd [.slice A d.bytes.length c, .slice A2 d.pending.length c2] 45))
    (hb : d.bytes.length ≤ 9223372036854775807) (hll : l.length ≤ 9223372036854775807) (hm : Sl (.slice A3 l.length c3) l ∈ R)
    (k : K (.int .i64 (badAt d.bytes.length l 0)) H R) : CallsK Try.prog w0 102 #[.slice A3 l.length c3, .func (.func 55) #[] #[.pointer (some ⟨bd, 0, none⟩)]] H R K := by
  refine calls_of Try.func102 rfl Try.ntmps102 nep ?_
  repeat' (first | (apply TC_seq) | (apply TC_region) | (apply TC_block) | (apply T_nil) | (apply En_then) | (refine T_pure rfl rfl ?_; ((first | refine pw_mv ?_ | refine pw_as ?_ | refine pw_len rfl ?_)); refine T_nv ?_))
  refine TC_loopS [4, 5, 8, 9, 10, 11, 12, 13, 14, 15, 16, 17, 18] (fun m j H' R' => H = H' ∧ R = R' ∧ ∃ q : Nat, q + m = l.length ∧ j 8 = .int .i64 q ∧ badAt d.bytes.length l 0 = badAt d.bytes.length (l.drop q) q) l.length sjp ⟨rfl, rfl, 0, by omega, rfl, rfl⟩ ?_
  rintro m j H' R' ⟨hH, hR, q, hq, h8, hbad⟩
  subst hH; subst hR
  refine TC_env (by simp only [setJ, List.foldl_cons, List.foldl_nil, List.set_cons_succ, List.set_cons_zero, h8]; rfl) ?_
  have HB := Go.Lib.hid hbad
  clear hbad
  repeat' (first | (refine T_ow rfl ?_; refine ow_callv rfl arp ?_; refine do1_k2 i bd _ _ _ _ _ _ d _ hi hb hI2 hL (fun hB => ?_) (fun hB => ?_) <;> refine T_nv ?_) | (apply TC_seq) | (apply TC_region) | (apply TC_block) | (apply TC_ret) | (apply TC_skip) | (apply TC_exit) | (apply TC_cond_true; exact rfl) | (apply TC_cond_false; exact rfl) | (apply T_nil) | (apply En_then) | (apply En_then_ret) | (apply En_then_exit) | (apply En_block) | (apply En_block_ret) | (apply En_block_exit) | (apply T_load; exact rfl; ((refine pw_load_at0 rfl memr rfl ?_)); refine T_nv ?_) | (apply T_bin; exact rfl; ((refine pw_add64 rfl rfl (by omega) (by omega) ?_)); refine T_nv ?_) | (apply T_bin; exact rfl; ((refine pw_lss rfl rfl (fun h => ?_) (fun h => ?_))) <;> (refine T_nv ?_)) | (apply T_idx; exact rfl; ((refine pw_index_opN evp rfl memt (List.getElem?_eq_getElem (by omega)) (fun b o A c hI hI2 hL => ?_))); refine T_nv ?_) | (refine T_pure rfl rfl ?_; ((first | refine pw_mv ?_ | refine pw_as ?_)); refine T_nv ?_))
  · refine En_fin (.inl rfl) (res1 rfl (rv_tmp rfl)) (fin_K H R (fun w hs => hs.weaken (by simp) (fun p hp => by simp [hp])) ?_)
    refine K_int ?_ k
    rw [HB.out, List.drop_eq_getElem_cons (show q < l.length by omega), badAt, if_neg (by simp [hB])]
  · refine En_backS (m - 1) _ R (by omega) sjp ⟨rfl, rfl, q + 1, by omega, rfl, ?_⟩ (fun w hs => hs.weaken (by simp) (fun p hp => by simp [hp]))
    rw [HB.out, List.drop_eq_getElem_cons (show q < l.length by omega), badAt, if_pos hB]
  · refine En_fin (.inl rfl) (res1 rfl (rv_tmp rfl)) (fin_K H R (fun w hs => hs) ?_)
    refine K_int ?_ k
    rw [HB.out, List.drop_of_length_le (by omega)]; rfl
theorem contains_k {w0 : World} {H : List Hp} {R : List MP} {K : Value → List Hp → List MP → Prop} (i bd : Nat) (A : Option Addr) (c : Nat) (A2 : Option Addr) (c2 : Nat) (A3 : Option Addr) (c3 : Nat) (d : Drive) (l : List DO) (hi : H[i]? = some (.blk bd [.slice A d.bytes.length c, .slice A2 d.pending.length c2] 45))
    (hb : d.bytes.length ≤ 9223372036854775807) (hll : l.length ≤ 9223372036854775807) (hm : Sl (.slice A3 l.length c3) l ∈ R)
    (kt : l.all (rightB d.bytes.length) = false → K (.bool true) H R) (kf : l.all (rightB d.bytes.length) = true → K (.bool false) H R) : CallsK Try.prog w0 54 #[.slice A3 l.length c3, .func (.func 55) #[] #[.pointer (some ⟨bd, 0, none⟩)]] H R K := by
  have hbad := badAt_nonneg d.bytes.length l 0
  refine calls_of Try.func54 rfl Try.ntmps54 nep ?_
  repeat' (first | (refine T_ow rfl ?_; refine ow_callf arp ?_; refine index_k i bd _ _ _ _ _ _ d _ hi hb hll hm ?_; refine T_nv ?_) | (apply TC_seq) | (apply TC_region) | (apply TC_ret) | (apply T_nil) | (apply En_then) | (apply T_bin; exact rfl; ((refine pw_geq rfl rfl (fun h => ?_) (fun h => ?_))) <;> (refine T_nv ?_)) | (refine T_pure rfl rfl ?_; ((first | refine pw_mv ?_ | refine pw_as ?_)); refine T_nv ?_))
  · refine En_fin (.inl rfl) (res1 rfl (rv_tmp rfl)) (fin_K H R (fun w hs => hs) (kt ?_))
    rw [decide_eq_true (by omega)] at hbad
    simpa using hbad.symm
  · refine En_fin (.inl rfl) (res1 rfl (rv_tmp rfl)) (fin_K H R (fun w hs => hs) (kf ?_))
    rw [decide_eq_false (by omega)] at hbad
    simpa using hbad.symm
end Go.Proofs.Ytggdljhmbckpmaa
namespace Go.Proofs.Ytggdljhmbckpmaa
open Go Go.RowKit
set_option maxRecDepth 100000
set_option maxHeartbeats 800000

/-- Bytes and an errno are returned, the bytes for good. -/
def KB (K : Value → List Hp → List MP → Prop) (r : List UInt8 × Int) (H : List Hp) (R : List MP) : Prop := ∀ A c, K (.tuple #[.slice A r.1.length c, .int .i64 r.2]) H (Sl (.slice A r.1.length c) r.1 :: R)
theorem KB_eq {K : Value → List Hp → List MP → Prop} {r r' : List UInt8 × Int} {H : List Hp} {R : List MP} (e : r = r') (h : KB K r H R) : KB K r' H R := e ▸ h
def readD (d : Drive) : List UInt8 × Int := if checkD d then (hasB d, 0) else ([], 301)
theorem read_k {w0 : World} {H : List Hp} {R : List MP} {K : Value → List Hp → List MP → Prop} (A0 : Option Addr) (c0 : Nat) (A2 : Option Addr) (c2 : Nat) (d : Drive) (hb : d.bytes.length ≤ 9223372036854775807) (hp : d.pending.length ≤ 9223372036854775807)
    (hm : Sl (.slice A0 d.bytes.length c0) d.bytes ∈ R) (hm2 : Sl (.slice A2 d.pending.length c2) d.pending ∈ R)
    (k : KB K (readD d) H R) : CallsK Try.prog w0 25 #[dv A0 c0 A2 c2 d] H R K := by
  refine calls_of Try.func25 rfl Try.ntmps25 nep ?_
  repeat' (first | (refine T_ow rfl ?_; refine ow_callf arp ?_; refine check_k _ _ _ _ d hb hp hm hm2 ?_; refine T_nv ?_) | (apply TC_seq) | (apply TC_region) | (apply TC_ret) | (apply TC_skip) | (apply TC_cond_true; exact rfl) | (apply TC_cond_false; exact rfl) | (apply T_nil) | (apply En_then) | (apply En_then_ret) | (apply T_load; exact rfl; ((refine pw_load (i := 0) rfl rfl rfl ?_)); refine T_nv ?_) | (apply T_bin; exact rfl; ((refine pw_neq rfl rfl (fun h => ?_) (fun h => ?_))) <;> (refine T_nv ?_)) | (refine T_pure rfl rfl ?_; ((first | refine pw_mv ?_ | refine pw_as ?_)); refine T_nv ?_) | (refine T_gen rfl rfl ?_; ((refine gw_box clp (fun b => ?_))); refine T_nv ?_))
  · have hc : checkD d = false := by unfold errD at h; cases hc : checkD d <;> simp_all
    have e : errD d = 301 := by unfold errD; rw [hc]; rfl
    rw [e]
    refine En_fin (.inl rfl) (res2 rfl (rv_tmp rfl) (rv_tmp rfl)) (fin_K H (Sl (.slice none 0 0) ([] : List UInt8) :: R) (fun w hs => (hs.weaken sbp (fun _ h => h)).sl_nil UInt8) ?_)
    exact KB_eq (r' := ([], 301)) (by unfold readD; rw [hc]; rfl) k none 0
  have hc : checkD d = true := by unfold errD at h; cases hc : checkD d <;> simp_all
  repeat' (first | (refine T_ow rfl ?_; refine ow_callf arp ?_; refine has_k _ _ _ _ d hc hm hm2 (fun v => ?_); refine T_nv ?_; refine T_stays 0 rfl (fun A' c' hv => ?_); subst hv; refine T_hq ?_) | (apply TC_ret) | (apply T_nil) | (apply En_then) | (refine T_pure rfl rfl ?_; ((refine pw_as ?_)); refine T_nv ?_))
  refine En_fin (.inl rfl) (res2 rfl (rv_tmp rfl) (rv_tmp rfl)) (fin_K H _ (fun w hs => hs.weaken sbp (fun _ h => h)) ?_)
  exact KB_eq (r' := (hasB d, 0)) (by unfold readD; rw [hc]; rfl) k A' c'

structure Rc where
  at_ : Nat
  epoch : Nat
  seq : Nat
  data : List UInt8
abbrev rcV (A : Option Addr) (c : Nat) (r : Rc) : Value := .agg #[.int .i64 (r.at_ : Int), .int .i64 (r.epoch : Int), .int .i64 (r.seq : Int), .slice A r.data.length c]
def Rc.stop (r : Rc) : Nat := r.at_ + 21 + r.data.length
theorem end_k {w0 : World} {H : List Hp} {R : List MP} {K : Value → List Hp → List MP → Prop} (A : Option Addr) (c : Nat) (r : Rc) (hb : r.stop ≤ 1000000000)
    (k : K (.int .i64 (r.stop : Nat)) H R) : CallsK Try.prog w0 51 #[rcV A c r] H R K := by
  unfold Rc.stop at *
  refine calls_of Try.func51 rfl Try.ntmps51 nep ?_
  repeat' (first | (apply TC_seq) | (apply TC_region) | (apply TC_ret) | (apply T_nil) | (apply En_then) | (apply T_load; exact rfl; ((refine pw_load (i := 0) rfl rfl rfl ?_)); refine T_nv ?_) | (apply T_bin; exact rfl; ((refine pw_add64 rfl rfl (by omega) (by omega) ?_)); refine T_nv ?_) | (refine T_pure rfl rfl ?_; ((first | refine pw_as ?_ | refine pw_fieldAddr rfl ?_ | refine pw_len rfl ?_)); refine T_nv ?_) | (refine T_gen rfl rfl ?_; ((refine gw_box clp (fun b => ?_))); refine T_nv ?_))
  refine En_fin (.inl rfl) (res1 rfl (rv_tmp rfl)) (fin_K H R (fun w hs => hs.weaken sbp (fun _ h => h)) ?_)
  exact K_int (by simp) k
theorem fourOf_k' {w0 : World} {H : List Hp} {R : List MP} {K : Value → List Hp → List MP → Prop} (A : Option Addr) (m c : Nat) (xs : List UInt8) (hml : m = xs.length) (h4 : 4 ≤ xs.length) (hb : xs.length ≤ 9223372036854775807) (hm : Sl (.slice A m c) xs ∈ R)
    (k : K (.int .u32 (fourL xs : Nat)) H R) : CallsK Try.prog w0 125 #[.slice A m c] H R K := by
  subst hml; exact fourOf_k A c xs h4 hb hm k
theorem sum_k' {w0 : World} {H : List Hp} {R : List MP} {K : Value → List Hp → List MP → Prop} (A : Option Addr) (m c : Nat) (xs : List UInt8) (hml : m = xs.length) (hb : xs.length ≤ 9223372036854775807) (hm : Sl (.slice A m c) xs ∈ R)
    (k : K (.int .u32 (sumB xs : Nat)) H R) : CallsK Try.prog w0 101 #[.slice A m c] H R K := by
  subst hml; exact sum_k A c xs hb hm k
theorem word_k {w0 : World} {H : List Hp} {R : List MP} {K : Value → List Hp → List MP → Prop} (i j b1 b2 : Nat) (A : Option Addr) (c : Nat) (xs : List UInt8) (at_ n : Nat) (hi : H[i]? = some (.blk b1 [.slice A xs.length c] 33)) (hj : H[j]? = some (.blk b2 [.int .i64 (at_ : Int)] 3))
    (hb : xs.length ≤ 600000) (hn : at_ + n + 4 ≤ xs.length) (hm : Sl (.slice A xs.length c) xs ∈ R)
    (k : K (.int .u32 (fourL (xs.drop (at_ + n)) : Nat)) H R) : CallsK Try.prog w0 124 #[.int .i64 (n : Int), .pointer (some ⟨b1, 0, none⟩), .pointer (some ⟨b2, 0, none⟩)] H R K := by
  refine calls_of Try.func124 rfl Try.ntmps124 nep ?_
  repeat' (first | (refine T_pure rfl rfl ?_; refine pw_load (i := i) rfl hi rfl ?_; refine T_nv ?_) | (refine T_pure rfl rfl ?_; refine pw_load (i := j) rfl hj rfl ?_; refine T_nv ?_) | (refine T_pure rfl rfl ?_; refine pw_slice_sl rfl hm rfl rfl rfl rfl (by omega) (by omega) (by omega) (fun A8 c8 => ?_); refine T_nv ?_) | (apply TC_seq) | (apply TC_region) | (apply T_nil) | (apply En_then) | (apply T_bin; exact rfl; ((refine pw_add64 rfl rfl (by omega) (by omega) ?_)); refine T_nv ?_) | (refine T_pure rfl rfl ?_; ((first | refine pw_mv ?_ | refine pw_as ?_)); refine T_nv ?_))
  have hl : ((xs.take (xs.length : Int).toNat).drop ((at_ : Int) + (n : Int)).toNat) = xs.drop (at_ + n) := by
    rw [show ((at_ : Int) + (n : Int)).toNat = at_ + n by omega, Int.toNat_natCast, List.take_length]
  repeat' (first | (refine T_ow rfl ?_; refine ow_callf arp ?_; refine fourOf_k' _ _ _ ((xs.take (xs.length : Int).toNat).drop ((at_ : Int) + (n : Int)).toNat) (by simp) (by rw [hl]; simp; omega) (by rw [hl]; simp; omega) memt ?_; refine T_nv ?_) | (apply TC_ret) | (apply T_nil) | (apply En_then) | (refine T_pure rfl rfl ?_; ((refine pw_as ?_)); refine T_nv ?_))
  refine En_fin (.inl rfl) (res1 rfl (rv_tmp rfl)) (fin_K H R (fun w hs => hs.weaken sbp kpp) ?_)
  rw [hl]; exact k
end Go.Proofs.Ytggdljhmbckpmaa
