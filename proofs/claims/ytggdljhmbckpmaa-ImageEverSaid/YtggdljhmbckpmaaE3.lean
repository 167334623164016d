/- Lists of structs written: walks, printed by gen_put.py. -/
import Derived.Test.YtggdljhmbckpmaaA16J
set_option linter.unusedVariables false
set_option linter.unusedSimpArgs false
namespace Go.Proofs.Ytggdljhmbckpmaa
open Go Go.RowKit
set_option maxRecDepth 100000
set_option maxHeartbeats 800000

theorem put67_w {w0 : World} {α : Type} [Rep α] [Unp α] (hsz : Rep.size α = 5) (hcl : ∀ (x : α) y, (Unp.cs x y).length = 5) (hco : ∀ (x : α) y, ∀ u ∈ Unp.cs x y, u.oneCell' = true) (bw : Nat) (A : Option Addr) (c : Nat) (xs : List α) (f1 : FuncId) (first cap : List Value) [FnOk Try.prog f1] (out : α → List UInt8) (Rx : List MP) (hx : xs.length ≤ 9223372036854775807)
    (hone : ∀ x ∈ xs, ∀ y, Unp.ok x y → Wr Try.prog w0 (Unp.fs x y ++ Rx) f1 (first ++ [.agg (Unp.cs x y).toArray] ++ cap) bw (out x)) : Wr Try.prog w0 (Sl (.slice A xs.length c) xs :: Rx) 67 [.pointer (some ⟨bw, 0, none⟩), .slice A xs.length c, .func (.func f1) first.toArray cap.toArray] bw (numB xs.length ++ xs.flatMap out) := by
  intro H R K KP bs v hsub hb hk hp
  have hm : Sl (.slice A xs.length c) xs ∈ R := hsub _ (by simp)
  have hIx : InI (xs.length : Int) := by simp only [InI]; omega
  rw [List.length_append] at hk hp
  refine callsP_of Try.func67 rfl Try.ntmps67 nep ?_
  repeat' (first | (apply TC_seq) | (apply TC_region) | (refine T_pure rfl rfl ?_; ((first | refine pw_mv ?_ | refine pw_len rfl ?_)); refine T_nv ?_))
  refine T_wr rfl rfl (number_w bw xs.length hIx) (fun _ h => (by cases h)) rfl rfl hb (fun hle v2 => ?_) (fun hgt => ?_)
  rotate_left
  · skip
    repeat' ((apply En_then_panic))
    exact En_panicked (fin_P H R (fun w hs => hs) (hp (by omega)))
  refine T_nv ?_
  repeat' (first | (apply TC_seq) | (apply TC_region) | (apply TC_block) | (apply T_nil) | (apply En_then) | (refine T_pure rfl rfl ?_; ((first | refine pw_mv ?_ | refine pw_len rfl ?_)); refine T_nv ?_))
  refine TC_loopS [7, 14, 15, 16, 17, 18, 19, 20, 21] (fun m j H2 R2 => ∃ (i : Nat) (bs' : List UInt8) (v' : Value), i + m = xs.length ∧ j 14 = .int .i64 (i : Int) ∧ (∀ p ∈ R, p ∈ R2) ∧ H2 = .row v' 5 1 bs'.length (bytesV bs') :: .blk bw [v'] 95 :: H ∧ bs'.length ≤ 250000 ∧ bs' ++ (xs.drop i).flatMap out = bs ++ (numB xs.length ++ xs.flatMap out)) xs.length sjp ⟨0, bs ++ numB xs.length, v2, by omega, rfl, fun _ h => h, rfl, by rw [List.length_append]; exact hle, by rw [List.append_assoc]; rfl⟩ ?_
  rintro m j' H2 R2 ⟨i, bs', v', him, h14, hR2, hH2, hb', hle2⟩
  subst hH2
  have hm2 := hR2 _ hm
  refine TC_env (by simp only [setJ, List.foldl_cons, List.foldl_nil, List.set_cons_succ, List.set_cons_zero, h14]; rfl) ?_
  have hlen : bs'.length + ((xs.drop i).flatMap out).length = bs.length + ((numB xs.length).length + (xs.flatMap out).length) := by
    have := congrArg List.length hle2
    simpa only [List.length_append] using this
  have HL := Go.Lib.hid hle2
  clear hle2
  repeat' (first | (refine T_pure rfl rfl ?_; refine pw_indexU rfl rfl hm2 hsz (d := xs[i]) (by simp only [Int.toNat_natCast]; exact List.getElem?_eq_getElem (by omega)) (by omega) (fun b_ o y hy => ?_); refine T_nv ?_) | (refine T_pure rfl rfl ?_; refine pw_load_at0 rfl List.mem_cons_self (cellsVal_all (hcl _ _)) ?_; refine T_nv ?_) | (refine T_gen rfl rfl ?_; refine gw_store (i := 0) rfl rfl rfl (hcl _ _) (by decide) (hco _ _) ?_; rw [overlay_all (by rw [hcl]; rfl)]; refine T_nv ?_; refine T_hq ?_) | (refine T_pure rfl rfl ?_; refine pw_load (i := 0) rfl rfl (cellsVal_all (hcl _ _)) ?_; refine T_nv ?_) | (apply TC_seq) | (apply TC_region) | (apply TC_block) | (apply TC_skip) | (apply TC_exit) | (apply TC_cond_true; exact rfl) | (apply TC_cond_false; exact rfl) | (apply T_nil) | (apply En_then) | (apply En_then_exit) | (apply En_block_exit) | (apply T_bin; exact rfl; ((refine pw_lss rfl rfl (fun h => ?_) (fun h => ?_))) <;> (refine T_nv ?_)) | (refine T_pure rfl rfl ?_; ((refine pw_mv ?_)); refine T_nv ?_) | (refine T_gen rfl rfl ?_; ((refine gw_alloc clp (fun b => ?_))); refine T_nv ?_))
  · have hd : (xs.drop i).flatMap out = out xs[i] ++ (xs.drop (i + 1)).flatMap out := by rw [List.drop_eq_getElem_cons (show i < xs.length by omega), List.flatMap_cons]
    rw [hd, List.length_append] at hlen
    have hsub2 : ∀ p ∈ Unp.fs xs[i] y ++ Rx, p ∈ At b_ o (Unp.cs xs[i] y) :: (Unp.fs xs[i] y ++ R2) := fun p hp => List.mem_cons_of_mem _ (by
      rcases List.mem_append.1 hp with h | h
      · exact List.mem_append_left _ h
      · exact List.mem_append_right _ (hR2 _ (hsub _ (List.mem_cons_of_mem _ h))))
    refine T_weaken (.row v' 5 1 bs'.length (bytesV bs') :: .blk bw [v'] 95 :: H) _ (fun w hs => hs.weaken sbp (fun _ h => h)) ?_
    refine T_wrv rfl rfl rfl (hone xs[i] (List.getElem_mem _) y hy) hsub2 rfl rfl hb' (fun hle v3 => ?_) (fun hgt => ?_)
    · refine T_nv ?_
      repeat' (first | (apply TC_region) | (apply T_nil) | (apply En_then) | (apply En_block) | (apply T_bin; exact rfl; ((refine pw_add64 rfl rfl (by omega) (by omega) ?_)); refine T_nv ?_) | (refine T_pure rfl rfl ?_; ((refine pw_mv ?_)); refine T_nv ?_))
      refine En_backS (m - 1) _ R2 (by omega) sjp ⟨i + 1, bs' ++ out xs[i], v3, by omega, rfl, hR2, rfl, by rw [List.length_append]; exact hle, ?_⟩ (fun w hs => hs.weaken sbp (fun p hp => List.mem_cons_of_mem _ (List.mem_append_right _ hp)))
      rw [← HL.out, hd, List.append_assoc]
    · skip
      repeat' (first | (apply En_then_panic) | (apply En_block_panic))
      refine En_panicked (fin_P H R (fun w hs => hs.weaken sbp (fun p hp => List.mem_cons_of_mem _ (List.mem_append_right _ (hR2 p hp)))) (hp (by omega)))
  · have e := HL.out
    rw [List.drop_of_length_le (by omega), List.flatMap_nil, List.append_nil] at e
    rw [e] at hb' ⊢
    refine En_fin (.inr rfl) (res0 rfl) (fin_R _ R (fun w hs => hs.weaken sbp hR2) (hk (by rw [List.length_append, List.length_append] at hb'; exact hb') v'))
theorem put69_w {w0 : World} {α : Type} [Rep α] [Unp α] (hsz : Rep.size α = 7) (hcl : ∀ (x : α) y, (Unp.cs x y).length = 7) (hco : ∀ (x : α) y, ∀ u ∈ Unp.cs x y, u.oneCell' = true) (bw : Nat) (A : Option Addr) (c : Nat) (xs : List α) (f1 : FuncId) (first cap : List Value) [FnOk Try.prog f1] (out : α → List UInt8) (Rx : List MP) (hx : xs.length ≤ 9223372036854775807)
    (hone : ∀ x ∈ xs, ∀ y, Unp.ok x y → Wr Try.prog w0 (Unp.fs x y ++ Rx) f1 (first ++ [.agg (Unp.cs x y).toArray] ++ cap) bw (out x)) : Wr Try.prog w0 (Sl (.slice A xs.length c) xs :: Rx) 69 [.pointer (some ⟨bw, 0, none⟩), .slice A xs.length c, .func (.func f1) first.toArray cap.toArray] bw (numB xs.length ++ xs.flatMap out) := by
  intro H R K KP bs v hsub hb hk hp
  have hm : Sl (.slice A xs.length c) xs ∈ R := hsub _ (by simp)
  have hIx : InI (xs.length : Int) := by simp only [InI]; omega
  rw [List.length_append] at hk hp
  refine callsP_of Try.func69 rfl Try.ntmps69 nep ?_
  repeat' (first | (apply TC_seq) | (apply TC_region) | (refine T_pure rfl rfl ?_; ((first | refine pw_mv ?_ | refine pw_len rfl ?_)); refine T_nv ?_))
  refine T_wr rfl rfl (number_w bw xs.length hIx) (fun _ h => (by cases h)) rfl rfl hb (fun hle v2 => ?_) (fun hgt => ?_)
  rotate_left
  · skip
    repeat' ((apply En_then_panic))
    exact En_panicked (fin_P H R (fun w hs => hs) (hp (by omega)))
  refine T_nv ?_
  repeat' (first | (apply TC_seq) | (apply TC_region) | (apply TC_block) | (apply T_nil) | (apply En_then) | (refine T_pure rfl rfl ?_; ((first | refine pw_mv ?_ | refine pw_len rfl ?_)); refine T_nv ?_))
  refine TC_loopS [7, 14, 15, 16, 17, 18, 19, 20, 21] (fun m j H2 R2 => ∃ (i : Nat) (bs' : List UInt8) (v' : Value), i + m = xs.length ∧ j 14 = .int .i64 (i : Int) ∧ (∀ p ∈ R, p ∈ R2) ∧ H2 = .row v' 5 1 bs'.length (bytesV bs') :: .blk bw [v'] 95 :: H ∧ bs'.length ≤ 250000 ∧ bs' ++ (xs.drop i).flatMap out = bs ++ (numB xs.length ++ xs.flatMap out)) xs.length sjp ⟨0, bs ++ numB xs.length, v2, by omega, rfl, fun _ h => h, rfl, by rw [List.length_append]; exact hle, by rw [List.append_assoc]; rfl⟩ ?_
  rintro m j' H2 R2 ⟨i, bs', v', him, h14, hR2, hH2, hb', hle2⟩
  subst hH2
  have hm2 := hR2 _ hm
  refine TC_env (by simp only [setJ, List.foldl_cons, List.foldl_nil, List.set_cons_succ, List.set_cons_zero, h14]; rfl) ?_
  have hlen : bs'.length + ((xs.drop i).flatMap out).length = bs.length + ((numB xs.length).length + (xs.flatMap out).length) := by
    have := congrArg List.length hle2
    simpa only [List.length_append] using this
  have HL := Go.Lib.hid hle2
  clear hle2
  repeat' (first | (refine T_pure rfl rfl ?_; refine pw_indexU rfl rfl hm2 hsz (d := xs[i]) (by simp only [Int.toNat_natCast]; exact List.getElem?_eq_getElem (by omega)) (by omega) (fun b_ o y hy => ?_); refine T_nv ?_) | (refine T_pure rfl rfl ?_; refine pw_load_at0 rfl List.mem_cons_self (cellsVal_all (hcl _ _)) ?_; refine T_nv ?_) | (refine T_gen rfl rfl ?_; refine gw_store (i := 0) rfl rfl rfl (hcl _ _) (by decide) (hco _ _) ?_; rw [overlay_all (by rw [hcl]; rfl)]; refine T_nv ?_; refine T_hq ?_) | (refine T_pure rfl rfl ?_; refine pw_load (i := 0) rfl rfl (cellsVal_all (hcl _ _)) ?_; refine T_nv ?_) | (apply TC_seq) | (apply TC_region) | (apply TC_block) | (apply TC_skip) | (apply TC_exit) | (apply TC_cond_true; exact rfl) | (apply TC_cond_false; exact rfl) | (apply T_nil) | (apply En_then) | (apply En_then_exit) | (apply En_block_exit) | (apply T_bin; exact rfl; ((refine pw_lss rfl rfl (fun h => ?_) (fun h => ?_))) <;> (refine T_nv ?_)) | (refine T_pure rfl rfl ?_; ((refine pw_mv ?_)); refine T_nv ?_) | (refine T_gen rfl rfl ?_; ((refine gw_alloc clp (fun b => ?_))); refine T_nv ?_))
  · have hd : (xs.drop i).flatMap out = out xs[i] ++ (xs.drop (i + 1)).flatMap out := by rw [List.drop_eq_getElem_cons (show i < xs.length by omega), List.flatMap_cons]
    rw [hd, List.length_append] at hlen
    have hsub2 : ∀ p ∈ Unp.fs xs[i] y ++ Rx, p ∈ At b_ o (Unp.cs xs[i] y) :: (Unp.fs xs[i] y ++ R2) := fun p hp => List.mem_cons_of_mem _ (by
      rcases List.mem_append.1 hp with h | h
      · exact List.mem_append_left _ h
      · exact List.mem_append_right _ (hR2 _ (hsub _ (List.mem_cons_of_mem _ h))))
    refine T_weaken (.row v' 5 1 bs'.length (bytesV bs') :: .blk bw [v'] 95 :: H) _ (fun w hs => hs.weaken sbp (fun _ h => h)) ?_
    refine T_wrv rfl rfl rfl (hone xs[i] (List.getElem_mem _) y hy) hsub2 rfl rfl hb' (fun hle v3 => ?_) (fun hgt => ?_)
    · refine T_nv ?_
      repeat' (first | (apply TC_region) | (apply T_nil) | (apply En_then) | (apply En_block) | (apply T_bin; exact rfl; ((refine pw_add64 rfl rfl (by omega) (by omega) ?_)); refine T_nv ?_) | (refine T_pure rfl rfl ?_; ((refine pw_mv ?_)); refine T_nv ?_))
      refine En_backS (m - 1) _ R2 (by omega) sjp ⟨i + 1, bs' ++ out xs[i], v3, by omega, rfl, hR2, rfl, by rw [List.length_append]; exact hle, ?_⟩ (fun w hs => hs.weaken sbp (fun p hp => List.mem_cons_of_mem _ (List.mem_append_right _ hp)))
      rw [← HL.out, hd, List.append_assoc]
    · skip
      repeat' (first | (apply En_then_panic) | (apply En_block_panic))
      refine En_panicked (fin_P H R (fun w hs => hs.weaken sbp (fun p hp => List.mem_cons_of_mem _ (List.mem_append_right _ (hR2 p hp)))) (hp (by omega)))
  · have e := HL.out
    rw [List.drop_of_length_le (by omega), List.flatMap_nil, List.append_nil] at e
    rw [e] at hb' ⊢
    refine En_fin (.inr rfl) (res0 rfl) (fin_R _ R (fun w hs => hs.weaken sbp hR2) (hk (by rw [List.length_append, List.length_append] at hb'; exact hb') v'))
theorem put71_w {w0 : World} {α : Type} [Rep α] [Unp α] (hsz : Rep.size α = 7) (hcl : ∀ (x : α) y, (Unp.cs x y).length = 7) (hco : ∀ (x : α) y, ∀ u ∈ Unp.cs x y, u.oneCell' = true) (bw : Nat) (A : Option Addr) (c : Nat) (xs : List α) (f1 : FuncId) (first cap : List Value) [FnOk Try.prog f1] (out : α → List UInt8) (Rx : List MP) (hx : xs.length ≤ 9223372036854775807)
    (hone : ∀ x ∈ xs, ∀ y, Unp.ok x y → Wr Try.prog w0 (Unp.fs x y ++ Rx) f1 (first ++ [.agg (Unp.cs x y).toArray] ++ cap) bw (out x)) : Wr Try.prog w0 (Sl (.slice A xs.length c) xs :: Rx) 71 [.pointer (some ⟨bw, 0, none⟩), .slice A xs.length c, .func (.func f1) first.toArray cap.toArray] bw (numB xs.length ++ xs.flatMap out) := by
  intro H R K KP bs v hsub hb hk hp
  have hm : Sl (.slice A xs.length c) xs ∈ R := hsub _ (by simp)
  have hIx : InI (xs.length : Int) := by simp only [InI]; omega
  rw [List.length_append] at hk hp
  refine callsP_of Try.func71 rfl Try.ntmps71 nep ?_
  repeat' (first | (apply TC_seq) | (apply TC_region) | (refine T_pure rfl rfl ?_; ((first | refine pw_mv ?_ | refine pw_len rfl ?_)); refine T_nv ?_))
  refine T_wr rfl rfl (number_w bw xs.length hIx) (fun _ h => (by cases h)) rfl rfl hb (fun hle v2 => ?_) (fun hgt => ?_)
  rotate_left
  · skip
    repeat' ((apply En_then_panic))
    exact En_panicked (fin_P H R (fun w hs => hs) (hp (by omega)))
  refine T_nv ?_
  repeat' (first | (apply TC_seq) | (apply TC_region) | (apply TC_block) | (apply T_nil) | (apply En_then) | (refine T_pure rfl rfl ?_; ((first | refine pw_mv ?_ | refine pw_len rfl ?_)); refine T_nv ?_))
  refine TC_loopS [7, 14, 15, 16, 17, 18, 19, 20, 21] (fun m j H2 R2 => ∃ (i : Nat) (bs' : List UInt8) (v' : Value), i + m = xs.length ∧ j 14 = .int .i64 (i : Int) ∧ (∀ p ∈ R, p ∈ R2) ∧ H2 = .row v' 5 1 bs'.length (bytesV bs') :: .blk bw [v'] 95 :: H ∧ bs'.length ≤ 250000 ∧ bs' ++ (xs.drop i).flatMap out = bs ++ (numB xs.length ++ xs.flatMap out)) xs.length sjp ⟨0, bs ++ numB xs.length, v2, by omega, rfl, fun _ h => h, rfl, by rw [List.length_append]; exact hle, by rw [List.append_assoc]; rfl⟩ ?_
  rintro m j' H2 R2 ⟨i, bs', v', him, h14, hR2, hH2, hb', hle2⟩
  subst hH2
  have hm2 := hR2 _ hm
  refine TC_env (by simp only [setJ, List.foldl_cons, List.foldl_nil, List.set_cons_succ, List.set_cons_zero, h14]; rfl) ?_
  have hlen : bs'.length + ((xs.drop i).flatMap out).length = bs.length + ((numB xs.length).length + (xs.flatMap out).length) := by
    have := congrArg List.length hle2
    simpa only [List.length_append] using this
  have HL := Go.Lib.hid hle2
  clear hle2
  repeat' (first | (refine T_pure rfl rfl ?_; refine pw_indexU rfl rfl hm2 hsz (d := xs[i]) (by simp only [Int.toNat_natCast]; exact List.getElem?_eq_getElem (by omega)) (by omega) (fun b_ o y hy => ?_); refine T_nv ?_) | (refine T_pure rfl rfl ?_; refine pw_load_at0 rfl List.mem_cons_self (cellsVal_all (hcl _ _)) ?_; refine T_nv ?_) | (refine T_gen rfl rfl ?_; refine gw_store (i := 0) rfl rfl rfl (hcl _ _) (by decide) (hco _ _) ?_; rw [overlay_all (by rw [hcl]; rfl)]; refine T_nv ?_; refine T_hq ?_) | (refine T_pure rfl rfl ?_; refine pw_load (i := 0) rfl rfl (cellsVal_all (hcl _ _)) ?_; refine T_nv ?_) | (apply TC_seq) | (apply TC_region) | (apply TC_block) | (apply TC_skip) | (apply TC_exit) | (apply TC_cond_true; exact rfl) | (apply TC_cond_false; exact rfl) | (apply T_nil) | (apply En_then) | (apply En_then_exit) | (apply En_block_exit) | (apply T_bin; exact rfl; ((refine pw_lss rfl rfl (fun h => ?_) (fun h => ?_))) <;> (refine T_nv ?_)) | (refine T_pure rfl rfl ?_; ((refine pw_mv ?_)); refine T_nv ?_) | (refine T_gen rfl rfl ?_; ((refine gw_alloc clp (fun b => ?_))); refine T_nv ?_))
  · have hd : (xs.drop i).flatMap out = out xs[i] ++ (xs.drop (i + 1)).flatMap out := by rw [List.drop_eq_getElem_cons (show i < xs.length by omega), List.flatMap_cons]
    rw [hd, List.length_append] at hlen
    have hsub2 : ∀ p ∈ Unp.fs xs[i] y ++ Rx, p ∈ At b_ o (Unp.cs xs[i] y) :: (Unp.fs xs[i] y ++ R2) := fun p hp => List.mem_cons_of_mem _ (by
      rcases List.mem_append.1 hp with h | h
      · exact List.mem_append_left _ h
      · exact List.mem_append_right _ (hR2 _ (hsub _ (List.mem_cons_of_mem _ h))))
    refine T_weaken (.row v' 5 1 bs'.length (bytesV bs') :: .blk bw [v'] 95 :: H) _ (fun w hs => hs.weaken sbp (fun _ h => h)) ?_
    refine T_wrv rfl rfl rfl (hone xs[i] (List.getElem_mem _) y hy) hsub2 rfl rfl hb' (fun hle v3 => ?_) (fun hgt => ?_)
    · refine T_nv ?_
      repeat' (first | (apply TC_region) | (apply T_nil) | (apply En_then) | (apply En_block) | (apply T_bin; exact rfl; ((refine pw_add64 rfl rfl (by omega) (by omega) ?_)); refine T_nv ?_) | (refine T_pure rfl rfl ?_; ((refine pw_mv ?_)); refine T_nv ?_))
      refine En_backS (m - 1) _ R2 (by omega) sjp ⟨i + 1, bs' ++ out xs[i], v3, by omega, rfl, hR2, rfl, by rw [List.length_append]; exact hle, ?_⟩ (fun w hs => hs.weaken sbp (fun p hp => List.mem_cons_of_mem _ (List.mem_append_right _ hp)))
      rw [← HL.out, hd, List.append_assoc]
    · skip
      repeat' (first | (apply En_then_panic) | (apply En_block_panic))
      refine En_panicked (fin_P H R (fun w hs => hs.weaken sbp (fun p hp => List.mem_cons_of_mem _ (List.mem_append_right _ (hR2 p hp)))) (hp (by omega)))
  · have e := HL.out
    rw [List.drop_of_length_le (by omega), List.flatMap_nil, List.append_nil] at e
    rw [e] at hb' ⊢
    refine En_fin (.inr rfl) (res0 rfl) (fin_R _ R (fun w hs => hs.weaken sbp hR2) (hk (by rw [List.length_append, List.length_append] at hb'; exact hb') v'))
theorem put73_w {w0 : World} {α : Type} [Rep α] [Unp α] (hsz : Rep.size α = 8) (hcl : ∀ (x : α) y, (Unp.cs x y).length = 8) (hco : ∀ (x : α) y, ∀ u ∈ Unp.cs x y, u.oneCell' = true) (bw : Nat) (A : Option Addr) (c : Nat) (xs : List α) (f1 : FuncId) (first cap : List Value) [FnOk Try.prog f1] (out : α → List UInt8) (Rx : List MP) (hx : xs.length ≤ 9223372036854775807)
    (hone : ∀ x ∈ xs, ∀ y, Unp.ok x y → Wr Try.prog w0 (Unp.fs x y ++ Rx) f1 (first ++ [.agg (Unp.cs x y).toArray] ++ cap) bw (out x)) : Wr Try.prog w0 (Sl (.slice A xs.length c) xs :: Rx) 73 [.pointer (some ⟨bw, 0, none⟩), .slice A xs.length c, .func (.func f1) first.toArray cap.toArray] bw (numB xs.length ++ xs.flatMap out) := by
  intro H R K KP bs v hsub hb hk hp
  have hm : Sl (.slice A xs.length c) xs ∈ R := hsub _ (by simp)
  have hIx : InI (xs.length : Int) := by simp only [InI]; omega
  rw [List.length_append] at hk hp
  refine callsP_of Try.func73 rfl Try.ntmps73 nep ?_
  repeat' (first | (apply TC_seq) | (apply TC_region) | (refine T_pure rfl rfl ?_; ((first | refine pw_mv ?_ | refine pw_len rfl ?_)); refine T_nv ?_))
  refine T_wr rfl rfl (number_w bw xs.length hIx) (fun _ h => (by cases h)) rfl rfl hb (fun hle v2 => ?_) (fun hgt => ?_)
  rotate_left
  · skip
    repeat' ((apply En_then_panic))
    exact En_panicked (fin_P H R (fun w hs => hs) (hp (by omega)))
  refine T_nv ?_
  repeat' (first | (apply TC_seq) | (apply TC_region) | (apply TC_block) | (apply T_nil) | (apply En_then) | (refine T_pure rfl rfl ?_; ((first | refine pw_mv ?_ | refine pw_len rfl ?_)); refine T_nv ?_))
  refine TC_loopS [7, 14, 15, 16, 17, 18, 19, 20, 21] (fun m j H2 R2 => ∃ (i : Nat) (bs' : List UInt8) (v' : Value), i + m = xs.length ∧ j 14 = .int .i64 (i : Int) ∧ (∀ p ∈ R, p ∈ R2) ∧ H2 = .row v' 5 1 bs'.length (bytesV bs') :: .blk bw [v'] 95 :: H ∧ bs'.length ≤ 250000 ∧ bs' ++ (xs.drop i).flatMap out = bs ++ (numB xs.length ++ xs.flatMap out)) xs.length sjp ⟨0, bs ++ numB xs.length, v2, by omega, rfl, fun _ h => h, rfl, by rw [List.length_append]; exact hle, by rw [List.append_assoc]; rfl⟩ ?_
  rintro m j' H2 R2 ⟨i, bs', v', him, h14, hR2, hH2, hb', hle2⟩
  subst hH2
  have hm2 := hR2 _ hm
  refine TC_env (by simp only [setJ, List.foldl_cons, List.foldl_nil, List.set_cons_succ, List.set_cons_zero, h14]; rfl) ?_
  have hlen : bs'.length + ((xs.drop i).flatMap out).length = bs.length + ((numB xs.length).length + (xs.flatMap out).length) := by
    have := congrArg List.length hle2
    simpa only [List.length_append] using this
  have HL := Go.Lib.hid hle2
  clear hle2
  repeat' (first | (refine T_pure rfl rfl ?_; refine pw_indexU rfl rfl hm2 hsz (d := xs[i]) (by simp only [Int.toNat_natCast]; exact List.getElem?_eq_getElem (by omega)) (by omega) (fun b_ o y hy => ?_); refine T_nv ?_) | (refine T_pure rfl rfl ?_; refine pw_load_at0 rfl List.mem_cons_self (cellsVal_all (hcl _ _)) ?_; refine T_nv ?_) | (refine T_gen rfl rfl ?_; refine gw_store (i := 0) rfl rfl rfl (hcl _ _) (by decide) (hco _ _) ?_; rw [overlay_all (by rw [hcl]; rfl)]; refine T_nv ?_; refine T_hq ?_) | (refine T_pure rfl rfl ?_; refine pw_load (i := 0) rfl rfl (cellsVal_all (hcl _ _)) ?_; refine T_nv ?_) | (apply TC_seq) | (apply TC_region) | (apply TC_block) | (apply TC_skip) | (apply TC_exit) | (apply TC_cond_true; exact rfl) | (apply TC_cond_false; exact rfl) | (apply T_nil) | (apply En_then) | (apply En_then_exit) | (apply En_block_exit) | (apply T_bin; exact rfl; ((refine pw_lss rfl rfl (fun h => ?_) (fun h => ?_))) <;> (refine T_nv ?_)) | (refine T_pure rfl rfl ?_; ((refine pw_mv ?_)); refine T_nv ?_) | (refine T_gen rfl rfl ?_; ((refine gw_alloc clp (fun b => ?_))); refine T_nv ?_))
  · have hd : (xs.drop i).flatMap out = out xs[i] ++ (xs.drop (i + 1)).flatMap out := by rw [List.drop_eq_getElem_cons (show i < xs.length by omega), List.flatMap_cons]
    rw [hd, List.length_append] at hlen
    have hsub2 : ∀ p ∈ Unp.fs xs[i] y ++ Rx, p ∈ At b_ o (Unp.cs xs[i] y) :: (Unp.fs xs[i] y ++ R2) := fun p hp => List.mem_cons_of_mem _ (by
      rcases List.mem_append.1 hp with h | h
      · exact List.mem_append_left _ h
      · exact List.mem_append_right _ (hR2 _ (hsub _ (List.mem_cons_of_mem _ h))))
    refine T_weaken (.row v' 5 1 bs'.length (bytesV bs') :: .blk bw [v'] 95 :: H) _ (fun w hs => hs.weaken sbp (fun _ h => h)) ?_
    refine T_wrv rfl rfl rfl (hone xs[i] (List.getElem_mem _) y hy) hsub2 rfl rfl hb' (fun hle v3 => ?_) (fun hgt => ?_)
    · refine T_nv ?_
      repeat' (first | (apply TC_region) | (apply T_nil) | (apply En_then) | (apply En_block) | (apply T_bin; exact rfl; ((refine pw_add64 rfl rfl (by omega) (by omega) ?_)); refine T_nv ?_) | (refine T_pure rfl rfl ?_; ((refine pw_mv ?_)); refine T_nv ?_))
      refine En_backS (m - 1) _ R2 (by omega) sjp ⟨i + 1, bs' ++ out xs[i], v3, by omega, rfl, hR2, rfl, by rw [List.length_append]; exact hle, ?_⟩ (fun w hs => hs.weaken sbp (fun p hp => List.mem_cons_of_mem _ (List.mem_append_right _ hp)))
      rw [← HL.out, hd, List.append_assoc]
    · skip
      repeat' (first | (apply En_then_panic) | (apply En_block_panic))
      refine En_panicked (fin_P H R (fun w hs => hs.weaken sbp (fun p hp => List.mem_cons_of_mem _ (List.mem_append_right _ (hR2 p hp)))) (hp (by omega)))
  · have e := HL.out
    rw [List.drop_of_length_le (by omega), List.flatMap_nil, List.append_nil] at e
    rw [e] at hb' ⊢
    refine En_fin (.inr rfl) (res0 rfl) (fin_R _ R (fun w hs => hs.weaken sbp hR2) (hk (by rw [List.length_append, List.length_append] at hb'; exact hb') v'))
theorem put75_w {w0 : World} {α : Type} [Rep α] [Unp α] (hsz : Rep.size α = 9) (hcl : ∀ (x : α) y, (Unp.cs x y).length = 9) (hco : ∀ (x : α) y, ∀ u ∈ Unp.cs x y, u.oneCell' = true) (bw : Nat) (A : Option Addr) (c : Nat) (xs : List α) (f1 : FuncId) (first cap : List Value) [FnOk Try.prog f1] (out : α → List UInt8) (Rx : List MP) (hx : xs.length ≤ 9223372036854775807)
    (hone : ∀ x ∈ xs, ∀ y, Unp.ok x y → Wr Try.prog w0 (Unp.fs x y ++ Rx) f1 (first ++ [.agg (Unp.cs x y).toArray] ++ cap) bw (out x)) : Wr Try.prog w0 (Sl (.slice A xs.length c) xs :: Rx) 75 [.pointer (some ⟨bw, 0, none⟩), .slice A xs.length c, .func (.func f1) first.toArray cap.toArray] bw (numB xs.length ++ xs.flatMap out) := by
  intro H R K KP bs v hsub hb hk hp
  have hm : Sl (.slice A xs.length c) xs ∈ R := hsub _ (by simp)
  have hIx : InI (xs.length : Int) := by simp only [InI]; omega
  rw [List.length_append] at hk hp
  refine callsP_of Try.func75 rfl Try.ntmps75 nep ?_
  repeat' (first | (apply TC_seq) | (apply TC_region) | (refine T_pure rfl rfl ?_; ((first | refine pw_mv ?_ | refine pw_len rfl ?_)); refine T_nv ?_))
  refine T_wr rfl rfl (number_w bw xs.length hIx) (fun _ h => (by cases h)) rfl rfl hb (fun hle v2 => ?_) (fun hgt => ?_)
  rotate_left
  · skip
    repeat' ((apply En_then_panic))
    exact En_panicked (fin_P H R (fun w hs => hs) (hp (by omega)))
  refine T_nv ?_
  repeat' (first | (apply TC_seq) | (apply TC_region) | (apply TC_block) | (apply T_nil) | (apply En_then) | (refine T_pure rfl rfl ?_; ((first | refine pw_mv ?_ | refine pw_len rfl ?_)); refine T_nv ?_))
  refine TC_loopS [7, 14, 15, 16, 17, 18, 19, 20, 21] (fun m j H2 R2 => ∃ (i : Nat) (bs' : List UInt8) (v' : Value), i + m = xs.length ∧ j 14 = .int .i64 (i : Int) ∧ (∀ p ∈ R, p ∈ R2) ∧ H2 = .row v' 5 1 bs'.length (bytesV bs') :: .blk bw [v'] 95 :: H ∧ bs'.length ≤ 250000 ∧ bs' ++ (xs.drop i).flatMap out = bs ++ (numB xs.length ++ xs.flatMap out)) xs.length sjp ⟨0, bs ++ numB xs.length, v2, by omega, rfl, fun _ h => h, rfl, by rw [List.length_append]; exact hle, by rw [List.append_assoc]; rfl⟩ ?_
  rintro m j' H2 R2 ⟨i, bs', v', him, h14, hR2, hH2, hb', hle2⟩
  subst hH2
  have hm2 := hR2 _ hm
  refine TC_env (by simp only [setJ, List.foldl_cons, List.foldl_nil, List.set_cons_succ, List.set_cons_zero, h14]; rfl) ?_
  have hlen : bs'.length + ((xs.drop i).flatMap out).length = bs.length + ((numB xs.length).length + (xs.flatMap out).length) := by
    have := congrArg List.length hle2
    simpa only [List.length_append] using this
  have HL := Go.Lib.hid hle2
  clear hle2
  repeat' (first | (refine T_pure rfl rfl ?_; refine pw_indexU rfl rfl hm2 hsz (d := xs[i]) (by simp only [Int.toNat_natCast]; exact List.getElem?_eq_getElem (by omega)) (by omega) (fun b_ o y hy => ?_); refine T_nv ?_) | (refine T_pure rfl rfl ?_; refine pw_load_at0 rfl List.mem_cons_self (cellsVal_all (hcl _ _)) ?_; refine T_nv ?_) | (refine T_gen rfl rfl ?_; refine gw_store (i := 0) rfl rfl rfl (hcl _ _) (by decide) (hco _ _) ?_; rw [overlay_all (by rw [hcl]; rfl)]; refine T_nv ?_; refine T_hq ?_) | (refine T_pure rfl rfl ?_; refine pw_load (i := 0) rfl rfl (cellsVal_all (hcl _ _)) ?_; refine T_nv ?_) | (apply TC_seq) | (apply TC_region) | (apply TC_block) | (apply TC_skip) | (apply TC_exit) | (apply TC_cond_true; exact rfl) | (apply TC_cond_false; exact rfl) | (apply T_nil) | (apply En_then) | (apply En_then_exit) | (apply En_block_exit) | (apply T_bin; exact rfl; ((refine pw_lss rfl rfl (fun h => ?_) (fun h => ?_))) <;> (refine T_nv ?_)) | (refine T_pure rfl rfl ?_; ((refine pw_mv ?_)); refine T_nv ?_) | (refine T_gen rfl rfl ?_; ((refine gw_alloc clp (fun b => ?_))); refine T_nv ?_))
  · have hd : (xs.drop i).flatMap out = out xs[i] ++ (xs.drop (i + 1)).flatMap out := by rw [List.drop_eq_getElem_cons (show i < xs.length by omega), List.flatMap_cons]
    rw [hd, List.length_append] at hlen
    have hsub2 : ∀ p ∈ Unp.fs xs[i] y ++ Rx, p ∈ At b_ o (Unp.cs xs[i] y) :: (Unp.fs xs[i] y ++ R2) := fun p hp => List.mem_cons_of_mem _ (by
      rcases List.mem_append.1 hp with h | h
      · exact List.mem_append_left _ h
      · exact List.mem_append_right _ (hR2 _ (hsub _ (List.mem_cons_of_mem _ h))))
    refine T_weaken (.row v' 5 1 bs'.length (bytesV bs') :: .blk bw [v'] 95 :: H) _ (fun w hs => hs.weaken sbp (fun _ h => h)) ?_
    refine T_wrv rfl rfl rfl (hone xs[i] (List.getElem_mem _) y hy) hsub2 rfl rfl hb' (fun hle v3 => ?_) (fun hgt => ?_)
    · refine T_nv ?_
      repeat' (first | (apply TC_region) | (apply T_nil) | (apply En_then) | (apply En_block) | (apply T_bin; exact rfl; ((refine pw_add64 rfl rfl (by omega) (by omega) ?_)); refine T_nv ?_) | (refine T_pure rfl rfl ?_; ((refine pw_mv ?_)); refine T_nv ?_))
      refine En_backS (m - 1) _ R2 (by omega) sjp ⟨i + 1, bs' ++ out xs[i], v3, by omega, rfl, hR2, rfl, by rw [List.length_append]; exact hle, ?_⟩ (fun w hs => hs.weaken sbp (fun p hp => List.mem_cons_of_mem _ (List.mem_append_right _ hp)))
      rw [← HL.out, hd, List.append_assoc]
    · skip
      repeat' (first | (apply En_then_panic) | (apply En_block_panic))
      refine En_panicked (fin_P H R (fun w hs => hs.weaken sbp (fun p hp => List.mem_cons_of_mem _ (List.mem_append_right _ (hR2 p hp)))) (hp (by omega)))
  · have e := HL.out
    rw [List.drop_of_length_le (by omega), List.flatMap_nil, List.append_nil] at e
    rw [e] at hb' ⊢
    refine En_fin (.inr rfl) (res0 rfl) (fin_R _ R (fun w hs => hs.weaken sbp hR2) (hk (by rw [List.length_append, List.length_append] at hb'; exact hb') v'))
end Go.Proofs.Ytggdljhmbckpmaa
