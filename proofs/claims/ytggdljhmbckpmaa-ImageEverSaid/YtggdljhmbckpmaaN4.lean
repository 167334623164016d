/- Decode: lists read: walks, printed by gen_get.py. -/
import Derived.Test.YtggdljhmbckpmaaN2J
set_option linter.unusedVariables false
set_option linter.unusedSimpArgs false
namespace Go.Proofs.Ytggdljhmbckpmaa
open Go Go.RowKit
set_option maxRecDepth 100000
set_option maxHeartbeats 1600000

abbrev lsV {α : Type} (l : List α) (y : Option Addr × Nat) : Value := .slice y.1 l.length y.2
def accG {α : Type} (d : Dc α) (l : List α) (k : Nat) : Dc (List α) := fun a => match listG d k a with
  | .error e => .error e
  | .ok (l', a') => .ok (l ++ l', a')
theorem accG_nil {α : Type} (d : Dc α) (k a : Nat) : accG d [] k a = listG d k a := by
  unfold accG
  cases listG d k a <;> rfl
theorem accG_step {α : Type} {d : Dc α} {l : List α} {x : α} {k a a2 : Nat} (h : d a = .ok (x, a2)) : accG d l (k + 1) a = accG d (l ++ [x]) k a2 := by
  simp only [accG, listG, h]
  cases listG d k a2 <;> simp
theorem accG_er {α : Type} {d : Dc α} {l : List α} {k a e : Nat} (h : d a = .error e) : accG d l (k + 1) a = .error e := by
  simp only [accG, listG, h]
theorem accG_end {α : Type} {d : Dc α} {l : List α} {a : Nat} : accG d l 0 a = .ok (l, a) := by
  simp [accG, listG]
theorem Sl_bound {α : Type} [Rep α] {w0 w : World} {H : List Hp} {R : List MP} {A : Option Addr} {n c : Nat} {xs : List α} (h : S w0 w H R) (hm : Sl (.slice A n c) xs ∈ R) : xs.length ≤ c ∧ c ≤ maxL := by
  obtain ⟨A', c', e, h1⟩ := Sl_shape h hm
  injection e with _ _ e3
  rw [e3]; exact h1
theorem get113_r {w0 : World} {α : Type} [Rep α] [Unp α] [UnpL α] (hsz : Rep.size α = 4) (br : Nat) (A : Option Addr) (c : Nat) (xs : List UInt8) (hx : xs.length ≤ 250000) (f1 : FuncId) (first : List Value) [FnOk Try.prog f1] (m : Nat) (d : Dc α) (val : α → Unp.Y α → Value) (hval : ∀ x y, (val x y).cells = (Unp.cs x y).toArray) (hone : Rr Try.prog w0 f1 first br A c xs (m + 1) d val) : Rr Try.prog w0 113 [.pointer (some ⟨br, 0, none⟩), .func (.func f1) first.toArray #[]] br A c xs m (listD xs d) lsV := by
  intro H R K KP a hma hax hm hk hp
  refine callsP_of Try.func113 rfl Try.ntmps113 nep ?_
  repeat' (first | (apply TC_seq) | (apply TC_region) | (apply T_nil) | (apply En_then) | (refine T_pure rfl rfl ?_; ((first | refine pw_mv ?_ | refine pw_as ?_)); refine T_nv ?_))
  refine T_lenr rfl rfl hx hax hm (fun n a1 hn h1 h2 => ?_) (fun e he => ?_)
  rotate_left
  · skip
    repeat' ((apply En_then_panic))
    exact En_panicked (fin_P H R (fun w hs => hs) (hp e (by unfold listD; rw [he])))
  refine T_nv ?_
  repeat' (first | (apply TC_block) | (apply T_nil) | (apply En_then) | (refine T_pure rfl rfl ?_; ((refine pw_mv ?_)); refine T_nv ?_))
  refine TC_weaken (.blk br [.slice A xs.length c, .int .i64 (a1 : Int)] 104 :: .row (.slice none 0 0) 157 4 0 [] :: H) (Cx [] ([] : List α) :: R) (fun w hs => ((hs.nilrow 157 4).perm (List.Perm.swap _ _ _)).learn (Cx [] ([] : List α)) (fun s _ => Cx_nil s)) ?_
  refine TC_loopS [4, 7, 8, 9, 10, 11, 12, 13, 14] (fun k j H2 R2 => ∃ (i a' : Nat) (v : Value) (cs : List Value) (l : List α), i + k = n ∧ j 7 = .int .i64 (i : Int) ∧ j 4 = v ∧ (∀ p ∈ R, p ∈ R2) ∧ Cx cs l ∈ R2 ∧ H2 = .blk br [.slice A xs.length c, .int .i64 (a' : Int)] 104 :: .row v 157 4 i cs :: H ∧ a1 ≤ a' ∧ a' ≤ xs.length ∧ accG d l k a' = listG d n a1) n sjp ⟨0, a1, .slice none 0 0, [], [], by omega, rfl, rfl, (fun _ h => List.mem_cons_of_mem _ h), List.mem_cons_self, rfl, Nat.le_refl _, by omega, accG_nil d n a1⟩ ?_
  rintro k j' H2 R2 ⟨i, a', v, cs, l, hik, h7, h4, hR2, hcx, hH2, haa, ha', hacc⟩
  subst hH2
  have hmx := hR2 _ hm
  refine TC_env (by simp only [setJ, List.foldl_cons, List.foldl_nil, List.set_cons_succ, List.set_cons_zero, h7, h4]; rfl) ?_
  rcases Nat.lt_or_ge i n with hlt | hge
  · obtain ⟨k', rfl⟩ : ∃ k', k = k' + 1 := ⟨k - 1, by omega⟩
    repeat' (first | (apply TC_seq) | (apply TC_region) | (apply TC_block) | (apply TC_skip) | (apply TC_cond_true; exact rfl) | (apply T_nil) | (apply En_then) | (apply T_bin; exact rfl; ((refine pw_lss rfl rfl (fun h => ?_) (fun h => ?_))) <;> (first | (exfalso; omega) | refine T_nv ?_)) | (refine T_pure rfl rfl ?_; ((refine pw_mv ?_)); refine T_nv ?_))
    refine T_rdv (L1 := first) (L2 := []) rfl rfl (by simp) hone (by omega) ha' hmx (fun x a2 y hd h3 h4 hok => ?_) (fun e he => ?_)
    rotate_left
    · skip
      repeat' (first | (apply En_then_panic) | (apply En_block_panic))
      exact En_panicked (fin_P H R (fun w hs => hs.weaken sbp hR2) (hp e (by unfold listD; rw [hn]; simp only; rw [← hacc]; exact accG_er he)))
    refine T_nv ?_
    refine T_gen rfl rfl ?_
    refine gw_build1 (cs := Unp.cs x y) (by decide) (hval x y) (by rw [UnpL.len, hsz]) (fun b => ?_)
    refine T_nv ?_
    refine T_gen rfl rfl ?_
    refine gw_append_blk 2 0 (news := Unp.cs x y) rfl rfl rfl rfl (by decide) (by rw [UnpL.len, hsz]) (UnpL.one x y) (by omega) (by omega) (fun v' => ?_)
    refine T_nv ?_
    refine T_learn (Cx (cs ++ Unp.cs x y) (l ++ [x])) (fun s hR => Cx_snoc (hR (Cx cs l) (List.mem_append_right _ hcx)) (Unp.re hok (fun p hp => hR p (List.mem_append_left _ hp)))) ?_
    refine T_weaken (.blk br [.slice A xs.length c, .int .i64 (a2 : Int)] 104 :: .row v' 157 4 (i + 1) (cs ++ Unp.cs x y) :: H) (Cx (cs ++ Unp.cs x y) (l ++ [x]) :: R) (fun w hs => hs.weaken (List.Sublist.cons _ (List.Sublist.refl _)) (sub_cons List.mem_cons_self (fun p hp => List.mem_cons_of_mem _ (List.mem_append_right _ (hR2 p hp))))) ?_
    repeat' (first | (apply TC_region) | (apply T_nil) | (apply En_then) | (apply En_block) | (apply T_bin; exact rfl; ((refine pw_add64 rfl rfl (by omega) (by omega) ?_)); refine T_nv ?_) | (refine T_pure rfl rfl ?_; ((first | refine pw_mv ?_ | refine pw_as ?_)); refine T_nv ?_))
    exact En_backS k' _ (Cx (cs ++ Unp.cs x y) (l ++ [x]) :: R) (by omega) sjp ⟨i + 1, a2, v', cs ++ Unp.cs x y, l ++ [x], by omega, rfl, rfl, (fun _ h => List.mem_cons_of_mem _ h), List.mem_cons_self, rfl, by omega, h4, by rw [← hacc]; exact (accG_step hd).symm⟩ (fun w hs => hs)
  · obtain rfl : k = 0 := by omega
    repeat' (first | (apply TC_seq) | (apply TC_region) | (apply TC_ret) | (apply TC_exit) | (apply TC_cond_false; exact rfl) | (apply T_nil) | (apply En_then) | (apply En_then_exit) | (apply En_block_exit) | (apply T_bin; exact rfl; ((refine pw_lss rfl rfl (fun h => ?_) (fun h => ?_))) <;> (first | (exfalso; omega) | refine T_nv ?_)) | (refine T_pure rfl rfl ?_; ((first | refine pw_mv ?_ | refine pw_as ?_)); refine T_nv ?_))
    refine En_stays' 1 rfl hsz (by decide) hcx (fun A' c' hv => ?_)
    refine En_fact (fun w hs => Sl_bound hs List.mem_cons_self) (fun hb => ?_)
    refine En_fin (.inl rfl) (res1 rfl (rv_tmp (v := .slice A' l.length c') (by rw [← hv]; rfl))) (fin_R _ (Sl (.slice A' l.length c') l :: R) (fun w hs => hs.weaken (List.Sublist.refl _) (sub_cons List.mem_cons_self (fun p hp => List.mem_cons_of_mem _ (hR2 p hp)))) ?_)
    exact hk l a' (A', c') (by unfold listD; rw [hn]; simp only; rw [← hacc, accG_end]) (by omega) ha' hb
theorem get123_r {w0 : World} {α : Type} [Rep α] [Unp α] [UnpL α] (hsz : Rep.size α = 2) (br : Nat) (A : Option Addr) (c : Nat) (xs : List UInt8) (hx : xs.length ≤ 250000) (f1 : FuncId) (first : List Value) [FnOk Try.prog f1] (m : Nat) (d : Dc α) (val : α → Unp.Y α → Value) (hval : ∀ x y, (val x y).cells = (Unp.cs x y).toArray) (hone : Rr Try.prog w0 f1 first br A c xs (m + 1) d val) : Rr Try.prog w0 123 [.pointer (some ⟨br, 0, none⟩), .func (.func f1) first.toArray #[]] br A c xs m (listD xs d) lsV := by
  intro H R K KP a hma hax hm hk hp
  refine callsP_of Try.func123 rfl Try.ntmps123 nep ?_
  repeat' (first | (apply TC_seq) | (apply TC_region) | (apply T_nil) | (apply En_then) | (refine T_pure rfl rfl ?_; ((first | refine pw_mv ?_ | refine pw_as ?_)); refine T_nv ?_))
  refine T_lenr rfl rfl hx hax hm (fun n a1 hn h1 h2 => ?_) (fun e he => ?_)
  rotate_left
  · skip
    repeat' ((apply En_then_panic))
    exact En_panicked (fin_P H R (fun w hs => hs) (hp e (by unfold listD; rw [he])))
  refine T_nv ?_
  repeat' (first | (apply TC_block) | (apply T_nil) | (apply En_then) | (refine T_pure rfl rfl ?_; ((refine pw_mv ?_)); refine T_nv ?_))
  refine TC_weaken (.blk br [.slice A xs.length c, .int .i64 (a1 : Int)] 104 :: .row (.slice none 0 0) 155 2 0 [] :: H) (Cx [] ([] : List α) :: R) (fun w hs => ((hs.nilrow 155 2).perm (List.Perm.swap _ _ _)).learn (Cx [] ([] : List α)) (fun s _ => Cx_nil s)) ?_
  refine TC_loopS [4, 7, 8, 9, 10, 11, 12, 13, 14] (fun k j H2 R2 => ∃ (i a' : Nat) (v : Value) (cs : List Value) (l : List α), i + k = n ∧ j 7 = .int .i64 (i : Int) ∧ j 4 = v ∧ (∀ p ∈ R, p ∈ R2) ∧ Cx cs l ∈ R2 ∧ H2 = .blk br [.slice A xs.length c, .int .i64 (a' : Int)] 104 :: .row v 155 2 i cs :: H ∧ a1 ≤ a' ∧ a' ≤ xs.length ∧ accG d l k a' = listG d n a1) n sjp ⟨0, a1, .slice none 0 0, [], [], by omega, rfl, rfl, (fun _ h => List.mem_cons_of_mem _ h), List.mem_cons_self, rfl, Nat.le_refl _, by omega, accG_nil d n a1⟩ ?_
  rintro k j' H2 R2 ⟨i, a', v, cs, l, hik, h7, h4, hR2, hcx, hH2, haa, ha', hacc⟩
  subst hH2
  have hmx := hR2 _ hm
  refine TC_env (by simp only [setJ, List.foldl_cons, List.foldl_nil, List.set_cons_succ, List.set_cons_zero, h7, h4]; rfl) ?_
  rcases Nat.lt_or_ge i n with hlt | hge
  · obtain ⟨k', rfl⟩ : ∃ k', k = k' + 1 := ⟨k - 1, by omega⟩
    repeat' (first | (apply TC_seq) | (apply TC_region) | (apply TC_block) | (apply TC_skip) | (apply TC_cond_true; exact rfl) | (apply T_nil) | (apply En_then) | (apply T_bin; exact rfl; ((refine pw_lss rfl rfl (fun h => ?_) (fun h => ?_))) <;> (first | (exfalso; omega) | refine T_nv ?_)) | (refine T_pure rfl rfl ?_; ((refine pw_mv ?_)); refine T_nv ?_))
    refine T_rdv (L1 := first) (L2 := []) rfl rfl (by simp) hone (by omega) ha' hmx (fun x a2 y hd h3 h4 hok => ?_) (fun e he => ?_)
    rotate_left
    · skip
      repeat' (first | (apply En_then_panic) | (apply En_block_panic))
      exact En_panicked (fin_P H R (fun w hs => hs.weaken sbp hR2) (hp e (by unfold listD; rw [hn]; simp only; rw [← hacc]; exact accG_er he)))
    refine T_nv ?_
    refine T_gen rfl rfl ?_
    refine gw_build1 (cs := Unp.cs x y) (by decide) (hval x y) (by rw [UnpL.len, hsz]) (fun b => ?_)
    refine T_nv ?_
    refine T_gen rfl rfl ?_
    refine gw_append_blk 2 0 (news := Unp.cs x y) rfl rfl rfl rfl (by decide) (by rw [UnpL.len, hsz]) (UnpL.one x y) (by omega) (by omega) (fun v' => ?_)
    refine T_nv ?_
    refine T_learn (Cx (cs ++ Unp.cs x y) (l ++ [x])) (fun s hR => Cx_snoc (hR (Cx cs l) (List.mem_append_right _ hcx)) (Unp.re hok (fun p hp => hR p (List.mem_append_left _ hp)))) ?_
    refine T_weaken (.blk br [.slice A xs.length c, .int .i64 (a2 : Int)] 104 :: .row v' 155 2 (i + 1) (cs ++ Unp.cs x y) :: H) (Cx (cs ++ Unp.cs x y) (l ++ [x]) :: R) (fun w hs => hs.weaken (List.Sublist.cons _ (List.Sublist.refl _)) (sub_cons List.mem_cons_self (fun p hp => List.mem_cons_of_mem _ (List.mem_append_right _ (hR2 p hp))))) ?_
    repeat' (first | (apply TC_region) | (apply T_nil) | (apply En_then) | (apply En_block) | (apply T_bin; exact rfl; ((refine pw_add64 rfl rfl (by omega) (by omega) ?_)); refine T_nv ?_) | (refine T_pure rfl rfl ?_; ((first | refine pw_mv ?_ | refine pw_as ?_)); refine T_nv ?_))
    exact En_backS k' _ (Cx (cs ++ Unp.cs x y) (l ++ [x]) :: R) (by omega) sjp ⟨i + 1, a2, v', cs ++ Unp.cs x y, l ++ [x], by omega, rfl, rfl, (fun _ h => List.mem_cons_of_mem _ h), List.mem_cons_self, rfl, by omega, h4, by rw [← hacc]; exact (accG_step hd).symm⟩ (fun w hs => hs)
  · obtain rfl : k = 0 := by omega
    repeat' (first | (apply TC_seq) | (apply TC_region) | (apply TC_ret) | (apply TC_exit) | (apply TC_cond_false; exact rfl) | (apply T_nil) | (apply En_then) | (apply En_then_exit) | (apply En_block_exit) | (apply T_bin; exact rfl; ((refine pw_lss rfl rfl (fun h => ?_) (fun h => ?_))) <;> (first | (exfalso; omega) | refine T_nv ?_)) | (refine T_pure rfl rfl ?_; ((first | refine pw_mv ?_ | refine pw_as ?_)); refine T_nv ?_))
    refine En_stays' 1 rfl hsz (by decide) hcx (fun A' c' hv => ?_)
    refine En_fact (fun w hs => Sl_bound hs List.mem_cons_self) (fun hb => ?_)
    refine En_fin (.inl rfl) (res1 rfl (rv_tmp (v := .slice A' l.length c') (by rw [← hv]; rfl))) (fin_R _ (Sl (.slice A' l.length c') l :: R) (fun w hs => hs.weaken (List.Sublist.refl _) (sub_cons List.mem_cons_self (fun p hp => List.mem_cons_of_mem _ (hR2 p hp)))) ?_)
    exact hk l a' (A', c') (by unfold listD; rw [hn]; simp only; rw [← hacc, accG_end]) (by omega) ha' hb
theorem get117_r {w0 : World} {α : Type} [Rep α] [Unp α] [UnpL α] (hsz : Rep.size α = 3) (br : Nat) (A : Option Addr) (c : Nat) (xs : List UInt8) (hx : xs.length ≤ 250000) (f1 : FuncId) (first : List Value) [FnOk Try.prog f1] (m : Nat) (d : Dc α) (val : α → Unp.Y α → Value) (hval : ∀ x y, (val x y).cells = (Unp.cs x y).toArray) (hone : Rr Try.prog w0 f1 first br A c xs (m + 1) d val) : Rr Try.prog w0 117 [.pointer (some ⟨br, 0, none⟩), .func (.func f1) first.toArray #[]] br A c xs m (listD xs d) lsV := by
  intro H R K KP a hma hax hm hk hp
  refine callsP_of Try.func117 rfl Try.ntmps117 nep ?_
  repeat' (first | (apply TC_seq) | (apply TC_region) | (apply T_nil) | (apply En_then) | (refine T_pure rfl rfl ?_; ((first | refine pw_mv ?_ | refine pw_as ?_)); refine T_nv ?_))
  refine T_lenr rfl rfl hx hax hm (fun n a1 hn h1 h2 => ?_) (fun e he => ?_)
  rotate_left
  · skip
    repeat' ((apply En_then_panic))
    exact En_panicked (fin_P H R (fun w hs => hs) (hp e (by unfold listD; rw [he])))
  refine T_nv ?_
  repeat' (first | (apply TC_block) | (apply T_nil) | (apply En_then) | (refine T_pure rfl rfl ?_; ((refine pw_mv ?_)); refine T_nv ?_))
  refine TC_weaken (.blk br [.slice A xs.length c, .int .i64 (a1 : Int)] 104 :: .row (.slice none 0 0) 203 3 0 [] :: H) (Cx [] ([] : List α) :: R) (fun w hs => ((hs.nilrow 203 3).perm (List.Perm.swap _ _ _)).learn (Cx [] ([] : List α)) (fun s _ => Cx_nil s)) ?_
  refine TC_loopS [4, 7, 8, 9, 10, 11, 12, 13, 14] (fun k j H2 R2 => ∃ (i a' : Nat) (v : Value) (cs : List Value) (l : List α), i + k = n ∧ j 7 = .int .i64 (i : Int) ∧ j 4 = v ∧ (∀ p ∈ R, p ∈ R2) ∧ Cx cs l ∈ R2 ∧ H2 = .blk br [.slice A xs.length c, .int .i64 (a' : Int)] 104 :: .row v 203 3 i cs :: H ∧ a1 ≤ a' ∧ a' ≤ xs.length ∧ accG d l k a' = listG d n a1) n sjp ⟨0, a1, .slice none 0 0, [], [], by omega, rfl, rfl, (fun _ h => List.mem_cons_of_mem _ h), List.mem_cons_self, rfl, Nat.le_refl _, by omega, accG_nil d n a1⟩ ?_
  rintro k j' H2 R2 ⟨i, a', v, cs, l, hik, h7, h4, hR2, hcx, hH2, haa, ha', hacc⟩
  subst hH2
  have hmx := hR2 _ hm
  refine TC_env (by simp only [setJ, List.foldl_cons, List.foldl_nil, List.set_cons_succ, List.set_cons_zero, h7, h4]; rfl) ?_
  rcases Nat.lt_or_ge i n with hlt | hge
  · obtain ⟨k', rfl⟩ : ∃ k', k = k' + 1 := ⟨k - 1, by omega⟩
    repeat' (first | (apply TC_seq) | (apply TC_region) | (apply TC_block) | (apply TC_skip) | (apply TC_cond_true; exact rfl) | (apply T_nil) | (apply En_then) | (apply T_bin; exact rfl; ((refine pw_lss rfl rfl (fun h => ?_) (fun h => ?_))) <;> (first | (exfalso; omega) | refine T_nv ?_)) | (refine T_pure rfl rfl ?_; ((refine pw_mv ?_)); refine T_nv ?_))
    refine T_rdv (L1 := first) (L2 := []) rfl rfl (by simp) hone (by omega) ha' hmx (fun x a2 y hd h3 h4 hok => ?_) (fun e he => ?_)
    rotate_left
    · skip
      repeat' (first | (apply En_then_panic) | (apply En_block_panic))
      exact En_panicked (fin_P H R (fun w hs => hs.weaken sbp hR2) (hp e (by unfold listD; rw [hn]; simp only; rw [← hacc]; exact accG_er he)))
    refine T_nv ?_
    refine T_gen rfl rfl ?_
    refine gw_build1 (cs := Unp.cs x y) (by decide) (hval x y) (by rw [UnpL.len, hsz]) (fun b => ?_)
    refine T_nv ?_
    refine T_gen rfl rfl ?_
    refine gw_append_blk 2 0 (news := Unp.cs x y) rfl rfl rfl rfl (by decide) (by rw [UnpL.len, hsz]) (UnpL.one x y) (by omega) (by omega) (fun v' => ?_)
    refine T_nv ?_
    refine T_learn (Cx (cs ++ Unp.cs x y) (l ++ [x])) (fun s hR => Cx_snoc (hR (Cx cs l) (List.mem_append_right _ hcx)) (Unp.re hok (fun p hp => hR p (List.mem_append_left _ hp)))) ?_
    refine T_weaken (.blk br [.slice A xs.length c, .int .i64 (a2 : Int)] 104 :: .row v' 203 3 (i + 1) (cs ++ Unp.cs x y) :: H) (Cx (cs ++ Unp.cs x y) (l ++ [x]) :: R) (fun w hs => hs.weaken (List.Sublist.cons _ (List.Sublist.refl _)) (sub_cons List.mem_cons_self (fun p hp => List.mem_cons_of_mem _ (List.mem_append_right _ (hR2 p hp))))) ?_
    repeat' (first | (apply TC_region) | (apply T_nil) | (apply En_then) | (apply En_block) | (apply T_bin; exact rfl; ((refine pw_add64 rfl rfl (by omega) (by omega) ?_)); refine T_nv ?_) | (refine T_pure rfl rfl ?_; ((first | refine pw_mv ?_ | refine pw_as ?_)); refine T_nv ?_))
    exact En_backS k' _ (Cx (cs ++ Unp.cs x y) (l ++ [x]) :: R) (by omega) sjp ⟨i + 1, a2, v', cs ++ Unp.cs x y, l ++ [x], by omega, rfl, rfl, (fun _ h => List.mem_cons_of_mem _ h), List.mem_cons_self, rfl, by omega, h4, by rw [← hacc]; exact (accG_step hd).symm⟩ (fun w hs => hs)
  · obtain rfl : k = 0 := by omega
    repeat' (first | (apply TC_seq) | (apply TC_region) | (apply TC_ret) | (apply TC_exit) | (apply TC_cond_false; exact rfl) | (apply T_nil) | (apply En_then) | (apply En_then_exit) | (apply En_block_exit) | (apply T_bin; exact rfl; ((refine pw_lss rfl rfl (fun h => ?_) (fun h => ?_))) <;> (first | (exfalso; omega) | refine T_nv ?_)) | (refine T_pure rfl rfl ?_; ((first | refine pw_mv ?_ | refine pw_as ?_)); refine T_nv ?_))
    refine En_stays' 1 rfl hsz (by decide) hcx (fun A' c' hv => ?_)
    refine En_fact (fun w hs => Sl_bound hs List.mem_cons_self) (fun hb => ?_)
    refine En_fin (.inl rfl) (res1 rfl (rv_tmp (v := .slice A' l.length c') (by rw [← hv]; rfl))) (fin_R _ (Sl (.slice A' l.length c') l :: R) (fun w hs => hs.weaken (List.Sublist.refl _) (sub_cons List.mem_cons_self (fun p hp => List.mem_cons_of_mem _ (hR2 p hp)))) ?_)
    exact hk l a' (A', c') (by unfold listD; rw [hn]; simp only; rw [← hacc, accG_end]) (by omega) ha' hb
theorem get111_r {w0 : World} {α : Type} [Rep α] [Unp α] [UnpL α] (hsz : Rep.size α = 1) (br : Nat) (A : Option Addr) (c : Nat) (xs : List UInt8) (hx : xs.length ≤ 250000) (f1 : FuncId) (first : List Value) [FnOk Try.prog f1] (m : Nat) (d : Dc α) (val : α → Unp.Y α → Value) (hval : ∀ x y, (val x y).cells = (Unp.cs x y).toArray) (hone : Rr Try.prog w0 f1 first br A c xs (m + 1) d val) : Rr Try.prog w0 111 [.pointer (some ⟨br, 0, none⟩), .func (.func f1) first.toArray #[]] br A c xs m (listD xs d) lsV := by
  intro H R K KP a hma hax hm hk hp
  refine callsP_of Try.func111 rfl Try.ntmps111 nep ?_
  repeat' (first | (apply TC_seq) | (apply TC_region) | (apply T_nil) | (apply En_then) | (refine T_pure rfl rfl ?_; ((first | refine pw_mv ?_ | refine pw_as ?_)); refine T_nv ?_))
  refine T_lenr rfl rfl hx hax hm (fun n a1 hn h1 h2 => ?_) (fun e he => ?_)
  rotate_left
  · skip
    repeat' ((apply En_then_panic))
    exact En_panicked (fin_P H R (fun w hs => hs) (hp e (by unfold listD; rw [he])))
  refine T_nv ?_
  repeat' (first | (apply TC_block) | (apply T_nil) | (apply En_then) | (refine T_pure rfl rfl ?_; ((refine pw_mv ?_)); refine T_nv ?_))
  refine TC_weaken (.blk br [.slice A xs.length c, .int .i64 (a1 : Int)] 104 :: .row (.slice none 0 0) 3 1 0 [] :: H) (Cx [] ([] : List α) :: R) (fun w hs => ((hs.nilrow 3 1).perm (List.Perm.swap _ _ _)).learn (Cx [] ([] : List α)) (fun s _ => Cx_nil s)) ?_
  refine TC_loopS [4, 7, 8, 9, 10, 11, 12, 13, 14] (fun k j H2 R2 => ∃ (i a' : Nat) (v : Value) (cs : List Value) (l : List α), i + k = n ∧ j 7 = .int .i64 (i : Int) ∧ j 4 = v ∧ (∀ p ∈ R, p ∈ R2) ∧ Cx cs l ∈ R2 ∧ H2 = .blk br [.slice A xs.length c, .int .i64 (a' : Int)] 104 :: .row v 3 1 i cs :: H ∧ a1 ≤ a' ∧ a' ≤ xs.length ∧ accG d l k a' = listG d n a1) n sjp ⟨0, a1, .slice none 0 0, [], [], by omega, rfl, rfl, (fun _ h => List.mem_cons_of_mem _ h), List.mem_cons_self, rfl, Nat.le_refl _, by omega, accG_nil d n a1⟩ ?_
  rintro k j' H2 R2 ⟨i, a', v, cs, l, hik, h7, h4, hR2, hcx, hH2, haa, ha', hacc⟩
  subst hH2
  have hmx := hR2 _ hm
  refine TC_env (by simp only [setJ, List.foldl_cons, List.foldl_nil, List.set_cons_succ, List.set_cons_zero, h7, h4]; rfl) ?_
  rcases Nat.lt_or_ge i n with hlt | hge
  · obtain ⟨k', rfl⟩ : ∃ k', k = k' + 1 := ⟨k - 1, by omega⟩
    repeat' (first | (apply TC_seq) | (apply TC_region) | (apply TC_block) | (apply TC_skip) | (apply TC_cond_true; exact rfl) | (apply T_nil) | (apply En_then) | (apply T_bin; exact rfl; ((refine pw_lss rfl rfl (fun h => ?_) (fun h => ?_))) <;> (first | (exfalso; omega) | refine T_nv ?_)) | (refine T_pure rfl rfl ?_; ((refine pw_mv ?_)); refine T_nv ?_))
    refine T_rdv (L1 := first) (L2 := []) rfl rfl (by simp) hone (by omega) ha' hmx (fun x a2 y hd h3 h4 hok => ?_) (fun e he => ?_)
    rotate_left
    · skip
      repeat' (first | (apply En_then_panic) | (apply En_block_panic))
      exact En_panicked (fin_P H R (fun w hs => hs.weaken sbp hR2) (hp e (by unfold listD; rw [hn]; simp only; rw [← hacc]; exact accG_er he)))
    refine T_nv ?_
    refine T_gen rfl rfl ?_
    refine gw_build1 (cs := Unp.cs x y) (by decide) (hval x y) (by rw [UnpL.len, hsz]) (fun b => ?_)
    refine T_nv ?_
    refine T_gen rfl rfl ?_
    refine gw_append_blk 2 0 (news := Unp.cs x y) rfl rfl rfl rfl (by decide) (by rw [UnpL.len, hsz]) (UnpL.one x y) (by omega) (by omega) (fun v' => ?_)
    refine T_nv ?_
    refine T_learn (Cx (cs ++ Unp.cs x y) (l ++ [x])) (fun s hR => Cx_snoc (hR (Cx cs l) (List.mem_append_right _ hcx)) (Unp.re hok (fun p hp => hR p (List.mem_append_left _ hp)))) ?_
    refine T_weaken (.blk br [.slice A xs.length c, .int .i64 (a2 : Int)] 104 :: .row v' 3 1 (i + 1) (cs ++ Unp.cs x y) :: H) (Cx (cs ++ Unp.cs x y) (l ++ [x]) :: R) (fun w hs => hs.weaken (List.Sublist.cons _ (List.Sublist.refl _)) (sub_cons List.mem_cons_self (fun p hp => List.mem_cons_of_mem _ (List.mem_append_right _ (hR2 p hp))))) ?_
    repeat' (first | (apply TC_region) | (apply T_nil) | (apply En_then) | (apply En_block) | (apply T_bin; exact rfl; ((refine pw_add64 rfl rfl (by omega) (by omega) ?_)); refine T_nv ?_) | (refine T_pure rfl rfl ?_; ((first | refine pw_mv ?_ | refine pw_as ?_)); refine T_nv ?_))
    exact En_backS k' _ (Cx (cs ++ Unp.cs x y) (l ++ [x]) :: R) (by omega) sjp ⟨i + 1, a2, v', cs ++ Unp.cs x y, l ++ [x], by omega, rfl, rfl, (fun _ h => List.mem_cons_of_mem _ h), List.mem_cons_self, rfl, by omega, h4, by rw [← hacc]; exact (accG_step hd).symm⟩ (fun w hs => hs)
  · obtain rfl : k = 0 := by omega
    repeat' (first | (apply TC_seq) | (apply TC_region) | (apply TC_ret) | (apply TC_exit) | (apply TC_cond_false; exact rfl) | (apply T_nil) | (apply En_then) | (apply En_then_exit) | (apply En_block_exit) | (apply T_bin; exact rfl; ((refine pw_lss rfl rfl (fun h => ?_) (fun h => ?_))) <;> (first | (exfalso; omega) | refine T_nv ?_)) | (refine T_pure rfl rfl ?_; ((first | refine pw_mv ?_ | refine pw_as ?_)); refine T_nv ?_))
    refine En_stays' 1 rfl hsz (by decide) hcx (fun A' c' hv => ?_)
    refine En_fact (fun w hs => Sl_bound hs List.mem_cons_self) (fun hb => ?_)
    refine En_fin (.inl rfl) (res1 rfl (rv_tmp (v := .slice A' l.length c') (by rw [← hv]; rfl))) (fin_R _ (Sl (.slice A' l.length c') l :: R) (fun w hs => hs.weaken (List.Sublist.refl _) (sub_cons List.mem_cons_self (fun p hp => List.mem_cons_of_mem _ (hR2 p hp)))) ?_)
    exact hk l a' (A', c') (by unfold listD; rw [hn]; simp only; rw [← hacc, accG_end]) (by omega) ha' hb
theorem get83_r {w0 : World} {α : Type} [Rep α] [Unp α] [UnpL α] (hsz : Rep.size α = 5) (br : Nat) (A : Option Addr) (c : Nat) (xs : List UInt8) (hx : xs.length ≤ 250000) (f1 : FuncId) (first : List Value) [FnOk Try.prog f1] (m : Nat) (d : Dc α) (val : α → Unp.Y α → Value) (hval : ∀ x y, (val x y).cells = (Unp.cs x y).toArray) (hone : Rr Try.prog w0 f1 first br A c xs (m + 1) d val) : Rr Try.prog w0 83 [.pointer (some ⟨br, 0, none⟩), .func (.func f1) first.toArray #[]] br A c xs m (listD xs d) lsV := by
  intro H R K KP a hma hax hm hk hp
  refine callsP_of Try.func83 rfl Try.ntmps83 nep ?_
  repeat' (first | (apply TC_seq) | (apply TC_region) | (apply T_nil) | (apply En_then) | (refine T_pure rfl rfl ?_; ((first | refine pw_mv ?_ | refine pw_as ?_)); refine T_nv ?_))
  refine T_lenr rfl rfl hx hax hm (fun n a1 hn h1 h2 => ?_) (fun e he => ?_)
  rotate_left
  · skip
    repeat' ((apply En_then_panic))
    exact En_panicked (fin_P H R (fun w hs => hs) (hp e (by unfold listD; rw [he])))
  refine T_nv ?_
  repeat' (first | (apply TC_block) | (apply T_nil) | (apply En_then) | (refine T_pure rfl rfl ?_; ((refine pw_mv ?_)); refine T_nv ?_))
  refine TC_weaken (.blk br [.slice A xs.length c, .int .i64 (a1 : Int)] 104 :: .row (.slice none 0 0) 140 5 0 [] :: H) (Cx [] ([] : List α) :: R) (fun w hs => ((hs.nilrow 140 5).perm (List.Perm.swap _ _ _)).learn (Cx [] ([] : List α)) (fun s _ => Cx_nil s)) ?_
  refine TC_loopS [4, 7, 8, 9, 10, 11, 12, 13, 14] (fun k j H2 R2 => ∃ (i a' : Nat) (v : Value) (cs : List Value) (l : List α), i + k = n ∧ j 7 = .int .i64 (i : Int) ∧ j 4 = v ∧ (∀ p ∈ R, p ∈ R2) ∧ Cx cs l ∈ R2 ∧ H2 = .blk br [.slice A xs.length c, .int .i64 (a' : Int)] 104 :: .row v 140 5 i cs :: H ∧ a1 ≤ a' ∧ a' ≤ xs.length ∧ accG d l k a' = listG d n a1) n sjp ⟨0, a1, .slice none 0 0, [], [], by omega, rfl, rfl, (fun _ h => List.mem_cons_of_mem _ h), List.mem_cons_self, rfl, Nat.le_refl _, by omega, accG_nil d n a1⟩ ?_
  rintro k j' H2 R2 ⟨i, a', v, cs, l, hik, h7, h4, hR2, hcx, hH2, haa, ha', hacc⟩
  subst hH2
  have hmx := hR2 _ hm
  refine TC_env (by simp only [setJ, List.foldl_cons, List.foldl_nil, List.set_cons_succ, List.set_cons_zero, h7, h4]; rfl) ?_
  rcases Nat.lt_or_ge i n with hlt | hge
  · obtain ⟨k', rfl⟩ : ∃ k', k = k' + 1 := ⟨k - 1, by omega⟩
    repeat' (first | (apply TC_seq) | (apply TC_region) | (apply TC_block) | (apply TC_skip) | (apply TC_cond_true; exact rfl) | (apply T_nil) | (apply En_then) | (apply T_bin; exact rfl; ((refine pw_lss rfl rfl (fun h => ?_) (fun h => ?_))) <;> (first | (exfalso; omega) | refine T_nv ?_)) | (refine T_pure rfl rfl ?_; ((refine pw_mv ?_)); refine T_nv ?_))
    refine T_rdv (L1 := first) (L2 := []) rfl rfl (by simp) hone (by omega) ha' hmx (fun x a2 y hd h3 h4 hok => ?_) (fun e he => ?_)
    rotate_left
    · skip
      repeat' (first | (apply En_then_panic) | (apply En_block_panic))
      exact En_panicked (fin_P H R (fun w hs => hs.weaken sbp hR2) (hp e (by unfold listD; rw [hn]; simp only; rw [← hacc]; exact accG_er he)))
    refine T_nv ?_
    refine T_gen rfl rfl ?_
    refine gw_build1 (cs := Unp.cs x y) (by decide) (hval x y) (by rw [UnpL.len, hsz]) (fun b => ?_)
    refine T_nv ?_
    refine T_gen rfl rfl ?_
    refine gw_append_blk 2 0 (news := Unp.cs x y) rfl rfl rfl rfl (by decide) (by rw [UnpL.len, hsz]) (UnpL.one x y) (by omega) (by omega) (fun v' => ?_)
    refine T_nv ?_
    refine T_learn (Cx (cs ++ Unp.cs x y) (l ++ [x])) (fun s hR => Cx_snoc (hR (Cx cs l) (List.mem_append_right _ hcx)) (Unp.re hok (fun p hp => hR p (List.mem_append_left _ hp)))) ?_
    refine T_weaken (.blk br [.slice A xs.length c, .int .i64 (a2 : Int)] 104 :: .row v' 140 5 (i + 1) (cs ++ Unp.cs x y) :: H) (Cx (cs ++ Unp.cs x y) (l ++ [x]) :: R) (fun w hs => hs.weaken (List.Sublist.cons _ (List.Sublist.refl _)) (sub_cons List.mem_cons_self (fun p hp => List.mem_cons_of_mem _ (List.mem_append_right _ (hR2 p hp))))) ?_
    repeat' (first | (apply TC_region) | (apply T_nil) | (apply En_then) | (apply En_block) | (apply T_bin; exact rfl; ((refine pw_add64 rfl rfl (by omega) (by omega) ?_)); refine T_nv ?_) | (refine T_pure rfl rfl ?_; ((first | refine pw_mv ?_ | refine pw_as ?_)); refine T_nv ?_))
    exact En_backS k' _ (Cx (cs ++ Unp.cs x y) (l ++ [x]) :: R) (by omega) sjp ⟨i + 1, a2, v', cs ++ Unp.cs x y, l ++ [x], by omega, rfl, rfl, (fun _ h => List.mem_cons_of_mem _ h), List.mem_cons_self, rfl, by omega, h4, by rw [← hacc]; exact (accG_step hd).symm⟩ (fun w hs => hs)
  · obtain rfl : k = 0 := by omega
    repeat' (first | (apply TC_seq) | (apply TC_region) | (apply TC_ret) | (apply TC_exit) | (apply TC_cond_false; exact rfl) | (apply T_nil) | (apply En_then) | (apply En_then_exit) | (apply En_block_exit) | (apply T_bin; exact rfl; ((refine pw_lss rfl rfl (fun h => ?_) (fun h => ?_))) <;> (first | (exfalso; omega) | refine T_nv ?_)) | (refine T_pure rfl rfl ?_; ((first | refine pw_mv ?_ | refine pw_as ?_)); refine T_nv ?_))
    refine En_stays' 1 rfl hsz (by decide) hcx (fun A' c' hv => ?_)
    refine En_fact (fun w hs => Sl_bound hs List.mem_cons_self) (fun hb => ?_)
    refine En_fin (.inl rfl) (res1 rfl (rv_tmp (v := .slice A' l.length c') (by rw [← hv]; rfl))) (fin_R _ (Sl (.slice A' l.length c') l :: R) (fun w hs => hs.weaken (List.Sublist.refl _) (sub_cons List.mem_cons_self (fun p hp => List.mem_cons_of_mem _ (hR2 p hp)))) ?_)
    exact hk l a' (A', c') (by unfold listD; rw [hn]; simp only; rw [← hacc, accG_end]) (by omega) ha' hb
end Go.Proofs.Ytggdljhmbckpmaa
