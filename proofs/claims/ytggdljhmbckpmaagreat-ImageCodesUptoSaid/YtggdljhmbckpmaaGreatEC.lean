/- Lists of structs written: walks, printed by gen_put.py. Lists of structs written: walks, printed by gen_put.py. Lists of numbers written: walks. A state written: walk, printed by gen_state.py. Encode of the zero state: walk. -/
import Derived.Test.YtggdljhmbckpmaaGreatEA
import Derived.Test.YtggdljhmbckpmaaGreatEB
set_option linter.unusedVariables false
set_option linter.unusedSimpArgs false
namespace Go.Proofs.YtggdljhmbckpmaaGreat
open Go Go.RowKit
set_option maxRecDepth 100000
set_option maxHeartbeats 800000

theorem aC6 {w0 : World} {α : Type} [Rep α] [Unp α] (hsz : Rep.size α = 5) (hcl : ∀ (x : α) y, (Unp.cs x y).length = 5) (hco : ∀ (x : α) y, ∀ u ∈ Unp.cs x y, u.oneCell' = true) (bw : Nat) (A : Option Addr) (c : Nat) (xs : List α) (f1 : FuncId) (first cap : List Value) [FnOk Tryz.prog f1] (out : α → List UInt8) (Rx : List MP) (hx : xs.length ≤ 9223372036854775807)
    (hone : ∀ x ∈ xs, ∀ y, Unp.ok x y → Wr Tryz.prog w0 (Unp.fs x y ++ Rx) f1 (first ++ [.agg (Unp.cs x y).toArray] ++ cap) bw (out x)) : Wr Tryz.prog w0 (Sl (.slice A xs.length c) xs :: Rx) 69 [.pointer (some ⟨bw, 0, none⟩), .slice A xs.length c, .func (.func f1) first.toArray cap.toArray] bw (cL xs.length ++ xs.flatMap out) := by
  intro H R K KP bs v hsub hb hk hp
  have hm : Sl (.slice A xs.length c) xs ∈ R := hsub _ (by simp)
  have hIx : dD (xs.length : Int) := by simp only [dD]; omega
  rw [List.length_append] at hk hp
  refine cP Tryz.func69 rfl Tryz.ntmps69 eZ ?_
  repeat' (first | (apply aF) | (apply aA) | (refine aE rfl rfl ?_; ((first | refine aH ?_ | refine bQ rfl ?_)); refine aB ?_))
  refine fB rfl rfl (fJ bw xs.length hIx) (fun _ h => (by cases h)) rfl rfl hb (fun hle v2 => ?_) (fun hgt => ?_)
  rotate_left
  · skip
    repeat' ((apply aL))
    exact aN (cH H R (fun w hs => hs) (hp (by omega)))
  refine aB ?_
  repeat' (first | (apply aF) | (apply aA) | (apply aT) | (apply aG) | (apply aD) | (refine aE rfl rfl ?_; ((first | refine aH ?_ | refine bQ rfl ?_)); refine aB ?_))
  refine cK [7, 14, 15, 16, 17, 18, 19, 20, 21] (fun m j H2 R2 => ∃ (i : Nat) (bs' : List UInt8) (v' : Value), i + m = xs.length ∧ j 14 = .int .i64 (i : Int) ∧ (∀ p ∈ R, p ∈ R2) ∧ H2 = .row v' 5 1 bs'.length (bA bs') :: .blk bw [v'] 85 :: H ∧ bs'.length ≤ 250000 ∧ bs' ++ (xs.drop i).flatMap out = bs ++ (cL xs.length ++ xs.flatMap out)) xs.length eE ⟨0, bs ++ cL xs.length, v2, by omega, rfl, fun _ h => h, rfl, by rw [List.length_append]; exact hle, by rw [List.append_assoc]; rfl⟩ ?_
  rintro m j' H2 R2 ⟨i, bs', v', him, h14, hR2, hH2, hb', hle2⟩
  subst hH2
  have hm2 := hR2 _ hm
  refine cQ (by simp only [dX, List.foldl_cons, List.foldl_nil, List.set_cons_succ, List.set_cons_zero, h14]; rfl) ?_
  have hlen : bs'.length + ((xs.drop i).flatMap out).length = bs.length + ((cL xs.length).length + (xs.flatMap out).length) := by
    have := congrArg List.length hle2
    simpa only [List.length_append] using this
  have HL := Go.Lib.hid hle2
  clear hle2
  repeat' (first | (refine aE rfl rfl ?_; refine dL rfl rfl hm2 hsz (d := xs[i]) (by simp only [Int.toNat_natCast]; exact List.getElem?_eq_getElem (by omega)) (by omega) (fun b_ o y hy => ?_); refine aB ?_) | (refine aE rfl rfl ?_; refine aZ rfl List.mem_cons_self (cN (hcl _ _)) ?_; refine aB ?_) | (refine bG rfl rfl ?_; refine aO (i := 0) rfl rfl rfl (hcl _ _) (by decide) (hco _ _) ?_; rw [eC (by rw [hcl]; rfl)]; refine aB ?_; refine cA ?_) | (refine aE rfl rfl ?_; refine aM (i := 0) rfl rfl (cN (hcl _ _)) ?_; refine aB ?_) | (apply aF) | (apply aA) | (apply aT) | (apply bE) | (apply bV) | (apply aK; exact rfl) | (apply aI; exact rfl) | (apply aG) | (apply aD) | (apply aS) | (apply aR) | (apply aU; exact rfl; ((refine bM rfl rfl (fun h => ?_) (fun h => ?_))) <;> (refine aB ?_)) | (refine aE rfl rfl ?_; ((refine aH ?_)); refine aB ?_) | (refine bG rfl rfl ?_; ((refine bK cW (fun b => ?_))); refine aB ?_))
  · have hd : (xs.drop i).flatMap out = out xs[i] ++ (xs.drop (i + 1)).flatMap out := by rw [List.drop_eq_getElem_cons (show i < xs.length by omega), List.flatMap_cons]
    rw [hd, List.length_append] at hlen
    have hsub2 : ∀ p ∈ Unp.fs xs[i] y ++ Rx, p ∈ At b_ o (Unp.cs xs[i] y) :: (Unp.fs xs[i] y ++ R2) := fun p hp => List.mem_cons_of_mem _ (by
      rcases List.mem_append.1 hp with h | h
      · exact List.mem_append_left _ h
      · exact List.mem_append_right _ (hR2 _ (hsub _ (List.mem_cons_of_mem _ h))))
    refine eF (.row v' 5 1 bs'.length (bA bs') :: .blk bw [v'] 85 :: H) _ (fun w hs => hs.weaken bU (fun _ h => h)) ?_
    refine nO rfl rfl rfl (hone xs[i] (List.getElem_mem _) y hy) hsub2 rfl rfl hb' (fun hle v3 => ?_) (fun hgt => ?_)
    · refine aB ?_
      repeat' (first | (apply aA) | (apply aG) | (apply aD) | (apply bP) | (apply aU; exact rfl; ((refine bI rfl rfl (by omega) (by omega) ?_)); refine aB ?_) | (refine aE rfl rfl ?_; ((refine aH ?_)); refine aB ?_))
      refine cE (m - 1) _ R2 (by omega) eE ⟨i + 1, bs' ++ out xs[i], v3, by omega, rfl, hR2, rfl, by rw [List.length_append]; exact hle, ?_⟩ (fun w hs => hs.weaken bU (fun p hp => List.mem_cons_of_mem _ (List.mem_append_right _ hp)))
      rw [← HL.out, hd, List.append_assoc]
    · skip
      repeat' (first | (apply aL) | (apply bY))
      refine aN (cH H R (fun w hs => hs.weaken bU (fun p hp => List.mem_cons_of_mem _ (List.mem_append_right _ (hR2 p hp)))) (hp (by omega)))
  · have e := HL.out
    rw [List.drop_of_length_le (by omega), List.flatMap_nil, List.append_nil] at e
    rw [e] at hb' ⊢
    refine bC (.inr rfl) (fV rfl) (eI _ R (fun w hs => hs.weaken bU hR2) (hk (by rw [List.length_append, List.length_append] at hb'; exact hb') v'))
theorem aA7 {w0 : World} {α : Type} [Rep α] [Unp α] (hsz : Rep.size α = 7) (hcl : ∀ (x : α) y, (Unp.cs x y).length = 7) (hco : ∀ (x : α) y, ∀ u ∈ Unp.cs x y, u.oneCell' = true) (bw : Nat) (A : Option Addr) (c : Nat) (xs : List α) (f1 : FuncId) (first cap : List Value) [FnOk Tryz.prog f1] (out : α → List UInt8) (Rx : List MP) (hx : xs.length ≤ 9223372036854775807)
    (hone : ∀ x ∈ xs, ∀ y, Unp.ok x y → Wr Tryz.prog w0 (Unp.fs x y ++ Rx) f1 (first ++ [.agg (Unp.cs x y).toArray] ++ cap) bw (out x)) : Wr Tryz.prog w0 (Sl (.slice A xs.length c) xs :: Rx) 71 [.pointer (some ⟨bw, 0, none⟩), .slice A xs.length c, .func (.func f1) first.toArray cap.toArray] bw (cL xs.length ++ xs.flatMap out) := by
  intro H R K KP bs v hsub hb hk hp
  have hm : Sl (.slice A xs.length c) xs ∈ R := hsub _ (by simp)
  have hIx : dD (xs.length : Int) := by simp only [dD]; omega
  rw [List.length_append] at hk hp
  refine cP Tryz.func71 rfl Tryz.ntmps71 eZ ?_
  repeat' (first | (apply aF) | (apply aA) | (refine aE rfl rfl ?_; ((first | refine aH ?_ | refine bQ rfl ?_)); refine aB ?_))
  refine fB rfl rfl (fJ bw xs.length hIx) (fun _ h => (by cases h)) rfl rfl hb (fun hle v2 => ?_) (fun hgt => ?_)
  rotate_left
  · skip
    repeat' ((apply aL))
    exact aN (cH H R (fun w hs => hs) (hp (by omega)))
  refine aB ?_
  repeat' (first | (apply aF) | (apply aA) | (apply aT) | (apply aG) | (apply aD) | (refine aE rfl rfl ?_; ((first | refine aH ?_ | refine bQ rfl ?_)); refine aB ?_))
  refine cK [7, 14, 15, 16, 17, 18, 19, 20, 21] (fun m j H2 R2 => ∃ (i : Nat) (bs' : List UInt8) (v' : Value), i + m = xs.length ∧ j 14 = .int .i64 (i : Int) ∧ (∀ p ∈ R, p ∈ R2) ∧ H2 = .row v' 5 1 bs'.length (bA bs') :: .blk bw [v'] 85 :: H ∧ bs'.length ≤ 250000 ∧ bs' ++ (xs.drop i).flatMap out = bs ++ (cL xs.length ++ xs.flatMap out)) xs.length eE ⟨0, bs ++ cL xs.length, v2, by omega, rfl, fun _ h => h, rfl, by rw [List.length_append]; exact hle, by rw [List.append_assoc]; rfl⟩ ?_
  rintro m j' H2 R2 ⟨i, bs', v', him, h14, hR2, hH2, hb', hle2⟩
  subst hH2
  have hm2 := hR2 _ hm
  refine cQ (by simp only [dX, List.foldl_cons, List.foldl_nil, List.set_cons_succ, List.set_cons_zero, h14]; rfl) ?_
  have hlen : bs'.length + ((xs.drop i).flatMap out).length = bs.length + ((cL xs.length).length + (xs.flatMap out).length) := by
    have := congrArg List.length hle2
    simpa only [List.length_append] using this
  have HL := Go.Lib.hid hle2
  clear hle2
  repeat' (first | (refine aE rfl rfl ?_; refine dL rfl rfl hm2 hsz (d := xs[i]) (by simp only [Int.toNat_natCast]; exact List.getElem?_eq_getElem (by omega)) (by omega) (fun b_ o y hy => ?_); refine aB ?_) | (refine aE rfl rfl ?_; refine aZ rfl List.mem_cons_self (cN (hcl _ _)) ?_; refine aB ?_) | (refine bG rfl rfl ?_; refine aO (i := 0) rfl rfl rfl (hcl _ _) (by decide) (hco _ _) ?_; rw [eC (by rw [hcl]; rfl)]; refine aB ?_; refine cA ?_) | (refine aE rfl rfl ?_; refine aM (i := 0) rfl rfl (cN (hcl _ _)) ?_; refine aB ?_) | (apply aF) | (apply aA) | (apply aT) | (apply bE) | (apply bV) | (apply aK; exact rfl) | (apply aI; exact rfl) | (apply aG) | (apply aD) | (apply aS) | (apply aR) | (apply aU; exact rfl; ((refine bM rfl rfl (fun h => ?_) (fun h => ?_))) <;> (refine aB ?_)) | (refine aE rfl rfl ?_; ((refine aH ?_)); refine aB ?_) | (refine bG rfl rfl ?_; ((refine bK cW (fun b => ?_))); refine aB ?_))
  · have hd : (xs.drop i).flatMap out = out xs[i] ++ (xs.drop (i + 1)).flatMap out := by rw [List.drop_eq_getElem_cons (show i < xs.length by omega), List.flatMap_cons]
    rw [hd, List.length_append] at hlen
    have hsub2 : ∀ p ∈ Unp.fs xs[i] y ++ Rx, p ∈ At b_ o (Unp.cs xs[i] y) :: (Unp.fs xs[i] y ++ R2) := fun p hp => List.mem_cons_of_mem _ (by
      rcases List.mem_append.1 hp with h | h
      · exact List.mem_append_left _ h
      · exact List.mem_append_right _ (hR2 _ (hsub _ (List.mem_cons_of_mem _ h))))
    refine eF (.row v' 5 1 bs'.length (bA bs') :: .blk bw [v'] 85 :: H) _ (fun w hs => hs.weaken bU (fun _ h => h)) ?_
    refine nO rfl rfl rfl (hone xs[i] (List.getElem_mem _) y hy) hsub2 rfl rfl hb' (fun hle v3 => ?_) (fun hgt => ?_)
    · refine aB ?_
      repeat' (first | (apply aA) | (apply aG) | (apply aD) | (apply bP) | (apply aU; exact rfl; ((refine bI rfl rfl (by omega) (by omega) ?_)); refine aB ?_) | (refine aE rfl rfl ?_; ((refine aH ?_)); refine aB ?_))
      refine cE (m - 1) _ R2 (by omega) eE ⟨i + 1, bs' ++ out xs[i], v3, by omega, rfl, hR2, rfl, by rw [List.length_append]; exact hle, ?_⟩ (fun w hs => hs.weaken bU (fun p hp => List.mem_cons_of_mem _ (List.mem_append_right _ hp)))
      rw [← HL.out, hd, List.append_assoc]
    · skip
      repeat' (first | (apply aL) | (apply bY))
      refine aN (cH H R (fun w hs => hs.weaken bU (fun p hp => List.mem_cons_of_mem _ (List.mem_append_right _ (hR2 p hp)))) (hp (by omega)))
  · have e := HL.out
    rw [List.drop_of_length_le (by omega), List.flatMap_nil, List.append_nil] at e
    rw [e] at hb' ⊢
    refine bC (.inr rfl) (fV rfl) (eI _ R (fun w hs => hs.weaken bU hR2) (hk (by rw [List.length_append, List.length_append] at hb'; exact hb') v'))
theorem aC5 {w0 : World} {α : Type} [Rep α] [Unp α] (hsz : Rep.size α = 7) (hcl : ∀ (x : α) y, (Unp.cs x y).length = 7) (hco : ∀ (x : α) y, ∀ u ∈ Unp.cs x y, u.oneCell' = true) (bw : Nat) (A : Option Addr) (c : Nat) (xs : List α) (f1 : FuncId) (first cap : List Value) [FnOk Tryz.prog f1] (out : α → List UInt8) (Rx : List MP) (hx : xs.length ≤ 9223372036854775807)
    (hone : ∀ x ∈ xs, ∀ y, Unp.ok x y → Wr Tryz.prog w0 (Unp.fs x y ++ Rx) f1 (first ++ [.agg (Unp.cs x y).toArray] ++ cap) bw (out x)) : Wr Tryz.prog w0 (Sl (.slice A xs.length c) xs :: Rx) 73 [.pointer (some ⟨bw, 0, none⟩), .slice A xs.length c, .func (.func f1) first.toArray cap.toArray] bw (cL xs.length ++ xs.flatMap out) := by
  intro H R K KP bs v hsub hb hk hp
  have hm : Sl (.slice A xs.length c) xs ∈ R := hsub _ (by simp)
  have hIx : dD (xs.length : Int) := by simp only [dD]; omega
  rw [List.length_append] at hk hp
  refine cP Tryz.func73 rfl Tryz.ntmps73 eZ ?_
  repeat' (first | (apply aF) | (apply aA) | (refine aE rfl rfl ?_; ((first | refine aH ?_ | refine bQ rfl ?_)); refine aB ?_))
  refine fB rfl rfl (fJ bw xs.length hIx) (fun _ h => (by cases h)) rfl rfl hb (fun hle v2 => ?_) (fun hgt => ?_)
  rotate_left
  · skip
    repeat' ((apply aL))
    exact aN (cH H R (fun w hs => hs) (hp (by omega)))
  refine aB ?_
  repeat' (first | (apply aF) | (apply aA) | (apply aT) | (apply aG) | (apply aD) | (refine aE rfl rfl ?_; ((first | refine aH ?_ | refine bQ rfl ?_)); refine aB ?_))
  refine cK [7, 14, 15, 16, 17, 18, 19, 20, 21] (fun m j H2 R2 => ∃ (i : Nat) (bs' : List UInt8) (v' : Value), i + m = xs.length ∧ j 14 = .int .i64 (i : Int) ∧ (∀ p ∈ R, p ∈ R2) ∧ H2 = .row v' 5 1 bs'.length (bA bs') :: .blk bw [v'] 85 :: H ∧ bs'.length ≤ 250000 ∧ bs' ++ (xs.drop i).flatMap out = bs ++ (cL xs.length ++ xs.flatMap out)) xs.length eE ⟨0, bs ++ cL xs.length, v2, by omega, rfl, fun _ h => h, rfl, by rw [List.length_append]; exact hle, by rw [List.append_assoc]; rfl⟩ ?_
  rintro m j' H2 R2 ⟨i, bs', v', him, h14, hR2, hH2, hb', hle2⟩
  subst hH2
  have hm2 := hR2 _ hm
  refine cQ (by simp only [dX, List.foldl_cons, List.foldl_nil, List.set_cons_succ, List.set_cons_zero, h14]; rfl) ?_
  have hlen : bs'.length + ((xs.drop i).flatMap out).length = bs.length + ((cL xs.length).length + (xs.flatMap out).length) := by
    have := congrArg List.length hle2
    simpa only [List.length_append] using this
  have HL := Go.Lib.hid hle2
  clear hle2
  repeat' (first | (refine aE rfl rfl ?_; refine dL rfl rfl hm2 hsz (d := xs[i]) (by simp only [Int.toNat_natCast]; exact List.getElem?_eq_getElem (by omega)) (by omega) (fun b_ o y hy => ?_); refine aB ?_) | (refine aE rfl rfl ?_; refine aZ rfl List.mem_cons_self (cN (hcl _ _)) ?_; refine aB ?_) | (refine bG rfl rfl ?_; refine aO (i := 0) rfl rfl rfl (hcl _ _) (by decide) (hco _ _) ?_; rw [eC (by rw [hcl]; rfl)]; refine aB ?_; refine cA ?_) | (refine aE rfl rfl ?_; refine aM (i := 0) rfl rfl (cN (hcl _ _)) ?_; refine aB ?_) | (apply aF) | (apply aA) | (apply aT) | (apply bE) | (apply bV) | (apply aK; exact rfl) | (apply aI; exact rfl) | (apply aG) | (apply aD) | (apply aS) | (apply aR) | (apply aU; exact rfl; ((refine bM rfl rfl (fun h => ?_) (fun h => ?_))) <;> (refine aB ?_)) | (refine aE rfl rfl ?_; ((refine aH ?_)); refine aB ?_) | (refine bG rfl rfl ?_; ((refine bK cW (fun b => ?_))); refine aB ?_))
  · have hd : (xs.drop i).flatMap out = out xs[i] ++ (xs.drop (i + 1)).flatMap out := by rw [List.drop_eq_getElem_cons (show i < xs.length by omega), List.flatMap_cons]
    rw [hd, List.length_append] at hlen
    have hsub2 : ∀ p ∈ Unp.fs xs[i] y ++ Rx, p ∈ At b_ o (Unp.cs xs[i] y) :: (Unp.fs xs[i] y ++ R2) := fun p hp => List.mem_cons_of_mem _ (by
      rcases List.mem_append.1 hp with h | h
      · exact List.mem_append_left _ h
      · exact List.mem_append_right _ (hR2 _ (hsub _ (List.mem_cons_of_mem _ h))))
    refine eF (.row v' 5 1 bs'.length (bA bs') :: .blk bw [v'] 85 :: H) _ (fun w hs => hs.weaken bU (fun _ h => h)) ?_
    refine nO rfl rfl rfl (hone xs[i] (List.getElem_mem _) y hy) hsub2 rfl rfl hb' (fun hle v3 => ?_) (fun hgt => ?_)
    · refine aB ?_
      repeat' (first | (apply aA) | (apply aG) | (apply aD) | (apply bP) | (apply aU; exact rfl; ((refine bI rfl rfl (by omega) (by omega) ?_)); refine aB ?_) | (refine aE rfl rfl ?_; ((refine aH ?_)); refine aB ?_))
      refine cE (m - 1) _ R2 (by omega) eE ⟨i + 1, bs' ++ out xs[i], v3, by omega, rfl, hR2, rfl, by rw [List.length_append]; exact hle, ?_⟩ (fun w hs => hs.weaken bU (fun p hp => List.mem_cons_of_mem _ (List.mem_append_right _ hp)))
      rw [← HL.out, hd, List.append_assoc]
    · skip
      repeat' (first | (apply aL) | (apply bY))
      refine aN (cH H R (fun w hs => hs.weaken bU (fun p hp => List.mem_cons_of_mem _ (List.mem_append_right _ (hR2 p hp)))) (hp (by omega)))
  · have e := HL.out
    rw [List.drop_of_length_le (by omega), List.flatMap_nil, List.append_nil] at e
    rw [e] at hb' ⊢
    refine bC (.inr rfl) (fV rfl) (eI _ R (fun w hs => hs.weaken bU hR2) (hk (by rw [List.length_append, List.length_append] at hb'; exact hb') v'))
theorem aB8 {w0 : World} {α : Type} [Rep α] [Unp α] (hsz : Rep.size α = 8) (hcl : ∀ (x : α) y, (Unp.cs x y).length = 8) (hco : ∀ (x : α) y, ∀ u ∈ Unp.cs x y, u.oneCell' = true) (bw : Nat) (A : Option Addr) (c : Nat) (xs : List α) (f1 : FuncId) (first cap : List Value) [FnOk Tryz.prog f1] (out : α → List UInt8) (Rx : List MP) (hx : xs.length ≤ 9223372036854775807)
    (hone : ∀ x ∈ xs, ∀ y, Unp.ok x y → Wr Tryz.prog w0 (Unp.fs x y ++ Rx) f1 (first ++ [.agg (Unp.cs x y).toArray] ++ cap) bw (out x)) : Wr Tryz.prog w0 (Sl (.slice A xs.length c) xs :: Rx) 75 [.pointer (some ⟨bw, 0, none⟩), .slice A xs.length c, .func (.func f1) first.toArray cap.toArray] bw (cL xs.length ++ xs.flatMap out) := by
  intro H R K KP bs v hsub hb hk hp
  have hm : Sl (.slice A xs.length c) xs ∈ R := hsub _ (by simp)
  have hIx : dD (xs.length : Int) := by simp only [dD]; omega
  rw [List.length_append] at hk hp
  refine cP Tryz.func75 rfl Tryz.ntmps75 eZ ?_
  repeat' (first | (apply aF) | (apply aA) | (refine aE rfl rfl ?_; ((first | refine aH ?_ | refine bQ rfl ?_)); refine aB ?_))
  refine fB rfl rfl (fJ bw xs.length hIx) (fun _ h => (by cases h)) rfl rfl hb (fun hle v2 => ?_) (fun hgt => ?_)
  rotate_left
  · skip
    repeat' ((apply aL))
    exact aN (cH H R (fun w hs => hs) (hp (by omega)))
  refine aB ?_
  repeat' (first | (apply aF) | (apply aA) | (apply aT) | (apply aG) | (apply aD) | (refine aE rfl rfl ?_; ((first | refine aH ?_ | refine bQ rfl ?_)); refine aB ?_))
  refine cK [7, 14, 15, 16, 17, 18, 19, 20, 21] (fun m j H2 R2 => ∃ (i : Nat) (bs' : List UInt8) (v' : Value), i + m = xs.length ∧ j 14 = .int .i64 (i : Int) ∧ (∀ p ∈ R, p ∈ R2) ∧ H2 = .row v' 5 1 bs'.length (bA bs') :: .blk bw [v'] 85 :: H ∧ bs'.length ≤ 250000 ∧ bs' ++ (xs.drop i).flatMap out = bs ++ (cL xs.length ++ xs.flatMap out)) xs.length eE ⟨0, bs ++ cL xs.length, v2, by omega, rfl, fun _ h => h, rfl, by rw [List.length_append]; exact hle, by rw [List.append_assoc]; rfl⟩ ?_
  rintro m j' H2 R2 ⟨i, bs', v', him, h14, hR2, hH2, hb', hle2⟩
  subst hH2
  have hm2 := hR2 _ hm
  refine cQ (by simp only [dX, List.foldl_cons, List.foldl_nil, List.set_cons_succ, List.set_cons_zero, h14]; rfl) ?_
  have hlen : bs'.length + ((xs.drop i).flatMap out).length = bs.length + ((cL xs.length).length + (xs.flatMap out).length) := by
    have := congrArg List.length hle2
    simpa only [List.length_append] using this
  have HL := Go.Lib.hid hle2
  clear hle2
  repeat' (first | (refine aE rfl rfl ?_; refine dL rfl rfl hm2 hsz (d := xs[i]) (by simp only [Int.toNat_natCast]; exact List.getElem?_eq_getElem (by omega)) (by omega) (fun b_ o y hy => ?_); refine aB ?_) | (refine aE rfl rfl ?_; refine aZ rfl List.mem_cons_self (cN (hcl _ _)) ?_; refine aB ?_) | (refine bG rfl rfl ?_; refine aO (i := 0) rfl rfl rfl (hcl _ _) (by decide) (hco _ _) ?_; rw [eC (by rw [hcl]; rfl)]; refine aB ?_; refine cA ?_) | (refine aE rfl rfl ?_; refine aM (i := 0) rfl rfl (cN (hcl _ _)) ?_; refine aB ?_) | (apply aF) | (apply aA) | (apply aT) | (apply bE) | (apply bV) | (apply aK; exact rfl) | (apply aI; exact rfl) | (apply aG) | (apply aD) | (apply aS) | (apply aR) | (apply aU; exact rfl; ((refine bM rfl rfl (fun h => ?_) (fun h => ?_))) <;> (refine aB ?_)) | (refine aE rfl rfl ?_; ((refine aH ?_)); refine aB ?_) | (refine bG rfl rfl ?_; ((refine bK cW (fun b => ?_))); refine aB ?_))
  · have hd : (xs.drop i).flatMap out = out xs[i] ++ (xs.drop (i + 1)).flatMap out := by rw [List.drop_eq_getElem_cons (show i < xs.length by omega), List.flatMap_cons]
    rw [hd, List.length_append] at hlen
    have hsub2 : ∀ p ∈ Unp.fs xs[i] y ++ Rx, p ∈ At b_ o (Unp.cs xs[i] y) :: (Unp.fs xs[i] y ++ R2) := fun p hp => List.mem_cons_of_mem _ (by
      rcases List.mem_append.1 hp with h | h
      · exact List.mem_append_left _ h
      · exact List.mem_append_right _ (hR2 _ (hsub _ (List.mem_cons_of_mem _ h))))
    refine eF (.row v' 5 1 bs'.length (bA bs') :: .blk bw [v'] 85 :: H) _ (fun w hs => hs.weaken bU (fun _ h => h)) ?_
    refine nO rfl rfl rfl (hone xs[i] (List.getElem_mem _) y hy) hsub2 rfl rfl hb' (fun hle v3 => ?_) (fun hgt => ?_)
    · refine aB ?_
      repeat' (first | (apply aA) | (apply aG) | (apply aD) | (apply bP) | (apply aU; exact rfl; ((refine bI rfl rfl (by omega) (by omega) ?_)); refine aB ?_) | (refine aE rfl rfl ?_; ((refine aH ?_)); refine aB ?_))
      refine cE (m - 1) _ R2 (by omega) eE ⟨i + 1, bs' ++ out xs[i], v3, by omega, rfl, hR2, rfl, by rw [List.length_append]; exact hle, ?_⟩ (fun w hs => hs.weaken bU (fun p hp => List.mem_cons_of_mem _ (List.mem_append_right _ hp)))
      rw [← HL.out, hd, List.append_assoc]
    · skip
      repeat' (first | (apply aL) | (apply bY))
      refine aN (cH H R (fun w hs => hs.weaken bU (fun p hp => List.mem_cons_of_mem _ (List.mem_append_right _ (hR2 p hp)))) (hp (by omega)))
  · have e := HL.out
    rw [List.drop_of_length_le (by omega), List.flatMap_nil, List.append_nil] at e
    rw [e] at hb' ⊢
    refine bC (.inr rfl) (fV rfl) (eI _ R (fun w hs => hs.weaken bU hR2) (hk (by rw [List.length_append, List.length_append] at hb'; exact hb') v'))
theorem aB6 {w0 : World} {α : Type} [Rep α] [Unp α] (hsz : Rep.size α = 9) (hcl : ∀ (x : α) y, (Unp.cs x y).length = 9) (hco : ∀ (x : α) y, ∀ u ∈ Unp.cs x y, u.oneCell' = true) (bw : Nat) (A : Option Addr) (c : Nat) (xs : List α) (f1 : FuncId) (first cap : List Value) [FnOk Tryz.prog f1] (out : α → List UInt8) (Rx : List MP) (hx : xs.length ≤ 9223372036854775807)
    (hone : ∀ x ∈ xs, ∀ y, Unp.ok x y → Wr Tryz.prog w0 (Unp.fs x y ++ Rx) f1 (first ++ [.agg (Unp.cs x y).toArray] ++ cap) bw (out x)) : Wr Tryz.prog w0 (Sl (.slice A xs.length c) xs :: Rx) 77 [.pointer (some ⟨bw, 0, none⟩), .slice A xs.length c, .func (.func f1) first.toArray cap.toArray] bw (cL xs.length ++ xs.flatMap out) := by
  intro H R K KP bs v hsub hb hk hp
  have hm : Sl (.slice A xs.length c) xs ∈ R := hsub _ (by simp)
  have hIx : dD (xs.length : Int) := by simp only [dD]; omega
  rw [List.length_append] at hk hp
  refine cP Tryz.func77 rfl Tryz.ntmps77 eZ ?_
  repeat' (first | (apply aF) | (apply aA) | (refine aE rfl rfl ?_; ((first | refine aH ?_ | refine bQ rfl ?_)); refine aB ?_))
  refine fB rfl rfl (fJ bw xs.length hIx) (fun _ h => (by cases h)) rfl rfl hb (fun hle v2 => ?_) (fun hgt => ?_)
  rotate_left
  · skip
    repeat' ((apply aL))
    exact aN (cH H R (fun w hs => hs) (hp (by omega)))
  refine aB ?_
  repeat' (first | (apply aF) | (apply aA) | (apply aT) | (apply aG) | (apply aD) | (refine aE rfl rfl ?_; ((first | refine aH ?_ | refine bQ rfl ?_)); refine aB ?_))
  refine cK [7, 14, 15, 16, 17, 18, 19, 20, 21] (fun m j H2 R2 => ∃ (i : Nat) (bs' : List UInt8) (v' : Value), i + m = xs.length ∧ j 14 = .int .i64 (i : Int) ∧ (∀ p ∈ R, p ∈ R2) ∧ H2 = .row v' 5 1 bs'.length (bA bs') :: .blk bw [v'] 85 :: H ∧ bs'.length ≤ 250000 ∧ bs' ++ (xs.drop i).flatMap out = bs ++ (cL xs.length ++ xs.flatMap out)) xs.length eE ⟨0, bs ++ cL xs.length, v2, by omega, rfl, fun _ h => h, rfl, by rw [List.length_append]; exact hle, by rw [List.append_assoc]; rfl⟩ ?_
  rintro m j' H2 R2 ⟨i, bs', v', him, h14, hR2, hH2, hb', hle2⟩
  subst hH2
  have hm2 := hR2 _ hm
  refine cQ (by simp only [dX, List.foldl_cons, List.foldl_nil, List.set_cons_succ, List.set_cons_zero, h14]; rfl) ?_
  have hlen : bs'.length + ((xs.drop i).flatMap out).length = bs.length + ((cL xs.length).length + (xs.flatMap out).length) := by
    have := congrArg List.length hle2
    simpa only [List.length_append] using this
  have HL := Go.Lib.hid hle2
  clear hle2
  repeat' (first | (refine aE rfl rfl ?_; refine dL rfl rfl hm2 hsz (d := xs[i]) (by simp only [Int.toNat_natCast]; exact List.getElem?_eq_getElem (by omega)) (by omega) (fun b_ o y hy => ?_); refine aB ?_) | (refine aE rfl rfl ?_; refine aZ rfl List.mem_cons_self (cN (hcl _ _)) ?_; refine aB ?_) | (refine bG rfl rfl ?_; refine aO (i := 0) rfl rfl rfl (hcl _ _) (by decide) (hco _ _) ?_; rw [eC (by rw [hcl]; rfl)]; refine aB ?_; refine cA ?_) | (refine aE rfl rfl ?_; refine aM (i := 0) rfl rfl (cN (hcl _ _)) ?_; refine aB ?_) | (apply aF) | (apply aA) | (apply aT) | (apply bE) | (apply bV) | (apply aK; exact rfl) | (apply aI; exact rfl) | (apply aG) | (apply aD) | (apply aS) | (apply aR) | (apply aU; exact rfl; ((refine bM rfl rfl (fun h => ?_) (fun h => ?_))) <;> (refine aB ?_)) | (refine aE rfl rfl ?_; ((refine aH ?_)); refine aB ?_) | (refine bG rfl rfl ?_; ((refine bK cW (fun b => ?_))); refine aB ?_))
  · have hd : (xs.drop i).flatMap out = out xs[i] ++ (xs.drop (i + 1)).flatMap out := by rw [List.drop_eq_getElem_cons (show i < xs.length by omega), List.flatMap_cons]
    rw [hd, List.length_append] at hlen
    have hsub2 : ∀ p ∈ Unp.fs xs[i] y ++ Rx, p ∈ At b_ o (Unp.cs xs[i] y) :: (Unp.fs xs[i] y ++ R2) := fun p hp => List.mem_cons_of_mem _ (by
      rcases List.mem_append.1 hp with h | h
      · exact List.mem_append_left _ h
      · exact List.mem_append_right _ (hR2 _ (hsub _ (List.mem_cons_of_mem _ h))))
    refine eF (.row v' 5 1 bs'.length (bA bs') :: .blk bw [v'] 85 :: H) _ (fun w hs => hs.weaken bU (fun _ h => h)) ?_
    refine nO rfl rfl rfl (hone xs[i] (List.getElem_mem _) y hy) hsub2 rfl rfl hb' (fun hle v3 => ?_) (fun hgt => ?_)
    · refine aB ?_
      repeat' (first | (apply aA) | (apply aG) | (apply aD) | (apply bP) | (apply aU; exact rfl; ((refine bI rfl rfl (by omega) (by omega) ?_)); refine aB ?_) | (refine aE rfl rfl ?_; ((refine aH ?_)); refine aB ?_))
      refine cE (m - 1) _ R2 (by omega) eE ⟨i + 1, bs' ++ out xs[i], v3, by omega, rfl, hR2, rfl, by rw [List.length_append]; exact hle, ?_⟩ (fun w hs => hs.weaken bU (fun p hp => List.mem_cons_of_mem _ (List.mem_append_right _ hp)))
      rw [← HL.out, hd, List.append_assoc]
    · skip
      repeat' (first | (apply aL) | (apply bY))
      refine aN (cH H R (fun w hs => hs.weaken bU (fun p hp => List.mem_cons_of_mem _ (List.mem_append_right _ (hR2 p hp)))) (hp (by omega)))
  · have e := HL.out
    rw [List.drop_of_length_le (by omega), List.flatMap_nil, List.append_nil] at e
    rw [e] at hb' ⊢
    refine bC (.inr rfl) (fV rfl) (eI _ R (fun w hs => hs.weaken bU hR2) (hk (by rw [List.length_append, List.length_append] at hb'; exact hb') v'))
end Go.Proofs.YtggdljhmbckpmaaGreat
namespace Go.Proofs.YtggdljhmbckpmaaGreat
open Go Go.RowKit
set_option maxRecDepth 100000
set_option maxHeartbeats 800000

theorem z8 {w0 : World} {α : Type} [Rep α] [Unp α] (hsz : Rep.size α = 18) (hcl : ∀ (x : α) y, (Unp.cs x y).length = 18) (hco : ∀ (x : α) y, ∀ u ∈ Unp.cs x y, u.oneCell' = true) (bw : Nat) (A : Option Addr) (c : Nat) (xs : List α) (f1 : FuncId) (first cap : List Value) [FnOk Tryz.prog f1] (out : α → List UInt8) (Rx : List MP) (hx : xs.length ≤ 9223372036854775807)
    (hone : ∀ x ∈ xs, ∀ y, Unp.ok x y → Wr Tryz.prog w0 (Unp.fs x y ++ Rx) f1 (first ++ [.agg (Unp.cs x y).toArray] ++ cap) bw (out x)) : Wr Tryz.prog w0 (Sl (.slice A xs.length c) xs :: Rx) 80 [.pointer (some ⟨bw, 0, none⟩), .slice A xs.length c, .func (.func f1) first.toArray cap.toArray] bw (cL xs.length ++ xs.flatMap out) := by
  intro H R K KP bs v hsub hb hk hp
  have hm : Sl (.slice A xs.length c) xs ∈ R := hsub _ (by simp)
  have hIx : dD (xs.length : Int) := by simp only [dD]; omega
  rw [List.length_append] at hk hp
  refine cP Tryz.func80 rfl Tryz.ntmps80 eZ ?_
  repeat' (first | (apply aF) | (apply aA) | (refine aE rfl rfl ?_; ((first | refine aH ?_ | refine bQ rfl ?_)); refine aB ?_))
  refine fB rfl rfl (fJ bw xs.length hIx) (fun _ h => (by cases h)) rfl rfl hb (fun hle v2 => ?_) (fun hgt => ?_)
  rotate_left
  · skip
    repeat' ((apply aL))
    exact aN (cH H R (fun w hs => hs) (hp (by omega)))
  refine aB ?_
  repeat' (first | (apply aF) | (apply aA) | (apply aT) | (apply aG) | (apply aD) | (refine aE rfl rfl ?_; ((first | refine aH ?_ | refine bQ rfl ?_)); refine aB ?_))
  refine cK [7, 14, 15, 16, 17, 18, 19, 20, 21] (fun m j H2 R2 => ∃ (i : Nat) (bs' : List UInt8) (v' : Value), i + m = xs.length ∧ j 14 = .int .i64 (i : Int) ∧ (∀ p ∈ R, p ∈ R2) ∧ H2 = .row v' 5 1 bs'.length (bA bs') :: .blk bw [v'] 85 :: H ∧ bs'.length ≤ 250000 ∧ bs' ++ (xs.drop i).flatMap out = bs ++ (cL xs.length ++ xs.flatMap out)) xs.length eE ⟨0, bs ++ cL xs.length, v2, by omega, rfl, fun _ h => h, rfl, by rw [List.length_append]; exact hle, by rw [List.append_assoc]; rfl⟩ ?_
  rintro m j' H2 R2 ⟨i, bs', v', him, h14, hR2, hH2, hb', hle2⟩
  subst hH2
  have hm2 := hR2 _ hm
  refine cQ (by simp only [dX, List.foldl_cons, List.foldl_nil, List.set_cons_succ, List.set_cons_zero, h14]; rfl) ?_
  have hlen : bs'.length + ((xs.drop i).flatMap out).length = bs.length + ((cL xs.length).length + (xs.flatMap out).length) := by
    have := congrArg List.length hle2
    simpa only [List.length_append] using this
  have HL := Go.Lib.hid hle2
  clear hle2
  repeat' (first | (refine aE rfl rfl ?_; refine dL rfl rfl hm2 hsz (d := xs[i]) (by simp only [Int.toNat_natCast]; exact List.getElem?_eq_getElem (by omega)) (by omega) (fun b_ o y hy => ?_); refine aB ?_) | (refine aE rfl rfl ?_; refine aZ rfl List.mem_cons_self (cN (hcl _ _)) ?_; refine aB ?_) | (refine bG rfl rfl ?_; refine aO (i := 0) rfl rfl rfl (hcl _ _) (by decide) (hco _ _) ?_; rw [eC (by rw [hcl]; rfl)]; refine aB ?_; refine cA ?_) | (refine aE rfl rfl ?_; refine aM (i := 0) rfl rfl (cN (hcl _ _)) ?_; refine aB ?_) | (apply aF) | (apply aA) | (apply aT) | (apply bE) | (apply bV) | (apply aK; exact rfl) | (apply aI; exact rfl) | (apply aG) | (apply aD) | (apply aS) | (apply aR) | (apply aU; exact rfl; ((refine bM rfl rfl (fun h => ?_) (fun h => ?_))) <;> (refine aB ?_)) | (refine aE rfl rfl ?_; ((refine aH ?_)); refine aB ?_) | (refine bG rfl rfl ?_; ((refine bK cW (fun b => ?_))); refine aB ?_))
  · have hd : (xs.drop i).flatMap out = out xs[i] ++ (xs.drop (i + 1)).flatMap out := by rw [List.drop_eq_getElem_cons (show i < xs.length by omega), List.flatMap_cons]
    rw [hd, List.length_append] at hlen
    have hsub2 : ∀ p ∈ Unp.fs xs[i] y ++ Rx, p ∈ At b_ o (Unp.cs xs[i] y) :: (Unp.fs xs[i] y ++ R2) := fun p hp => List.mem_cons_of_mem _ (by
      rcases List.mem_append.1 hp with h | h
      · exact List.mem_append_left _ h
      · exact List.mem_append_right _ (hR2 _ (hsub _ (List.mem_cons_of_mem _ h))))
    refine eF (.row v' 5 1 bs'.length (bA bs') :: .blk bw [v'] 85 :: H) _ (fun w hs => hs.weaken bU (fun _ h => h)) ?_
    refine nO rfl rfl rfl (hone xs[i] (List.getElem_mem _) y hy) hsub2 rfl rfl hb' (fun hle v3 => ?_) (fun hgt => ?_)
    · refine aB ?_
      repeat' (first | (apply aA) | (apply aG) | (apply aD) | (apply bP) | (apply aU; exact rfl; ((refine bI rfl rfl (by omega) (by omega) ?_)); refine aB ?_) | (refine aE rfl rfl ?_; ((refine aH ?_)); refine aB ?_))
      refine cE (m - 1) _ R2 (by omega) eE ⟨i + 1, bs' ++ out xs[i], v3, by omega, rfl, hR2, rfl, by rw [List.length_append]; exact hle, ?_⟩ (fun w hs => hs.weaken bU (fun p hp => List.mem_cons_of_mem _ (List.mem_append_right _ hp)))
      rw [← HL.out, hd, List.append_assoc]
    · skip
      repeat' (first | (apply aL) | (apply bY))
      refine aN (cH H R (fun w hs => hs.weaken bU (fun p hp => List.mem_cons_of_mem _ (List.mem_append_right _ (hR2 p hp)))) (hp (by omega)))
  · have e := HL.out
    rw [List.drop_of_length_le (by omega), List.flatMap_nil, List.append_nil] at e
    rw [e] at hb' ⊢
    refine bC (.inr rfl) (fV rfl) (eI _ R (fun w hs => hs.weaken bU hR2) (hk (by rw [List.length_append, List.length_append] at hb'; exact hb') v'))
theorem kU {w0 : World} {α : Type} [Rep α] [Unp α] (hsz : Rep.size α = 4) (hcl : ∀ (x : α) y, (Unp.cs x y).length = 4) (hco : ∀ (x : α) y, ∀ u ∈ Unp.cs x y, u.oneCell' = true) (bw : Nat) (A : Option Addr) (c : Nat) (xs : List α) (f1 : FuncId) (first cap : List Value) [FnOk Tryz.prog f1] (out : α → List UInt8) (Rx : List MP) (hx : xs.length ≤ 9223372036854775807)
    (hone : ∀ x ∈ xs, ∀ y, Unp.ok x y → Wr Tryz.prog w0 (Unp.fs x y ++ Rx) f1 (first ++ [.agg (Unp.cs x y).toArray] ++ cap) bw (out x)) : Wr Tryz.prog w0 (Sl (.slice A xs.length c) xs :: Rx) 123 [.pointer (some ⟨bw, 0, none⟩), .slice A xs.length c, .func (.func f1) first.toArray cap.toArray] bw (cL xs.length ++ xs.flatMap out) := by
  intro H R K KP bs v hsub hb hk hp
  have hm : Sl (.slice A xs.length c) xs ∈ R := hsub _ (by simp)
  have hIx : dD (xs.length : Int) := by simp only [dD]; omega
  rw [List.length_append] at hk hp
  refine cP Tryz.func123 rfl Tryz.ntmps123 eZ ?_
  repeat' (first | (apply aF) | (apply aA) | (refine aE rfl rfl ?_; ((first | refine aH ?_ | refine bQ rfl ?_)); refine aB ?_))
  refine fB rfl rfl (fJ bw xs.length hIx) (fun _ h => (by cases h)) rfl rfl hb (fun hle v2 => ?_) (fun hgt => ?_)
  rotate_left
  · skip
    repeat' ((apply aL))
    exact aN (cH H R (fun w hs => hs) (hp (by omega)))
  refine aB ?_
  repeat' (first | (apply aF) | (apply aA) | (apply aT) | (apply aG) | (apply aD) | (refine aE rfl rfl ?_; ((first | refine aH ?_ | refine bQ rfl ?_)); refine aB ?_))
  refine cK [7, 14, 15, 16, 17, 18, 19, 20, 21] (fun m j H2 R2 => ∃ (i : Nat) (bs' : List UInt8) (v' : Value), i + m = xs.length ∧ j 14 = .int .i64 (i : Int) ∧ (∀ p ∈ R, p ∈ R2) ∧ H2 = .row v' 5 1 bs'.length (bA bs') :: .blk bw [v'] 85 :: H ∧ bs'.length ≤ 250000 ∧ bs' ++ (xs.drop i).flatMap out = bs ++ (cL xs.length ++ xs.flatMap out)) xs.length eE ⟨0, bs ++ cL xs.length, v2, by omega, rfl, fun _ h => h, rfl, by rw [List.length_append]; exact hle, by rw [List.append_assoc]; rfl⟩ ?_
  rintro m j' H2 R2 ⟨i, bs', v', him, h14, hR2, hH2, hb', hle2⟩
  subst hH2
  have hm2 := hR2 _ hm
  refine cQ (by simp only [dX, List.foldl_cons, List.foldl_nil, List.set_cons_succ, List.set_cons_zero, h14]; rfl) ?_
  have hlen : bs'.length + ((xs.drop i).flatMap out).length = bs.length + ((cL xs.length).length + (xs.flatMap out).length) := by
    have := congrArg List.length hle2
    simpa only [List.length_append] using this
  have HL := Go.Lib.hid hle2
  clear hle2
  repeat' (first | (refine aE rfl rfl ?_; refine dL rfl rfl hm2 hsz (d := xs[i]) (by simp only [Int.toNat_natCast]; exact List.getElem?_eq_getElem (by omega)) (by omega) (fun b_ o y hy => ?_); refine aB ?_) | (refine aE rfl rfl ?_; refine aZ rfl List.mem_cons_self (cN (hcl _ _)) ?_; refine aB ?_) | (refine bG rfl rfl ?_; refine aO (i := 0) rfl rfl rfl (hcl _ _) (by decide) (hco _ _) ?_; rw [eC (by rw [hcl]; rfl)]; refine aB ?_; refine cA ?_) | (refine aE rfl rfl ?_; refine aM (i := 0) rfl rfl (cN (hcl _ _)) ?_; refine aB ?_) | (apply aF) | (apply aA) | (apply aT) | (apply bE) | (apply bV) | (apply aK; exact rfl) | (apply aI; exact rfl) | (apply aG) | (apply aD) | (apply aS) | (apply aR) | (apply aU; exact rfl; ((refine bM rfl rfl (fun h => ?_) (fun h => ?_))) <;> (refine aB ?_)) | (refine aE rfl rfl ?_; ((refine aH ?_)); refine aB ?_) | (refine bG rfl rfl ?_; ((refine bK cW (fun b => ?_))); refine aB ?_))
  · have hd : (xs.drop i).flatMap out = out xs[i] ++ (xs.drop (i + 1)).flatMap out := by rw [List.drop_eq_getElem_cons (show i < xs.length by omega), List.flatMap_cons]
    rw [hd, List.length_append] at hlen
    have hsub2 : ∀ p ∈ Unp.fs xs[i] y ++ Rx, p ∈ At b_ o (Unp.cs xs[i] y) :: (Unp.fs xs[i] y ++ R2) := fun p hp => List.mem_cons_of_mem _ (by
      rcases List.mem_append.1 hp with h | h
      · exact List.mem_append_left _ h
      · exact List.mem_append_right _ (hR2 _ (hsub _ (List.mem_cons_of_mem _ h))))
    refine eF (.row v' 5 1 bs'.length (bA bs') :: .blk bw [v'] 85 :: H) _ (fun w hs => hs.weaken bU (fun _ h => h)) ?_
    refine nO rfl rfl rfl (hone xs[i] (List.getElem_mem _) y hy) hsub2 rfl rfl hb' (fun hle v3 => ?_) (fun hgt => ?_)
    · refine aB ?_
      repeat' (first | (apply aA) | (apply aG) | (apply aD) | (apply bP) | (apply aU; exact rfl; ((refine bI rfl rfl (by omega) (by omega) ?_)); refine aB ?_) | (refine aE rfl rfl ?_; ((refine aH ?_)); refine aB ?_))
      refine cE (m - 1) _ R2 (by omega) eE ⟨i + 1, bs' ++ out xs[i], v3, by omega, rfl, hR2, rfl, by rw [List.length_append]; exact hle, ?_⟩ (fun w hs => hs.weaken bU (fun p hp => List.mem_cons_of_mem _ (List.mem_append_right _ hp)))
      rw [← HL.out, hd, List.append_assoc]
    · skip
      repeat' (first | (apply aL) | (apply bY))
      refine aN (cH H R (fun w hs => hs.weaken bU (fun p hp => List.mem_cons_of_mem _ (List.mem_append_right _ (hR2 p hp)))) (hp (by omega)))
  · have e := HL.out
    rw [List.drop_of_length_le (by omega), List.flatMap_nil, List.append_nil] at e
    rw [e] at hb' ⊢
    refine bC (.inr rfl) (fV rfl) (eI _ R (fun w hs => hs.weaken bU hR2) (hk (by rw [List.length_append, List.length_append] at hb'; exact hb') v'))
theorem g5 {w0 : World} {α : Type} [Rep α] [Unp α] (hsz : Rep.size α = 3) (hcl : ∀ (x : α) y, (Unp.cs x y).length = 3) (hco : ∀ (x : α) y, ∀ u ∈ Unp.cs x y, u.oneCell' = true) (bw : Nat) (A : Option Addr) (c : Nat) (xs : List α) (f1 : FuncId) (first cap : List Value) [FnOk Tryz.prog f1] (out : α → List UInt8) (Rx : List MP) (hx : xs.length ≤ 9223372036854775807)
    (hone : ∀ x ∈ xs, ∀ y, Unp.ok x y → Wr Tryz.prog w0 (Unp.fs x y ++ Rx) f1 (first ++ [.agg (Unp.cs x y).toArray] ++ cap) bw (out x)) : Wr Tryz.prog w0 (Sl (.slice A xs.length c) xs :: Rx) 127 [.pointer (some ⟨bw, 0, none⟩), .slice A xs.length c, .func (.func f1) first.toArray cap.toArray] bw (cL xs.length ++ xs.flatMap out) := by
  intro H R K KP bs v hsub hb hk hp
  have hm : Sl (.slice A xs.length c) xs ∈ R := hsub _ (by simp)
  have hIx : dD (xs.length : Int) := by simp only [dD]; omega
  rw [List.length_append] at hk hp
  refine cP Tryz.func127 rfl Tryz.ntmps127 eZ ?_
  repeat' (first | (apply aF) | (apply aA) | (refine aE rfl rfl ?_; ((first | refine aH ?_ | refine bQ rfl ?_)); refine aB ?_))
  refine fB rfl rfl (fJ bw xs.length hIx) (fun _ h => (by cases h)) rfl rfl hb (fun hle v2 => ?_) (fun hgt => ?_)
  rotate_left
  · skip
    repeat' ((apply aL))
    exact aN (cH H R (fun w hs => hs) (hp (by omega)))
  refine aB ?_
  repeat' (first | (apply aF) | (apply aA) | (apply aT) | (apply aG) | (apply aD) | (refine aE rfl rfl ?_; ((first | refine aH ?_ | refine bQ rfl ?_)); refine aB ?_))
  refine cK [7, 14, 15, 16, 17, 18, 19, 20, 21] (fun m j H2 R2 => ∃ (i : Nat) (bs' : List UInt8) (v' : Value), i + m = xs.length ∧ j 14 = .int .i64 (i : Int) ∧ (∀ p ∈ R, p ∈ R2) ∧ H2 = .row v' 5 1 bs'.length (bA bs') :: .blk bw [v'] 85 :: H ∧ bs'.length ≤ 250000 ∧ bs' ++ (xs.drop i).flatMap out = bs ++ (cL xs.length ++ xs.flatMap out)) xs.length eE ⟨0, bs ++ cL xs.length, v2, by omega, rfl, fun _ h => h, rfl, by rw [List.length_append]; exact hle, by rw [List.append_assoc]; rfl⟩ ?_
  rintro m j' H2 R2 ⟨i, bs', v', him, h14, hR2, hH2, hb', hle2⟩
  subst hH2
  have hm2 := hR2 _ hm
  refine cQ (by simp only [dX, List.foldl_cons, List.foldl_nil, List.set_cons_succ, List.set_cons_zero, h14]; rfl) ?_
  have hlen : bs'.length + ((xs.drop i).flatMap out).length = bs.length + ((cL xs.length).length + (xs.flatMap out).length) := by
    have := congrArg List.length hle2
    simpa only [List.length_append] using this
  have HL := Go.Lib.hid hle2
  clear hle2
  repeat' (first | (refine aE rfl rfl ?_; refine dL rfl rfl hm2 hsz (d := xs[i]) (by simp only [Int.toNat_natCast]; exact List.getElem?_eq_getElem (by omega)) (by omega) (fun b_ o y hy => ?_); refine aB ?_) | (refine aE rfl rfl ?_; refine aZ rfl List.mem_cons_self (cN (hcl _ _)) ?_; refine aB ?_) | (refine bG rfl rfl ?_; refine aO (i := 0) rfl rfl rfl (hcl _ _) (by decide) (hco _ _) ?_; rw [eC (by rw [hcl]; rfl)]; refine aB ?_; refine cA ?_) | (refine aE rfl rfl ?_; refine aM (i := 0) rfl rfl (cN (hcl _ _)) ?_; refine aB ?_) | (apply aF) | (apply aA) | (apply aT) | (apply bE) | (apply bV) | (apply aK; exact rfl) | (apply aI; exact rfl) | (apply aG) | (apply aD) | (apply aS) | (apply aR) | (apply aU; exact rfl; ((refine bM rfl rfl (fun h => ?_) (fun h => ?_))) <;> (refine aB ?_)) | (refine aE rfl rfl ?_; ((refine aH ?_)); refine aB ?_) | (refine bG rfl rfl ?_; ((refine bK cW (fun b => ?_))); refine aB ?_))
  · have hd : (xs.drop i).flatMap out = out xs[i] ++ (xs.drop (i + 1)).flatMap out := by rw [List.drop_eq_getElem_cons (show i < xs.length by omega), List.flatMap_cons]
    rw [hd, List.length_append] at hlen
    have hsub2 : ∀ p ∈ Unp.fs xs[i] y ++ Rx, p ∈ At b_ o (Unp.cs xs[i] y) :: (Unp.fs xs[i] y ++ R2) := fun p hp => List.mem_cons_of_mem _ (by
      rcases List.mem_append.1 hp with h | h
      · exact List.mem_append_left _ h
      · exact List.mem_append_right _ (hR2 _ (hsub _ (List.mem_cons_of_mem _ h))))
    refine eF (.row v' 5 1 bs'.length (bA bs') :: .blk bw [v'] 85 :: H) _ (fun w hs => hs.weaken bU (fun _ h => h)) ?_
    refine nO rfl rfl rfl (hone xs[i] (List.getElem_mem _) y hy) hsub2 rfl rfl hb' (fun hle v3 => ?_) (fun hgt => ?_)
    · refine aB ?_
      repeat' (first | (apply aA) | (apply aG) | (apply aD) | (apply bP) | (apply aU; exact rfl; ((refine bI rfl rfl (by omega) (by omega) ?_)); refine aB ?_) | (refine aE rfl rfl ?_; ((refine aH ?_)); refine aB ?_))
      refine cE (m - 1) _ R2 (by omega) eE ⟨i + 1, bs' ++ out xs[i], v3, by omega, rfl, hR2, rfl, by rw [List.length_append]; exact hle, ?_⟩ (fun w hs => hs.weaken bU (fun p hp => List.mem_cons_of_mem _ (List.mem_append_right _ hp)))
      rw [← HL.out, hd, List.append_assoc]
    · skip
      repeat' (first | (apply aL) | (apply bY))
      refine aN (cH H R (fun w hs => hs.weaken bU (fun p hp => List.mem_cons_of_mem _ (List.mem_append_right _ (hR2 p hp)))) (hp (by omega)))
  · have e := HL.out
    rw [List.drop_of_length_le (by omega), List.flatMap_nil, List.append_nil] at e
    rw [e] at hb' ⊢
    refine bC (.inr rfl) (fV rfl) (eI _ R (fun w hs => hs.weaken bU hR2) (hk (by rw [List.length_append, List.length_append] at hb'; exact hb') v'))
theorem i3 {w0 : World} {α : Type} [Rep α] [Unp α] (hsz : Rep.size α = 2) (hcl : ∀ (x : α) y, (Unp.cs x y).length = 2) (hco : ∀ (x : α) y, ∀ u ∈ Unp.cs x y, u.oneCell' = true) (bw : Nat) (A : Option Addr) (c : Nat) (xs : List α) (f1 : FuncId) (first cap : List Value) [FnOk Tryz.prog f1] (out : α → List UInt8) (Rx : List MP) (hx : xs.length ≤ 9223372036854775807)
    (hone : ∀ x ∈ xs, ∀ y, Unp.ok x y → Wr Tryz.prog w0 (Unp.fs x y ++ Rx) f1 (first ++ [.agg (Unp.cs x y).toArray] ++ cap) bw (out x)) : Wr Tryz.prog w0 (Sl (.slice A xs.length c) xs :: Rx) 152 [.pointer (some ⟨bw, 0, none⟩), .slice A xs.length c, .func (.func f1) first.toArray cap.toArray] bw (cL xs.length ++ xs.flatMap out) := by
  intro H R K KP bs v hsub hb hk hp
  have hm : Sl (.slice A xs.length c) xs ∈ R := hsub _ (by simp)
  have hIx : dD (xs.length : Int) := by simp only [dD]; omega
  rw [List.length_append] at hk hp
  refine cP Tryz.func152 rfl Tryz.ntmps152 eZ ?_
  repeat' (first | (apply aF) | (apply aA) | (refine aE rfl rfl ?_; ((first | refine aH ?_ | refine bQ rfl ?_)); refine aB ?_))
  refine fB rfl rfl (fJ bw xs.length hIx) (fun _ h => (by cases h)) rfl rfl hb (fun hle v2 => ?_) (fun hgt => ?_)
  rotate_left
  · skip
    repeat' ((apply aL))
    exact aN (cH H R (fun w hs => hs) (hp (by omega)))
  refine aB ?_
  repeat' (first | (apply aF) | (apply aA) | (apply aT) | (apply aG) | (apply aD) | (refine aE rfl rfl ?_; ((first | refine aH ?_ | refine bQ rfl ?_)); refine aB ?_))
  refine cK [7, 14, 15, 16, 17, 18, 19, 20, 21] (fun m j H2 R2 => ∃ (i : Nat) (bs' : List UInt8) (v' : Value), i + m = xs.length ∧ j 14 = .int .i64 (i : Int) ∧ (∀ p ∈ R, p ∈ R2) ∧ H2 = .row v' 5 1 bs'.length (bA bs') :: .blk bw [v'] 85 :: H ∧ bs'.length ≤ 250000 ∧ bs' ++ (xs.drop i).flatMap out = bs ++ (cL xs.length ++ xs.flatMap out)) xs.length eE ⟨0, bs ++ cL xs.length, v2, by omega, rfl, fun _ h => h, rfl, by rw [List.length_append]; exact hle, by rw [List.append_assoc]; rfl⟩ ?_
  rintro m j' H2 R2 ⟨i, bs', v', him, h14, hR2, hH2, hb', hle2⟩
  subst hH2
  have hm2 := hR2 _ hm
  refine cQ (by simp only [dX, List.foldl_cons, List.foldl_nil, List.set_cons_succ, List.set_cons_zero, h14]; rfl) ?_
  have hlen : bs'.length + ((xs.drop i).flatMap out).length = bs.length + ((cL xs.length).length + (xs.flatMap out).length) := by
    have := congrArg List.length hle2
    simpa only [List.length_append] using this
  have HL := Go.Lib.hid hle2
  clear hle2
  repeat' (first | (refine aE rfl rfl ?_; refine dL rfl rfl hm2 hsz (d := xs[i]) (by simp only [Int.toNat_natCast]; exact List.getElem?_eq_getElem (by omega)) (by omega) (fun b_ o y hy => ?_); refine aB ?_) | (refine aE rfl rfl ?_; refine aZ rfl List.mem_cons_self (cN (hcl _ _)) ?_; refine aB ?_) | (refine bG rfl rfl ?_; refine aO (i := 0) rfl rfl rfl (hcl _ _) (by decide) (hco _ _) ?_; rw [eC (by rw [hcl]; rfl)]; refine aB ?_; refine cA ?_) | (refine aE rfl rfl ?_; refine aM (i := 0) rfl rfl (cN (hcl _ _)) ?_; refine aB ?_) | (apply aF) | (apply aA) | (apply aT) | (apply bE) | (apply bV) | (apply aK; exact rfl) | (apply aI; exact rfl) | (apply aG) | (apply aD) | (apply aS) | (apply aR) | (apply aU; exact rfl; ((refine bM rfl rfl (fun h => ?_) (fun h => ?_))) <;> (refine aB ?_)) | (refine aE rfl rfl ?_; ((refine aH ?_)); refine aB ?_) | (refine bG rfl rfl ?_; ((refine bK cW (fun b => ?_))); refine aB ?_))
  · have hd : (xs.drop i).flatMap out = out xs[i] ++ (xs.drop (i + 1)).flatMap out := by rw [List.drop_eq_getElem_cons (show i < xs.length by omega), List.flatMap_cons]
    rw [hd, List.length_append] at hlen
    have hsub2 : ∀ p ∈ Unp.fs xs[i] y ++ Rx, p ∈ At b_ o (Unp.cs xs[i] y) :: (Unp.fs xs[i] y ++ R2) := fun p hp => List.mem_cons_of_mem _ (by
      rcases List.mem_append.1 hp with h | h
      · exact List.mem_append_left _ h
      · exact List.mem_append_right _ (hR2 _ (hsub _ (List.mem_cons_of_mem _ h))))
    refine eF (.row v' 5 1 bs'.length (bA bs') :: .blk bw [v'] 85 :: H) _ (fun w hs => hs.weaken bU (fun _ h => h)) ?_
    refine nO rfl rfl rfl (hone xs[i] (List.getElem_mem _) y hy) hsub2 rfl rfl hb' (fun hle v3 => ?_) (fun hgt => ?_)
    · refine aB ?_
      repeat' (first | (apply aA) | (apply aG) | (apply aD) | (apply bP) | (apply aU; exact rfl; ((refine bI rfl rfl (by omega) (by omega) ?_)); refine aB ?_) | (refine aE rfl rfl ?_; ((refine aH ?_)); refine aB ?_))
      refine cE (m - 1) _ R2 (by omega) eE ⟨i + 1, bs' ++ out xs[i], v3, by omega, rfl, hR2, rfl, by rw [List.length_append]; exact hle, ?_⟩ (fun w hs => hs.weaken bU (fun p hp => List.mem_cons_of_mem _ (List.mem_append_right _ hp)))
      rw [← HL.out, hd, List.append_assoc]
    · skip
      repeat' (first | (apply aL) | (apply bY))
      refine aN (cH H R (fun w hs => hs.weaken bU (fun p hp => List.mem_cons_of_mem _ (List.mem_append_right _ (hR2 p hp)))) (hp (by omega)))
  · have e := HL.out
    rw [List.drop_of_length_le (by omega), List.flatMap_nil, List.append_nil] at e
    rw [e] at hb' ⊢
    refine bC (.inr rfl) (fV rfl) (eI _ R (fun w hs => hs.weaken bU hR2) (hk (by rw [List.length_append, List.length_append] at hb'; exact hb') v'))
end Go.Proofs.YtggdljhmbckpmaaGreat
namespace Go.Proofs.YtggdljhmbckpmaaGreat
open Go Go.RowKit
set_option maxRecDepth 100000
set_option maxHeartbeats 800000

theorem zU {w0 : World} (bw : Nat) (A : Option Addr) (c : Nat) (xs : List Int) (f1 : FuncId) (first cap : List Value) [FnOk Tryz.prog f1] (out : Int → List UInt8) (Rx : List MP) (hx : xs.length ≤ 9223372036854775807)
    (hone : ∀ x ∈ xs, dD x → Wr Tryz.prog w0 Rx f1 (first ++ [.int .i64 x] ++ cap) bw (out x)) : Wr Tryz.prog w0 (Sl (.slice A xs.length c) xs :: Rx) 122 [.pointer (some ⟨bw, 0, none⟩), .slice A xs.length c, .func (.func f1) first.toArray cap.toArray] bw (cL xs.length ++ xs.flatMap out) := by
  intro H R K KP bs v hsub hb hk hp
  have hm : Sl (.slice A xs.length c) xs ∈ R := hsub _ (by simp)
  have hIx : dD (xs.length : Int) := by simp only [dD]; omega
  rw [List.length_append] at hk hp
  refine cP Tryz.func122 rfl Tryz.ntmps122 eZ ?_
  repeat' (first | (apply aF) | (apply aA) | (refine aE rfl rfl ?_; ((first | refine aH ?_ | refine bQ rfl ?_)); refine aB ?_))
  refine fB rfl rfl (fJ bw xs.length hIx) (fun _ h => (by cases h)) rfl rfl hb (fun hle v2 => ?_) (fun hgt => ?_)
  rotate_left
  · skip
    repeat' ((apply aL))
    exact aN (cH H R (fun w hs => hs) (hp (by omega)))
  refine aB ?_
  repeat' (first | (apply aF) | (apply aA) | (apply aT) | (apply aG) | (apply aD) | (refine aE rfl rfl ?_; ((first | refine aH ?_ | refine bQ rfl ?_)); refine aB ?_))
  refine cK [7, 14, 15, 16, 17, 18, 19, 20, 21] (fun m j H2 R2 => ∃ (i : Nat) (bs' : List UInt8) (v' : Value), i + m = xs.length ∧ j 14 = .int .i64 (i : Int) ∧ (∀ p ∈ R, p ∈ R2) ∧ H2 = .row v' 5 1 bs'.length (bA bs') :: .blk bw [v'] 85 :: H ∧ bs'.length ≤ 250000 ∧ bs' ++ (xs.drop i).flatMap out = bs ++ (cL xs.length ++ xs.flatMap out)) xs.length eE ⟨0, bs ++ cL xs.length, v2, by omega, rfl, fun _ h => h, rfl, by rw [List.length_append]; exact hle, by rw [List.append_assoc]; rfl⟩ ?_
  rintro m j' H2 R2 ⟨i, bs', v', him, h14, hR2, hH2, hb', hle2⟩
  subst hH2
  have hm2 := hR2 _ hm
  refine cQ (by simp only [dX, List.foldl_cons, List.foldl_nil, List.set_cons_succ, List.set_cons_zero, h14]; rfl) ?_
  have hlen : bs'.length + ((xs.drop i).flatMap out).length = bs.length + ((cL xs.length).length + (xs.flatMap out).length) := by
    have := congrArg List.length hle2
    simpa only [List.length_append] using this
  have HL := Go.Lib.hid hle2
  clear hle2
  repeat' (first | (apply aF) | (apply aA) | (apply aT) | (apply bE) | (apply bV) | (apply aK; exact rfl) | (apply aI; exact rfl) | (apply aG) | (apply aD) | (apply aS) | (apply aR) | (apply aP; exact rfl; ((refine aZ rfl cJ rfl ?_)); refine aB ?_) | (apply aU; exact rfl; ((refine bM rfl rfl (fun h => ?_) (fun h => ?_))) <;> (refine aB ?_)) | (apply gL; exact rfl; ((refine hX eJ rfl aV (List.getElem?_eq_getElem (by omega)) (fun b o hI => ?_))); refine aB ?_) | (refine aE rfl rfl ?_; ((first | refine aH ?_ | refine aX ?_)); refine aB ?_))
  · have hd : (xs.drop i).flatMap out = out xs[i] ++ (xs.drop (i + 1)).flatMap out := by rw [List.drop_eq_getElem_cons (show i < xs.length by omega), List.flatMap_cons]
    rw [hd, List.length_append] at hlen
    refine nO rfl rfl rfl (hone xs[i] (List.getElem_mem _) hI) (fun p hp => List.mem_cons_of_mem _ (hR2 _ (hsub _ (List.mem_cons_of_mem _ hp)))) rfl rfl hb' (fun hle v3 => ?_) (fun hgt => ?_)
    · refine aB ?_
      repeat' (first | (apply aA) | (apply aG) | (apply aD) | (apply bP) | (apply aU; exact rfl; ((refine bI rfl rfl (by omega) (by omega) ?_)); refine aB ?_) | (refine aE rfl rfl ?_; ((refine aH ?_)); refine aB ?_))
      refine cE (m - 1) _ R2 (by omega) eE ⟨i + 1, bs' ++ out xs[i], v3, by omega, rfl, hR2, rfl, by rw [List.length_append]; exact hle, ?_⟩ (fun w hs => hs.weaken bU cZ)
      rw [← HL.out, hd, List.append_assoc]
    · skip
      repeat' (first | (apply aL) | (apply bY))
      refine aN (cH H R (fun w hs => hs.weaken bU (fun p hp => List.mem_cons_of_mem _ (hR2 p hp))) (hp (by omega)))
  · have e := HL.out
    rw [List.drop_of_length_le (by omega), List.flatMap_nil, List.append_nil] at e
    rw [e] at hb' ⊢
    refine bC (.inr rfl) (fV rfl) (eI _ R (fun w hs => hs.weaken bU hR2) (hk (by rw [List.length_append, List.length_append] at hb'; exact hb') v'))

def fY (xs : List Int) : List UInt8 := cL xs.length ++ xs.flatMap cL
theorem pR {w0 : World} (bw : Nat) (A : Option Addr) (c : Nat) (xs : List Int) (hx : xs.length ≤ 9223372036854775807) : Wr Tryz.prog w0 [Sl (.slice A xs.length c) xs] 68 [.pointer (some ⟨bw, 0, none⟩), .slice A xs.length c] bw (fY xs) := by
  intro H R K KP bs v hsub hb hk hp
  refine cP Tryz.func68 rfl Tryz.ntmps68 eZ ?_
  repeat' (first | (apply aA) | (refine aE rfl rfl ?_; ((first | refine aH ?_ | refine cM gP gP ?_)); refine aB ?_))
  refine fB rfl rfl (zU bw A c xs 79 [.pointer (some ⟨bw, 0, none⟩)] [] cL [] hx (fun x _ hI => fJ bw x hI)) hsub rfl rfl hb (fun hle v2 => ?_) (fun hgt => ?_)
  · refine aB ?_
    repeat' ((apply aG))
    exact bC (.inr rfl) (fV rfl) (eI _ R (fun w hs => hs) (hk hle v2))
  · skip
    repeat' (fail)
    exact aN (cH H R (fun w hs => hs) (hp hgt))
section
variable {F : Fence} {n : Nat} {P : Program} {w0 : World} {D : List Deferred} {ops : Array Oper} {Q : Exit → Act → World → Prop} {rest : List Oper} {E : List Value} {H : List Hp} {R : List MP}
def mG (xs : List Int) : List Value := xs.map (fun x => .int .i64 x)
theorem wV (xs : List Int) (h : ∀ x ∈ xs, dD x) (s : Sto) : (Cx (mG xs) xs).p s := by
  refine ⟨by simp [Rep.size, mG], fun j x hj => ?_⟩
  have hj' : (mG xs)[j]? = some (.int .i64 x) := by simp [mG, hj]
  obtain ⟨h1, h2⟩ := List.getElem?_eq_some_iff.1 hj'
  show ((mG xs).drop (j * 1)).take 1 = [.int .i64 x] ∧ dD x
  rw [Nat.mul_one, List.drop_eq_getElem_cons h1, h2]
  exact ⟨rfl, h x (List.mem_of_getElem? hj)⟩
/-- A block of numbers on top is made to stay. -/
theorem mI (xs : List Int) {b : Nat} {cs : List Value} {T' : TypeId} (hc : cs = mG xs) (h : ∀ x ∈ xs, dD x) (hl : xs.length ≤ 1000) (k : T F n P w0 D ops Q rest E H (Sl (.slice (some ⟨b, 0, none⟩) xs.length xs.length) xs :: R)) : T F n P w0 D ops Q rest E (.blk b cs T' :: H) R := eF _ _ (fun w hs => by
  subst hc
  exact ((hs.learn (Cx (mG xs) xs) (fun s _ => wV xs h s)).blk_stays (i := 0) (b := b) (T := T') (cs := mG xs) (n := xs.length) (c := xs.length) (sp := []) (by simp) List.mem_cons_self rfl (Nat.le_refl _) (by simp only [dY]; omega)).weaken (List.Sublist.refl _) (bL List.mem_cons_self (fun p hp => List.mem_cons_of_mem _ (List.mem_cons_of_mem _ hp)))) k
end
end Go.Proofs.YtggdljhmbckpmaaGreat
namespace Go.Proofs.YtggdljhmbckpmaaGreat
open Go Go.RowKit
set_option maxRecDepth 100000
set_option maxHeartbeats 1600000

theorem wT {w0 : World} (bw : Nat) {αF : Type} [Rep αF] [Unp αF] {αB : Type} [Rep αB] [Unp αB] {αS : Type} [Rep αS] [Unp αS] {αV : Type} [Rep αV] [Unp αV] {αT : Type} [Rep αT] [Unp αT] {αC : Type} [Rep αC] [Unp αC] (mode at_ frame bracket scope pars steps : Int) (lax : Bool) (hI : ∀ x ∈ [mode, at_, frame, bracket, scope, pars], dD x) (hIs : dD steps) (A1 : Option Addr) (c1 : Nat) (there : List Int) (h1 : there.length ≤ 9223372036854775807) (A2 : Option Addr) (c2 : Nat) (gone : List Int) (h2 : gone.length ≤ 9223372036854775807)
    (hszF : Rep.size αF = 5) (hclF : ∀ (x : αF) y, (Unp.cs x y).length = 5) (hcoF : ∀ (x : αF) y, ∀ u ∈ Unp.cs x y, u.oneCell' = true) (AF : Option Addr) (cF : Nat) (lF : List αF) (hlF : lF.length ≤ 9223372036854775807) (oF : αF → List UInt8)
    (hF : ∀ x ∈ lF, ∀ y, Unp.ok x y → Wr Tryz.prog w0 (Unp.fs x y) 70 [.pointer (some ⟨bw, 0, none⟩), .agg (Unp.cs x y).toArray] bw (oF x))
    (hszB : Rep.size αB = 7) (hclB : ∀ (x : αB) y, (Unp.cs x y).length = 7) (hcoB : ∀ (x : αB) y, ∀ u ∈ Unp.cs x y, u.oneCell' = true) (AB : Option Addr) (cB : Nat) (lB : List αB) (hlB : lB.length ≤ 9223372036854775807) (oB : αB → List UInt8)
    (hB : ∀ x ∈ lB, ∀ y, Unp.ok x y → Wr Tryz.prog w0 (Unp.fs x y) 72 [.pointer (some ⟨bw, 0, none⟩), .agg (Unp.cs x y).toArray] bw (oB x))
    (hszS : Rep.size αS = 7) (hclS : ∀ (x : αS) y, (Unp.cs x y).length = 7) (hcoS : ∀ (x : αS) y, ∀ u ∈ Unp.cs x y, u.oneCell' = true) (AS : Option Addr) (cS : Nat) (lS : List αS) (hlS : lS.length ≤ 9223372036854775807) (oS : αS → List UInt8)
    (hS : ∀ x ∈ lS, ∀ y, Unp.ok x y → Wr Tryz.prog w0 (Unp.fs x y) 74 [.pointer (some ⟨bw, 0, none⟩), .agg (Unp.cs x y).toArray] bw (oS x))
    (hszV : Rep.size αV = 8) (hclV : ∀ (x : αV) y, (Unp.cs x y).length = 8) (hcoV : ∀ (x : αV) y, ∀ u ∈ Unp.cs x y, u.oneCell' = true) (AV : Option Addr) (cV : Nat) (lV : List αV) (hlV : lV.length ≤ 9223372036854775807) (oV : αV → List UInt8)
    (hV : ∀ x ∈ lV, ∀ y, Unp.ok x y → Wr Tryz.prog w0 (Unp.fs x y) 76 [.pointer (some ⟨bw, 0, none⟩), .agg (Unp.cs x y).toArray] bw (oV x))
    (hszT : Rep.size αT = 9) (hclT : ∀ (x : αT) y, (Unp.cs x y).length = 9) (hcoT : ∀ (x : αT) y, ∀ u ∈ Unp.cs x y, u.oneCell' = true) (AT : Option Addr) (cT : Nat) (lT : List αT) (hlT : lT.length ≤ 9223372036854775807) (oT : αT → List UInt8)
    (hT : ∀ b2 : Nat, ∀ x ∈ lT, ∀ y, Unp.ok x y → Wr Tryz.prog w0 (Unp.fs x y ++ [At b2 0 [.pointer (some ⟨bw, 0, none⟩)]]) 78 [.agg (Unp.cs x y).toArray, .pointer (some ⟨b2, 0, none⟩)] bw (oT x))
    (hszC : Rep.size αC = 18) (hclC : ∀ (x : αC) y, (Unp.cs x y).length = 18) (hcoC : ∀ (x : αC) y, ∀ u ∈ Unp.cs x y, u.oneCell' = true) (AC : Option Addr) (cC : Nat) (lC : List αC) (hlC : lC.length ≤ 9223372036854775807) (oC : αC → List UInt8)
    (hC : ∀ x ∈ lC, ∀ y, Unp.ok x y → Wr Tryz.prog w0 (Unp.fs x y) 81 [.pointer (some ⟨bw, 0, none⟩), .agg (Unp.cs x y).toArray] bw (oC x)) :
    Wr Tryz.prog w0 [Sl (.slice A1 there.length c1) there, Sl (.slice A2 gone.length c2) gone, Sl (.slice AF lF.length cF) lF, Sl (.slice AB lB.length cB) lB, Sl (.slice AS lS.length cS) lS, Sl (.slice AV lV.length cV) lV, Sl (.slice AT lT.length cT) lT, Sl (.slice AC lC.length cC) lC] 30 [.pointer (some ⟨bw, 0, none⟩), .agg #[.int .i64 mode, .int .i64 at_, .int .i64 frame, .int .i64 bracket, .int .i64 scope, .int .i64 pars, .bool lax, .slice A1 there.length c1, .slice A2 gone.length c2, .slice AF lF.length cF, .slice AB lB.length cB, .slice AS lS.length cS, .slice AV lV.length cV, .slice AT lT.length cT, .slice AC lC.length cC, .int .i64 steps]] bw ([mode, at_, frame, bracket, scope, pars].flatMap cL ++ (gN lax ++ (fY there ++ (fY gone ++ ((cL lF.length ++ lF.flatMap oF) ++ ((cL lB.length ++ lB.flatMap oB) ++ ((cL lS.length ++ lS.flatMap oS) ++ ((cL lV.length ++ lV.flatMap oV) ++ ((cL lT.length ++ lT.flatMap oT) ++ ((cL lC.length ++ lC.flatMap oC) ++ (cL steps))))))))))) := by
  intro H R K KP bs v hsub hb hk hp
  simp only [List.length_append] at hp
  refine cP Tryz.func30 rfl Tryz.ntmps30 eZ ?_
  apply aF; apply aA
  repeat' ((refine bG rfl rfl ?_; ((refine eB cW (fun b => ?_))); refine aB ?_))
  apply aG; apply aD
  rename_i b2
  refine eS 0 rfl ?_
  refine eS 0 rfl ?_
  refine iI rZ ?_
  have hS1 : Sl (.slice A1 there.length c1) there ∈ R := hsub _ (by simp)
  have hS2 : Sl (.slice A2 gone.length c2) gone ∈ R := hsub _ (by simp)
  have hSF : Sl (.slice AF lF.length cF) lF ∈ R := hsub _ (by simp)
  have hSB : Sl (.slice AB lB.length cB) lB ∈ R := hsub _ (by simp)
  have hSS : Sl (.slice AS lS.length cS) lS ∈ R := hsub _ (by simp)
  have hSV : Sl (.slice AV lV.length cV) lV ∈ R := hsub _ (by simp)
  have hST : Sl (.slice AT lT.length cT) lT ∈ R := hsub _ (by simp)
  have hSC : Sl (.slice AC lC.length cC) lC ∈ R := hsub _ (by simp)
  clear hsub
  repeat' (first | (apply aF) | (apply aA) | (apply aP; exact rfl; ((first | refine aQ rfl cJ rfl ?_ | refine aZ rfl cJ rfl ?_)); refine aB ?_) | (refine aE rfl rfl ?_; ((refine aC rfl ?_)); refine aB ?_) | (refine bG rfl rfl ?_; ((refine bH (by decide) fD rfl (fun b => ?_))); refine aB ?_))
  refine mI [mode, at_, frame, bracket, scope, pars] rfl hI (by simp) ?_
  repeat' (fail)
  refine fB rfl rfl (iT bw (some ⟨b, 0, none⟩) 6 [mode, at_, frame, bracket, scope, pars] (by simp)) (bL List.mem_cons_self (fun _ h => (by cases h))) rfl rfl hb (fun hle0 v0 => ?_) (fun hgt => ?_)
  rotate_left
  · skip
    repeat' ((apply aL))
    exact aN (cH H R (fun w hs => hs.weaken bU cZ) (hp (by (omega))))
  refine aB ?_
  repeat' (first | (apply aF) | (apply aA) | (apply aG) | (apply aD) | (apply aP; exact rfl; ((first | refine aQ rfl cJ rfl ?_ | refine aZ rfl cJ rfl ?_)); refine aB ?_) | (refine aE rfl rfl ?_; ((refine aC rfl ?_)); refine aB ?_))
  refine fB rfl rfl (oU bw lax) (fun _ h => (by cases h)) rfl rfl (by rw [List.length_append]; exact hle0) (fun hle1 v1 => ?_) (fun hgt => ?_)
  rotate_left
  · skip
    repeat' ((apply aL))
    exact aN (cH H R (fun w hs => hs.weaken bU cZ) (hp (by ((simp only [List.length_append] at hgt ⊢; omega)))))
  refine aB ?_
  repeat' (first | (apply aF) | (apply aA) | (apply aG) | (apply aD) | (apply aP; exact rfl; ((first | refine aQ rfl cJ rfl ?_ | refine aZ rfl cJ rfl ?_)); refine aB ?_) | (refine aE rfl rfl ?_; ((refine aC rfl ?_)); refine aB ?_))
  refine fB rfl rfl (pR bw A1 c1 there h1) (bL aV (fun _ h => (by cases h))) rfl rfl (by rw [List.length_append]; exact hle1) (fun hle2 v2 => ?_) (fun hgt => ?_)
  rotate_left
  · skip
    repeat' ((apply aL))
    exact aN (cH H R (fun w hs => hs.weaken bU cZ) (hp (by ((simp only [List.length_append] at hgt ⊢; omega)))))
  refine aB ?_
  repeat' (first | (apply aF) | (apply aA) | (apply aG) | (apply aD) | (apply aP; exact rfl; ((first | refine aQ rfl cJ rfl ?_ | refine aZ rfl cJ rfl ?_)); refine aB ?_) | (refine aE rfl rfl ?_; ((refine aC rfl ?_)); refine aB ?_))
  refine fB rfl rfl (pR bw A2 c2 gone h2) (bL aV (fun _ h => (by cases h))) rfl rfl (by rw [List.length_append]; exact hle2) (fun hle3 v3 => ?_) (fun hgt => ?_)
  rotate_left
  · skip
    repeat' ((apply aL))
    exact aN (cH H R (fun w hs => hs.weaken bU cZ) (hp (by ((simp only [List.length_append] at hgt ⊢; omega)))))
  refine aB ?_
  repeat' (first | (apply aF) | (apply aA) | (apply aG) | (apply aD) | (apply aP; exact rfl; ((first | refine aQ rfl cJ rfl ?_ | refine aZ rfl cJ rfl ?_)); refine aB ?_) | (refine aE rfl rfl ?_; ((first | refine aC rfl ?_ | refine cM gP gP ?_)); refine aB ?_))
  refine fB rfl rfl (aC6 hszF hclF hcoF bw AF cF lF 70 [.pointer (some ⟨bw, 0, none⟩)] [] oF [] hlF (fun x hx y hy => by rw [List.append_nil]; exact hF x hx y hy)) (bL aV (fun _ h => (by cases h))) rfl rfl (by rw [List.length_append]; exact hle3) (fun hle4 v4 => ?_) (fun hgt => ?_)
  rotate_left
  · skip
    repeat' ((apply aL))
    exact aN (cH H R (fun w hs => hs.weaken bU cZ) (hp (by ((simp only [List.length_append] at hgt ⊢; omega)))))
  refine aB ?_
  repeat' (first | (apply aF) | (apply aA) | (apply aG) | (apply aD) | (apply aP; exact rfl; ((first | refine aQ rfl cJ rfl ?_ | refine aZ rfl cJ rfl ?_)); refine aB ?_) | (refine aE rfl rfl ?_; ((first | refine aC rfl ?_ | refine cM gP gP ?_)); refine aB ?_))
  refine fB rfl rfl (aA7 hszB hclB hcoB bw AB cB lB 72 [.pointer (some ⟨bw, 0, none⟩)] [] oB [] hlB (fun x hx y hy => by rw [List.append_nil]; exact hB x hx y hy)) (bL aV (fun _ h => (by cases h))) rfl rfl (by rw [List.length_append]; exact hle4) (fun hle5 v5 => ?_) (fun hgt => ?_)
  rotate_left
  · skip
    repeat' ((apply aL))
    exact aN (cH H R (fun w hs => hs.weaken bU cZ) (hp (by ((simp only [List.length_append] at hgt ⊢; omega)))))
  refine aB ?_
  repeat' (first | (apply aF) | (apply aA) | (apply aG) | (apply aD) | (apply aP; exact rfl; ((first | refine aQ rfl cJ rfl ?_ | refine aZ rfl cJ rfl ?_)); refine aB ?_) | (refine aE rfl rfl ?_; ((first | refine aC rfl ?_ | refine cM gP gP ?_)); refine aB ?_))
  refine fB rfl rfl (aC5 hszS hclS hcoS bw AS cS lS 74 [.pointer (some ⟨bw, 0, none⟩)] [] oS [] hlS (fun x hx y hy => by rw [List.append_nil]; exact hS x hx y hy)) (bL aV (fun _ h => (by cases h))) rfl rfl (by rw [List.length_append]; exact hle5) (fun hle6 v6 => ?_) (fun hgt => ?_)
  rotate_left
  · skip
    repeat' ((apply aL))
    exact aN (cH H R (fun w hs => hs.weaken bU cZ) (hp (by ((simp only [List.length_append] at hgt ⊢; omega)))))
  refine aB ?_
  repeat' (first | (refine aP rfl ?_; refine aQ (o := 0) (q := 12) rfl aV rfl ?_; refine aB ?_) | (apply aF) | (apply aA) | (apply aG) | (apply aD) | (apply aP; exact rfl; ((refine aZ rfl cJ rfl ?_)); refine aB ?_) | (refine aE rfl rfl ?_; ((first | refine aC rfl ?_ | refine cM gP gP ?_)); refine aB ?_))
  refine fB rfl rfl (aB8 hszV hclV hcoV bw AV cV lV 76 [.pointer (some ⟨bw, 0, none⟩)] [] oV [] hlV (fun x hx y hy => by rw [List.append_nil]; exact hV x hx y hy)) (bL aV (fun _ h => (by cases h))) rfl rfl (by rw [List.length_append]; exact hle6) (fun hle7 v7 => ?_) (fun hgt => ?_)
  rotate_left
  · skip
    repeat' ((apply aL))
    exact aN (cH H R (fun w hs => hs.weaken bU cZ) (hp (by ((simp only [List.length_append] at hgt ⊢; omega)))))
  refine aB ?_
  repeat' (first | (apply aF) | (apply aA) | (apply aG) | (apply aD) | (apply aP; exact rfl; ((first | refine aQ rfl cJ rfl ?_ | refine aZ rfl cJ rfl ?_)); refine aB ?_) | (refine aE rfl rfl ?_; ((first | refine aC rfl ?_ | refine cM gP gP ?_)); refine aB ?_))
  refine fB rfl rfl (aB6 hszT hclT hcoT bw AT cT lT 78 [] [.pointer (some ⟨b2, 0, none⟩)] oT [At b2 0 [.pointer (some ⟨bw, 0, none⟩)]] hlT (fun x hx y hy => hT b2 x hx y hy)) (bL aV (bL aV (fun _ h => (by cases h)))) rfl rfl (by rw [List.length_append]; exact hle7) (fun hle8 v8 => ?_) (fun hgt => ?_)
  rotate_left
  · skip
    repeat' ((apply aL))
    exact aN (cH H R (fun w hs => hs.weaken bU cZ) (hp (by ((simp only [List.length_append] at hgt ⊢; omega)))))
  refine aB ?_
  repeat' (first | (apply aF) | (apply aA) | (apply aG) | (apply aD) | (apply aP; exact rfl; ((first | refine aQ rfl cJ rfl ?_ | refine aZ rfl cJ rfl ?_)); refine aB ?_) | (refine aE rfl rfl ?_; ((first | refine aC rfl ?_ | refine cM gP gP ?_)); refine aB ?_))
  refine fB rfl rfl (z8 hszC hclC hcoC bw AC cC lC 81 [.pointer (some ⟨bw, 0, none⟩)] [] oC [] hlC (fun x hx y hy => by rw [List.append_nil]; exact hC x hx y hy)) (bL aV (fun _ h => (by cases h))) rfl rfl (by rw [List.length_append]; exact hle8) (fun hle9 v9 => ?_) (fun hgt => ?_)
  rotate_left
  · skip
    repeat' ((apply aL))
    exact aN (cH H R (fun w hs => hs.weaken bU cZ) (hp (by ((simp only [List.length_append] at hgt ⊢; omega)))))
  refine aB ?_
  repeat' (first | (apply aA) | (apply aG) | (apply aD) | (apply aP; exact rfl; ((first | refine aQ rfl cJ rfl ?_ | refine aZ rfl cJ rfl ?_)); refine aB ?_) | (refine aE rfl rfl ?_; ((refine aC rfl ?_)); refine aB ?_))
  refine fB rfl rfl (fJ bw steps hIs) (fun _ h => (by cases h)) rfl rfl (by rw [List.length_append]; exact hle9) (fun hle10 v10 => ?_) (fun hgt => ?_)
  rotate_left
  · skip
    repeat' (fail)
    exact aN (cH H R (fun w hs => hs.weaken bU cZ) (hp (by ((simp only [List.length_append] at hgt ⊢; omega)))))
  refine aB ?_
  repeat' ((apply aG))
  refine bC (.inr rfl) (fV rfl) (eI _ R (fun w hs => ?_) (hk (by simp only [List.length_append] at hle10 ⊢; omega) v10))
  simp only [List.append_assoc] at hs ⊢
  exact hs.weaken bU cZ
end Go.Proofs.YtggdljhmbckpmaaGreat
namespace Go.Proofs.YtggdljhmbckpmaaGreat
open Go Go.RowKit
set_option maxRecDepth 100000
set_option maxHeartbeats 1600000

theorem tZ {P : Program} {w0 : World} {f : FuncId} {args : Array Value} {H : List Hp} {R : List MP} {K K' : Value → List Hp → List MP → Prop} (h : CallsK P w0 f args H R K') (hk : ∀ v H' R', K' v H' R' → ∃ H2 R2, (∀ w, S w0 w H' R' → S w0 w H2 R2) ∧ K v H2 R2) : CallsK P w0 f args H R K := by
  unfold CallsK at *
  exact fun w hs => (h w hs).mono (fun e w' ⟨v, H', R', e1, hs', k⟩ => by
    obtain ⟨H2, R2, h1, h2⟩ := hk v H' R' k
    exact ⟨v, H2, R2, e1, h1 w' hs', h2⟩)
structure Dum (n : Nat) where
  x : Unit
instance (n : Nat) : Rep (Dum n) := ⟨n, fun _ _ _ => False, fun _ h => h, fun h => h.elim, fun h => h.elim⟩
instance (n : Nat) : Unp (Dum n) := ⟨Unit, fun _ _ => List.replicate n (.int .i64 0), fun _ _ => False, fun _ _ => [], fun h => h.elim, fun h _ => h.elim⟩
theorem nG (n : Nat) (x : Dum n) (y : Unp.Y (Dum n)) : (Unp.cs x y).length = n := List.length_replicate
theorem nC (n : Nat) (x : Dum n) (y : Unp.Y (Dum n)) : ∀ u ∈ Unp.cs x y, u.oneCell' = true := fun u hu => by
  obtain ⟨_, rfl⟩ := List.mem_replicate.1 hu
  rfl
def encZ : List UInt8 := [109, 97, 1, 0, 0, 0, 0, 0, 0, 0, 0, 0, 0, 0, 0, 0, 0, 0, 0]
theorem yH {w0 : World} {H : List Hp} {R : List MP} {K : Value → List Hp → List MP → Prop} (k : KB K (encZ, 0) H R) : CallsK Tryz.prog w0 7 #[.agg #[.int .i64 0, .int .i64 0, .int .i64 0, .int .i64 0, .int .i64 0, .int .i64 0, .bool false, .slice none 0 0, .slice none 0 0, .slice none 0 0, .slice none 0 0, .slice none 0 0, .slice none 0 0, .slice none 0 0, .slice none 0 0, .int .i64 0]] H R K := by
  refine gW (Sl (.slice none 0 0) ([] : List Int)) (fun s _ => kN Int s) ?_
  refine gW (Sl (.slice none 0 0) ([] : List (Dum 5))) (fun s _ => kN _ s) ?_
  refine gW (Sl (.slice none 0 0) ([] : List (Dum 7))) (fun s _ => kN _ s) ?_
  refine gW (Sl (.slice none 0 0) ([] : List (Dum 8))) (fun s _ => kN _ s) ?_
  refine gW (Sl (.slice none 0 0) ([] : List (Dum 9))) (fun s _ => kN _ s) ?_
  refine gW (Sl (.slice none 0 0) ([] : List (Dum 18))) (fun s _ => kN _ s) ?_
  refine tZ (K' := fun v H' R' => ∃ A c, v = .tuple #[.slice A encZ.length c, .int .i64 0] ∧ H' = H ∧ R' = Sl (.slice A encZ.length c) encZ :: _) (tX [.int .i64 0, .int .i64 0, .int .i64 0, .int .i64 0, .int .i64 0, .int .i64 0, .bool false, .slice none 0 0, .slice none 0 0, .slice none 0 0, .slice none 0 0, .slice none 0 0, .slice none 0 0, .slice none 0 0, .slice none 0 0, .int .i64 0] _
    (fun bw => wT bw (αF := Dum 5) (αB := Dum 7) (αS := Dum 7) (αV := Dum 8) (αT := Dum 9) (αC := Dum 18) 0 0 0 0 0 0 0 false (by intro x hx; simp at hx; subst hx; simp [dD]) (by simp [dD]) none 0 [] (by simp) none 0 [] (by simp)
      rfl (nG 5) (nC 5) none 0 [] (by simp) (fun _ => []) (fun x hx => by cases hx)
      rfl (nG 7) (nC 7) none 0 [] (by simp) (fun _ => []) (fun x hx => by cases hx)
      rfl (nG 7) (nC 7) none 0 [] (by simp) (fun _ => []) (fun x hx => by cases hx)
      rfl (nG 8) (nC 8) none 0 [] (by simp) (fun _ => []) (fun x hx => by cases hx)
      rfl (nG 9) (nC 9) none 0 [] (by simp) (fun _ => []) (fun b2 x hx => by cases hx)
      rfl (nG 18) (nC 18) none 0 [] (by simp) (fun _ => []) (fun x hx => by cases hx)) rfl ?_ (fun A c => ⟨A, c, rfl, rfl, rfl⟩)) ?_
  · intro p hp
    simp only [List.mem_cons, List.not_mem_nil, or_false] at hp
    rcases hp with rfl | rfl | rfl | rfl | rfl | rfl | rfl | rfl <;> simp
  · rintro v H' R' ⟨A, c, rfl, rfl, rfl⟩
    exact ⟨H', Sl (.slice A encZ.length c) encZ :: R, fun w hs => hs.weaken bU (bL List.mem_cons_self (fun p hp => by simp [hp])), k A c⟩
end Go.Proofs.YtggdljhmbckpmaaGreat
