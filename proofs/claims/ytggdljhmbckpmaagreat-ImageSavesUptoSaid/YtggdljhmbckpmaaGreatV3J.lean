/- The reference's reader: lengths, truths, texts: walks; lists: plain laws. The reference's reader: lists: walks, printed by gen_vf.py. -/
import Derived.Test.YtggdljhmbckpmaaGreatV1J
set_option linter.unusedVariables false
set_option linter.unusedSimpArgs false
namespace Go.Proofs.YtggdljhmbckpmaaGreat
open Go Go.RowKit
set_option maxRecDepth 100000
set_option maxHeartbeats 3200000

theorem length_f {w0 : World} {H : List Hp} {R : List MP} {K : Value → List Hp → List MP → Prop} (br : Nat) (A : Option Addr) (c : Nat) (xs : List UInt8) (hx : xs.length ≤ 250000) (a : Nat) (b : Bool) (o : Nat) (hax : a ≤ xs.length) (hm : Sl (.slice A xs.length c) xs ∈ R)
    (hk : ∀ (n a' : Nat) b' o', Out xs (lD xs) ⟨a, b, o⟩ n ⟨a', b', o'⟩ → a ≤ a' → (b' = true → n = 0) → (b' = false → a + 1 ≤ a') → n + a' ≤ xs.length → K (.int .i64 (n : Int)) (.blk br (iA A c xs a' b' o') 105 :: H) R) :
    CallsK Tryz.prog w0 102 #[.pointer (some ⟨br, 0, none⟩)] (.blk br (iA A c xs a b o) 105 :: H) R K := by
  refine bV Tryz.func102 rfl Tryz.ntmps102 fI ?_
  repeat' (first | (apply aF) | (apply aA) | (apply aH) | (apply aD) | (refine aE rfl rfl ?_; ((first | refine aG ?_ | refine aY ?_)); refine aB ?_))
  refine yA rfl rfl (eG br A c xs hx) (fun _ => Nat.zero_le _) hax hm (fun x a1 b1 o1 y ho le1 hle1 hI => ?_)
  refine aB ?_
  refine T_rp (R' := R) rfl ?_
  have hI' : -9223372036854775808 ≤ x ∧ x ≤ 9223372036854775807 := hI
  cases b1 with
  | true =>
    repeat' (first | (apply aF) | (apply aH) | (apply aD) | (refine aE rfl rfl ?_; ((refine aY ?_)); refine aB ?_))
    refine eC fK jN (fun _ _ _ _ _ _ h => h) (List.Sublist.refl _) ?_
    all_goals ((refine bG 0 ?_; ((refine aG ?_)); refine aI ?_))
    all_goals ((refine bG 1 ?_; ((refine bA rfl ?_)); refine aI ?_))
    all_goals ((refine bG 2 ?_; ((refine aC rfl ?_)); refine aI ?_))
    all_goals ((refine bG 3 ?_; ((refine aL (i := 0) rfl rfl rfl ?_)); refine aI ?_))
    all_goals ((refine bG 4 ?_; ((refine dJ rfl ?_)); refine aI ?_))
    all_goals ((refine bG 5 ?_; ((refine aG ?_)); refine aI ?_))
    all_goals ((refine dS 6 (List.Sublist.refl _) ?_))
    all_goals ((refine dS 7 (List.Sublist.refl _) ?_))
    all_goals ((refine dS 8 (List.Sublist.refl _) ?_))
    all_goals ((refine dS 9 (List.Sublist.refl _) ?_))
    all_goals ((refine dS 10 (List.Sublist.refl _) ?_))
    all_goals ((refine dS 11 (List.Sublist.refl _) ?_))
    all_goals ((refine dS 12 (List.Sublist.refl _) ?_))
    all_goals ((refine dS 13 (List.Sublist.refl _) ?_))
    all_goals ((refine dS 14 (List.Sublist.refl _) ?_))
    all_goals ((refine dS 15 (List.Sublist.refl _) ?_))
    all_goals ((refine dS 16 (List.Sublist.refl _) ?_))
    all_goals ((refine dS 17 (List.Sublist.refl _) ?_))
    all_goals ((refine dS 18 (List.Sublist.refl _) ?_))
    all_goals ((refine dS 19 (List.Sublist.refl _) ?_))
    all_goals ((refine dS 20 (List.Sublist.refl _) ?_))
    all_goals ((refine dS 21 (List.Sublist.refl _) ?_))
    all_goals ((refine bG 22 ?_; ((refine cH rfl eR ?_)); refine aI ?_))
    all_goals refine iC ?_
    repeat' (first | (apply aF) | (apply aA) | (apply bP) | (apply bF) | (apply aK; exact rfl) | (apply aJ; exact rfl) | (apply aH) | (apply aD) | (apply bN) | (apply aP; exact rfl; ((refine aL (i := 0) rfl rfl rfl ?_)); refine aB ?_) | (refine aE rfl rfl ?_; ((first | refine aG ?_ | refine aY ?_ | refine bA rfl ?_ | refine aC rfl ?_)); refine aB ?_))
    refine aZ (.inl rfl) (dP rfl (bR rfl)) (cA _ R (fun w hs => hs) ?_)
    refine hk 0 a1 true o1 ?_ le1 (fun _ => rfl) (fun h => by cases h) aO
    cases b with
    | true =>
      have := ho.bad rfl
      cases this
      exact Out.mk_bad rfl hle1
    | false => exact Out.mk_er (by unfold lD; rw [ho.fault rfl rfl]) le1 hle1
  | false =>
    obtain ⟨hb, hd, hoo⟩ := ho.good rfl
    cases hb
    cases hoo
    have hpos := (eT hd).2
    simp only at hpos hd
    repeat' (first | (apply aF) | (apply aH) | (apply aD) | (refine aE rfl rfl ?_; ((refine aY ?_)); refine aB ?_))
    refine eC fK jN (fun _ _ _ _ _ _ h => h) (List.Sublist.refl _) ?_
    all_goals ((refine bG 0 ?_; ((refine aG ?_)); refine aI ?_))
    all_goals ((refine bG 1 ?_; ((refine bA rfl ?_)); refine aI ?_))
    all_goals ((refine bG 2 ?_; ((refine aC rfl ?_)); refine aI ?_))
    all_goals ((refine bG 3 ?_; ((refine aL (i := 0) rfl rfl rfl ?_)); refine aI ?_))
    all_goals ((refine bG 4 ?_; ((refine dJ rfl ?_)); refine aI ?_))
    all_goals ((refine bG 5 ?_; ((refine aG ?_)); refine aI ?_))
    all_goals ((refine bG 6 ?_; ((refine aG ?_)); refine aI ?_))
    all_goals ((refine bG 7 ?_; ((refine bQ rfl rfl (fun h => ?_) (fun h => ?_))) <;> (refine aI ?_)))
    all_goals ((refine bG 8 ?_; ((refine aG ?_)); refine aI ?_))
    all_goals (first | (refine bG 9 ?_; ((refine aG ?_)); refine aI ?_) | (refine dS 9 (List.Sublist.refl _) ?_))
    all_goals (first | (refine bG 10 ?_; ((refine aG ?_)); refine aI ?_) | (refine dS 10 (List.Sublist.refl _) ?_))
    all_goals (first | (refine bG 11 ?_; ((refine bA rfl ?_)); refine aI ?_) | (refine dS 11 (List.Sublist.refl _) ?_))
    all_goals (first | (refine bG 12 ?_; ((refine aC rfl ?_)); refine aI ?_) | (refine dS 12 (List.Sublist.refl _) ?_))
    all_goals (first | (refine bG 13 ?_; ((refine aL (i := 0) rfl rfl rfl ?_)); refine aI ?_) | (refine dS 13 (List.Sublist.refl _) ?_))
    all_goals (first | (refine bG 14 ?_; ((refine bS rfl ?_)); refine aI ?_) | (refine dS 14 (List.Sublist.refl _) ?_))
    all_goals (first | (refine bG 15 ?_; ((refine aG ?_)); refine aI ?_) | (refine dS 15 (List.Sublist.refl _) ?_))
    all_goals (first | (refine bG 16 ?_; ((refine bA rfl ?_)); refine aI ?_) | (refine dS 16 (List.Sublist.refl _) ?_))
    all_goals (first | (refine bG 17 ?_; ((refine aC rfl ?_)); refine aI ?_) | (refine dS 17 (List.Sublist.refl _) ?_))
    all_goals (first | (refine bG 18 ?_; ((refine aL (i := 0) rfl rfl rfl ?_)); refine aI ?_) | (refine dS 18 (List.Sublist.refl _) ?_))
    all_goals (first | (refine bG 19 ?_; ((refine eY rfl rfl aO aO ?_)); refine aI ?_) | (refine dS 19 (List.Sublist.refl _) ?_))
    all_goals (first | (refine bG 20 ?_; ((refine fD rfl rfl (fun h => ?_) (fun h => ?_))) <;> (refine aI ?_)) | (refine dS 20 (List.Sublist.refl _) ?_))
    all_goals ((refine bG 21 ?_; ((first | refine bX rfl eR ?_ | refine cH rfl eR ?_)); refine aI ?_))
    all_goals ((refine bG 22 ?_; ((refine bX rfl eR ?_)); refine aI ?_))
    all_goals refine iC ?_
    · skip
      have e : lD xs a = .error (a1 - 1) := by unfold lD; rw [hd]; simp only; rw [if_pos aO]
      repeat' (first | (refine dK rfl ?_; refine aT fA ?_; refine oD br _ _ _ _ _ (a1 - 1) _ aO ?_; refine aB ?_) | (apply aF) | (apply aA) | (apply bP) | (apply aK; exact rfl) | (apply aH) | (apply aD) | (apply bN) | (apply aP; exact rfl; ((refine aL (i := 0) rfl rfl rfl ?_)); refine aB ?_) | (apply aU; exact rfl; ((refine eY rfl rfl aO aO ?_)); refine aB ?_) | (refine aE rfl rfl ?_; ((first | refine aG ?_ | refine aY ?_ | refine bA rfl ?_ | refine aC rfl ?_)); refine aB ?_))
      refine aZ (.inl rfl) (dP rfl (bR rfl)) (cA _ R (fun w hs => hs) ?_)
      exact hk 0 a1 true (a1 - 1) (Out.mk_er e le1 hle1) le1 (fun _ => rfl) (fun h => by cases h) aO
    · skip
      have e : lD xs a = .error (a1 - 1) := by unfold lD; rw [hd]; simp only; rw [if_pos aO]
      repeat' (first | (refine dK rfl ?_; refine aT fA ?_; refine oD br _ _ _ _ _ (a1 - 1) _ aO ?_; refine aB ?_) | (apply aF) | (apply aA) | (apply bP) | (apply aK; exact rfl) | (apply aH) | (apply aD) | (apply bN) | (apply aP; exact rfl; ((refine aL (i := 0) rfl rfl rfl ?_)); refine aB ?_) | (apply aU; exact rfl; ((refine eY rfl rfl aO aO ?_)); refine aB ?_) | (refine aE rfl rfl ?_; ((first | refine aG ?_ | refine aY ?_ | refine bA rfl ?_ | refine aC rfl ?_)); refine aB ?_))
      refine aZ (.inl rfl) (dP rfl (bR rfl)) (cA _ R (fun w hs => hs) ?_)
      exact hk 0 a1 true (a1 - 1) (Out.mk_er e le1 hle1) le1 (fun _ => rfl) (fun h => by cases h) aO
    · skip
      have e : lD xs a = .ok (x.toNat, a1) := by unfold lD; rw [hd]; simp only; rw [if_neg aO]
      repeat' (first | (apply aF) | (apply aA) | (apply bP) | (apply bF) | (apply aJ; exact rfl) | (apply aH) | (apply aD) | (apply aP; exact rfl; ((refine aL (i := 0) rfl rfl rfl ?_)); refine aB ?_) | (refine aE rfl rfl ?_; ((first | refine aG ?_ | refine aY ?_ | refine bA rfl ?_ | refine aC rfl ?_)); refine aB ?_))
      have ex : x = ((x.toNat : Nat) : Int) := by omega
      refine aZ (.inl rfl) (dP rfl (bR (v := .int .i64 ((x.toNat : Nat) : Int)) (by rw [← ex]; rfl))) (cA _ R (fun w hs => hs) ?_)
      exact hk x.toNat a1 false _ (Out.mk_ok e le1 hle1) le1 (fun h => by cases h) (fun _ => hpos) aO
section
variable {F : Fence} {n : Nat} {w0 : World} {D : List Deferred} {ops : Array Oper} {Q : Exit → Act → World → Prop} {rest : List Oper} {E : List Value} {H : List Hp} {R : List MP}
theorem lK [Wd F] {dst : Option Tmp} {l : List Operand} {at_ : Array TypeId} {ty : TypeId} {pos : String} {aft : Array Edge} {g : Option (Nat × Bool)} {br : Nat} {A : Option Addr} {c : Nat} {xs : List UInt8} {a : Nat} {b : Bool} {o : Nat}
    (hw : Region.wanted ⟨dst, .call ⟨.value (.func 102), l.toArray, at_⟩, ty, pos, aft, g⟩ (yielded ops E.toArray) = true) (hA : l.map (ev E) = [.pointer (some ⟨br, 0, none⟩)]) (hx : xs.length ≤ 250000) (hax : a ≤ xs.length) (hm : Sl (.slice A xs.length c) xs ∈ R)
    (hk : ∀ (m a' : Nat) b' o', Out xs (lD xs) ⟨a, b, o⟩ m ⟨a', b', o'⟩ → a ≤ a' → (b' = true → m = 0) → (b' = false → a + 1 ≤ a') → m + a' ≤ xs.length → T F n Tryz.prog w0 D ops Q rest (eE E dst (.int .i64 (m : Int))) (.blk br (iA A c xs a' b' o') 105 :: H) R) : T F n Tryz.prog w0 D ops Q (⟨dst, .call ⟨.value (.func 102), l.toArray, at_⟩, ty, pos, aft, g⟩ :: rest) E (.blk br (iA A c xs a b o) 105 :: H) R :=
  dK hw (aT hA (length_f br A c xs hx a b o hax hm hk))
end
theorem qM {w0 : World} (br : Nat) (A : Option Addr) (c : Nat) (xs : List UInt8) (hx : xs.length ≤ 250000) : Rf Tryz.prog w0 43 [.pointer (some ⟨br, 0, none⟩)] br A c xs 0 (iL xs) (fun n _ => .bool n) := by
  intro H R K a bad off _ hax hm hk
  cases bad with
  | true =>
    refine bV Tryz.func43 rfl Tryz.ntmps43 fI ?_
    repeat' (first | (apply aF) | (apply aA) | (apply aH) | (apply aD) | (refine aE rfl rfl ?_; ((first | refine aG ?_ | refine aY ?_)); refine aB ?_))
    refine dK rfl ?_; refine aT fA ?_
    refine next_b br A c xs a off ?_
    refine aB ?_
    repeat' (first | (apply aF) | (apply aA) | (apply bP) | (apply bF) | (apply aJ; exact rfl) | (apply aH) | (apply aD) | (apply aP; exact rfl; ((refine aL (i := 0) rfl rfl rfl ?_)); refine aB ?_) | (refine aE rfl rfl ?_; ((first | refine aG ?_ | refine aY ?_ | refine cH rfl eR ?_ | refine bA rfl ?_ | refine aC rfl ?_ | refine dJ rfl ?_)); refine aB ?_) | (refine cX rfl ?_; refine aB ?_))
    exact aZ (.inl rfl) (dP rfl (bR rfl)) (cA _ R (fun w hs => hs) (hk false a true off () (Out.mk_bad rfl hax) (Nat.le_refl _) hax trivial))
  | false =>
    refine bV Tryz.func43 rfl Tryz.ntmps43 fI ?_
    repeat' (first | (apply aF) | (apply aA) | (apply aH) | (apply aD) | (refine aE rfl rfl ?_; ((first | refine aG ?_ | refine aY ?_)); refine aB ?_))
    refine dK rfl ?_; refine aT fA ?_
    refine zG br A c xs a off hx hax hm (fun ch a2 b2 o2 hN le2 hle2 => ?_)
    refine aB ?_
    rcases hN with ⟨hch, rfl, rfl, rfl⟩ | ⟨hno, rfl, rfl, rfl, rfl⟩
    · skip
      repeat' (first | (refine aU rfl ?_; ((first | refine fD (k := .u8) (a := (ch.toNat : Int)) (b := 1) rfl rfl (fun h => ?_) (fun h => ?_) | refine fZ (k := .u8) (a := (ch.toNat : Int)) (b := 1) rfl rfl (fun h => ?_) (fun h => ?_))) <;> refine aB ?_) | (refine dK rfl ?_; refine aT fA ?_; refine oD br _ _ _ _ _ a _ aO ?_; refine aB ?_) | (apply aF) | (apply aA) | (apply bP) | (apply bF) | (apply aK; exact rfl) | (apply aJ; exact rfl) | (apply aH) | (apply aD) | (apply aP; exact rfl; ((refine aL (i := 0) rfl rfl rfl ?_)); refine aB ?_) | (apply aU; exact rfl; ((refine eY rfl rfl aO aO ?_)); refine aB ?_) | (refine aE rfl rfl ?_; ((first | refine aG ?_ | refine aY ?_ | refine bX rfl eR ?_ | refine cH rfl eR ?_ | refine bA rfl ?_ | refine aC rfl ?_ | refine dJ rfl ?_)); refine aB ?_) | (refine cX rfl ?_; refine aB ?_))
      · exact aZ (.inl rfl) (dP rfl (bR rfl)) (cA _ R (fun w hs => hs) (hk false (a + 1) true a () (Out.mk_er (by unfold iL; rw [hch]; simp only; rw [if_pos aO]) le2 hle2) le2 hle2 trivial))
      · have e : decide (ch.toNat = 1) = true := by simpa using (by omega : ch.toNat = 1)
        exact aZ (.inl rfl) (dP rfl (bR rfl)) (cA _ R (fun w hs => hs) (hk true (a + 1) false o2 () (Out.mk_ok (by unfold iL; rw [hch]; simp only; rw [if_neg aO, e]) le2 hle2) le2 hle2 trivial))
      · have e : decide (ch.toNat = 1) = false := by simpa using (by omega : ¬ ch.toNat = 1)
        exact aZ (.inl rfl) (dP rfl (bR rfl)) (cA _ R (fun w hs => hs) (hk false (a + 1) false o2 () (Out.mk_ok (by unfold iL; rw [hch]; simp only; rw [if_neg aO, e]) le2 hle2) le2 hle2 trivial))
    · skip
      repeat' (first | (apply aF) | (apply aA) | (apply bP) | (apply bF) | (apply aJ; exact rfl) | (apply aH) | (apply aD) | (apply aP; exact rfl; ((refine aL (i := 0) rfl rfl rfl ?_)); refine aB ?_) | (refine aE rfl rfl ?_; ((first | refine aG ?_ | refine aY ?_ | refine cH rfl eR ?_ | refine bA rfl ?_ | refine aC rfl ?_ | refine dJ rfl ?_)); refine aB ?_) | (refine cX rfl ?_; refine aB ?_))
      exact aZ (.inl rfl) (dP rfl (bR rfl)) (cA _ R (fun w hs => hs) (hk false a2 true xs.length () (Out.mk_er (by unfold iL; rw [hno]) le2 hle2) le2 hle2 trivial))
theorem yK {w0 : World} (br : Nat) (A : Option Addr) (c : Nat) (xs : List UInt8) (hx : xs.length ≤ 250000) : Rf Tryz.prog w0 143 [.pointer (some ⟨br, 0, none⟩)] br A c xs 0 (kO xs) (fun s _ => .string s) := by
  intro H R K a b o _ hax hm hk
  refine bV Tryz.func143 rfl Tryz.ntmps143 fI ?_
  repeat' (first | (apply aF) | (apply aA) | (apply aH) | (apply aD) | (refine aE rfl rfl ?_; ((first | refine aG ?_ | refine aY ?_)); refine aB ?_))
  refine lK rfl rfl hx hax hm (fun m a1 b1 o1 ho h1 hz hp h2 => ?_)
  refine aB ?_
  repeat' (first | (apply aF) | (apply aH) | (apply aD) | (refine aE rfl rfl ?_; ((refine aY ?_)); refine aB ?_))
  have e2 : ((a1 : Int) + (m : Int)) = ((a1 + m : Nat) : Int) := by omega
  refine eC fK jN (fun _ _ _ _ _ _ h => h) (List.Sublist.refl _) ?_
  all_goals ((refine bG 0 ?_; ((refine aG ?_)); refine aI ?_))
  all_goals ((refine bG 1 ?_; ((refine bA rfl ?_)); refine aI ?_))
  all_goals ((refine bG 2 ?_; ((refine aC rfl ?_)); refine aI ?_))
  all_goals ((refine bG 3 ?_; ((refine aL (i := 0) rfl rfl rfl ?_)); refine aI ?_))
  all_goals ((refine bG 4 ?_; ((refine aG ?_)); refine aI ?_))
  all_goals ((refine bG 5 ?_; ((refine bA rfl ?_)); refine aI ?_))
  all_goals ((refine bG 6 ?_; ((refine aC rfl ?_)); refine aI ?_))
  all_goals ((refine bG 7 ?_; ((refine aL (i := 0) rfl rfl rfl ?_)); refine aI ?_))
  all_goals ((refine bG 8 ?_; ((refine aG ?_)); refine aI ?_))
  all_goals ((refine bG 9 ?_; ((refine bA rfl ?_)); refine aI ?_))
  all_goals ((refine bG 10 ?_; ((refine aC rfl ?_)); refine aI ?_))
  all_goals ((refine bG 11 ?_; ((refine aL (i := 0) rfl rfl rfl ?_)); refine aI ?_))
  all_goals ((refine bG 12 ?_; ((refine aG ?_)); refine aI ?_))
  all_goals ((refine bG 13 ?_; ((refine bM rfl rfl aO aO ?_)); refine aI ?_))
  all_goals ((refine bG 14 ?_; ((refine fY rfl hm rfl rfl rfl rfl aO aO aO (fun A8 c8 => ?_))); refine aI ?_))
  all_goals ((refine bG 15 ?_; ((refine vS rfl aX ?_)); refine aI ?_))
  all_goals ((refine bG 16 ?_; ((refine aY ?_)); refine aI ?_))
  all_goals refine iC ?_
  have e3 : List.drop (a1 : Int).toNat (List.take ((a1 : Int) + (m : Int)).toNat xs) = (xs.drop a1).take m := by
    rw [e2, Int.toNat_natCast, Int.toNat_natCast, List.drop_take, show a1 + m - a1 = m by omega]
  rw [e3]
  repeat' (first | (apply aF) | (apply aA) | (apply bP) | (apply aH) | (apply aD) | (apply aP; exact rfl; ((refine aL (i := 0) rfl rfl rfl ?_)); refine aB ?_) | (apply aU; exact rfl; ((refine bM rfl rfl aO aO ?_)); refine aB ?_) | (apply bE; exact rfl; ((refine aN (i := 0) rfl cW rfl dT dB eK ?_)); refine aB ?_; refine cE ?_) | (refine aE rfl rfl ?_; ((first | refine aG ?_ | refine aY ?_ | refine bA rfl ?_ | refine aC rfl ?_)); refine aB ?_))
  rw [e2]
  repeat' (fail)
  have hl : (rG ((xs.drop a1).take m)).size ≤ 9223372036854775807 := by
    rw [rQ]
    simp
    omega
  refine aZ (.inl rfl) (dP rfl (bR rfl)) (cA _ R dV ?_)
  refine hk _ (a1 + m) b1 o1 () ?_ aO aO hl
  cases b with
  | true =>
    have := ho.bad rfl
    cases this
    obtain rfl := hz rfl
    exact Out.mk_bad rfl hax
  | false =>
    cases b1 with
    | true =>
      exact Out.mk_er (by unfold kO; rw [ho.fault rfl rfl]) aO aO
    | false =>
      obtain ⟨_, hd, hoo⟩ := ho.good rfl
      cases hoo
      exact Out.mk_ok (by unfold kO; rw [hd]) aO aO

/-- What holds on the way through a list. -/
structure Lp {α : Type} (d : Dc α) (n a1 : Nat) (b1 : Bool) (o1 : Nat) (k : Nat) (l : List α) (a' : Nat) (b' : Bool) (o' : Nat) : Prop where
  ok : b' = false → b1 = false ∧ mR d l k a' = iO d n a1 ∧ o' = o1
  er : b' = true → b1 = false → iO d n a1 = .error o'
  bad : b1 = true → a' = a1 ∧ b' = b1 ∧ o' = o1
theorem Lp.start {α : Type} (d : Dc α) (n a1 : Nat) (b1 : Bool) (o1 : Nat) : Lp d n a1 b1 o1 n [] a1 b1 o1 :=
  ⟨fun h => ⟨h, jC d n a1, rfl⟩, fun h h' => (by rw [h] at h'; cases h'), fun _ => ⟨rfl, rfl, rfl⟩⟩
theorem Lp.step {α : Type} {xs : List UInt8} {d : Dc α} {n a1 : Nat} {b1 : Bool} {o1 k : Nat} {l : List α} {a' o' : Nat} {x : α} {a2 : Nat} {b2 : Bool} {o2 : Nat} (h : Lp d n a1 b1 o1 (k + 1) l a' false o') (ho : Out xs d ⟨a', false, o'⟩ x ⟨a2, b2, o2⟩) : Lp d n a1 b1 o1 k (l ++ [x]) a2 b2 o2 := by
  obtain ⟨h1, h2, h3⟩ := h.ok rfl
  cases b2 with
  | true =>
    have he : d a' = .error o2 := ho.fault rfl rfl
    exact ⟨fun h => (by cases h), fun _ _ => by rw [← h2]; exact kG he, fun hb => by rw [h1] at hb; cases hb⟩
  | false =>
    obtain ⟨_, hd, hoo⟩ := ho.good rfl
    cases hoo
    exact ⟨fun _ => ⟨h1, by rw [← h2]; exact (iJ hd).symm, h3⟩, fun h => (by cases h), fun hb => by rw [h1] at hb; cases hb⟩
theorem Lp.done {α : Type} {xs : List UInt8} {d : Dc α} {n a a1 : Nat} {b b1 : Bool} {o o1 k : Nat} {l : List α} {a' o' : Nat} {b' : Bool} (hl : Out xs (lD xs) ⟨a, b, o⟩ n ⟨a1, b1, o1⟩) (h : Lp d n a1 b1 o1 k l a' b' o') (hk : b' = true ∨ k = 0) (ha : a1 ≤ a') (ha' : a' ≤ xs.length) : Out xs (dY xs d) ⟨a, b, o⟩ l ⟨a', b', o'⟩ := by
  have hle : a ≤ a1 := hl.le
  cases b with
  | true =>
    have e := hl.bad rfl
    cases e
    obtain ⟨rfl, rfl, rfl⟩ := h.bad rfl
    exact Out.mk_bad rfl ha'
  | false =>
    cases b1 with
    | true =>
      obtain ⟨rfl, rfl, rfl⟩ := h.bad rfl
      exact Out.mk_er (by unfold dY; rw [hl.fault rfl rfl]) aO ha'
    | false =>
      obtain ⟨_, hd, hoo⟩ := hl.good rfl
      cases hoo
      cases b' with
      | true => exact Out.mk_er (by unfold dY; rw [hd]; exact h.er rfl rfl) aO ha'
      | false =>
        obtain ⟨_, h2, h3⟩ := h.ok rfl
        subst h3
        rcases hk with hk | rfl
        · cases hk
        exact Out.mk_ok (by unfold dY; rw [hd]; simp only; rw [← h2, jF]) aO ha'
end Go.Proofs.YtggdljhmbckpmaaGreat
namespace Go.Proofs.YtggdljhmbckpmaaGreat
open Go Go.RowKit
set_option maxRecDepth 100000
set_option maxHeartbeats 6400000

/-- The same, from a good state. -/
def Rfg (P : Program) (w0 : World) (f : FuncId) (args : List Value) (br : Nat) (A : Option Addr) (c : Nat) (xs : List UInt8) (m : Nat) {α : Type} [Rep α] [Unp α] (d : Dc α) (val : α → Unp.Y α → Value) : Prop :=
  ∀ (H : List Hp) (R : List MP) (K : Value → List Hp → List MP → Prop) (a : Nat) (o : Nat), m ≤ a → a ≤ xs.length → Sl (.slice A xs.length c) xs ∈ R →
    (∀ x a' b' o' (y : Unp.Y α), Out xs d ⟨a, false, o⟩ x ⟨a', b', o'⟩ → a ≤ a' → a' ≤ xs.length → Unp.ok x y → K (val x y) (.blk br (iA A c xs a' b' o') 105 :: H) (Unp.fs x y ++ R)) →
    CallsK P w0 f args.toArray (.blk br (iA A c xs a false o) 105 :: H) R K
theorem Rf.g {P : Program} {w0 : World} {f : FuncId} {args : List Value} {br : Nat} {A : Option Addr} {c : Nat} {xs : List UInt8} {m m' : Nat} {α : Type} [Rep α] [Unp α] {d : Dc α} {val : α → Unp.Y α → Value} (h : Rf P w0 f args br A c xs m d val) (hm : m ≤ m') : Rfg P w0 f args br A c xs m' d val :=
  fun H R K a o ha => h H R K a false o (fun _ => by omega)
section
variable {F : Fence} {n : Nat} {P : Program} {w0 : World} {D : List Deferred} {ops : Array Oper} {Q : Exit → Act → World → Prop} {rest : List Oper} {E : List Value} {H : List Hp} {R : List MP}
theorem qR [Wd F] {dst : Option Tmp} {f : FuncId} {l : List Operand} {at_ : Array TypeId} {ty : TypeId} {pos : String} {aft : Array Edge} {g : Option (Nat × Bool)} {args : List Value} {br : Nat} {A : Option Addr} {c : Nat} {xs : List UInt8} {m a o : Nat} {α : Type} [Rep α] [Unp α] {d : Dc α} {val : α → Unp.Y α → Value}
    (hw : Region.wanted ⟨dst, .call ⟨.value (.func f), l.toArray, at_⟩, ty, pos, aft, g⟩ (yielded ops E.toArray) = true) (hA : l.map (ev E) = args) [FnOk P f] (h : Rfg P w0 f args br A c xs m d val) (hma : m ≤ a) (hax : a ≤ xs.length) (hm : Sl (.slice A xs.length c) xs ∈ R)
    (hk : ∀ x a' b' o' (y : Unp.Y α), Out xs d ⟨a, false, o⟩ x ⟨a', b', o'⟩ → a ≤ a' → a' ≤ xs.length → Unp.ok x y → T F n P w0 D ops Q rest (eE E dst (val x y)) (.blk br (iA A c xs a' b' o') 105 :: H) (Unp.fs x y ++ R)) : T F n P w0 D ops Q (⟨dst, .call ⟨.value (.func f), l.toArray, at_⟩, ty, pos, aft, g⟩ :: rest) E (.blk br (iA A c xs a false o) 105 :: H) R :=
  dK hw (aT hA (h H R _ a o hma hax hm hk))
end

theorem lJ {w0 : World} (br : Nat) (A : Option Addr) (c : Nat) (xs : List UInt8) (hx : xs.length ≤ 250000) : Rf Tryz.prog w0 44 [.pointer (some ⟨br, 0, none⟩)] br A c xs 0 (dY xs (fF xs)) yH := by
  intro H R K a b o hma hax hm hk
  refine bV Tryz.func44 rfl Tryz.ntmps44 fI ?_
  repeat' (first | (apply aF) | (apply aA) | (apply aH) | (apply aD) | (refine aE rfl rfl ?_; ((first | refine aG ?_ | refine aY ?_)); refine aB ?_))
  refine lK rfl rfl hx hax hm (fun n a1 b1 o1 ho h1 hz hp h2 => ?_)
  refine aB ?_
  repeat' (first | (apply aF) | (apply aA) | (apply aV) | (apply aH) | (apply aD) | (refine aE rfl rfl ?_; ((refine aY ?_)); refine aB ?_))
  have hmi : b1 = false → 0 + 1 ≤ a1 := fun hb => by
    have e1 := hp hb
    have e2 := hma ((ho.good hb).1)
    omega
  refine eJ (.blk br (iA A c xs a1 b1 o1) 105 :: .row (.slice none 0 0) 3 1 0 [] :: H) (Cx [] ([] : List Int) :: R) (fun w hs => ((hs.nilrow 3 1).perm (List.Perm.swap _ _ _)).learn (Cx [] ([] : List Int)) (fun s _ => gN s)) ?_
  refine cM [4, 5, 6, 9, 10, 11, 12, 13, 14, 15, 16, 17, 18, 19, 20, 21, 22, 23, 24, 25, 26] (fun k j H2 R2 => ∃ (i a' o' : Nat) (b' : Bool) (A0 : Option Addr) (c0 : Nat) (cs : List Value) (l : List Int), i + k = n ∧ j 5 = .int .i64 (i : Int) ∧ j 4 = .slice A0 i c0 ∧ (∀ p ∈ R, p ∈ R2) ∧ Cx cs l ∈ R2 ∧ H2 = .blk br (iA A c xs a' b' o') 105 :: .row (.slice A0 i c0) 3 1 i cs :: H ∧ a1 ≤ a' ∧ a' ≤ xs.length ∧ l.length = i ∧ Lp (fF xs) n a1 b1 o1 k l a' b' o') n eS ⟨0, a1, o1, b1, none, 0, [], [], by omega, rfl, rfl, (fun _ h => List.mem_cons_of_mem _ h), List.mem_cons_self, rfl, Nat.le_refl _, by omega, rfl, Lp.start _ _ _ _ _⟩ ?_
  rintro k j' H2 R2 ⟨i, a', o', b', A0, c0, cs, l, hik, hji, hjl, hR2, hcx, hH2, haa, ha', hli, hlp⟩
  subst hH2
  have hmx := hR2 _ (show Sl (.slice A xs.length c) xs ∈ _ from aX)
  refine dD (by simp only [eF, List.foldl_cons, List.foldl_nil, List.set_cons_succ, List.set_cons_zero, hji, hjl]; rfl) ?_
  rcases Nat.lt_or_ge i n with hlt | hge
  rotate_left
  · obtain rfl : k = 0 := by omega
    have hdone := Lp.done ho hlp (.inr rfl) haa ha'
    repeat' (first | (apply aF) | (apply aA) | (apply bP) | (apply cG) | (apply aJ; exact rfl) | (apply aH) | (apply aD) | (apply aW) | (apply aS) | (apply aU; exact rfl; ((refine bQ rfl rfl (fun h => ?_) (fun h => ?_))) <;> (first | (exfalso; omega) | refine aB ?_)) | (refine aE rfl rfl ?_; ((first | refine aG ?_ | refine aY ?_ | refine cH rfl eR ?_)); refine aB ?_) | (refine cX rfl ?_; refine aB ?_))
    refine eH 1 rfl rfl cQ hcx (fun A' c' hv => ?_)
    refine fL (fun w hs => dN hs List.mem_cons_self) (fun hb => ?_)
    refine aZ (.inl rfl) (dP rfl (bR (v := .slice A' l.length c') (by rw [← hv]; rfl))) (cA _ (Sl (.slice A' l.length c') l :: R) (fun w hs => hs.weaken (List.Sublist.refl _) (bT List.mem_cons_self (fun p hp => List.mem_cons_of_mem _ (hR2 p hp)))) ?_)
    exact hk l a' _ o' (A', c') hdone aO ha' hb
  cases b' with
  | true =>
    have hdone := Lp.done ho hlp (.inl rfl) haa ha'
    repeat' (first | (apply aF) | (apply aA) | (apply bP) | (apply cG) | (apply aJ; exact rfl) | (apply aH) | (apply aD) | (apply aW) | (apply aS) | (apply aP; exact rfl; ((refine aL (i := 0) rfl rfl rfl ?_)); refine aB ?_) | (apply aU; exact rfl; ((refine bQ rfl rfl (fun h => ?_) (fun h => ?_))) <;> (first | (exfalso; omega) | refine aB ?_)) | (refine aE rfl rfl ?_; ((first | refine aG ?_ | refine aY ?_ | refine bX rfl eR ?_ | refine bA rfl ?_ | refine aC rfl ?_ | refine dJ rfl ?_)); refine aB ?_))
    refine eH 1 rfl rfl cQ hcx (fun A' c' hv => ?_)
    refine fL (fun w hs => dN hs List.mem_cons_self) (fun hb => ?_)
    refine aZ (.inl rfl) (dP rfl (bR (v := .slice A' l.length c') (by rw [← hv]; rfl))) (cA _ (Sl (.slice A' l.length c') l :: R) (fun w hs => hs.weaken (List.Sublist.refl _) (bT List.mem_cons_self (fun p hp => List.mem_cons_of_mem _ (hR2 p hp)))) ?_)
    exact hk l a' _ o' (A', c') hdone aO ha' hb
  | false =>
    obtain ⟨k', rfl⟩ : ∃ k', k = k' + 1 := ⟨k - 1, by omega⟩
    have hb1 := (hlp.ok rfl).1
    have hm1 := hmi hb1
    repeat' (first | (apply aF) | (apply aA) | (apply aV) | (apply bF) | (apply aK; exact rfl) | (apply aH) | (apply aD) | (apply aP; exact rfl; ((refine aL (i := 0) rfl rfl rfl ?_)); refine aB ?_) | (apply aU; exact rfl; ((refine bQ rfl rfl (fun h => ?_) (fun h => ?_))) <;> (first | (exfalso; omega) | refine aB ?_)) | (refine aE rfl rfl ?_; ((first | refine aG ?_ | refine bX rfl eR ?_ | refine bA rfl ?_ | refine aC rfl ?_ | refine dJ rfl ?_)); refine aB ?_))
    refine qR rfl rfl ((eG br A c xs hx).g (Nat.zero_le _)) aO ha' hmx (fun x a2' b2' o2' y hd h3' h4' hok => ?_)
    refine aB ?_
    repeat' (first | (refine bJ rfl rfl ?_; refine fR (cs := Unp.cs x y) cQ rfl (by rw [UnpL.len]; rfl) (fun b9 => ?_); refine aB ?_) | (refine bJ rfl rfl ?_; refine dF 2 0 (news := Unp.cs x y) rfl rfl rfl rfl cQ (by rw [UnpL.len]; rfl) (UnpL.one x y) aO aO (fun v' => ?_); refine aB ?_; refine cE ?_; refine gY 2 rfl (fun A9 c9 hv9 => ?_); subst hv9) | (apply aA) | (apply aH) | (apply aD) | (apply bU) | (apply aU; exact rfl; ((refine bM rfl rfl aO aO ?_)); refine aB ?_) | (refine aE rfl rfl ?_; ((first | refine aG ?_ | refine aY ?_)); refine aB ?_))
    exact cJ k' (.blk br (iA A c xs a2' b2' o2') 105 :: .row (.slice A9 (i + 1) c9) 3 1 (i + 1) (cs ++ Unp.cs x y) :: H) (Cx (cs ++ Unp.cs x y) (l ++ [x]) :: R) aO eS ⟨i + 1, a2', o2', b2', A9, c9, cs ++ Unp.cs x y, l ++ [x], by omega, rfl, rfl, (fun _ h => List.mem_cons_of_mem _ h), List.mem_cons_self, rfl, by omega, h4', by simp [hli], hlp.step hd⟩ (fun w hs => (hs.learn (Cx (cs ++ Unp.cs x y) (l ++ [x])) (fun s hR => eZ (hR (Cx cs l) (List.mem_append_right _ hcx)) (Unp.re hok (fun p hp => hR p (List.mem_append_left _ hp))))).weaken (.cons _ (List.Sublist.refl _)) (bT List.mem_cons_self (fun p hp => List.mem_cons_of_mem _ (List.mem_append_right _ (hR2 p hp)))))
theorem xN {w0 : World} (br : Nat) (A : Option Addr) (c : Nat) (xs : List UInt8) (hx : xs.length ≤ 250000) (m : Nat) (d : Dc Tm) (hone : Rfg Tryz.prog w0 145 [.pointer (some ⟨br, 0, none⟩)] br A c xs (m + 1) d pD) : Rf Tryz.prog w0 142 [.pointer (some ⟨br, 0, none⟩)] br A c xs m (dY xs d) yH := by
  intro H R K a b o hma hax hm hk
  refine bV Tryz.func142 rfl Tryz.ntmps142 fI ?_
  repeat' (first | (apply aF) | (apply aA) | (apply aH) | (apply aD) | (refine aE rfl rfl ?_; ((first | refine aG ?_ | refine aY ?_)); refine aB ?_))
  refine lK rfl rfl hx hax hm (fun n a1 b1 o1 ho h1 hz hp h2 => ?_)
  refine aB ?_
  repeat' (first | (apply aF) | (apply aA) | (apply aV) | (apply aH) | (apply aD) | (refine aE rfl rfl ?_; ((refine aY ?_)); refine aB ?_))
  have hmi : b1 = false → m + 1 ≤ a1 := fun hb => by
    have e1 := hp hb
    have e2 := hma ((ho.good hb).1)
    omega
  refine eJ (.blk br (iA A c xs a1 b1 o1) 105 :: .row (.slice none 0 0) 160 4 0 [] :: H) (Cx [] ([] : List Tm) :: R) (fun w hs => ((hs.nilrow 160 4).perm (List.Perm.swap _ _ _)).learn (Cx [] ([] : List Tm)) (fun s _ => gN s)) ?_
  refine cM [4, 5, 6, 9, 10, 11, 12, 13, 14, 15, 16, 17, 18, 19, 20, 21, 22, 23, 24, 25, 26] (fun k j H2 R2 => ∃ (i a' o' : Nat) (b' : Bool) (A0 : Option Addr) (c0 : Nat) (cs : List Value) (l : List Tm), i + k = n ∧ j 5 = .int .i64 (i : Int) ∧ j 4 = .slice A0 i c0 ∧ (∀ p ∈ R, p ∈ R2) ∧ Cx cs l ∈ R2 ∧ H2 = .blk br (iA A c xs a' b' o') 105 :: .row (.slice A0 i c0) 160 4 i cs :: H ∧ a1 ≤ a' ∧ a' ≤ xs.length ∧ l.length = i ∧ Lp d n a1 b1 o1 k l a' b' o') n eS ⟨0, a1, o1, b1, none, 0, [], [], by omega, rfl, rfl, (fun _ h => List.mem_cons_of_mem _ h), List.mem_cons_self, rfl, Nat.le_refl _, by omega, rfl, Lp.start _ _ _ _ _⟩ ?_
  rintro k j' H2 R2 ⟨i, a', o', b', A0, c0, cs, l, hik, hji, hjl, hR2, hcx, hH2, haa, ha', hli, hlp⟩
  subst hH2
  have hmx := hR2 _ (show Sl (.slice A xs.length c) xs ∈ _ from aX)
  refine dD (by simp only [eF, List.foldl_cons, List.foldl_nil, List.set_cons_succ, List.set_cons_zero, hji, hjl]; rfl) ?_
  rcases Nat.lt_or_ge i n with hlt | hge
  rotate_left
  · obtain rfl : k = 0 := by omega
    have hdone := Lp.done ho hlp (.inr rfl) haa ha'
    repeat' (first | (apply aF) | (apply aA) | (apply bP) | (apply cG) | (apply aJ; exact rfl) | (apply aH) | (apply aD) | (apply aW) | (apply aS) | (apply aU; exact rfl; ((refine bQ rfl rfl (fun h => ?_) (fun h => ?_))) <;> (first | (exfalso; omega) | refine aB ?_)) | (refine aE rfl rfl ?_; ((first | refine aG ?_ | refine aY ?_ | refine cH rfl eR ?_)); refine aB ?_) | (refine cX rfl ?_; refine aB ?_))
    refine eH 1 rfl rfl cQ hcx (fun A' c' hv => ?_)
    refine fL (fun w hs => dN hs List.mem_cons_self) (fun hb => ?_)
    refine aZ (.inl rfl) (dP rfl (bR (v := .slice A' l.length c') (by rw [← hv]; rfl))) (cA _ (Sl (.slice A' l.length c') l :: R) (fun w hs => hs.weaken (List.Sublist.refl _) (bT List.mem_cons_self (fun p hp => List.mem_cons_of_mem _ (hR2 p hp)))) ?_)
    exact hk l a' _ o' (A', c') hdone aO ha' hb
  cases b' with
  | true =>
    have hdone := Lp.done ho hlp (.inl rfl) haa ha'
    repeat' (first | (apply aF) | (apply aA) | (apply bP) | (apply cG) | (apply aJ; exact rfl) | (apply aH) | (apply aD) | (apply aW) | (apply aS) | (apply aP; exact rfl; ((refine aL (i := 0) rfl rfl rfl ?_)); refine aB ?_) | (apply aU; exact rfl; ((refine bQ rfl rfl (fun h => ?_) (fun h => ?_))) <;> (first | (exfalso; omega) | refine aB ?_)) | (refine aE rfl rfl ?_; ((first | refine aG ?_ | refine aY ?_ | refine bX rfl eR ?_ | refine bA rfl ?_ | refine aC rfl ?_ | refine dJ rfl ?_)); refine aB ?_))
    refine eH 1 rfl rfl cQ hcx (fun A' c' hv => ?_)
    refine fL (fun w hs => dN hs List.mem_cons_self) (fun hb => ?_)
    refine aZ (.inl rfl) (dP rfl (bR (v := .slice A' l.length c') (by rw [← hv]; rfl))) (cA _ (Sl (.slice A' l.length c') l :: R) (fun w hs => hs.weaken (List.Sublist.refl _) (bT List.mem_cons_self (fun p hp => List.mem_cons_of_mem _ (hR2 p hp)))) ?_)
    exact hk l a' _ o' (A', c') hdone aO ha' hb
  | false =>
    obtain ⟨k', rfl⟩ : ∃ k', k = k' + 1 := ⟨k - 1, by omega⟩
    have hb1 := (hlp.ok rfl).1
    have hm1 := hmi hb1
    repeat' (first | (apply aF) | (apply aA) | (apply aV) | (apply bF) | (apply aK; exact rfl) | (apply aH) | (apply aD) | (apply aP; exact rfl; ((refine aL (i := 0) rfl rfl rfl ?_)); refine aB ?_) | (apply aU; exact rfl; ((refine bQ rfl rfl (fun h => ?_) (fun h => ?_))) <;> (first | (exfalso; omega) | refine aB ?_)) | (refine aE rfl rfl ?_; ((first | refine aG ?_ | refine bX rfl eR ?_ | refine bA rfl ?_ | refine aC rfl ?_ | refine dJ rfl ?_)); refine aB ?_))
    refine qR rfl rfl (hone) aO ha' hmx (fun x a2' b2' o2' y hd h3' h4' hok => ?_)
    refine aB ?_
    repeat' ((refine bJ rfl rfl ?_; ((refine bL cW (fun b => ?_))); refine aB ?_))
    refine bJ rfl rfl ?_
    refine aN (i := 0) (vs := Unp.cs x y) rfl rfl rfl (UnpL.len x y) (show 0 + 4 ≤ 4 by omega) (UnpL.one x y) ?_
    rw [eI (by rw [UnpL.len]; rfl)]
    refine aB ?_
    refine cE ?_
    repeat' (first | (refine aP rfl ?_; refine aL (i := 0) rfl rfl (cU (by rw [UnpL.len]; rfl)) ?_; refine aB ?_) | (refine bJ rfl rfl ?_; refine fR (cs := Unp.cs x y) cQ rfl (by rw [UnpL.len]; rfl) (fun b9 => ?_); refine aB ?_) | (refine bJ rfl rfl ?_; refine dF 3 0 (news := Unp.cs x y) rfl rfl rfl rfl cQ (by rw [UnpL.len]; rfl) (UnpL.one x y) aO aO (fun v' => ?_); refine aB ?_; refine cE ?_; refine gY 3 rfl (fun A9 c9 hv9 => ?_); subst hv9) | (apply aA) | (apply aH) | (apply aD) | (apply bU) | (apply aU; exact rfl; ((refine bM rfl rfl aO aO ?_)); refine aB ?_) | (refine aE rfl rfl ?_; ((first | refine aG ?_ | refine aY ?_)); refine aB ?_))
    exact cJ k' (.blk br (iA A c xs a2' b2' o2') 105 :: .row (.slice A9 (i + 1) c9) 160 4 (i + 1) (cs ++ Unp.cs x y) :: H) (Cx (cs ++ Unp.cs x y) (l ++ [x]) :: R) aO eS ⟨i + 1, a2', o2', b2', A9, c9, cs ++ Unp.cs x y, l ++ [x], by omega, rfl, rfl, (fun _ h => List.mem_cons_of_mem _ h), List.mem_cons_self, rfl, by omega, h4', by simp [hli], hlp.step hd⟩ (fun w hs => (hs.learn (Cx (cs ++ Unp.cs x y) (l ++ [x])) (fun s hR => eZ (hR (Cx cs l) (List.mem_append_right _ hcx)) (Unp.re hok (fun p hp => hR p (List.mem_append_left _ hp))))).weaken (.cons _ (.cons _ (List.Sublist.refl _))) (bT List.mem_cons_self (fun p hp => List.mem_cons_of_mem _ (List.mem_append_right _ (hR2 p hp)))))
end Go.Proofs.YtggdljhmbckpmaaGreat
