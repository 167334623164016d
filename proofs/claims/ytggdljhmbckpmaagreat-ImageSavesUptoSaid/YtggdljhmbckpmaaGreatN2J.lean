/- Decode: truths, texts, some numbers read: walks. Decode: numbers read into places: walk. -/
import Derived.Test.YtggdljhmbckpmaaGreatX2J
set_option linter.unusedVariables false
set_option linter.unusedSimpArgs false
namespace Go.Proofs.YtggdljhmbckpmaaGreat
open Go Go.RowKit
set_option maxRecDepth 100000
set_option maxHeartbeats 1600000

theorem qN {w0 : World} (br : Nat) (A : Option Addr) (c : Nat) (xs : List UInt8) (hx : xs.length ≤ 250000) : Rr Tryz.prog w0 88 [.pointer (some ⟨br, 0, none⟩)] br A c xs 0 (iL xs) (fun n _ => .bool n) := by
  intro H R K KP a _ hax hm hk hp
  refine dE Tryz.func88 rfl Tryz.ntmps88 fI ?_
  repeat' (first | (apply aF) | (apply aA) | (apply aH) | (apply aD) | (refine aE rfl rfl ?_; ((first | refine aG ?_ | refine aY ?_ | refine bA rfl ?_ | refine aC rfl ?_)); refine aB ?_))
  refine T_next rfl rfl hx hax hm (fun ch hch hlt => ?_) (fun hno => ?_)
  rotate_left
  · skip
    repeat' ((apply aM))
    exact aR (cN H R (fun w hs => hs) (hp _ (by unfold iL; rw [hno])))
  refine aB ?_
  repeat' (first | (refine aU rfl ?_; ((first | refine fD (k := .u8) (a := (ch.toNat : Int)) (b := 1) rfl rfl (fun h => ?_) (fun h => ?_) | refine fZ (k := .u8) (a := (ch.toNat : Int)) (b := 1) rfl rfl (fun h => ?_) (fun h => ?_))) <;> refine aB ?_) | (apply aF) | (apply aA) | (apply bP) | (apply bF) | (apply aK; exact rfl) | (apply aJ; exact rfl) | (apply aH) | (apply aD) | (refine aE rfl rfl ?_; ((first | refine aG ?_ | refine aY ?_)); refine aB ?_))
  · refine pY rfl rfl aO aO ?_
    repeat' (apply aM)
    refine aR (cN H R (fun w hs => hs) (hp _ (by unfold iL; rw [hch]; simp only; rw [if_pos aO]; rfl)))
  · refine aZ (.inl rfl) (dP rfl (bR rfl)) (fG _ R (fun w hs => hs) ?_)
    have e : decide (ch.toNat = 1) = true := by simpa using (by omega : ch.toNat = 1)
    have := hk true (a + 1) () (by unfold iL; rw [hch]; simp only; rw [if_neg aO, e]) aO hlt trivial
    exact this
  · refine aZ (.inl rfl) (dP rfl (bR rfl)) (fG _ R (fun w hs => hs) ?_)
    have e : decide (ch.toNat = 1) = false := by simpa using (by omega : ¬ ch.toNat = 1)
    have := hk false (a + 1) () (by unfold iL; rw [hch]; simp only; rw [if_neg aO, e]) aO hlt trivial
    exact this
section
variable {F : Fence} {n : Nat} {w0 : World} {D : List Deferred} {ops : Array Oper} {Q : Exit → Act → World → Prop} {rest : List Oper} {E : List Value} {H : List Hp} {R : List MP}
theorem lQ [Wd F] {dst : Option Tmp} {l : List Operand} {at_ : Array TypeId} {ty : TypeId} {pos : String} {aft : Array Edge} {g : Option (Nat × Bool)} {br : Nat} {A : Option Addr} {c : Nat} {xs : List UInt8} {a : Nat}
    (hw : Region.wanted ⟨dst, .call ⟨.value (.func 135), l.toArray, at_⟩, ty, pos, aft, g⟩ (yielded ops E.toArray) = true) (hA : l.map (ev E) = [.pointer (some ⟨br, 0, none⟩)]) (hx : xs.length ≤ 250000) (hax : a ≤ xs.length) (hm : Sl (.slice A xs.length c) xs ∈ R)
    (hk : ∀ m a', lD xs a = .ok (m, a') → a + 1 ≤ a' → m + a' ≤ xs.length → T F n Tryz.prog w0 D ops Q rest (eE E dst (.int .i64 (m : Int))) (.blk br [.slice A xs.length c, .int .i64 (a' : Int)] 100 :: H) R)
    (hp : ∀ e : Nat, lD xs a = .error e → En w0 D Q (.panic (rf e)) E H R) : T F n Tryz.prog w0 D ops Q (⟨dst, .call ⟨.value (.func 135), l.toArray, at_⟩, ty, pos, aft, g⟩ :: rest) E (.blk br [.slice A xs.length c, .int .i64 (a : Int)] 100 :: H) R :=
  uN hw hA (length_r br A c xs hx) (Nat.zero_le _) hax hm (fun x a' y hd h1 h2 _ => by
    obtain ⟨m, hm', rfl⟩ := zQ hd
    obtain ⟨q1, q2, q3, q4⟩ := uD hax hm'
    exact hk m a' hm' q1 q4) (fun e he => hp e (k7 he))
end
theorem yW {w0 : World} (br : Nat) (A : Option Addr) (c : Nat) (xs : List UInt8) (hx : xs.length ≤ 250000) : Rr Tryz.prog w0 138 [.pointer (some ⟨br, 0, none⟩)] br A c xs 0 (kO xs) (fun s _ => .string s) := by
  intro H R K KP a _ hax hm hk hp
  refine dE Tryz.func138 rfl Tryz.ntmps138 fI ?_
  repeat' (first | (apply aF) | (apply aA) | (apply aH) | (apply aD) | (refine aE rfl rfl ?_; ((first | refine aG ?_ | refine aY ?_)); refine aB ?_))
  refine lQ rfl rfl hx hax hm (fun m a1 hn h1 h2 => ?_) (fun e he => ?_)
  rotate_left
  · skip
    repeat' ((apply aM))
    exact aR (cN H R (fun w hs => hs) (hp e (by unfold kO; rw [he])))
  refine aB ?_
  repeat' (first | (apply aF) | (apply aA) | (apply aH) | (apply aD) | (apply aP; exact rfl; ((refine aL (i := 0) rfl rfl rfl ?_)); refine aB ?_) | (apply aU; exact rfl; ((refine bM rfl rfl aO aO ?_)); refine aB ?_) | (apply bE; exact rfl; ((refine aN (i := 0) rfl cW rfl dT dB eK ?_)); refine aB ?_; refine cE ?_) | (refine aE rfl rfl ?_; ((first | refine aG ?_ | refine aY ?_ | refine bA rfl ?_ | refine aC rfl ?_)); refine aB ?_))
  have e2 : ((a1 : Int) + (m : Int)) = ((a1 + m : Nat) : Int) := by omega
  rw [e2]
  refine eC fK jN (fun _ _ _ _ _ _ h => h) (List.Sublist.refl _) ?_
  all_goals ((refine bG 0 ?_; ((refine aG ?_)); refine aI ?_))
  all_goals ((refine bG 1 ?_; ((refine bA rfl ?_)); refine aI ?_))
  all_goals ((refine bG 2 ?_; ((refine aC rfl ?_)); refine aI ?_))
  all_goals ((refine bG 3 ?_; ((refine aC rfl ?_)); refine aI ?_))
  all_goals ((refine bG 4 ?_; ((refine aL (i := 0) rfl rfl rfl ?_)); refine aI ?_))
  all_goals ((refine bG 5 ?_; ((refine aG ?_)); refine aI ?_))
  all_goals ((refine bG 6 ?_; ((refine bA rfl ?_)); refine aI ?_))
  all_goals ((refine bG 7 ?_; ((refine aC rfl ?_)); refine aI ?_))
  all_goals ((refine bG 8 ?_; ((refine aC rfl ?_)); refine aI ?_))
  all_goals ((refine bG 9 ?_; ((refine aL (i := 0) rfl rfl rfl ?_)); refine aI ?_))
  all_goals ((refine bG 10 ?_; ((refine aG ?_)); refine aI ?_))
  all_goals ((refine bG 11 ?_; ((refine eY rfl rfl aO aO ?_)); refine aI ?_))
  all_goals ((refine bG 12 ?_; ((refine aG ?_)); refine aI ?_))
  all_goals ((refine bG 13 ?_; ((refine bA rfl ?_)); refine aI ?_))
  all_goals ((refine bG 14 ?_; ((refine aC rfl ?_)); refine aI ?_))
  all_goals ((refine bG 15 ?_; ((refine aC rfl ?_)); refine aI ?_))
  all_goals ((refine bG 16 ?_; ((refine aL (i := 0) rfl rfl rfl ?_)); refine aI ?_))
  all_goals ((refine bG 17 ?_; ((refine fY rfl hm rfl rfl rfl rfl aO aO aO (fun A8 c8 => ?_))); refine aI ?_))
  all_goals ((refine bG 18 ?_; ((refine vS rfl aX ?_)); refine aI ?_))
  all_goals ((refine bG 19 ?_; ((refine aY ?_)); refine aI ?_))
  all_goals refine iC ?_
  repeat' (first | (apply bP) | (apply aD))
  have e3 : List.drop (((a1 + m : Nat) : Int) - (m : Int)).toNat (List.take ((a1 + m : Nat) : Int).toNat xs) = (xs.drop a1).take m := by
    rw [show (((a1 + m : Nat) : Int) - (m : Int)).toNat = a1 by omega, Int.toNat_natCast, List.drop_take, show a1 + m - a1 = m by omega]
  have hl : (rG ((xs.drop a1).take m)).size ≤ 9223372036854775807 := by
    rw [rQ]
    simp
    omega
  refine aZ (.inl rfl) (dP rfl (bR (v := .string (rG ((xs.drop a1).take m))) (by rw [← e3]; rfl))) (fG _ R dV ?_)
  exact hk _ (a1 + m) () (by unfold kO; rw [hn]) aO aO hl
end Go.Proofs.YtggdljhmbckpmaaGreat
namespace Go.Proofs.YtggdljhmbckpmaaGreat
open Go Go.RowKit
set_option maxRecDepth 100000
set_option maxHeartbeats 1600000

structure Pt where
  b : Nat
  o : Nat
instance : Rep Pt where
  size := 1
  rd _ cs p := cs = [.pointer (some ⟨p.b, p.o, none⟩)]
  mono _ h := h
  len h := by subst h; rfl
  one h := by subst h; simp [Value.oneCell']
instance : Unp Pt := ⟨Unit, fun p _ => [.pointer (some ⟨p.b, p.o, none⟩)], fun _ _ => True, fun _ _ => [], fun h => ⟨(), h, trivial, fun _ h => by cases h⟩, fun _ _ => rfl⟩
def wK (b : Nat) (os : List Nat) : List Value := os.map (fun o => .pointer (some ⟨b, o, none⟩))
def pts (b : Nat) (os : List Nat) : List Pt := os.map (Pt.mk b)
theorem Cx_pts (b : Nat) (os : List Nat) (s : Sto) : (Cx (wK b os) (pts b os)).p s := by
  refine ⟨by simp [Rep.size, wK, pts], fun j x hj => ?_⟩
  obtain ⟨o, ho, rfl⟩ : ∃ o, os[j]? = some o ∧ x = ⟨b, o⟩ := by
    simp only [pts, List.getElem?_map, Option.map_eq_some_iff] at hj
    obtain ⟨o, h1, h2⟩ := hj
    exact ⟨o, h1, h2.symm⟩
  have hj' : (wK b os)[j]? = some (.pointer (some ⟨b, o, none⟩)) := by simp [wK, ho]
  obtain ⟨h1, h2⟩ := List.getElem?_eq_some_iff.1 hj'
  show ((wK b os).drop (j * 1)).take 1 = [.pointer (some ⟨b, o, none⟩)]
  rw [Nat.mul_one, List.drop_eq_getElem_cons h1, h2]
  rfl
def kY (xs : List UInt8) : List Value → List Nat → Nat → Except Nat (List Value × Nat)
  | zs, [], a => .ok (zs, a)
  | zs, o :: os, a => match fF xs a with
    | .error e => .error e
    | .ok (n, a1) => kY xs (zs.set o (.int .i64 n)) os a1
theorem eL {xs : List UInt8} {zs r : List Value} {o a a' : Nat} {os : List Nat} (h : kY xs zs (o :: os) a = .ok (r, a')) : ∃ n a1, fF xs a = .ok (n, a1) ∧ kY xs (zs.set o (.int .i64 n)) os a1 = .ok (r, a') := by
  unfold kY at h
  cases hg : fF xs a with
  | error e => rw [hg] at h; cases h
  | ok p => rw [hg] at h; exact ⟨p.1, p.2, rfl, h⟩
theorem hU {xs : List UInt8} {zs r : List Value} {a a' : Nat} (h : kY xs zs [] a = .ok (r, a')) : r = zs ∧ a' = a := by
  injection h with h
  injection h with h1 h2
  exact ⟨h1.symm, h2.symm⟩
theorem eM {xs : List UInt8} {zs : List Value} {o a e : Nat} {os : List Nat} (h : kY xs zs (o :: os) a = .error e) : fF xs a = .error e ∨ ∃ n a1, fF xs a = .ok (n, a1) ∧ kY xs (zs.set o (.int .i64 n)) os a1 = .error e := by
  unfold kY at h
  cases hg : fF xs a with
  | error e' => rw [hg] at h; injection h with h; subst h; exact .inl rfl
  | ok p => rw [hg] at h; exact .inr ⟨p.1, p.2, rfl, h⟩
theorem wJ {zs : List Value} {o : Nat} {v : Value} (h : o < zs.length) : gL zs o [v] = zs.set o v := by
  simp only [gL, List.length_singleton]
  rw [List.set_eq_take_append_cons_drop, if_pos h]
  simp
theorem into_r {w0 : World} (br : Nat) (A : Option Addr) (c : Nat) (xs : List UInt8) (hx : xs.length ≤ 250000) (bp bt cp : Nat) (T' : TypeId) (os : List Nat) (hos : os.length ≤ 100) (H : List Hp) (R : List MP) (K : Value → List Hp → List MP → Prop) (KP : List PanicEntry → List Hp → List MP → Prop) (a : Nat) (zs : List Value)
    (hax : a ≤ xs.length) (hm : Sl (.slice A xs.length c) xs ∈ R) (hm2 : Sl (.slice (some ⟨bp, 0, none⟩) os.length cp) (pts bt os) ∈ R) (hz : ∀ o ∈ os, o < zs.length)
    (hk : ∀ zs' a', kY xs zs os a = .ok (zs', a') → a ≤ a' → a' ≤ xs.length → K (.tuple #[]) (.blk br [.slice A xs.length c, .int .i64 (a' : Int)] 100 :: .blk bt zs' T' :: H) R)
    (hp : ∀ e : Nat, kY xs zs os a = .error e → KP (rf e) H R) :
    CallsP Tryz.prog w0 87 #[.pointer (some ⟨br, 0, none⟩), .slice (some ⟨bp, 0, none⟩) os.length cp] (.blk br [.slice A xs.length c, .int .i64 (a : Int)] 100 :: .blk bt zs T' :: H) R K KP := by
  refine dE Tryz.func87 rfl Tryz.ntmps87 fI ?_
  repeat' (first | (apply aF) | (apply aA) | (apply aV) | (apply aH) | (apply aD) | (refine aE rfl rfl ?_; ((first | refine aG ?_ | refine bS rfl ?_)); refine aB ?_))
  refine cM [5, 8, 9, 10, 11, 12, 13, 14, 15, 16] (fun m j H2 R2 => ∃ (i a' : Nat) (zs' : List Value), i + m = os.length ∧ j 8 = .int .i64 (i : Int) ∧ (∀ p ∈ R, p ∈ R2) ∧ H2 = .blk br [.slice A xs.length c, .int .i64 (a' : Int)] 100 :: .blk bt zs' T' :: H ∧ a ≤ a' ∧ a' ≤ xs.length ∧ zs'.length = zs.length ∧ kY xs zs' (os.drop i) a' = kY xs zs os a) os.length eS ⟨0, a, zs, by omega, rfl, fun _ h => h, rfl, Nat.le_refl _, hax, rfl, rfl⟩ ?_
  rintro m j' H2 R2 ⟨i, a', zs', him, h8, hR2, hH2, haa, ha', hzl, hle⟩
  subst hH2
  have hmx := hR2 _ hm
  have hmp := hR2 _ hm2
  refine dD (by simp only [eF, List.foldl_cons, List.foldl_nil, List.set_cons_succ, List.set_cons_zero, h8]; rfl) ?_
  rcases Nat.lt_or_ge i os.length with hlt | hge
  · obtain ⟨oi, hoi⟩ : ∃ oi, os[i]? = some oi := ⟨_, List.getElem?_eq_getElem hlt⟩
    have hpi : (pts bt os)[((i : Nat) : Int).toNat]? = some ⟨bt, oi⟩ := by simp [pts, hoi]
    have hd : os.drop i = oi :: os.drop (i + 1) := by
      obtain ⟨h1, h2⟩ := List.getElem?_eq_some_iff.1 hoi
      rw [List.drop_eq_getElem_cons h1, h2]
    have hoz : oi < zs'.length := by rw [hzl]; exact hz _ (List.mem_of_getElem? hoi)
    rw [hd] at hle
    clear hd hoi
    have HL := Go.Lib.hid hle
    clear hle
    repeat' (first | (refine aE rfl rfl ?_; refine dZ rfl rfl hmp rfl hpi aO (fun b_ o y hy => ?_); refine aB ?_) | (refine aE rfl rfl ?_; refine bD (v := .pointer (some ⟨bt, oi, none⟩)) rfl List.mem_cons_self rfl ?_; refine aB ?_) | (apply aF) | (apply aA) | (apply aV) | (apply bF) | (apply aK; exact rfl) | (apply aH) | (apply aD) | (apply aU; exact rfl; ((refine bQ rfl rfl (fun h => ?_) (fun h => ?_))) <;> (first | (exfalso; omega) | refine aB ?_)) | (refine aE rfl rfl ?_; ((first | refine aG ?_ | refine aY ?_)); refine aB ?_))
    refine eU (.blk br [.slice A xs.length c, .int .i64 (a' : Int)] 100 :: .blk bt zs' T' :: H) R2 (fun w hs => hs.weaken (List.Sublist.refl _) (fun p hp => List.Mem.tail _ hp)) ?_
    refine uN rfl rfl (tR br A c xs hx) (Nat.zero_le _) ha' hmx (fun n a2 y2 hn h1 h2 hI => ?_) (fun e he => ?_)
    rotate_left
    · skip
      repeat' (first | (apply aM) | (apply cI))
      refine aR (cN H R (fun w hs => hs.weaken eB hR2) (hp e ?_))
      rw [← HL.out, kY, he]
    refine aB ?_
    refine T_rp (R' := R2) rfl ?_
    repeat' ((refine aE rfl rfl ?_; ((refine bA rfl ?_)); refine aB ?_))
    refine bJ rfl rfl ?_
    refine aN (i := 1) (sz := 1) rfl rfl rfl (vs := [.int .i64 n]) rfl aO eK ?_
    rw [wJ hoz]
    refine aB ?_
    refine cE ?_
    repeat' (first | (apply aA) | (apply aH) | (apply aD) | (apply bU) | (apply aU; exact rfl; ((refine bM rfl rfl aO aO ?_)); refine aB ?_) | (refine aE rfl rfl ?_; ((refine aG ?_)); refine aB ?_))
    refine cJ (m - 1) _ R2 aO eS ⟨i + 1, a2, zs'.set oi (.int .i64 n), by omega, rfl, hR2, rfl, by omega, h2, by simpa using hzl, ?_⟩ (fun w hs => hs)
    rw [← HL.out]
    conv => rhs; rw [kY, hn]
  · have e : os.drop i = [] := List.drop_of_length_le aO
    rw [e] at hle
    repeat' (first | (apply aF) | (apply aA) | (apply cG) | (apply aJ; exact rfl) | (apply aH) | (apply aD) | (apply aW) | (apply aS) | (apply aU; exact rfl; ((refine bQ rfl rfl (fun h => ?_) (fun h => ?_))) <;> (first | (exfalso; omega) | refine aB ?_)))
    refine aZ (.inr rfl) (gQ rfl) (fG _ R (fun w hs => hs.weaken eB hR2) (hk zs' a' hle.symm haa ha'))
section
variable {F : Fence} {n : Nat} {w0 : World} {D : List Deferred} {ops : Array Oper} {Q : Exit → Act → World → Prop} {rest : List Oper} {E : List Value} {H : List Hp} {R : List MP}
/-- A block of places on top, and numbers read into them. -/
theorem kS [Wd F] (os : List Nat) {dst : Option Tmp} {l : List Operand} {at_ : Array TypeId} {ty : TypeId} {pos : String} {aft : Array Edge} {g : Option (Nat × Bool)} {br bp bt : Nat} {A : Option Addr} {c : Nat} {xs : List UInt8} {a m : Nat} {zs ps : List Value} {Te T' : TypeId}
    (hw : Region.wanted ⟨dst, .call ⟨.value (.func 87), l.toArray, at_⟩, ty, pos, aft, g⟩ (yielded ops E.toArray) = true) (hA : l.map (ev E) = [.pointer (some ⟨br, 0, none⟩), .slice (some ⟨bp, 0, none⟩) m m]) (hmo : m = os.length) (hps : ps = wK bt os) (hos : os.length ≤ 100) (hx : xs.length ≤ 250000) (hax : a ≤ xs.length) (hm : Sl (.slice A xs.length c) xs ∈ R) (hz : ∀ o ∈ os, o < zs.length)
    (hk : ∀ zs' a', kY xs zs os a = .ok (zs', a') → a ≤ a' → a' ≤ xs.length → T F n Tryz.prog w0 D ops Q rest (eE E dst (.tuple #[])) (.blk br [.slice A xs.length c, .int .i64 (a' : Int)] 100 :: .blk bt zs' T' :: H) R)
    (hp : ∀ e : Nat, kY xs zs os a = .error e → En w0 D Q (.panic (rf e)) E H R) : T F n Tryz.prog w0 D ops Q (⟨dst, .call ⟨.value (.func 87), l.toArray, at_⟩, ty, pos, aft, g⟩ :: rest) E (.blk bp ps Te :: .blk br [.slice A xs.length c, .int .i64 (a : Int)] 100 :: .blk bt zs T' :: H) R := by
  subst hmo hps
  refine eU (.blk br [.slice A xs.length c, .int .i64 (a : Int)] 100 :: .blk bt zs T' :: H) (Sl (.slice (some ⟨bp, 0, none⟩) os.length os.length) (pts bt os) :: R) (fun w hs => ?_) ?_
  · exact ((hs.learn (Cx (wK bt os) (pts bt os)) (fun s _ => Cx_pts bt os s)).blk_stays (i := 0) (b := bp) (T := Te) (cs := wK bt os) (n := os.length) (c := os.length) (sp := []) dB List.mem_cons_self (by simp [pts]) (Nat.le_refl _) (by simp only [eO]; omega)).weaken (List.Sublist.refl _) (bT List.mem_cons_self (fun p hp => List.mem_cons_of_mem _ (List.mem_cons_of_mem _ hp)))
  · refine dK hw (jL (KP := fun ch H' R' => ∃ e : Nat, ch = rf e ∧ H' = H ∧ R' = Sl (.slice (some ⟨bp, 0, none⟩) os.length os.length) (pts bt os) :: R ∧ kY xs zs os a = .error e) hA (into_r br A c xs hx bp bt os.length T' os hos H _ _ _ a zs hax (List.mem_cons_of_mem _ hm) List.mem_cons_self hz (fun zs' a' h1 h2 h3 => ?_) (fun e he => ⟨e, rfl, rfl, rfl, he⟩)) ?_)
    · exact eU _ R (fun w hs => hs.weaken (List.Sublist.refl _) (fun p hp => List.mem_cons_of_mem _ hp)) (hk zs' a' h1 h2 h3)
    · rintro ch H' R' ⟨e, rfl, rfl, rfl, he⟩
      exact mM H' R (fun w hs => hs.weaken (List.Sublist.refl _) (fun p hp => List.mem_cons_of_mem _ hp)) (hp e he)
end
end Go.Proofs.YtggdljhmbckpmaaGreat
