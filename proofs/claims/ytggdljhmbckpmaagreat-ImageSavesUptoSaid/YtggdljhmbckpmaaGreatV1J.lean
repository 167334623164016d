/- The reference's reader: its state, bytes: walks. The reference's reader: numbers: walk. -/
import Derived.Test.YtggdljhmbckpmaaGreatX7J
set_option linter.unusedVariables false
set_option linter.unusedSimpArgs false
namespace Go.Proofs.YtggdljhmbckpmaaGreat
open Go Go.RowKit
set_option maxRecDepth 100000
set_option maxHeartbeats 3200000

structure RS where
  at_ : Nat
  bad : Bool
  off : Nat
abbrev iA (A : Option Addr) (c : Nat) (xs : List UInt8) (a : Nat) (b : Bool) (o : Nat) : List Value := [.slice A xs.length c, .int .i64 (a : Int), .bool b, .int .i64 (o : Int)]
/-- What reading as 'd' leaves. -/
structure Out {α : Type} (xs : List UInt8) (d : Dc α) (s : RS) (x : α) (s' : RS) : Prop where
  le : s.at_ ≤ s'.at_
  len : s'.at_ ≤ xs.length
  bad : s.bad = true → s' = s
  er : s.bad = false → ∀ e, d s.at_ = .error e → s'.bad = true ∧ s'.off = e
  ok : s.bad = false → ∀ x0 a', d s.at_ = .ok (x0, a') → x = x0 ∧ s' = ⟨a', false, s.off⟩
theorem Out.good {α : Type} {xs : List UInt8} {d : Dc α} {s s' : RS} {x : α} (h : Out xs d s x s') (hb : s'.bad = false) : s.bad = false ∧ d s.at_ = .ok (x, s'.at_) ∧ s'.off = s.off := by
  cases hs : s.bad with
  | true => rw [h.bad hs, hs] at hb; cases hb
  | false =>
    cases hd : d s.at_ with
    | error e => rw [(h.er hs e hd).1] at hb; cases hb
    | ok p =>
      obtain ⟨x0, a1⟩ := p
      obtain ⟨h1, h2⟩ := h.ok hs x0 a1 hd
      subst h1 h2
      exact ⟨rfl, rfl, rfl⟩
theorem Out.fault {α : Type} {xs : List UInt8} {d : Dc α} {s s' : RS} {x : α} (h : Out xs d s x s') (hs : s.bad = false) (hb : s'.bad = true) : d s.at_ = .error s'.off := by
  cases hd : d s.at_ with
  | error e => rw [(h.er hs e hd).2]
  | ok p =>
    obtain ⟨x0, a1⟩ := p
    obtain ⟨h1, h2⟩ := h.ok hs x0 a1 hd
    rw [h2] at hb
    cases hb
theorem Out.mk_bad {α : Type} {xs : List UInt8} {d : Dc α} {s : RS} {x : α} (hs : s.bad = true) (h : s.at_ ≤ xs.length) : Out xs d s x s :=
  ⟨Nat.le_refl _, h, fun _ => rfl, fun h => by rw [hs] at h; (cases h), fun h => by rw [hs] at h; (cases h)⟩
theorem Out.mk_er {α : Type} {xs : List UInt8} {d : Dc α} {a a' off e : Nat} {x : α} (hd : d a = .error e) (h : a ≤ a') (h' : a' ≤ xs.length) : Out xs d ⟨a, false, off⟩ x ⟨a', true, e⟩ :=
  ⟨h, h', fun h => by (cases h), fun _ e' he => by rw [hd] at he; (injection he with he); exact ⟨rfl, he⟩, fun _ x0 a0 he => by rw [hd] at he; (cases he)⟩
theorem Out.mk_ok {α : Type} {xs : List UInt8} {d : Dc α} {a a' off : Nat} {x : α} (hd : d a = .ok (x, a')) (h : a ≤ a') (h' : a' ≤ xs.length) : Out xs d ⟨a, false, off⟩ x ⟨a', false, off⟩ :=
  ⟨h, h', fun h => by (cases h), fun _ e' he => by rw [hd] at he; (cases he), fun _ x0 a0 he => by
    rw [hd] at he
    injection he with he
    injection he with e1 e2
    subst e1 e2
    exact ⟨rfl, rfl⟩⟩
theorem Out.pair {α β : Type} {xs : List UInt8} {d : Dc α} {d' : Dc β} {s s1 s2 : RS} {x : α} {y : β} (h : Out xs d s x s1) (k : Out xs d' s1 y s2) : Out xs (cK d d') s (x, y) s2 := by
  refine ⟨Nat.le_trans h.le k.le, k.len, fun hb => ?_, fun hb e he => ?_, fun hb p a' he => ?_⟩
  · have h1 := h.bad hb
    subst h1
    exact k.bad hb
  · unfold cK at he
    cases hg : d s.at_ with
    | error e' =>
      rw [hg] at he
      injection he with he
      subst he
      obtain ⟨h1, h2⟩ := h.er hb e' hg
      rw [k.bad h1]
      exact ⟨h1, h2⟩
    | ok p =>
      obtain ⟨x0, a1⟩ := p
      rw [hg] at he
      simp only at he
      obtain ⟨h1, h2⟩ := h.ok hb x0 a1 hg
      subst h2
      cases hr : d' a1 with
      | error e' =>
        rw [hr] at he
        injection he with he
        subst he
        exact k.er rfl e' hr
      | ok q => rw [hr] at he; cases he
  · unfold cK at he
    cases hg : d s.at_ with
    | error e' => rw [hg] at he; cases he
    | ok p =>
      obtain ⟨x0, a1⟩ := p
      rw [hg] at he
      simp only at he
      obtain ⟨h1, h2⟩ := h.ok hb x0 a1 hg
      subst h2
      cases hr : d' a1 with
      | error e' => rw [hr] at he; cases he
      | ok q =>
        obtain ⟨y0, a2⟩ := q
        rw [hr] at he
        injection he with he
        injection he with e1 e2
        obtain ⟨k1, k2⟩ := k.ok rfl y0 a2 hr
        subst e1 e2
        exact ⟨by rw [h1, k1], k2⟩
theorem Out.map {α β : Type} {xs : List UInt8} {d : Dc α} {f : α → β} {s s1 : RS} {x : α} (h : Out xs d s x s1) : Out xs (kE f d) s (f x) s1 := by
  refine ⟨h.le, h.len, h.bad, fun hb e he => h.er hb e (k7 he), fun hb p a' he => ?_⟩
  obtain ⟨x0, h1, h2⟩ := zQ he
  obtain ⟨k1, k2⟩ := h.ok hb x0 a' h1
  exact ⟨by rw [h2, k1], k2⟩
/-- A call of the reference that reads as 'd' does, from m on. -/
def Rf (P : Program) (w0 : World) (f : FuncId) (args : List Value) (br : Nat) (A : Option Addr) (c : Nat) (xs : List UInt8) (m : Nat) {α : Type} [Rep α] [Unp α] (d : Dc α) (val : α → Unp.Y α → Value) : Prop :=
  ∀ (H : List Hp) (R : List MP) (K : Value → List Hp → List MP → Prop) (a : Nat) (b : Bool) (o : Nat), (b = false → m ≤ a) → a ≤ xs.length → Sl (.slice A xs.length c) xs ∈ R →
    (∀ x a' b' o' (y : Unp.Y α), Out xs d ⟨a, b, o⟩ x ⟨a', b', o'⟩ → a ≤ a' → a' ≤ xs.length → Unp.ok x y → K (val x y) (.blk br (iA A c xs a' b' o') 105 :: H) (Unp.fs x y ++ R)) →
    CallsK P w0 f args.toArray (.blk br (iA A c xs a b o) 105 :: H) R K
section
variable {F : Fence} {n : Nat} {P : Program} {w0 : World} {D : List Deferred} {ops : Array Oper} {Q : Exit → Act → World → Prop} {rest : List Oper} {E : List Value} {H : List Hp} {R : List MP}
theorem yA [Wd F] {dst : Option Tmp} {f : FuncId} {l : List Operand} {at_ : Array TypeId} {ty : TypeId} {pos : String} {aft : Array Edge} {g : Option (Nat × Bool)} {args : List Value} {br : Nat} {A : Option Addr} {c : Nat} {xs : List UInt8} {m a : Nat} {b : Bool} {o : Nat} {α : Type} [Rep α] [Unp α] {d : Dc α} {val : α → Unp.Y α → Value}
    (hw : Region.wanted ⟨dst, .call ⟨.value (.func f), l.toArray, at_⟩, ty, pos, aft, g⟩ (yielded ops E.toArray) = true) (hA : l.map (ev E) = args) [FnOk P f] (h : Rf P w0 f args br A c xs m d val) (hma : b = false → m ≤ a) (hax : a ≤ xs.length) (hm : Sl (.slice A xs.length c) xs ∈ R)
    (hk : ∀ x a' b' o' (y : Unp.Y α), Out xs d ⟨a, b, o⟩ x ⟨a', b', o'⟩ → a ≤ a' → a' ≤ xs.length → Unp.ok x y → T F n P w0 D ops Q rest (eE E dst (val x y)) (.blk br (iA A c xs a' b' o') 105 :: H) (Unp.fs x y ++ R)) : T F n P w0 D ops Q (⟨dst, .call ⟨.value (.func f), l.toArray, at_⟩, ty, pos, aft, g⟩ :: rest) E (.blk br (iA A c xs a b o) 105 :: H) R :=
  dK hw (aT hA (h H R _ a b o hma hax hm hk))
end

theorem oD {w0 : World} {H : List Hp} {R : List MP} {K : Value → List Hp → List MP → Prop} (br : Nat) (A : Option Addr) (c : Nat) (xs : List UInt8) (a off z : Nat) (at_ : Int) (hz : at_ = (z : Int)) (k : K (.tuple #[]) (.blk br (iA A c xs a true z) 105 :: H) R) :
    CallsK Tryz.prog w0 41 #[.pointer (some ⟨br, 0, none⟩), .int .i64 at_] (.blk br (iA A c xs a false off) 105 :: H) R K := by
  subst hz
  refine bV Tryz.func41 rfl Tryz.ntmps41 fI ?_
  repeat' (first | (apply aF) | (apply aA) | (apply aK; exact rfl) | (apply aH) | (apply aD) | (apply aP; exact rfl; ((refine aL (i := 0) rfl rfl rfl ?_)); refine aB ?_) | (apply bE; exact rfl; ((refine aN (i := 0) rfl cW rfl dT dB eK ?_)); refine aB ?_; refine cE ?_) | (refine aE rfl rfl ?_; ((first | refine aG ?_ | refine bA rfl ?_ | refine aC rfl ?_ | refine dJ rfl ?_)); refine aB ?_))
  exact aZ (.inr rfl) (gQ rfl) (cA _ R (fun w hs => hs) k)
theorem zX {w0 : World} {H : List Hp} {R : List MP} {K : Value → List Hp → List MP → Prop} (br : Nat) (A : Option Addr) (c : Nat) (xs : List UInt8) (a off : Nat) (at_ : Int) (k : K (.tuple #[]) (.blk br (iA A c xs a true off) 105 :: H) R) :
    CallsK Tryz.prog w0 41 #[.pointer (some ⟨br, 0, none⟩), .int .i64 at_] (.blk br (iA A c xs a true off) 105 :: H) R K := by
  refine bV Tryz.func41 rfl Tryz.ntmps41 fI ?_
  repeat' (first | (apply aF) | (apply aA) | (apply bF) | (apply aJ; exact rfl) | (apply aH) | (apply aD) | (apply aP; exact rfl; ((refine aL (i := 0) rfl rfl rfl ?_)); refine aB ?_) | (refine aE rfl rfl ?_; ((first | refine aG ?_ | refine bA rfl ?_ | refine aC rfl ?_ | refine dJ rfl ?_)); refine aB ?_))
  exact aZ (.inr rfl) (gQ rfl) (cA _ R (fun w hs => hs) k)
theorem zG {w0 : World} {H : List Hp} {R : List MP} {K : Value → List Hp → List MP → Prop} (br : Nat) (A : Option Addr) (c : Nat) (xs : List UInt8) (a off : Nat) (hx : xs.length ≤ 250000) (ha : a ≤ xs.length) (hm : Sl (.slice A xs.length c) xs ∈ R)
    (k : ∀ ch a' b' o', (xs[a]? = some ch ∧ a' = a + 1 ∧ b' = false ∧ o' = off) ∨ (xs[a]? = none ∧ ch = 0 ∧ a' = a ∧ b' = true ∧ o' = xs.length) → a ≤ a' → a' ≤ xs.length → K (fH ch) (.blk br (iA A c xs a' b' o') 105 :: H) R) :
    CallsK Tryz.prog w0 40 #[.pointer (some ⟨br, 0, none⟩)] (.blk br (iA A c xs a false off) 105 :: H) R K := by
  rcases Nat.lt_or_ge a xs.length with hlt | hge
  · skip
    refine bV Tryz.func40 rfl Tryz.ntmps40 fI ?_
    repeat' (first | (apply aF) | (apply aA) | (apply aH) | (apply aD) | (refine aE rfl rfl ?_; ((refine aY ?_)); refine aB ?_))
    refine eC fK jN (fun _ _ _ _ _ _ h => h) (List.Sublist.refl _) ?_
    all_goals ((refine bG 0 ?_; ((refine aG ?_)); refine aI ?_))
    all_goals ((refine bG 1 ?_; ((refine bA rfl ?_)); refine aI ?_))
    all_goals ((refine bG 2 ?_; ((refine aC rfl ?_)); refine aI ?_))
    all_goals ((refine bG 3 ?_; ((refine aL (i := 0) rfl rfl rfl ?_)); refine aI ?_))
    all_goals ((refine bG 4 ?_; ((refine aG ?_)); refine aI ?_))
    all_goals ((refine bG 5 ?_; ((refine aG ?_)); refine aI ?_))
    all_goals ((refine bG 6 ?_; ((refine bA rfl ?_)); refine aI ?_))
    all_goals ((refine bG 7 ?_; ((refine aC rfl ?_)); refine aI ?_))
    all_goals ((refine bG 8 ?_; ((refine aL (i := 0) rfl rfl rfl ?_)); refine aI ?_))
    all_goals ((refine bG 9 ?_; ((refine aG ?_)); refine aI ?_))
    all_goals ((refine bG 10 ?_; ((refine bA rfl ?_)); refine aI ?_))
    all_goals ((refine bG 11 ?_; ((refine aC rfl ?_)); refine aI ?_))
    all_goals ((refine bG 12 ?_; ((refine aL (i := 0) rfl rfl rfl ?_)); refine aI ?_))
    all_goals ((refine bG 13 ?_; ((refine bS rfl ?_)); refine aI ?_))
    all_goals ((refine bG 14 ?_; ((refine jS rfl rfl (fun h => ?_) (fun h => ?_))) <;> (first | (exfalso; omega) | refine aI ?_)))
    all_goals ((refine bG 15 ?_; ((refine cH rfl eR ?_)); refine aI ?_))
    all_goals refine iC ?_
    repeat' (first | (apply aF) | (apply aA) | (apply bF) | (apply aJ; exact rfl) | (apply aH) | (apply aD) | (apply aP; exact rfl; ((refine aL (i := 0) rfl rfl rfl ?_)); refine aB ?_) | (apply aU; exact rfl; ((refine bM rfl rfl aO aO ?_)); refine aB ?_) | (apply bE; exact rfl; ((refine aN (i := 0) rfl cW rfl dT dB eK ?_)); refine aB ?_; refine cE ?_) | (refine aE rfl rfl ?_; ((first | refine aG ?_ | refine bA rfl ?_ | refine aC rfl ?_)); refine aB ?_))
    have e1 : (((a : Int) + 1) - 1) = (a : Int) := by omega
    refine eC fK jN (fun _ _ _ _ _ _ h => h) (List.Sublist.refl _) ?_
    all_goals ((refine bG 0 ?_; ((refine aG ?_)); refine aI ?_))
    all_goals ((refine bG 1 ?_; ((refine bA rfl ?_)); refine aI ?_))
    all_goals ((refine bG 2 ?_; ((refine aC rfl ?_)); refine aI ?_))
    all_goals ((refine bG 3 ?_; ((refine aL (i := 0) rfl rfl rfl ?_)); refine aI ?_))
    all_goals ((refine bG 4 ?_; ((refine aG ?_)); refine aI ?_))
    all_goals ((refine bG 5 ?_; ((refine bA rfl ?_)); refine aI ?_))
    all_goals ((refine bG 6 ?_; ((refine aC rfl ?_)); refine aI ?_))
    all_goals ((refine bG 7 ?_; ((refine aL (i := 0) rfl rfl rfl ?_)); refine aI ?_))
    all_goals ((refine bG 8 ?_; ((refine eY rfl rfl aO aO ?_)); refine aI ?_))
    all_goals ((refine bG 9 ?_; ((rw [e1]; refine iQ rfl rfl hm (List.getElem?_eq_getElem hlt) (fun b o => ?_))); refine aI ?_))
    all_goals ((refine bG 10 ?_; ((refine bD rfl cL rfl ?_)); refine aI ?_))
    all_goals ((refine bG 11 ?_; ((refine aY ?_)); refine aI ?_))
    all_goals refine iC ?_
    repeat' (first | (apply bP) | (apply aD))
    refine aZ (.inl rfl) (dP rfl (bR rfl)) (cA _ R dV ?_)
    exact k xs[a] (a + 1) false off (.inl ⟨List.getElem?_eq_getElem hlt, rfl, rfl, rfl⟩) aO hlt
  · skip
    refine bV Tryz.func40 rfl Tryz.ntmps40 fI ?_
    repeat' (first | (apply aF) | (apply aA) | (apply aH) | (apply aD) | (refine aE rfl rfl ?_; ((refine aY ?_)); refine aB ?_))
    refine eC fK jN (fun _ _ _ _ _ _ h => h) (List.Sublist.refl _) ?_
    all_goals ((refine bG 0 ?_; ((refine aG ?_)); refine aI ?_))
    all_goals ((refine bG 1 ?_; ((refine bA rfl ?_)); refine aI ?_))
    all_goals ((refine bG 2 ?_; ((refine aC rfl ?_)); refine aI ?_))
    all_goals ((refine bG 3 ?_; ((refine aL (i := 0) rfl rfl rfl ?_)); refine aI ?_))
    all_goals ((refine bG 4 ?_; ((refine aG ?_)); refine aI ?_))
    all_goals ((refine bG 5 ?_; ((refine aG ?_)); refine aI ?_))
    all_goals ((refine bG 6 ?_; ((refine bA rfl ?_)); refine aI ?_))
    all_goals ((refine bG 7 ?_; ((refine aC rfl ?_)); refine aI ?_))
    all_goals ((refine bG 8 ?_; ((refine aL (i := 0) rfl rfl rfl ?_)); refine aI ?_))
    all_goals ((refine bG 9 ?_; ((refine aG ?_)); refine aI ?_))
    all_goals ((refine bG 10 ?_; ((refine bA rfl ?_)); refine aI ?_))
    all_goals ((refine bG 11 ?_; ((refine aC rfl ?_)); refine aI ?_))
    all_goals ((refine bG 12 ?_; ((refine aL (i := 0) rfl rfl rfl ?_)); refine aI ?_))
    all_goals ((refine bG 13 ?_; ((refine bS rfl ?_)); refine aI ?_))
    all_goals ((refine bG 14 ?_; ((refine jS rfl rfl (fun h => ?_) (fun h => ?_))) <;> (first | (exfalso; omega) | refine aI ?_)))
    all_goals ((refine bG 15 ?_; ((refine cH rfl eR ?_)); refine aI ?_))
    all_goals refine iC ?_
    repeat' (first | (refine dK rfl ?_; refine aT fA ?_; refine oD br _ _ _ _ _ xs.length _ rfl ?_; refine aB ?_) | (apply aF) | (apply aA) | (apply bP) | (apply aK; exact rfl) | (apply aH) | (apply aD) | (apply bN) | (apply aP; exact rfl; ((refine aL (i := 0) rfl rfl rfl ?_)); refine aB ?_) | (refine aE rfl rfl ?_; ((first | refine aG ?_ | refine aY ?_ | refine bA rfl ?_ | refine aC rfl ?_ | refine bS rfl ?_)); refine aB ?_))
    refine aZ (.inl rfl) (dP rfl (bR rfl)) (cA _ R (fun w hs => hs) ?_)
    exact k 0 a true xs.length (.inr ⟨List.getElem?_eq_none hge, rfl, rfl, rfl, rfl⟩) aO ha
theorem next_b {w0 : World} {H : List Hp} {R : List MP} {K : Value → List Hp → List MP → Prop} (br : Nat) (A : Option Addr) (c : Nat) (xs : List UInt8) (a off : Nat)
    (k : K (fH 0) (.blk br (iA A c xs a true off) 105 :: H) R) :
    CallsK Tryz.prog w0 40 #[.pointer (some ⟨br, 0, none⟩)] (.blk br (iA A c xs a true off) 105 :: H) R K := by
  refine bV Tryz.func40 rfl Tryz.ntmps40 fI ?_
  repeat' (first | (apply aF) | (apply aA) | (apply aH) | (apply aD) | (refine aE rfl rfl ?_; ((refine aY ?_)); refine aB ?_))
  refine eC fK jN (fun _ _ _ _ _ _ h => h) (List.Sublist.refl _) ?_
  all_goals ((refine bG 0 ?_; ((refine aG ?_)); refine aI ?_))
  all_goals ((refine bG 1 ?_; ((refine bA rfl ?_)); refine aI ?_))
  all_goals ((refine bG 2 ?_; ((refine aC rfl ?_)); refine aI ?_))
  all_goals ((refine bG 3 ?_; ((refine aL (i := 0) rfl rfl rfl ?_)); refine aI ?_))
  all_goals ((refine bG 4 ?_; ((refine aG ?_)); refine aI ?_))
  all_goals ((refine dS 5 (List.Sublist.refl _) ?_))
  all_goals ((refine dS 6 (List.Sublist.refl _) ?_))
  all_goals ((refine dS 7 (List.Sublist.refl _) ?_))
  all_goals ((refine dS 8 (List.Sublist.refl _) ?_))
  all_goals ((refine dS 9 (List.Sublist.refl _) ?_))
  all_goals ((refine dS 10 (List.Sublist.refl _) ?_))
  all_goals ((refine dS 11 (List.Sublist.refl _) ?_))
  all_goals ((refine dS 12 (List.Sublist.refl _) ?_))
  all_goals ((refine dS 13 (List.Sublist.refl _) ?_))
  all_goals ((refine dS 14 (List.Sublist.refl _) ?_))
  all_goals ((refine bG 15 ?_; ((refine bX rfl eR ?_)); refine aI ?_))
  all_goals refine iC ?_
  repeat' (first | (refine dK rfl ?_; refine aT fA ?_; refine zX br _ _ _ _ _ _ ?_; refine aB ?_) | (apply aF) | (apply aA) | (apply bP) | (apply aK; exact rfl) | (apply aH) | (apply aD) | (apply bN) | (apply aP; exact rfl; ((refine aL (i := 0) rfl rfl rfl ?_)); refine aB ?_) | (refine aE rfl rfl ?_; ((first | refine aG ?_ | refine aY ?_ | refine bA rfl ?_ | refine aC rfl ?_ | refine bS rfl ?_)); refine aB ?_))
  exact aZ (.inl rfl) (dP rfl (bR rfl)) (cA _ R (fun w hs => hs) k)
end Go.Proofs.YtggdljhmbckpmaaGreat
namespace Go.Proofs.YtggdljhmbckpmaaGreat
open Go Go.RowKit
set_option maxRecDepth 100000
set_option maxHeartbeats 3200000

section
variable {P : Program} {w0 : World} {E : List Value} {H : List Hp} {R : List MP} {ty : TypeId} {K : Value → List MP → Prop}
theorem not_natu (x : Nat) (hx : x < 9223372036854775808) : (BitVec.ofInt 64 IntKind.u64.max ^^^ BitVec.ofInt 64 (x : Int)).toNat = 18446744073709551615 - x := by
  have h1 : BitVec.ofInt 64 IntKind.u64.max = BitVec.allOnes 64 := by decide
  have h2 : BitVec.ofInt 64 (x : Int) = BitVec.ofNat 64 x := by simp
  rw [h1, h2, ← BitVec.not_def, BitVec.toNat_not, BitVec.toNat_ofNat, Nat.mod_eq_of_lt aO]
theorem i7 {t : TypeId} {x : Operand} {a : Nat} (hx : ev E x = .int .u64 (a : Int)) (ha : a < 9223372036854775808) (kk : K (.int .u64 ((18446744073709551615 - a : Nat) : Int)) R) : PW P w0 E (.unOp .xor t x) ty H R K :=
  fS rfl (fun w _ => by
    rw [hx]
    have e : IntKind.u64.wrap ((18446744073709551615 - a : Nat) : Int) = ((18446744073709551615 - a : Nat) : Int) := by simp [IntKind.wrap, IntKind.bits, IntKind.signed]; omega
    have e2 := not_natu a ha
    simp only [Op.unary, IntKind.signed, if_true, Op.intBits, ne_eq, not_true_eq_false, if_false, Sem.run_pure, BitVec.toNat_xor]
    show Result.ok (Value.int .u64 (IntKind.u64.wrap ((BitVec.ofInt 64 IntKind.u64.max ^^^ BitVec.ofInt 64 (a : Int)).toNat : Int))) w = _
    rw [e2, e]) kk
theorem wT {s d : TypeId} {x : Operand} {ds : TypeDesc} {a : Nat} [hs : TyU P s ds] [hd : TyU P d (.int .i64)] (hx : ev E x = .int .u64 ((18446744073709551615 - a : Nat) : Int)) (ha : a < 9223372036854775808) (kk : K (.int .i64 (-(a : Int) - 1)) R) : PW P w0 E (.convert s d x) ty H R K :=
  sW (hs := hs) (hd := hd) hx (by
    have e : IntKind.i64.wrap ((18446744073709551615 - a : Nat) : Int) = -(a : Int) - 1 := by simp [IntKind.wrap, IntKind.bits, IntKind.signed]; omega
    rw [e]; exact kk)
end
theorem eG {w0 : World} (br : Nat) (A : Option Addr) (c : Nat) (xs : List UInt8) (hx : xs.length ≤ 250000) : Rf Tryz.prog w0 42 [.pointer (some ⟨br, 0, none⟩)] br A c xs 0 (fF xs) (fun n _ => .int .i64 n) := by
  intro H R K a bad off _ hax hm hk
  have h0 : dO 0 := by unfold dO; omega
  cases bad with
  | true =>
    refine bV Tryz.func42 rfl Tryz.ntmps42 fI ?_
    repeat' (first | (apply aF) | (apply aA) | (apply aV) | (apply aH) | (apply aD) | (refine aE rfl rfl ?_; ((refine aY ?_)); refine aB ?_))
    refine cM [2, 3, 4, 5, 6, 7, 8, 9, 10, 11, 12, 13, 14, 15, 16, 17, 18, 19, 20, 21, 22, 23, 24, 25, 26, 27, 28, 29, 30, 31, 32, 33, 34, 35, 36, 37, 38, 39, 40, 41, 42, 43, 44, 45, 46, 47, 48, 49, 50] (fun m j H2 R2 => R2 = R ∧ H2 = .blk br (iA A c xs a true off) 105 :: H) 9 eS ⟨rfl, rfl⟩ ?_
    rintro m j' H2 R2 ⟨hR2, hH2⟩
    subst hR2 hH2
    refine dD (by simp only [eF, List.foldl_cons, List.foldl_nil, List.set_cons_succ, List.set_cons_zero]; rfl) ?_
    repeat' (first | (apply aF) | (apply aA) | (apply bP) | (apply cG) | (apply aK; exact rfl) | (apply aJ; exact rfl) | (apply aH) | (apply aD) | (apply bN) | (apply aW) | (apply aS) | (apply aP; exact rfl; ((refine aL (i := 0) rfl rfl rfl ?_)); refine aB ?_) | (refine aE rfl rfl ?_; ((first | refine aG ?_ | refine aY ?_ | refine bA rfl ?_ | refine aC rfl ?_ | refine dJ rfl ?_)); refine aB ?_))
    refine aZ (.inl rfl) (dP rfl (bR rfl)) (cA _ R2 (fun w hs => hs) ?_)
    exact hk 0 a true off () (Out.mk_bad rfl hax) (Nat.le_refl _) hax h0
  | false =>
  refine bV Tryz.func42 rfl Tryz.ntmps42 fI ?_
  repeat' (first | (apply aF) | (apply aA) | (apply aV) | (apply aH) | (apply aD) | (refine aE rfl rfl ?_; ((refine aY ?_)); refine aB ?_))
  refine cM [2, 3, 4, 5, 6, 7, 8, 9, 10, 11, 12, 13, 14, 15, 16, 17, 18, 19, 20, 21, 22, 23, 24, 25, 26, 27, 28, 29, 30, 31, 32, 33, 34, 35, 36, 37, 38, 39, 40, 41, 42, 43, 44, 45, 46, 47, 48, 49, 50] (fun m j H2 R2 => ∃ (i u a' : Nat), i + m = 9 ∧ j 3 = .int .u64 (u : Int) ∧ j 4 = .int .i64 (i : Int) ∧ R2 = R ∧ H2 = .blk br (iA A c xs a' false off) 105 :: H ∧ a ≤ a' ∧ a' ≤ xs.length ∧ u < 128 ^ i ∧ iR xs m i u a' = iR xs 9 0 0 a) 9 eS ⟨0, 0, a, rfl, rfl, rfl, rfl, rfl, Nat.le_refl _, hax, by decide, rfl⟩ ?_
  rintro m j' H2 R2 ⟨i, u, a', him, h3, h4, hR2, hH2, haa, ha', hu, hg⟩
  subst hR2 hH2
  refine dD (by simp only [eF, List.foldl_cons, List.foldl_nil, List.set_cons_succ, List.set_cons_zero, h3, h4]; rfl) ?_
  have HU := Go.Lib.hid hu
  have HG := Go.Lib.hid hg
  clear hu hg
  repeat' (first | (apply aF) | (apply aA) | (apply aV) | (apply bF) | (apply aK; exact rfl) | (apply aH) | (apply aD) | (apply aP; exact rfl; ((refine aL (i := 0) rfl rfl rfl ?_)); refine aB ?_) | (refine aE rfl rfl ?_; ((first | refine aG ?_ | refine bA rfl ?_ | refine aC rfl ?_ | refine dJ rfl ?_)); refine aB ?_))
  refine dK rfl ?_; refine aT fA ?_
  refine zG br A c xs a' off hx ha' hm (fun ch a2 b2 o2 hN le2 hle2 => ?_)
  refine aB ?_
  have hc := ch.toNat_lt
  have HN := Go.Lib.hid hN
  clear hN
  repeat' ((refine aE rfl rfl ?_; ((refine aY ?_)); refine aB ?_))
  apply aH; apply aD
  refine kL [15, 16, 17, 18, 19, 20, 21, 22, 23, 24, 25, 26, 27] (fun j H' R' => H' = .blk br (iA A c xs a2 b2 o2) 105 :: H ∧ R' = R2 ∧ (i = 9 → ch.toNat ≤ 1)) ?_ ?_
  · skip
    repeat' (first | (refine aU rfl ?_; ((first | refine fZ (k := .i64) (a := (i : Int)) (b := 9) rfl rfl (fun h => ?_) (fun h => ?_) | refine fD (k := .u8) (a := (ch.toNat : Int)) (b := 1) rfl rfl (fun h => ?_) (fun h => ?_))) <;> refine aB ?_) | (apply aF) | (apply aA) | (apply bF) | (apply aK; exact rfl) | (apply aJ; exact rfl) | (apply aH) | (apply aD) | (apply aP; exact rfl; ((refine aL (i := 0) rfl rfl rfl ?_)); refine aB ?_) | (apply aU; exact rfl; ((refine eY rfl rfl aO aO ?_)); refine aB ?_) | (refine aE rfl rfl ?_; ((first | refine aG ?_ | refine bX rfl eR ?_ | refine cH rfl eR ?_ | refine bA rfl ?_ | refine aC rfl ?_)); refine aB ?_) | (refine cX rfl ?_; refine aB ?_))
    all_goals try exact gJ _ _ eS ⟨rfl, rfl, by omega⟩ (fun w hs => hs)
    rcases HN.out with ⟨hch, rfl, rfl, rfl⟩ | ⟨_, rfl, _⟩
    rotate_left
    · exact absurd h cQ
    have e1 : fF xs a = .error a' := by
      have hg := HG.out
      have : iR xs m i u a' = .error a' := by
        obtain rfl : m = 0 := by omega
        unfold iR; rw [hch]; simp only; rw [if_pos aO]
      unfold fF
      rw [← hg, this]
    repeat' (first | (refine dK rfl ?_; refine aT fA ?_; refine oD br _ _ _ _ _ a' _ aO ?_; refine aB ?_) | (apply aF) | (apply aA) | (apply bP) | (apply aH) | (apply aD) | (refine aE rfl rfl ?_; ((refine aY ?_)); refine aB ?_))
    repeat' (first | apply bN | apply wW | apply dQ)
    exact aZ (.inl rfl) (dP rfl (bR rfl)) (cA _ R2 (fun w hs => hs) (hk 0 (a' + 1) true a' () (Out.mk_er e1 aO hle2) aO hle2 h0))
  rintro j2 H2 R3 ⟨hH, hR, hc9⟩
  subst hH hR
  refine dD (by simp only [eF, List.foldl_cons, List.foldl_nil, List.set_cons_succ, List.set_cons_zero]; rfl) ?_
  have hu := HU.out
  have eor := zJ u ch.toNat i aO hu hc hc9
  have hp1 : 128 ^ (i + 1) = 128 ^ i * 128 := Nat.pow_succ ..
  have hadd : u + ch.toNat % 128 * 128 ^ i < 18446744073709551616 := by
    rw [← eor]
    exact Nat.or_lt_two_pow (n := 64) (Nat.lt_of_lt_of_le hu (by
      have : 128 ^ i ≤ 128 ^ 9 := Nat.pow_le_pow_right cQ aO
      omega)) (Nat.mod_lt _ cQ)
  have hu64 : u < 2 ^ IntKind.bits .u64 := Nat.lt_of_le_of_lt (Nat.le_add_right _ _) hadd
  have hsh : 7 * i ≤ IntKind.bits .u64 := by simp only [IntKind.bits]; omega
  have HE := Go.Lib.hid eor
  have HA := Go.Lib.hid hadd
  have HP := Go.Lib.hid hp1
  clear hu eor hadd hp1
  apply aF; apply aA
  repeat' (first | (refine aE rfl rfl ?_; ((first | refine tC (k := .u8) (a := ch.toNat) (b := 127) rfl rfl rfl hc cQ ?_ | refine lN rfl rfl ?_ | refine mK (k := .u64) (n := 7 * i) rfl rfl rfl hsh ?_ | refine qJ (k := .u64) rfl rfl rfl hu64 (Nat.mod_lt _ cQ) ?_; rw [HE.out])); refine aB ?_) | (apply aU; exact rfl; ((refine gR rfl rfl aO aO ?_)); refine aB ?_) | (refine aE rfl rfl ?_; ((first | refine aG ?_ | refine aY ?_)); refine aB ?_))
  apply aH; apply aD
  have hadd := HA.out
  obtain ⟨u2, hu2⟩ : ∃ u2, u + ch.toNat % 128 * 128 ^ i = u2 := ⟨_, rfl⟩
  rw [hu2] at hadd ⊢
  have HU2 := Go.Lib.hid hu2
  clear hu2
  repeat' (first | (refine aU rfl ?_; refine bQ (k := .u8) (a := (ch.toNat : Int)) (b := 128) rfl rfl (fun h => ?_) (fun h => ?_) <;> refine aB ?_) | (apply aF) | (apply aA) | (apply bF) | (apply cG) | (apply aK; exact rfl) | (apply aJ; exact rfl) | (apply aH) | (apply aD) | (apply aW) | (apply bU) | (apply aS) | (apply fB; exact rfl) | (apply aP; exact rfl; ((refine aL (i := 0) rfl rfl rfl ?_)); refine aB ?_) | (apply aU; exact rfl; ((first | refine bM rfl rfl aO aO ?_ | refine eY rfl rfl aO aO ?_)); refine aB ?_) | (apply aU; exact rfl; ((first | refine fD rfl rfl (fun h => ?_) (fun h => ?_) | refine fZ rfl rfl (fun h => ?_) (fun h => ?_))) <;> (refine aB ?_)) | (refine aE rfl rfl ?_; ((first | refine aG ?_ | refine aY ?_ | refine bX rfl eR ?_ | refine cH rfl eR ?_ | refine bA rfl ?_ | refine aC rfl ?_)); refine aB ?_) | (refine cX rfl ?_; refine aB ?_))
  all_goals have hu2 := HU2.out
  all_goals have hg := HG.out
  all_goals rcases HN.out with ⟨hch, rfl, rfl, rfl⟩ | ⟨hno, rfl, rfl, rfl, rfl⟩
  · have e1 : fF xs a = .error a' := by
      have : iR xs m i u a' = .error a' := by
        cases m <;> (unfold iR; rw [hch]; simp only; rw [if_pos aO])
      unfold fF
      rw [← hg, this]
    repeat' (first | (refine dK rfl ?_; refine aT fA ?_; refine oD br _ _ _ _ _ a' _ aO ?_; refine aB ?_) | (apply aF) | (apply aA) | (apply bP) | (apply cG) | (apply aK; exact rfl) | (apply aH) | (apply aD) | (apply bN) | (apply aW) | (apply aS) | (apply fB; exact rfl) | (apply aP; exact rfl; ((refine aL (i := 0) rfl rfl rfl ?_)); refine aB ?_) | (refine aE rfl rfl ?_; ((first | refine aG ?_ | refine aY ?_ | refine bA rfl ?_ | refine aC rfl ?_)); refine aB ?_))
    exact aZ (.inl rfl) (dP rfl (bR rfl)) (cA _ R3 (fun w hs => hs) (hk 0 (a' + 1) true a' () (Out.mk_er e1 aO hle2) aO hle2 h0))
  · have e1 : fF xs a = .error xs.length := by
      have : iR xs m i u a2 = .error xs.length := by
        cases m <;> (unfold iR; rw [hno])
      unfold fF
      rw [← hg, this]
    repeat' (first | (refine dK rfl ?_; refine aT fA ?_; refine zX br _ _ _ _ _ _ ?_; refine aB ?_) | (apply aF) | (apply aA) | (apply bP) | (apply cG) | (apply aK; exact rfl) | (apply aH) | (apply aD) | (apply bN) | (apply aW) | (apply aS) | (apply fB; exact rfl) | (apply aP; exact rfl; ((refine aL (i := 0) rfl rfl rfl ?_)); refine aB ?_) | (refine aE rfl rfl ?_; ((first | refine aG ?_ | refine aY ?_ | refine bA rfl ?_ | refine aC rfl ?_)); refine aB ?_))
    exact aZ (.inl rfl) (dP rfl (bR rfl)) (cA _ R3 (fun w hs => hs) (hk 0 a2 true xs.length () (Out.mk_er e1 aO hle2) aO hle2 h0))
  · have hfin : iR xs m i u a' = .ok (u2, a' + 1) := by
      have e1 : ch.toNat % 128 = ch.toNat := by omega
      rw [e1] at hu2
      cases m with
      | zero => unfold iR; rw [hch]; simp only; rw [if_neg aO, hu2]
      | succ m => unfold iR; rw [hch]; simp only; rw [if_neg aO, if_pos aO, hu2]
    have hD : fF xs a = .ok (mB u2, a' + 1) := by unfold fF; rw [← hg, hfin]
    have eand : u2 &&& 1 = u2 % 2 := Nat.and_one_is_mod u2
    have h64 : u2 < 2 ^ IntKind.bits .u64 := hadd
    have HK := hk _ _ _ _ () (Out.mk_ok hD aO hle2) aO hle2 (qF hadd)
    repeat' (first | (refine aE rfl rfl ?_; ((first | refine lX (n := 1) rfl rfl cQ ?_ | refine jG rfl aO ?_ | refine tC (k := .u64) (a := u2) (b := 1) rfl rfl rfl h64 cQ ?_ | refine i7 rfl aO ?_ | refine wT rfl aO ?_)); refine aB ?_) | (apply aF) | (apply aA) | (apply bP) | (apply bF) | (apply aK; exact rfl) | (apply aJ; exact rfl) | (apply aH) | (apply aD) | (apply bN) | (apply aU; exact rfl; ((refine fZ rfl rfl (fun h => ?_) (fun h => ?_))) <;> (refine aB ?_)) | (refine aE rfl rfl ?_; ((first | refine aG ?_ | refine aY ?_)); refine aB ?_))
    all_goals refine aZ (.inl rfl) (dP rfl (bR rfl)) (cA _ R3 (fun w hs => hs) ?_)
    all_goals (first | (rw [pX aO] at HK; exact HK) | (rw [rJ aO] at HK; exact HK))
  · have e1 : fF xs a = .error xs.length := by
      have : iR xs m i u a2 = .error xs.length := by
        cases m <;> (unfold iR; rw [hno])
      unfold fF
      rw [← hg, this]
    repeat' (first | (apply aF) | (apply aA) | (apply bP) | (apply aK; exact rfl) | (apply aH) | (apply aD) | (apply bN) | (refine aE rfl rfl ?_; ((refine aY ?_)); refine aB ?_))
    exact aZ (.inl rfl) (dP rfl (bR rfl)) (cA _ R3 (fun w hs => hs) (hk 0 a2 true xs.length () (Out.mk_er e1 aO hle2) aO hle2 h0))
  · have hfin : iR xs m i u a' = .ok (u2, a' + 1) := by
      have e1 : ch.toNat % 128 = ch.toNat := by omega
      rw [e1] at hu2
      cases m with
      | zero => unfold iR; rw [hch]; simp only; rw [if_neg aO, hu2]
      | succ m => unfold iR; rw [hch]; simp only; rw [if_neg aO, if_pos aO, hu2]
    have hD : fF xs a = .ok (mB u2, a' + 1) := by unfold fF; rw [← hg, hfin]
    have eand : u2 &&& 1 = u2 % 2 := Nat.and_one_is_mod u2
    have h64 : u2 < 2 ^ IntKind.bits .u64 := hadd
    have HK := hk _ _ _ _ () (Out.mk_ok hD aO hle2) aO hle2 (qF hadd)
    repeat' (first | (refine aE rfl rfl ?_; ((first | refine lX (n := 1) rfl rfl cQ ?_ | refine jG rfl aO ?_ | refine tC (k := .u64) (a := u2) (b := 1) rfl rfl rfl h64 cQ ?_ | refine i7 rfl aO ?_ | refine wT rfl aO ?_)); refine aB ?_) | (apply aF) | (apply aA) | (apply bP) | (apply bF) | (apply aK; exact rfl) | (apply aJ; exact rfl) | (apply aH) | (apply aD) | (apply bN) | (apply aU; exact rfl; ((refine fZ rfl rfl (fun h => ?_) (fun h => ?_))) <;> (refine aB ?_)) | (refine aE rfl rfl ?_; ((first | refine aG ?_ | refine aY ?_)); refine aB ?_))
    all_goals refine aZ (.inl rfl) (dP rfl (bR rfl)) (cA _ R3 (fun w hs => hs) ?_)
    all_goals (first | (rw [pX aO] at HK; exact HK) | (rw [rJ aO] at HK; exact HK))
  · exact absurd rfl ‹¬_›
  · obtain ⟨k, rfl⟩ : ∃ k, m = k + 1 := by
      cases m with
      | zero => omega
      | succ k => exact ⟨k, rfl⟩
    have e1 : ch.toNat % 128 = ch.toNat - 128 := by omega
    have hu := HU.out
    refine cJ k _ R3 aO eS ⟨i + 1, u2, a' + 1, by omega, rfl, ?_, rfl, rfl, by omega, hle2, ?_, ?_⟩ (fun w hs => hs)
    · show Value.int .i64 _ = _
      congr 1
    · rw [← hu2, HP.out]
      have : ch.toNat % 128 * 128 ^ i ≤ 127 * 128 ^ i := Nat.mul_le_mul_right _ aO
      omega
    · rw [← hg, iR, hch]
      simp only
      rw [if_neg aO, if_neg aO, ← e1, hu2]
  · exact absurd h cQ
end Go.Proofs.YtggdljhmbckpmaaGreat
