/- The reference's reader: its state, bytes: walks. The reference's reader: numbers: walk. The reference's reader: lengths, truths, texts: walks; lists: plain laws. The reference's reader: lists: walks, printed by gen_vf.py. -/
import Derived.Test.YtggdljhmbckpmaaGreatN7
set_option linter.unusedVariables false
set_option linter.unusedSimpArgs false
namespace Go.Proofs.YtggdljhmbckpmaaGreat
open Go Go.RowKit
set_option maxRecDepth 100000
set_option maxHeartbeats 3200000

structure RS where
  at_ : Nat
  bad : Bool
  off : Nat
abbrev gD (A : Option Addr) (c : Nat) (xs : List UInt8) (a : Nat) (b : Bool) (o : Nat) : List Value := [.slice A xs.length c, .int .i64 (a : Int), .bool b, .int .i64 (o : Int)]
/-- What reading as 'd' leaves. -/
structure Out {α : Type} (xs : List UInt8) (d : Dc α) (s : RS) (x : α) (s' : RS) : Prop where
  le : s.at_ ≤ s'.at_
  len : s'.at_ ≤ xs.length
  bad : s.bad = true → s' = s
  er : s.bad = false → ∀ e, d s.at_ = .error e → s'.bad = true ∧ s'.off = e
  ok : s.bad = false → ∀ x0 a', d s.at_ = .ok (x0, a') → x = x0 ∧ s' = ⟨a', false, s.off⟩
theorem Out.good {α : Type} {xs : List UInt8} {d : Dc α} {s s' : RS} {x : α} (h : Out xs d s x s') (hb : s'.bad = false) : s.bad = false ∧ d s.at_ = .ok (x, s'.at_) ∧ s'.off = s.off := by
  cases hs : s.bad with
  | true => rw [h.bad hs, hs] at hb; cases hb
  | false =>
    cases hd : d s.at_ with
    | error e => rw [(h.er hs e hd).1] at hb; cases hb
    | ok p =>
      obtain ⟨x0, a1⟩ := p
      obtain ⟨h1, h2⟩ := h.ok hs x0 a1 hd
      subst h1 h2
      exact ⟨rfl, rfl, rfl⟩
theorem Out.fault {α : Type} {xs : List UInt8} {d : Dc α} {s s' : RS} {x : α} (h : Out xs d s x s') (hs : s.bad = false) (hb : s'.bad = true) : d s.at_ = .error s'.off := by
  cases hd : d s.at_ with
  | error e => rw [(h.er hs e hd).2]
  | ok p =>
    obtain ⟨x0, a1⟩ := p
    obtain ⟨h1, h2⟩ := h.ok hs x0 a1 hd
    rw [h2] at hb
    cases hb
theorem Out.mk_bad {α : Type} {xs : List UInt8} {d : Dc α} {s : RS} {x : α} (hs : s.bad = true) (h : s.at_ ≤ xs.length) : Out xs d s x s :=
  ⟨Nat.le_refl _, h, fun _ => rfl, fun h => by rw [hs] at h; (cases h), fun h => by rw [hs] at h; (cases h)⟩
theorem Out.mk_er {α : Type} {xs : List UInt8} {d : Dc α} {a a' off e : Nat} {x : α} (hd : d a = .error e) (h : a ≤ a') (h' : a' ≤ xs.length) : Out xs d ⟨a, false, off⟩ x ⟨a', true, e⟩ :=
  ⟨h, h', fun h => by (cases h), fun _ e' he => by rw [hd] at he; (injection he with he); exact ⟨rfl, he⟩, fun _ x0 a0 he => by rw [hd] at he; (cases he)⟩
theorem Out.mk_ok {α : Type} {xs : List UInt8} {d : Dc α} {a a' off : Nat} {x : α} (hd : d a = .ok (x, a')) (h : a ≤ a') (h' : a' ≤ xs.length) : Out xs d ⟨a, false, off⟩ x ⟨a', false, off⟩ :=
  ⟨h, h', fun h => by (cases h), fun _ e' he => by rw [hd] at he; (cases he), fun _ x0 a0 he => by
    rw [hd] at he
    injection he with he
    injection he with e1 e2
    subst e1 e2
    exact ⟨rfl, rfl⟩⟩
theorem Out.pair {α β : Type} {xs : List UInt8} {d : Dc α} {d' : Dc β} {s s1 s2 : RS} {x : α} {y : β} (h : Out xs d s x s1) (k : Out xs d' s1 y s2) : Out xs (bW d d') s (x, y) s2 := by
  refine ⟨Nat.le_trans h.le k.le, k.len, fun hb => ?_, fun hb e he => ?_, fun hb p a' he => ?_⟩
  · have h1 := h.bad hb
    subst h1
    exact k.bad hb
  · unfold bW at he
    cases hg : d s.at_ with
    | error e' =>
      rw [hg] at he
      injection he with he
      subst he
      obtain ⟨h1, h2⟩ := h.er hb e' hg
      rw [k.bad h1]
      exact ⟨h1, h2⟩
    | ok p =>
      obtain ⟨x0, a1⟩ := p
      rw [hg] at he
      simp only at he
      obtain ⟨h1, h2⟩ := h.ok hb x0 a1 hg
      subst h2
      cases hr : d' a1 with
      | error e' =>
        rw [hr] at he
        injection he with he
        subst he
        exact k.er rfl e' hr
      | ok q => rw [hr] at he; cases he
  · unfold bW at he
    cases hg : d s.at_ with
    | error e' => rw [hg] at he; cases he
    | ok p =>
      obtain ⟨x0, a1⟩ := p
      rw [hg] at he
      simp only at he
      obtain ⟨h1, h2⟩ := h.ok hb x0 a1 hg
      subst h2
      cases hr : d' a1 with
      | error e' => rw [hr] at he; cases he
      | ok q =>
        obtain ⟨y0, a2⟩ := q
        rw [hr] at he
        injection he with he
        injection he with e1 e2
        obtain ⟨k1, k2⟩ := k.ok rfl y0 a2 hr
        subst e1 e2
        exact ⟨by rw [h1, k1], k2⟩
theorem Out.map {α β : Type} {xs : List UInt8} {d : Dc α} {f : α → β} {s s1 : RS} {x : α} (h : Out xs d s x s1) : Out xs (iV f d) s (f x) s1 := by
  refine ⟨h.le, h.len, h.bad, fun hb e he => h.er hb e (xP he), fun hb p a' he => ?_⟩
  obtain ⟨x0, h1, h2⟩ := xE he
  obtain ⟨k1, k2⟩ := h.ok hb x0 a' h1
  exact ⟨by rw [h2, k1], k2⟩
/-- A call of the reference that reads as 'd' does, from m on. -/
def Rf (P : Program) (w0 : World) (f : FuncId) (args : List Value) (br : Nat) (A : Option Addr) (c : Nat) (xs : List UInt8) (m : Nat) {α : Type} [Rep α] [Unp α] (d : Dc α) (val : α → Unp.Y α → Value) : Prop :=
  ∀ (H : List Hp) (R : List MP) (K : Value → List Hp → List MP → Prop) (a : Nat) (b : Bool) (o : Nat), (b = false → m ≤ a) → a ≤ xs.length → Sl (.slice A xs.length c) xs ∈ R →
    (∀ x a' b' o' (y : Unp.Y α), Out xs d ⟨a, b, o⟩ x ⟨a', b', o'⟩ → a ≤ a' → a' ≤ xs.length → Unp.ok x y → K (val x y) (.blk br (gD A c xs a' b' o') 105 :: H) (Unp.fs x y ++ R)) →
    CallsK P w0 f args.toArray (.blk br (gD A c xs a b o) 105 :: H) R K
section
variable {F : Fence} {n : Nat} {P : Program} {w0 : World} {D : List Deferred} {ops : Array Oper} {Q : Exit → Act → World → Prop} {rest : List Oper} {E : List Value} {H : List Hp} {R : List MP}
theorem uT [Wd F] {dst : Option Tmp} {f : FuncId} {l : List Operand} {at_ : Array TypeId} {ty : TypeId} {pos : String} {aft : Array Edge} {g : Option (Nat × Bool)} {args : List Value} {br : Nat} {A : Option Addr} {c : Nat} {xs : List UInt8} {m a : Nat} {b : Bool} {o : Nat} {α : Type} [Rep α] [Unp α] {d : Dc α} {val : α → Unp.Y α → Value}
    (hw : Region.wanted ⟨dst, .call ⟨.value (.func f), l.toArray, at_⟩, ty, pos, aft, g⟩ (yielded ops E.toArray) = true) (hA : l.map (ev E) = args) [FnOk P f] (h : Rf P w0 f args br A c xs m d val) (hma : b = false → m ≤ a) (hax : a ≤ xs.length) (hm : Sl (.slice A xs.length c) xs ∈ R)
    (hk : ∀ x a' b' o' (y : Unp.Y α), Out xs d ⟨a, b, o⟩ x ⟨a', b', o'⟩ → a ≤ a' → a' ≤ xs.length → Unp.ok x y → T F n P w0 D ops Q rest (dP E dst (val x y)) (.blk br (gD A c xs a' b' o') 105 :: H) (Unp.fs x y ++ R)) : T F n P w0 D ops Q (⟨dst, .call ⟨.value (.func f), l.toArray, at_⟩, ty, pos, aft, g⟩ :: rest) E (.blk br (gD A c xs a b o) 105 :: H) R :=
  dS hw (aY hA (h H R _ a b o hma hax hm hk))
end

theorem mR {w0 : World} {H : List Hp} {R : List MP} {K : Value → List Hp → List MP → Prop} (br : Nat) (A : Option Addr) (c : Nat) (xs : List UInt8) (a off z : Nat) (at_ : Int) (hz : at_ = (z : Int)) (k : K (.tuple #[]) (.blk br (gD A c xs a true z) 105 :: H) R) :
    CallsK Tryz.prog w0 41 #[.pointer (some ⟨br, 0, none⟩), .int .i64 at_] (.blk br (gD A c xs a false off) 105 :: H) R K := by
  subst hz
  refine bX Tryz.func41 rfl Tryz.ntmps41 eZ ?_
  repeat' (first | (apply aF) | (apply aA) | (apply aK; exact rfl) | (apply aG) | (apply aD) | (apply aP; exact rfl; ((refine aM (i := 0) rfl rfl rfl ?_)); refine aB ?_) | (apply bD; exact rfl; ((refine aO (i := 0) rfl cW rfl (by rfl) (by simp) (by simp [Value.oneCell']) ?_)); refine aB ?_; refine cA ?_) | (refine aE rfl rfl ?_; ((first | refine aH ?_ | refine aW rfl ?_ | refine aC rfl ?_ | refine dE rfl ?_)); refine aB ?_))
  exact bC (.inr rfl) (fV rfl) (cG _ R (fun w hs => hs) k)
theorem wZ {w0 : World} {H : List Hp} {R : List MP} {K : Value → List Hp → List MP → Prop} (br : Nat) (A : Option Addr) (c : Nat) (xs : List UInt8) (a off : Nat) (at_ : Int) (k : K (.tuple #[]) (.blk br (gD A c xs a true off) 105 :: H) R) :
    CallsK Tryz.prog w0 41 #[.pointer (some ⟨br, 0, none⟩), .int .i64 at_] (.blk br (gD A c xs a true off) 105 :: H) R K := by
  refine bX Tryz.func41 rfl Tryz.ntmps41 eZ ?_
  repeat' (first | (apply aF) | (apply aA) | (apply bE) | (apply aI; exact rfl) | (apply aG) | (apply aD) | (apply aP; exact rfl; ((refine aM (i := 0) rfl rfl rfl ?_)); refine aB ?_) | (refine aE rfl rfl ?_; ((first | refine aH ?_ | refine aW rfl ?_ | refine aC rfl ?_ | refine dE rfl ?_)); refine aB ?_))
  exact bC (.inr rfl) (fV rfl) (cG _ R (fun w hs => hs) k)
theorem vX {w0 : World} {H : List Hp} {R : List MP} {K : Value → List Hp → List MP → Prop} (br : Nat) (A : Option Addr) (c : Nat) (xs : List UInt8) (a off : Nat) (hx : xs.length ≤ 250000) (ha : a ≤ xs.length) (hm : Sl (.slice A xs.length c) xs ∈ R)
    (k : ∀ ch a' b' o', (xs[a]? = some ch ∧ a' = a + 1 ∧ b' = false ∧ o' = off) ∨ (xs[a]? = none ∧ ch = 0 ∧ a' = a ∧ b' = true ∧ o' = xs.length) → a ≤ a' → a' ≤ xs.length → K (eP ch) (.blk br (gD A c xs a' b' o') 105 :: H) R) :
    CallsK Tryz.prog w0 40 #[.pointer (some ⟨br, 0, none⟩)] (.blk br (gD A c xs a false off) 105 :: H) R K := by
  rcases Nat.lt_or_ge a xs.length with hlt | hge
  · skip
    refine bX Tryz.func40 rfl Tryz.ntmps40 eZ ?_
    repeat' (first | (apply aF) | (apply aA) | (apply aG) | (apply aD) | (refine aE rfl rfl ?_; ((refine aX ?_)); refine aB ?_))
    refine dQ eT (by decide +kernel) (fun _ _ _ _ _ _ h => h) (List.Sublist.refl _) ?_
    all_goals ((refine bF 0 ?_; ((refine aH ?_)); refine aJ ?_))
    all_goals ((refine bF 1 ?_; ((refine aW rfl ?_)); refine aJ ?_))
    all_goals ((refine bF 2 ?_; ((refine aC rfl ?_)); refine aJ ?_))
    all_goals ((refine bF 3 ?_; ((refine aM (i := 0) rfl rfl rfl ?_)); refine aJ ?_))
    all_goals ((refine bF 4 ?_; ((refine aH ?_)); refine aJ ?_))
    all_goals ((refine bF 5 ?_; ((refine aH ?_)); refine aJ ?_))
    all_goals ((refine bF 6 ?_; ((refine aW rfl ?_)); refine aJ ?_))
    all_goals ((refine bF 7 ?_; ((refine aC rfl ?_)); refine aJ ?_))
    all_goals ((refine bF 8 ?_; ((refine aM (i := 0) rfl rfl rfl ?_)); refine aJ ?_))
    all_goals ((refine bF 9 ?_; ((refine aH ?_)); refine aJ ?_))
    all_goals ((refine bF 10 ?_; ((refine aW rfl ?_)); refine aJ ?_))
    all_goals ((refine bF 11 ?_; ((refine aC rfl ?_)); refine aJ ?_))
    all_goals ((refine bF 12 ?_; ((refine aM (i := 0) rfl rfl rfl ?_)); refine aJ ?_))
    all_goals ((refine bF 13 ?_; ((refine bQ rfl ?_)); refine aJ ?_))
    all_goals ((refine bF 14 ?_; ((refine jJ rfl rfl (fun h => ?_) (fun h => ?_))) <;> (first | (exfalso; omega) | refine aJ ?_)))
    all_goals ((refine bF 15 ?_; ((refine cI rfl eJ ?_)); refine aJ ?_))
    all_goals refine gX ?_
    repeat' (first | (apply aF) | (apply aA) | (apply bE) | (apply aI; exact rfl) | (apply aG) | (apply aD) | (apply aP; exact rfl; ((refine aM (i := 0) rfl rfl rfl ?_)); refine aB ?_) | (apply aU; exact rfl; ((refine bI rfl rfl (by omega) (by omega) ?_)); refine aB ?_) | (apply bD; exact rfl; ((refine aO (i := 0) rfl cW rfl (by rfl) (by simp) (by simp [Value.oneCell']) ?_)); refine aB ?_; refine cA ?_) | (refine aE rfl rfl ?_; ((first | refine aH ?_ | refine aW rfl ?_ | refine aC rfl ?_)); refine aB ?_))
    have e1 : (((a : Int) + 1) - 1) = (a : Int) := by omega
    refine dQ eT (by decide +kernel) (fun _ _ _ _ _ _ h => h) (List.Sublist.refl _) ?_
    all_goals ((refine bF 0 ?_; ((refine aH ?_)); refine aJ ?_))
    all_goals ((refine bF 1 ?_; ((refine aW rfl ?_)); refine aJ ?_))
    all_goals ((refine bF 2 ?_; ((refine aC rfl ?_)); refine aJ ?_))
    all_goals ((refine bF 3 ?_; ((refine aM (i := 0) rfl rfl rfl ?_)); refine aJ ?_))
    all_goals ((refine bF 4 ?_; ((refine aH ?_)); refine aJ ?_))
    all_goals ((refine bF 5 ?_; ((refine aW rfl ?_)); refine aJ ?_))
    all_goals ((refine bF 6 ?_; ((refine aC rfl ?_)); refine aJ ?_))
    all_goals ((refine bF 7 ?_; ((refine aM (i := 0) rfl rfl rfl ?_)); refine aJ ?_))
    all_goals ((refine bF 8 ?_; ((refine eR rfl rfl (by omega) (by omega) ?_)); refine aJ ?_))
    all_goals ((refine bF 9 ?_; ((rw [e1]; refine kI rfl rfl hm (List.getElem?_eq_getElem hlt) (fun b o => ?_))); refine aJ ?_))
    all_goals ((refine bF 10 ?_; ((refine aZ rfl cJ rfl ?_)); refine aJ ?_))
    all_goals ((refine bF 11 ?_; ((refine aX ?_)); refine aJ ?_))
    all_goals refine gX ?_
    repeat' (first | (apply bN) | (apply aD))
    refine bC (.inl rfl) (dM rfl (bS rfl)) (cG _ R (fun w hs => hs.weaken bU cZ) ?_)
    exact k xs[a] (a + 1) false off (.inl ⟨List.getElem?_eq_getElem hlt, rfl, rfl, rfl⟩) (by omega) hlt
  · skip
    refine bX Tryz.func40 rfl Tryz.ntmps40 eZ ?_
    repeat' (first | (apply aF) | (apply aA) | (apply aG) | (apply aD) | (refine aE rfl rfl ?_; ((refine aX ?_)); refine aB ?_))
    refine dQ eT (by decide +kernel) (fun _ _ _ _ _ _ h => h) (List.Sublist.refl _) ?_
    all_goals ((refine bF 0 ?_; ((refine aH ?_)); refine aJ ?_))
    all_goals ((refine bF 1 ?_; ((refine aW rfl ?_)); refine aJ ?_))
    all_goals ((refine bF 2 ?_; ((refine aC rfl ?_)); refine aJ ?_))
    all_goals ((refine bF 3 ?_; ((refine aM (i := 0) rfl rfl rfl ?_)); refine aJ ?_))
    all_goals ((refine bF 4 ?_; ((refine aH ?_)); refine aJ ?_))
    all_goals ((refine bF 5 ?_; ((refine aH ?_)); refine aJ ?_))
    all_goals ((refine bF 6 ?_; ((refine aW rfl ?_)); refine aJ ?_))
    all_goals ((refine bF 7 ?_; ((refine aC rfl ?_)); refine aJ ?_))
    all_goals ((refine bF 8 ?_; ((refine aM (i := 0) rfl rfl rfl ?_)); refine aJ ?_))
    all_goals ((refine bF 9 ?_; ((refine aH ?_)); refine aJ ?_))
    all_goals ((refine bF 10 ?_; ((refine aW rfl ?_)); refine aJ ?_))
    all_goals ((refine bF 11 ?_; ((refine aC rfl ?_)); refine aJ ?_))
    all_goals ((refine bF 12 ?_; ((refine aM (i := 0) rfl rfl rfl ?_)); refine aJ ?_))
    all_goals ((refine bF 13 ?_; ((refine bQ rfl ?_)); refine aJ ?_))
    all_goals ((refine bF 14 ?_; ((refine jJ rfl rfl (fun h => ?_) (fun h => ?_))) <;> (first | (exfalso; omega) | refine aJ ?_)))
    all_goals ((refine bF 15 ?_; ((refine cI rfl eJ ?_)); refine aJ ?_))
    all_goals refine gX ?_
    repeat' (first | (refine dS rfl ?_; refine aY fA ?_; refine mR br _ _ _ _ _ xs.length _ rfl ?_; refine aB ?_) | (apply aF) | (apply aA) | (apply bN) | (apply aK; exact rfl) | (apply aG) | (apply aD) | (apply bO) | (apply aP; exact rfl; ((refine aM (i := 0) rfl rfl rfl ?_)); refine aB ?_) | (refine aE rfl rfl ?_; ((first | refine aH ?_ | refine aX ?_ | refine aW rfl ?_ | refine aC rfl ?_ | refine bQ rfl ?_)); refine aB ?_))
    refine bC (.inl rfl) (dM rfl (bS rfl)) (cG _ R (fun w hs => hs) ?_)
    exact k 0 a true xs.length (.inr ⟨List.getElem?_eq_none hge, rfl, rfl, rfl, rfl⟩) (by omega) ha
theorem next_b {w0 : World} {H : List Hp} {R : List MP} {K : Value → List Hp → List MP → Prop} (br : Nat) (A : Option Addr) (c : Nat) (xs : List UInt8) (a off : Nat)
    (k : K (eP 0) (.blk br (gD A c xs a true off) 105 :: H) R) :
    CallsK Tryz.prog w0 40 #[.pointer (some ⟨br, 0, none⟩)] (.blk br (gD A c xs a true off) 105 :: H) R K := by
  refine bX Tryz.func40 rfl Tryz.ntmps40 eZ ?_
  repeat' (first | (apply aF) | (apply aA) | (apply aG) | (apply aD) | (refine aE rfl rfl ?_; ((refine aX ?_)); refine aB ?_))
  refine dQ eT (by decide +kernel) (fun _ _ _ _ _ _ h => h) (List.Sublist.refl _) ?_
  all_goals ((refine bF 0 ?_; ((refine aH ?_)); refine aJ ?_))
  all_goals ((refine bF 1 ?_; ((refine aW rfl ?_)); refine aJ ?_))
  all_goals ((refine bF 2 ?_; ((refine aC rfl ?_)); refine aJ ?_))
  all_goals ((refine bF 3 ?_; ((refine aM (i := 0) rfl rfl rfl ?_)); refine aJ ?_))
  all_goals ((refine bF 4 ?_; ((refine aH ?_)); refine aJ ?_))
  all_goals ((refine dH 5 (List.Sublist.refl _) ?_))
  all_goals ((refine dH 6 (List.Sublist.refl _) ?_))
  all_goals ((refine dH 7 (List.Sublist.refl _) ?_))
  all_goals ((refine dH 8 (List.Sublist.refl _) ?_))
  all_goals ((refine dH 9 (List.Sublist.refl _) ?_))
  all_goals ((refine dH 10 (List.Sublist.refl _) ?_))
  all_goals ((refine dH 11 (List.Sublist.refl _) ?_))
  all_goals ((refine dH 12 (List.Sublist.refl _) ?_))
  all_goals ((refine dH 13 (List.Sublist.refl _) ?_))
  all_goals ((refine dH 14 (List.Sublist.refl _) ?_))
  all_goals ((refine bF 15 ?_; ((refine bT rfl eJ ?_)); refine aJ ?_))
  all_goals refine gX ?_
  repeat' (first | (refine dS rfl ?_; refine aY fA ?_; refine wZ br _ _ _ _ _ _ ?_; refine aB ?_) | (apply aF) | (apply aA) | (apply bN) | (apply aK; exact rfl) | (apply aG) | (apply aD) | (apply bO) | (apply aP; exact rfl; ((refine aM (i := 0) rfl rfl rfl ?_)); refine aB ?_) | (refine aE rfl rfl ?_; ((first | refine aH ?_ | refine aX ?_ | refine aW rfl ?_ | refine aC rfl ?_ | refine bQ rfl ?_)); refine aB ?_))
  exact bC (.inl rfl) (dM rfl (bS rfl)) (cG _ R (fun w hs => hs) k)
end Go.Proofs.YtggdljhmbckpmaaGreat
namespace Go.Proofs.YtggdljhmbckpmaaGreat
open Go Go.RowKit
set_option maxRecDepth 100000
set_option maxHeartbeats 3200000

section
variable {P : Program} {w0 : World} {E : List Value} {H : List Hp} {R : List MP} {ty : TypeId} {K : Value → List MP → Prop}
theorem f8 (x : Nat) (hx : x < 9223372036854775808) : (BitVec.ofInt 64 IntKind.u64.max ^^^ BitVec.ofInt 64 (x : Int)).toNat = 18446744073709551615 - x := by
  have h1 : BitVec.ofInt 64 IntKind.u64.max = BitVec.allOnes 64 := by decide
  have h2 : BitVec.ofInt 64 (x : Int) = BitVec.ofNat 64 x := by simp
  rw [h1, h2, ← BitVec.not_def, BitVec.toNat_not, BitVec.toNat_ofNat, Nat.mod_eq_of_lt (by omega)]
theorem xB {t : TypeId} {x : Operand} {a : Nat} (hx : ev E x = .int .u64 (a : Int)) (ha : a < 9223372036854775808) (kk : K (.int .u64 ((18446744073709551615 - a : Nat) : Int)) R) : PW P w0 E (.unOp .xor t x) ty H R K :=
  eV rfl (fun w _ => by
    rw [hx]
    have e : IntKind.u64.wrap ((18446744073709551615 - a : Nat) : Int) = ((18446744073709551615 - a : Nat) : Int) := by simp [IntKind.wrap, IntKind.bits, IntKind.signed]; omega
    have e2 := f8 a ha
    simp only [Op.unary, IntKind.signed, if_true, Op.intBits, ne_eq, not_true_eq_false, if_false, Sem.run_pure, BitVec.toNat_xor]
    show Result.ok (Value.int .u64 (IntKind.u64.wrap ((BitVec.ofInt 64 IntKind.u64.max ^^^ BitVec.ofInt 64 (a : Int)).toNat : Int))) w = _
    rw [e2, e]) kk
theorem uY {s d : TypeId} {x : Operand} {ds : TypeDesc} {a : Nat} [hs : TyU P s ds] [hd : TyU P d (.int .i64)] (hx : ev E x = .int .u64 ((18446744073709551615 - a : Nat) : Int)) (ha : a < 9223372036854775808) (kk : K (.int .i64 (-(a : Int) - 1)) R) : PW P w0 E (.convert s d x) ty H R K :=
  qZ (hs := hs) (hd := hd) hx (by
    have e : IntKind.i64.wrap ((18446744073709551615 - a : Nat) : Int) = -(a : Int) - 1 := by simp [IntKind.wrap, IntKind.bits, IntKind.signed]; omega
    rw [e]; exact kk)
end
theorem dR {w0 : World} (br : Nat) (A : Option Addr) (c : Nat) (xs : List UInt8) (hx : xs.length ≤ 250000) : Rf Tryz.prog w0 42 [.pointer (some ⟨br, 0, none⟩)] br A c xs 0 (eH xs) (fun n _ => .int .i64 n) := by
  intro H R K a bad off _ hax hm hk
  have h0 : dD 0 := by unfold dD; omega
  cases bad with
  | true =>
    refine bX Tryz.func42 rfl Tryz.ntmps42 eZ ?_
    repeat' (first | (apply aF) | (apply aA) | (apply aT) | (apply aG) | (apply aD) | (refine aE rfl rfl ?_; ((refine aX ?_)); refine aB ?_))
    refine cK [2, 3, 4, 5, 6, 7, 8, 9, 10, 11, 12, 13, 14, 15, 16, 17, 18, 19, 20, 21, 22, 23, 24, 25, 26, 27, 28, 29, 30, 31, 32, 33, 34, 35, 36, 37, 38, 39, 40, 41, 42, 43, 44, 45, 46, 47, 48, 49, 50] (fun m j H2 R2 => R2 = R ∧ H2 = .blk br (gD A c xs a true off) 105 :: H) 9 eE ⟨rfl, rfl⟩ ?_
    rintro m j' H2 R2 ⟨hR2, hH2⟩
    subst hR2 hH2
    refine cQ (by simp only [dX, List.foldl_cons, List.foldl_nil, List.set_cons_succ, List.set_cons_zero]; rfl) ?_
    repeat' (first | (apply aF) | (apply aA) | (apply bN) | (apply bV) | (apply aK; exact rfl) | (apply aI; exact rfl) | (apply aG) | (apply aD) | (apply bO) | (apply aS) | (apply aR) | (apply aP; exact rfl; ((refine aM (i := 0) rfl rfl rfl ?_)); refine aB ?_) | (refine aE rfl rfl ?_; ((first | refine aH ?_ | refine aX ?_ | refine aW rfl ?_ | refine aC rfl ?_ | refine dE rfl ?_)); refine aB ?_))
    refine bC (.inl rfl) (dM rfl (bS rfl)) (cG _ R2 (fun w hs => hs) ?_)
    exact hk 0 a true off () (Out.mk_bad rfl hax) (Nat.le_refl _) hax h0
  | false =>
  refine bX Tryz.func42 rfl Tryz.ntmps42 eZ ?_
  repeat' (first | (apply aF) | (apply aA) | (apply aT) | (apply aG) | (apply aD) | (refine aE rfl rfl ?_; ((refine aX ?_)); refine aB ?_))
  refine cK [2, 3, 4, 5, 6, 7, 8, 9, 10, 11, 12, 13, 14, 15, 16, 17, 18, 19, 20, 21, 22, 23, 24, 25, 26, 27, 28, 29, 30, 31, 32, 33, 34, 35, 36, 37, 38, 39, 40, 41, 42, 43, 44, 45, 46, 47, 48, 49, 50] (fun m j H2 R2 => ∃ (i u a' : Nat), i + m = 9 ∧ j 3 = .int .u64 (u : Int) ∧ j 4 = .int .i64 (i : Int) ∧ R2 = R ∧ H2 = .blk br (gD A c xs a' false off) 105 :: H ∧ a ≤ a' ∧ a' ≤ xs.length ∧ u < 128 ^ i ∧ gU xs m i u a' = gU xs 9 0 0 a) 9 eE ⟨0, 0, a, rfl, rfl, rfl, rfl, rfl, Nat.le_refl _, hax, by decide, rfl⟩ ?_
  rintro m j' H2 R2 ⟨i, u, a', him, h3, h4, hR2, hH2, haa, ha', hu, hg⟩
  subst hR2 hH2
  refine cQ (by simp only [dX, List.foldl_cons, List.foldl_nil, List.set_cons_succ, List.set_cons_zero, h3, h4]; rfl) ?_
  have HU := Go.Lib.hid hu
  have HG := Go.Lib.hid hg
  clear hu hg
  repeat' (first | (apply aF) | (apply aA) | (apply aT) | (apply bE) | (apply aK; exact rfl) | (apply aG) | (apply aD) | (apply aP; exact rfl; ((refine aM (i := 0) rfl rfl rfl ?_)); refine aB ?_) | (refine aE rfl rfl ?_; ((first | refine aH ?_ | refine aW rfl ?_ | refine aC rfl ?_ | refine dE rfl ?_)); refine aB ?_))
  refine dS rfl ?_; refine aY fA ?_
  refine vX br A c xs a' off hx ha' hm (fun ch a2 b2 o2 hN le2 hle2 => ?_)
  refine aB ?_
  have hc := ch.toNat_lt
  have HN := Go.Lib.hid hN
  clear hN
  repeat' ((refine aE rfl rfl ?_; ((refine aX ?_)); refine aB ?_))
  apply aG; apply aD
  refine iZ [15, 16, 17, 18, 19, 20, 21, 22, 23, 24, 25, 26, 27] (fun j H' R' => H' = .blk br (gD A c xs a2 b2 o2) 105 :: H ∧ R' = R2 ∧ (i = 9 → ch.toNat ≤ 1)) ?_ ?_
  · skip
    repeat' (first | (refine aU rfl ?_; ((first | refine fS (k := .i64) (a := (i : Int)) (b := 9) rfl rfl (fun h => ?_) (fun h => ?_) | refine fF (k := .u8) (a := (ch.toNat : Int)) (b := 1) rfl rfl (fun h => ?_) (fun h => ?_))) <;> refine aB ?_) | (apply aF) | (apply aA) | (apply bE) | (apply aK; exact rfl) | (apply aI; exact rfl) | (apply aG) | (apply aD) | (apply aP; exact rfl; ((refine aM (i := 0) rfl rfl rfl ?_)); refine aB ?_) | (apply aU; exact rfl; ((refine eR rfl rfl (by omega) (by omega) ?_)); refine aB ?_) | (refine aE rfl rfl ?_; ((first | refine aH ?_ | refine bT rfl eJ ?_ | refine cI rfl eJ ?_ | refine aW rfl ?_ | refine aC rfl ?_)); refine aB ?_) | (refine cR rfl ?_; refine aB ?_))
    all_goals try exact fM _ _ eE ⟨rfl, rfl, by omega⟩ (fun w hs => hs)
    rcases HN.out with ⟨hch, rfl, rfl, rfl⟩ | ⟨_, rfl, _⟩
    rotate_left
    · exact absurd h (by decide)
    have e1 : eH xs a = .error a' := by
      have hg := HG.out
      have : gU xs m i u a' = .error a' := by
        obtain rfl : m = 0 := by omega
        unfold gU; rw [hch]; simp only; rw [if_pos (by omega)]
      unfold eH
      rw [← hg, this]
    repeat' (first | (refine dS rfl ?_; refine aY fA ?_; refine mR br _ _ _ _ _ a' _ (by omega) ?_; refine aB ?_) | (apply aF) | (apply aA) | (apply bN) | (apply aG) | (apply aD) | (refine aE rfl rfl ?_; ((refine aX ?_)); refine aB ?_))
    repeat' (first | apply bO | apply uS | apply dO)
    exact bC (.inl rfl) (dM rfl (bS rfl)) (cG _ R2 (fun w hs => hs) (hk 0 (a' + 1) true a' () (Out.mk_er e1 (by omega) hle2) (by omega) hle2 h0))
  rintro j2 H2 R3 ⟨hH, hR, hc9⟩
  subst hH hR
  refine cQ (by simp only [dX, List.foldl_cons, List.foldl_nil, List.set_cons_succ, List.set_cons_zero]; rfl) ?_
  have hu := HU.out
  have eor := xM u ch.toNat i (by omega) hu hc hc9
  have hp1 : 128 ^ (i + 1) = 128 ^ i * 128 := Nat.pow_succ ..
  have hadd : u + ch.toNat % 128 * 128 ^ i < 18446744073709551616 := by
    rw [← eor]
    exact Nat.or_lt_two_pow (n := 64) (Nat.lt_of_lt_of_le hu (by
      have : 128 ^ i ≤ 128 ^ 9 := Nat.pow_le_pow_right (by decide) (by omega)
      omega)) (Nat.mod_lt _ (by decide))
  have hu64 : u < 2 ^ IntKind.bits .u64 := Nat.lt_of_le_of_lt (Nat.le_add_right _ _) hadd
  have hsh : 7 * i ≤ IntKind.bits .u64 := by simp only [IntKind.bits]; omega
  have HE := Go.Lib.hid eor
  have HA := Go.Lib.hid hadd
  have HP := Go.Lib.hid hp1
  clear hu eor hadd hp1
  apply aF; apply aA
  repeat' (first | (refine aE rfl rfl ?_; ((first | refine rX (k := .u8) (a := ch.toNat) (b := 127) rfl rfl rfl hc (by decide) ?_ | refine kT rfl rfl ?_ | refine oA (k := .u64) (n := 7 * i) rfl rfl rfl hsh ?_ | refine sM (k := .u64) rfl rfl rfl hu64 (Nat.mod_lt _ (by decide)) ?_; rw [HE.out])); refine aB ?_) | (apply aU; exact rfl; ((refine iA rfl rfl (by omega) (by omega) ?_)); refine aB ?_) | (refine aE rfl rfl ?_; ((first | refine aH ?_ | refine aX ?_)); refine aB ?_))
  apply aG; apply aD
  have hadd := HA.out
  obtain ⟨u2, hu2⟩ : ∃ u2, u + ch.toNat % 128 * 128 ^ i = u2 := ⟨_, rfl⟩
  rw [hu2] at hadd ⊢
  have HU2 := Go.Lib.hid hu2
  clear hu2
  repeat' (first | (refine aU rfl ?_; refine bM (k := .u8) (a := (ch.toNat : Int)) (b := 128) rfl rfl (fun h => ?_) (fun h => ?_) <;> refine aB ?_) | (apply aF) | (apply aA) | (apply bE) | (apply bV) | (apply aK; exact rfl) | (apply aI; exact rfl) | (apply aG) | (apply aD) | (apply aS) | (apply bP) | (apply aR) | (apply eY; exact rfl) | (apply aP; exact rfl; ((refine aM (i := 0) rfl rfl rfl ?_)); refine aB ?_) | (apply aU; exact rfl; ((first | refine bI rfl rfl (by omega) (by omega) ?_ | refine eR rfl rfl (by omega) (by omega) ?_)); refine aB ?_) | (apply aU; exact rfl; ((first | refine fF rfl rfl (fun h => ?_) (fun h => ?_) | refine fS rfl rfl (fun h => ?_) (fun h => ?_))) <;> (refine aB ?_)) | (refine aE rfl rfl ?_; ((first | refine aH ?_ | refine aX ?_ | refine bT rfl eJ ?_ | refine cI rfl eJ ?_ | refine aW rfl ?_ | refine aC rfl ?_)); refine aB ?_) | (refine cR rfl ?_; refine aB ?_))
  all_goals have hu2 := HU2.out
  all_goals have hg := HG.out
  all_goals rcases HN.out with ⟨hch, rfl, rfl, rfl⟩ | ⟨hno, rfl, rfl, rfl, rfl⟩
  · have e1 : eH xs a = .error a' := by
      have : gU xs m i u a' = .error a' := by
        cases m <;> (unfold gU; rw [hch]; simp only; rw [if_pos (by omega)])
      unfold eH
      rw [← hg, this]
    repeat' (first | (refine dS rfl ?_; refine aY fA ?_; refine mR br _ _ _ _ _ a' _ (by omega) ?_; refine aB ?_) | (apply aF) | (apply aA) | (apply bN) | (apply bV) | (apply aK; exact rfl) | (apply aG) | (apply aD) | (apply bO) | (apply aS) | (apply aR) | (apply eY; exact rfl) | (apply aP; exact rfl; ((refine aM (i := 0) rfl rfl rfl ?_)); refine aB ?_) | (refine aE rfl rfl ?_; ((first | refine aH ?_ | refine aX ?_ | refine aW rfl ?_ | refine aC rfl ?_)); refine aB ?_))
    exact bC (.inl rfl) (dM rfl (bS rfl)) (cG _ R3 (fun w hs => hs) (hk 0 (a' + 1) true a' () (Out.mk_er e1 (by omega) hle2) (by omega) hle2 h0))
  · have e1 : eH xs a = .error xs.length := by
      have : gU xs m i u a2 = .error xs.length := by
        cases m <;> (unfold gU; rw [hno])
      unfold eH
      rw [← hg, this]
    repeat' (first | (refine dS rfl ?_; refine aY fA ?_; refine wZ br _ _ _ _ _ _ ?_; refine aB ?_) | (apply aF) | (apply aA) | (apply bN) | (apply bV) | (apply aK; exact rfl) | (apply aG) | (apply aD) | (apply bO) | (apply aS) | (apply aR) | (apply eY; exact rfl) | (apply aP; exact rfl; ((refine aM (i := 0) rfl rfl rfl ?_)); refine aB ?_) | (refine aE rfl rfl ?_; ((first | refine aH ?_ | refine aX ?_ | refine aW rfl ?_ | refine aC rfl ?_)); refine aB ?_))
    exact bC (.inl rfl) (dM rfl (bS rfl)) (cG _ R3 (fun w hs => hs) (hk 0 a2 true xs.length () (Out.mk_er e1 (by omega) hle2) (by omega) hle2 h0))
  · have hfin : gU xs m i u a' = .ok (u2, a' + 1) := by
      have e1 : ch.toNat % 128 = ch.toNat := by omega
      rw [e1] at hu2
      cases m with
      | zero => unfold gU; rw [hch]; simp only; rw [if_neg (by omega), hu2]
      | succ m => unfold gU; rw [hch]; simp only; rw [if_neg (by omega), if_pos (by omega), hu2]
    have hD : eH xs a = .ok (kM u2, a' + 1) := by unfold eH; rw [← hg, hfin]
    have eand : u2 &&& 1 = u2 % 2 := Nat.and_one_is_mod u2
    have h64 : u2 < 2 ^ IntKind.bits .u64 := hadd
    have HK := hk _ _ _ _ () (Out.mk_ok hD (by omega) hle2) (by omega) hle2 (oR hadd)
    repeat' (first | (refine aE rfl rfl ?_; ((first | refine mJ (n := 1) rfl rfl (by decide) ?_ | refine jB rfl (by omega) ?_ | refine rX (k := .u64) (a := u2) (b := 1) rfl rfl rfl h64 (by decide) ?_ | refine xB rfl (by omega) ?_ | refine uY rfl (by omega) ?_)); refine aB ?_) | (apply aF) | (apply aA) | (apply bN) | (apply bE) | (apply aK; exact rfl) | (apply aI; exact rfl) | (apply aG) | (apply aD) | (apply bO) | (apply aU; exact rfl; ((refine fS rfl rfl (fun h => ?_) (fun h => ?_))) <;> (refine aB ?_)) | (refine aE rfl rfl ?_; ((first | refine aH ?_ | refine aX ?_)); refine aB ?_))
    all_goals refine bC (.inl rfl) (dM rfl (bS rfl)) (cG _ R3 (fun w hs => hs) ?_)
    all_goals (first | (rw [nY (by omega)] at HK; exact HK) | (rw [pQ (by omega)] at HK; exact HK))
  · have e1 : eH xs a = .error xs.length := by
      have : gU xs m i u a2 = .error xs.length := by
        cases m <;> (unfold gU; rw [hno])
      unfold eH
      rw [← hg, this]
    repeat' (first | (apply aF) | (apply aA) | (apply bN) | (apply aK; exact rfl) | (apply aG) | (apply aD) | (apply bO) | (refine aE rfl rfl ?_; ((refine aX ?_)); refine aB ?_))
    exact bC (.inl rfl) (dM rfl (bS rfl)) (cG _ R3 (fun w hs => hs) (hk 0 a2 true xs.length () (Out.mk_er e1 (by omega) hle2) (by omega) hle2 h0))
  · have hfin : gU xs m i u a' = .ok (u2, a' + 1) := by
      have e1 : ch.toNat % 128 = ch.toNat := by omega
      rw [e1] at hu2
      cases m with
      | zero => unfold gU; rw [hch]; simp only; rw [if_neg (by omega), hu2]
      | succ m => unfold gU; rw [hch]; simp only; rw [if_neg (by omega), if_pos (by omega), hu2]
    have hD : eH xs a = .ok (kM u2, a' + 1) := by unfold eH; rw [← hg, hfin]
    have eand : u2 &&& 1 = u2 % 2 := Nat.and_one_is_mod u2
    have h64 : u2 < 2 ^ IntKind.bits .u64 := hadd
    have HK := hk _ _ _ _ () (Out.mk_ok hD (by omega) hle2) (by omega) hle2 (oR hadd)
    repeat' (first | (refine aE rfl rfl ?_; ((first | refine mJ (n := 1) rfl rfl (by decide) ?_ | refine jB rfl (by omega) ?_ | refine rX (k := .u64) (a := u2) (b := 1) rfl rfl rfl h64 (by decide) ?_ | refine xB rfl (by omega) ?_ | refine uY rfl (by omega) ?_)); refine aB ?_) | (apply aF) | (apply aA) | (apply bN) | (apply bE) | (apply aK; exact rfl) | (apply aI; exact rfl) | (apply aG) | (apply aD) | (apply bO) | (apply aU; exact rfl; ((refine fS rfl rfl (fun h => ?_) (fun h => ?_))) <;> (refine aB ?_)) | (refine aE rfl rfl ?_; ((first | refine aH ?_ | refine aX ?_)); refine aB ?_))
    all_goals refine bC (.inl rfl) (dM rfl (bS rfl)) (cG _ R3 (fun w hs => hs) ?_)
    all_goals (first | (rw [nY (by omega)] at HK; exact HK) | (rw [pQ (by omega)] at HK; exact HK))
  · exact absurd rfl ‹¬_›
  · obtain ⟨k, rfl⟩ : ∃ k, m = k + 1 := by
      cases m with
      | zero => omega
      | succ k => exact ⟨k, rfl⟩
    have e1 : ch.toNat % 128 = ch.toNat - 128 := by omega
    have hu := HU.out
    refine cE k _ R3 (by omega) eE ⟨i + 1, u2, a' + 1, by omega, rfl, ?_, rfl, rfl, by omega, hle2, ?_, ?_⟩ (fun w hs => hs)
    · show Value.int .i64 _ = _
      congr 1
    · rw [← hu2, HP.out]
      have : ch.toNat % 128 * 128 ^ i ≤ 127 * 128 ^ i := Nat.mul_le_mul_right _ (by omega)
      omega
    · rw [← hg, gU, hch]
      simp only
      rw [if_neg (by omega), if_neg (by omega), ← e1, hu2]
  · exact absurd h (by decide)
end Go.Proofs.YtggdljhmbckpmaaGreat
namespace Go.Proofs.YtggdljhmbckpmaaGreat
open Go Go.RowKit
set_option maxRecDepth 100000
set_option maxHeartbeats 3200000

theorem k8 {w0 : World} {H : List Hp} {R : List MP} {K : Value → List Hp → List MP → Prop} (br : Nat) (A : Option Addr) (c : Nat) (xs : List UInt8) (hx : xs.length ≤ 250000) (a : Nat) (b : Bool) (o : Nat) (hax : a ≤ xs.length) (hm : Sl (.slice A xs.length c) xs ∈ R)
    (hk : ∀ (n a' : Nat) b' o', Out xs (jU xs) ⟨a, b, o⟩ n ⟨a', b', o'⟩ → a ≤ a' → (b' = true → n = 0) → (b' = false → a + 1 ≤ a') → n + a' ≤ xs.length → K (.int .i64 (n : Int)) (.blk br (gD A c xs a' b' o') 105 :: H) R) :
    CallsK Tryz.prog w0 102 #[.pointer (some ⟨br, 0, none⟩)] (.blk br (gD A c xs a b o) 105 :: H) R K := by
  refine bX Tryz.func102 rfl Tryz.ntmps102 eZ ?_
  repeat' (first | (apply aF) | (apply aA) | (apply aG) | (apply aD) | (refine aE rfl rfl ?_; ((first | refine aH ?_ | refine aX ?_)); refine aB ?_))
  refine uT rfl rfl (dR br A c xs hx) (fun _ => Nat.zero_le _) hax hm (fun x a1 b1 o1 y ho le1 hle1 hI => ?_)
  refine aB ?_
  refine t4 (R' := R) rfl ?_
  have hI' : -9223372036854775808 ≤ x ∧ x ≤ 9223372036854775807 := hI
  cases b1 with
  | true =>
    repeat' (first | (apply aF) | (apply aG) | (apply aD) | (refine aE rfl rfl ?_; ((refine aX ?_)); refine aB ?_))
    refine dQ eT (by decide +kernel) (fun _ _ _ _ _ _ h => h) (List.Sublist.refl _) ?_
    all_goals ((refine bF 0 ?_; ((refine aH ?_)); refine aJ ?_))
    all_goals ((refine bF 1 ?_; ((refine aW rfl ?_)); refine aJ ?_))
    all_goals ((refine bF 2 ?_; ((refine aC rfl ?_)); refine aJ ?_))
    all_goals ((refine bF 3 ?_; ((refine aM (i := 0) rfl rfl rfl ?_)); refine aJ ?_))
    all_goals ((refine bF 4 ?_; ((refine dE rfl ?_)); refine aJ ?_))
    all_goals ((refine bF 5 ?_; ((refine aH ?_)); refine aJ ?_))
    all_goals ((refine dH 6 (List.Sublist.refl _) ?_))
    all_goals ((refine dH 7 (List.Sublist.refl _) ?_))
    all_goals ((refine dH 8 (List.Sublist.refl _) ?_))
    all_goals ((refine dH 9 (List.Sublist.refl _) ?_))
    all_goals ((refine dH 10 (List.Sublist.refl _) ?_))
    all_goals ((refine dH 11 (List.Sublist.refl _) ?_))
    all_goals ((refine dH 12 (List.Sublist.refl _) ?_))
    all_goals ((refine dH 13 (List.Sublist.refl _) ?_))
    all_goals ((refine dH 14 (List.Sublist.refl _) ?_))
    all_goals ((refine dH 15 (List.Sublist.refl _) ?_))
    all_goals ((refine dH 16 (List.Sublist.refl _) ?_))
    all_goals ((refine dH 17 (List.Sublist.refl _) ?_))
    all_goals ((refine dH 18 (List.Sublist.refl _) ?_))
    all_goals ((refine dH 19 (List.Sublist.refl _) ?_))
    all_goals ((refine dH 20 (List.Sublist.refl _) ?_))
    all_goals ((refine dH 21 (List.Sublist.refl _) ?_))
    all_goals ((refine bF 22 ?_; ((refine cI rfl eJ ?_)); refine aJ ?_))
    all_goals refine gX ?_
    repeat' (first | (apply aF) | (apply aA) | (apply bN) | (apply bE) | (apply aK; exact rfl) | (apply aI; exact rfl) | (apply aG) | (apply aD) | (apply bO) | (apply aP; exact rfl; ((refine aM (i := 0) rfl rfl rfl ?_)); refine aB ?_) | (refine aE rfl rfl ?_; ((first | refine aH ?_ | refine aX ?_ | refine aW rfl ?_ | refine aC rfl ?_)); refine aB ?_))
    refine bC (.inl rfl) (dM rfl (bS rfl)) (cG _ R (fun w hs => hs) ?_)
    refine hk 0 a1 true o1 ?_ le1 (fun _ => rfl) (fun h => by cases h) (by omega)
    cases b with
    | true =>
      have := ho.bad rfl
      cases this
      exact Out.mk_bad rfl hle1
    | false => exact Out.mk_er (by unfold jU; rw [ho.fault rfl rfl]) le1 hle1
  | false =>
    obtain ⟨hb, hd, hoo⟩ := ho.good rfl
    cases hb
    cases hoo
    have hpos := (eD hd).2
    simp only at hpos hd
    repeat' (first | (apply aF) | (apply aG) | (apply aD) | (refine aE rfl rfl ?_; ((refine aX ?_)); refine aB ?_))
    refine dQ eT (by decide +kernel) (fun _ _ _ _ _ _ h => h) (List.Sublist.refl _) ?_
    all_goals ((refine bF 0 ?_; ((refine aH ?_)); refine aJ ?_))
    all_goals ((refine bF 1 ?_; ((refine aW rfl ?_)); refine aJ ?_))
    all_goals ((refine bF 2 ?_; ((refine aC rfl ?_)); refine aJ ?_))
    all_goals ((refine bF 3 ?_; ((refine aM (i := 0) rfl rfl rfl ?_)); refine aJ ?_))
    all_goals ((refine bF 4 ?_; ((refine dE rfl ?_)); refine aJ ?_))
    all_goals ((refine bF 5 ?_; ((refine aH ?_)); refine aJ ?_))
    all_goals ((refine bF 6 ?_; ((refine aH ?_)); refine aJ ?_))
    all_goals ((refine bF 7 ?_; ((refine bM rfl rfl (fun h => ?_) (fun h => ?_))) <;> (refine aJ ?_)))
    all_goals ((refine bF 8 ?_; ((refine aH ?_)); refine aJ ?_))
    all_goals (first | (refine bF 9 ?_; ((refine aH ?_)); refine aJ ?_) | (refine dH 9 (List.Sublist.refl _) ?_))
    all_goals (first | (refine bF 10 ?_; ((refine aH ?_)); refine aJ ?_) | (refine dH 10 (List.Sublist.refl _) ?_))
    all_goals (first | (refine bF 11 ?_; ((refine aW rfl ?_)); refine aJ ?_) | (refine dH 11 (List.Sublist.refl _) ?_))
    all_goals (first | (refine bF 12 ?_; ((refine aC rfl ?_)); refine aJ ?_) | (refine dH 12 (List.Sublist.refl _) ?_))
    all_goals (first | (refine bF 13 ?_; ((refine aM (i := 0) rfl rfl rfl ?_)); refine aJ ?_) | (refine dH 13 (List.Sublist.refl _) ?_))
    all_goals (first | (refine bF 14 ?_; ((refine bQ rfl ?_)); refine aJ ?_) | (refine dH 14 (List.Sublist.refl _) ?_))
    all_goals (first | (refine bF 15 ?_; ((refine aH ?_)); refine aJ ?_) | (refine dH 15 (List.Sublist.refl _) ?_))
    all_goals (first | (refine bF 16 ?_; ((refine aW rfl ?_)); refine aJ ?_) | (refine dH 16 (List.Sublist.refl _) ?_))
    all_goals (first | (refine bF 17 ?_; ((refine aC rfl ?_)); refine aJ ?_) | (refine dH 17 (List.Sublist.refl _) ?_))
    all_goals (first | (refine bF 18 ?_; ((refine aM (i := 0) rfl rfl rfl ?_)); refine aJ ?_) | (refine dH 18 (List.Sublist.refl _) ?_))
    all_goals (first | (refine bF 19 ?_; ((refine eR rfl rfl (by omega) (by omega) ?_)); refine aJ ?_) | (refine dH 19 (List.Sublist.refl _) ?_))
    all_goals (first | (refine bF 20 ?_; ((refine fF rfl rfl (fun h => ?_) (fun h => ?_))) <;> (refine aJ ?_)) | (refine dH 20 (List.Sublist.refl _) ?_))
    all_goals ((refine bF 21 ?_; ((first | refine bT rfl eJ ?_ | refine cI rfl eJ ?_)); refine aJ ?_))
    all_goals ((refine bF 22 ?_; ((refine bT rfl eJ ?_)); refine aJ ?_))
    all_goals refine gX ?_
    · skip
      have e : jU xs a = .error (a1 - 1) := by unfold jU; rw [hd]; simp only; rw [if_pos (by omega)]
      repeat' (first | (refine dS rfl ?_; refine aY fA ?_; refine mR br _ _ _ _ _ (a1 - 1) _ (by omega) ?_; refine aB ?_) | (apply aF) | (apply aA) | (apply bN) | (apply aK; exact rfl) | (apply aG) | (apply aD) | (apply bO) | (apply aP; exact rfl; ((refine aM (i := 0) rfl rfl rfl ?_)); refine aB ?_) | (apply aU; exact rfl; ((refine eR rfl rfl (by omega) (by omega) ?_)); refine aB ?_) | (refine aE rfl rfl ?_; ((first | refine aH ?_ | refine aX ?_ | refine aW rfl ?_ | refine aC rfl ?_)); refine aB ?_))
      refine bC (.inl rfl) (dM rfl (bS rfl)) (cG _ R (fun w hs => hs) ?_)
      exact hk 0 a1 true (a1 - 1) (Out.mk_er e le1 hle1) le1 (fun _ => rfl) (fun h => by cases h) (by omega)
    · skip
      have e : jU xs a = .error (a1 - 1) := by unfold jU; rw [hd]; simp only; rw [if_pos (by omega)]
      repeat' (first | (refine dS rfl ?_; refine aY fA ?_; refine mR br _ _ _ _ _ (a1 - 1) _ (by omega) ?_; refine aB ?_) | (apply aF) | (apply aA) | (apply bN) | (apply aK; exact rfl) | (apply aG) | (apply aD) | (apply bO) | (apply aP; exact rfl; ((refine aM (i := 0) rfl rfl rfl ?_)); refine aB ?_) | (apply aU; exact rfl; ((refine eR rfl rfl (by omega) (by omega) ?_)); refine aB ?_) | (refine aE rfl rfl ?_; ((first | refine aH ?_ | refine aX ?_ | refine aW rfl ?_ | refine aC rfl ?_)); refine aB ?_))
      refine bC (.inl rfl) (dM rfl (bS rfl)) (cG _ R (fun w hs => hs) ?_)
      exact hk 0 a1 true (a1 - 1) (Out.mk_er e le1 hle1) le1 (fun _ => rfl) (fun h => by cases h) (by omega)
    · skip
      have e : jU xs a = .ok (x.toNat, a1) := by unfold jU; rw [hd]; simp only; rw [if_neg (by omega)]
      repeat' (first | (apply aF) | (apply aA) | (apply bN) | (apply bE) | (apply aI; exact rfl) | (apply aG) | (apply aD) | (apply aP; exact rfl; ((refine aM (i := 0) rfl rfl rfl ?_)); refine aB ?_) | (refine aE rfl rfl ?_; ((first | refine aH ?_ | refine aX ?_ | refine aW rfl ?_ | refine aC rfl ?_)); refine aB ?_))
      have ex : x = ((x.toNat : Nat) : Int) := by omega
      refine bC (.inl rfl) (dM rfl (bS (v := .int .i64 ((x.toNat : Nat) : Int)) (by rw [← ex]; rfl))) (cG _ R (fun w hs => hs) ?_)
      exact hk x.toNat a1 false _ (Out.mk_ok e le1 hle1) le1 (fun h => by cases h) (fun _ => hpos) (by omega)
section
variable {F : Fence} {n : Nat} {w0 : World} {D : List Deferred} {ops : Array Oper} {Q : Exit → Act → World → Prop} {rest : List Oper} {E : List Value} {H : List Hp} {R : List MP}
theorem kD [Wd F] {dst : Option Tmp} {l : List Operand} {at_ : Array TypeId} {ty : TypeId} {pos : String} {aft : Array Edge} {g : Option (Nat × Bool)} {br : Nat} {A : Option Addr} {c : Nat} {xs : List UInt8} {a : Nat} {b : Bool} {o : Nat}
    (hw : Region.wanted ⟨dst, .call ⟨.value (.func 102), l.toArray, at_⟩, ty, pos, aft, g⟩ (yielded ops E.toArray) = true) (hA : l.map (ev E) = [.pointer (some ⟨br, 0, none⟩)]) (hx : xs.length ≤ 250000) (hax : a ≤ xs.length) (hm : Sl (.slice A xs.length c) xs ∈ R)
    (hk : ∀ (m a' : Nat) b' o', Out xs (jU xs) ⟨a, b, o⟩ m ⟨a', b', o'⟩ → a ≤ a' → (b' = true → m = 0) → (b' = false → a + 1 ≤ a') → m + a' ≤ xs.length → T F n Tryz.prog w0 D ops Q rest (dP E dst (.int .i64 (m : Int))) (.blk br (gD A c xs a' b' o') 105 :: H) R) : T F n Tryz.prog w0 D ops Q (⟨dst, .call ⟨.value (.func 102), l.toArray, at_⟩, ty, pos, aft, g⟩ :: rest) E (.blk br (gD A c xs a b o) 105 :: H) R :=
  dS hw (aY hA (k8 br A c xs hx a b o hax hm hk))
end
theorem oQ {w0 : World} (br : Nat) (A : Option Addr) (c : Nat) (xs : List UInt8) (hx : xs.length ≤ 250000) : Rf Tryz.prog w0 43 [.pointer (some ⟨br, 0, none⟩)] br A c xs 0 (gM xs) (fun n _ => .bool n) := by
  intro H R K a bad off _ hax hm hk
  cases bad with
  | true =>
    refine bX Tryz.func43 rfl Tryz.ntmps43 eZ ?_
    repeat' (first | (apply aF) | (apply aA) | (apply aG) | (apply aD) | (refine aE rfl rfl ?_; ((first | refine aH ?_ | refine aX ?_)); refine aB ?_))
    refine dS rfl ?_; refine aY fA ?_
    refine next_b br A c xs a off ?_
    refine aB ?_
    repeat' (first | (apply aF) | (apply aA) | (apply bN) | (apply bE) | (apply aI; exact rfl) | (apply aG) | (apply aD) | (apply aP; exact rfl; ((refine aM (i := 0) rfl rfl rfl ?_)); refine aB ?_) | (refine aE rfl rfl ?_; ((first | refine aH ?_ | refine aX ?_ | refine cI rfl eJ ?_ | refine aW rfl ?_ | refine aC rfl ?_ | refine dE rfl ?_)); refine aB ?_) | (refine cR rfl ?_; refine aB ?_))
    exact bC (.inl rfl) (dM rfl (bS rfl)) (cG _ R (fun w hs => hs) (hk false a true off () (Out.mk_bad rfl hax) (Nat.le_refl _) hax trivial))
  | false =>
    refine bX Tryz.func43 rfl Tryz.ntmps43 eZ ?_
    repeat' (first | (apply aF) | (apply aA) | (apply aG) | (apply aD) | (refine aE rfl rfl ?_; ((first | refine aH ?_ | refine aX ?_)); refine aB ?_))
    refine dS rfl ?_; refine aY fA ?_
    refine vX br A c xs a off hx hax hm (fun ch a2 b2 o2 hN le2 hle2 => ?_)
    refine aB ?_
    rcases hN with ⟨hch, rfl, rfl, rfl⟩ | ⟨hno, rfl, rfl, rfl, rfl⟩
    · skip
      repeat' (first | (refine aU rfl ?_; ((first | refine fF (k := .u8) (a := (ch.toNat : Int)) (b := 1) rfl rfl (fun h => ?_) (fun h => ?_) | refine fS (k := .u8) (a := (ch.toNat : Int)) (b := 1) rfl rfl (fun h => ?_) (fun h => ?_))) <;> refine aB ?_) | (refine dS rfl ?_; refine aY fA ?_; refine mR br _ _ _ _ _ a _ (by omega) ?_; refine aB ?_) | (apply aF) | (apply aA) | (apply bN) | (apply bE) | (apply aK; exact rfl) | (apply aI; exact rfl) | (apply aG) | (apply aD) | (apply aP; exact rfl; ((refine aM (i := 0) rfl rfl rfl ?_)); refine aB ?_) | (apply aU; exact rfl; ((refine eR rfl rfl (by omega) (by omega) ?_)); refine aB ?_) | (refine aE rfl rfl ?_; ((first | refine aH ?_ | refine aX ?_ | refine bT rfl eJ ?_ | refine cI rfl eJ ?_ | refine aW rfl ?_ | refine aC rfl ?_ | refine dE rfl ?_)); refine aB ?_) | (refine cR rfl ?_; refine aB ?_))
      · exact bC (.inl rfl) (dM rfl (bS rfl)) (cG _ R (fun w hs => hs) (hk false (a + 1) true a () (Out.mk_er (by unfold gM; rw [hch]; simp only; rw [if_pos (by omega)]) le2 hle2) le2 hle2 trivial))
      · have e : decide (ch.toNat = 1) = true := by simpa using (by omega : ch.toNat = 1)
        exact bC (.inl rfl) (dM rfl (bS rfl)) (cG _ R (fun w hs => hs) (hk true (a + 1) false o2 () (Out.mk_ok (by unfold gM; rw [hch]; simp only; rw [if_neg (by omega), e]) le2 hle2) le2 hle2 trivial))
      · have e : decide (ch.toNat = 1) = false := by simpa using (by omega : ¬ ch.toNat = 1)
        exact bC (.inl rfl) (dM rfl (bS rfl)) (cG _ R (fun w hs => hs) (hk false (a + 1) false o2 () (Out.mk_ok (by unfold gM; rw [hch]; simp only; rw [if_neg (by omega), e]) le2 hle2) le2 hle2 trivial))
    · skip
      repeat' (first | (apply aF) | (apply aA) | (apply bN) | (apply bE) | (apply aI; exact rfl) | (apply aG) | (apply aD) | (apply aP; exact rfl; ((refine aM (i := 0) rfl rfl rfl ?_)); refine aB ?_) | (refine aE rfl rfl ?_; ((first | refine aH ?_ | refine aX ?_ | refine cI rfl eJ ?_ | refine aW rfl ?_ | refine aC rfl ?_ | refine dE rfl ?_)); refine aB ?_) | (refine cR rfl ?_; refine aB ?_))
      exact bC (.inl rfl) (dM rfl (bS rfl)) (cG _ R (fun w hs => hs) (hk false a2 true xs.length () (Out.mk_er (by unfold gM; rw [hno]) le2 hle2) le2 hle2 trivial))
theorem vP {w0 : World} (br : Nat) (A : Option Addr) (c : Nat) (xs : List UInt8) (hx : xs.length ≤ 250000) : Rf Tryz.prog w0 143 [.pointer (some ⟨br, 0, none⟩)] br A c xs 0 (jI xs) (fun s _ => .string s) := by
  intro H R K a b o _ hax hm hk
  refine bX Tryz.func143 rfl Tryz.ntmps143 eZ ?_
  repeat' (first | (apply aF) | (apply aA) | (apply aG) | (apply aD) | (refine aE rfl rfl ?_; ((first | refine aH ?_ | refine aX ?_)); refine aB ?_))
  refine kD rfl rfl hx hax hm (fun m a1 b1 o1 ho h1 hz hp h2 => ?_)
  refine aB ?_
  repeat' (first | (apply aF) | (apply aG) | (apply aD) | (refine aE rfl rfl ?_; ((refine aX ?_)); refine aB ?_))
  have e2 : ((a1 : Int) + (m : Int)) = ((a1 + m : Nat) : Int) := by omega
  refine dQ eT (by decide +kernel) (fun _ _ _ _ _ _ h => h) (List.Sublist.refl _) ?_
  all_goals ((refine bF 0 ?_; ((refine aH ?_)); refine aJ ?_))
  all_goals ((refine bF 1 ?_; ((refine aW rfl ?_)); refine aJ ?_))
  all_goals ((refine bF 2 ?_; ((refine aC rfl ?_)); refine aJ ?_))
  all_goals ((refine bF 3 ?_; ((refine aM (i := 0) rfl rfl rfl ?_)); refine aJ ?_))
  all_goals ((refine bF 4 ?_; ((refine aH ?_)); refine aJ ?_))
  all_goals ((refine bF 5 ?_; ((refine aW rfl ?_)); refine aJ ?_))
  all_goals ((refine bF 6 ?_; ((refine aC rfl ?_)); refine aJ ?_))
  all_goals ((refine bF 7 ?_; ((refine aM (i := 0) rfl rfl rfl ?_)); refine aJ ?_))
  all_goals ((refine bF 8 ?_; ((refine aH ?_)); refine aJ ?_))
  all_goals ((refine bF 9 ?_; ((refine aW rfl ?_)); refine aJ ?_))
  all_goals ((refine bF 10 ?_; ((refine aC rfl ?_)); refine aJ ?_))
  all_goals ((refine bF 11 ?_; ((refine aM (i := 0) rfl rfl rfl ?_)); refine aJ ?_))
  all_goals ((refine bF 12 ?_; ((refine aH ?_)); refine aJ ?_))
  all_goals ((refine bF 13 ?_; ((refine bI rfl rfl (by omega) (by omega) ?_)); refine aJ ?_))
  all_goals ((refine bF 14 ?_; ((refine fP rfl hm rfl rfl rfl rfl (by omega) (by omega) (by omega) (fun A8 c8 => ?_))); refine aJ ?_))
  all_goals ((refine bF 15 ?_; ((refine tH rfl aV ?_)); refine aJ ?_))
  all_goals ((refine bF 16 ?_; ((refine aX ?_)); refine aJ ?_))
  all_goals refine gX ?_
  have e3 : List.drop (a1 : Int).toNat (List.take ((a1 : Int) + (m : Int)).toNat xs) = (xs.drop a1).take m := by
    rw [e2, Int.toNat_natCast, Int.toNat_natCast, List.drop_take, show a1 + m - a1 = m by omega]
  rw [e3]
  repeat' (first | (apply aF) | (apply aA) | (apply bN) | (apply aG) | (apply aD) | (apply aP; exact rfl; ((refine aM (i := 0) rfl rfl rfl ?_)); refine aB ?_) | (apply aU; exact rfl; ((refine bI rfl rfl (by omega) (by omega) ?_)); refine aB ?_) | (apply bD; exact rfl; ((refine aO (i := 0) rfl cW rfl (by rfl) (by simp) (by simp [Value.oneCell']) ?_)); refine aB ?_; refine cA ?_) | (refine aE rfl rfl ?_; ((first | refine aH ?_ | refine aX ?_ | refine aW rfl ?_ | refine aC rfl ?_)); refine aB ?_))
  rw [e2]
  repeat' (fail)
  have hl : (oN ((xs.drop a1).take m)).size ≤ 9223372036854775807 := by
    rw [pS]
    simp
    omega
  refine bC (.inl rfl) (dM rfl (bS rfl)) (cG _ R (fun w hs => hs.weaken bU cZ) ?_)
  refine hk _ (a1 + m) b1 o1 () ?_ (by omega) (by omega) hl
  cases b with
  | true =>
    have := ho.bad rfl
    cases this
    obtain rfl := hz rfl
    exact Out.mk_bad rfl hax
  | false =>
    cases b1 with
    | true =>
      exact Out.mk_er (by unfold jI; rw [ho.fault rfl rfl]) (by omega) (by omega)
    | false =>
      obtain ⟨_, hd, hoo⟩ := ho.good rfl
      cases hoo
      exact Out.mk_ok (by unfold jI; rw [hd]) (by omega) (by omega)

/-- What holds on the way through a list. -/
structure Lp {α : Type} (d : Dc α) (n a1 : Nat) (b1 : Bool) (o1 : Nat) (k : Nat) (l : List α) (a' : Nat) (b' : Bool) (o' : Nat) : Prop where
  ok : b' = false → b1 = false ∧ kV d l k a' = gO d n a1 ∧ o' = o1
  er : b' = true → b1 = false → gO d n a1 = .error o'
  bad : b1 = true → a' = a1 ∧ b' = b1 ∧ o' = o1
theorem Lp.start {α : Type} (d : Dc α) (n a1 : Nat) (b1 : Bool) (o1 : Nat) : Lp d n a1 b1 o1 n [] a1 b1 o1 :=
  ⟨fun h => ⟨h, hY d n a1, rfl⟩, fun h h' => (by rw [h] at h'; cases h'), fun _ => ⟨rfl, rfl, rfl⟩⟩
theorem Lp.step {α : Type} {xs : List UInt8} {d : Dc α} {n a1 : Nat} {b1 : Bool} {o1 k : Nat} {l : List α} {a' o' : Nat} {x : α} {a2 : Nat} {b2 : Bool} {o2 : Nat} (h : Lp d n a1 b1 o1 (k + 1) l a' false o') (ho : Out xs d ⟨a', false, o'⟩ x ⟨a2, b2, o2⟩) : Lp d n a1 b1 o1 k (l ++ [x]) a2 b2 o2 := by
  obtain ⟨h1, h2, h3⟩ := h.ok rfl
  cases b2 with
  | true =>
    have he : d a' = .error o2 := ho.fault rfl rfl
    exact ⟨fun h => (by cases h), fun _ _ => by rw [← h2]; exact jF he, fun hb => by rw [h1] at hb; cases hb⟩
  | false =>
    obtain ⟨_, hd, hoo⟩ := ho.good rfl
    cases hoo
    exact ⟨fun _ => ⟨h1, by rw [← h2]; exact (gH hd).symm, h3⟩, fun h => (by cases h), fun hb => by rw [h1] at hb; cases hb⟩
theorem Lp.done {α : Type} {xs : List UInt8} {d : Dc α} {n a a1 : Nat} {b b1 : Bool} {o o1 k : Nat} {l : List α} {a' o' : Nat} {b' : Bool} (hl : Out xs (jU xs) ⟨a, b, o⟩ n ⟨a1, b1, o1⟩) (h : Lp d n a1 b1 o1 k l a' b' o') (hk : b' = true ∨ k = 0) (ha : a1 ≤ a') (ha' : a' ≤ xs.length) : Out xs (dK xs d) ⟨a, b, o⟩ l ⟨a', b', o'⟩ := by
  have hle : a ≤ a1 := hl.le
  cases b with
  | true =>
    have e := hl.bad rfl
    cases e
    obtain ⟨rfl, rfl, rfl⟩ := h.bad rfl
    exact Out.mk_bad rfl ha'
  | false =>
    cases b1 with
    | true =>
      obtain ⟨rfl, rfl, rfl⟩ := h.bad rfl
      exact Out.mk_er (by unfold dK; rw [hl.fault rfl rfl]) (by omega) ha'
    | false =>
      obtain ⟨_, hd, hoo⟩ := hl.good rfl
      cases hoo
      cases b' with
      | true => exact Out.mk_er (by unfold dK; rw [hd]; exact h.er rfl rfl) (by omega) ha'
      | false =>
        obtain ⟨_, h2, h3⟩ := h.ok rfl
        subst h3
        rcases hk with hk | rfl
        · cases hk
        exact Out.mk_ok (by unfold dK; rw [hd]; simp only; rw [← h2, iB]) (by omega) ha'
end Go.Proofs.YtggdljhmbckpmaaGreat
namespace Go.Proofs.YtggdljhmbckpmaaGreat
open Go Go.RowKit
set_option maxRecDepth 100000
set_option maxHeartbeats 6400000

/-- The same, from a good state. -/
def Rfg (P : Program) (w0 : World) (f : FuncId) (args : List Value) (br : Nat) (A : Option Addr) (c : Nat) (xs : List UInt8) (m : Nat) {α : Type} [Rep α] [Unp α] (d : Dc α) (val : α → Unp.Y α → Value) : Prop :=
  ∀ (H : List Hp) (R : List MP) (K : Value → List Hp → List MP → Prop) (a : Nat) (o : Nat), m ≤ a → a ≤ xs.length → Sl (.slice A xs.length c) xs ∈ R →
    (∀ x a' b' o' (y : Unp.Y α), Out xs d ⟨a, false, o⟩ x ⟨a', b', o'⟩ → a ≤ a' → a' ≤ xs.length → Unp.ok x y → K (val x y) (.blk br (gD A c xs a' b' o') 105 :: H) (Unp.fs x y ++ R)) →
    CallsK P w0 f args.toArray (.blk br (gD A c xs a false o) 105 :: H) R K
theorem Rf.g {P : Program} {w0 : World} {f : FuncId} {args : List Value} {br : Nat} {A : Option Addr} {c : Nat} {xs : List UInt8} {m m' : Nat} {α : Type} [Rep α] [Unp α] {d : Dc α} {val : α → Unp.Y α → Value} (h : Rf P w0 f args br A c xs m d val) (hm : m ≤ m') : Rfg P w0 f args br A c xs m' d val :=
  fun H R K a o ha => h H R K a false o (fun _ => by omega)
section
variable {F : Fence} {n : Nat} {P : Program} {w0 : World} {D : List Deferred} {ops : Array Oper} {Q : Exit → Act → World → Prop} {rest : List Oper} {E : List Value} {H : List Hp} {R : List MP}
theorem pE [Wd F] {dst : Option Tmp} {f : FuncId} {l : List Operand} {at_ : Array TypeId} {ty : TypeId} {pos : String} {aft : Array Edge} {g : Option (Nat × Bool)} {args : List Value} {br : Nat} {A : Option Addr} {c : Nat} {xs : List UInt8} {m a o : Nat} {α : Type} [Rep α] [Unp α] {d : Dc α} {val : α → Unp.Y α → Value}
    (hw : Region.wanted ⟨dst, .call ⟨.value (.func f), l.toArray, at_⟩, ty, pos, aft, g⟩ (yielded ops E.toArray) = true) (hA : l.map (ev E) = args) [FnOk P f] (h : Rfg P w0 f args br A c xs m d val) (hma : m ≤ a) (hax : a ≤ xs.length) (hm : Sl (.slice A xs.length c) xs ∈ R)
    (hk : ∀ x a' b' o' (y : Unp.Y α), Out xs d ⟨a, false, o⟩ x ⟨a', b', o'⟩ → a ≤ a' → a' ≤ xs.length → Unp.ok x y → T F n P w0 D ops Q rest (dP E dst (val x y)) (.blk br (gD A c xs a' b' o') 105 :: H) (Unp.fs x y ++ R)) : T F n P w0 D ops Q (⟨dst, .call ⟨.value (.func f), l.toArray, at_⟩, ty, pos, aft, g⟩ :: rest) E (.blk br (gD A c xs a false o) 105 :: H) R :=
  dS hw (aY hA (h H R _ a o hma hax hm hk))
end

theorem jZ {w0 : World} (br : Nat) (A : Option Addr) (c : Nat) (xs : List UInt8) (hx : xs.length ≤ 250000) : Rf Tryz.prog w0 44 [.pointer (some ⟨br, 0, none⟩)] br A c xs 0 (dK xs (eH xs)) vN := by
  intro H R K a b o hma hax hm hk
  refine bX Tryz.func44 rfl Tryz.ntmps44 eZ ?_
  repeat' (first | (apply aF) | (apply aA) | (apply aG) | (apply aD) | (refine aE rfl rfl ?_; ((first | refine aH ?_ | refine aX ?_)); refine aB ?_))
  refine kD rfl rfl hx hax hm (fun n a1 b1 o1 ho h1 hz hp h2 => ?_)
  refine aB ?_
  repeat' (first | (apply aF) | (apply aA) | (apply aT) | (apply aG) | (apply aD) | (refine aE rfl rfl ?_; ((refine aX ?_)); refine aB ?_))
  have hmi : b1 = false → 0 + 1 ≤ a1 := fun hb => by
    have e1 := hp hb
    have e2 := hma ((ho.good hb).1)
    omega
  refine dT (.blk br (gD A c xs a1 b1 o1) 105 :: .row (.slice none 0 0) 3 1 0 [] :: H) (Cx [] ([] : List Int) :: R) (fun w hs => ((hs.nilrow 3 1).perm (List.Perm.swap _ _ _)).learn (Cx [] ([] : List Int)) (fun s _ => fT s)) ?_
  refine cK [4, 5, 6, 9, 10, 11, 12, 13, 14, 15, 16, 17, 18, 19, 20, 21, 22, 23, 24, 25, 26] (fun k j H2 R2 => ∃ (i a' o' : Nat) (b' : Bool) (A0 : Option Addr) (c0 : Nat) (cs : List Value) (l : List Int), i + k = n ∧ j 5 = .int .i64 (i : Int) ∧ j 4 = .slice A0 i c0 ∧ (∀ p ∈ R, p ∈ R2) ∧ Cx cs l ∈ R2 ∧ H2 = .blk br (gD A c xs a' b' o') 105 :: .row (.slice A0 i c0) 3 1 i cs :: H ∧ a1 ≤ a' ∧ a' ≤ xs.length ∧ l.length = i ∧ Lp (eH xs) n a1 b1 o1 k l a' b' o') n eE ⟨0, a1, o1, b1, none, 0, [], [], by omega, rfl, rfl, (fun _ h => List.mem_cons_of_mem _ h), List.mem_cons_self, rfl, Nat.le_refl _, by omega, rfl, Lp.start _ _ _ _ _⟩ ?_
  rintro k j' H2 R2 ⟨i, a', o', b', A0, c0, cs, l, hik, hji, hjl, hR2, hcx, hH2, haa, ha', hli, hlp⟩
  subst hH2
  have hmx := hR2 _ (show Sl (.slice A xs.length c) xs ∈ _ from aV)
  refine cQ (by simp only [dX, List.foldl_cons, List.foldl_nil, List.set_cons_succ, List.set_cons_zero, hji, hjl]; rfl) ?_
  rcases Nat.lt_or_ge i n with hlt | hge
  rotate_left
  · obtain rfl : k = 0 := by omega
    have hdone := Lp.done ho hlp (.inr rfl) haa ha'
    repeat' (first | (apply aF) | (apply aA) | (apply bN) | (apply bV) | (apply aI; exact rfl) | (apply aG) | (apply aD) | (apply aS) | (apply aR) | (apply aU; exact rfl; ((refine bM rfl rfl (fun h => ?_) (fun h => ?_))) <;> (first | (exfalso; omega) | refine aB ?_)) | (refine aE rfl rfl ?_; ((first | refine aH ?_ | refine aX ?_ | refine cI rfl eJ ?_)); refine aB ?_) | (refine cR rfl ?_; refine aB ?_))
    refine dW 1 rfl rfl (by decide) hcx (fun A' c' hv => ?_)
    refine eO (fun w hs => dC hs List.mem_cons_self) (fun hb => ?_)
    refine bC (.inl rfl) (dM rfl (bS (v := .slice A' l.length c') (by rw [← hv]; rfl))) (cG _ (Sl (.slice A' l.length c') l :: R) (fun w hs => hs.weaken (List.Sublist.refl _) (bL List.mem_cons_self (fun p hp => List.mem_cons_of_mem _ (hR2 p hp)))) ?_)
    exact hk l a' _ o' (A', c') hdone (by omega) ha' hb
  cases b' with
  | true =>
    have hdone := Lp.done ho hlp (.inl rfl) haa ha'
    repeat' (first | (apply aF) | (apply aA) | (apply bN) | (apply bV) | (apply aI; exact rfl) | (apply aG) | (apply aD) | (apply aS) | (apply aR) | (apply aP; exact rfl; ((refine aM (i := 0) rfl rfl rfl ?_)); refine aB ?_) | (apply aU; exact rfl; ((refine bM rfl rfl (fun h => ?_) (fun h => ?_))) <;> (first | (exfalso; omega) | refine aB ?_)) | (refine aE rfl rfl ?_; ((first | refine aH ?_ | refine aX ?_ | refine bT rfl eJ ?_ | refine aW rfl ?_ | refine aC rfl ?_ | refine dE rfl ?_)); refine aB ?_))
    refine dW 1 rfl rfl (by decide) hcx (fun A' c' hv => ?_)
    refine eO (fun w hs => dC hs List.mem_cons_self) (fun hb => ?_)
    refine bC (.inl rfl) (dM rfl (bS (v := .slice A' l.length c') (by rw [← hv]; rfl))) (cG _ (Sl (.slice A' l.length c') l :: R) (fun w hs => hs.weaken (List.Sublist.refl _) (bL List.mem_cons_self (fun p hp => List.mem_cons_of_mem _ (hR2 p hp)))) ?_)
    exact hk l a' _ o' (A', c') hdone (by omega) ha' hb
  | false =>
    obtain ⟨k', rfl⟩ : ∃ k', k = k' + 1 := ⟨k - 1, by omega⟩
    have hb1 := (hlp.ok rfl).1
    have hm1 := hmi hb1
    repeat' (first | (apply aF) | (apply aA) | (apply aT) | (apply bE) | (apply aK; exact rfl) | (apply aG) | (apply aD) | (apply aP; exact rfl; ((refine aM (i := 0) rfl rfl rfl ?_)); refine aB ?_) | (apply aU; exact rfl; ((refine bM rfl rfl (fun h => ?_) (fun h => ?_))) <;> (first | (exfalso; omega) | refine aB ?_)) | (refine aE rfl rfl ?_; ((first | refine aH ?_ | refine bT rfl eJ ?_ | refine aW rfl ?_ | refine aC rfl ?_ | refine dE rfl ?_)); refine aB ?_))
    refine pE rfl rfl ((dR br A c xs hx).g (Nat.zero_le _)) (by omega) ha' hmx (fun x a2' b2' o2' y hd h3' h4' hok => ?_)
    refine aB ?_
    repeat' (first | (refine bG rfl rfl ?_; refine eW (cs := Unp.cs x y) (by decide) rfl (by rw [UnpL.len]; rfl) (fun b9 => ?_); refine aB ?_) | (refine bG rfl rfl ?_; refine cY 2 0 (news := Unp.cs x y) rfl rfl rfl rfl (by decide) (by rw [UnpL.len]; rfl) (UnpL.one x y) (by omega) (by omega) (fun v' => ?_); refine aB ?_; refine cA ?_; refine gA 2 rfl (fun A9 c9 hv9 => ?_); subst hv9) | (apply aA) | (apply aG) | (apply aD) | (apply bP) | (apply aU; exact rfl; ((refine bI rfl rfl (by omega) (by omega) ?_)); refine aB ?_) | (refine aE rfl rfl ?_; ((first | refine aH ?_ | refine aX ?_)); refine aB ?_))
    exact cE k' (.blk br (gD A c xs a2' b2' o2') 105 :: .row (.slice A9 (i + 1) c9) 3 1 (i + 1) (cs ++ Unp.cs x y) :: H) (Cx (cs ++ Unp.cs x y) (l ++ [x]) :: R) (by omega) eE ⟨i + 1, a2', o2', b2', A9, c9, cs ++ Unp.cs x y, l ++ [x], by omega, rfl, rfl, (fun _ h => List.mem_cons_of_mem _ h), List.mem_cons_self, rfl, by omega, h4', by simp [hli], hlp.step hd⟩ (fun w hs => (hs.learn (Cx (cs ++ Unp.cs x y) (l ++ [x])) (fun s hR => eN (hR (Cx cs l) (List.mem_append_right _ hcx)) (Unp.re hok (fun p hp => hR p (List.mem_append_left _ hp))))).weaken (.cons _ (List.Sublist.refl _)) (bL List.mem_cons_self (fun p hp => List.mem_cons_of_mem _ (List.mem_append_right _ (hR2 p hp)))))
theorem uM {w0 : World} (br : Nat) (A : Option Addr) (c : Nat) (xs : List UInt8) (hx : xs.length ≤ 250000) (m : Nat) (d : Dc Tm) (hone : Rfg Tryz.prog w0 145 [.pointer (some ⟨br, 0, none⟩)] br A c xs (m + 1) d nH) : Rf Tryz.prog w0 142 [.pointer (some ⟨br, 0, none⟩)] br A c xs m (dK xs d) vN := by
  intro H R K a b o hma hax hm hk
  refine bX Tryz.func142 rfl Tryz.ntmps142 eZ ?_
  repeat' (first | (apply aF) | (apply aA) | (apply aG) | (apply aD) | (refine aE rfl rfl ?_; ((first | refine aH ?_ | refine aX ?_)); refine aB ?_))
  refine kD rfl rfl hx hax hm (fun n a1 b1 o1 ho h1 hz hp h2 => ?_)
  refine aB ?_
  repeat' (first | (apply aF) | (apply aA) | (apply aT) | (apply aG) | (apply aD) | (refine aE rfl rfl ?_; ((refine aX ?_)); refine aB ?_))
  have hmi : b1 = false → m + 1 ≤ a1 := fun hb => by
    have e1 := hp hb
    have e2 := hma ((ho.good hb).1)
    omega
  refine dT (.blk br (gD A c xs a1 b1 o1) 105 :: .row (.slice none 0 0) 160 4 0 [] :: H) (Cx [] ([] : List Tm) :: R) (fun w hs => ((hs.nilrow 160 4).perm (List.Perm.swap _ _ _)).learn (Cx [] ([] : List Tm)) (fun s _ => fT s)) ?_
  refine cK [4, 5, 6, 9, 10, 11, 12, 13, 14, 15, 16, 17, 18, 19, 20, 21, 22, 23, 24, 25, 26] (fun k j H2 R2 => ∃ (i a' o' : Nat) (b' : Bool) (A0 : Option Addr) (c0 : Nat) (cs : List Value) (l : List Tm), i + k = n ∧ j 5 = .int .i64 (i : Int) ∧ j 4 = .slice A0 i c0 ∧ (∀ p ∈ R, p ∈ R2) ∧ Cx cs l ∈ R2 ∧ H2 = .blk br (gD A c xs a' b' o') 105 :: .row (.slice A0 i c0) 160 4 i cs :: H ∧ a1 ≤ a' ∧ a' ≤ xs.length ∧ l.length = i ∧ Lp d n a1 b1 o1 k l a' b' o') n eE ⟨0, a1, o1, b1, none, 0, [], [], by omega, rfl, rfl, (fun _ h => List.mem_cons_of_mem _ h), List.mem_cons_self, rfl, Nat.le_refl _, by omega, rfl, Lp.start _ _ _ _ _⟩ ?_
  rintro k j' H2 R2 ⟨i, a', o', b', A0, c0, cs, l, hik, hji, hjl, hR2, hcx, hH2, haa, ha', hli, hlp⟩
  subst hH2
  have hmx := hR2 _ (show Sl (.slice A xs.length c) xs ∈ _ from aV)
  refine cQ (by simp only [dX, List.foldl_cons, List.foldl_nil, List.set_cons_succ, List.set_cons_zero, hji, hjl]; rfl) ?_
  rcases Nat.lt_or_ge i n with hlt | hge
  rotate_left
  · obtain rfl : k = 0 := by omega
    have hdone := Lp.done ho hlp (.inr rfl) haa ha'
    repeat' (first | (apply aF) | (apply aA) | (apply bN) | (apply bV) | (apply aI; exact rfl) | (apply aG) | (apply aD) | (apply aS) | (apply aR) | (apply aU; exact rfl; ((refine bM rfl rfl (fun h => ?_) (fun h => ?_))) <;> (first | (exfalso; omega) | refine aB ?_)) | (refine aE rfl rfl ?_; ((first | refine aH ?_ | refine aX ?_ | refine cI rfl eJ ?_)); refine aB ?_) | (refine cR rfl ?_; refine aB ?_))
    refine dW 1 rfl rfl (by decide) hcx (fun A' c' hv => ?_)
    refine eO (fun w hs => dC hs List.mem_cons_self) (fun hb => ?_)
    refine bC (.inl rfl) (dM rfl (bS (v := .slice A' l.length c') (by rw [← hv]; rfl))) (cG _ (Sl (.slice A' l.length c') l :: R) (fun w hs => hs.weaken (List.Sublist.refl _) (bL List.mem_cons_self (fun p hp => List.mem_cons_of_mem _ (hR2 p hp)))) ?_)
    exact hk l a' _ o' (A', c') hdone (by omega) ha' hb
  cases b' with
  | true =>
    have hdone := Lp.done ho hlp (.inl rfl) haa ha'
    repeat' (first | (apply aF) | (apply aA) | (apply bN) | (apply bV) | (apply aI; exact rfl) | (apply aG) | (apply aD) | (apply aS) | (apply aR) | (apply aP; exact rfl; ((refine aM (i := 0) rfl rfl rfl ?_)); refine aB ?_) | (apply aU; exact rfl; ((refine bM rfl rfl (fun h => ?_) (fun h => ?_))) <;> (first | (exfalso; omega) | refine aB ?_)) | (refine aE rfl rfl ?_; ((first | refine aH ?_ | refine aX ?_ | refine bT rfl eJ ?_ | refine aW rfl ?_ | refine aC rfl ?_ | refine dE rfl ?_)); refine aB ?_))
    refine dW 1 rfl rfl (by decide) hcx (fun A' c' hv => ?_)
    refine eO (fun w hs => dC hs List.mem_cons_self) (fun hb => ?_)
    refine bC (.inl rfl) (dM rfl (bS (v := .slice A' l.length c') (by rw [← hv]; rfl))) (cG _ (Sl (.slice A' l.length c') l :: R) (fun w hs => hs.weaken (List.Sublist.refl _) (bL List.mem_cons_self (fun p hp => List.mem_cons_of_mem _ (hR2 p hp)))) ?_)
    exact hk l a' _ o' (A', c') hdone (by omega) ha' hb
  | false =>
    obtain ⟨k', rfl⟩ : ∃ k', k = k' + 1 := ⟨k - 1, by omega⟩
    have hb1 := (hlp.ok rfl).1
    have hm1 := hmi hb1
    repeat' (first | (apply aF) | (apply aA) | (apply aT) | (apply bE) | (apply aK; exact rfl) | (apply aG) | (apply aD) | (apply aP; exact rfl; ((refine aM (i := 0) rfl rfl rfl ?_)); refine aB ?_) | (apply aU; exact rfl; ((refine bM rfl rfl (fun h => ?_) (fun h => ?_))) <;> (first | (exfalso; omega) | refine aB ?_)) | (refine aE rfl rfl ?_; ((first | refine aH ?_ | refine bT rfl eJ ?_ | refine aW rfl ?_ | refine aC rfl ?_ | refine dE rfl ?_)); refine aB ?_))
    refine pE rfl rfl (hone) (by omega) ha' hmx (fun x a2' b2' o2' y hd h3' h4' hok => ?_)
    refine aB ?_
    repeat' ((refine bG rfl rfl ?_; ((refine bK cW (fun b => ?_))); refine aB ?_))
    refine bG rfl rfl ?_
    refine aO (i := 0) (vs := Unp.cs x y) rfl rfl rfl (UnpL.len x y) (show 0 + 4 ≤ 4 by omega) (UnpL.one x y) ?_
    rw [eC (by rw [UnpL.len]; rfl)]
    refine aB ?_
    refine cA ?_
    repeat' (first | (refine aP rfl ?_; refine aM (i := 0) rfl rfl (cN (by rw [UnpL.len]; rfl)) ?_; refine aB ?_) | (refine bG rfl rfl ?_; refine eW (cs := Unp.cs x y) (by decide) rfl (by rw [UnpL.len]; rfl) (fun b9 => ?_); refine aB ?_) | (refine bG rfl rfl ?_; refine cY 3 0 (news := Unp.cs x y) rfl rfl rfl rfl (by decide) (by rw [UnpL.len]; rfl) (UnpL.one x y) (by omega) (by omega) (fun v' => ?_); refine aB ?_; refine cA ?_; refine gA 3 rfl (fun A9 c9 hv9 => ?_); subst hv9) | (apply aA) | (apply aG) | (apply aD) | (apply bP) | (apply aU; exact rfl; ((refine bI rfl rfl (by omega) (by omega) ?_)); refine aB ?_) | (refine aE rfl rfl ?_; ((first | refine aH ?_ | refine aX ?_)); refine aB ?_))
    exact cE k' (.blk br (gD A c xs a2' b2' o2') 105 :: .row (.slice A9 (i + 1) c9) 160 4 (i + 1) (cs ++ Unp.cs x y) :: H) (Cx (cs ++ Unp.cs x y) (l ++ [x]) :: R) (by omega) eE ⟨i + 1, a2', o2', b2', A9, c9, cs ++ Unp.cs x y, l ++ [x], by omega, rfl, rfl, (fun _ h => List.mem_cons_of_mem _ h), List.mem_cons_self, rfl, by omega, h4', by simp [hli], hlp.step hd⟩ (fun w hs => (hs.learn (Cx (cs ++ Unp.cs x y) (l ++ [x])) (fun s hR => eN (hR (Cx cs l) (List.mem_append_right _ hcx)) (Unp.re hok (fun p hp => hR p (List.mem_append_left _ hp))))).weaken (.cons _ (.cons _ (List.Sublist.refl _))) (bL List.mem_cons_self (fun p hp => List.mem_cons_of_mem _ (List.mem_append_right _ (hR2 p hp)))))
end Go.Proofs.YtggdljhmbckpmaaGreat
