/- The reference's reader: terms: walks, printed by gen_vf.py. The reference's reader: structs: walks, printed by gen_vf.py. -/
import Derived.Test.YtggdljhmbckpmaaGreatVA
set_option linter.unusedVariables false
set_option linter.unusedSimpArgs false
namespace Go.Proofs.YtggdljhmbckpmaaGreat
open Go Go.RowKit
set_option maxRecDepth 100000
set_option maxHeartbeats 6400000

section
variable {F : Fence} {n : Nat} {P : Program} {w0 : World} {D : List Deferred} {ops : Array Oper} {Q : Exit → Act → World → Prop} {rest : List Oper} {E : List Value} {H : List Hp} {R : List MP}
theorem mT {co : Code} {x y z : Hp} (k : TC F n P w0 D co Q E (z :: x :: y :: H) R) : TC F n P w0 D co Q E (x :: y :: z :: H) R := dT _ _ (fun w hs => (hs.perm (List.Perm.cons x (List.Perm.swap z y H))).perm (List.Perm.swap z x (y :: H))) k
theorem fK [Wd F] {dst : Option Tmp} {f : FuncId} {l : List Operand} {at_ : Array TypeId} {ty : TypeId} {pos : String} {aft : Array Edge} {g : Option (Nat × Bool)} {args : List Value} {br : Nat} {A : Option Addr} {c : Nat} {xs : List UInt8} {m a : Nat} {b : Bool} {o : Nat} {d : Dc Int}
    (hw : Region.wanted ⟨dst, .call ⟨.value (.func f), l.toArray, at_⟩, ty, pos, aft, g⟩ (yielded ops E.toArray) = true) (hA : l.map (ev E) = args) [FnOk P f] (h : Rf P w0 f args br A c xs m d (fun n _ => .int .i64 n)) (hma : b = false → m ≤ a) (hax : a ≤ xs.length) (hm : Sl (.slice A xs.length c) xs ∈ R)
    (hk : ∀ x a' b' o' , Out xs d ⟨a, b, o⟩ x ⟨a', b', o'⟩ → a ≤ a' → a' ≤ xs.length → dD x → T F n P w0 D ops Q rest (dP E dst (.int .i64 x)) (.blk br (gD A c xs a' b' o') 105 :: H) (R)) : T F n P w0 D ops Q (⟨dst, .call ⟨.value (.func f), l.toArray, at_⟩, ty, pos, aft, g⟩ :: rest) E (.blk br (gD A c xs a b o) 105 :: H) R :=
  uT hw hA h hma hax hm (fun x a' b' o' y ho h1 h2 hok => by
    exact hk x a' b' o'  ho h1 h2 hok)

theorem q7 [Wd F] {dst : Option Tmp} {f : FuncId} {l : List Operand} {at_ : Array TypeId} {ty : TypeId} {pos : String} {aft : Array Edge} {g : Option (Nat × Bool)} {args : List Value} {br : Nat} {A : Option Addr} {c : Nat} {xs : List UInt8} {m a : Nat} {b : Bool} {o : Nat} {d : Dc ByteArray}
    (hw : Region.wanted ⟨dst, .call ⟨.value (.func f), l.toArray, at_⟩, ty, pos, aft, g⟩ (yielded ops E.toArray) = true) (hA : l.map (ev E) = args) [FnOk P f] (h : Rf P w0 f args br A c xs m d (fun s _ => .string s)) (hma : b = false → m ≤ a) (hax : a ≤ xs.length) (hm : Sl (.slice A xs.length c) xs ∈ R)
    (hk : ∀ x a' b' o' , Out xs d ⟨a, b, o⟩ x ⟨a', b', o'⟩ → a ≤ a' → a' ≤ xs.length → x.size ≤ 9223372036854775807 → T F n P w0 D ops Q rest (dP E dst (.string x)) (.blk br (gD A c xs a' b' o') 105 :: H) (R)) : T F n P w0 D ops Q (⟨dst, .call ⟨.value (.func f), l.toArray, at_⟩, ty, pos, aft, g⟩ :: rest) E (.blk br (gD A c xs a b o) 105 :: H) R :=
  uT hw hA h hma hax hm (fun x a' b' o' y ho h1 h2 hok => by
    exact hk x a' b' o'  ho h1 h2 hok)

theorem uE [Wd F] {dst : Option Tmp} {f : FuncId} {l : List Operand} {at_ : Array TypeId} {ty : TypeId} {pos : String} {aft : Array Edge} {g : Option (Nat × Bool)} {args : List Value} {br : Nat} {A : Option Addr} {c : Nat} {xs : List UInt8} {m a : Nat} {b : Bool} {o : Nat} {d : Dc Bool}
    (hw : Region.wanted ⟨dst, .call ⟨.value (.func f), l.toArray, at_⟩, ty, pos, aft, g⟩ (yielded ops E.toArray) = true) (hA : l.map (ev E) = args) [FnOk P f] (h : Rf P w0 f args br A c xs m d (fun s _ => .bool s)) (hma : b = false → m ≤ a) (hax : a ≤ xs.length) (hm : Sl (.slice A xs.length c) xs ∈ R)
    (hk : ∀ x a' b' o' , Out xs d ⟨a, b, o⟩ x ⟨a', b', o'⟩ → a ≤ a' → a' ≤ xs.length → True → T F n P w0 D ops Q rest (dP E dst (.bool x)) (.blk br (gD A c xs a' b' o') 105 :: H) (R)) : T F n P w0 D ops Q (⟨dst, .call ⟨.value (.func f), l.toArray, at_⟩, ty, pos, aft, g⟩ :: rest) E (.blk br (gD A c xs a b o) 105 :: H) R :=
  uT hw hA h hma hax hm (fun x a' b' o' y ho h1 h2 hok => by
    exact hk x a' b' o'  ho h1 h2 hok)

theorem lW [Wd F] {dst : Option Tmp} {f : FuncId} {l : List Operand} {at_ : Array TypeId} {ty : TypeId} {pos : String} {aft : Array Edge} {g : Option (Nat × Bool)} {args : List Value} {br : Nat} {A : Option Addr} {c : Nat} {xs : List UInt8} {m a : Nat} {b : Bool} {o : Nat} {α : Type} [Rep α] {d : Dc (List α)}
    (hw : Region.wanted ⟨dst, .call ⟨.value (.func f), l.toArray, at_⟩, ty, pos, aft, g⟩ (yielded ops E.toArray) = true) (hA : l.map (ev E) = args) [FnOk P f] (h : Rf P w0 f args br A c xs m d vN) (hma : b = false → m ≤ a) (hax : a ≤ xs.length) (hm : Sl (.slice A xs.length c) xs ∈ R)
    (hk : ∀ (x : List α) a' b' o' A1 c1, Out xs d ⟨a, b, o⟩ x ⟨a', b', o'⟩ → a ≤ a' → a' ≤ xs.length → (x.length ≤ c1 ∧ c1 ≤ dY) → T F n P w0 D ops Q rest (dP E dst (.slice A1 x.length c1)) (.blk br (gD A c xs a' b' o') 105 :: H) (Sl (.slice A1 x.length c1) x :: R)) : T F n P w0 D ops Q (⟨dst, .call ⟨.value (.func f), l.toArray, at_⟩, ty, pos, aft, g⟩ :: rest) E (.blk br (gD A c xs a b o) 105 :: H) R :=
  uT hw hA h hma hax hm (fun x a' b' o' y ho h1 h2 hok => by
    exact hk x a' b' o' y.1 y.2 ho h1 h2 hok)

theorem T_rftm [Wd F] {dst : Option Tmp} {f : FuncId} {l : List Operand} {at_ : Array TypeId} {ty : TypeId} {pos : String} {aft : Array Edge} {g : Option (Nat × Bool)} {args : List Value} {br : Nat} {A : Option Addr} {c : Nat} {xs : List UInt8} {m a : Nat} {b : Bool} {o : Nat} {d : Dc Tm}
    (hw : Region.wanted ⟨dst, .call ⟨.value (.func f), l.toArray, at_⟩, ty, pos, aft, g⟩ (yielded ops E.toArray) = true) (hA : l.map (ev E) = args) [FnOk P f] (h : Rf P w0 f args br A c xs m d nH) (hma : b = false → m ≤ a) (hax : a ≤ xs.length) (hm : Sl (.slice A xs.length c) xs ∈ R)
    (hk : ∀ k i nm (x : List Tm) a' b' o' A1 c1, Out xs d ⟨a, b, o⟩ (.mk k i nm x) ⟨a', b', o'⟩ → a ≤ a' → a' ≤ xs.length → (dD k ∧ dD i ∧ nm.size ≤ 9223372036854775807 ∧ x.length ≤ 9223372036854775807) → T F n P w0 D ops Q rest (dP E dst (.agg #[.int .i64 k, .int .i64 i, .string nm, .slice A1 x.length c1])) (.blk br (gD A c xs a' b' o') 105 :: H) (Sl (.slice A1 x.length c1) x :: R)) : T F n P w0 D ops Q (⟨dst, .call ⟨.value (.func f), l.toArray, at_⟩, ty, pos, aft, g⟩ :: rest) E (.blk br (gD A c xs a b o) 105 :: H) R :=
  uT hw hA h hma hax hm (fun x a' b' o' y ho h1 h2 hok => by
    obtain ⟨k, i, nm, x⟩ := x
    exact hk k i nm x a' b' o' y.1 y.2 ho h1 h2 hok)

theorem T_rftp [Wd F] {dst : Option Tmp} {f : FuncId} {l : List Operand} {at_ : Array TypeId} {ty : TypeId} {pos : String} {aft : Array Edge} {g : Option (Nat × Bool)} {args : List Value} {br : Nat} {A : Option Addr} {c : Nat} {xs : List UInt8} {m a : Nat} {b : Bool} {o : Nat} {d : Dc Tp}
    (hw : Region.wanted ⟨dst, .call ⟨.value (.func f), l.toArray, at_⟩, ty, pos, aft, g⟩ (yielded ops E.toArray) = true) (hA : l.map (ev E) = args) [FnOk P f] (h : Rf P w0 f args br A c xs m d nH) (hma : b = false → m ≤ a) (hax : a ≤ xs.length) (hm : Sl (.slice A xs.length c) xs ∈ R)
    (hk : ∀ nm (x : List Tp) a' b' o' A1 c1, Out xs d ⟨a, b, o⟩ (.mk nm x) ⟨a', b', o'⟩ → a ≤ a' → a' ≤ xs.length → (nm.size ≤ 9223372036854775807 ∧ x.length ≤ 9223372036854775807) → T F n P w0 D ops Q rest (dP E dst (.agg #[.string nm, .slice A1 x.length c1])) (.blk br (gD A c xs a' b' o') 105 :: H) (Sl (.slice A1 x.length c1) x :: R)) : T F n P w0 D ops Q (⟨dst, .call ⟨.value (.func f), l.toArray, at_⟩, ty, pos, aft, g⟩ :: rest) E (.blk br (gD A c xs a b o) 105 :: H) R :=
  uT hw hA h hma hax hm (fun x a' b' o' y ho h1 h2 hok => by
    obtain ⟨nm, x⟩ := x
    exact hk nm x a' b' o' y.1 y.2 ho h1 h2 hok)

theorem T_rfva [Wd F] {dst : Option Tmp} {f : FuncId} {l : List Operand} {at_ : Array TypeId} {ty : TypeId} {pos : String} {aft : Array Edge} {g : Option (Nat × Bool)} {args : List Value} {br : Nat} {A : Option Addr} {c : Nat} {xs : List UInt8} {m a : Nat} {b : Bool} {o : Nat} {d : Dc kZ}
    (hw : Region.wanted ⟨dst, .call ⟨.value (.func f), l.toArray, at_⟩, ty, pos, aft, g⟩ (yielded ops E.toArray) = true) (hA : l.map (ev E) = args) [FnOk P f] (h : Rf P w0 f args br A c xs m d nH) (hma : b = false → m ≤ a) (hax : a ≤ xs.length) (hm : Sl (.slice A xs.length c) xs ∈ R)
    (hk : ∀ lv tn (tx : List Tp) bo k i nm (x : List Tm) a' b' o' A1 c1 A2 c2, Out xs d ⟨a, b, o⟩ (lv, .mk tn tx, bo, .mk k i nm x) ⟨a', b', o'⟩ → a ≤ a' → a' ≤ xs.length → (dD lv ∧ (tn.size ≤ 9223372036854775807 ∧ tx.length ≤ 9223372036854775807) ∧ True ∧ (dD k ∧ dD i ∧ nm.size ≤ 9223372036854775807 ∧ x.length ≤ 9223372036854775807)) → T F n P w0 D ops Q rest (dP E dst (.agg #[.int .i64 lv, .string tn, .slice A1 tx.length c1, .bool bo, .int .i64 k, .int .i64 i, .string nm, .slice A2 x.length c2])) (.blk br (gD A c xs a' b' o') 105 :: H) (Sl (.slice A1 tx.length c1) tx :: Sl (.slice A2 x.length c2) x :: R)) : T F n P w0 D ops Q (⟨dst, .call ⟨.value (.func f), l.toArray, at_⟩, ty, pos, aft, g⟩ :: rest) E (.blk br (gD A c xs a b o) 105 :: H) R :=
  uT hw hA h hma hax hm (fun x a' b' o' y ho h1 h2 hok => by
    obtain ⟨lv, ⟨tn, tx⟩, bo, ⟨k, i, nm, x⟩⟩ := x
    obtain ⟨u1, ⟨A1, c1⟩, u2, ⟨A2, c2⟩⟩ := y
    exact hk lv tn tx bo k i nm x a' b' o' A1 c1 A2 c2 ho h1 h2 hok)

end
theorem uK {w0 : World} (br : Nat) (A : Option Addr) (c : Nat) (xs : List UInt8) (hx : xs.length ≤ 250000) (m : Nat) (d : Dc Tm) (hone : Rfg Tryz.prog w0 145 [.pointer (some ⟨br, 0, none⟩)] br A c xs (m + 1) d nH) : Rf Tryz.prog w0 145 [.pointer (some ⟨br, 0, none⟩)] br A c xs m (iV Tm.of (bW (eH xs) (bW (eH xs) (bW (jI xs) (dK xs d))))) nH := by
  intro H R K a b0 o hma hax hm hk
  refine bX Tryz.func145 rfl Tryz.ntmps145 eZ ?_
  apply aF; apply aA
  repeat' ((refine bG rfl rfl ?_; ((refine bK cW (fun b => ?_))); refine aB ?_))
  apply aG; apply aD
  revert b
  intro bz
  apply aF; apply aA
  repeat' ((refine bG rfl rfl ?_; ((refine bK cW (fun b => ?_))); refine aB ?_))
  apply aG; apply aD
  revert b
  intro bt
  refine mT ?_
  repeat' (first | (apply aF) | (apply aA) | (refine aE rfl rfl ?_; ((refine aH ?_)); refine aB ?_))
  refine fK rfl rfl (dR br A c xs hx) (fun _ => Nat.zero_le _) hax aV (fun x1 a1 b1 o1 h1 le1 hle1 ok1 => ?_)
  refine aB ?_
  repeat' (first | (apply aF) | (apply aA) | (apply aG) | (apply aD) | (apply bD; exact rfl; ((refine aO (i := 1) rfl cW rfl (by rfl) (by simp) (by simp [Value.oneCell']) ?_)); refine aB ?_; refine cA ?_) | (refine aE rfl rfl ?_; ((first | refine aH ?_ | refine aC rfl ?_)); refine aB ?_))
  refine fK rfl rfl (dR br A c xs hx) (fun _ => Nat.zero_le _) hle1 aV (fun x2 a2 b2 o2 h2 le2 hle2 ok2 => ?_)
  refine aB ?_
  repeat' (first | (apply aF) | (apply aA) | (apply aG) | (apply aD) | (apply bD; exact rfl; ((refine aO (i := 1) rfl cW rfl (by rfl) (by simp) (by simp [Value.oneCell']) ?_)); refine aB ?_; refine cA ?_) | (refine aE rfl rfl ?_; ((first | refine aH ?_ | refine aC rfl ?_)); refine aB ?_))
  refine q7 rfl rfl (vP br A c xs hx) (fun _ => Nat.zero_le _) hle2 aV (fun x3 a3 b3 o3 h3 le3 hle3 ok3 => ?_)
  refine aB ?_
  repeat' (first | (apply aF) | (apply aA) | (apply aG) | (apply aD) | (apply bD; exact rfl; ((refine aO (i := 1) rfl cW rfl (by rfl) (by simp) (by simp [Value.oneCell']) ?_)); refine aB ?_; refine cA ?_) | (refine aE rfl rfl ?_; ((first | refine aH ?_ | refine aC rfl ?_)); refine aB ?_))
  refine lW rfl rfl (uM br A c xs hx m d hone) (fun hb => by have e := hma ((h1.good ((h2.good ((h3.good hb).1)).1)).1); omega) hle3 aV (fun x4 a4 b4 o4 A4 c4 h4 qO hle4 ok4 => ?_)
  refine aB ?_
  repeat' (first | (apply aF) | (apply aA) | (apply bN) | (apply aG) | (apply aD) | (apply aP; exact rfl; ((refine aM (i := 1) rfl rfl rfl ?_)); refine aB ?_) | (apply bD; exact rfl; ((first | refine aO (i := 1) rfl cW rfl (by rfl) (by simp) (by simp [Value.oneCell']) ?_ | refine aO (i := 2) rfl cW rfl (by rfl) (by simp) (by simp [Value.oneCell']) ?_)); refine aB ?_; refine cA ?_) | (refine aE rfl rfl ?_; ((refine aC rfl ?_)); refine aB ?_))
  refine bC (.inl rfl) (dM rfl (dG (i := 2) rfl rfl rfl)) (cG (.blk br (gD A c xs a4 b4 o4) 105 :: H) (Sl (.slice A4 x4.length c4) x4 :: R) (fun w hs => hs.weaken bU cZ) ?_)
  exact hk (.mk x1 x2 x3 x4) a4 b4 o4 (A4, c4) (Out.map ((h1).pair ((h2).pair ((h3).pair (h4))))) (by omega) hle4 (show dD x1 ∧ dD x2 ∧ x3.size ≤ 9223372036854775807 ∧ x4.length ≤ 9223372036854775807 from ⟨ok1, ok2, ok3, Nat.le_trans ok4.1 ok4.2⟩)
theorem uL (xs : List UInt8) (f : Nat) : wM xs (f + 1) = iV Tm.of (bW (eH xs) (bW (eH xs) (bW (jI xs) (dK xs (wM xs f))))) := by
  funext a
  rw [wM]
theorem tS (xs : List UInt8) (f : Nat) : yE xs (f + 1) = iV Tp.of (bW (jI xs) (dK xs (yE xs f))) := by
  funext a
  rw [yE]
theorem term_ff {w0 : World} (br : Nat) (A : Option Addr) (c : Nat) (xs : List UInt8) (hx : xs.length ≤ 250000) : ∀ f m : Nat, xs.length < m + f → Rfg Tryz.prog w0 145 [.pointer (some ⟨br, 0, none⟩)] br A c xs m (wM xs f) nH := by
  intro f
  induction f with
  | zero => exact fun m hm H R K a o hma hax => by omega
  | succ f ih =>
    intro m hm
    rw [uL]
    exact (uK br A c xs hx m _ (ih (m + 1) (by omega))).g (Nat.le_refl m)
theorem zQ {w0 : World} (br : Nat) (A : Option Addr) (c : Nat) (xs : List UInt8) (hx : xs.length ≤ 250000) : Rf Tryz.prog w0 145 [.pointer (some ⟨br, 0, none⟩)] br A c xs 0 (s4 xs) nH := by
  unfold s4
  rw [uL]
  exact uK br A c xs hx 0 _ (term_ff br A c xs hx xs.length 1 (by omega))
theorem pK {w0 : World} (br : Nat) (A : Option Addr) (c : Nat) (xs : List UInt8) (hx : xs.length ≤ 250000) : Rf Tryz.prog w0 142 [.pointer (some ⟨br, 0, none⟩)] br A c xs 0 (dK xs (s4 xs)) vN := uM br A c xs hx 0 _ ((zQ br A c xs hx).g (by omega))
theorem xC {w0 : World} (br : Nat) (A : Option Addr) (c : Nat) (xs : List UInt8) (hx : xs.length ≤ 250000) (m : Nat) (d : Dc Tp) (hone : Rfg Tryz.prog w0 144 [.pointer (some ⟨br, 0, none⟩)] br A c xs (m + 1) d nH) : Rf Tryz.prog w0 144 [.pointer (some ⟨br, 0, none⟩)] br A c xs m (iV Tp.of (bW (jI xs) (dK xs d))) nH := by
  intro H R K a b0 o hma hax hm hk
  refine bX Tryz.func144 rfl Tryz.ntmps144 eZ ?_
  apply aF; apply aA
  repeat' ((refine bG rfl rfl ?_; ((refine bK cW (fun b => ?_))); refine aB ?_))
  apply aG; apply aD
  revert b
  intro bz
  apply aF; apply aA
  repeat' ((refine bG rfl rfl ?_; ((refine bK cW (fun b => ?_))); refine aB ?_))
  apply aG; apply aD
  revert b
  intro bt
  refine mT ?_
  repeat' (first | (apply aF) | (apply aA) | (refine aE rfl rfl ?_; ((refine aH ?_)); refine aB ?_))
  refine q7 rfl rfl (vP br A c xs hx) (fun _ => Nat.zero_le _) hax aV (fun x1 a1 b1 o1 h1 le1 hle1 ok1 => ?_)
  refine aB ?_
  repeat' (first | (apply aF) | (apply aA) | (apply aG) | (apply aD) | (apply bD; exact rfl; ((refine aO (i := 1) rfl cW rfl (by rfl) (by simp) (by simp [Value.oneCell']) ?_)); refine aB ?_; refine cA ?_) | (refine aE rfl rfl ?_; ((first | refine aH ?_ | refine aC rfl ?_)); refine aB ?_))
  refine kD rfl rfl hx hle1 aV (fun n2 a2' b2' o2' ho2 le2' hz2 hp2 hle2' => ?_)
  refine aB ?_
  repeat' ((refine aE rfl rfl ?_; ((refine aX ?_)); refine aB ?_))
  apply aG; apply aD
  have hmi2 : b2' = false → m + 1 ≤ a2' := fun hb => by
    have e1 := hp2 hb
    have e2 := hma (h1.good (ho2.good hb).1).1
    omega
  refine iZ [5, 6, 12, 13, 14, 15, 16, 17, 18, 19, 20, 21, 22, 23, 24, 25, 26, 27, 28, 29, 30, 31] (fun j H' R' => ∃ (a' o' : Nat) (b' : Bool) (A' : Option Addr) (c' : Nat) (l : List Tp), H' = .blk br (gD A c xs a' b' o') 105 :: .blk bt [.string x1, (.slice A' l.length c')] 158 :: .blk bz [.string ⟨#[]⟩, .slice none 0 0] 158 :: H ∧ R' = Sl (.slice A' l.length c') l :: R ∧ Out xs (dK xs d) ⟨a1, b1, o1⟩ l ⟨a', b', o'⟩ ∧ a1  ≤ a' ∧ a' ≤ xs.length ∧ (l.length ≤ c' ∧ c' ≤ dY)) ?_ ?_
  · skip
    repeat' (first | (apply aF) | (apply aA) | (apply aT) | (apply aG) | (apply aD) | (refine aE rfl rfl ?_; ((refine aX ?_)); refine aB ?_))
    refine dT (.blk br (gD A c xs a2' b2' o2') 105 :: .row (.slice none 0 0) 158 2 0 [] :: .blk bt [.string x1, .slice none 0 0] 158 :: .blk bz [.string ⟨#[]⟩, .slice none 0 0] 158 :: H) (Cx [] ([] : List Tp) :: (R)) (fun w hs => ((hs.nilrow 158 2).perm (List.Perm.swap _ _ _)).learn (Cx [] ([] : List Tp)) (fun s _ => fT s)) ?_
    refine cK [5, 6, 12, 13, 14, 15, 16, 17, 18, 19, 20, 21, 22, 23, 24, 25, 26, 27, 28, 29, 30, 31] (fun k j H2 R2 => ∃ (i a' o' : Nat) (b' : Bool) (A0 : Option Addr) (c0 : Nat) (cs : List Value) (l : List Tp), i + k = n2 ∧ j 5 = .int .i64 (i : Int) ∧ (∀ p ∈ (R), p ∈ R2) ∧ Cx cs l ∈ R2 ∧ H2 = .blk br (gD A c xs a' b' o') 105 :: .row (.slice A0 i c0) 158 2 i cs :: .blk bt [.string x1, .slice A0 i c0] 158 :: .blk bz [.string ⟨#[]⟩, .slice none 0 0] 158 :: H ∧ a2' ≤ a' ∧ a' ≤ xs.length ∧ l.length = i ∧ Lp d n2 a2' b2' o2' k l a' b' o') n2 eE ⟨0, a2', o2', b2', none, 0, [], [], by omega, rfl, (fun _ h => List.mem_cons_of_mem _ h), List.mem_cons_self, rfl, Nat.le_refl _, by omega, rfl, Lp.start _ _ _ _ _⟩ ?_
    rintro k j' H2 R2 ⟨i, a', o', b', A0, c0, cs, l, hik, hji, hR2, hcx, hH2, haa, ha', hli, hlp⟩
    subst hH2
    have hmx := hR2 _ (show Sl (.slice A xs.length c) xs ∈ _ from aV)
    refine cQ (by simp only [dX, List.foldl_cons, List.foldl_nil, List.set_cons_succ, List.set_cons_zero, hji]; rfl) ?_
    rcases Nat.lt_or_ge i n2 with hlt | hge
    rotate_left
    · obtain rfl : k = 0 := by omega
      have hdone := Lp.done ho2 hlp (.inr rfl) haa ha'
      repeat' (first | (apply aF) | (apply aA) | (apply bV) | (apply aI; exact rfl) | (apply aG) | (apply aD) | (apply aS) | (apply aR) | (apply aU; exact rfl; ((refine bM rfl rfl (fun h => ?_) (fun h => ?_))) <;> (first | (exfalso; omega) | refine aB ?_)) | (refine aE rfl rfl ?_; ((first | refine aH ?_ | refine cI rfl eJ ?_)); refine aB ?_) | (refine cR rfl ?_; refine aB ?_))
      subst hli
      refine dW 1 rfl rfl (by decide) hcx (fun A' c' hv => ?_)
      cases hv
      refine eO (fun w hs => dC hs List.mem_cons_self) (fun hb => ?_)
      exact fM _ (Sl (.slice A0 l.length c0) l :: R) eE ⟨a', o', _, A0, c0, l, rfl, rfl, hdone, by omega, ha', hb⟩ (fun w hs => hs.weaken (List.Sublist.refl _) (bL List.mem_cons_self (fun p hp => List.mem_cons_of_mem _ (hR2 p hp))))
    cases b' with
    | true =>
      have hdone := Lp.done ho2 hlp (.inl rfl) haa ha'
      repeat' (first | (apply aF) | (apply aA) | (apply bV) | (apply aI; exact rfl) | (apply aG) | (apply aD) | (apply aS) | (apply aR) | (apply aP; exact rfl; ((refine aM (i := 0) rfl rfl rfl ?_)); refine aB ?_) | (apply aU; exact rfl; ((refine bM rfl rfl (fun h => ?_) (fun h => ?_))) <;> (first | (exfalso; omega) | refine aB ?_)) | (refine aE rfl rfl ?_; ((first | refine aH ?_ | refine bT rfl eJ ?_ | refine aW rfl ?_ | refine aC rfl ?_ | refine dE rfl ?_)); refine aB ?_))
      subst hli
      refine dW 1 rfl rfl (by decide) hcx (fun A' c' hv => ?_)
      cases hv
      refine eO (fun w hs => dC hs List.mem_cons_self) (fun hb => ?_)
      exact fM _ (Sl (.slice A0 l.length c0) l :: R) eE ⟨a', o', _, A0, c0, l, rfl, rfl, hdone, by omega, ha', hb⟩ (fun w hs => hs.weaken (List.Sublist.refl _) (bL List.mem_cons_self (fun p hp => List.mem_cons_of_mem _ (hR2 p hp))))
    | false =>
      obtain ⟨k', rfl⟩ : ∃ k', k = k' + 1 := ⟨k - 1, by omega⟩
      have hb1 := (hlp.ok rfl).1
      have hm1 := hmi2 hb1
      repeat' (first | (apply aF) | (apply aA) | (apply aT) | (apply bE) | (apply aK; exact rfl) | (apply aG) | (apply aD) | (apply aP; exact rfl; ((refine aM (i := 0) rfl rfl rfl ?_)); refine aB ?_) | (apply aU; exact rfl; ((refine bM rfl rfl (fun h => ?_) (fun h => ?_))) <;> (first | (exfalso; omega) | refine aB ?_)) | (refine aE rfl rfl ?_; ((first | refine aH ?_ | refine bT rfl eJ ?_ | refine aW rfl ?_ | refine aC rfl ?_ | refine dE rfl ?_)); refine aB ?_))
      refine pE rfl rfl (hone) (by omega) ha' hmx (fun x a2' b2' o2' y hd h3' h4' hok => ?_)
      refine aB ?_
      repeat' ((refine bG rfl rfl ?_; ((refine bK cW (fun b => ?_))); refine aB ?_))
      refine bG rfl rfl ?_
      refine aO (i := 0) (vs := Unp.cs x y) rfl rfl rfl (UnpL.len x y) (show 0 + 2 ≤ 2 by omega) (UnpL.one x y) ?_
      rw [eC (by rw [UnpL.len]; rfl)]
      refine aB ?_
      refine cA ?_
      repeat' (first | (refine aP rfl ?_; refine aM (i := 0) rfl rfl (cN (by rw [UnpL.len]; rfl)) ?_; refine aB ?_) | (refine bG rfl rfl ?_; refine eW (cs := Unp.cs x y) (by decide) rfl (by rw [UnpL.len]; rfl) (fun b9 => ?_); refine aB ?_) | (refine bG rfl rfl ?_; refine cY 3 0 (news := Unp.cs x y) rfl rfl rfl rfl (by decide) (by rw [UnpL.len]; rfl) (UnpL.one x y) (by omega) (by omega) (fun v' => ?_); refine aB ?_; refine cA ?_; refine gA 3 rfl (fun A9 c9 hv9 => ?_); subst hv9) | (apply aA) | (apply aG) | (apply aD) | (apply bP) | (apply aP; exact rfl; ((refine aM (i := 3) rfl rfl rfl ?_)); refine aB ?_) | (apply aU; exact rfl; ((refine bI rfl rfl (by omega) (by omega) ?_)); refine aB ?_) | (apply bD; exact rfl; ((refine aO (i := 4) rfl cW rfl (by rfl) (by simp) (by simp [Value.oneCell']) ?_)); refine aB ?_; refine cA ?_) | (refine aE rfl rfl ?_; ((first | refine aH ?_ | refine aX ?_ | refine aC rfl ?_)); refine aB ?_))
      exact cE k' (.blk br (gD A c xs a2' b2' o2') 105 :: .row (.slice A9 (i + 1) c9) 158 2 (i + 1) (cs ++ Unp.cs x y) :: .blk bt [.string x1, .slice A9 (i + 1) c9] 158 :: .blk bz [.string ⟨#[]⟩, .slice none 0 0] 158 :: H) (Cx (cs ++ Unp.cs x y) (l ++ [x]) :: (R)) (by omega) eE ⟨i + 1, a2', o2', b2', A9, c9, cs ++ Unp.cs x y, l ++ [x], by omega, rfl, (fun _ h => List.mem_cons_of_mem _ h), List.mem_cons_self, rfl, by omega, h4', by simp [hli], hlp.step hd⟩ (fun w hs => (hs.learn (Cx (cs ++ Unp.cs x y) (l ++ [x])) (fun s hR => eN (hR (Cx cs l) (List.mem_append_right _ hcx)) (Unp.re hok (fun p hp => hR p (List.mem_append_left _ hp))))).weaken (.cons _ (.cons _ (List.Sublist.refl _))) (bL List.mem_cons_self (fun p hp => List.mem_cons_of_mem _ (List.mem_append_right _ (hR2 p hp)))))
  rintro j2 H2 R2 ⟨a2, o2, b2, A2, c2, x2, hH2, hR2, h2, le2, hle2, ok2⟩
  subst hH2 hR2
  refine cQ (by simp only [dX, List.foldl_cons, List.foldl_nil, List.set_cons_succ, List.set_cons_zero]; rfl) ?_
  repeat' (first | (apply aF) | (apply aA) | (apply bN) | (apply aG) | (apply aD) | (apply aP; exact rfl; ((refine aM (i := 1) rfl rfl rfl ?_)); refine aB ?_) | (apply bD; exact rfl; ((refine aO (i := 2) rfl cW rfl (by rfl) (by simp) (by simp [Value.oneCell']) ?_)); refine aB ?_; refine cA ?_))
  refine bC (.inl rfl) (dM rfl (dG (i := 2) rfl rfl rfl)) (cG (.blk br (gD A c xs a2 b2 o2) 105 :: H) (Sl (.slice A2 x2.length c2) x2 :: R) (fun w hs => hs.weaken bU cZ) ?_)
  exact hk (.mk x1 x2) a2 b2 o2 (A2, c2) (Out.map ((h1).pair (h2))) (by omega) hle2 (show x1.size ≤ 9223372036854775807 ∧ x2.length ≤ 9223372036854775807 from ⟨ok1, Nat.le_trans ok2.1 ok2.2⟩)
theorem typ_ff {w0 : World} (br : Nat) (A : Option Addr) (c : Nat) (xs : List UInt8) (hx : xs.length ≤ 250000) : ∀ f m : Nat, xs.length < m + f → Rfg Tryz.prog w0 144 [.pointer (some ⟨br, 0, none⟩)] br A c xs m (yE xs f) nH := by
  intro f
  induction f with
  | zero => exact fun m hm H R K a o hma hax => by omega
  | succ f ih =>
    intro m hm
    rw [tS]
    exact (xC br A c xs hx m _ (ih (m + 1) (by omega))).g (Nat.le_refl m)
theorem typ_f {w0 : World} (br : Nat) (A : Option Addr) (c : Nat) (xs : List UInt8) (hx : xs.length ≤ 250000) : Rf Tryz.prog w0 144 [.pointer (some ⟨br, 0, none⟩)] br A c xs 0 (tpD xs) nH := by
  unfold tpD
  rw [tS]
  exact xC br A c xs hx 0 _ (typ_ff br A c xs hx xs.length 1 (by omega))
end Go.Proofs.YtggdljhmbckpmaaGreat
namespace Go.Proofs.YtggdljhmbckpmaaGreat
open Go Go.RowKit
set_option maxRecDepth 100000
set_option maxHeartbeats 6400000

theorem val_f {w0 : World} (br : Nat) (A : Option Addr) (c : Nat) (xs : List UInt8) (hx : xs.length ≤ 250000) : Rf Tryz.prog w0 106 [.pointer (some ⟨br, 0, none⟩)] br A c xs 0 (zG xs) nH := by
  intro H R K a b0 o hma hax hm hk
  refine bX Tryz.func106 rfl Tryz.ntmps106 eZ ?_
  apply aF; apply aA
  repeat' ((refine bG rfl rfl ?_; ((refine bK cW (fun b => ?_))); refine aB ?_))
  apply aG; apply aD
  revert b
  intro bz
  apply aF; apply aA
  repeat' ((refine bG rfl rfl ?_; ((refine bK cW (fun b => ?_))); refine aB ?_))
  apply aG; apply aD
  revert b
  intro bt
  refine mT ?_
  repeat' (first | (apply aF) | (apply aA) | (refine aE rfl rfl ?_; ((refine aH ?_)); refine aB ?_))
  refine fK rfl rfl (dR br A c xs hx) (fun _ => Nat.zero_le _) hax aV (fun x1 a1 b1 o1 h1 le1 hle1 ok1 => ?_)
  refine aB ?_
  repeat' (first | (apply aF) | (apply aA) | (apply aG) | (apply aD) | (apply bD; exact rfl; ((refine aO (i := 1) rfl cW rfl (by rfl) (by simp) (by simp [Value.oneCell']) ?_)); refine aB ?_; refine cA ?_) | (refine aE rfl rfl ?_; ((first | refine aH ?_ | refine aC rfl ?_)); refine aB ?_))
  refine T_rftp rfl rfl (typ_f br A c xs hx) (fun _ => Nat.zero_le _) hle1 aV (fun x2s x2 a2 b2 o2 A2 c2 h2 le2 hle2 ok2 => ?_)
  refine aB ?_
  repeat' (first | (apply aF) | (apply aA) | (apply aG) | (apply aD) | (apply bD; exact rfl; ((refine aO (i := 1) rfl cW rfl (by rfl) (by simp) (by simp [Value.oneCell']) ?_)); refine aB ?_; refine cA ?_) | (refine aE rfl rfl ?_; ((first | refine aH ?_ | refine aC rfl ?_)); refine aB ?_))
  refine uE rfl rfl (oQ br A c xs hx) (fun _ => Nat.zero_le _) hle2 aV (fun x3 a3 b3 o3 h3 le3 hle3 ok3 => ?_)
  refine aB ?_
  repeat' (first | (apply aF) | (apply aA) | (apply aG) | (apply aD) | (apply bD; exact rfl; ((refine aO (i := 1) rfl cW rfl (by rfl) (by simp) (by simp [Value.oneCell']) ?_)); refine aB ?_; refine cA ?_) | (refine aE rfl rfl ?_; ((first | refine aH ?_ | refine aC rfl ?_)); refine aB ?_))
  refine T_rftm rfl rfl (zQ br A c xs hx) (fun _ => Nat.zero_le _) hle3 aV (fun x4k x4i x4s x4 a4 b4 o4 A4 c4 h4 qO hle4 ok4 => ?_)
  refine aB ?_
  repeat' (first | (apply aF) | (apply aA) | (apply bN) | (apply aG) | (apply aD) | (apply aP; exact rfl; ((refine aM (i := 1) rfl rfl rfl ?_)); refine aB ?_) | (apply bD; exact rfl; ((first | refine aO (i := 1) rfl cW rfl (by rfl) (by simp) (by simp [Value.oneCell']) ?_ | refine aO (i := 2) rfl cW rfl (by rfl) (by simp) (by simp [Value.oneCell']) ?_)); refine aB ?_; refine cA ?_) | (refine aE rfl rfl ?_; ((refine aC rfl ?_)); refine aB ?_))
  refine bC (.inl rfl) (dM rfl (dG (i := 2) rfl rfl rfl)) (cG (.blk br (gD A c xs a4 b4 o4) 105 :: H) (Sl (.slice A2 x2.length c2) x2 :: Sl (.slice A4 x4.length c4) x4 :: R) (fun w hs => hs.weaken bU cZ) ?_)
  exact hk ((x1, .mk x2s x2, x3, .mk x4k x4i x4s x4)) a4 b4 o4 ((), (A2, c2), (), (A4, c4)) ((h1).pair ((h2).pair ((h3).pair (h4)))) (by omega) hle4 (show dD x1 ∧ (x2s.size ≤ 9223372036854775807 ∧ x2.length ≤ 9223372036854775807) ∧ True ∧ (dD x4k ∧ dD x4i ∧ x4s.size ≤ 9223372036854775807 ∧ x4.length ≤ 9223372036854775807) from ⟨ok1, ok2, ok3, ok4⟩)
theorem frame_f {w0 : World} (br : Nat) (A : Option Addr) (c : Nat) (xs : List UInt8) (hx : xs.length ≤ 250000) : Rf Tryz.prog w0 103 [.pointer (some ⟨br, 0, none⟩)] br A c xs 0 (zH xs) nH := by
  intro H R K a b0 o hma hax hm hk
  refine bX Tryz.func103 rfl Tryz.ntmps103 eZ ?_
  apply aF; apply aA
  repeat' ((refine bG rfl rfl ?_; ((refine bK cW (fun b => ?_))); refine aB ?_))
  apply aG; apply aD
  revert b
  intro bz
  apply aF; apply aA
  repeat' ((refine bG rfl rfl ?_; ((refine bK cW (fun b => ?_))); refine aB ?_))
  apply aG; apply aD
  revert b
  intro bt
  refine mT ?_
  repeat' (first | (apply aF) | (apply aA) | (refine aE rfl rfl ?_; ((refine aH ?_)); refine aB ?_))
  refine lW rfl rfl (pK br A c xs hx) (fun _ => Nat.zero_le _) hax aV (fun x1 a1 b1 o1 A1 c1 h1 le1 hle1 ok1 => ?_)
  refine aB ?_
  repeat' (first | (apply aF) | (apply aA) | (apply aG) | (apply aD) | (apply bD; exact rfl; ((refine aO (i := 1) rfl cW rfl (by rfl) (by simp) (by simp [Value.oneCell']) ?_)); refine aB ?_; refine cA ?_) | (refine aE rfl rfl ?_; ((first | refine aH ?_ | refine aC rfl ?_)); refine aB ?_))
  refine lW rfl rfl (pK br A c xs hx) (fun _ => Nat.zero_le _) hle1 aV (fun x2 a2 b2 o2 A2 c2 h2 le2 hle2 ok2 => ?_)
  refine aB ?_
  repeat' (first | (apply aF) | (apply aA) | (apply aG) | (apply aD) | (apply bD; exact rfl; ((refine aO (i := 1) rfl cW rfl (by rfl) (by simp) (by simp [Value.oneCell']) ?_)); refine aB ?_; refine cA ?_) | (refine aE rfl rfl ?_; ((first | refine aH ?_ | refine aC rfl ?_)); refine aB ?_))
  refine fK rfl rfl (dR br A c xs hx) (fun _ => Nat.zero_le _) hle2 aV (fun x3 a3 b3 o3 h3 le3 hle3 ok3 => ?_)
  refine aB ?_
  repeat' (first | (apply aF) | (apply aA) | (apply aG) | (apply aD) | (apply bD; exact rfl; ((refine aO (i := 1) rfl cW rfl (by rfl) (by simp) (by simp [Value.oneCell']) ?_)); refine aB ?_; refine cA ?_) | (refine aE rfl rfl ?_; ((first | refine aH ?_ | refine aC rfl ?_)); refine aB ?_))
  refine fK rfl rfl (dR br A c xs hx) (fun _ => Nat.zero_le _) hle3 aV (fun x4 a4 b4 o4 h4 qO hle4 ok4 => ?_)
  refine aB ?_
  repeat' (first | (apply aF) | (apply aA) | (apply aG) | (apply aD) | (apply bD; exact rfl; ((refine aO (i := 1) rfl cW rfl (by rfl) (by simp) (by simp [Value.oneCell']) ?_)); refine aB ?_; refine cA ?_) | (refine aE rfl rfl ?_; ((first | refine aH ?_ | refine aC rfl ?_)); refine aB ?_))
  refine fK rfl rfl (dR br A c xs hx) (fun _ => Nat.zero_le _) hle4 aV (fun x5 a5 b5 o5 h5 le5 hle5 ok5 => ?_)
  refine aB ?_
  repeat' (first | (apply aF) | (apply aA) | (apply bN) | (apply aG) | (apply aD) | (apply aP; exact rfl; ((refine aM (i := 1) rfl rfl rfl ?_)); refine aB ?_) | (apply bD; exact rfl; ((first | refine aO (i := 1) rfl cW rfl (by rfl) (by simp) (by simp [Value.oneCell']) ?_ | refine aO (i := 2) rfl cW rfl (by rfl) (by simp) (by simp [Value.oneCell']) ?_)); refine aB ?_; refine cA ?_) | (refine aE rfl rfl ?_; ((refine aC rfl ?_)); refine aB ?_))
  refine bC (.inl rfl) (dM rfl (dG (i := 2) rfl rfl rfl)) (cG (.blk br (gD A c xs a5 b5 o5) 105 :: H) (Sl (.slice A1 x1.length c1) x1 :: Sl (.slice A2 x2.length c2) x2 :: R) (fun w hs => hs.weaken bU cZ) ?_)
  exact hk ((x1, x2, x3, x4, x5)) a5 b5 o5 ((A1, c1), (A2, c2), (), (), ()) ((h1).pair ((h2).pair ((h3).pair ((h4).pair (h5))))) (by omega) hle5 (show (x1.length ≤ c1 ∧ c1 ≤ dY) ∧ (x2.length ≤ c2 ∧ c2 ≤ dY) ∧ dD x3 ∧ dD x4 ∧ dD x5 from ⟨ok1, ok2, ok3, ok4, ok5⟩)
theorem yX {w0 : World} (br : Nat) (A : Option Addr) (c : Nat) (xs : List UInt8) (hx : xs.length ≤ 250000) : Rf Tryz.prog w0 104 [.pointer (some ⟨br, 0, none⟩)] br A c xs 0 (xF xs) nH := by
  intro H R K a b0 o hma hax hm hk
  refine bX Tryz.func104 rfl Tryz.ntmps104 eZ ?_
  apply aF; apply aA
  repeat' ((refine bG rfl rfl ?_; ((refine bK cW (fun b => ?_))); refine aB ?_))
  apply aG; apply aD
  revert b
  intro bz
  apply aF; apply aA
  repeat' ((refine bG rfl rfl ?_; ((refine bK cW (fun b => ?_))); refine aB ?_))
  apply aG; apply aD
  revert b
  intro bt
  refine mT ?_
  repeat' (first | (apply aF) | (apply aA) | (refine aE rfl rfl ?_; ((refine aH ?_)); refine aB ?_))
  refine fK rfl rfl (dR br A c xs hx) (fun _ => Nat.zero_le _) hax aV (fun x1 a1 b1 o1 h1 le1 hle1 ok1 => ?_)
  refine aB ?_
  repeat' (first | (apply aF) | (apply aA) | (apply aG) | (apply aD) | (apply bD; exact rfl; ((refine aO (i := 1) rfl cW rfl (by rfl) (by simp) (by simp [Value.oneCell']) ?_)); refine aB ?_; refine cA ?_) | (refine aE rfl rfl ?_; ((first | refine aH ?_ | refine aC rfl ?_)); refine aB ?_))
  refine fK rfl rfl (dR br A c xs hx) (fun _ => Nat.zero_le _) hle1 aV (fun x2 a2 b2 o2 h2 le2 hle2 ok2 => ?_)
  refine aB ?_
  repeat' (first | (apply aF) | (apply aA) | (apply aG) | (apply aD) | (apply bD; exact rfl; ((refine aO (i := 1) rfl cW rfl (by rfl) (by simp) (by simp [Value.oneCell']) ?_)); refine aB ?_; refine cA ?_) | (refine aE rfl rfl ?_; ((first | refine aH ?_ | refine aC rfl ?_)); refine aB ?_))
  refine lW rfl rfl (jZ br A c xs hx) (fun _ => Nat.zero_le _) hle2 aV (fun x3 a3 b3 o3 A3 c3 h3 le3 hle3 ok3 => ?_)
  refine aB ?_
  repeat' (first | (apply aF) | (apply aA) | (apply aG) | (apply aD) | (apply bD; exact rfl; ((refine aO (i := 1) rfl cW rfl (by rfl) (by simp) (by simp [Value.oneCell']) ?_)); refine aB ?_; refine cA ?_) | (refine aE rfl rfl ?_; ((first | refine aH ?_ | refine aC rfl ?_)); refine aB ?_))
  refine uE rfl rfl (oQ br A c xs hx) (fun _ => Nat.zero_le _) hle3 aV (fun x4 a4 b4 o4 h4 qO hle4 ok4 => ?_)
  refine aB ?_
  repeat' (first | (apply aF) | (apply aA) | (apply aG) | (apply aD) | (apply bD; exact rfl; ((refine aO (i := 1) rfl cW rfl (by rfl) (by simp) (by simp [Value.oneCell']) ?_)); refine aB ?_; refine cA ?_) | (refine aE rfl rfl ?_; ((first | refine aH ?_ | refine aC rfl ?_)); refine aB ?_))
  refine lW rfl rfl (jZ br A c xs hx) (fun _ => Nat.zero_le _) hle4 aV (fun x5 a5 b5 o5 A5 c5 h5 le5 hle5 ok5 => ?_)
  refine aB ?_
  repeat' (first | (apply aF) | (apply aA) | (apply aG) | (apply aD) | (apply bD; exact rfl; ((refine aO (i := 1) rfl cW rfl (by rfl) (by simp) (by simp [Value.oneCell']) ?_)); refine aB ?_; refine cA ?_) | (refine aE rfl rfl ?_; ((first | refine aH ?_ | refine aC rfl ?_)); refine aB ?_))
  refine uE rfl rfl (oQ br A c xs hx) (fun _ => Nat.zero_le _) hle5 aV (fun x6 a6 b6 o6 h6 le6 hle6 ok6 => ?_)
  refine aB ?_
  repeat' (first | (apply aF) | (apply aA) | (apply aG) | (apply aD) | (apply bD; exact rfl; ((refine aO (i := 1) rfl cW rfl (by rfl) (by simp) (by simp [Value.oneCell']) ?_)); refine aB ?_; refine cA ?_) | (refine aE rfl rfl ?_; ((first | refine aH ?_ | refine aC rfl ?_)); refine aB ?_))
  refine fK rfl rfl (dR br A c xs hx) (fun _ => Nat.zero_le _) hle6 aV (fun x7 a7 b7 o7 h7 le7 hle7 ok7 => ?_)
  refine aB ?_
  repeat' (first | (apply aF) | (apply aA) | (apply bN) | (apply aG) | (apply aD) | (apply aP; exact rfl; ((refine aM (i := 1) rfl rfl rfl ?_)); refine aB ?_) | (apply bD; exact rfl; ((first | refine aO (i := 1) rfl cW rfl (by rfl) (by simp) (by simp [Value.oneCell']) ?_ | refine aO (i := 2) rfl cW rfl (by rfl) (by simp) (by simp [Value.oneCell']) ?_)); refine aB ?_; refine cA ?_) | (refine aE rfl rfl ?_; ((refine aC rfl ?_)); refine aB ?_))
  refine bC (.inl rfl) (dM rfl (dG (i := 2) rfl rfl rfl)) (cG (.blk br (gD A c xs a7 b7 o7) 105 :: H) (Sl (.slice A3 x3.length c3) x3 :: Sl (.slice A5 x5.length c5) x5 :: R) (fun w hs => hs.weaken bU cZ) ?_)
  exact hk ((x1, x2, x3, x4, x5, x6, x7)) a7 b7 o7 ((), (), (A3, c3), (), (A5, c5), (), ()) ((h1).pair ((h2).pair ((h3).pair ((h4).pair ((h5).pair ((h6).pair (h7))))))) (by omega) hle7 (show dD x1 ∧ dD x2 ∧ (x3.length ≤ c3 ∧ c3 ≤ dY) ∧ True ∧ (x5.length ≤ c5 ∧ c5 ≤ dY) ∧ True ∧ dD x7 from ⟨ok1, ok2, ok3, ok4, ok5, ok6, ok7⟩)
theorem aC4 {w0 : World} (br : Nat) (A : Option Addr) (c : Nat) (xs : List UInt8) (hx : xs.length ≤ 250000) : Rf Tryz.prog w0 105 [.pointer (some ⟨br, 0, none⟩)] br A c xs 0 (xN xs) nH := by
  intro H R K a b0 o hma hax hm hk
  refine bX Tryz.func105 rfl Tryz.ntmps105 eZ ?_
  apply aF; apply aA
  repeat' ((refine bG rfl rfl ?_; ((refine bK cW (fun b => ?_))); refine aB ?_))
  apply aG; apply aD
  revert b
  intro bz
  apply aF; apply aA
  repeat' ((refine bG rfl rfl ?_; ((refine bK cW (fun b => ?_))); refine aB ?_))
  apply aG; apply aD
  revert b
  intro bt
  refine mT ?_
  repeat' (first | (apply aF) | (apply aA) | (refine aE rfl rfl ?_; ((refine aH ?_)); refine aB ?_))
  refine fK rfl rfl (dR br A c xs hx) (fun _ => Nat.zero_le _) hax aV (fun x1 a1 b1 o1 h1 le1 hle1 ok1 => ?_)
  refine aB ?_
  repeat' (first | (apply aF) | (apply aA) | (apply aG) | (apply aD) | (apply bD; exact rfl; ((refine aO (i := 1) rfl cW rfl (by rfl) (by simp) (by simp [Value.oneCell']) ?_)); refine aB ?_; refine cA ?_) | (refine aE rfl rfl ?_; ((first | refine aH ?_ | refine aC rfl ?_)); refine aB ?_))
  refine fK rfl rfl (dR br A c xs hx) (fun _ => Nat.zero_le _) hle1 aV (fun x2 a2 b2 o2 h2 le2 hle2 ok2 => ?_)
  refine aB ?_
  repeat' (first | (apply aF) | (apply aA) | (apply aG) | (apply aD) | (apply bD; exact rfl; ((refine aO (i := 1) rfl cW rfl (by rfl) (by simp) (by simp [Value.oneCell']) ?_)); refine aB ?_; refine cA ?_) | (refine aE rfl rfl ?_; ((first | refine aH ?_ | refine aC rfl ?_)); refine aB ?_))
  refine fK rfl rfl (dR br A c xs hx) (fun _ => Nat.zero_le _) hle2 aV (fun x3 a3 b3 o3 h3 le3 hle3 ok3 => ?_)
  refine aB ?_
  repeat' (first | (apply aF) | (apply aA) | (apply aG) | (apply aD) | (apply bD; exact rfl; ((refine aO (i := 1) rfl cW rfl (by rfl) (by simp) (by simp [Value.oneCell']) ?_)); refine aB ?_; refine cA ?_) | (refine aE rfl rfl ?_; ((first | refine aH ?_ | refine aC rfl ?_)); refine aB ?_))
  refine fK rfl rfl (dR br A c xs hx) (fun _ => Nat.zero_le _) hle3 aV (fun x4 a4 b4 o4 h4 qO hle4 ok4 => ?_)
  refine aB ?_
  repeat' (first | (apply aF) | (apply aA) | (apply aG) | (apply aD) | (apply bD; exact rfl; ((refine aO (i := 1) rfl cW rfl (by rfl) (by simp) (by simp [Value.oneCell']) ?_)); refine aB ?_; refine cA ?_) | (refine aE rfl rfl ?_; ((first | refine aH ?_ | refine aC rfl ?_)); refine aB ?_))
  refine lW rfl rfl (pK br A c xs hx) (fun _ => Nat.zero_le _) hle4 aV (fun x5 a5 b5 o5 A5 c5 h5 le5 hle5 ok5 => ?_)
  refine aB ?_
  repeat' (first | (apply aF) | (apply aA) | (apply aG) | (apply aD) | (apply bD; exact rfl; ((refine aO (i := 1) rfl cW rfl (by rfl) (by simp) (by simp [Value.oneCell']) ?_)); refine aB ?_; refine cA ?_) | (refine aE rfl rfl ?_; ((first | refine aH ?_ | refine aC rfl ?_)); refine aB ?_))
  refine q7 rfl rfl (vP br A c xs hx) (fun _ => Nat.zero_le _) hle5 aV (fun x6 a6 b6 o6 h6 le6 hle6 ok6 => ?_)
  refine aB ?_
  repeat' (first | (apply aF) | (apply aA) | (apply aG) | (apply aD) | (apply bD; exact rfl; ((refine aO (i := 1) rfl cW rfl (by rfl) (by simp) (by simp [Value.oneCell']) ?_)); refine aB ?_; refine cA ?_) | (refine aE rfl rfl ?_; ((first | refine aH ?_ | refine aC rfl ?_)); refine aB ?_))
  refine lW rfl rfl (pK br A c xs hx) (fun _ => Nat.zero_le _) hle6 aV (fun x7 a7 b7 o7 A7 c7 h7 le7 hle7 ok7 => ?_)
  refine aB ?_
  repeat' (first | (apply aF) | (apply aA) | (apply bN) | (apply aG) | (apply aD) | (apply aP; exact rfl; ((refine aM (i := 1) rfl rfl rfl ?_)); refine aB ?_) | (apply bD; exact rfl; ((first | refine aO (i := 1) rfl cW rfl (by rfl) (by simp) (by simp [Value.oneCell']) ?_ | refine aO (i := 2) rfl cW rfl (by rfl) (by simp) (by simp [Value.oneCell']) ?_)); refine aB ?_; refine cA ?_) | (refine aE rfl rfl ?_; ((refine aC rfl ?_)); refine aB ?_))
  refine bC (.inl rfl) (dM rfl (dG (i := 2) rfl rfl rfl)) (cG (.blk br (gD A c xs a7 b7 o7) 105 :: H) (Sl (.slice A5 x5.length c5) x5 :: Sl (.slice A7 x7.length c7) x7 :: R) (fun w hs => hs.weaken bU cZ) ?_)
  exact hk ((x1, x2, x3, x4, x5, x6, x7)) a7 b7 o7 ((), (), (), (), (A5, c5), (), (A7, c7)) ((h1).pair ((h2).pair ((h3).pair ((h4).pair ((h5).pair ((h6).pair (h7))))))) (by omega) hle7 (show dD x1 ∧ dD x2 ∧ dD x3 ∧ dD x4 ∧ (x5.length ≤ c5 ∧ c5 ≤ dY) ∧ x6.size ≤ 9223372036854775807 ∧ (x7.length ≤ c7 ∧ c7 ≤ dY) from ⟨ok1, ok2, ok3, ok4, ok5, ok6, ok7⟩)
theorem try_f {w0 : World} (br : Nat) (A : Option Addr) (c : Nat) (xs : List UInt8) (hx : xs.length ≤ 250000) : Rf Tryz.prog w0 146 [.pointer (some ⟨br, 0, none⟩)] br A c xs 0 (tyD xs) nH := by
  intro H R K a b0 o hma hax hm hk
  refine bX Tryz.func146 rfl Tryz.ntmps146 eZ ?_
  apply aF; apply aA
  repeat' ((refine bG rfl rfl ?_; ((refine bK cW (fun b => ?_))); refine aB ?_))
  apply aG; apply aD
  revert b
  intro bz
  apply aF; apply aA
  repeat' ((refine bG rfl rfl ?_; ((refine bK cW (fun b => ?_))); refine aB ?_))
  apply aG; apply aD
  revert b
  intro bt
  refine mT ?_
  repeat' (first | (apply aF) | (apply aA) | (refine aE rfl rfl ?_; ((refine aH ?_)); refine aB ?_))
  refine fK rfl rfl (dR br A c xs hx) (fun _ => Nat.zero_le _) hax aV (fun x1 a1 b1 o1 h1 le1 hle1 ok1 => ?_)
  refine aB ?_
  repeat' (first | (apply aF) | (apply aA) | (apply aG) | (apply aD) | (apply bD; exact rfl; ((refine aO (i := 1) rfl cW rfl (by rfl) (by simp) (by simp [Value.oneCell']) ?_)); refine aB ?_; refine cA ?_) | (refine aE rfl rfl ?_; ((first | refine aH ?_ | refine aC rfl ?_)); refine aB ?_))
  refine fK rfl rfl (dR br A c xs hx) (fun _ => Nat.zero_le _) hle1 aV (fun x2 a2 b2 o2 h2 le2 hle2 ok2 => ?_)
  refine aB ?_
  repeat' (first | (apply aF) | (apply aA) | (apply aG) | (apply aD) | (apply bD; exact rfl; ((refine aO (i := 1) rfl cW rfl (by rfl) (by simp) (by simp [Value.oneCell']) ?_)); refine aB ?_; refine cA ?_) | (refine aE rfl rfl ?_; ((first | refine aH ?_ | refine aC rfl ?_)); refine aB ?_))
  refine fK rfl rfl (dR br A c xs hx) (fun _ => Nat.zero_le _) hle2 aV (fun x3 a3 b3 o3 h3 le3 hle3 ok3 => ?_)
  refine aB ?_
  repeat' (first | (apply aF) | (apply aA) | (apply bN) | (apply aG) | (apply aD) | (apply aP; exact rfl; ((refine aM (i := 1) rfl rfl rfl ?_)); refine aB ?_) | (apply bD; exact rfl; ((first | refine aO (i := 1) rfl cW rfl (by rfl) (by simp) (by simp [Value.oneCell']) ?_ | refine aO (i := 2) rfl cW rfl (by rfl) (by simp) (by simp [Value.oneCell']) ?_)); refine aB ?_; refine cA ?_) | (refine aE rfl rfl ?_; ((refine aC rfl ?_)); refine aB ?_))
  refine bC (.inl rfl) (dM rfl (dG (i := 2) rfl rfl rfl)) (cG (.blk br (gD A c xs a3 b3 o3) 105 :: H) (R) (fun w hs => hs.weaken bU cZ) ?_)
  exact hk ((x1, x2, x3)) a3 b3 o3 ((), (), ()) ((h1).pair ((h2).pair (h3))) (by omega) hle3 (show dD x1 ∧ dD x2 ∧ dD x3 from ⟨ok1, ok2, ok3⟩)
end Go.Proofs.YtggdljhmbckpmaaGreat
