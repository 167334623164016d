/- The reference's reader: terms: walks, printed by gen_vf.py. -/
import Derived.Test.YtggdljhmbckpmaaGreatV3J
set_option linter.unusedVariables false
set_option linter.unusedSimpArgs false
namespace Go.Proofs.YtggdljhmbckpmaaGreat
open Go Go.RowKit
set_option maxRecDepth 100000
set_option maxHeartbeats 6400000

section
variable {F : Fence} {n : Nat} {P : Program} {w0 : World} {D : List Deferred} {ops : Array Oper} {Q : Exit → Act → World → Prop} {rest : List Oper} {E : List Value} {H : List Hp} {R : List MP}
theorem nU {co : Code} {x y z : Hp} (k : TC F n P w0 D co Q E (z :: x :: y :: H) R) : TC F n P w0 D co Q E (x :: y :: z :: H) R := eJ _ _ (fun w hs => (hs.perm (List.Perm.cons x (List.Perm.swap z y H))).perm (List.Perm.swap z x (y :: H))) k
theorem gI [Wd F] {dst : Option Tmp} {f : FuncId} {l : List Operand} {at_ : Array TypeId} {ty : TypeId} {pos : String} {aft : Array Edge} {g : Option (Nat × Bool)} {args : List Value} {br : Nat} {A : Option Addr} {c : Nat} {xs : List UInt8} {m a : Nat} {b : Bool} {o : Nat} {d : Dc Int}
    (hw : Region.wanted ⟨dst, .call ⟨.value (.func f), l.toArray, at_⟩, ty, pos, aft, g⟩ (yielded ops E.toArray) = true) (hA : l.map (ev E) = args) [FnOk P f] (h : Rf P w0 f args br A c xs m d (fun n _ => .int .i64 n)) (hma : b = false → m ≤ a) (hax : a ≤ xs.length) (hm : Sl (.slice A xs.length c) xs ∈ R)
    (hk : ∀ x a' b' o' , Out xs d ⟨a, b, o⟩ x ⟨a', b', o'⟩ → a ≤ a' → a' ≤ xs.length → dO x → T F n P w0 D ops Q rest (eE E dst (.int .i64 x)) (.blk br (iA A c xs a' b' o') 105 :: H) (R)) : T F n P w0 D ops Q (⟨dst, .call ⟨.value (.func f), l.toArray, at_⟩, ty, pos, aft, g⟩ :: rest) E (.blk br (iA A c xs a b o) 105 :: H) R :=
  yA hw hA h hma hax hm (fun x a' b' o' y ho h1 h2 hok => by
    exact hk x a' b' o'  ho h1 h2 hok)

theorem T_rfs [Wd F] {dst : Option Tmp} {f : FuncId} {l : List Operand} {at_ : Array TypeId} {ty : TypeId} {pos : String} {aft : Array Edge} {g : Option (Nat × Bool)} {args : List Value} {br : Nat} {A : Option Addr} {c : Nat} {xs : List UInt8} {m a : Nat} {b : Bool} {o : Nat} {d : Dc ByteArray}
    (hw : Region.wanted ⟨dst, .call ⟨.value (.func f), l.toArray, at_⟩, ty, pos, aft, g⟩ (yielded ops E.toArray) = true) (hA : l.map (ev E) = args) [FnOk P f] (h : Rf P w0 f args br A c xs m d (fun s _ => .string s)) (hma : b = false → m ≤ a) (hax : a ≤ xs.length) (hm : Sl (.slice A xs.length c) xs ∈ R)
    (hk : ∀ x a' b' o' , Out xs d ⟨a, b, o⟩ x ⟨a', b', o'⟩ → a ≤ a' → a' ≤ xs.length → x.size ≤ 9223372036854775807 → T F n P w0 D ops Q rest (eE E dst (.string x)) (.blk br (iA A c xs a' b' o') 105 :: H) (R)) : T F n P w0 D ops Q (⟨dst, .call ⟨.value (.func f), l.toArray, at_⟩, ty, pos, aft, g⟩ :: rest) E (.blk br (iA A c xs a b o) 105 :: H) R :=
  yA hw hA h hma hax hm (fun x a' b' o' y ho h1 h2 hok => by
    exact hk x a' b' o'  ho h1 h2 hok)

theorem wS [Wd F] {dst : Option Tmp} {f : FuncId} {l : List Operand} {at_ : Array TypeId} {ty : TypeId} {pos : String} {aft : Array Edge} {g : Option (Nat × Bool)} {args : List Value} {br : Nat} {A : Option Addr} {c : Nat} {xs : List UInt8} {m a : Nat} {b : Bool} {o : Nat} {d : Dc Bool}
    (hw : Region.wanted ⟨dst, .call ⟨.value (.func f), l.toArray, at_⟩, ty, pos, aft, g⟩ (yielded ops E.toArray) = true) (hA : l.map (ev E) = args) [FnOk P f] (h : Rf P w0 f args br A c xs m d (fun s _ => .bool s)) (hma : b = false → m ≤ a) (hax : a ≤ xs.length) (hm : Sl (.slice A xs.length c) xs ∈ R)
    (hk : ∀ x a' b' o' , Out xs d ⟨a, b, o⟩ x ⟨a', b', o'⟩ → a ≤ a' → a' ≤ xs.length → True → T F n P w0 D ops Q rest (eE E dst (.bool x)) (.blk br (iA A c xs a' b' o') 105 :: H) (R)) : T F n P w0 D ops Q (⟨dst, .call ⟨.value (.func f), l.toArray, at_⟩, ty, pos, aft, g⟩ :: rest) E (.blk br (iA A c xs a b o) 105 :: H) R :=
  yA hw hA h hma hax hm (fun x a' b' o' y ho h1 h2 hok => by
    exact hk x a' b' o'  ho h1 h2 hok)

theorem nI [Wd F] {dst : Option Tmp} {f : FuncId} {l : List Operand} {at_ : Array TypeId} {ty : TypeId} {pos : String} {aft : Array Edge} {g : Option (Nat × Bool)} {args : List Value} {br : Nat} {A : Option Addr} {c : Nat} {xs : List UInt8} {m a : Nat} {b : Bool} {o : Nat} {α : Type} [Rep α] {d : Dc (List α)}
    (hw : Region.wanted ⟨dst, .call ⟨.value (.func f), l.toArray, at_⟩, ty, pos, aft, g⟩ (yielded ops E.toArray) = true) (hA : l.map (ev E) = args) [FnOk P f] (h : Rf P w0 f args br A c xs m d yH) (hma : b = false → m ≤ a) (hax : a ≤ xs.length) (hm : Sl (.slice A xs.length c) xs ∈ R)
    (hk : ∀ (x : List α) a' b' o' A1 c1, Out xs d ⟨a, b, o⟩ x ⟨a', b', o'⟩ → a ≤ a' → a' ≤ xs.length → (x.length ≤ c1 ∧ c1 ≤ eO) → T F n P w0 D ops Q rest (eE E dst (.slice A1 x.length c1)) (.blk br (iA A c xs a' b' o') 105 :: H) (Sl (.slice A1 x.length c1) x :: R)) : T F n P w0 D ops Q (⟨dst, .call ⟨.value (.func f), l.toArray, at_⟩, ty, pos, aft, g⟩ :: rest) E (.blk br (iA A c xs a b o) 105 :: H) R :=
  yA hw hA h hma hax hm (fun x a' b' o' y ho h1 h2 hok => by
    exact hk x a' b' o' y.1 y.2 ho h1 h2 hok)

theorem T_rftm [Wd F] {dst : Option Tmp} {f : FuncId} {l : List Operand} {at_ : Array TypeId} {ty : TypeId} {pos : String} {aft : Array Edge} {g : Option (Nat × Bool)} {args : List Value} {br : Nat} {A : Option Addr} {c : Nat} {xs : List UInt8} {m a : Nat} {b : Bool} {o : Nat} {d : Dc Tm}
    (hw : Region.wanted ⟨dst, .call ⟨.value (.func f), l.toArray, at_⟩, ty, pos, aft, g⟩ (yielded ops E.toArray) = true) (hA : l.map (ev E) = args) [FnOk P f] (h : Rf P w0 f args br A c xs m d pD) (hma : b = false → m ≤ a) (hax : a ≤ xs.length) (hm : Sl (.slice A xs.length c) xs ∈ R)
    (hk : ∀ k i nm (x : List Tm) a' b' o' A1 c1, Out xs d ⟨a, b, o⟩ (.mk k i nm x) ⟨a', b', o'⟩ → a ≤ a' → a' ≤ xs.length → (dO k ∧ dO i ∧ nm.size ≤ 9223372036854775807 ∧ x.length ≤ 9223372036854775807) → T F n P w0 D ops Q rest (eE E dst (.agg #[.int .i64 k, .int .i64 i, .string nm, .slice A1 x.length c1])) (.blk br (iA A c xs a' b' o') 105 :: H) (Sl (.slice A1 x.length c1) x :: R)) : T F n P w0 D ops Q (⟨dst, .call ⟨.value (.func f), l.toArray, at_⟩, ty, pos, aft, g⟩ :: rest) E (.blk br (iA A c xs a b o) 105 :: H) R :=
  yA hw hA h hma hax hm (fun x a' b' o' y ho h1 h2 hok => by
    obtain ⟨k, i, nm, x⟩ := x
    exact hk k i nm x a' b' o' y.1 y.2 ho h1 h2 hok)

theorem T_rftp [Wd F] {dst : Option Tmp} {f : FuncId} {l : List Operand} {at_ : Array TypeId} {ty : TypeId} {pos : String} {aft : Array Edge} {g : Option (Nat × Bool)} {args : List Value} {br : Nat} {A : Option Addr} {c : Nat} {xs : List UInt8} {m a : Nat} {b : Bool} {o : Nat} {d : Dc Tp}
    (hw : Region.wanted ⟨dst, .call ⟨.value (.func f), l.toArray, at_⟩, ty, pos, aft, g⟩ (yielded ops E.toArray) = true) (hA : l.map (ev E) = args) [FnOk P f] (h : Rf P w0 f args br A c xs m d pD) (hma : b = false → m ≤ a) (hax : a ≤ xs.length) (hm : Sl (.slice A xs.length c) xs ∈ R)
    (hk : ∀ nm (x : List Tp) a' b' o' A1 c1, Out xs d ⟨a, b, o⟩ (.mk nm x) ⟨a', b', o'⟩ → a ≤ a' → a' ≤ xs.length → (nm.size ≤ 9223372036854775807 ∧ x.length ≤ 9223372036854775807) → T F n P w0 D ops Q rest (eE E dst (.agg #[.string nm, .slice A1 x.length c1])) (.blk br (iA A c xs a' b' o') 105 :: H) (Sl (.slice A1 x.length c1) x :: R)) : T F n P w0 D ops Q (⟨dst, .call ⟨.value (.func f), l.toArray, at_⟩, ty, pos, aft, g⟩ :: rest) E (.blk br (iA A c xs a b o) 105 :: H) R :=
  yA hw hA h hma hax hm (fun x a' b' o' y ho h1 h2 hok => by
    obtain ⟨nm, x⟩ := x
    exact hk nm x a' b' o' y.1 y.2 ho h1 h2 hok)

theorem T_rfva [Wd F] {dst : Option Tmp} {f : FuncId} {l : List Operand} {at_ : Array TypeId} {ty : TypeId} {pos : String} {aft : Array Edge} {g : Option (Nat × Bool)} {args : List Value} {br : Nat} {A : Option Addr} {c : Nat} {xs : List UInt8} {m a : Nat} {b : Bool} {o : Nat} {d : Dc mU}
    (hw : Region.wanted ⟨dst, .call ⟨.value (.func f), l.toArray, at_⟩, ty, pos, aft, g⟩ (yielded ops E.toArray) = true) (hA : l.map (ev E) = args) [FnOk P f] (h : Rf P w0 f args br A c xs m d pD) (hma : b = false → m ≤ a) (hax : a ≤ xs.length) (hm : Sl (.slice A xs.length c) xs ∈ R)
    (hk : ∀ lv tn (tx : List Tp) bo k i nm (x : List Tm) a' b' o' A1 c1 A2 c2, Out xs d ⟨a, b, o⟩ (lv, .mk tn tx, bo, .mk k i nm x) ⟨a', b', o'⟩ → a ≤ a' → a' ≤ xs.length → (dO lv ∧ (tn.size ≤ 9223372036854775807 ∧ tx.length ≤ 9223372036854775807) ∧ True ∧ (dO k ∧ dO i ∧ nm.size ≤ 9223372036854775807 ∧ x.length ≤ 9223372036854775807)) → T F n P w0 D ops Q rest (eE E dst (.agg #[.int .i64 lv, .string tn, .slice A1 tx.length c1, .bool bo, .int .i64 k, .int .i64 i, .string nm, .slice A2 x.length c2])) (.blk br (iA A c xs a' b' o') 105 :: H) (Sl (.slice A1 tx.length c1) tx :: Sl (.slice A2 x.length c2) x :: R)) : T F n P w0 D ops Q (⟨dst, .call ⟨.value (.func f), l.toArray, at_⟩, ty, pos, aft, g⟩ :: rest) E (.blk br (iA A c xs a b o) 105 :: H) R :=
  yA hw hA h hma hax hm (fun x a' b' o' y ho h1 h2 hok => by
    obtain ⟨lv, ⟨tn, tx⟩, bo, ⟨k, i, nm, x⟩⟩ := x
    obtain ⟨u1, ⟨A1, c1⟩, u2, ⟨A2, c2⟩⟩ := y
    exact hk lv tn tx bo k i nm x a' b' o' A1 c1 A2 c2 ho h1 h2 hok)

end
theorem wR {w0 : World} (br : Nat) (A : Option Addr) (c : Nat) (xs : List UInt8) (hx : xs.length ≤ 250000) (m : Nat) (d : Dc Tm) (hone : Rfg Tryz.prog w0 145 [.pointer (some ⟨br, 0, none⟩)] br A c xs (m + 1) d pD) : Rf Tryz.prog w0 145 [.pointer (some ⟨br, 0, none⟩)] br A c xs m (kE Tm.of (cK (fF xs) (cK (fF xs) (cK (kO xs) (dY xs d))))) pD := by
  intro H R K a b0 o hma hax hm hk
  refine bV Tryz.func145 rfl Tryz.ntmps145 fI ?_
  apply aF; apply aA
  repeat' ((refine bJ rfl rfl ?_; ((refine bL cW (fun b => ?_))); refine aB ?_))
  apply aH; apply aD
  revert b
  intro bz
  apply aF; apply aA
  repeat' ((refine bJ rfl rfl ?_; ((refine bL cW (fun b => ?_))); refine aB ?_))
  apply aH; apply aD
  revert b
  intro bt
  refine nU ?_
  repeat' (first | (apply aF) | (apply aA) | (refine aE rfl rfl ?_; ((refine aG ?_)); refine aB ?_))
  refine gI rfl rfl (eG br A c xs hx) (fun _ => Nat.zero_le _) hax aX (fun x1 a1 b1 o1 h1 le1 hle1 ok1 => ?_)
  refine aB ?_
  repeat' (first | (apply aF) | (apply aA) | (apply aH) | (apply aD) | (apply bE; exact rfl; ((refine aN (i := 1) rfl cW rfl dT dB eK ?_)); refine aB ?_; refine cE ?_) | (refine aE rfl rfl ?_; ((first | refine aG ?_ | refine aC rfl ?_)); refine aB ?_))
  refine gI rfl rfl (eG br A c xs hx) (fun _ => Nat.zero_le _) hle1 aX (fun x2 a2 b2 o2 h2 le2 hle2 ok2 => ?_)
  refine aB ?_
  repeat' (first | (apply aF) | (apply aA) | (apply aH) | (apply aD) | (apply bE; exact rfl; ((refine aN (i := 1) rfl cW rfl dT dB eK ?_)); refine aB ?_; refine cE ?_) | (refine aE rfl rfl ?_; ((first | refine aG ?_ | refine aC rfl ?_)); refine aB ?_))
  refine T_rfs rfl rfl (yK br A c xs hx) (fun _ => Nat.zero_le _) hle2 aX (fun x3 a3 b3 o3 h3 le3 hle3 ok3 => ?_)
  refine aB ?_
  repeat' (first | (apply aF) | (apply aA) | (apply aH) | (apply aD) | (apply bE; exact rfl; ((refine aN (i := 1) rfl cW rfl dT dB eK ?_)); refine aB ?_; refine cE ?_) | (refine aE rfl rfl ?_; ((first | refine aG ?_ | refine aC rfl ?_)); refine aB ?_))
  refine nI rfl rfl (xN br A c xs hx m d hone) (fun hb => by have e := hma ((h1.good ((h2.good ((h3.good hb).1)).1)).1); omega) hle3 aX (fun x4 a4 b4 o4 A4 c4 h4 lZ hle4 ok4 => ?_)
  refine aB ?_
  repeat' (first | (apply aF) | (apply aA) | (apply bP) | (apply aH) | (apply aD) | (apply aP; exact rfl; ((refine aL (i := 1) rfl rfl rfl ?_)); refine aB ?_) | (apply bE; exact rfl; ((first | refine aN (i := 1) rfl cW rfl dT dB eK ?_ | refine aN (i := 2) rfl cW rfl dT dB eK ?_)); refine aB ?_; refine cE ?_) | (refine aE rfl rfl ?_; ((refine aC rfl ?_)); refine aB ?_))
  refine aZ (.inl rfl) (dP rfl (dC (i := 2) rfl rfl rfl)) (cA (.blk br (iA A c xs a4 b4 o4) 105 :: H) (Sl (.slice A4 x4.length c4) x4 :: R) dV ?_)
  exact hk (.mk x1 x2 x3 x4) a4 b4 o4 (A4, c4) (Out.map ((h1).pair ((h2).pair ((h3).pair (h4))))) aO hle4 (show dO x1 ∧ dO x2 ∧ x3.size ≤ 9223372036854775807 ∧ x4.length ≤ 9223372036854775807 from ⟨ok1, ok2, ok3, Nat.le_trans ok4.1 ok4.2⟩)
theorem yC (xs : List UInt8) (f : Nat) : zB xs (f + 1) = kE Tm.of (cK (fF xs) (cK (fF xs) (cK (kO xs) (dY xs (zB xs f))))) := by
  funext a
  rw [zB]
theorem xJ (xs : List UInt8) (f : Nat) : t7 xs (f + 1) = kE Tp.of (cK (kO xs) (dY xs (t7 xs f))) := by
  funext a
  rw [t7]
theorem term_ff {w0 : World} (br : Nat) (A : Option Addr) (c : Nat) (xs : List UInt8) (hx : xs.length ≤ 250000) : ∀ f m : Nat, xs.length < m + f → Rfg Tryz.prog w0 145 [.pointer (some ⟨br, 0, none⟩)] br A c xs m (zB xs f) pD := by
  intro f
  induction f with
  | zero => exact fun m hm H R K a o hma hax => by omega
  | succ f ih =>
    intro m hm
    rw [yC]
    exact (wR br A c xs hx m _ (ih (m + 1) aO)).g (Nat.le_refl m)
theorem term_f {w0 : World} (br : Nat) (A : Option Addr) (c : Nat) (xs : List UInt8) (hx : xs.length ≤ 250000) : Rf Tryz.prog w0 145 [.pointer (some ⟨br, 0, none⟩)] br A c xs 0 (tmD xs) pD := by
  unfold tmD
  rw [yC]
  exact wR br A c xs hx 0 _ (term_ff br A c xs hx xs.length 1 aO)
theorem qI {w0 : World} (br : Nat) (A : Option Addr) (c : Nat) (xs : List UInt8) (hx : xs.length ≤ 250000) : Rf Tryz.prog w0 142 [.pointer (some ⟨br, 0, none⟩)] br A c xs 0 (dY xs (tmD xs)) yH := xN br A c xs hx 0 _ ((term_f br A c xs hx).g aO)
theorem zP {w0 : World} (br : Nat) (A : Option Addr) (c : Nat) (xs : List UInt8) (hx : xs.length ≤ 250000) (m : Nat) (d : Dc Tp) (hone : Rfg Tryz.prog w0 144 [.pointer (some ⟨br, 0, none⟩)] br A c xs (m + 1) d pD) : Rf Tryz.prog w0 144 [.pointer (some ⟨br, 0, none⟩)] br A c xs m (kE Tp.of (cK (kO xs) (dY xs d))) pD := by
  intro H R K a b0 o hma hax hm hk
  refine bV Tryz.func144 rfl Tryz.ntmps144 fI ?_
  apply aF; apply aA
  repeat' ((refine bJ rfl rfl ?_; ((refine bL cW (fun b => ?_))); refine aB ?_))
  apply aH; apply aD
  revert b
  intro bz
  apply aF; apply aA
  repeat' ((refine bJ rfl rfl ?_; ((refine bL cW (fun b => ?_))); refine aB ?_))
  apply aH; apply aD
  revert b
  intro bt
  refine nU ?_
  repeat' (first | (apply aF) | (apply aA) | (refine aE rfl rfl ?_; ((refine aG ?_)); refine aB ?_))
  refine T_rfs rfl rfl (yK br A c xs hx) (fun _ => Nat.zero_le _) hax aX (fun x1 a1 b1 o1 h1 le1 hle1 ok1 => ?_)
  refine aB ?_
  repeat' (first | (apply aF) | (apply aA) | (apply aH) | (apply aD) | (apply bE; exact rfl; ((refine aN (i := 1) rfl cW rfl dT dB eK ?_)); refine aB ?_; refine cE ?_) | (refine aE rfl rfl ?_; ((first | refine aG ?_ | refine aC rfl ?_)); refine aB ?_))
  refine lK rfl rfl hx hle1 aX (fun n2 a2' b2' o2' ho2 le2' hz2 hp2 hle2' => ?_)
  refine aB ?_
  repeat' ((refine aE rfl rfl ?_; ((refine aY ?_)); refine aB ?_))
  apply aH; apply aD
  have hmi2 : b2' = false → m + 1 ≤ a2' := fun hb => by
    have e1 := hp2 hb
    have e2 := hma (h1.good (ho2.good hb).1).1
    omega
  refine kL [5, 6, 12, 13, 14, 15, 16, 17, 18, 19, 20, 21, 22, 23, 24, 25, 26, 27, 28, 29, 30, 31] (fun j H' R' => ∃ (a' o' : Nat) (b' : Bool) (A' : Option Addr) (c' : Nat) (l : List Tp), H' = .blk br (iA A c xs a' b' o') 105 :: .blk bt [.string x1, (.slice A' l.length c')] 158 :: .blk bz [.string ⟨#[]⟩, .slice none 0 0] 158 :: H ∧ R' = Sl (.slice A' l.length c') l :: R ∧ Out xs (dY xs d) ⟨a1, b1, o1⟩ l ⟨a', b', o'⟩ ∧ a1  ≤ a' ∧ a' ≤ xs.length ∧ (l.length ≤ c' ∧ c' ≤ eO)) ?_ ?_
  · skip
    repeat' (first | (apply aF) | (apply aA) | (apply aV) | (apply aH) | (apply aD) | (refine aE rfl rfl ?_; ((refine aY ?_)); refine aB ?_))
    refine eJ (.blk br (iA A c xs a2' b2' o2') 105 :: .row (.slice none 0 0) 158 2 0 [] :: .blk bt [.string x1, .slice none 0 0] 158 :: .blk bz [.string ⟨#[]⟩, .slice none 0 0] 158 :: H) (Cx [] ([] : List Tp) :: (R)) (fun w hs => ((hs.nilrow 158 2).perm (List.Perm.swap _ _ _)).learn (Cx [] ([] : List Tp)) (fun s _ => gN s)) ?_
    refine cM [5, 6, 12, 13, 14, 15, 16, 17, 18, 19, 20, 21, 22, 23, 24, 25, 26, 27, 28, 29, 30, 31] (fun k j H2 R2 => ∃ (i a' o' : Nat) (b' : Bool) (A0 : Option Addr) (c0 : Nat) (cs : List Value) (l : List Tp), i + k = n2 ∧ j 5 = .int .i64 (i : Int) ∧ (∀ p ∈ (R), p ∈ R2) ∧ Cx cs l ∈ R2 ∧ H2 = .blk br (iA A c xs a' b' o') 105 :: .row (.slice A0 i c0) 158 2 i cs :: .blk bt [.string x1, .slice A0 i c0] 158 :: .blk bz [.string ⟨#[]⟩, .slice none 0 0] 158 :: H ∧ a2' ≤ a' ∧ a' ≤ xs.length ∧ l.length = i ∧ Lp d n2 a2' b2' o2' k l a' b' o') n2 eS ⟨0, a2', o2', b2', none, 0, [], [], by omega, rfl, (fun _ h => List.mem_cons_of_mem _ h), List.mem_cons_self, rfl, Nat.le_refl _, by omega, rfl, Lp.start _ _ _ _ _⟩ ?_
    rintro k j' H2 R2 ⟨i, a', o', b', A0, c0, cs, l, hik, hji, hR2, hcx, hH2, haa, ha', hli, hlp⟩
    subst hH2
    have hmx := hR2 _ (show Sl (.slice A xs.length c) xs ∈ _ from aX)
    refine dD (by simp only [eF, List.foldl_cons, List.foldl_nil, List.set_cons_succ, List.set_cons_zero, hji]; rfl) ?_
    rcases Nat.lt_or_ge i n2 with hlt | hge
    rotate_left
    · obtain rfl : k = 0 := by omega
      have hdone := Lp.done ho2 hlp (.inr rfl) haa ha'
      repeat' (first | (apply aF) | (apply aA) | (apply cG) | (apply aJ; exact rfl) | (apply aH) | (apply aD) | (apply aW) | (apply aS) | (apply aU; exact rfl; ((refine bQ rfl rfl (fun h => ?_) (fun h => ?_))) <;> (first | (exfalso; omega) | refine aB ?_)) | (refine aE rfl rfl ?_; ((first | refine aG ?_ | refine cH rfl eR ?_)); refine aB ?_) | (refine cX rfl ?_; refine aB ?_))
      subst hli
      refine eH 1 rfl rfl cQ hcx (fun A' c' hv => ?_)
      cases hv
      refine fL (fun w hs => dN hs List.mem_cons_self) (fun hb => ?_)
      exact gJ _ (Sl (.slice A0 l.length c0) l :: R) eS ⟨a', o', _, A0, c0, l, rfl, rfl, hdone, by omega, ha', hb⟩ (fun w hs => hs.weaken (List.Sublist.refl _) (bT List.mem_cons_self (fun p hp => List.mem_cons_of_mem _ (hR2 p hp))))
    cases b' with
    | true =>
      have hdone := Lp.done ho2 hlp (.inl rfl) haa ha'
      repeat' (first | (apply aF) | (apply aA) | (apply cG) | (apply aJ; exact rfl) | (apply aH) | (apply aD) | (apply aW) | (apply aS) | (apply aP; exact rfl; ((refine aL (i := 0) rfl rfl rfl ?_)); refine aB ?_) | (apply aU; exact rfl; ((refine bQ rfl rfl (fun h => ?_) (fun h => ?_))) <;> (first | (exfalso; omega) | refine aB ?_)) | (refine aE rfl rfl ?_; ((first | refine aG ?_ | refine bX rfl eR ?_ | refine bA rfl ?_ | refine aC rfl ?_ | refine dJ rfl ?_)); refine aB ?_))
      subst hli
      refine eH 1 rfl rfl cQ hcx (fun A' c' hv => ?_)
      cases hv
      refine fL (fun w hs => dN hs List.mem_cons_self) (fun hb => ?_)
      exact gJ _ (Sl (.slice A0 l.length c0) l :: R) eS ⟨a', o', _, A0, c0, l, rfl, rfl, hdone, by omega, ha', hb⟩ (fun w hs => hs.weaken (List.Sublist.refl _) (bT List.mem_cons_self (fun p hp => List.mem_cons_of_mem _ (hR2 p hp))))
    | false =>
      obtain ⟨k', rfl⟩ : ∃ k', k = k' + 1 := ⟨k - 1, by omega⟩
      have hb1 := (hlp.ok rfl).1
      have hm1 := hmi2 hb1
      repeat' (first | (apply aF) | (apply aA) | (apply aV) | (apply bF) | (apply aK; exact rfl) | (apply aH) | (apply aD) | (apply aP; exact rfl; ((refine aL (i := 0) rfl rfl rfl ?_)); refine aB ?_) | (apply aU; exact rfl; ((refine bQ rfl rfl (fun h => ?_) (fun h => ?_))) <;> (first | (exfalso; omega) | refine aB ?_)) | (refine aE rfl rfl ?_; ((first | refine aG ?_ | refine bX rfl eR ?_ | refine bA rfl ?_ | refine aC rfl ?_ | refine dJ rfl ?_)); refine aB ?_))
      refine qR rfl rfl (hone) aO ha' hmx (fun x a2' b2' o2' y hd h3' h4' hok => ?_)
      refine aB ?_
      repeat' ((refine bJ rfl rfl ?_; ((refine bL cW (fun b => ?_))); refine aB ?_))
      refine bJ rfl rfl ?_
      refine aN (i := 0) (vs := Unp.cs x y) rfl rfl rfl (UnpL.len x y) (show 0 + 2 ≤ 2 by omega) (UnpL.one x y) ?_
      rw [eI (by rw [UnpL.len]; rfl)]
      refine aB ?_
      refine cE ?_
      repeat' (first | (refine aP rfl ?_; refine aL (i := 0) rfl rfl (cU (by rw [UnpL.len]; rfl)) ?_; refine aB ?_) | (refine bJ rfl rfl ?_; refine fR (cs := Unp.cs x y) cQ rfl (by rw [UnpL.len]; rfl) (fun b9 => ?_); refine aB ?_) | (refine bJ rfl rfl ?_; refine dF 3 0 (news := Unp.cs x y) rfl rfl rfl rfl cQ (by rw [UnpL.len]; rfl) (UnpL.one x y) aO aO (fun v' => ?_); refine aB ?_; refine cE ?_; refine gY 3 rfl (fun A9 c9 hv9 => ?_); subst hv9) | (apply aA) | (apply aH) | (apply aD) | (apply bU) | (apply aP; exact rfl; ((refine aL (i := 3) rfl rfl rfl ?_)); refine aB ?_) | (apply aU; exact rfl; ((refine bM rfl rfl aO aO ?_)); refine aB ?_) | (apply bE; exact rfl; ((refine aN (i := 4) rfl cW rfl dT dB eK ?_)); refine aB ?_; refine cE ?_) | (refine aE rfl rfl ?_; ((first | refine aG ?_ | refine aY ?_ | refine aC rfl ?_)); refine aB ?_))
      exact cJ k' (.blk br (iA A c xs a2' b2' o2') 105 :: .row (.slice A9 (i + 1) c9) 158 2 (i + 1) (cs ++ Unp.cs x y) :: .blk bt [.string x1, .slice A9 (i + 1) c9] 158 :: .blk bz [.string ⟨#[]⟩, .slice none 0 0] 158 :: H) (Cx (cs ++ Unp.cs x y) (l ++ [x]) :: (R)) aO eS ⟨i + 1, a2', o2', b2', A9, c9, cs ++ Unp.cs x y, l ++ [x], by omega, rfl, (fun _ h => List.mem_cons_of_mem _ h), List.mem_cons_self, rfl, by omega, h4', by simp [hli], hlp.step hd⟩ (fun w hs => (hs.learn (Cx (cs ++ Unp.cs x y) (l ++ [x])) (fun s hR => eZ (hR (Cx cs l) (List.mem_append_right _ hcx)) (Unp.re hok (fun p hp => hR p (List.mem_append_left _ hp))))).weaken (.cons _ (.cons _ (List.Sublist.refl _))) (bT List.mem_cons_self (fun p hp => List.mem_cons_of_mem _ (List.mem_append_right _ (hR2 p hp)))))
  rintro j2 H2 R2 ⟨a2, o2, b2, A2, c2, x2, hH2, hR2, h2, le2, hle2, ok2⟩
  subst hH2 hR2
  refine dD (by simp only [eF, List.foldl_cons, List.foldl_nil, List.set_cons_succ, List.set_cons_zero]; rfl) ?_
  repeat' (first | (apply aF) | (apply aA) | (apply bP) | (apply aH) | (apply aD) | (apply aP; exact rfl; ((refine aL (i := 1) rfl rfl rfl ?_)); refine aB ?_) | (apply bE; exact rfl; ((refine aN (i := 2) rfl cW rfl dT dB eK ?_)); refine aB ?_; refine cE ?_))
  refine aZ (.inl rfl) (dP rfl (dC (i := 2) rfl rfl rfl)) (cA (.blk br (iA A c xs a2 b2 o2) 105 :: H) (Sl (.slice A2 x2.length c2) x2 :: R) dV ?_)
  exact hk (.mk x1 x2) a2 b2 o2 (A2, c2) (Out.map ((h1).pair (h2))) aO hle2 (show x1.size ≤ 9223372036854775807 ∧ x2.length ≤ 9223372036854775807 from ⟨ok1, Nat.le_trans ok2.1 ok2.2⟩)
theorem typ_ff {w0 : World} (br : Nat) (A : Option Addr) (c : Nat) (xs : List UInt8) (hx : xs.length ≤ 250000) : ∀ f m : Nat, xs.length < m + f → Rfg Tryz.prog w0 144 [.pointer (some ⟨br, 0, none⟩)] br A c xs m (t7 xs f) pD := by
  intro f
  induction f with
  | zero => exact fun m hm H R K a o hma hax => by omega
  | succ f ih =>
    intro m hm
    rw [xJ]
    exact (zP br A c xs hx m _ (ih (m + 1) aO)).g (Nat.le_refl m)
theorem typ_f {w0 : World} (br : Nat) (A : Option Addr) (c : Nat) (xs : List UInt8) (hx : xs.length ≤ 250000) : Rf Tryz.prog w0 144 [.pointer (some ⟨br, 0, none⟩)] br A c xs 0 (tpD xs) pD := by
  unfold tpD
  rw [xJ]
  exact zP br A c xs hx 0 _ (typ_ff br A c xs hx xs.length 1 aO)
end Go.Proofs.YtggdljhmbckpmaaGreat
