/- Decode: the calls of its readers, by kinds of what they read; lists of numbers: walk. The reference's writer: terms, types: walks. -/
import Derived.Test.YtggdljhmbckpmaaGreatN5
import Derived.Test.YtggdljhmbckpmaaGreatX2J
set_option linter.unusedVariables false
set_option linter.unusedSimpArgs false
namespace Go.Proofs.YtggdljhmbckpmaaGreat
open Go Go.RowKit
set_option maxRecDepth 100000
set_option maxHeartbeats 1600000

theorem Rr.up {P : Program} {w0 : World} {f : FuncId} {args : List Value} {br : Nat} {A : Option Addr} {c : Nat} {xs : List UInt8} {m m' : Nat} {α : Type} [Rep α] [Unp α] {d : Dc α} {val : α → Unp.Y α → Value} (h : Rr P w0 f args br A c xs m d val) (hm : m ≤ m') : Rr P w0 f args br A c xs m' d val :=
  fun H R K KP a ha => h H R K KP a aO
abbrev pD {α : Type} [Rep α] [Unp α] (x : α) (y : Unp.Y α) : Value := .agg (Unp.cs x y).toArray
theorem gP {α : Type} [Rep α] [Unp α] (x : α) (y : Unp.Y α) : (pD x y).cells = (Unp.cs x y).toArray := rfl
section
variable {F : Fence} {n : Nat} {P : Program} {w0 : World} {D : List Deferred} {ops : Array Oper} {Q : Exit → Act → World → Prop} {rest : List Oper} {E : List Value} {H : List Hp} {R : List MP}
theorem kF {co : Code} {x y : Hp} (k : TC F n P w0 D co Q E (y :: x :: H) R) : TC F n P w0 D co Q E (x :: y :: H) R := eJ _ _ (fun w hs => hs.perm (List.Perm.swap _ _ _)) k
/-- A number, a text, a truth: nothing else is learned. -/
theorem T_rds [Wd F] {dst : Option Tmp} {f : FuncId} {l : List Operand} {at_ : Array TypeId} {ty : TypeId} {pos : String} {aft : Array Edge} {g : Option (Nat × Bool)} {args : List Value} {br : Nat} {A : Option Addr} {c : Nat} {xs : List UInt8} {a : Nat} {d : Dc ByteArray}
    (hw : Region.wanted ⟨dst, .call ⟨.value (.func f), l.toArray, at_⟩, ty, pos, aft, g⟩ (yielded ops E.toArray) = true) (hA : l.map (ev E) = args) [FnOk P f] (h : Rr P w0 f args br A c xs 0 d (fun s _ => .string s)) (hax : a ≤ xs.length) (hm : Sl (.slice A xs.length c) xs ∈ R)
    (hk : ∀ x a', d a = .ok (x, a') → a ≤ a' → a' ≤ xs.length → x.size ≤ 9223372036854775807 → T F n P w0 D ops Q rest (eE E dst (.string x)) (.blk br [.slice A xs.length c, .int .i64 (a' : Int)] 100 :: H) R)
    (hp : ∀ e : Nat, d a = .error e → En w0 D Q (.panic (rf e)) E H R) : T F n P w0 D ops Q (⟨dst, .call ⟨.value (.func f), l.toArray, at_⟩, ty, pos, aft, g⟩ :: rest) E (.blk br [.slice A xs.length c, .int .i64 (a : Int)] 100 :: H) R :=
  uN hw hA h (Nat.zero_le _) hax hm (fun x a' y hd h1 h2 hok => hk x a' hd h1 h2 hok) hp
theorem wV [Wd F] {dst : Option Tmp} {f : FuncId} {l : List Operand} {at_ : Array TypeId} {ty : TypeId} {pos : String} {aft : Array Edge} {g : Option (Nat × Bool)} {args : List Value} {br : Nat} {A : Option Addr} {c : Nat} {xs : List UInt8} {a : Nat} {d : Dc Bool}
    (hw : Region.wanted ⟨dst, .call ⟨.value (.func f), l.toArray, at_⟩, ty, pos, aft, g⟩ (yielded ops E.toArray) = true) (hA : l.map (ev E) = args) [FnOk P f] (h : Rr P w0 f args br A c xs 0 d (fun s _ => .bool s)) (hax : a ≤ xs.length) (hm : Sl (.slice A xs.length c) xs ∈ R)
    (hk : ∀ x a', d a = .ok (x, a') → a ≤ a' → a' ≤ xs.length → T F n P w0 D ops Q rest (eE E dst (.bool x)) (.blk br [.slice A xs.length c, .int .i64 (a' : Int)] 100 :: H) R)
    (hp : ∀ e : Nat, d a = .error e → En w0 D Q (.panic (rf e)) E H R) : T F n P w0 D ops Q (⟨dst, .call ⟨.value (.func f), l.toArray, at_⟩, ty, pos, aft, g⟩ :: rest) E (.blk br [.slice A xs.length c, .int .i64 (a : Int)] 100 :: H) R :=
  uN hw hA h (Nat.zero_le _) hax hm (fun x a' y hd h1 h2 hok => hk x a' hd h1 h2) hp
/-- A list. -/
theorem jT [Wd F] {dst : Option Tmp} {f : FuncId} {l : List Operand} {at_ : Array TypeId} {ty : TypeId} {pos : String} {aft : Array Edge} {g : Option (Nat × Bool)} {args : List Value} {br : Nat} {A : Option Addr} {c : Nat} {xs : List UInt8} {m a : Nat} {α : Type} [Rep α] {d : Dc (List α)}
    (hw : Region.wanted ⟨dst, .call ⟨.value (.func f), l.toArray, at_⟩, ty, pos, aft, g⟩ (yielded ops E.toArray) = true) (hA : l.map (ev E) = args) [FnOk P f] (h : Rr P w0 f args br A c xs m d yH) (hma : m ≤ a) (hax : a ≤ xs.length) (hm : Sl (.slice A xs.length c) xs ∈ R)
    (hk : ∀ (x : List α) a' A1 c1, d a = .ok (x, a') → a ≤ a' → a' ≤ xs.length → (x.length ≤ c1 ∧ c1 ≤ eO) → T F n P w0 D ops Q rest (eE E dst (.slice A1 x.length c1)) (.blk br [.slice A xs.length c, .int .i64 (a' : Int)] 100 :: H) (Sl (.slice A1 x.length c1) x :: R))
    (hp : ∀ e : Nat, d a = .error e → En w0 D Q (.panic (rf e)) E H R) : T F n P w0 D ops Q (⟨dst, .call ⟨.value (.func f), l.toArray, at_⟩, ty, pos, aft, g⟩ :: rest) E (.blk br [.slice A xs.length c, .int .i64 (a : Int)] 100 :: H) R :=
  uN hw hA h hma hax hm (fun x a' y hd h1 h2 hok => hk x a' y.1 y.2 hd h1 h2 hok) hp
/-- A term, a type. -/
theorem T_rdtm [Wd F] {dst : Option Tmp} {f : FuncId} {l : List Operand} {at_ : Array TypeId} {ty : TypeId} {pos : String} {aft : Array Edge} {g : Option (Nat × Bool)} {args : List Value} {br : Nat} {A : Option Addr} {c : Nat} {xs : List UInt8} {m a : Nat} {d : Dc Tm}
    (hw : Region.wanted ⟨dst, .call ⟨.value (.func f), l.toArray, at_⟩, ty, pos, aft, g⟩ (yielded ops E.toArray) = true) (hA : l.map (ev E) = args) [FnOk P f] (h : Rr P w0 f args br A c xs m d pD) (hma : m ≤ a) (hax : a ≤ xs.length) (hm : Sl (.slice A xs.length c) xs ∈ R)
    (hk : ∀ k i nm (x : List Tm) a' A1 c1, d a = .ok (.mk k i nm x, a') → a ≤ a' → a' ≤ xs.length → (dO k ∧ dO i ∧ nm.size ≤ 9223372036854775807 ∧ x.length ≤ 9223372036854775807) → T F n P w0 D ops Q rest (eE E dst (.agg #[.int .i64 k, .int .i64 i, .string nm, .slice A1 x.length c1])) (.blk br [.slice A xs.length c, .int .i64 (a' : Int)] 100 :: H) (Sl (.slice A1 x.length c1) x :: R))
    (hp : ∀ e : Nat, d a = .error e → En w0 D Q (.panic (rf e)) E H R) : T F n P w0 D ops Q (⟨dst, .call ⟨.value (.func f), l.toArray, at_⟩, ty, pos, aft, g⟩ :: rest) E (.blk br [.slice A xs.length c, .int .i64 (a : Int)] 100 :: H) R :=
  uN hw hA h hma hax hm (fun x a' y hd h1 h2 hok => by
    obtain ⟨k, i, nm, x⟩ := x
    exact hk k i nm x a' y.1 y.2 hd h1 h2 hok) hp
theorem T_rdtp [Wd F] {dst : Option Tmp} {f : FuncId} {l : List Operand} {at_ : Array TypeId} {ty : TypeId} {pos : String} {aft : Array Edge} {g : Option (Nat × Bool)} {args : List Value} {br : Nat} {A : Option Addr} {c : Nat} {xs : List UInt8} {m a : Nat} {d : Dc Tp}
    (hw : Region.wanted ⟨dst, .call ⟨.value (.func f), l.toArray, at_⟩, ty, pos, aft, g⟩ (yielded ops E.toArray) = true) (hA : l.map (ev E) = args) [FnOk P f] (h : Rr P w0 f args br A c xs m d pD) (hma : m ≤ a) (hax : a ≤ xs.length) (hm : Sl (.slice A xs.length c) xs ∈ R)
    (hk : ∀ nm (x : List Tp) a' A1 c1, d a = .ok (.mk nm x, a') → a ≤ a' → a' ≤ xs.length → (nm.size ≤ 9223372036854775807 ∧ x.length ≤ 9223372036854775807) → T F n P w0 D ops Q rest (eE E dst (.agg #[.string nm, .slice A1 x.length c1])) (.blk br [.slice A xs.length c, .int .i64 (a' : Int)] 100 :: H) (Sl (.slice A1 x.length c1) x :: R))
    (hp : ∀ e : Nat, d a = .error e → En w0 D Q (.panic (rf e)) E H R) : T F n P w0 D ops Q (⟨dst, .call ⟨.value (.func f), l.toArray, at_⟩, ty, pos, aft, g⟩ :: rest) E (.blk br [.slice A xs.length c, .int .i64 (a : Int)] 100 :: H) R :=
  uN hw hA h hma hax hm (fun x a' y hd h1 h2 hok => by
    obtain ⟨nm, x⟩ := x
    exact hk nm x a' y.1 y.2 hd h1 h2 hok) hp
/-- What is known of a variable. -/
theorem T_rdva [Wd F] {dst : Option Tmp} {f : FuncId} {l : List Operand} {at_ : Array TypeId} {ty : TypeId} {pos : String} {aft : Array Edge} {g : Option (Nat × Bool)} {args : List Value} {br : Nat} {A : Option Addr} {c : Nat} {xs : List UInt8} {m a : Nat} {d : Dc mU}
    (hw : Region.wanted ⟨dst, .call ⟨.value (.func f), l.toArray, at_⟩, ty, pos, aft, g⟩ (yielded ops E.toArray) = true) (hA : l.map (ev E) = args) [FnOk P f] (h : Rr P w0 f args br A c xs m d pD) (hma : m ≤ a) (hax : a ≤ xs.length) (hm : Sl (.slice A xs.length c) xs ∈ R)
    (hk : ∀ lv tn (tx : List Tp) bo k i nm (x : List Tm) a' A1 c1 A2 c2, d a = .ok ((lv, .mk tn tx, bo, .mk k i nm x), a') → a ≤ a' → a' ≤ xs.length → (dO lv ∧ (tn.size ≤ 9223372036854775807 ∧ tx.length ≤ 9223372036854775807) ∧ True ∧ (dO k ∧ dO i ∧ nm.size ≤ 9223372036854775807 ∧ x.length ≤ 9223372036854775807)) → T F n P w0 D ops Q rest (eE E dst (.agg #[.int .i64 lv, .string tn, .slice A1 tx.length c1, .bool bo, .int .i64 k, .int .i64 i, .string nm, .slice A2 x.length c2])) (.blk br [.slice A xs.length c, .int .i64 (a' : Int)] 100 :: H) (Sl (.slice A1 tx.length c1) tx :: Sl (.slice A2 x.length c2) x :: R))
    (hp : ∀ e : Nat, d a = .error e → En w0 D Q (.panic (rf e)) E H R) : T F n P w0 D ops Q (⟨dst, .call ⟨.value (.func f), l.toArray, at_⟩, ty, pos, aft, g⟩ :: rest) E (.blk br [.slice A xs.length c, .int .i64 (a : Int)] 100 :: H) R :=
  uN hw hA h hma hax hm (fun x a' y hd h1 h2 hok => by
    obtain ⟨lv, ⟨tn, tx⟩, bo, ⟨k, i, nm, x⟩⟩ := x
    obtain ⟨u1, ⟨A1, c1⟩, u2, ⟨A2, c2⟩⟩ := y
    exact hk lv tn tx bo k i nm x a' A1 c1 A2 c2 hd h1 h2 hok) hp
end
theorem rP {w0 : World} (br : Nat) (A : Option Addr) (c : Nat) (xs : List UInt8) (hx : xs.length ≤ 250000) : Rr Tryz.prog w0 89 [.pointer (some ⟨br, 0, none⟩)] br A c xs 0 (dY xs (fF xs)) yH := by
  intro H R K KP a hma hax hm hk hp
  refine dE Tryz.func89 rfl Tryz.ntmps89 fI ?_
  repeat' first
    | (apply aF)
    | (apply aA)
    | (apply aV)
    | (apply bP)
    | (apply bF)
    | (apply cG)
    | (apply aK; exact rfl)
    | (apply aJ; exact rfl)
    | (apply aH)
    | (apply aD)
    | (apply bN)
    | (apply aW)
    | (apply aM)
    | (apply bU)
    | (apply dQ)
    | (apply cI)
    | (apply aS)
    | (apply fB; exact rfl)
    | (apply aP; exact rfl; (first | refine aL (i := 0) rfl rfl rfl ?_ | refine aL (i := 1) rfl rfl rfl ?_ | refine aL (i := 2) rfl rfl rfl ?_ | refine aL (i := 3) rfl rfl rfl ?_ | refine aL (i := 4) rfl rfl rfl ?_ | refine aL (i := 5) rfl rfl rfl ?_ | refine aQ rfl cL rfl ?_ | refine bD rfl cL rfl ?_ | refine aQ rfl aX rfl ?_ | refine bD rfl aX rfl ?_); refine aB ?_)
    | (apply aU; exact rfl; (first | refine bM rfl rfl aO aO ?_ | refine eY rfl rfl aO aO ?_ | refine gR rfl rfl aO aO ?_ | refine kT rfl rfl aO aO aO ?_ | refine lA rfl rfl aO aO ?_); refine aB ?_)
    | (apply aU; exact rfl; (first | refine bQ rfl rfl (fun h => ?_) (fun h => ?_) | refine lY rfl rfl (fun h => ?_) (fun h => ?_) | refine fD rfl rfl (fun h => ?_) (fun h => ?_) | refine jS rfl rfl (fun h => ?_) (fun h => ?_) | refine fZ rfl rfl (fun h => ?_) (fun h => ?_) | refine eD rfl rfl (fun h => ?_) (fun h => ?_)) <;> first | (exfalso; omega) | refine aB ?_)
    | (refine aE rfl rfl ?_; (first | refine aG ?_ | refine aY ?_ | refine bX rfl eR ?_ | refine cH rfl eR ?_ | refine bA rfl ?_ | refine aC rfl ?_ | refine bS rfl ?_ | refine kI rfl ?_ | refine cD rfl rfl ?_ | refine dJ rfl ?_ | refine cR iE iE ?_ | refine dI gG ?_ | refine fC rfl ?_); refine aB ?_)
    | (refine cX rfl ?_; refine aB ?_)
    | (refine bJ rfl rfl ?_; (first | refine dX cW (fun b => ?_) | refine bL cW (fun b => ?_) | refine bK cQ fP rfl (fun b => ?_)); refine aB ?_)
  refine jT rfl rfl (get111_r rfl br A c xs hx 133 [.pointer (some ⟨br, 0, none⟩)] 0 (fF xs) (fun n _ => .int .i64 n) (fun _ _ => rfl) ((tR br A c xs hx).up aO)) hma hax hm (fun l a' A1 c1 hd h1 h2 hok => ?_) (fun e he => ?_)
  rotate_left
  · skip
    repeat' first
      | (apply aF)
      | (apply aA)
      | (apply aV)
      | (apply bP)
      | (apply bF)
      | (apply cG)
      | (apply aK; exact rfl)
      | (apply aJ; exact rfl)
      | (apply aH)
      | (apply aD)
      | (apply bN)
      | (apply aW)
      | (apply aM)
      | (apply bU)
      | (apply dQ)
      | (apply cI)
      | (apply aS)
      | (apply fB; exact rfl)
      | (apply aP; exact rfl; (first | refine aL (i := 0) rfl rfl rfl ?_ | refine aL (i := 1) rfl rfl rfl ?_ | refine aL (i := 2) rfl rfl rfl ?_ | refine aL (i := 3) rfl rfl rfl ?_ | refine aL (i := 4) rfl rfl rfl ?_ | refine aL (i := 5) rfl rfl rfl ?_ | refine aQ rfl cL rfl ?_ | refine bD rfl cL rfl ?_ | refine aQ rfl aX rfl ?_ | refine bD rfl aX rfl ?_); refine aB ?_)
      | (apply aU; exact rfl; (first | refine bM rfl rfl aO aO ?_ | refine eY rfl rfl aO aO ?_ | refine gR rfl rfl aO aO ?_ | refine kT rfl rfl aO aO aO ?_ | refine lA rfl rfl aO aO ?_); refine aB ?_)
      | (apply aU; exact rfl; (first | refine bQ rfl rfl (fun h => ?_) (fun h => ?_) | refine lY rfl rfl (fun h => ?_) (fun h => ?_) | refine fD rfl rfl (fun h => ?_) (fun h => ?_) | refine jS rfl rfl (fun h => ?_) (fun h => ?_) | refine fZ rfl rfl (fun h => ?_) (fun h => ?_) | refine eD rfl rfl (fun h => ?_) (fun h => ?_)) <;> first | (exfalso; omega) | refine aB ?_)
      | (refine aE rfl rfl ?_; (first | refine aG ?_ | refine aY ?_ | refine bX rfl eR ?_ | refine cH rfl eR ?_ | refine bA rfl ?_ | refine aC rfl ?_ | refine bS rfl ?_ | refine kI rfl ?_ | refine cD rfl rfl ?_ | refine dJ rfl ?_ | refine cR iE iE ?_ | refine dI gG ?_ | refine fC rfl ?_); refine aB ?_)
      | (refine cX rfl ?_; refine aB ?_)
      | (refine bJ rfl rfl ?_; (first | refine dX cW (fun b => ?_) | refine bL cW (fun b => ?_) | refine bK cQ fP rfl (fun b => ?_)); refine aB ?_)
    exact aR (cN H R (fun w hs => hs) (hp e he))
  refine aB ?_
  repeat' first
    | (apply aF)
    | (apply aA)
    | (apply aV)
    | (apply bP)
    | (apply bF)
    | (apply cG)
    | (apply aK; exact rfl)
    | (apply aJ; exact rfl)
    | (apply aH)
    | (apply aD)
    | (apply bN)
    | (apply aW)
    | (apply aM)
    | (apply bU)
    | (apply dQ)
    | (apply cI)
    | (apply aS)
    | (apply fB; exact rfl)
    | (apply aP; exact rfl; (first | refine aL (i := 0) rfl rfl rfl ?_ | refine aL (i := 1) rfl rfl rfl ?_ | refine aL (i := 2) rfl rfl rfl ?_ | refine aL (i := 3) rfl rfl rfl ?_ | refine aL (i := 4) rfl rfl rfl ?_ | refine aL (i := 5) rfl rfl rfl ?_ | refine aQ rfl cL rfl ?_ | refine bD rfl cL rfl ?_ | refine aQ rfl aX rfl ?_ | refine bD rfl aX rfl ?_); refine aB ?_)
    | (apply aU; exact rfl; (first | refine bM rfl rfl aO aO ?_ | refine eY rfl rfl aO aO ?_ | refine gR rfl rfl aO aO ?_ | refine kT rfl rfl aO aO aO ?_ | refine lA rfl rfl aO aO ?_); refine aB ?_)
    | (apply aU; exact rfl; (first | refine bQ rfl rfl (fun h => ?_) (fun h => ?_) | refine lY rfl rfl (fun h => ?_) (fun h => ?_) | refine fD rfl rfl (fun h => ?_) (fun h => ?_) | refine jS rfl rfl (fun h => ?_) (fun h => ?_) | refine fZ rfl rfl (fun h => ?_) (fun h => ?_) | refine eD rfl rfl (fun h => ?_) (fun h => ?_)) <;> first | (exfalso; omega) | refine aB ?_)
    | (refine aE rfl rfl ?_; (first | refine aG ?_ | refine aY ?_ | refine bX rfl eR ?_ | refine cH rfl eR ?_ | refine bA rfl ?_ | refine aC rfl ?_ | refine bS rfl ?_ | refine kI rfl ?_ | refine cD rfl rfl ?_ | refine dJ rfl ?_ | refine cR iE iE ?_ | refine dI gG ?_ | refine fC rfl ?_); refine aB ?_)
    | (refine cX rfl ?_; refine aB ?_)
    | (refine bJ rfl rfl ?_; (first | refine dX cW (fun b => ?_) | refine bL cW (fun b => ?_) | refine bK cQ fP rfl (fun b => ?_)); refine aB ?_)
  exact aZ (.inl rfl) (dP rfl (bR rfl)) (fG _ (Sl (.slice A1 l.length c1) l :: R) (fun w hs => hs) (hk l a' (A1, c1) hd h1 h2 hok))
end Go.Proofs.YtggdljhmbckpmaaGreat
namespace Go.Proofs.YtggdljhmbckpmaaGreat
open Go Go.RowKit
set_option maxRecDepth 100000
set_option maxHeartbeats 3200000

theorem kW {w0 : World} {H : List Hp} {R : List MP} {K : Value → List Hp → List MP → Prop} (bw : Nat) (bs : List UInt8) (v : Value) (hf : 250000 < bs.length) (hb : bs.length ≤ 1000000000)
    (k : K (.bool true) (.row v 5 1 bs.length (bC bs) :: .blk bw [v] 90 :: H) R) : CallsK Tryz.prog w0 35 #[.pointer (some ⟨bw, 0, none⟩)] (.row v 5 1 bs.length (bC bs) :: .blk bw [v] 90 :: H) R K :=
  f8 bw bs v hb (by rw [decide_eq_true hf]; exact k)
theorem kV {w0 : World} {H : List Hp} {R : List MP} {K : Value → List Hp → List MP → Prop} (bw : Nat) (bs : List UInt8) (v : Value) (hf : bs.length ≤ 250000)
    (k : K (.bool false) (.row v 5 1 bs.length (bC bs) :: .blk bw [v] 90 :: H) R) : CallsK Tryz.prog w0 35 #[.pointer (some ⟨bw, 0, none⟩)] (.row v 5 1 bs.length (bC bs) :: .blk bw [v] 90 :: H) R K :=
  f8 bw bs v aO (by rw [decide_eq_false aO]; exact k)
theorem jM {α : Type} {enc : α → List UInt8} (l : List α) (i : Nat) (h : i < l.length) : (l.take (i + 1)).flatMap enc = (l.take i).flatMap enc ++ enc l[i] := by
  rw [List.take_succ_eq_append_getElem h, List.flatMap_append, List.flatMap_cons, List.flatMap_nil, List.append_nil]
theorem eV {α : Type} {enc : α → List UInt8} (l : List α) (i : Nat) : ((l.take i).flatMap enc).length ≤ (l.flatMap enc).length := by
  conv => rhs; rw [← List.take_append_drop i l, List.flatMap_append, List.length_append]
  omega
theorem gD {α : Type} {enc : α → List UInt8} (l : List α) (i : Nat) : (l.take i).flatMap enc ++ (l.drop i).flatMap enc = l.flatMap enc := by
  rw [← List.flatMap_append, List.take_append_drop]
theorem wZ {w0 : World} (bw : Nat) (A : Option Addr) (c : Nat) (l : List Tm) (hx : l.length ≤ 9223372036854775807) (hone : ∀ x ∈ l, ∀ y, Unp.ok x y → Wf Tryz.prog w0 (Unp.fs x y) 132 [.pointer (some ⟨bw, 0, none⟩), .agg (Unp.cs x y).toArray] bw (Tm.enc x)) : Wf Tryz.prog w0 [Sl (.slice A l.length c) l] 129 [.pointer (some ⟨bw, 0, none⟩), .slice A l.length c] bw (dA l.length ++ l.flatMap Tm.enc) := by
  intro H R K bs v hsub hb hk
  have hm : Sl (.slice A l.length c) l ∈ R := hsub _ dB
  rw [List.length_append] at hb
  refine bV Tryz.func129 rfl Tryz.ntmps129 fI ?_
  repeat' (first | (apply aF) | (apply aA) | (refine aE rfl rfl ?_; ((first | refine aG ?_ | refine bS rfl ?_)); refine aB ?_))
  refine fJ rfl rfl (dH bw l.length (by simp only [dO]; omega)) (fun _ h => (by cases h)) rfl rfl aO (fun bs1 v1 h1 => ?_)
  refine aB ?_
  have h1l := h1.2.1
  repeat' (first | (apply aF) | (apply aA) | (apply aV) | (apply aH) | (apply aD) | (refine aE rfl rfl ?_; ((refine aY ?_)); refine aB ?_))
  refine cM [4, 9, 10, 11, 12, 13, 14, 15, 16, 17, 18, 19, 20, 21, 22, 23, 24, 25] (fun m j H2 R2 => ∃ (i : Nat) (bs' : List UInt8) (v' : Value), i + m = l.length ∧ j 4 = .int .i64 (i : Int) ∧ (∀ p ∈ R, p ∈ R2) ∧ H2 = .row v' 5 1 bs'.length (bC bs') :: .blk bw [v'] 90 :: H ∧ Wt bs1 ((l.take i).flatMap Tm.enc) bs') l.length eS ⟨0, bs1, v1, by omega, rfl, fun _ h => h, rfl, Wt.nil bs1⟩ ?_
  rintro m j' H2 R2 ⟨i, bs', v', him, hc, hR2, hH2, hW⟩
  subst hH2
  have hm2 := hR2 _ hm
  refine dD (by simp only [eF, List.foldl_cons, List.foldl_nil, List.set_cons_succ, List.set_cons_zero, hc]; rfl) ?_
  have hWl := hW.2.1
  have htl := eV (enc := Tm.enc) l i
  rcases Nat.lt_or_ge i l.length with hlt | hge
  · rcases Nat.lt_or_ge 250000 bs'.length with hf | hf
    · have hW := (hW.over (o2 := (l.drop i).flatMap Tm.enc) hf).eq (gD l i)
      repeat' (first | (refine dK rfl ?_; refine aT fA ?_; refine kW bw bs' v' hf aO ?_; refine aB ?_) | (apply aF) | (apply aA) | (apply cG) | (apply aJ; exact rfl) | (apply aH) | (apply aD) | (apply aW) | (apply aS) | (apply aU; exact rfl; ((refine bQ rfl rfl (fun h => ?_) (fun h => ?_))) <;> (first | (exfalso; omega) | refine aB ?_)) | (refine aE rfl rfl ?_; ((first | refine aG ?_ | refine bX rfl eR ?_ | refine bS rfl ?_ | refine dJ rfl ?_)); refine aB ?_))
      exact aZ (.inr rfl) (gQ rfl) (cA (.row v' 5 1 bs'.length (bC bs') :: .blk bw [v'] 90 :: H) R (fun w hs => hs.weaken eB hR2) (hk bs' v' (h1.trans hW)))
    · have ht := jM (enc := Tm.enc) l i hlt
      have hle := eV (enc := Tm.enc) l (i + 1)
      rw [ht, List.length_append] at hle
      repeat' (first | (refine dK rfl ?_; refine aT fA ?_; refine kV bw bs' v' hf ?_; refine aB ?_) | (apply gZ; exact rfl; refine dZ rfl rfl hm2 rfl (d := l[i]) (by simp only [Int.toNat_natCast]; exact List.getElem?_eq_getElem aO) aO (fun b_ o y hy => ?_); refine aB ?_) | (refine aP rfl ?_; refine bD rfl List.mem_cons_self (cU (UnpL.len _ _)) ?_; refine aB ?_) | (apply aF) | (apply aA) | (apply aV) | (apply bF) | (apply aK; exact rfl) | (apply aH) | (apply aD) | (apply aU; exact rfl; ((refine bQ rfl rfl (fun h => ?_) (fun h => ?_))) <;> (first | (exfalso; omega) | refine aB ?_)) | (refine aE rfl rfl ?_; ((first | refine aG ?_ | refine bX rfl eR ?_ | refine bS rfl ?_ | refine dJ rfl ?_)); refine aB ?_))
      refine fJ rfl rfl (hone l[i] (List.getElem_mem _) y hy) (fun p hp => List.mem_cons_of_mem _ (List.mem_append_left _ hp)) rfl rfl aO (fun bs2 v2 h2 => ?_)
      refine aB ?_
      repeat' (first | (apply aA) | (apply aH) | (apply aD) | (apply bU) | (apply aU; exact rfl; ((refine bM rfl rfl aO aO ?_)); refine aB ?_) | (refine aE rfl rfl ?_; ((first | refine aG ?_ | refine aY ?_)); refine aB ?_))
      exact cJ (m - 1) (.row v2 5 1 bs2.length (bC bs2) :: .blk bw [v2] 90 :: H) R aO eS ⟨i + 1, bs2, v2, by omega, rfl, fun _ h => h, rfl, by rw [ht]; exact hW.trans h2⟩ (fun w hs => hs.weaken eB (fun p hp => List.mem_cons_of_mem _ (List.mem_append_right _ (hR2 p hp))))
  · rw [List.take_of_length_le hge] at hW
    repeat' (first | (apply aF) | (apply aA) | (apply cG) | (apply aJ; exact rfl) | (apply aH) | (apply aD) | (apply aW) | (apply aS) | (apply aU; exact rfl; ((refine bQ rfl rfl (fun h => ?_) (fun h => ?_))) <;> (first | (exfalso; omega) | refine aB ?_)) | (refine aE rfl rfl ?_; ((first | refine aG ?_ | refine cH rfl eR ?_ | refine bS rfl ?_)); refine aB ?_) | (refine cX rfl ?_; refine aB ?_))
    exact aZ (.inr rfl) (gQ rfl) (cA (.row v' 5 1 bs'.length (bC bs') :: .blk bw [v'] 90 :: H) R (fun w hs => hs.weaken eB hR2) (hk bs' v' (h1.trans hW)))
theorem rterm_wn {w0 : World} (bw : Nat) : ∀ n : Nat, ∀ (x0 : Int) (hx0 : dO x0) (x1 : Int) (hx1 : dO x1) (x2 : ByteArray) (hx2 : x2.size ≤ 9223372036854775807) (Ax3 : Option Addr) (cx3 : Nat) (x3 : List Tm) (hx3 : x3.length ≤ 9223372036854775807), SizeOf.sizeOf (Tm.mk x0 x1 x2 x3) < n → Wf Tryz.prog w0 [Sl (.slice Ax3 x3.length cx3) x3] 132 [.pointer (some ⟨bw, 0, none⟩), .agg #[.int .i64 x0, .int .i64 x1, .string x2, .slice Ax3 x3.length cx3]] bw (dA x0 ++ (dA x1 ++ (iU x2 ++ ((dA x3.length ++ x3.flatMap Tm.enc))))) := by
  intro n
  induction n with
  | zero => exact fun x0 hx0 x1 hx1 x2 hx2 Ax3 cx3 x3 hx3 h => absurd h (Nat.not_lt_zero _)
  | succ n ih =>
  intro x0 hx0 x1 hx1 x2 hx2 Ax3 cx3 x3 hx3 hsz
  have ih' : ∀ x ∈ x3, ∀ y : Unp.Y Tm, Unp.ok x y → Wf Tryz.prog w0 (Unp.fs x y) 132 [.pointer (some ⟨bw, 0, none⟩), .agg (Unp.cs x y).toArray] bw (Tm.enc x) := by
    intro x hx y hy
    have hlt := List.sizeOf_lt_of_mem hx
    obtain ⟨k', i', nm', l'⟩ := x
    exact rA (ih k' hy.1 i' hy.2.1 nm' hy.2.2.1 y.1 y.2 l' hy.2.2.2 (by simp only [Tm.mk.sizeOf_spec] at hsz hlt ⊢; omega)) (Tm.enc_eq _ _ _ _).symm rfl
  have rt : ∀ (bw' : Nat) (A : Option Addr) (c : Nat) (l : List Tm) (hl : l.length ≤ 9223372036854775807), bw' = bw → l = x3 → Wf Tryz.prog w0 [Sl (.slice A l.length c) l] 129 [.pointer (some ⟨bw', 0, none⟩), .slice A l.length c] bw' (dA l.length ++ l.flatMap Tm.enc) := by
    intro bw' A c l hl e1 e2
    subst e1 e2
    exact wZ bw' A c l hl ih'
  intro H R K bs v hsub hb hk
  have hb0 := hb
  clear hb
  have hS0 : Sl (.slice Ax3 x3.length cx3) x3 ∈ R := hsub _ dB
  clear hsub
  refine bV Tryz.func132 rfl Tryz.ntmps132 fI ?_
  apply aF; apply aA
  repeat' ((refine bJ rfl rfl ?_; ((refine dX cW (fun b => ?_))); refine aB ?_))
  revert b
  intro bx
  apply aH; apply aD
  refine fO 0 rfl ?_
  refine jB tH ?_
  repeat' (first | (apply aF) | (apply aA) | (apply aP; exact rfl; ((refine aQ rfl cL rfl ?_)); refine aB ?_) | (refine aE rfl rfl ?_; ((first | refine aG ?_ | refine aC rfl ?_)); refine aB ?_))
  refine fJ rfl rfl (dH bw x0 hx0) (fun _ h => (by cases h)) rfl rfl (dM hb0) (fun bs1 v1 h1 => ?_)
  refine aB ?_
  have hb1 := dL h1 hb0
  repeat' (first | (apply aF) | (apply aA) | (apply aH) | (apply aD) | (apply aP; exact rfl; ((refine aQ rfl cL rfl ?_)); refine aB ?_) | (refine aE rfl rfl ?_; ((first | refine aG ?_ | refine aC rfl ?_)); refine aB ?_))
  refine fJ rfl rfl (dH bw x1 hx1) (fun _ h => (by cases h)) rfl rfl (dM hb1) (fun bs2 v2 h2 => ?_)
  refine aB ?_
  have hb2 := dL h2 hb1
  repeat' (first | (apply aF) | (apply aA) | (apply aH) | (apply aD) | (apply aP; exact rfl; ((refine aQ rfl cL rfl ?_)); refine aB ?_) | (refine aE rfl rfl ?_; ((first | refine aG ?_ | refine aC rfl ?_)); refine aB ?_))
  refine fJ rfl rfl (vJ bw x2) (fun _ h => (by cases h)) rfl rfl (dM hb2) (fun bs3 v3 h3 => ?_)
  refine aB ?_
  have hb3 := dL h3 hb2
  repeat' (first | (apply aA) | (apply aH) | (apply aD) | (apply aP; exact rfl; ((refine aQ rfl cL rfl ?_)); refine aB ?_) | (refine aE rfl rfl ?_; ((first | refine aG ?_ | refine aC rfl ?_)); refine aB ?_))
  refine fJ rfl rfl (rt bw Ax3 cx3 x3 hx3 rfl rfl) (bT aX (fun _ h => (by cases h))) rfl rfl hb3 (fun bs4 v4 h4 => ?_)
  refine aB ?_
  repeat' ((apply aH))
  exact aZ (.inr rfl) (gQ rfl) (cA (.row v4 5 1 bs4.length (bC bs4) :: .blk bw [v4] 90 :: H) R dV (hk bs4 v4 (h1.trans (h2.trans (h3.trans h4)))))
theorem e7 {w0 : World} (bw : Nat) (x : Tm) (y : Unp.Y Tm) (hok : Unp.ok x y) : Wf Tryz.prog w0 (Unp.fs x y) 132 [.pointer (some ⟨bw, 0, none⟩), .agg (Unp.cs x y).toArray] bw x.enc := by
  obtain ⟨k, i, nm, l⟩ := x
  exact rA (rterm_wn bw _ k hok.1 i hok.2.1 nm hok.2.2.1 y.1 y.2 l hok.2.2.2 (Nat.lt_succ_self _)) (Tm.enc_eq _ _ _ _).symm rfl
theorem oJ {w0 : World} (bw : Nat) (A : Option Addr) (c : Nat) (l : List Tm) (hx : l.length ≤ 9223372036854775807) : Wf Tryz.prog w0 [Sl (.slice A l.length c) l] 129 [.pointer (some ⟨bw, 0, none⟩), .slice A l.length c] bw (dA l.length ++ l.flatMap Tm.enc) :=
  wZ bw A c l hx (fun x _ y hy => e7 bw x y hy)
theorem rtyp_wn {w0 : World} (bw : Nat) : ∀ n : Nat, ∀ (x0 : ByteArray) (hx0 : x0.size ≤ 9223372036854775807) (Ax1 : Option Addr) (cx1 : Nat) (x1 : List Tp) (hx1 : x1.length ≤ 9223372036854775807), SizeOf.sizeOf (Tp.mk x0 x1) < n → Wf Tryz.prog w0 [Sl (.slice Ax1 x1.length cx1) x1] 131 [.pointer (some ⟨bw, 0, none⟩), .agg #[.string x0, .slice Ax1 x1.length cx1]] bw (iU x0 ++ (dA x1.length ++ ((x1.flatMap Tp.enc)))) := by
  intro n
  induction n with
  | zero => exact fun x0 hx0 Ax1 cx1 x1 hx1 h => absurd h (Nat.not_lt_zero _)
  | succ n ih =>
  intro x0 hx0 Ax1 cx1 x1 hx1 hsz
  have ih' : ∀ x ∈ x1, ∀ y : Unp.Y Tp, Unp.ok x y → Wf Tryz.prog w0 (Unp.fs x y) 131 [.pointer (some ⟨bw, 0, none⟩), .agg (Unp.cs x y).toArray] bw (Tp.enc x) := by
    intro x hx y hy
    have hlt := List.sizeOf_lt_of_mem hx
    obtain ⟨nm', l'⟩ := x
    exact rA (ih nm' hy.1 y.1 y.2 l' hy.2 (by simp only [Tp.mk.sizeOf_spec] at hsz hlt ⊢; omega)) (Tp.enc_eq _ _).symm rfl
  intro H R K bs v hsub hb hk
  have hb0 := hb
  clear hb
  have hS0 : Sl (.slice Ax1 x1.length cx1) x1 ∈ R := hsub _ dB
  clear hsub
  refine bV Tryz.func131 rfl Tryz.ntmps131 fI ?_
  apply aF; apply aA
  repeat' ((refine bJ rfl rfl ?_; ((refine dX cW (fun b => ?_))); refine aB ?_))
  revert b
  intro bx
  apply aH; apply aD
  refine fO 0 rfl ?_
  refine jB tH ?_
  repeat' (first | (apply aF) | (apply aA) | (apply aP; exact rfl; ((refine aQ rfl cL rfl ?_)); refine aB ?_) | (refine aE rfl rfl ?_; ((first | refine aG ?_ | refine aC rfl ?_)); refine aB ?_))
  refine fJ rfl rfl (vJ bw x0) (fun _ h => (by cases h)) rfl rfl (dM hb0) (fun bs1 v1 h1 => ?_)
  refine aB ?_
  have hb1 := dL h1 hb0
  repeat' (first | (apply aF) | (apply aA) | (apply aH) | (apply aD) | (apply aP; exact rfl; ((refine aQ rfl cL rfl ?_)); refine aB ?_) | (refine aE rfl rfl ?_; ((first | refine aG ?_ | refine aC rfl ?_ | refine bS rfl ?_)); refine aB ?_))
  refine fJ rfl rfl (dH bw x1.length (by simp only [dO]; omega)) (fun _ h => (by cases h)) rfl rfl (dM hb1) (fun bs2 v2 h2 => ?_)
  refine aB ?_
  have hb2 := dL h2 hb1
  repeat' (first | (apply aF) | (apply aA) | (apply aV) | (apply aH) | (apply aD) | (refine aE rfl rfl ?_; ((refine aY ?_)); refine aB ?_))
  have hbl := hb2
  refine cM [4, 14, 15, 16, 17, 18, 19, 20, 21, 22, 23, 24, 25, 26, 27, 28, 29, 30, 31, 32] (fun m j H2 R2 => ∃ (i : Nat) (bs' : List UInt8) (v' : Value), i + m = x1.length ∧ j 4 = .int .i64 (i : Int) ∧ (∀ p ∈ (At bx 0 [.string x0, .slice Ax1 x1.length cx1] :: R), p ∈ R2) ∧ H2 = .row v' 5 1 bs'.length (bC bs') :: .blk bw [v'] 90 :: H ∧ Wt bs2 ((x1.take i).flatMap Tp.enc) bs') x1.length eS ⟨0, bs2, v2, by omega, rfl, fun _ h => h, rfl, Wt.nil bs2⟩ ?_
  rintro m j' H2 R2 ⟨i, bs', v', him, hc, hR2, hH2, hW⟩
  subst hH2
  have hat2 := hR2 _ List.mem_cons_self
  have hm2 := hR2 _ (List.mem_cons_of_mem _ hS0)
  refine dD (by simp only [eF, List.foldl_cons, List.foldl_nil, List.set_cons_succ, List.set_cons_zero, hc]; rfl) ?_
  have hWl := hW.2.1
  have htl := eV (enc := Tp.enc) x1 i
  rcases Nat.lt_or_ge i x1.length with hlt | hge
  · rcases Nat.lt_or_ge 250000 bs'.length with hf | hf
    · have hW := (hW.over (o2 := (x1.drop i).flatMap Tp.enc) hf).eq (gD x1 i)
      repeat' (first | (refine dK rfl ?_; refine aT fA ?_; refine kW bw bs' v' hf aO ?_; refine aB ?_) | (apply aF) | (apply aA) | (apply cG) | (apply aJ; exact rfl) | (apply aH) | (apply aD) | (apply aW) | (apply aS) | (apply aP; exact rfl; ((refine aQ rfl cL rfl ?_)); refine aB ?_) | (apply aU; exact rfl; ((refine bQ rfl rfl (fun h => ?_) (fun h => ?_))) <;> (first | (exfalso; omega) | refine aB ?_)) | (refine aE rfl rfl ?_; ((first | refine aG ?_ | refine bX rfl eR ?_ | refine aC rfl ?_ | refine bS rfl ?_ | refine dJ rfl ?_)); refine aB ?_))
      exact aZ (.inr rfl) (gQ rfl) (cA (.row v' 5 1 bs'.length (bC bs') :: .blk bw [v'] 90 :: H) R (fun w hs => hs.weaken eB (fun p hp => hR2 p (List.mem_cons_of_mem _ hp))) (hk bs' v' (h1.trans (h2.trans hW))))
    · have ht := jM (enc := Tp.enc) x1 i hlt
      have hle := eV (enc := Tp.enc) x1 (i + 1)
      rw [ht, List.length_append] at hle
      repeat' (first | (refine dK rfl ?_; refine aT fA ?_; refine kV bw bs' v' hf ?_; refine aB ?_) | (apply gZ; exact rfl; refine dZ (xs := x1) rfl rfl aX rfl (d := x1[i]) (by simp only [Int.toNat_natCast]; exact List.getElem?_eq_getElem aO) aO (fun b_ o y hy => ?_); refine aB ?_) | (refine aP rfl ?_; refine bD rfl List.mem_cons_self (cU (UnpL.len _ _)) ?_; refine aB ?_) | (apply aF) | (apply aA) | (apply aV) | (apply bF) | (apply aK; exact rfl) | (apply aH) | (apply aD) | (apply aP; exact rfl; ((refine aQ rfl cL rfl ?_)); refine aB ?_) | (apply aU; exact rfl; ((refine bQ rfl rfl (fun h => ?_) (fun h => ?_))) <;> (first | (exfalso; omega) | refine aB ?_)) | (refine aE rfl rfl ?_; ((first | refine aG ?_ | refine bX rfl eR ?_ | refine aC rfl ?_ | refine bS rfl ?_ | refine dJ rfl ?_)); refine aB ?_))
      refine fJ rfl rfl (ih' x1[i] (List.getElem_mem _) y hy) (fun p hp => List.mem_cons_of_mem _ (List.mem_append_left _ hp)) rfl rfl aO (fun bs2 v2 h2 => ?_)
      refine aB ?_
      repeat' (first | (apply aA) | (apply aH) | (apply aD) | (apply bU) | (apply aU; exact rfl; ((refine bM rfl rfl aO aO ?_)); refine aB ?_) | (refine aE rfl rfl ?_; ((first | refine aG ?_ | refine aY ?_)); refine aB ?_))
      exact cJ (m - 1) (.row v2 5 1 bs2.length (bC bs2) :: .blk bw [v2] 90 :: H) (At bx 0 [.string x0, .slice Ax1 x1.length cx1] :: R) aO eS ⟨i + 1, bs2, v2, by omega, rfl, fun _ h => h, rfl, by rw [ht]; exact hW.trans h2⟩ (fun w hs => hs.weaken eB (fun p hp => List.mem_cons_of_mem _ (List.mem_append_right _ (hR2 p hp))))
  · rw [List.take_of_length_le hge] at hW
    repeat' (first | (apply aF) | (apply aA) | (apply cG) | (apply aJ; exact rfl) | (apply aH) | (apply aD) | (apply aW) | (apply aS) | (apply aP; exact rfl; ((refine aQ rfl cL rfl ?_)); refine aB ?_) | (apply aU; exact rfl; ((refine bQ rfl rfl (fun h => ?_) (fun h => ?_))) <;> (first | (exfalso; omega) | refine aB ?_)) | (refine aE rfl rfl ?_; ((first | refine aG ?_ | refine cH rfl eR ?_ | refine aC rfl ?_ | refine bS rfl ?_)); refine aB ?_) | (refine cX rfl ?_; refine aB ?_))
    exact aZ (.inr rfl) (gQ rfl) (cA (.row v' 5 1 bs'.length (bC bs') :: .blk bw [v'] 90 :: H) R (fun w hs => hs.weaken eB (fun p hp => hR2 p (List.mem_cons_of_mem _ hp))) (hk bs' v' (h1.trans (h2.trans hW))))
theorem rtyp_w {w0 : World} (bw : Nat) (x : Tp) (y : Unp.Y Tp) (hok : Unp.ok x y) : Wf Tryz.prog w0 (Unp.fs x y) 131 [.pointer (some ⟨bw, 0, none⟩), .agg (Unp.cs x y).toArray] bw x.enc := by
  obtain ⟨nm, l⟩ := x
  exact rA (rtyp_wn bw _ nm hok.1 y.1 y.2 l hok.2 (Nat.lt_succ_self _)) (Tp.enc_eq _ _).symm rfl
end Go.Proofs.YtggdljhmbckpmaaGreat
