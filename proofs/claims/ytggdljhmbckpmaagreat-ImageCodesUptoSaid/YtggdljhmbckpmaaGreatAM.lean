/- Unsigned numbers as naturals. Elements of slices, opened; the data of drives. Rows of any data: what is noted of their cells while they grow, and how they are made to stay. More rules for operations: the greatest of three, remainders of natural numbers. Several operations of a drawn region that may come up; one continuation for all orders. The rules that a walk takes most often, with the reading of the temporaries as a default: short words for printed texts. -/
import Derived.Test.YtggdljhmbckpmaaGreatA6
import Derived.Lib.SliceRun
import Derived.Laws.Cover1
set_option linter.unusedVariables false
set_option linter.unusedSimpArgs false
namespace Go.Proofs.YtggdljhmbckpmaaGreat
open Go Go.RowKit
attribute [local semireducible] T TC En PW GW CallsK CallsP Sl Rd Ls At S

section
variable {P : Program} {w0 : World} {E : List Value} {H : List Hp} {R : List MP} {ty : TypeId} {K : Value → List MP → Prop}

theorem pM {k : IntKind} (hk : k.signed = false) {n : Nat} (h : n < 2 ^ k.bits) : k.wrap (n : Int) = (n : Int) := by
  cases k <;> simp [IntKind.signed] at hk <;> simp [IntKind.wrap, IntKind.bits, IntKind.signed] at * <;> omega
theorem lA {k : IntKind} (hk : k.signed = false) (n : Nat) : k.wrap (n : Int) = ((n % 2 ^ k.bits : Nat) : Int) := by
  cases k <;> simp [IntKind.signed] at hk <;> simp [IntKind.wrap, IntKind.bits, IntKind.signed]
theorem nE (b n : Nat) : BitVec.ofInt b (n : Int) = BitVec.ofNat b n := by simp
theorem pw_xor {t t' : TypeId} {x y : Operand} {k : IntKind} {a b : Nat} (hx : ev E x = .int k (a : Int)) (hy : ev E y = .int k (b : Int)) (hk : k.signed = false) (ha : a < 2 ^ k.bits) (hb : b < 2 ^ k.bits) (kk : K (.int k ((a ^^^ b : Nat) : Int)) R) : PW P w0 E (.binOp .xor t x y t') ty H R K :=
  gE hx hy (fun w => by
    simp only [binOp, Op.intBits, nE, ne_eq, not_true_eq_false, if_false, Sem.run_pure, BitVec.toNat_xor, BitVec.toNat_ofNat, Nat.mod_eq_of_lt ha, Nat.mod_eq_of_lt hb]
    rw [pM hk (Nat.xor_lt_two_pow ha hb)]) kk
theorem sM {t t' : TypeId} {x y : Operand} {k : IntKind} {a b : Nat} (hx : ev E x = .int k (a : Int)) (hy : ev E y = .int k (b : Int)) (hk : k.signed = false) (ha : a < 2 ^ k.bits) (hb : b < 2 ^ k.bits) (kk : K (.int k ((a ||| b : Nat) : Int)) R) : PW P w0 E (.binOp .or t x y t') ty H R K :=
  gE hx hy (fun w => by
    simp only [binOp, Op.intBits, nE, ne_eq, not_true_eq_false, if_false, Sem.run_pure, BitVec.toNat_or, BitVec.toNat_ofNat, Nat.mod_eq_of_lt ha, Nat.mod_eq_of_lt hb]
    rw [pM hk (Nat.or_lt_two_pow ha hb)]) kk
theorem rX {t t' : TypeId} {x y : Operand} {k : IntKind} {a b : Nat} (hx : ev E x = .int k (a : Int)) (hy : ev E y = .int k (b : Int)) (hk : k.signed = false) (ha : a < 2 ^ k.bits) (hb : b < 2 ^ k.bits) (kk : K (.int k ((a &&& b : Nat) : Int)) R) : PW P w0 E (.binOp .and t x y t') ty H R K :=
  gE hx hy (fun w => by
    simp only [binOp, Op.intBits, nE, ne_eq, not_true_eq_false, if_false, Sem.run_pure, BitVec.toNat_and, BitVec.toNat_ofNat, Nat.mod_eq_of_lt ha, Nat.mod_eq_of_lt hb]
    rw [pM hk (Nat.and_lt_two_pow _ hb)]) kk
theorem aA3 {t t' : TypeId} {x y : Operand} {k : IntKind} {a b : Nat} (hx : ev E x = .int k (a : Int)) (hy : ev E y = .int k (b : Int)) (hk : k.signed = false) (kk : K (.int k ((a * b % 2 ^ k.bits : Nat) : Int)) R) : PW P w0 E (.binOp .mul t x y t') ty H R K :=
  gE hx hy (fun w => by
    have : (a : Int) * (b : Int) = ((a * b : Nat) : Int) := by simp
    simp only [binOp, Op.intArith, ne_eq, not_true_eq_false, if_false, Sem.run_pure, this, lA hk]) kk
theorem oA {t t' : TypeId} {x y : Operand} {k k' : IntKind} {a n : Nat} (hx : ev E x = .int k (a : Int)) (hy : ev E y = .int k' (n : Int)) (hk : k.signed = false) (hn : n ≤ k.bits) (kk : K (.int k ((a * 2 ^ n % 2 ^ k.bits : Nat) : Int)) R) : PW P w0 E (.binOp .shl t x y t') ty H R K :=
  eV rfl (fun w _ => by
    have h1 : (eqGuard .shl t x y (.int k (a : Int)) (.int k' (n : Int))).run P w = .ok () w := rfl
    have h2 : (a : Int) * 2 ^ n = ((a * 2 ^ n : Nat) : Int) := by simp
    have h3 : ¬ ((n : Int) < 0) := by omega
    rw [hx, hy]
    simp only [Sem.run_bind, h1, Result.andThen_ok, binOp, Op.shift, if_neg h3, Int.toNat_natCast, Nat.min_eq_left hn, Sem.run_pure, h2, lA hk]) kk
theorem mJ {t t' : TypeId} {x y : Operand} {k k' : IntKind} {a n : Nat} (hx : ev E x = .int k (a : Int)) (hy : ev E y = .int k' (n : Int)) (hn : n ≤ k.bits) (kk : K (.int k ((a / 2 ^ n : Nat) : Int)) R) : PW P w0 E (.binOp .shr t x y t') ty H R K :=
  eV rfl (fun w _ => by
    have h1 : (eqGuard .shr t x y (.int k (a : Int)) (.int k' (n : Int))).run P w = .ok () w := rfl
    have h3 : ¬ ((n : Int) < 0) := by omega
    have h4 : (a : Int).fdiv (2 ^ n) = ((a / 2 ^ n : Nat) : Int) := by
      rw [Int.fdiv_eq_ediv_of_nonneg _ (Int.le_of_lt (Int.pow_pos (by omega)))]; simp
    rw [hx, hy]
    simp only [Sem.run_bind, h1, Result.andThen_ok, binOp, Op.shift, if_neg h3, Int.toNat_natCast, Nat.min_eq_left hn, Sem.run_pure, h4]) kk
theorem kT {s d : TypeId} {x : Operand} {k k' : IntKind} {ds : TypeDesc} {a : Nat} [hs : TyU P s ds] [hd : TyU P d (.int k')] (hx : ev E x = .int k (a : Int)) (hk : k'.signed = false) (kk : K (.int k' ((a % 2 ^ k'.bits : Nat) : Int)) R) : PW P w0 E (.convert s d x) ty H R K :=
  qZ (hs := hs) (hd := hd) hx (by rw [lA hk]; exact kk)
theorem jB {s d : TypeId} {x : Operand} {k : IntKind} {ds : TypeDesc} {a : Nat} [hs : TyU P s ds] [hd : TyU P d (.int .i64)] (hx : ev E x = .int k (a : Int)) (ha : a ≤ 9223372036854775807) (kk : K (.int .i64 (a : Int)) R) : PW P w0 E (.convert s d x) ty H R K :=
  qZ (hs := hs) (hd := hd) hx (by rw [nJ (by simp [IntKind.min, IntKind.signed, IntKind.bits]) (by simp [IntKind.max, IntKind.signed, IntKind.bits]; omega)]; exact kk)
end

/-! ### calls, their arguments as lists -/
section
variable {F : Fence} {n : Nat} {P : Program} {w0 : World} {D : List Deferred} {ops : Array Oper} {Q : Exit → Act → World → Prop} {rest : List Oper} {E : List Value} {H : List Hp} {R : List MP}
theorem aY [Wd F] {dst : Option Tmp} {f : FuncId} {l : List Operand} {at_ : Array TypeId} {ty : TypeId} {pos : String} {aft : Array Edge} {g : Option (Nat × Bool)} {K : Value → List Hp → List MP → Prop} {A : List Value} (hA : l.map (ev E) = A) [FnOk P f]
    (h : CallsK P w0 f A.toArray H R K) : OW F n P w0 D Q ⟨dst, .call ⟨.value (.func f), l.toArray, at_⟩, ty, pos, aft, g⟩ E H R K :=
  wS (f := f) (first := #[]) (cap := #[]) rfl (vs := A.toArray) (by subst hA; simp) h
theorem iD [Wd F] {dst : Option Tmp} {f : FuncId} {l : List Operand} {at_ : Array TypeId} {ty : TypeId} {pos : String} {aft : Array Edge} {g : Option (Nat × Bool)} {K : Value → List Hp → List MP → Prop} {KP : List PanicEntry → List Hp → List MP → Prop} {A : List Value} (hA : l.map (ev E) = A) [FnOk P f]
    (h : CallsP P w0 f A.toArray H R K KP) (hp : ∀ ch H' R', KP ch H' R' → En w0 D Q (.panic ch) E H' R') : OW F n P w0 D Q ⟨dst, .call ⟨.value (.func f), l.toArray, at_⟩, ty, pos, aft, g⟩ E H R K :=
  rD (f := f) (first := #[]) (cap := #[]) rfl (vs := A.toArray) (by subst hA; simp) h hp
theorem fO [Wd F] {dst : Option Tmp} {fo : Operand} {f : FuncId} {l : List Operand} {at_ : Array TypeId} {ty : TypeId} {pos : String} {aft : Array Edge} {g : Option (Nat × Bool)} {K : Value → List Hp → List MP → Prop} {A L1 L2 : List Value} (hf : ev E fo = .func (.func f) L1.toArray L2.toArray) (hA : L1 ++ l.map (ev E) ++ L2 = A) [FnOk P f]
    (h : CallsK P w0 f A.toArray H R K) : OW F n P w0 D Q ⟨dst, .call ⟨.value fo, l.toArray, at_⟩, ty, pos, aft, g⟩ E H R K :=
  wS (f := f) hf (vs := A.toArray) (by subst hA; simp) h
theorem sS [Wd F] {dst : Option Tmp} {fo : Operand} {f : FuncId} {l : List Operand} {at_ : Array TypeId} {ty : TypeId} {pos : String} {aft : Array Edge} {g : Option (Nat × Bool)} {K : Value → List Hp → List MP → Prop} {KP : List PanicEntry → List Hp → List MP → Prop} {A L1 L2 : List Value} (hf : ev E fo = .func (.func f) L1.toArray L2.toArray) (hA : L1 ++ l.map (ev E) ++ L2 = A) [FnOk P f]
    (h : CallsP P w0 f A.toArray H R K KP) (hp : ∀ ch H' R', KP ch H' R' → En w0 D Q (.panic ch) E H' R') : OW F n P w0 D Q ⟨dst, .call ⟨.value fo, l.toArray, at_⟩, ty, pos, aft, g⟩ E H R K :=
  rD (f := f) hf (vs := A.toArray) (by subst hA; simp) h hp
end
/-! ### append from a block, from what stays; nil -/
section
variable {P : Program} {w0 : World} {E : List Value} {H : List Hp} {R : List MP} {ty : TypeId} {K : Value → List Hp → List MP → Prop}
theorem cY {t e : TypeId} {s x : Operand} (i j : Nat) {n m c sz by_ b : Nat} {zs cs news : List Value} {v : Value} [h : TyL P t e sz by_ zs] (hs : ev E s = v) (hx : ev E x = .slice (some ⟨b, 0, none⟩) m c) (hi : H[i]? = some (.row v e sz n cs)) (hj : H[j]? = some (.blk b news e))
    (hsz : 0 < sz) (hl : news.length = m * sz) (h1 : ∀ u ∈ news, u.oneCell' = true) (hby : (n + m) * by_ ≤ 140737488355328) (hnm : n + m ≤ 140737488355328)
    (kk : ∀ v', K v' (H.set i (.row v' e sz (n + m) (cs ++ news))) R) : GW P w0 E (.call ⟨.builtin .append, #[s, x], #[t, t]⟩) ty H R K :=
  mF hs hx hi hsz hl (fun w hw _ => ⟨_, rfl, fun k u hk => by
    rw [Addr.add_mk]; exact hw.blk_cells hj k u hk⟩) h1 hby hnm kk
theorem oX {t e : TypeId} {s x : Operand} (i : Nat) {n c m by_ : Nat} {zs cs : List Value} {v : Value} {A : Option Addr} {xs : List UInt8} [h : TyL P t e 1 by_ zs] (hs : ev E s = v) (hx : ev E x = .slice A m c) (hm : Sl (.slice A m c) xs ∈ R) (hml : m = xs.length) (hi : H[i]? = some (.row v e 1 n cs))
    (hby : (n + m) * by_ ≤ 140737488355328) (hnm : n + m ≤ 140737488355328)
    (kk : ∀ v', K v' (H.set i (.row v' e 1 (n + m) (cs ++ bA xs))) R) : GW P w0 E (.call ⟨.builtin .append, #[s, x], #[t, t]⟩) ty H R K :=
  mF hs hx hi (by omega) (by simp [hml]) (fun w hw h0 => by
    obtain ⟨_, hc⟩ := hw.sl_bytes hm
    obtain ⟨b, o, rfl, hcell⟩ := hc h0
    exact ⟨_, rfl, fun k u hk => by rw [Addr.add_mk]; exact hcell k u hk⟩) (lD _) hby hnm kk
end
section
variable {P : Program} {w0 : World} {E : List Value} {H : List Hp} {R : List MP} {ty : TypeId} {K : Value → List MP → Prop}
theorem m8 {t t' e : TypeId} {x y : Operand} {A : Option Addr} {n c : Nat} [h : TyU P t (.slice e)] (hx : ev E x = .slice A n c) (hy : ev E y = .slice none 0 0) (kt : A = none → K (.bool true) R) (kf : ∀ a, A = some a → K (.bool false) R) : PW P w0 E (.binOp .eql t x y t') ty H R K := by
  have key : ∀ w : World, (binOp .eql t (.slice A n c) (.slice none 0 0)).run P w = .ok (.bool A.isNone) w := fun w => Lib.run_eql_slice_nil w t e A n c 0 0 h.und
  have hg : ∀ w : World, (eqGuard .eql t x y (.slice A n c) (.slice none 0 0)).run P w = .ok () w := fun w => rfl
  cases A with
  | none => exact eV rfl (fun w _ => by rw [hx, hy]; simp only [Sem.run_bind, hg, Result.andThen_ok, key]; rfl) (kt rfl)
  | some a => exact eV rfl (fun w _ => by rw [hx, hy]; simp only [Sem.run_bind, hg, Result.andThen_ok, key]; rfl) (kf a rfl)
end
/-! ### slicing an owned block; opening a row -/
section
variable {F : Fence} {n : Nat} {P : Program} {w0 : World} {D : List Deferred} {ops : Array Oper} {Q : Exit → Act → World → Prop} {rest : List Oper} {E : List Value} {H : List Hp} {R : List MP} {ty : TypeId} {K : Value → List MP → Prop}
theorem iP {t e : TypeId} {x : Operand} {lo hi : Option Operand} {sz by_ : Nat} {zs : List Value} [ht : TyL P t e sz by_ zs] {b o n c : Nat} {l h : Int} (hx : ev E x = .slice (some ⟨b, o, none⟩) n c) (hl : yS E 0 lo = some l) (hh : yS E n hi = some h)
    (h0 : 0 ≤ l) (h1 : l ≤ h) (h2 : h ≤ c) (kk : ∀ o', (h.toNat - l.toNat = 0 ∨ o' = o + l.toNat * sz) → K (.slice (some ⟨b, o', none⟩) (h.toNat - l.toNat) (c - l.toNat)) R) : PW P w0 E (.slice t x lo hi none) ty H R K := by
  refine vG hx hl hh h0 h1 h2 ?_
  by_cases e : c = l.toNat
  · rw [if_pos e]; exact kk o (.inl (by omega))
  · rw [if_neg e]
    simp only [Option.map_some, Addr.add_mk]
    exact kk _ (.inr rfl)
theorem tY {c : Code} (i : Nat) {v : Value} {T : TypeId} {size m : Nat} {cs : List Value} (hi : H[i]? = some (.row v T size m cs)) (hm : 0 < m)
    (k : ∀ b cap sp, v = .slice (some ⟨b, 0, none⟩) m cap → (cs ++ sp).length = cap * size → cs.length = m * size → m ≤ cap → cap ≤ maxLen → TC F n P w0 D c Q E (H.set i (.blk b (cs ++ sp) T)) R) : TC F n P w0 D c Q E H R := fun w hs => by
  rcases hs.unrow hi with ⟨_, h0, _⟩ | ⟨b, cap, sp, h1, h2, h3, h4, h5, h6⟩
  · omega
  · exact k b cap sp h1 h2 h3 h4 h5 w h6
theorem aC3 (i : Nat) {v : Value} {T' : TypeId} {size m : Nat} {cs : List Value} (hi : H[i]? = some (.row v T' size m cs)) (hm : 0 < m)
    (k : ∀ b cap sp, v = .slice (some ⟨b, 0, none⟩) m cap → (cs ++ sp).length = cap * size → cs.length = m * size → m ≤ cap → cap ≤ maxLen → T F n P w0 D ops Q rest E (H.set i (.blk b (cs ++ sp) T')) R) : T F n P w0 D ops Q rest E H R := fun w hs => by
  rcases hs.unrow hi with ⟨_, h0, _⟩ | ⟨b, cap, sp, h1, h2, h3, h4, h5, h6⟩
  · omega
  · exact k b cap sp h1 h2 h3 h4 h5 w h6
/-- An owned row of bytes is made to stay: it reads as a slice. -/
theorem S.row_stays {w : World} {i : Nat} {v : Value} {m : Nat} {xs : List UInt8} (h : S w0 w H R) (hi : H[i]? = some (.row v 5 1 m (bA xs))) : ∃ A c, v = .slice A xs.length c ∧ S w0 w (H.eraseIdx i) (Sl (.slice A xs.length c) xs :: R) := by
  have hml : xs.length = m := by
    obtain ⟨s, hs⟩ := h
    have := (hs.hp _ (List.mem_of_getElem? hi)).1.1
    simpa using this
  rcases h.unrow hi with ⟨rfl, h0, hnil⟩ | ⟨b, cap, sp, rfl, h2, h3, h4, h5, h6⟩
  · have : xs = [] := List.eq_nil_of_length_eq_zero (by omega)
    subst this
    refine ⟨none, 0, rfl, (h.drop i).add _ fun s hR => ⟨none, 0, rfl, ⟨by simp, by simp [dY]⟩, fun h => by simp at h⟩⟩
  · subst hml
    refine ⟨some ⟨b, 0, none⟩, cap, rfl, ?_⟩
    have hlt : i < H.length := (List.getElem?_eq_some_iff.1 hi).1
    have h7 := h6.freeze (i := i) (b := b) (cs := bA xs ++ sp) (T := 5) (by rw [List.getElem?_set_self hlt])
    have e : (H.set i (.blk b (bA xs ++ sp) 5)).eraseIdx i = H.eraseIdx i := by rw [List.eraseIdx_set_eq]
    rw [e] at h7
    have h8 := h7.add (Sl (.slice (some ⟨b, 0, none⟩) xs.length cap) xs) (fun s hR => by
      have hat := hR (At b 0 (bA xs ++ sp)) (by simp)
      refine ⟨_, _, rfl, ⟨h4, by simp only [maxLen] at h5; simp only [dY]; omega⟩, fun _ => ⟨b, 0, rfl, fun k x hk => ⟨[eP x], rfl, fun j v hj => ?_⟩⟩⟩
      have hj0 : j = 0 ∧ v = eP x := by
        cases j with
        | zero => simp at hj; exact ⟨rfl, hj.symm⟩
        | succ j => simp at hj
      obtain ⟨rfl, rfl⟩ := hj0
      have := hat k (eP x) (by
        rw [List.getElem?_append_left (by simp; exact (List.getElem?_eq_some_iff.1 hk).1)]
        simp [bA, hk])
      simpa [Rep.size] using this)
    exact h8.weaken (List.Sublist.refl _) (fun p hp => by
      rcases List.mem_cons.1 hp with rfl | hp
      · simp
      · simp [hp])
end
/-! ### loops by the slots that they turn -/
section
variable {F : Fence} {n : Nat} {P : Program} {w0 : World} {D : List Deferred} {ops : Array Oper} {Q : Exit → Act → World → Prop} {rest : List Oper} {E : List Value} {H : List Hp} {R : List MP}
def dX (E : List Value) (js : List Nat) (j : Nat → Value) : List Value := js.foldl (fun E i => E.set i (j i)) E
def BackS (w0 : World) (D : List Deferred) (E0 : List Value) (js : List Nat) (I : Nat → (Nat → Value) → List Hp → List MP → Prop) (m : Nat) : Act → World → Prop :=
  fun a w => ∃ k, k < m ∧ ∃ j H R, a = iK (dX E0 js j) D ∧ S w0 w H R ∧ I k j H R
theorem cK {c : Code} (js : List Nat) (I : Nat → (Nat → Value) → List Hp → List MP → Prop) (m : Nat) (he : dX E js (fun i => E.getD i undef) = E) (h0 : I m (fun i => E.getD i undef) H R)
    (round : ∀ m j H R, I m j H R → TC F n P w0 D c (Exit.then (BackS w0 D E js I m) Q) (dX E js j) H R) : TC F n P w0 D (.loop c) Q E H R := by
  refine aC1 (fun m E' H' R' => ∃ j, E' = dX E js j ∧ I m j H' R') m ⟨_, he.symm, h0⟩ ?_
  rintro m E' H' R' ⟨j, rfl, hI⟩
  refine wW (round m j H' R' hI) ?_
  intro e a w hq
  cases e with
  | normal =>
    obtain ⟨k, hk, j', H2, R2, e1, e2, e3⟩ := hq
    exact ⟨k, hk, dX E js j', H2, R2, e1, e2, j', rfl, e3⟩
  | _ => exact hq
theorem cE {E0 : List Value} {js : List Nat} {I : Nat → (Nat → Value) → List Hp → List MP → Prop} {m : Nat} (k : Nat) (H' : List Hp) (R' : List MP) (hk : k < m) (hE : dX E0 js (fun i => E.getD i undef) = E) (hI : I k (fun i => E.getD i undef) H' R') (hw : ∀ w, S w0 w H R → S w0 w H' R') :
    En w0 D (Exit.then (BackS w0 D E0 js I m) Q) .normal E H R := fun w hs => ⟨k, hk, _, H', R', by rw [hE], hw w hs, hI⟩
theorem cQ {c : Code} {E' : List Value} (h : E = E') (k : TC F n P w0 D c Q E' H R) : TC F n P w0 D c Q E H R := h ▸ k
theorem T_hp {H' : List Hp} (h : H = H') (k : T F n P w0 D ops Q rest E H' R) : T F n P w0 D ops Q rest E H R := h ▸ k
theorem TA_hp {Hc : List Hp} {Rc : List MP} {k : Nat} {listed : Array Bool} {H' : List Hp} (h : H = H') (kk : TA F n P w0 D ops Q Hc Rc k listed E H' R) : TA F n P w0 D ops Q Hc Rc k listed E H R := h ▸ kk
theorem iI {c : Code} {H' : List Hp} (h : H = H') (k : TC F n P w0 D c Q E H' R) : TC F n P w0 D c Q E H R := h ▸ k
theorem dZ {f : FuncId} {args : Array Value} {K : Value → List Hp → List MP → Prop} {p : Prop} (h : ∀ w, S w0 w H R → p) (k : p → CallsK P w0 f args H R K) : CallsK P w0 f args H R K := fun w hs => k (h w hs) w hs
end
end Go.Proofs.YtggdljhmbckpmaaGreat
namespace Go.Proofs.YtggdljhmbckpmaaGreat
open Go Go.RowKit
attribute [local semireducible] T TC En PW GW OW CallsK CallsP Sl Rd Ls At S

/-- How a datum lies in cells: its cells, what is known of them. -/
class Unp (α : Type) [Rep α] where
  Y : Type
  cs : α → Y → List Value
  ok : α → Y → Prop
  fs : α → Y → List MP
  un : ∀ {s : Sto} {cs' : List Value} {x : α}, Rep.rd s cs' x → ∃ y, cs' = cs x y ∧ ok x y ∧ ∀ p ∈ fs x y, p.p s
  re : ∀ {s : Sto} {x : α} {y : Y}, ok x y → (∀ p ∈ fs x y, p.p s) → Rep.rd s (cs x y) x

instance : Unp UInt8 := ⟨Unit, fun c _ => [eP c], fun _ _ => True, fun _ _ => [], fun h => ⟨(), h, trivial, fun _ h => by cases h⟩, fun _ _ => rfl⟩
def dD (n : Int) : Prop := -9223372036854775808 ≤ n ∧ n ≤ 9223372036854775807
instance : Unp Int := ⟨Unit, fun n _ => [.int .i64 n], fun n _ => dD n, fun _ _ => [], fun h => ⟨(), h.1, h.2, fun _ h => by cases h⟩, fun h _ => ⟨rfl, h⟩⟩
instance {α : Type} [Rep α] : Unp (List α) := ⟨Option Addr × Nat, fun xs y => [.slice y.1 xs.length y.2], fun xs y => xs.length ≤ y.2 ∧ y.2 ≤ dY, fun xs y => [Sl (.slice y.1 xs.length y.2) xs],
  fun {s cs' x} h => by
    obtain ⟨v, rfl, A, c, rfl, h2, h3⟩ := h
    refine ⟨(A, c), rfl, h2, fun p hp => ?_⟩
    simp at hp; subst hp
    exact ⟨A, c, rfl, h2, h3⟩,
  fun {s x y} h h' => ⟨_, rfl, h' _ (by simp)⟩⟩

section
variable {F : Fence} {n : Nat} {P : Program} {w0 : World} {D : List Deferred} {ops : Array Oper} {Q : Exit → Act → World → Prop} {rest : List Oper} {E : List Value} {H : List Hp} {R : List MP} {ty : TypeId} {K : Value → List MP → Prop}

/-- 'xs[i]': its place, and what lies there. -/
theorem dL {α : Type} [Rep α] [Unp α] {t e : TypeId} {x ix : Operand} {agg : Bool} {sz by_ : Nat} {z : Value} [h : TyU P t (.slice e)] [he : Ty P e agg sz by_ z] {v : Value} {xs : List α} {k : IntKind} {i : Int} {d : α} (hx : ev E x = v) (hix : ev E ix = .int k i) (hm : Sl v xs ∈ R) (hsz : Rep.size α = sz) (hd : xs[i.toNat]? = some d) (h0 : 0 ≤ i)
    (kk : ∀ b o (y : Unp.Y α), Unp.ok d y → K (.pointer (some ⟨b, o, none⟩)) (At b o (Unp.cs d y) :: (Unp.fs d y ++ R))) : PW P w0 E (.indexAddr t x ix) ty H R K := fun w s hs => by
  obtain ⟨i, rfl⟩ := Int.eq_ofNat_of_zero_le h0
  have hl : i < xs.length := (List.getElem?_eq_some_iff.1 hd).1
  obtain ⟨b, o, c, cs, e1, hcl, hs'⟩ := sl_at hs.rd hm i d hd
  have hr : Rep.rd s cs d := hs' (Rd cs d) (by simp)
  obtain ⟨y, rfl, hok, hf⟩ := Unp.un hr
  refine ⟨.pointer (some ⟨b, o + i * sz, none⟩), _, fun w' _ => ?_, ?_, ?_, by rw [← hsz]; exact kk b (o + i * Rep.size α) y hok⟩
  · simp only [lR, execOp, hx, hix, e1, Sem.run_bind]
    rw [nS (P := P) (t := t) b o xs.length c k i hl w']
    rfl
  · intro p hp; simp [hp]
  · intro p hp
    rcases List.mem_cons.1 hp with rfl | hp
    · exact hs' _ (by simp)
    · rcases List.mem_append.1 hp with hp | hp
      · exact hf p hp
      · exact hs.rd p hp
theorem fU {t e : TypeId} {x ix : Operand} {agg : Bool} {by_ : Nat} {z : Value} [h : TyU P t (.slice e)] [he : Ty P e agg 1 by_ z] {v : Value} {xs : List UInt8} {k : IntKind} {i : Int} {d : UInt8} (hx : ev E x = v) (hix : ev E ix = .int k i) (hm : Sl v xs ∈ R) (hd : xs[i.toNat]? = some d) (h0 : 0 ≤ i)
    (kk : ∀ b o, K (.pointer (some ⟨b, o, none⟩)) (At b o [eP d] :: R)) : PW P w0 E (.indexAddr t x ix) ty H R K := dL hx hix hm rfl hd h0 (fun b o y _ => kk b o)
theorem vQ {t e : TypeId} {x ix : Operand} {agg : Bool} {by_ : Nat} {z : Value} [h : TyU P t (.slice e)] [he : Ty P e agg 1 by_ z] {v : Value} {xs : List Int} {k : IntKind} {i : Int} {d : Int} (hx : ev E x = v) (hix : ev E ix = .int k i) (hm : Sl v xs ∈ R) (hd : xs[i.toNat]? = some d) (h0 : 0 ≤ i)
    (kk : ∀ b o, dD d → K (.pointer (some ⟨b, o, none⟩)) (At b o [.int .i64 d] :: R)) : PW P w0 E (.indexAddr t x ix) ty H R K := dL hx hix hm rfl hd h0 (fun b o y hy => kk b o hy)

/-- Into an owned block: 'xs[i]'s place. -/
theorem vV {t e : TypeId} {x ix : Operand} {agg : Bool} {sz by_ : Nat} {z : Value} [h : TyU P t (.slice e)] [he : Ty P e agg sz by_ z] {b o n c : Nat} {k : IntKind} {i : Int} (hx : ev E x = .slice (some ⟨b, o, none⟩) n c) (hix : ev E ix = .int k i) (h0 : 0 ≤ i) (h1 : i < n)
    (kk : K (.pointer (some ⟨b, o + i.toNat * sz, none⟩)) R) : PW P w0 E (.indexAddr t x ix) ty H R K := vB hx hix h0 h1 kk

theorem jR {s d : TypeId} {x : Operand} {ds : TypeDesc} {c : UInt8} [hs : TyU P s ds] [hd : TyU P d (.int .u32)] (hx : ev E x = eP c) (kk : K (.int .u32 ((c.toNat : Nat) : Int)) R) : PW P w0 E (.convert s d x) ty H R K :=
  kT (hs := hs) (hd := hd) hx rfl (by
    have := c.toNat_lt
    rw [Nat.mod_eq_of_lt (by simp [IntKind.bits]; omega)]; exact kk)
end

/-! ### drives -/
structure DW where
  at_ : Int
  data : List UInt8
structure DO where
  kind : Int
  at_ : Int
  data : List UInt8
structure RecD where
  at_ : Int
  epoch : Int
  seq : Int
  len : Int
structure Drive where
  bytes : List UInt8
  pending : List DW
instance : Rep DW where
  size := 2
  rd s cs x := ∃ A c, cs = [.int .i64 x.at_, .slice A x.data.length c] ∧ dD x.at_ ∧ (Sl (.slice A x.data.length c) x.data).p s
  mono h hp := by obtain ⟨A, c, e, k, l⟩ := hp; exact ⟨A, c, e, k, (Sl _ _).mono _ _ h l⟩
  len hp := by obtain ⟨A, c, rfl, k⟩ := hp; rfl
  one hp := by obtain ⟨A, c, rfl, k⟩ := hp; simp [Value.oneCell']
theorem wE {α : Type} [Rep α] {s : Sto} {A : Option Addr} {n c : Nat} {xs : List α} (h : (Sl (.slice A n c) xs).p s) : n ≤ 9223372036854775807 := by
  obtain ⟨A', c', e, ⟨h1, h2⟩, _⟩ := h
  injection e with _ e2 e3
  simp only [dY] at h2; omega
instance : Unp DW := ⟨Option Addr × Nat, fun x y => [.int .i64 x.at_, .slice y.1 x.data.length y.2], fun x _ => dD x.at_ ∧ x.data.length ≤ 9223372036854775807, fun x y => [Sl (.slice y.1 x.data.length y.2) x.data],
  fun {s cs' x} h => by
    obtain ⟨A, c, rfl, h2, h3⟩ := h
    exact ⟨(A, c), rfl, ⟨h2, wE h3⟩, fun p hp => by simp at hp; subst hp; exact h3⟩,
  fun {s x y} h h' => ⟨y.1, y.2, rfl, h.1, h' _ (by simp)⟩⟩
instance : Rep DO where
  size := 3
  rd s cs x := ∃ A c, cs = [.int .i64 x.kind, .int .i64 x.at_, .slice A x.data.length c] ∧ (dD x.kind ∧ dD x.at_) ∧ (Sl (.slice A x.data.length c) x.data).p s
  mono h hp := by obtain ⟨A, c, e, k, l⟩ := hp; exact ⟨A, c, e, k, (Sl _ _).mono _ _ h l⟩
  len hp := by obtain ⟨A, c, rfl, k⟩ := hp; rfl
  one hp := by obtain ⟨A, c, rfl, k⟩ := hp; simp [Value.oneCell']
instance : Unp DO := ⟨Option Addr × Nat, fun x y => [.int .i64 x.kind, .int .i64 x.at_, .slice y.1 x.data.length y.2], fun x _ => dD x.kind ∧ dD x.at_ ∧ x.data.length ≤ 9223372036854775807, fun x y => [Sl (.slice y.1 x.data.length y.2) x.data],
  fun {s cs' x} h => by
    obtain ⟨A, c, rfl, h2, h3⟩ := h
    exact ⟨(A, c), rfl, ⟨h2.1, h2.2, wE h3⟩, fun p hp => by simp at hp; subst hp; exact h3⟩,
  fun {s x y} h h' => ⟨y.1, y.2, rfl, ⟨h.1, h.2.1⟩, h' _ (by simp)⟩⟩
instance : Rep RecD where
  size := 4
  rd s cs x := cs = [.int .i64 x.at_, .int .i64 x.epoch, .int .i64 x.seq, .int .i64 x.len] ∧ dD x.at_ ∧ dD x.epoch ∧ dD x.seq ∧ dD x.len
  mono h hp := hp
  len hp := by obtain ⟨rfl, k⟩ := hp; rfl
  one hp := by obtain ⟨rfl, k⟩ := hp; simp [Value.oneCell']
instance : Unp RecD := ⟨Unit, fun x _ => [.int .i64 x.at_, .int .i64 x.epoch, .int .i64 x.seq, .int .i64 x.len], fun x _ => dD x.at_ ∧ dD x.epoch ∧ dD x.seq ∧ dD x.len, fun _ _ => [],
  fun h => ⟨(), h.1, h.2, fun _ h => by cases h⟩, fun h _ => ⟨rfl, h⟩⟩

section
variable {P : Program} {w0 : World} {E : List Value} {H : List Hp} {R : List MP} {ty : TypeId} {K : Value → List MP → Prop}
theorem vY {t e : TypeId} {x ix : Operand} {agg : Bool} {by_ : Nat} {z : Value} [h : TyU P t (.slice e)] [he : Ty P e agg 2 by_ z] {v : Value} {xs : List DW} {k : IntKind} {i : Int} {d : DW} (hx : ev E x = v) (hix : ev E ix = .int k i) (hm : Sl v xs ∈ R) (hd : xs[i.toNat]? = some d) (h0 : 0 ≤ i)
    (kk : ∀ b o A c, dD d.at_ → d.data.length ≤ 9223372036854775807 → K (.pointer (some ⟨b, o, none⟩)) (At b o [.int .i64 d.at_, .slice A d.data.length c] :: Sl (.slice A d.data.length c) d.data :: R)) : PW P w0 E (.indexAddr t x ix) ty H R K := dL hx hix hm rfl hd h0 (fun b o (y : Option Addr × Nat) (hy : dD d.at_ ∧ d.data.length ≤ 9223372036854775807) => kk b o y.1 y.2 hy.1 hy.2)
theorem mL {t e : TypeId} {x ix : Operand} {agg : Bool} {by_ : Nat} {z : Value} [h : TyU P t (.slice e)] [he : Ty P e agg 3 by_ z] {v : Value} {xs : List DO} {k : IntKind} {i : Int} {d : DO} (hx : ev E x = v) (hix : ev E ix = .int k i) (hm : Sl v xs ∈ R) (hd : xs[i.toNat]? = some d) (h0 : 0 ≤ i)
    (kk : ∀ b o A c, dD d.kind → dD d.at_ → d.data.length ≤ 9223372036854775807 → K (.pointer (some ⟨b, o, none⟩)) (At b o [.int .i64 d.kind, .int .i64 d.at_, .slice A d.data.length c] :: Sl (.slice A d.data.length c) d.data :: R)) : PW P w0 E (.indexAddr t x ix) ty H R K := dL hx hix hm rfl hd h0 (fun b o (y : Option Addr × Nat) (hy : dD d.kind ∧ dD d.at_ ∧ d.data.length ≤ 9223372036854775807) => kk b o y.1 y.2 hy.1 hy.2.1 hy.2.2)
theorem kI {t e : TypeId} {x ix : Operand} {agg : Bool} {by_ : Nat} {z : Value} [h : TyU P t (.slice e)] [he : Ty P e agg 1 by_ z] {v : Value} {xs : List UInt8} {k : IntKind} {i : Nat} {d : UInt8} (hx : ev E x = v) (hix : ev E ix = .int k (i : Int)) (hm : Sl v xs ∈ R) (hd : xs[i]? = some d)
    (kk : ∀ b o, K (.pointer (some ⟨b, o, none⟩)) (At b o [eP d] :: R)) : PW P w0 E (.indexAddr t x ix) ty H R K := fU hx hix hm (by simpa using hd) (by omega) kk
theorem hX {t e : TypeId} {x ix : Operand} {agg : Bool} {by_ : Nat} {z : Value} [h : TyU P t (.slice e)] [he : Ty P e agg 1 by_ z] {v : Value} {xs : List Int} {k : IntKind} {i : Nat} {d : Int} (hx : ev E x = v) (hix : ev E ix = .int k (i : Int)) (hm : Sl v xs ∈ R) (hd : xs[i]? = some d)
    (kk : ∀ b o, dD d → K (.pointer (some ⟨b, o, none⟩)) (At b o [.int .i64 d] :: R)) : PW P w0 E (.indexAddr t x ix) ty H R K := vQ hx hix hm (by simpa using hd) (by omega) kk
theorem kH {t e : TypeId} {x ix : Operand} {agg : Bool} {by_ : Nat} {z : Value} [h : TyU P t (.slice e)] [he : Ty P e agg 2 by_ z] {v : Value} {xs : List DW} {k : IntKind} {i : Nat} {d : DW} (hx : ev E x = v) (hix : ev E ix = .int k (i : Int)) (hm : Sl v xs ∈ R) (hd : xs[i]? = some d)
    (kk : ∀ b o A c, dD d.at_ → d.data.length ≤ 9223372036854775807 → K (.pointer (some ⟨b, o, none⟩)) (At b o [.int .i64 d.at_, .slice A d.data.length c] :: Sl (.slice A d.data.length c) d.data :: R)) : PW P w0 E (.indexAddr t x ix) ty H R K := vY hx hix hm (by simpa using hd) (by omega) kk
theorem oZ {t e : TypeId} {x ix : Operand} {agg : Bool} {by_ : Nat} {z : Value} [h : TyU P t (.slice e)] [he : Ty P e agg 3 by_ z] {v : Value} {xs : List DO} {k : IntKind} {i : Nat} {d : DO} (hx : ev E x = v) (hix : ev E ix = .int k (i : Int)) (hm : Sl v xs ∈ R) (hd : xs[i]? = some d)
    (kk : ∀ b o A c, dD d.kind → dD d.at_ → d.data.length ≤ 9223372036854775807 → K (.pointer (some ⟨b, o, none⟩)) (At b o [.int .i64 d.kind, .int .i64 d.at_, .slice A d.data.length c] :: Sl (.slice A d.data.length c) d.data :: R)) : PW P w0 E (.indexAddr t x ix) ty H R K := mL hx hix hm (by simpa using hd) (by omega) kk
end
end Go.Proofs.YtggdljhmbckpmaaGreat
namespace Go.Proofs.YtggdljhmbckpmaaGreat
open Go Go.RowKit
attribute [local semireducible] T TC En PW GW CallsK CallsP Sl Rd Ls At S TA

/-! ### literals, step by step -/
theorem wA {E : List Value} {ev : List Value → Operand → Value} {pl : List (Nat × Nat)} {zs : List Value} : lG E ev pl zs [] = some zs := rfl
theorem vJ {E : List Value} {ev : List Value → Operand → Value} {pl : List (Nat × Nat)} {zs zs' vs : List Value} {o : Option (List Value)} {i : Nat} {x : Operand} {r : List (Nat × Operand)} {off sz : Nat} (h : pl[i]? = some (off, sz)) (hx : (ev E x).cells.toList = vs) (hl : vs.length = sz) (hb : off + sz ≤ zs.length) (hs : iL zs off vs = zs') (k : lG E ev pl zs' r = o) : lG E ev pl zs ((i, x) :: r) = o := by
  subst hx; subst hs
  simp only [lG, h]
  rw [if_pos ⟨hl, hb⟩]; exact k
theorem tA {E : List Value} {ev : List Value → Operand → Value} {sz i : Nat} {r : List (Nat × Operand)} {o : Option (List Value)} (k : (jA E ev sz i r).map ([] ++ ·) = o) : jA E ev sz i r = o := by
  simpa using k
theorem vT {E : List Value} {ev : List Value → Operand → Value} {sz i : Nat} {d : List Value} : (jA E ev sz i []).map (d ++ ·) = some d := by simp [jA]
theorem tV {E : List Value} {ev : List Value → Operand → Value} {sz i : Nat} {x : Operand} {r : List (Nat × Operand)} {vs d d' : List Value} {o : Option (List Value)} (hx : (ev E x).cells.toList = vs) (hl : vs.length = sz) (hd : d ++ vs = d') (k : (jA E ev sz (i + 1) r).map (d' ++ ·) = o) : (jA E ev sz i ((i, x) :: r)).map (d ++ ·) = o := by
  subst hx; subst hd
  unfold jA
  rw [if_pos ⟨rfl, hl⟩, ← k]
  cases jA E ev sz (i + 1) r <;> simp
section
variable {P : Program} {w0 : World} {E : List Value} {H : List Hp} {R : List MP} {ty : TypeId} {K : Value → List MP → Prop}
theorem cM {fn : Fn} {first cap : List Operand} {f1 c1 : List Value} (h1 : first.map (ev E) = f1) (h2 : cap.map (ev E) = c1) (k : K (.func fn f1.toArray c1.toArray) R) : PW P w0 E (.makeFunc fn first.toArray cap.toArray) ty H R K := by
  subst h1; subst h2
  exact vI (by simpa using k)
end
/-- 'cs' are the cells of 'xs'. -/
def Cx {α : Type} [Rep α] (cs : List Value) (xs : List α) : MP where
  p s := cs.length = xs.length * Rep.size α ∧ ∀ j x, xs[j]? = some x → Rep.rd s ((cs.drop (j * Rep.size α)).take (Rep.size α)) x
  mono s t h hp := ⟨hp.1, fun j x hj => Rep.mono h (hp.2 j x hj)⟩

theorem fT {α : Type} [Rep α] (s : Sto) : (Cx [] ([] : List α)).p s := ⟨by simp, fun j x hj => by simp at hj⟩
theorem eN {α : Type} [Rep α] {s : Sto} {cs c1 : List Value} {xs : List α} {x : α} (h : (Cx cs xs).p s) (hr : Rep.rd s c1 x) : (Cx (cs ++ c1) (xs ++ [x])).p s := by
  obtain ⟨h1, h2⟩ := h
  have hl := Rep.len hr
  refine ⟨by simp [h1, hl, Nat.add_mul], fun j y hj => ?_⟩
  rcases Nat.lt_or_ge j xs.length with hlt | hge
  · rw [List.getElem?_append_left hlt] at hj
    have hb : j * Rep.size α + Rep.size α ≤ cs.length := by
      rw [h1]
      calc j * Rep.size α + Rep.size α = (j + 1) * Rep.size α := by rw [Nat.add_mul, Nat.one_mul]
        _ ≤ xs.length * Rep.size α := Nat.mul_le_mul_right _ (by omega)
    rw [List.drop_append_of_le_length (by omega), List.take_append_of_le_length (by simp; omega)]
    exact h2 j y hj
  · rw [List.getElem?_append_right hge] at hj
    have : j = xs.length ∧ y = x := by
      have := (List.getElem?_eq_some_iff.1 hj).1
      simp at this
      have e : j - xs.length = 0 := by omega
      rw [e] at hj; simp at hj
      exact ⟨by omega, hj.symm⟩
    obtain ⟨rfl, rfl⟩ := this
    rw [← h1, List.drop_left, ← hl, List.take_length]; exact hr
theorem tT (xs : List UInt8) (s : Sto) : (Cx (bA xs) xs).p s := by
  refine ⟨by simp [Rep.size], fun j x hj => ?_⟩
  have hl := (List.getElem?_eq_some_iff.1 hj).1
  have : (bA xs)[j]? = some (eP x) := by simp [bA, hj]
  obtain ⟨h1, h2⟩ := List.getElem?_eq_some_iff.1 this
  show ((bA xs).drop (j * 1)).take 1 = [eP x]
  rw [Nat.mul_one, List.drop_eq_getElem_cons h1, h2]; rfl
theorem Cx_one {α : Type} [Rep α] {s : Sto} {c1 : List Value} {x : α} (hr : Rep.rd s c1 x) : (Cx c1 [x]).p s := by
  simpa using eN (fT s) hr

section
variable {F : Fence} {n : Nat} {P : Program} {w0 : World} {D : List Deferred} {ops : Array Oper} {Q : Exit → Act → World → Prop} {rest : List Oper} {E : List Value} {H : List Hp} {R : List MP}
theorem S.learn {w : World} (h : S w0 w H R) (p : MP) (hp : ∀ s : Sto, (∀ q ∈ R, q.p s) → p.p s) : S w0 w H (p :: R) := h.add p hp
theorem S.sl_nil (α : Type) [Rep α] {w : World} (h : S w0 w H R) : S w0 w H (Sl (.slice none 0 0) ([] : List α) :: R) :=
  h.add _ (fun s _ => ⟨none, 0, rfl, ⟨by simp, by simp [dY]⟩, fun h => by simp at h⟩)

theorem S.stays {α : Type} [Rep α] {w : World} {i : Nat} {v : Value} {T : TypeId} {sz m : Nat} {cs : List Value} {xs : List α} (h : S w0 w H R) (hi : H[i]? = some (.row v T sz m cs)) (hsz : Rep.size α = sz) (h0 : 0 < sz) (hx : Cx cs xs ∈ R) :
    ∃ A c, v = .slice A xs.length c ∧ S w0 w (H.eraseIdx i) (Sl (.slice A xs.length c) xs :: R) := by
  subst hsz
  have hcl : cs.length = xs.length * Rep.size α := by
    obtain ⟨s, hs⟩ := h
    exact (hs.rd _ hx).1
  have hml : xs.length = m := by
    obtain ⟨s, hs⟩ := h
    have h1 := (hs.hp _ (List.mem_of_getElem? hi)).1.1
    rw [hcl] at h1
    exact Nat.eq_of_mul_eq_mul_right h0 h1
  rcases h.unrow hi with ⟨rfl, hm0, hnil⟩ | ⟨b, cap, sp, rfl, h2, h3, h4, h5, h6⟩
  · have : xs = [] := List.eq_nil_of_length_eq_zero (by omega)
    subst this
    exact ⟨none, 0, rfl, (h.drop i).sl_nil α⟩
  · subst hml
    refine ⟨some ⟨b, 0, none⟩, cap, rfl, ?_⟩
    have hlt : i < H.length := (List.getElem?_eq_some_iff.1 hi).1
    have h7 := h6.freeze (i := i) (b := b) (cs := cs ++ sp) (T := T) (by rw [List.getElem?_set_self hlt])
    have e : (H.set i (.blk b (cs ++ sp) T)).eraseIdx i = H.eraseIdx i := by rw [List.eraseIdx_set_eq]
    rw [e] at h7
    have h8 := h7.add (Sl (.slice (some ⟨b, 0, none⟩) xs.length cap) xs) (fun s hR => by
      have hat := hR (At b 0 (cs ++ sp)) (by simp)
      obtain ⟨_, hcx⟩ := hR (Cx cs xs) (by simp [hx])
      refine ⟨_, _, rfl, ⟨h4, by simp only [maxLen] at h5; simp only [dY]; omega⟩, fun _ => ⟨b, 0, rfl, fun k x hk => ⟨_, hcx k x hk, fun j v hj => ?_⟩⟩⟩
      rw [List.getElem?_take] at hj
      split at hj
      · rename_i hjlt
        rw [List.getElem?_drop] at hj
        have := hat (k * Rep.size α + j) v (by rw [List.getElem?_append_left (List.getElem?_eq_some_iff.1 hj).1]; exact hj)
        simpa [Nat.add_assoc] using this
      · cases hj)
    exact h8.weaken (List.Sublist.refl _) (fun p hp => by
      rcases List.mem_cons.1 hp with rfl | hp
      · simp
      · simp [hp])
/-- A block that holds the cells of 'xs' is made to stay, as the slice of all of it. -/
theorem S.blk_stays {α : Type} [Rep α] {w : World} {i b n c : Nat} {T : TypeId} {cs sp : List Value} {xs : List α} (h : S w0 w H R) (hi : H[i]? = some (.blk b (cs ++ sp) T)) (hx : Cx cs xs ∈ R) (hn : n = xs.length) (hc : n ≤ c) (hcm : c ≤ dY) :
    S w0 w (H.eraseIdx i) (Sl (.slice (some ⟨b, 0, none⟩) n c) xs :: R) := by
  subst hn
  have h7 := h.freeze hi
  have h8 := h7.add (Sl (.slice (some ⟨b, 0, none⟩) xs.length c) xs) (fun s hR => by
    have hat := hR (At b 0 (cs ++ sp)) (by simp)
    obtain ⟨_, hcx⟩ := hR (Cx cs xs) (by simp [hx])
    refine ⟨_, _, rfl, ⟨hc, hcm⟩, fun _ => ⟨b, 0, rfl, fun k x hk => ⟨_, hcx k x hk, fun j v hj => ?_⟩⟩⟩
    rw [List.getElem?_take] at hj
    split at hj
    · rename_i hjlt
      rw [List.getElem?_drop] at hj
      have := hat (k * Rep.size α + j) v (by rw [List.getElem?_append_left (List.getElem?_eq_some_iff.1 hj).1]; exact hj)
      simpa [Nat.add_assoc] using this
    · cases hj)
  exact h8.weaken (List.Sublist.refl _) (fun p hp => by
    rcases List.mem_cons.1 hp with rfl | hp
    · simp
    · simp [hp])

theorem S.bytes_stay {w : World} {i b n c : Nat} {T : TypeId} {xs : List UInt8} (h : S w0 w H R) (hi : H[i]? = some (.blk b (bA xs) T)) (hn : n = xs.length) (hc : n ≤ c) (hcm : c ≤ dY) :
    S w0 w (H.eraseIdx i) (Sl (.slice (some ⟨b, 0, none⟩) n c) xs :: R) :=
  ((h.learn (Cx (bA xs) xs) (fun s _ => tT _ s)).blk_stays (i := i) (cs := bA xs) (sp := []) (by simpa using hi) (by simp) hn hc hcm).weaken (List.Sublist.refl _) (fun p hp => by
    rcases List.mem_cons.1 hp with rfl | hp
    · simp
    · simp [hp])
theorem K_bool {K : Value → List Hp → List MP → Prop} {a b : Bool} (h : a = b) (hk : K (.bool b) H R) : K (.bool a) H R := h ▸ hk
theorem aP [Wd F] {dst : Option Tmp} {t : TypeId} {x : Operand} {ty : TypeId} {pos : String} {aft : Array Edge} {g : Option (Nat × Bool)} (hw : Region.wanted ⟨dst, .load t x, ty, pos, aft, g⟩ (yielded ops E.toArray) = true)
    (h : PW P w0 E (.load t x) ty H R (fun v R' => T F n P w0 D ops Q rest (dP E dst v) H R')) : T F n P w0 D ops Q (⟨dst, .load t x, ty, pos, aft, g⟩ :: rest) E H R := aE hw rfl h
theorem aU [Wd F] {dst : Option Tmp} {o : BinOp} {t t' : TypeId} {x y : Operand} {ty : TypeId} {pos : String} {aft : Array Edge} {g : Option (Nat × Bool)} (hw : Region.wanted ⟨dst, .binOp o t x y t', ty, pos, aft, g⟩ (yielded ops E.toArray) = true)
    (h : PW P w0 E (.binOp o t x y t') ty H R (fun v R' => T F n P w0 D ops Q rest (dP E dst v) H R')) : T F n P w0 D ops Q (⟨dst, .binOp o t x y t', ty, pos, aft, g⟩ :: rest) E H R := aE hw rfl h
theorem gL [Wd F] {dst : Option Tmp} {t : TypeId} {x y : Operand} {ty : TypeId} {pos : String} {aft : Array Edge} {g : Option (Nat × Bool)} (hw : Region.wanted ⟨dst, .indexAddr t x y, ty, pos, aft, g⟩ (yielded ops E.toArray) = true)
    (h : PW P w0 E (.indexAddr t x y) ty H R (fun v R' => T F n P w0 D ops Q rest (dP E dst v) H R')) : T F n P w0 D ops Q (⟨dst, .indexAddr t x y, ty, pos, aft, g⟩ :: rest) E H R := aE hw rfl h
theorem bD [Wd F] {dst : Option Tmp} {t : TypeId} {x y : Operand} {ty : TypeId} {pos : String} {aft : Array Edge} {g : Option (Nat × Bool)} (hw : Region.wanted ⟨dst, .store t x y, ty, pos, aft, g⟩ (yielded ops E.toArray) = true)
    (h : GW P w0 E (.store t x y) ty H R (fun v H' R' => T F n P w0 D ops Q rest (dP E dst v) H' R')) : T F n P w0 D ops Q (⟨dst, .store t x y, ty, pos, aft, g⟩ :: rest) E H R := bG hw rfl h
theorem S.shape {w : World} {i : Nat} {v : Value} {T : TypeId} {sz m : Nat} {cs : List Value} (h : S w0 w H R) (hi : H[i]? = some (.row v T sz m cs)) : ∃ A c, v = .slice A m c := by
  rcases h.unrow hi with ⟨rfl, h0, _⟩ | ⟨b, cap, sp, h1, _⟩
  · subst h0; exact ⟨_, _, rfl⟩
  · exact ⟨_, _, h1⟩
theorem gA (i : Nat) {v : Value} {T' : TypeId} {sz m : Nat} {cs : List Value} (hi : H[i]? = some (.row v T' sz m cs)) (k : ∀ A c, v = .slice A m c → T F n P w0 D ops Q rest E H R) : T F n P w0 D ops Q rest E H R := fun w hs => by
  obtain ⟨A, c, e⟩ := hs.shape hi
  exact k A c e w hs
theorem oL {co : Code} (i : Nat) {v : Value} {T' : TypeId} {sz m : Nat} {cs : List Value} (hi : H[i]? = some (.row v T' sz m cs)) (k : ∀ A c, v = .slice A m c → TC F n P w0 D co Q E H R) : TC F n P w0 D co Q E H R := fun w hs => by
  obtain ⟨A, c, e⟩ := hs.shape hi
  exact k A c e w hs
theorem j5 {Hc : List Hp} {Rc : List MP} {kk : Nat} {listed : Array Bool} (i : Nat) {v : Value} {T' : TypeId} {sz m : Nat} {cs : List Value} (hi : H[i]? = some (.row v T' sz m cs)) (k : ∀ A c, v = .slice A m c → TA F n P w0 D ops Q Hc Rc kk listed E H R) : TA F n P w0 D ops Q Hc Rc kk listed E H R := fun hreg w hs => by
  obtain ⟨A, c, e⟩ := hs.shape hi
  exact k A c e hreg w hs
theorem jX (i : Nat) {v : Value} {m : Nat} {xs : List UInt8} (hi : H[i]? = some (.row v 5 1 m (bA xs))) (k : ∀ A c, v = .slice A xs.length c → T F n P w0 D ops Q rest E (H.eraseIdx i) (Sl (.slice A xs.length c) xs :: R)) : T F n P w0 D ops Q rest E H R := fun w hs => by
  obtain ⟨A, c, e, h⟩ := hs.row_stays hi
  exact k A c e w h
theorem zK {Hc : List Hp} {Rc : List MP} {kk : Nat} {listed : Array Bool} (i : Nat) {v : Value} {m : Nat} {xs : List UInt8} (hi : H[i]? = some (.row v 5 1 m (bA xs))) (k : ∀ A c, v = .slice A xs.length c → TA F n P w0 D ops Q Hc Rc kk listed E (H.eraseIdx i) (Sl (.slice A xs.length c) xs :: R)) : TA F n P w0 D ops Q Hc Rc kk listed E H R := fun hreg w hs => by
  obtain ⟨A, c, e, h⟩ := hs.row_stays hi
  exact tG _ _ _ _ _ _ _ w (k A c e hreg w h)
theorem zW {α : Type} [Rep α] (i : Nat) {v : Value} {T' : TypeId} {sz m : Nat} {cs : List Value} {xs : List α} (hi : H[i]? = some (.row v T' sz m cs)) (hsz : Rep.size α = sz) (h0 : 0 < sz) (hx : Cx cs xs ∈ R) (k : ∀ A c, v = .slice A xs.length c → T F n P w0 D ops Q rest E (H.eraseIdx i) (Sl (.slice A xs.length c) xs :: R)) : T F n P w0 D ops Q rest E H R := fun w hs => by
  obtain ⟨A, c, e, h⟩ := hs.stays hi hsz h0 hx
  exact k A c e w h
theorem yI {co : Code} {α : Type} [Rep α] (i : Nat) {v : Value} {T' : TypeId} {sz m : Nat} {cs : List Value} {xs : List α} (hi : H[i]? = some (.row v T' sz m cs)) (hsz : Rep.size α = sz) (h0 : 0 < sz) (hx : Cx cs xs ∈ R) (k : ∀ A c, v = .slice A xs.length c → TC F n P w0 D co Q E (H.eraseIdx i) (Sl (.slice A xs.length c) xs :: R)) : TC F n P w0 D co Q E H R := fun w hs => by
  obtain ⟨A, c, e, h⟩ := hs.stays hi hsz h0 hx
  exact k A c e w h
theorem iG (p : MP) (hp : ∀ s : Sto, (∀ q ∈ R, q.p s) → p.p s) (k : T F n P w0 D ops Q rest E H (p :: R)) : T F n P w0 D ops Q rest E H R := fun w hs => k w (hs.add p hp)
theorem rV {co : Code} (p : MP) (hp : ∀ s : Sto, (∀ q ∈ R, q.p s) → p.p s) (k : TC F n P w0 D co Q E H (p :: R)) : TC F n P w0 D co Q E H R := fun w hs => k w (hs.add p hp)
theorem r8 {Hc : List Hp} {Rc : List MP} {kk : Nat} {listed : Array Bool} (p : MP) (hp : ∀ s : Sto, (∀ q ∈ R, q.p s) → p.p s) (k : TA F n P w0 D ops Q Hc Rc kk listed E H (p :: R)) : TA F n P w0 D ops Q Hc Rc kk listed E H R := eQ (fun w hs => hs.add p hp) k
theorem gW {f : FuncId} {args : Array Value} {K : Value → List Hp → List MP → Prop} (p : MP) (hp : ∀ s : Sto, (∀ q ∈ R, q.p s) → p.p s) (k : CallsK P w0 f args H (p :: R) K) : CallsK P w0 f args H R K := fun w hs => k w (hs.add p hp)
theorem kN (α : Type) [Rep α] (s : Sto) : (Sl (.slice none 0 0) ([] : List α)).p s := ⟨none, 0, rfl, ⟨by simp, by simp [dY]⟩, fun h => by simp at h⟩
theorem mZ {co : Code} (T' : TypeId) (size : Nat) (k : TC F n P w0 D co Q E (.row (.slice none 0 0) T' size 0 [] :: H) R) : TC F n P w0 D co Q E H R := fun w hs => k w (hs.nilrow T' size)
end
end Go.Proofs.YtggdljhmbckpmaaGreat
namespace Go.Proofs.YtggdljhmbckpmaaGreat
open Go Go.RowKit
attribute [local semireducible] T TC En PW GW CallsK CallsP Sl Rd Ls At S TA
section
variable {P : Program} {w0 : World} {E : List Value} {H : List Hp} {R : List MP} {ty : TypeId} {K : Value → List MP → Prop}
/-- The amount of a number; of the least one 0. -/
def amt (p : Int) : Nat := if p = -9223372036854775808 then 0 else p.natAbs
theorem pw_amt {ts : Array TypeId} {x y z : Operand} {p : Int} (hI : dD p) (hx : ev E x = .int .i64 p) (hy : ev E y = .int .i64 (IntKind.i64.wrap (0 - p))) (hz : ev E z = .int .i64 0) (kk : K (.int .i64 ((amt p : Nat) : Int)) R) : PW P w0 E (.call ⟨.builtin .max, #[x, y, z], ts⟩) ty H R K :=
  fun w s hs => ⟨_, R, fun w' _ => by
    have e : (if (0 : Int) > (if IntKind.i64.wrap (0 - p) > p then IntKind.i64.wrap (0 - p) else p) then 0 else (if IntKind.i64.wrap (0 - p) > p then IntKind.i64.wrap (0 - p) else p)) = (amt p : Int) := by
      unfold dD at hI
      unfold amt
      by_cases h : p = -9223372036854775808
      · subst h; decide
      · rw [nJ (k := .i64) (by simp [IntKind.min, IntKind.signed, IntKind.bits]; omega) (by simp [IntKind.max, IntKind.signed, IntKind.bits]; omega), if_neg h]
        split <;> split <;> omega
    simp only [lR, execOp, resolve, invoke, builtin, List.map_toArray, List.map_cons, List.map_nil, hx, hy, hz, Sem.run_bind, Sem.run_pure, Result.andThen_ok, run_max_int3, e], fun _ h => h, hs.rd, kk⟩
theorem xJ {t t' : TypeId} {x y : Operand} {a m : Nat} (hx : ev E x = .int .i64 (a : Int)) (hy : ev E y = .int .i64 (m : Int)) (hm : 0 < m) (kk : ∀ r : Nat, Hid (r = a % m) → r < m → K (.int .i64 (r : Int)) R) : PW P w0 E (.binOp .rem t x y t') ty H R K :=
  mD hx hy (by omega) (by omega) (by
    have := kk (a % m) (Lib.hid rfl) (Nat.mod_lt _ hm)
    rw [Int.natCast_emod] at this; exact this)
end
end Go.Proofs.YtggdljhmbckpmaaGreat
namespace Go.Proofs.YtggdljhmbckpmaaGreat
open Go Go.RowKit
attribute [local semireducible] T TC En PW GW CallsK CallsP Sl Rd Ls At S TA
section
variable {F : Fence} {n : Nat} {P : Program} {w0 : World} {D : List Deferred} {ops : Array Oper} {Q : Exit → Act → World → Prop} {Hc : List Hp} {Rc : List MP} {E : List Value} {H : List Hp} {R : List MP}
theorem bL {α : Type _} {a : α} {l L : List α} (h : a ∈ L) (k : ∀ p ∈ l, p ∈ L) : ∀ p ∈ a :: l, p ∈ L := fun p hp => by
  rcases List.mem_cons.1 hp with rfl | hp
  · exact h
  · exact k p hp
theorem cut1 {G : Nat → Prop} {p : Prop} (h : (∀ b, G b) → p) (k : ∀ b, G b) : p := h k
theorem cut2 {G : Nat → Nat → Prop} {p : Prop} (h : (∀ b c, G b c) → p) (k : ∀ b c, G b c) : p := h k
/-- Two may come up. -/
theorem TA_two' (i j : Nat) {di dj : Option Tmp} {oi oj : Op} {ti tj : TypeId} {pi pj : String} {ai aj : Array Edge} {gi gj : Option (Nat × Bool)} {k : Nat} {listed li lj : Array Bool} (hr : Region.ready .any ops listed = [i, j]) (ho : ops[i]? = some ⟨di, oi, ti, pi, ai, gi⟩) (ho' : ops[j]? = some ⟨dj, oj, tj, pj, aj, gj⟩) (hli : listed.setIfInBounds i true = li) (hlj : listed.setIfInBounds j true = lj)
    (hw : lX ops ⟨di, oi, ti, pi, ai, gi⟩ E = true) (hw' : lX ops ⟨dj, oj, tj, pj, aj, gj⟩ E = true)
    (h : OW F n P w0 D Q ⟨di, oi, ti, pi, ai, gi⟩ E H R (fun v H' R' => ((∀ w, S w0 w H' R' → S w0 w Hc Rc) ∨ fW ops i = true) ∧ TA F n P w0 D ops Q Hc Rc k li (dP E di v) H' R'))
    (h' : OW F n P w0 D Q ⟨dj, oj, tj, pj, aj, gj⟩ E H R (fun v H' R' => ((∀ w, S w0 w H' R' → S w0 w Hc Rc) ∨ fW ops j = true) ∧ TA F n P w0 D ops Q Hc Rc k lj (dP E dj v) H' R')) : TA F n P w0 D ops Q Hc Rc (k + 1) listed E H R :=
  TA_two i j hr ho ho' hli hlj hw hw' h h'
/-- Three may come up. -/
theorem m6 (i j l : Nat) {di dj dl : Option Tmp} {oi oj ol : Op} {ti tj tl : TypeId} {pi pj pl : String} {ai aj al : Array Edge} {gi gj gl : Option (Nat × Bool)} {k : Nat} {listed li lj ll : Array Bool} (hr : Region.ready .any ops listed = [i, j, l]) (ho : ops[i]? = some ⟨di, oi, ti, pi, ai, gi⟩) (ho' : ops[j]? = some ⟨dj, oj, tj, pj, aj, gj⟩) (ho2 : ops[l]? = some ⟨dl, ol, tl, pl, al, gl⟩) (hli : listed.setIfInBounds i true = li) (hlj : listed.setIfInBounds j true = lj) (hll : listed.setIfInBounds l true = ll)
    (hw : lX ops ⟨di, oi, ti, pi, ai, gi⟩ E = true) (hw' : lX ops ⟨dj, oj, tj, pj, aj, gj⟩ E = true) (hw2 : lX ops ⟨dl, ol, tl, pl, al, gl⟩ E = true)
    (h : OW F n P w0 D Q ⟨di, oi, ti, pi, ai, gi⟩ E H R (fun v H' R' => ((∀ w, S w0 w H' R' → S w0 w Hc Rc) ∨ fW ops i = true) ∧ TA F n P w0 D ops Q Hc Rc k li (dP E di v) H' R'))
    (h' : OW F n P w0 D Q ⟨dj, oj, tj, pj, aj, gj⟩ E H R (fun v H' R' => ((∀ w, S w0 w H' R' → S w0 w Hc Rc) ∨ fW ops j = true) ∧ TA F n P w0 D ops Q Hc Rc k lj (dP E dj v) H' R'))
    (h2 : OW F n P w0 D Q ⟨dl, ol, tl, pl, al, gl⟩ E H R (fun v H' R' => ((∀ w, S w0 w H' R' → S w0 w Hc Rc) ∨ fW ops l = true) ∧ TA F n P w0 D ops Q Hc Rc k ll (dP E dl v) H' R')) : TA F n P w0 D ops Q Hc Rc (k + 1) listed E H R := by
  subst hli; subst hlj; subst hll
  exact tE hr (by simp) (fun q hq o2 hoq => by
    simp at hq
    rcases hq with rfl | rfl | rfl
    · rw [ho] at hoq; cases hoq; exact ⟨fun _ => h, fun hf => by rw [hw] at hf; cases hf⟩
    · rw [ho'] at hoq; cases hoq; exact ⟨fun _ => h', fun hf => by rw [hw'] at hf; cases hf⟩
    · rw [ho2] at hoq; cases hoq; exact ⟨fun _ => h2, fun hf => by rw [hw2] at hf; cases hf⟩)
end
end Go.Proofs.YtggdljhmbckpmaaGreat
namespace Go.Proofs.YtggdljhmbckpmaaGreat
open Go Go.RowKit
section
variable {F : Fence} {n : Nat} {P : Program} {w0 : World} {D : List Deferred} {ops : Array Oper} {Q : Exit → Act → World → Prop} {rest : List Oper} {E : List Value} {H Hc : List Hp} {R Rc : List MP} {ty : TypeId} {K : Value → List MP → Prop}
theorem aB {E' : List Value} (k : T F n P w0 D ops Q rest E' H R) (h : E = E' := by simp only [dP, List.set_cons_succ, List.set_cons_zero]; rfl) : T F n P w0 D ops Q rest E H R := T_env h k
theorem aJ {k : Nat} {listed : Array Bool} {E' : List Value} (kk : TA F n P w0 D ops Q Hc Rc k listed E' H R) (h : E = E' := by simp only [dP, List.set_cons_succ, List.set_cons_zero]; rfl) : TA F n P w0 D ops Q Hc Rc k listed E H R := wJ h kk
theorem aH {x : Operand} {v : Value} (k : K v R) (hx : ev E x = v := by simp only [ev, List.getD_cons_zero, List.getD_cons_succ]; rfl) : PW P w0 E (.move x) ty H R K := pw_move hx k
theorem aX {x : Operand} {v : Value} (k : K v R) (hx : ev E x = v := by simp only [ev, List.getD_cons_zero, List.getD_cons_succ]; rfl) : PW P w0 E (.assign x) ty H R K := yB hx k
theorem cA {H' : List Hp} (k : T F n P w0 D ops Q rest E H' R) (h : H = H' := by simp only [List.set_cons_succ, List.set_cons_zero, List.eraseIdx_cons_zero, List.eraseIdx_cons_succ, fR, List.take_succ_cons, List.take_zero, List.drop_succ_cons, List.drop_zero, List.length_cons, List.length_nil, Nat.zero_add, Nat.reduceAdd, List.nil_append, List.cons_append, List.append_nil]; rfl) : T F n P w0 D ops Q rest E H R := T_hp h k
theorem jC {k : Nat} {listed : Array Bool} {H' : List Hp} (kk : TA F n P w0 D ops Q Hc Rc k listed E H' R) (h : H = H' := by simp only [List.set_cons_succ, List.set_cons_zero, List.eraseIdx_cons_zero, List.eraseIdx_cons_succ, fR, List.take_succ_cons, List.take_zero, List.drop_succ_cons, List.drop_zero, List.length_cons, List.length_nil, Nat.zero_add, Nat.reduceAdd, List.nil_append, List.cons_append, List.append_nil]; rfl) : TA F n P w0 D ops Q Hc Rc k listed E H R := TA_hp h kk
end
/-! ### closers -/
theorem rZ {α : Sort _} {a b : α} (h : a = b := by simp only [List.set_cons_succ, List.set_cons_zero, List.eraseIdx_cons_zero, List.eraseIdx_cons_succ, fR, List.take_succ_cons, List.take_zero, List.drop_succ_cons, List.drop_zero, List.length_cons, List.length_nil, Nat.zero_add, Nat.reduceAdd, List.nil_append, List.cons_append, List.append_nil]; rfl) : a = b := h
theorem eJ {a b : Value} (h : a = b := by simp only [ev, List.getD_cons_zero, List.getD_cons_succ]; rfl) : a = b := h
theorem cW {α : Sort _} {a b : α} (h : a = b := by simp only [ev, List.getD_cons_zero, List.getD_cons_succ, Value.cells]; rfl) : a = b := h
theorem gP {α : Sort _} {a b : α} (h : a = b := by simp only [List.map_cons, List.map_nil, ev, List.getD_cons_zero, List.getD_cons_succ]; rfl) : a = b := h
theorem fA {α : Sort _} {a b : α} (h : a = b := by simp only [List.map_cons, List.map_nil, List.nil_append, List.cons_append, List.append_nil, ev, List.getD_cons_zero, List.getD_cons_succ]; rfl) : a = b := h
theorem eZ {α : Sort _} {a b : α} (h : a = b := by simp only [List.length_cons, List.length_nil, Nat.reduceAdd, Nat.reduceSub, List.replicate_succ, List.replicate_zero, List.cons_append, List.nil_append]; rfl) : a = b := h
theorem eE {α : Sort _} {a b : α} (h : a = b := by simp only [dX, List.foldl_cons, List.foldl_nil, List.set_cons_succ, List.set_cons_zero, List.getD_cons_zero, List.getD_cons_succ]) : a = b := h
theorem cJ {α : Type _} {a : α} {l : List α} (h : a ∈ l := by repeat (first | with_reducible apply List.mem_cons_self | with_reducible assumption | with_reducible apply List.mem_cons_of_mem)) : a ∈ l := h
theorem aV {α : Type _} {a : α} {l : List α} (h : a ∈ l := by first | ((repeat (first | with_reducible apply List.mem_cons_self | with_reducible assumption | with_reducible apply List.mem_cons_of_mem)); done) | repeat (first | exact List.Mem.head _ | assumption | apply List.Mem.tail)) : a ∈ l := h
theorem uD {α : Type _} {a : α} {l : List α} (h : a ∈ l := by first | ((repeat (first | with_reducible apply List.mem_cons_self | with_reducible assumption | with_reducible apply List.mem_cons_of_mem)); done) | ((repeat (first | exact List.Mem.head _ | assumption | apply List.Mem.tail)); done)) : a ∈ l := h
theorem gI {α : Sort _} {a b : α} (h : a = b := by repeat' first | refine vJ rfl cW (by rfl) (by exact Nat.le_of_ble_eq_true rfl) (by simp only [iL]; rfl) ?_ | exact wA) : a = b := h
theorem fD {α : Sort _} {a b : α} (h : a = b := by refine tA ?_; repeat' first | refine tV cW (by rfl) (by simp only [List.cons_append, List.nil_append]; rfl) ?_ | exact vT) : a = b := h
theorem bU {a b : List Hp} (h : a.Sublist b := by repeat (first | exact List.Sublist.refl _ | with_reducible apply List.Sublist.cons_cons | apply List.Sublist.cons)) : a.Sublist b := h
theorem cZ {R R' : List MP} (h : ∀ p ∈ R', p ∈ R := by first | (intro p hp; with_reducible exact hp) | (repeat' (first | with_reducible refine bL aV ?_ | (intro p hp; repeat (first | with_reducible exact hp | with_reducible apply List.mem_cons_of_mem))))) : ∀ p ∈ R', p ∈ R := h
section
variable {F : Fence} {n : Nat} {P : Program} {w0 : World} {D : List Deferred} {ops : Array Oper} {Q : Exit → Act → World → Prop} {rest : List Oper} {E : List Value} {H Hc : List Hp} {R Rc : List MP}
theorem bR [Wd F] (i : Nat) {dst : Option Tmp} {op : Op} {ty : TypeId} {pos : String} {aft : Array Edge} {g : Option (Nat × Bool)} {k : Nat} {listed listed' : Array Bool} (hS : Hc.Sublist H) (h : PW P w0 E op ty Hc R (fun v R' => TA F n P w0 D ops Q Hc R' k listed' (dP E dst v) H R'))
    (hi : ops[i]? = some ⟨dst, op, ty, pos, aft, g⟩ := by exact rfl) (hl : listed.setIfInBounds i true = listed' := by simp only [List.setIfInBounds_toArray, List.set_cons_succ, List.set_cons_zero]; rfl) (hf : (Region.free .any ops listed i && (Region.ready .any ops listed).contains i) = true := by decide +kernel)
    (hw : lX ops ⟨dst, op, ty, pos, aft, g⟩ E = true := by exact rfl) (hd : hZ op = true := by exact rfl) : TA F n P w0 D ops Q Hc R (k + 1) listed E H R := xO i hi hf hl hw hd hS h
theorem bF [Wd F] (i : Nat) {dst : Option Tmp} {op : Op} {ty : TypeId} {pos : String} {aft : Array Edge} {g : Option (Nat × Bool)} {k : Nat} {listed listed' : Array Bool} (h : PW P w0 E op ty H R (fun v R' => TA F n P w0 D ops Q H R' k listed' (dP E dst v) H R'))
    (hi : ops[i]? = some ⟨dst, op, ty, pos, aft, g⟩ := by exact rfl) (hl : listed.setIfInBounds i true = listed' := by simp only [List.setIfInBounds_toArray, List.set_cons_succ, List.set_cons_zero]; rfl) (hf : (Region.free .any ops listed i && (Region.ready .any ops listed).contains i) = true := by decide +kernel)
    (hw : lX ops ⟨dst, op, ty, pos, aft, g⟩ E = true := by exact rfl) (hd : hZ op = true := by exact rfl) : TA F n P w0 D ops Q H R (k + 1) listed E H R := xO i hi hf hl hw hd (List.Sublist.refl _) h
theorem dH [Wd F] (i : Nat) {dst : Option Tmp} {op : Op} {ty : TypeId} {pos : String} {aft : Array Edge} {g : Option (Nat × Bool)} {k : Nat} {listed listed' : Array Bool} {E' : List Value} (hS : Hc.Sublist H) (h : TA F n P w0 D ops Q Hc R k listed' E' H R)
    (hi : ops[i]? = some ⟨dst, op, ty, pos, aft, g⟩ := by exact rfl) (hl : listed.setIfInBounds i true = listed' := by simp only [List.setIfInBounds_toArray, List.set_cons_succ, List.set_cons_zero]; rfl) (hf : (Region.free .any ops listed i && (Region.ready .any ops listed).contains i) = true := by decide +kernel)
    (hw : lX ops ⟨dst, op, ty, pos, aft, g⟩ E = false := by exact rfl) (he : dP E dst undef = E' := by simp only [dP, List.set_cons_succ, List.set_cons_zero]; rfl) : TA F n P w0 D ops Q Hc R (k + 1) listed E H R := aA9 i hi hf hl hw hS (wJ he h)
theorem fN (i : Nat) {dst : Option Tmp} {op : Op} {ty : TypeId} {pos : String} {aft : Array Edge} {g : Option (Nat × Bool)} {k : Nat} {listed listed' : Array Bool} (h : OW F n P w0 D Q ⟨dst, op, ty, pos, aft, g⟩ E H R (fun v H' R' => ((∀ w, S w0 w H' R' → S w0 w Hc Rc) ∨ fW ops i = true) ∧ TA F n P w0 D ops Q Hc Rc k listed' (dP E dst v) H' R'))
    (hi : ops[i]? = some ⟨dst, op, ty, pos, aft, g⟩ := by exact rfl) (hl : listed.setIfInBounds i true = listed' := by simp only [List.setIfInBounds_toArray, List.set_cons_succ, List.set_cons_zero]; rfl) (hr : Region.ready .any ops listed = [i] := by decide +kernel) (hw : lX ops ⟨dst, op, ty, pos, aft, g⟩ E = true := by exact rfl) : TA F n P w0 D ops Q Hc Rc (k + 1) listed E H R := i9 i hr hi hl hw h
theorem lL [Wd F] (i : Nat) {dst : Option Tmp} {op : Op} {ty : TypeId} {pos : String} {aft : Array Edge} {g : Option (Nat × Bool)} {k : Nat} {listed listed' : Array Bool} (h : GW P w0 E op ty H R (fun v H' R' => ((∀ w, S w0 w H' R' → S w0 w Hc Rc) ∨ fW ops i = true) ∧ TA F n P w0 D ops Q Hc Rc k listed' (dP E dst v) H' R'))
    (hi : ops[i]? = some ⟨dst, op, ty, pos, aft, g⟩ := by exact rfl) (hl : listed.setIfInBounds i true = listed' := by simp only [List.setIfInBounds_toArray, List.set_cons_succ, List.set_cons_zero]; rfl) (hr : Region.ready .any ops listed = [i] := by decide +kernel) (hw : lX ops ⟨dst, op, ty, pos, aft, g⟩ E = true := by exact rfl) (hd : hZ op = true := by exact rfl) : TA F n P w0 D ops Q Hc Rc (k + 1) listed E H R := TA_gen i hr hi hl hw hd h
theorem nV (i j : Nat) {di dj : Option Tmp} {oi oj : Op} {ti tj : TypeId} {pi pj : String} {ai aj : Array Edge} {gi gj : Option (Nat × Bool)} {k : Nat} {listed li lj : Array Bool}
    (h : OW F n P w0 D Q ⟨di, oi, ti, pi, ai, gi⟩ E H R (fun v H' R' => ((∀ w, S w0 w H' R' → S w0 w Hc Rc) ∨ fW ops i = true) ∧ TA F n P w0 D ops Q Hc Rc k li (dP E di v) H' R'))
    (h' : OW F n P w0 D Q ⟨dj, oj, tj, pj, aj, gj⟩ E H R (fun v H' R' => ((∀ w, S w0 w H' R' → S w0 w Hc Rc) ∨ fW ops j = true) ∧ TA F n P w0 D ops Q Hc Rc k lj (dP E dj v) H' R'))
    (ho : ops[i]? = some ⟨di, oi, ti, pi, ai, gi⟩ := by exact rfl) (ho' : ops[j]? = some ⟨dj, oj, tj, pj, aj, gj⟩ := by exact rfl) (hli : listed.setIfInBounds i true = li := by simp only [List.setIfInBounds_toArray, List.set_cons_succ, List.set_cons_zero]; rfl) (hlj : listed.setIfInBounds j true = lj := by simp only [List.setIfInBounds_toArray, List.set_cons_succ, List.set_cons_zero]; rfl) (hr : Region.ready .any ops listed = [i, j] := by decide +kernel)
    (hw : lX ops ⟨di, oi, ti, pi, ai, gi⟩ E = true := by exact rfl) (hw' : lX ops ⟨dj, oj, tj, pj, aj, gj⟩ E = true := by exact rfl) : TA F n P w0 D ops Q Hc Rc (k + 1) listed E H R := TA_two' i j hr ho ho' hli hlj hw hw' h h'
theorem TA_3 (i j l : Nat) {di dj dl : Option Tmp} {oi oj ol : Op} {ti tj tl : TypeId} {pi pj pl : String} {ai aj al : Array Edge} {gi gj gl : Option (Nat × Bool)} {k : Nat} {listed li lj ll : Array Bool}
    (h : OW F n P w0 D Q ⟨di, oi, ti, pi, ai, gi⟩ E H R (fun v H' R' => ((∀ w, S w0 w H' R' → S w0 w Hc Rc) ∨ fW ops i = true) ∧ TA F n P w0 D ops Q Hc Rc k li (dP E di v) H' R'))
    (h' : OW F n P w0 D Q ⟨dj, oj, tj, pj, aj, gj⟩ E H R (fun v H' R' => ((∀ w, S w0 w H' R' → S w0 w Hc Rc) ∨ fW ops j = true) ∧ TA F n P w0 D ops Q Hc Rc k lj (dP E dj v) H' R'))
    (h2 : OW F n P w0 D Q ⟨dl, ol, tl, pl, al, gl⟩ E H R (fun v H' R' => ((∀ w, S w0 w H' R' → S w0 w Hc Rc) ∨ fW ops l = true) ∧ TA F n P w0 D ops Q Hc Rc k ll (dP E dl v) H' R'))
    (ho : ops[i]? = some ⟨di, oi, ti, pi, ai, gi⟩ := by exact rfl) (ho' : ops[j]? = some ⟨dj, oj, tj, pj, aj, gj⟩ := by exact rfl) (ho2 : ops[l]? = some ⟨dl, ol, tl, pl, al, gl⟩ := by exact rfl) (hli : listed.setIfInBounds i true = li := by simp only [List.setIfInBounds_toArray, List.set_cons_succ, List.set_cons_zero]; rfl) (hlj : listed.setIfInBounds j true = lj := by simp only [List.setIfInBounds_toArray, List.set_cons_succ, List.set_cons_zero]; rfl) (hll : listed.setIfInBounds l true = ll := by simp only [List.setIfInBounds_toArray, List.set_cons_succ, List.set_cons_zero]; rfl) (hr : Region.ready .any ops listed = [i, j, l] := by decide +kernel)
    (hw : lX ops ⟨di, oi, ti, pi, ai, gi⟩ E = true := by exact rfl) (hw' : lX ops ⟨dj, oj, tj, pj, aj, gj⟩ E = true := by exact rfl) (hw2 : lX ops ⟨dl, ol, tl, pl, al, gl⟩ E = true := by exact rfl) : TA F n P w0 D ops Q Hc Rc (k + 1) listed E H R := m6 i j l hr ho ho' ho2 hli hlj hll hw hw' hw2 h h' h2
theorem gX {k : Nat} {listed : Array Bool} (h : En w0 D Q .normal E H R) (hr : (Region.ready .any ops listed).isEmpty = true := by decide +kernel) : TA F n P w0 D ops Q Hc Rc k listed E H R := jO hr h
end
end Go.Proofs.YtggdljhmbckpmaaGreat
