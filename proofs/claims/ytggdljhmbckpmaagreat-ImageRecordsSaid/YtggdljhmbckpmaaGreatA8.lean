/- Unsigned numbers as naturals. -/
import Derived.Test.YtggdljhmbckpmaaGreatA6
import Derived.Lib.SliceRun
set_option linter.unusedVariables false
set_option linter.unusedSimpArgs false
namespace Go.Proofs.YtggdljhmbckpmaaGreat
open Go Go.RowKit
attribute [local semireducible] T TC En PW GW CallsK CallsP Sl Rd Ls At S

section
variable {P : Program} {w0 : World} {E : List Value} {H : List Hp} {R : List MP} {ty : TypeId} {K : Value → List MP → Prop}

theorem wrap_nat {k : IntKind} (hk : k.signed = false) {n : Nat} (h : n < 2 ^ k.bits) : k.wrap (n : Int) = (n : Int) := by
  cases k <;> simp [IntKind.signed] at hk <;> simp [IntKind.wrap, IntKind.bits, IntKind.signed] at * <;> omega
theorem wrap_nat_mod {k : IntKind} (hk : k.signed = false) (n : Nat) : k.wrap (n : Int) = ((n % 2 ^ k.bits : Nat) : Int) := by
  cases k <;> simp [IntKind.signed] at hk <;> simp [IntKind.wrap, IntKind.bits, IntKind.signed]
theorem ofInt_nat (b n : Nat) : BitVec.ofInt b (n : Int) = BitVec.ofNat b n := by simp
theorem pw_nat {bop : BinOp} {t t' : TypeId} {x y : Operand} {k : IntKind} {a b : Nat} (hx : ev E x = .int k (a : Int)) (hy : ev E y = .int k (b : Int)) (hk : k.signed = false) (r : Nat) (hr : ∀ w : World, (binOp bop t (.int k (a : Int)) (.int k (b : Int))).run P w = .ok (.int k (r : Int)) w) (kk : K (.int k (r : Int)) R) : PW P w0 E (.binOp bop t x y t') ty H R K :=
  pw_bin hx hy hr kk
theorem pw_xor {t t' : TypeId} {x y : Operand} {k : IntKind} {a b : Nat} (hx : ev E x = .int k (a : Int)) (hy : ev E y = .int k (b : Int)) (hk : k.signed = false) (ha : a < 2 ^ k.bits) (hb : b < 2 ^ k.bits) (kk : K (.int k ((a ^^^ b : Nat) : Int)) R) : PW P w0 E (.binOp .xor t x y t') ty H R K :=
  pw_bin hx hy (fun w => by
    simp only [binOp, Op.intBits, ofInt_nat, ne_eq, not_true_eq_false, if_false, Sem.run_pure, BitVec.toNat_xor, BitVec.toNat_ofNat, Nat.mod_eq_of_lt ha, Nat.mod_eq_of_lt hb]
    rw [wrap_nat hk (Nat.xor_lt_two_pow ha hb)]) kk
theorem pw_or {t t' : TypeId} {x y : Operand} {k : IntKind} {a b : Nat} (hx : ev E x = .int k (a : Int)) (hy : ev E y = .int k (b : Int)) (hk : k.signed = false) (ha : a < 2 ^ k.bits) (hb : b < 2 ^ k.bits) (kk : K (.int k ((a ||| b : Nat) : Int)) R) : PW P w0 E (.binOp .or t x y t') ty H R K :=
  pw_bin hx hy (fun w => by
    simp only [binOp, Op.intBits, ofInt_nat, ne_eq, not_true_eq_false, if_false, Sem.run_pure, BitVec.toNat_or, BitVec.toNat_ofNat, Nat.mod_eq_of_lt ha, Nat.mod_eq_of_lt hb]
    rw [wrap_nat hk (Nat.or_lt_two_pow ha hb)]) kk
theorem pw_and {t t' : TypeId} {x y : Operand} {k : IntKind} {a b : Nat} (hx : ev E x = .int k (a : Int)) (hy : ev E y = .int k (b : Int)) (hk : k.signed = false) (ha : a < 2 ^ k.bits) (hb : b < 2 ^ k.bits) (kk : K (.int k ((a &&& b : Nat) : Int)) R) : PW P w0 E (.binOp .and t x y t') ty H R K :=
  pw_bin hx hy (fun w => by
    simp only [binOp, Op.intBits, ofInt_nat, ne_eq, not_true_eq_false, if_false, Sem.run_pure, BitVec.toNat_and, BitVec.toNat_ofNat, Nat.mod_eq_of_lt ha, Nat.mod_eq_of_lt hb]
    rw [wrap_nat hk (Nat.and_lt_two_pow _ hb)]) kk
theorem pw_muln {t t' : TypeId} {x y : Operand} {k : IntKind} {a b : Nat} (hx : ev E x = .int k (a : Int)) (hy : ev E y = .int k (b : Int)) (hk : k.signed = false) (kk : K (.int k ((a * b % 2 ^ k.bits : Nat) : Int)) R) : PW P w0 E (.binOp .mul t x y t') ty H R K :=
  pw_bin hx hy (fun w => by
    have : (a : Int) * (b : Int) = ((a * b : Nat) : Int) := by simp
    simp only [binOp, Op.intArith, ne_eq, not_true_eq_false, if_false, Sem.run_pure, this, wrap_nat_mod hk]) kk
theorem pw_shl {t t' : TypeId} {x y : Operand} {k k' : IntKind} {a n : Nat} (hx : ev E x = .int k (a : Int)) (hy : ev E y = .int k' (n : Int)) (hk : k.signed = false) (hn : n ≤ k.bits) (kk : K (.int k ((a * 2 ^ n % 2 ^ k.bits : Nat) : Int)) R) : PW P w0 E (.binOp .shl t x y t') ty H R K :=
  pw_val rfl (fun w _ => by
    have h1 : (eqGuard .shl t x y (.int k (a : Int)) (.int k' (n : Int))).run P w = .ok () w := rfl
    have h2 : (a : Int) * 2 ^ n = ((a * 2 ^ n : Nat) : Int) := by simp
    have h3 : ¬ ((n : Int) < 0) := by omega
    rw [hx, hy]
    simp only [Sem.run_bind, h1, Result.andThen_ok, binOp, Op.shift, if_neg h3, Int.toNat_natCast, Nat.min_eq_left hn, Sem.run_pure, h2, wrap_nat_mod hk]) kk
theorem pw_shr {t t' : TypeId} {x y : Operand} {k k' : IntKind} {a n : Nat} (hx : ev E x = .int k (a : Int)) (hy : ev E y = .int k' (n : Int)) (hn : n ≤ k.bits) (kk : K (.int k ((a / 2 ^ n : Nat) : Int)) R) : PW P w0 E (.binOp .shr t x y t') ty H R K :=
  pw_val rfl (fun w _ => by
    have h1 : (eqGuard .shr t x y (.int k (a : Int)) (.int k' (n : Int))).run P w = .ok () w := rfl
    have h3 : ¬ ((n : Int) < 0) := by omega
    have h4 : (a : Int).fdiv (2 ^ n) = ((a / 2 ^ n : Nat) : Int) := by
      rw [Int.fdiv_eq_ediv_of_nonneg _ (Int.le_of_lt (Int.pow_pos (by omega)))]; simp
    rw [hx, hy]
    simp only [Sem.run_bind, h1, Result.andThen_ok, binOp, Op.shift, if_neg h3, Int.toNat_natCast, Nat.min_eq_left hn, Sem.run_pure, h4]) kk
theorem pw_convn {s d : TypeId} {x : Operand} {k k' : IntKind} {ds : TypeDesc} {a : Nat} [hs : TyU P s ds] [hd : TyU P d (.int k')] (hx : ev E x = .int k (a : Int)) (hk : k'.signed = false) (kk : K (.int k' ((a % 2 ^ k'.bits : Nat) : Int)) R) : PW P w0 E (.convert s d x) ty H R K :=
  pw_conv (hs := hs) (hd := hd) hx (by rw [wrap_nat_mod hk]; exact kk)
theorem pw_convi {s d : TypeId} {x : Operand} {k : IntKind} {ds : TypeDesc} {a : Nat} [hs : TyU P s ds] [hd : TyU P d (.int .i64)] (hx : ev E x = .int k (a : Int)) (ha : a ≤ 9223372036854775807) (kk : K (.int .i64 (a : Int)) R) : PW P w0 E (.convert s d x) ty H R K :=
  pw_conv (hs := hs) (hd := hd) hx (by rw [wrap_id (by simp [IntKind.min, IntKind.signed, IntKind.bits]) (by simp [IntKind.max, IntKind.signed, IntKind.bits]; omega)]; exact kk)
end

/-! ### calls, their arguments as lists -/
section
variable {F : Fence} {n : Nat} {P : Program} {w0 : World} {D : List Deferred} {ops : Array Oper} {Q : Exit → Act → World → Prop} {rest : List Oper} {E : List Value} {H : List Hp} {R : List MP}
theorem ow_callf [Wd F] {dst : Option Tmp} {f : FuncId} {l : List Operand} {at_ : Array TypeId} {ty : TypeId} {pos : String} {aft : Array Edge} {g : Option (Nat × Bool)} {K : Value → List Hp → List MP → Prop} {A : List Value} (hA : l.map (ev E) = A) [FnOk P f]
    (h : CallsK P w0 f A.toArray H R K) : OW F n P w0 D Q ⟨dst, .call ⟨.value (.func f), l.toArray, at_⟩, ty, pos, aft, g⟩ E H R K :=
  ow_call (f := f) (first := #[]) (cap := #[]) rfl (vs := A.toArray) (by subst hA; simp) h
theorem ow_callfP [Wd F] {dst : Option Tmp} {f : FuncId} {l : List Operand} {at_ : Array TypeId} {ty : TypeId} {pos : String} {aft : Array Edge} {g : Option (Nat × Bool)} {K : Value → List Hp → List MP → Prop} {KP : List PanicEntry → List Hp → List MP → Prop} {A : List Value} (hA : l.map (ev E) = A) [FnOk P f]
    (h : CallsP P w0 f A.toArray H R K KP) (hp : ∀ ch H' R', KP ch H' R' → En w0 D Q (.panic ch) E H' R') : OW F n P w0 D Q ⟨dst, .call ⟨.value (.func f), l.toArray, at_⟩, ty, pos, aft, g⟩ E H R K :=
  ow_callP (f := f) (first := #[]) (cap := #[]) rfl (vs := A.toArray) (by subst hA; simp) h hp
theorem ow_callv [Wd F] {dst : Option Tmp} {fo : Operand} {f : FuncId} {l : List Operand} {at_ : Array TypeId} {ty : TypeId} {pos : String} {aft : Array Edge} {g : Option (Nat × Bool)} {K : Value → List Hp → List MP → Prop} {A L1 L2 : List Value} (hf : ev E fo = .func (.func f) L1.toArray L2.toArray) (hA : L1 ++ l.map (ev E) ++ L2 = A) [FnOk P f]
    (h : CallsK P w0 f A.toArray H R K) : OW F n P w0 D Q ⟨dst, .call ⟨.value fo, l.toArray, at_⟩, ty, pos, aft, g⟩ E H R K :=
  ow_call (f := f) hf (vs := A.toArray) (by subst hA; simp) h
theorem ow_callvP [Wd F] {dst : Option Tmp} {fo : Operand} {f : FuncId} {l : List Operand} {at_ : Array TypeId} {ty : TypeId} {pos : String} {aft : Array Edge} {g : Option (Nat × Bool)} {K : Value → List Hp → List MP → Prop} {KP : List PanicEntry → List Hp → List MP → Prop} {A L1 L2 : List Value} (hf : ev E fo = .func (.func f) L1.toArray L2.toArray) (hA : L1 ++ l.map (ev E) ++ L2 = A) [FnOk P f]
    (h : CallsP P w0 f A.toArray H R K KP) (hp : ∀ ch H' R', KP ch H' R' → En w0 D Q (.panic ch) E H' R') : OW F n P w0 D Q ⟨dst, .call ⟨.value fo, l.toArray, at_⟩, ty, pos, aft, g⟩ E H R K :=
  ow_callP (f := f) hf (vs := A.toArray) (by subst hA; simp) h hp
end
/-! ### append from a block, from what stays; nil -/
section
variable {P : Program} {w0 : World} {E : List Value} {H : List Hp} {R : List MP} {ty : TypeId} {K : Value → List Hp → List MP → Prop}
theorem gw_append_blk {t e : TypeId} {s x : Operand} (i j : Nat) {n m c sz by_ b : Nat} {zs cs news : List Value} {v : Value} [h : TyL P t e sz by_ zs] (hs : ev E s = v) (hx : ev E x = .slice (some ⟨b, 0, none⟩) m c) (hi : H[i]? = some (.row v e sz n cs)) (hj : H[j]? = some (.blk b news e))
    (hsz : 0 < sz) (hl : news.length = m * sz) (h1 : ∀ u ∈ news, u.oneCell' = true) (hby : (n + m) * by_ ≤ 140737488355328) (hnm : n + m ≤ 140737488355328)
    (kk : ∀ v', K v' (H.set i (.row v' e sz (n + m) (cs ++ news))) R) : GW P w0 E (.call ⟨.builtin .append, #[s, x], #[t, t]⟩) ty H R K :=
  gw_append_core hs hx hi hsz hl (fun w hw _ => ⟨_, rfl, fun k u hk => by
    rw [Addr.add_mk]; exact hw.blk_cells hj k u hk⟩) h1 hby hnm kk
theorem gw_append_sl {t e : TypeId} {s x : Operand} (i : Nat) {n c m by_ : Nat} {zs cs : List Value} {v : Value} {A : Option Addr} {xs : List UInt8} [h : TyL P t e 1 by_ zs] (hs : ev E s = v) (hx : ev E x = .slice A m c) (hm : Sl (.slice A m c) xs ∈ R) (hml : m = xs.length) (hi : H[i]? = some (.row v e 1 n cs))
    (hby : (n + m) * by_ ≤ 140737488355328) (hnm : n + m ≤ 140737488355328)
    (kk : ∀ v', K v' (H.set i (.row v' e 1 (n + m) (cs ++ bytesV xs))) R) : GW P w0 E (.call ⟨.builtin .append, #[s, x], #[t, t]⟩) ty H R K :=
  gw_append_core hs hx hi (by omega) (by simp [hml]) (fun w hw h0 => by
    obtain ⟨_, hc⟩ := hw.sl_bytes hm
    obtain ⟨b, o, rfl, hcell⟩ := hc h0
    exact ⟨_, rfl, fun k u hk => by rw [Addr.add_mk]; exact hcell k u hk⟩) (bytesV_one _) hby hnm kk
end
section
variable {P : Program} {w0 : World} {E : List Value} {H : List Hp} {R : List MP} {ty : TypeId} {K : Value → List MP → Prop}
theorem pw_eqnil {t t' e : TypeId} {x y : Operand} {A : Option Addr} {n c : Nat} [h : TyU P t (.slice e)] (hx : ev E x = .slice A n c) (hy : ev E y = .slice none 0 0) (kt : A = none → K (.bool true) R) (kf : ∀ a, A = some a → K (.bool false) R) : PW P w0 E (.binOp .eql t x y t') ty H R K := by
  have key : ∀ w : World, (binOp .eql t (.slice A n c) (.slice none 0 0)).run P w = .ok (.bool A.isNone) w := fun w => Lib.run_eql_slice_nil w t e A n c 0 0 h.und
  have hg : ∀ w : World, (eqGuard .eql t x y (.slice A n c) (.slice none 0 0)).run P w = .ok () w := fun w => rfl
  cases A with
  | none => exact pw_val rfl (fun w _ => by rw [hx, hy]; simp only [Sem.run_bind, hg, Result.andThen_ok, key]; rfl) (kt rfl)
  | some a => exact pw_val rfl (fun w _ => by rw [hx, hy]; simp only [Sem.run_bind, hg, Result.andThen_ok, key]; rfl) (kf a rfl)
end
/-! ### slicing an owned block; opening a row -/
section
variable {F : Fence} {n : Nat} {P : Program} {w0 : World} {D : List Deferred} {ops : Array Oper} {Q : Exit → Act → World → Prop} {rest : List Oper} {E : List Value} {H : List Hp} {R : List MP} {ty : TypeId} {K : Value → List MP → Prop}
theorem pw_slice_o {t e : TypeId} {x : Operand} {lo hi : Option Operand} {sz by_ : Nat} {zs : List Value} [ht : TyL P t e sz by_ zs] {b o n c : Nat} {l h : Int} (hx : ev E x = .slice (some ⟨b, o, none⟩) n c) (hl : bnd E 0 lo = some l) (hh : bnd E n hi = some h)
    (h0 : 0 ≤ l) (h1 : l ≤ h) (h2 : h ≤ c) (kk : ∀ o', (h.toNat - l.toNat = 0 ∨ o' = o + l.toNat * sz) → K (.slice (some ⟨b, o', none⟩) (h.toNat - l.toNat) (c - l.toNat)) R) : PW P w0 E (.slice t x lo hi none) ty H R K := by
  refine pw_slice hx hl hh h0 h1 h2 ?_
  by_cases e : c = l.toNat
  · rw [if_pos e]; exact kk o (.inl (by omega))
  · rw [if_neg e]
    simp only [Option.map_some, Addr.add_mk]
    exact kk _ (.inr rfl)
theorem TC_unrow {c : Code} (i : Nat) {v : Value} {T : TypeId} {size m : Nat} {cs : List Value} (hi : H[i]? = some (.row v T size m cs)) (hm : 0 < m)
    (k : ∀ b cap sp, v = .slice (some ⟨b, 0, none⟩) m cap → (cs ++ sp).length = cap * size → cs.length = m * size → m ≤ cap → cap ≤ maxLen → TC F n P w0 D c Q E (H.set i (.blk b (cs ++ sp) T)) R) : TC F n P w0 D c Q E H R := fun w hs => by
  rcases hs.unrow hi with ⟨_, h0, _⟩ | ⟨b, cap, sp, h1, h2, h3, h4, h5, h6⟩
  · omega
  · exact k b cap sp h1 h2 h3 h4 h5 w h6
theorem T_unrow (i : Nat) {v : Value} {T' : TypeId} {size m : Nat} {cs : List Value} (hi : H[i]? = some (.row v T' size m cs)) (hm : 0 < m)
    (k : ∀ b cap sp, v = .slice (some ⟨b, 0, none⟩) m cap → (cs ++ sp).length = cap * size → cs.length = m * size → m ≤ cap → cap ≤ maxLen → T F n P w0 D ops Q rest E (H.set i (.blk b (cs ++ sp) T')) R) : T F n P w0 D ops Q rest E H R := fun w hs => by
  rcases hs.unrow hi with ⟨_, h0, _⟩ | ⟨b, cap, sp, h1, h2, h3, h4, h5, h6⟩
  · omega
  · exact k b cap sp h1 h2 h3 h4 h5 w h6
/-- An owned row of bytes is made to stay: it reads as a slice. -/
theorem S.row_stays {w : World} {i : Nat} {v : Value} {m : Nat} {xs : List UInt8} (h : S w0 w H R) (hi : H[i]? = some (.row v 5 1 m (bytesV xs))) : ∃ A c, v = .slice A xs.length c ∧ S w0 w (H.eraseIdx i) (Sl (.slice A xs.length c) xs :: R) := by
  have hml : xs.length = m := by
    obtain ⟨s, hs⟩ := h
    have := (hs.hp _ (List.mem_of_getElem? hi)).1.1
    simpa using this
  rcases h.unrow hi with ⟨rfl, h0, hnil⟩ | ⟨b, cap, sp, rfl, h2, h3, h4, h5, h6⟩
  · have : xs = [] := List.eq_nil_of_length_eq_zero (by omega)
    subst this
    refine ⟨none, 0, rfl, (h.drop i).add _ fun s hR => ⟨none, 0, rfl, ⟨by simp, by simp [maxL]⟩, fun h => by simp at h⟩⟩
  · subst hml
    refine ⟨some ⟨b, 0, none⟩, cap, rfl, ?_⟩
    have hlt : i < H.length := (List.getElem?_eq_some_iff.1 hi).1
    have h7 := h6.freeze (i := i) (b := b) (cs := bytesV xs ++ sp) (T := 5) (by rw [List.getElem?_set_self hlt])
    have e : (H.set i (.blk b (bytesV xs ++ sp) 5)).eraseIdx i = H.eraseIdx i := by rw [List.eraseIdx_set_eq]
    rw [e] at h7
    have h8 := h7.add (Sl (.slice (some ⟨b, 0, none⟩) xs.length cap) xs) (fun s hR => by
      have hat := hR (At b 0 (bytesV xs ++ sp)) (by simp)
      refine ⟨_, _, rfl, ⟨h4, by simp only [maxLen] at h5; simp only [maxL]; omega⟩, fun _ => ⟨b, 0, rfl, fun k x hk => ⟨[byteV x], rfl, fun j v hj => ?_⟩⟩⟩
      have hj0 : j = 0 ∧ v = byteV x := by
        cases j with
        | zero => simp at hj; exact ⟨rfl, hj.symm⟩
        | succ j => simp at hj
      obtain ⟨rfl, rfl⟩ := hj0
      have := hat k (byteV x) (by
        rw [List.getElem?_append_left (by simp; exact (List.getElem?_eq_some_iff.1 hk).1)]
        simp [bytesV, hk])
      simpa [Rep.size] using this)
    exact h8.weaken (List.Sublist.refl _) (fun p hp => by
      rcases List.mem_cons.1 hp with rfl | hp
      · simp
      · simp [hp])
end
/-! ### loops by the slots that they turn -/
section
variable {F : Fence} {n : Nat} {P : Program} {w0 : World} {D : List Deferred} {ops : Array Oper} {Q : Exit → Act → World → Prop} {rest : List Oper} {E : List Value} {H : List Hp} {R : List MP}
def setJ (E : List Value) (js : List Nat) (j : Nat → Value) : List Value := js.foldl (fun E i => E.set i (j i)) E
def BackS (w0 : World) (D : List Deferred) (E0 : List Value) (js : List Nat) (I : Nat → (Nat → Value) → List Hp → List MP → Prop) (m : Nat) : Act → World → Prop :=
  fun a w => ∃ k, k < m ∧ ∃ j H R, a = act (setJ E0 js j) D ∧ S w0 w H R ∧ I k j H R
theorem TC_loopS {c : Code} (js : List Nat) (I : Nat → (Nat → Value) → List Hp → List MP → Prop) (m : Nat) (he : setJ E js (fun i => E.getD i undef) = E) (h0 : I m (fun i => E.getD i undef) H R)
    (round : ∀ m j H R, I m j H R → TC F n P w0 D c (Exit.then (BackS w0 D E js I m) Q) (setJ E js j) H R) : TC F n P w0 D (.loop c) Q E H R := by
  refine TC_loop (fun m E' H' R' => ∃ j, E' = setJ E js j ∧ I m j H' R') m ⟨_, he.symm, h0⟩ ?_
  rintro m E' H' R' ⟨j, rfl, hI⟩
  refine TC_mono (round m j H' R' hI) ?_
  intro e a w hq
  cases e with
  | normal =>
    obtain ⟨k, hk, j', H2, R2, e1, e2, e3⟩ := hq
    exact ⟨k, hk, setJ E js j', H2, R2, e1, e2, j', rfl, e3⟩
  | _ => exact hq
theorem En_backS {E0 : List Value} {js : List Nat} {I : Nat → (Nat → Value) → List Hp → List MP → Prop} {m : Nat} (k : Nat) (H' : List Hp) (R' : List MP) (hk : k < m) (hE : setJ E0 js (fun i => E.getD i undef) = E) (hI : I k (fun i => E.getD i undef) H' R') (hw : ∀ w, S w0 w H R → S w0 w H' R') :
    En w0 D (Exit.then (BackS w0 D E0 js I m) Q) .normal E H R := fun w hs => ⟨k, hk, _, H', R', by rw [hE], hw w hs, hI⟩
theorem TC_env {c : Code} {E' : List Value} (h : E = E') (k : TC F n P w0 D c Q E' H R) : TC F n P w0 D c Q E H R := h ▸ k
theorem TC_ex {c : Code} {β : Sort _} {p : β → Prop} {H' : β → List Hp} {R' : β → List MP} (h : ∀ w, S w0 w H R → ∃ y, p y ∧ S w0 w (H' y) (R' y)) (k : ∀ y, p y → TC F n P w0 D c Q E (H' y) (R' y)) : TC F n P w0 D c Q E H R := fun w hs => by
  obtain ⟨y, hp, hs'⟩ := h w hs
  exact k y hp w hs'
theorem T_ex {β : Sort _} {p : β → Prop} {H' : β → List Hp} {R' : β → List MP} (h : ∀ w, S w0 w H R → ∃ y, p y ∧ S w0 w (H' y) (R' y)) (k : ∀ y, p y → T F n P w0 D ops Q rest E (H' y) (R' y)) : T F n P w0 D ops Q rest E H R := fun w hs => by
  obtain ⟨y, hp, hs'⟩ := h w hs
  exact k y hp w hs'
theorem CallsK_ex {f : FuncId} {args : Array Value} {K : Value → List Hp → List MP → Prop} {β : Sort _} {p : β → Prop} {H' : β → List Hp} {R' : β → List MP} (h : ∀ w, S w0 w H R → ∃ y, p y ∧ S w0 w (H' y) (R' y)) (k : ∀ y, p y → CallsK P w0 f args (H' y) (R' y) K) : CallsK P w0 f args H R K := fun w hs => by
  obtain ⟨y, hp, hs'⟩ := h w hs
  exact k y hp w hs'
theorem T_hp {H' : List Hp} (h : H = H') (k : T F n P w0 D ops Q rest E H' R) : T F n P w0 D ops Q rest E H R := h ▸ k
theorem TA_hp {Hc : List Hp} {Rc : List MP} {k : Nat} {listed : Array Bool} {H' : List Hp} (h : H = H') (kk : TA F n P w0 D ops Q Hc Rc k listed E H' R) : TA F n P w0 D ops Q Hc Rc k listed E H R := h ▸ kk
theorem TC_hp {c : Code} {H' : List Hp} (h : H = H') (k : TC F n P w0 D c Q E H' R) : TC F n P w0 D c Q E H R := h ▸ k
/-- A fact on what is read may be used at once. -/
theorem T_fact {p : Prop} (h : ∀ w, S w0 w H R → p) (k : p → T F n P w0 D ops Q rest E H R) : T F n P w0 D ops Q rest E H R := fun w hs => k (h w hs) w hs
theorem TC_fact {c : Code} {p : Prop} (h : ∀ w, S w0 w H R → p) (k : p → TC F n P w0 D c Q E H R) : TC F n P w0 D c Q E H R := fun w hs => k (h w hs) w hs
theorem CallsK_fact {f : FuncId} {args : Array Value} {K : Value → List Hp → List MP → Prop} {p : Prop} (h : ∀ w, S w0 w H R → p) (k : p → CallsK P w0 f args H R K) : CallsK P w0 f args H R K := fun w hs => k (h w hs) w hs
theorem CallsK_weaken {f : FuncId} {args : Array Value} {K : Value → List Hp → List MP → Prop} (H' : List Hp) (R' : List MP) (hw : ∀ w, S w0 w H R → S w0 w H' R') (k : CallsK P w0 f args H' R' K) : CallsK P w0 f args H R K := fun w hs => k w (hw w hs)
end
end Go.Proofs.YtggdljhmbckpmaaGreat
