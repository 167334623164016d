/- Rows of any data: what is noted of their cells while they grow, and how they are made to stay. More rules for operations: the greatest of three, remainders of natural numbers. Several operations of a drawn region that may come up; one continuation for all orders. The rules that a walk takes most often, with the reading of the temporaries as a default: short words for printed texts. The small functions of package image: walks. -/
import Derived.Test.YtggdljhmbckpmaaGreatA7f1J
import Derived.Laws.Cover1
import Derived.Test.YtggdljhmbckpmaaGreatA7J
set_option linter.unusedVariables false
set_option linter.unusedSimpArgs false
namespace Go.Proofs.YtggdljhmbckpmaaGreat
open Go Go.RowKit
attribute [local semireducible] T TC En PW GW CallsK CallsP Sl Rd Ls At S TA

/-! ### literals, step by step -/
theorem zI {E : List Value} {ev : List Value → Operand → Value} {pl : List (Nat × Nat)} {zs : List Value} : mZ E ev pl zs [] = some zs := rfl
theorem xY {E : List Value} {ev : List Value → Operand → Value} {pl : List (Nat × Nat)} {zs zs' vs : List Value} {o : Option (List Value)} {i : Nat} {x : Operand} {r : List (Nat × Operand)} {off sz : Nat} (h : pl[i]? = some (off, sz)) (hx : (ev E x).cells.toList = vs) (hl : vs.length = sz) (hb : off + sz ≤ zs.length) (hs : jQ zs off vs = zs') (k : mZ E ev pl zs' r = o) : mZ E ev pl zs ((i, x) :: r) = o := by
  subst hx; subst hs
  simp only [mZ, h]
  rw [if_pos ⟨hl, hb⟩]; exact k
theorem qP {E : List Value} {ev : List Value → Operand → Value} {sz i : Nat} {r : List (Nat × Operand)} {o : Option (List Value)} (k : (kM E ev sz i r).map ([] ++ ·) = o) : kM E ev sz i r = o := by
  simpa using k
theorem tL {E : List Value} {ev : List Value → Operand → Value} {sz i : Nat} {d : List Value} : (kM E ev sz i []).map (d ++ ·) = some d := by simp [kM]
theorem sF {E : List Value} {ev : List Value → Operand → Value} {sz i : Nat} {x : Operand} {r : List (Nat × Operand)} {vs d d' : List Value} {o : Option (List Value)} (hx : (ev E x).cells.toList = vs) (hl : vs.length = sz) (hd : d ++ vs = d') (k : (kM E ev sz (i + 1) r).map (d' ++ ·) = o) : (kM E ev sz i ((i, x) :: r)).map (d ++ ·) = o := by
  subst hx; subst hd
  unfold kM
  rw [if_pos ⟨rfl, hl⟩, ← k]
  cases kM E ev sz (i + 1) r <;> simp
section
variable {P : Program} {w0 : World} {E : List Value} {H : List Hp} {R : List MP} {ty : TypeId} {K : Value → List MP → Prop}
theorem cR {fn : Fn} {first cap : List Operand} {f1 c1 : List Value} (h1 : first.map (ev E) = f1) (h2 : cap.map (ev E) = c1) (k : K (.func fn f1.toArray c1.toArray) R) : PW P w0 E (.makeFunc fn first.toArray cap.toArray) ty H R K := by
  subst h1; subst h2
  exact wY (by simpa using k)
end
/-- 'cs' are the cells of 'xs'. -/
def Cx {α : Type} [Rep α] (cs : List Value) (xs : List α) : MP where
  p s := cs.length = xs.length * Rep.size α ∧ ∀ j x, xs[j]? = some x → Rep.rd s ((cs.drop (j * Rep.size α)).take (Rep.size α)) x
  mono s t h hp := ⟨hp.1, fun j x hj => Rep.mono h (hp.2 j x hj)⟩

theorem gN {α : Type} [Rep α] (s : Sto) : (Cx [] ([] : List α)).p s := ⟨by simp, fun j x hj => by simp at hj⟩
theorem eZ {α : Type} [Rep α] {s : Sto} {cs c1 : List Value} {xs : List α} {x : α} (h : (Cx cs xs).p s) (hr : Rep.rd s c1 x) : (Cx (cs ++ c1) (xs ++ [x])).p s := by
  obtain ⟨h1, h2⟩ := h
  have hl := Rep.len hr
  refine ⟨by simp [h1, hl, Nat.add_mul], fun j y hj => ?_⟩
  rcases Nat.lt_or_ge j xs.length with hlt | hge
  · rw [List.getElem?_append_left hlt] at hj
    have hb : j * Rep.size α + Rep.size α ≤ cs.length := by
      rw [h1]
      calc j * Rep.size α + Rep.size α = (j + 1) * Rep.size α := by rw [Nat.add_mul, Nat.one_mul]
        _ ≤ xs.length * Rep.size α := Nat.mul_le_mul_right _ aO
    rw [List.drop_append_of_le_length aO, List.take_append_of_le_length (by simp; omega)]
    exact h2 j y hj
  · rw [List.getElem?_append_right hge] at hj
    have : j = xs.length ∧ y = x := by
      have := (List.getElem?_eq_some_iff.1 hj).1
      simp at this
      have e : j - xs.length = 0 := by omega
      rw [e] at hj; simp at hj
      exact ⟨by omega, hj.symm⟩
    obtain ⟨rfl, rfl⟩ := this
    rw [← h1, List.drop_left, ← hl, List.take_length]; exact hr
theorem yB (xs : List UInt8) (s : Sto) : (Cx (bC xs) xs).p s := by
  refine ⟨by simp [Rep.size], fun j x hj => ?_⟩
  have hl := (List.getElem?_eq_some_iff.1 hj).1
  have : (bC xs)[j]? = some (fH x) := by simp [bC, hj]
  obtain ⟨h1, h2⟩ := List.getElem?_eq_some_iff.1 this
  show ((bC xs).drop (j * 1)).take 1 = [fH x]
  rw [Nat.mul_one, List.drop_eq_getElem_cons h1, h2]; rfl
theorem Cx_one {α : Type} [Rep α] {s : Sto} {c1 : List Value} {x : α} (hr : Rep.rd s c1 x) : (Cx c1 [x]).p s := by
  simpa using eZ (gN s) hr

section
variable {F : Fence} {n : Nat} {P : Program} {w0 : World} {D : List Deferred} {ops : Array Oper} {Q : Exit → Act → World → Prop} {rest : List Oper} {E : List Value} {H : List Hp} {R : List MP}
theorem S.learn {w : World} (h : S w0 w H R) (p : MP) (hp : ∀ s : Sto, (∀ q ∈ R, q.p s) → p.p s) : S w0 w H (p :: R) := h.add p hp
theorem S.sl_nil (α : Type) [Rep α] {w : World} (h : S w0 w H R) : S w0 w H (Sl (.slice none 0 0) ([] : List α) :: R) :=
  h.add _ (fun s _ => ⟨none, 0, rfl, ⟨by simp, by simp [eO]⟩, fun h => by simp at h⟩)

theorem S.stays {α : Type} [Rep α] {w : World} {i : Nat} {v : Value} {T : TypeId} {sz m : Nat} {cs : List Value} {xs : List α} (h : S w0 w H R) (hi : H[i]? = some (.row v T sz m cs)) (hsz : Rep.size α = sz) (h0 : 0 < sz) (hx : Cx cs xs ∈ R) :
    ∃ A c, v = .slice A xs.length c ∧ S w0 w (H.eraseIdx i) (Sl (.slice A xs.length c) xs :: R) := by
  subst hsz
  have hcl : cs.length = xs.length * Rep.size α := by
    obtain ⟨s, hs⟩ := h
    exact (hs.rd _ hx).1
  have hml : xs.length = m := by
    obtain ⟨s, hs⟩ := h
    have h1 := (hs.hp _ (List.mem_of_getElem? hi)).1.1
    rw [hcl] at h1
    exact Nat.eq_of_mul_eq_mul_right h0 h1
  rcases h.unrow hi with ⟨rfl, hm0, hnil⟩ | ⟨b, cap, sp, rfl, h2, h3, h4, h5, h6⟩
  · have : xs = [] := List.eq_nil_of_length_eq_zero aO
    subst this
    exact ⟨none, 0, rfl, (h.drop i).sl_nil α⟩
  · subst hml
    refine ⟨some ⟨b, 0, none⟩, cap, rfl, ?_⟩
    have hlt : i < H.length := (List.getElem?_eq_some_iff.1 hi).1
    have h7 := h6.freeze (i := i) (b := b) (cs := cs ++ sp) (T := T) (by rw [List.getElem?_set_self hlt])
    have e : (H.set i (.blk b (cs ++ sp) T)).eraseIdx i = H.eraseIdx i := by rw [List.eraseIdx_set_eq]
    rw [e] at h7
    have h8 := h7.add (Sl (.slice (some ⟨b, 0, none⟩) xs.length cap) xs) (fun s hR => by
      have hat := hR (At b 0 (cs ++ sp)) dB
      obtain ⟨_, hcx⟩ := hR (Cx cs xs) (by simp [hx])
      refine ⟨_, _, rfl, ⟨h4, by simp only [maxLen] at h5; simp only [eO]; omega⟩, fun _ => ⟨b, 0, rfl, fun k x hk => ⟨_, hcx k x hk, fun j v hj => ?_⟩⟩⟩
      rw [List.getElem?_take] at hj
      split at hj
      · rename_i hjlt
        rw [List.getElem?_drop] at hj
        have := hat (k * Rep.size α + j) v (by rw [List.getElem?_append_left (List.getElem?_eq_some_iff.1 hj).1]; exact hj)
        simpa [Nat.add_assoc] using this
      · cases hj)
    exact h8.weaken (List.Sublist.refl _) (fun p hp => by
      rcases List.mem_cons.1 hp with rfl | hp
      · simp
      · simp [hp])
/-- A block that holds the cells of 'xs' is made to stay, as the slice of all of it. -/
theorem S.blk_stays {α : Type} [Rep α] {w : World} {i b n c : Nat} {T : TypeId} {cs sp : List Value} {xs : List α} (h : S w0 w H R) (hi : H[i]? = some (.blk b (cs ++ sp) T)) (hx : Cx cs xs ∈ R) (hn : n = xs.length) (hc : n ≤ c) (hcm : c ≤ eO) :
    S w0 w (H.eraseIdx i) (Sl (.slice (some ⟨b, 0, none⟩) n c) xs :: R) := by
  subst hn
  have h7 := h.freeze hi
  have h8 := h7.add (Sl (.slice (some ⟨b, 0, none⟩) xs.length c) xs) (fun s hR => by
    have hat := hR (At b 0 (cs ++ sp)) dB
    obtain ⟨_, hcx⟩ := hR (Cx cs xs) (by simp [hx])
    refine ⟨_, _, rfl, ⟨hc, hcm⟩, fun _ => ⟨b, 0, rfl, fun k x hk => ⟨_, hcx k x hk, fun j v hj => ?_⟩⟩⟩
    rw [List.getElem?_take] at hj
    split at hj
    · rename_i hjlt
      rw [List.getElem?_drop] at hj
      have := hat (k * Rep.size α + j) v (by rw [List.getElem?_append_left (List.getElem?_eq_some_iff.1 hj).1]; exact hj)
      simpa [Nat.add_assoc] using this
    · cases hj)
  exact h8.weaken (List.Sublist.refl _) (fun p hp => by
    rcases List.mem_cons.1 hp with rfl | hp
    · simp
    · simp [hp])

theorem S.bytes_stay {w : World} {i b n c : Nat} {T : TypeId} {xs : List UInt8} (h : S w0 w H R) (hi : H[i]? = some (.blk b (bC xs) T)) (hn : n = xs.length) (hc : n ≤ c) (hcm : c ≤ eO) :
    S w0 w (H.eraseIdx i) (Sl (.slice (some ⟨b, 0, none⟩) n c) xs :: R) :=
  ((h.learn (Cx (bC xs) xs) (fun s _ => yB _ s)).blk_stays (i := i) (cs := bC xs) (sp := []) (by simpa using hi) dB hn hc hcm).weaken (List.Sublist.refl _) (fun p hp => by
    rcases List.mem_cons.1 hp with rfl | hp
    · simp
    · simp [hp])
theorem K_bool {K : Value → List Hp → List MP → Prop} {a b : Bool} (h : a = b) (hk : K (.bool b) H R) : K (.bool a) H R := h ▸ hk
theorem aP [Wd F] {dst : Option Tmp} {t : TypeId} {x : Operand} {ty : TypeId} {pos : String} {aft : Array Edge} {g : Option (Nat × Bool)} (hw : Region.wanted ⟨dst, .load t x, ty, pos, aft, g⟩ (yielded ops E.toArray) = true)
    (h : PW P w0 E (.load t x) ty H R (fun v R' => T F n P w0 D ops Q rest (eE E dst v) H R')) : T F n P w0 D ops Q (⟨dst, .load t x, ty, pos, aft, g⟩ :: rest) E H R := aE hw rfl h
theorem aU [Wd F] {dst : Option Tmp} {o : BinOp} {t t' : TypeId} {x y : Operand} {ty : TypeId} {pos : String} {aft : Array Edge} {g : Option (Nat × Bool)} (hw : Region.wanted ⟨dst, .binOp o t x y t', ty, pos, aft, g⟩ (yielded ops E.toArray) = true)
    (h : PW P w0 E (.binOp o t x y t') ty H R (fun v R' => T F n P w0 D ops Q rest (eE E dst v) H R')) : T F n P w0 D ops Q (⟨dst, .binOp o t x y t', ty, pos, aft, g⟩ :: rest) E H R := aE hw rfl h
theorem gZ [Wd F] {dst : Option Tmp} {t : TypeId} {x y : Operand} {ty : TypeId} {pos : String} {aft : Array Edge} {g : Option (Nat × Bool)} (hw : Region.wanted ⟨dst, .indexAddr t x y, ty, pos, aft, g⟩ (yielded ops E.toArray) = true)
    (h : PW P w0 E (.indexAddr t x y) ty H R (fun v R' => T F n P w0 D ops Q rest (eE E dst v) H R')) : T F n P w0 D ops Q (⟨dst, .indexAddr t x y, ty, pos, aft, g⟩ :: rest) E H R := aE hw rfl h
theorem bE [Wd F] {dst : Option Tmp} {t : TypeId} {x y : Operand} {ty : TypeId} {pos : String} {aft : Array Edge} {g : Option (Nat × Bool)} (hw : Region.wanted ⟨dst, .store t x y, ty, pos, aft, g⟩ (yielded ops E.toArray) = true)
    (h : GW P w0 E (.store t x y) ty H R (fun v H' R' => T F n P w0 D ops Q rest (eE E dst v) H' R')) : T F n P w0 D ops Q (⟨dst, .store t x y, ty, pos, aft, g⟩ :: rest) E H R := bJ hw rfl h
theorem S.shape {w : World} {i : Nat} {v : Value} {T : TypeId} {sz m : Nat} {cs : List Value} (h : S w0 w H R) (hi : H[i]? = some (.row v T sz m cs)) : ∃ A c, v = .slice A m c := by
  rcases h.unrow hi with ⟨rfl, h0, _⟩ | ⟨b, cap, sp, h1, _⟩
  · subst h0; exact ⟨_, _, rfl⟩
  · exact ⟨_, _, h1⟩
theorem gY (i : Nat) {v : Value} {T' : TypeId} {sz m : Nat} {cs : List Value} (hi : H[i]? = some (.row v T' sz m cs)) (k : ∀ A c, v = .slice A m c → T F n P w0 D ops Q rest E H R) : T F n P w0 D ops Q rest E H R := fun w hs => by
  obtain ⟨A, c, e⟩ := hs.shape hi
  exact k A c e w hs
theorem rE {co : Code} (i : Nat) {v : Value} {T' : TypeId} {sz m : Nat} {cs : List Value} (hi : H[i]? = some (.row v T' sz m cs)) (k : ∀ A c, v = .slice A m c → TC F n P w0 D co Q E H R) : TC F n P w0 D co Q E H R := fun w hs => by
  obtain ⟨A, c, e⟩ := hs.shape hi
  exact k A c e w hs
theorem TA_shape {Hc : List Hp} {Rc : List MP} {kk : Nat} {listed : Array Bool} (i : Nat) {v : Value} {T' : TypeId} {sz m : Nat} {cs : List Value} (hi : H[i]? = some (.row v T' sz m cs)) (k : ∀ A c, v = .slice A m c → TA F n P w0 D ops Q Hc Rc kk listed E H R) : TA F n P w0 D ops Q Hc Rc kk listed E H R := fun hreg w hs => by
  obtain ⟨A, c, e⟩ := hs.shape hi
  exact k A c e hreg w hs
theorem hZ (i : Nat) {v : Value} {m : Nat} {xs : List UInt8} (hi : H[i]? = some (.row v 5 1 m (bC xs))) (k : ∀ A c, v = .slice A xs.length c → T F n P w0 D ops Q rest E (H.eraseIdx i) (Sl (.slice A xs.length c) xs :: R)) : T F n P w0 D ops Q rest E H R := fun w hs => by
  obtain ⟨A, c, e, h⟩ := hs.row_stays hi
  exact k A c e w h
theorem TA_stays {Hc : List Hp} {Rc : List MP} {kk : Nat} {listed : Array Bool} (i : Nat) {v : Value} {m : Nat} {xs : List UInt8} (hi : H[i]? = some (.row v 5 1 m (bC xs))) (k : ∀ A c, v = .slice A xs.length c → TA F n P w0 D ops Q Hc Rc kk listed E (H.eraseIdx i) (Sl (.slice A xs.length c) xs :: R)) : TA F n P w0 D ops Q Hc Rc kk listed E H R := fun hreg w hs => by
  obtain ⟨A, c, e, h⟩ := hs.row_stays hi
  exact vX _ _ _ _ _ _ _ w (k A c e hreg w h)
theorem En_stays {e : Exit} (i : Nat) {v : Value} {m : Nat} {xs : List UInt8} (hi : H[i]? = some (.row v 5 1 m (bC xs))) (k : ∀ A c, v = .slice A xs.length c → En w0 D Q e E (H.eraseIdx i) (Sl (.slice A xs.length c) xs :: R)) : En w0 D Q e E H R := fun w hs => by
  obtain ⟨A, c, e, h⟩ := hs.row_stays hi
  exact k A c e w h
theorem T_staysx {α : Type} [Rep α] (i : Nat) {v : Value} {T' : TypeId} {sz m : Nat} {cs : List Value} {xs : List α} (hi : H[i]? = some (.row v T' sz m cs)) (hsz : Rep.size α = sz) (h0 : 0 < sz) (hx : Cx cs xs ∈ R) (k : ∀ A c, v = .slice A xs.length c → T F n P w0 D ops Q rest E (H.eraseIdx i) (Sl (.slice A xs.length c) xs :: R)) : T F n P w0 D ops Q rest E H R := fun w hs => by
  obtain ⟨A, c, e, h⟩ := hs.stays hi hsz h0 hx
  exact k A c e w h
theorem r8 {co : Code} {α : Type} [Rep α] (i : Nat) {v : Value} {T' : TypeId} {sz m : Nat} {cs : List Value} {xs : List α} (hi : H[i]? = some (.row v T' sz m cs)) (hsz : Rep.size α = sz) (h0 : 0 < sz) (hx : Cx cs xs ∈ R) (k : ∀ A c, v = .slice A xs.length c → TC F n P w0 D co Q E (H.eraseIdx i) (Sl (.slice A xs.length c) xs :: R)) : TC F n P w0 D co Q E H R := fun w hs => by
  obtain ⟨A, c, e, h⟩ := hs.stays hi hsz h0 hx
  exact k A c e w h
theorem iY (p : MP) (hp : ∀ s : Sto, (∀ q ∈ R, q.p s) → p.p s) (k : T F n P w0 D ops Q rest E H (p :: R)) : T F n P w0 D ops Q rest E H R := fun w hs => k w (hs.add p hp)
theorem qL {co : Code} (p : MP) (hp : ∀ s : Sto, (∀ q ∈ R, q.p s) → p.p s) (k : TC F n P w0 D co Q E H (p :: R)) : TC F n P w0 D co Q E H R := fun w hs => k w (hs.add p hp)
theorem TA_learn {Hc : List Hp} {Rc : List MP} {kk : Nat} {listed : Array Bool} (p : MP) (hp : ∀ s : Sto, (∀ q ∈ R, q.p s) → p.p s) (k : TA F n P w0 D ops Q Hc Rc kk listed E H (p :: R)) : TA F n P w0 D ops Q Hc Rc kk listed E H R := fN (fun w hs => hs.add p hp) k
theorem iS {f : FuncId} {args : Array Value} {K : Value → List Hp → List MP → Prop} (p : MP) (hp : ∀ s : Sto, (∀ q ∈ R, q.p s) → p.p s) (k : CallsK P w0 f args H (p :: R) K) : CallsK P w0 f args H R K := fun w hs => k w (hs.add p hp)
theorem kR (α : Type) [Rep α] (s : Sto) : (Sl (.slice none 0 0) ([] : List α)).p s := ⟨none, 0, rfl, ⟨by simp, by simp [eO]⟩, fun h => by simp at h⟩
theorem mN {co : Code} (T' : TypeId) (size : Nat) (k : TC F n P w0 D co Q E (.row (.slice none 0 0) T' size 0 [] :: H) R) : TC F n P w0 D co Q E H R := fun w hs => k w (hs.nilrow T' size)
end
end Go.Proofs.YtggdljhmbckpmaaGreat
namespace Go.Proofs.YtggdljhmbckpmaaGreat
open Go Go.RowKit
attribute [local semireducible] T TC En PW GW CallsK CallsP Sl Rd Ls At S TA
section
variable {P : Program} {w0 : World} {E : List Value} {H : List Hp} {R : List MP} {ty : TypeId} {K : Value → List MP → Prop}
/-- The amount of a number; of the least one 0. -/
def amt (p : Int) : Nat := if p = -9223372036854775808 then 0 else p.natAbs
theorem pw_amt {ts : Array TypeId} {x y z : Operand} {p : Int} (hI : dO p) (hx : ev E x = .int .i64 p) (hy : ev E y = .int .i64 (IntKind.i64.wrap (0 - p))) (hz : ev E z = .int .i64 0) (kk : K (.int .i64 ((amt p : Nat) : Int)) R) : PW P w0 E (.call ⟨.builtin .max, #[x, y, z], ts⟩) ty H R K :=
  fun w s hs => ⟨_, R, fun w' _ => by
    have e : (if (0 : Int) > (if IntKind.i64.wrap (0 - p) > p then IntKind.i64.wrap (0 - p) else p) then 0 else (if IntKind.i64.wrap (0 - p) > p then IntKind.i64.wrap (0 - p) else p)) = (amt p : Int) := by
      unfold dO at hI
      unfold amt
      by_cases h : p = -9223372036854775808
      · subst h; decide
      · rw [oY (k := .i64) (by simp [IntKind.min, IntKind.signed, IntKind.bits]; omega) (by simp [IntKind.max, IntKind.signed, IntKind.bits]; omega), if_neg h]
        split <;> split <;> omega
    simp only [nG, execOp, resolve, invoke, builtin, List.map_toArray, List.map_cons, List.map_nil, hx, hy, hz, Sem.run_bind, Sem.run_pure, Result.andThen_ok, run_max_int3, e], fun _ h => h, hs.rd, kk⟩
theorem zS {t t' : TypeId} {x y : Operand} {a m : Nat} (hx : ev E x = .int .i64 (a : Int)) (hy : ev E y = .int .i64 (m : Int)) (hm : 0 < m) (kk : ∀ r : Nat, Hid (r = a % m) → r < m → K (.int .i64 (r : Int)) R) : PW P w0 E (.binOp .rem t x y t') ty H R K :=
  lA hx hy aO aO (by
    have := kk (a % m) (Lib.hid rfl) (Nat.mod_lt _ hm)
    rw [Int.natCast_emod] at this; exact this)
end
end Go.Proofs.YtggdljhmbckpmaaGreat
namespace Go.Proofs.YtggdljhmbckpmaaGreat
open Go Go.RowKit
attribute [local semireducible] T TC En PW GW CallsK CallsP Sl Rd Ls At S TA
section
variable {F : Fence} {n : Nat} {P : Program} {w0 : World} {D : List Deferred} {ops : Array Oper} {Q : Exit → Act → World → Prop} {Hc : List Hp} {Rc : List MP} {E : List Value} {H : List Hp} {R : List MP}
theorem bT {α : Type _} {a : α} {l L : List α} (h : a ∈ L) (k : ∀ p ∈ l, p ∈ L) : ∀ p ∈ a :: l, p ∈ L := fun p hp => by
  rcases List.mem_cons.1 hp with rfl | hp
  · exact h
  · exact k p hp
theorem cut1 {G : Nat → Prop} {p : Prop} (h : (∀ b, G b) → p) (k : ∀ b, G b) : p := h k
theorem cut2 {G : Nat → Nat → Prop} {p : Prop} (h : (∀ b c, G b c) → p) (k : ∀ b c, G b c) : p := h k
/-- Two may come up. -/
theorem TA_two' (i j : Nat) {di dj : Option Tmp} {oi oj : Op} {ti tj : TypeId} {pi pj : String} {ai aj : Array Edge} {gi gj : Option (Nat × Bool)} {k : Nat} {listed li lj : Array Bool} (hr : Region.ready .any ops listed = [i, j]) (ho : ops[i]? = some ⟨di, oi, ti, pi, ai, gi⟩) (ho' : ops[j]? = some ⟨dj, oj, tj, pj, aj, gj⟩) (hli : listed.setIfInBounds i true = li) (hlj : listed.setIfInBounds j true = lj)
    (hw : nL ops ⟨di, oi, ti, pi, ai, gi⟩ E = true) (hw' : nL ops ⟨dj, oj, tj, pj, aj, gj⟩ E = true)
    (h : OW F n P w0 D Q ⟨di, oi, ti, pi, ai, gi⟩ E H R (fun v H' R' => ((∀ w, S w0 w H' R' → S w0 w Hc Rc) ∨ gU ops i = true) ∧ TA F n P w0 D ops Q Hc Rc k li (eE E di v) H' R'))
    (h' : OW F n P w0 D Q ⟨dj, oj, tj, pj, aj, gj⟩ E H R (fun v H' R' => ((∀ w, S w0 w H' R' → S w0 w Hc Rc) ∨ gU ops j = true) ∧ TA F n P w0 D ops Q Hc Rc k lj (eE E dj v) H' R')) : TA F n P w0 D ops Q Hc Rc (k + 1) listed E H R :=
  TA_two i j hr ho ho' hli hlj hw hw' h h'
/-- Three may come up. -/
theorem TA_three (i j l : Nat) {di dj dl : Option Tmp} {oi oj ol : Op} {ti tj tl : TypeId} {pi pj pl : String} {ai aj al : Array Edge} {gi gj gl : Option (Nat × Bool)} {k : Nat} {listed li lj ll : Array Bool} (hr : Region.ready .any ops listed = [i, j, l]) (ho : ops[i]? = some ⟨di, oi, ti, pi, ai, gi⟩) (ho' : ops[j]? = some ⟨dj, oj, tj, pj, aj, gj⟩) (ho2 : ops[l]? = some ⟨dl, ol, tl, pl, al, gl⟩) (hli : listed.setIfInBounds i true = li) (hlj : listed.setIfInBounds j true = lj) (hll : listed.setIfInBounds l true = ll)
    (hw : nL ops ⟨di, oi, ti, pi, ai, gi⟩ E = true) (hw' : nL ops ⟨dj, oj, tj, pj, aj, gj⟩ E = true) (hw2 : nL ops ⟨dl, ol, tl, pl, al, gl⟩ E = true)
    (h : OW F n P w0 D Q ⟨di, oi, ti, pi, ai, gi⟩ E H R (fun v H' R' => ((∀ w, S w0 w H' R' → S w0 w Hc Rc) ∨ gU ops i = true) ∧ TA F n P w0 D ops Q Hc Rc k li (eE E di v) H' R'))
    (h' : OW F n P w0 D Q ⟨dj, oj, tj, pj, aj, gj⟩ E H R (fun v H' R' => ((∀ w, S w0 w H' R' → S w0 w Hc Rc) ∨ gU ops j = true) ∧ TA F n P w0 D ops Q Hc Rc k lj (eE E dj v) H' R'))
    (h2 : OW F n P w0 D Q ⟨dl, ol, tl, pl, al, gl⟩ E H R (fun v H' R' => ((∀ w, S w0 w H' R' → S w0 w Hc Rc) ∨ gU ops l = true) ∧ TA F n P w0 D ops Q Hc Rc k ll (eE E dl v) H' R')) : TA F n P w0 D ops Q Hc Rc (k + 1) listed E H R := by
  subst hli; subst hlj; subst hll
  exact vZ hr dB (fun q hq o2 hoq => by
    simp at hq
    rcases hq with rfl | rfl | rfl
    · rw [ho] at hoq; cases hoq; exact ⟨fun _ => h, fun hf => by rw [hw] at hf; cases hf⟩
    · rw [ho'] at hoq; cases hoq; exact ⟨fun _ => h', fun hf => by rw [hw'] at hf; cases hf⟩
    · rw [ho2] at hoq; cases hoq; exact ⟨fun _ => h2, fun hf => by rw [hw2] at hf; cases hf⟩)
end
end Go.Proofs.YtggdljhmbckpmaaGreat
namespace Go.Proofs.YtggdljhmbckpmaaGreat
open Go Go.RowKit
section
variable {F : Fence} {n : Nat} {P : Program} {w0 : World} {D : List Deferred} {ops : Array Oper} {Q : Exit → Act → World → Prop} {rest : List Oper} {E : List Value} {H Hc : List Hp} {R Rc : List MP} {ty : TypeId} {K : Value → List MP → Prop}
theorem aB {E' : List Value} (k : T F n P w0 D ops Q rest E' H R) (h : E = E' := by simp only [eE, List.set_cons_succ, List.set_cons_zero]; rfl) : T F n P w0 D ops Q rest E H R := T_env h k
theorem aI {k : Nat} {listed : Array Bool} {E' : List Value} (kk : TA F n P w0 D ops Q Hc Rc k listed E' H R) (h : E = E' := by simp only [eE, List.set_cons_succ, List.set_cons_zero]; rfl) : TA F n P w0 D ops Q Hc Rc k listed E H R := yM h kk
theorem aG {x : Operand} {v : Value} (k : K v R) (hx : ev E x = v := by simp only [ev, List.getD_cons_zero, List.getD_cons_succ]; rfl) : PW P w0 E (.move x) ty H R K := pw_move hx k
theorem aY {x : Operand} {v : Value} (k : K v R) (hx : ev E x = v := by simp only [ev, List.getD_cons_zero, List.getD_cons_succ]; rfl) : PW P w0 E (.assign x) ty H R K := q8 hx k
theorem cE {H' : List Hp} (k : T F n P w0 D ops Q rest E H' R) (h : H = H' := by simp only [List.set_cons_succ, List.set_cons_zero, List.eraseIdx_cons_zero, List.eraseIdx_cons_succ, gL, List.take_succ_cons, List.take_zero, List.drop_succ_cons, List.drop_zero, List.length_cons, List.length_nil, Nat.zero_add, Nat.reduceAdd, List.nil_append, List.cons_append, List.append_nil]; rfl) : T F n P w0 D ops Q rest E H R := T_hp h k
theorem kN {k : Nat} {listed : Array Bool} {H' : List Hp} (kk : TA F n P w0 D ops Q Hc Rc k listed E H' R) (h : H = H' := by simp only [List.set_cons_succ, List.set_cons_zero, List.eraseIdx_cons_zero, List.eraseIdx_cons_succ, gL, List.take_succ_cons, List.take_zero, List.drop_succ_cons, List.drop_zero, List.length_cons, List.length_nil, Nat.zero_add, Nat.reduceAdd, List.nil_append, List.cons_append, List.append_nil]; rfl) : TA F n P w0 D ops Q Hc Rc k listed E H R := TA_hp h kk
end
/-! ### closers -/
theorem tH {α : Sort _} {a b : α} (h : a = b := by simp only [List.set_cons_succ, List.set_cons_zero, List.eraseIdx_cons_zero, List.eraseIdx_cons_succ, gL, List.take_succ_cons, List.take_zero, List.drop_succ_cons, List.drop_zero, List.length_cons, List.length_nil, Nat.zero_add, Nat.reduceAdd, List.nil_append, List.cons_append, List.append_nil]; rfl) : a = b := h
theorem eR {a b : Value} (h : a = b := by simp only [ev, List.getD_cons_zero, List.getD_cons_succ]; rfl) : a = b := h
theorem cW {α : Sort _} {a b : α} (h : a = b := by simp only [ev, List.getD_cons_zero, List.getD_cons_succ, Value.cells]; rfl) : a = b := h
theorem iE {α : Sort _} {a b : α} (h : a = b := by simp only [List.map_cons, List.map_nil, ev, List.getD_cons_zero, List.getD_cons_succ]; rfl) : a = b := h
theorem fA {α : Sort _} {a b : α} (h : a = b := by simp only [List.map_cons, List.map_nil, List.nil_append, List.cons_append, List.append_nil, ev, List.getD_cons_zero, List.getD_cons_succ]; rfl) : a = b := h
theorem fI {α : Sort _} {a b : α} (h : a = b := by simp only [List.length_cons, List.length_nil, Nat.reduceAdd, Nat.reduceSub, List.replicate_succ, List.replicate_zero, List.cons_append, List.nil_append]; rfl) : a = b := h
theorem eS {α : Sort _} {a b : α} (h : a = b := by simp only [eF, List.foldl_cons, List.foldl_nil, List.set_cons_succ, List.set_cons_zero, List.getD_cons_zero, List.getD_cons_succ]) : a = b := h
theorem cL {α : Type _} {a : α} {l : List α} (h : a ∈ l := by repeat (first | with_reducible apply List.mem_cons_self | with_reducible assumption | with_reducible apply List.mem_cons_of_mem)) : a ∈ l := h
theorem aX {α : Type _} {a : α} {l : List α} (h : a ∈ l := by first | ((repeat (first | with_reducible apply List.mem_cons_self | with_reducible assumption | with_reducible apply List.mem_cons_of_mem)); done) | repeat (first | exact List.Mem.head _ | assumption | apply List.Mem.tail)) : a ∈ l := h
theorem xW {α : Type _} {a : α} {l : List α} (h : a ∈ l := by first | ((repeat (first | with_reducible apply List.mem_cons_self | with_reducible assumption | with_reducible apply List.mem_cons_of_mem)); done) | ((repeat (first | exact List.Mem.head _ | assumption | apply List.Mem.tail)); done)) : a ∈ l := h
theorem gG {α : Sort _} {a b : α} (h : a = b := by repeat' first | refine xY rfl cW dT (by exact Nat.le_of_ble_eq_true rfl) (by simp only [jQ]; rfl) ?_ | exact zI) : a = b := h
theorem fP {α : Sort _} {a b : α} (h : a = b := by refine qP ?_; repeat' first | refine sF cW dT (by simp only [List.cons_append, List.nil_append]; rfl) ?_ | exact tL) : a = b := h
theorem eB {a b : List Hp} (h : a.Sublist b := by repeat (first | exact List.Sublist.refl _ | with_reducible apply List.Sublist.cons_cons | apply List.Sublist.cons)) : a.Sublist b := h
theorem hP {R R' : List MP} (h : ∀ p ∈ R', p ∈ R := by first | (intro p hp; with_reducible exact hp) | (repeat' (first | with_reducible refine bT aX ?_ | (intro p hp; repeat (first | with_reducible exact hp | with_reducible apply List.mem_cons_of_mem))))) : ∀ p ∈ R', p ∈ R := h
section
variable {F : Fence} {n : Nat} {P : Program} {w0 : World} {D : List Deferred} {ops : Array Oper} {Q : Exit → Act → World → Prop} {rest : List Oper} {E : List Value} {H Hc : List Hp} {R Rc : List MP}
theorem bY [Wd F] (i : Nat) {dst : Option Tmp} {op : Op} {ty : TypeId} {pos : String} {aft : Array Edge} {g : Option (Nat × Bool)} {k : Nat} {listed listed' : Array Bool} (hS : Hc.Sublist H) (h : PW P w0 E op ty Hc R (fun v R' => TA F n P w0 D ops Q Hc R' k listed' (eE E dst v) H R'))
    (hi : ops[i]? = some ⟨dst, op, ty, pos, aft, g⟩ := by exact rfl) (hl : listed.setIfInBounds i true = listed' := by simp only [List.setIfInBounds_toArray, List.set_cons_succ, List.set_cons_zero]; rfl) (hf : (Region.free .any ops listed i && (Region.ready .any ops listed).contains i) = true := by decide +kernel)
    (hw : nL ops ⟨dst, op, ty, pos, aft, g⟩ E = true := by exact rfl) (hd : jE op = true := by exact rfl) : TA F n P w0 D ops Q Hc R (k + 1) listed E H R := g9 i hi hf hl hw hd hS h
theorem bG [Wd F] (i : Nat) {dst : Option Tmp} {op : Op} {ty : TypeId} {pos : String} {aft : Array Edge} {g : Option (Nat × Bool)} {k : Nat} {listed listed' : Array Bool} (h : PW P w0 E op ty H R (fun v R' => TA F n P w0 D ops Q H R' k listed' (eE E dst v) H R'))
    (hi : ops[i]? = some ⟨dst, op, ty, pos, aft, g⟩ := by exact rfl) (hl : listed.setIfInBounds i true = listed' := by simp only [List.setIfInBounds_toArray, List.set_cons_succ, List.set_cons_zero]; rfl) (hf : (Region.free .any ops listed i && (Region.ready .any ops listed).contains i) = true := by decide +kernel)
    (hw : nL ops ⟨dst, op, ty, pos, aft, g⟩ E = true := by exact rfl) (hd : jE op = true := by exact rfl) : TA F n P w0 D ops Q H R (k + 1) listed E H R := g9 i hi hf hl hw hd (List.Sublist.refl _) h
theorem dS [Wd F] (i : Nat) {dst : Option Tmp} {op : Op} {ty : TypeId} {pos : String} {aft : Array Edge} {g : Option (Nat × Bool)} {k : Nat} {listed listed' : Array Bool} {E' : List Value} (hS : Hc.Sublist H) (h : TA F n P w0 D ops Q Hc R k listed' E' H R)
    (hi : ops[i]? = some ⟨dst, op, ty, pos, aft, g⟩ := by exact rfl) (hl : listed.setIfInBounds i true = listed' := by simp only [List.setIfInBounds_toArray, List.set_cons_succ, List.set_cons_zero]; rfl) (hf : (Region.free .any ops listed i && (Region.ready .any ops listed).contains i) = true := by decide +kernel)
    (hw : nL ops ⟨dst, op, ty, pos, aft, g⟩ E = false := by exact rfl) (he : eE E dst undef = E' := by simp only [eE, List.set_cons_succ, List.set_cons_zero]; rfl) : TA F n P w0 D ops Q Hc R (k + 1) listed E H R := TA_skip i hi hf hl hw hS (yM he h)
theorem gE (i : Nat) {dst : Option Tmp} {op : Op} {ty : TypeId} {pos : String} {aft : Array Edge} {g : Option (Nat × Bool)} {k : Nat} {listed listed' : Array Bool} (h : OW F n P w0 D Q ⟨dst, op, ty, pos, aft, g⟩ E H R (fun v H' R' => ((∀ w, S w0 w H' R' → S w0 w Hc Rc) ∨ gU ops i = true) ∧ TA F n P w0 D ops Q Hc Rc k listed' (eE E dst v) H' R'))
    (hi : ops[i]? = some ⟨dst, op, ty, pos, aft, g⟩ := by exact rfl) (hl : listed.setIfInBounds i true = listed' := by simp only [List.setIfInBounds_toArray, List.set_cons_succ, List.set_cons_zero]; rfl) (hr : Region.ready .any ops listed = [i] := by decide +kernel) (hw : nL ops ⟨dst, op, ty, pos, aft, g⟩ E = true := by exact rfl) : TA F n P w0 D ops Q Hc Rc (k + 1) listed E H R := TA_one i hr hi hl hw h
theorem mY [Wd F] (i : Nat) {dst : Option Tmp} {op : Op} {ty : TypeId} {pos : String} {aft : Array Edge} {g : Option (Nat × Bool)} {k : Nat} {listed listed' : Array Bool} (h : GW P w0 E op ty H R (fun v H' R' => ((∀ w, S w0 w H' R' → S w0 w Hc Rc) ∨ gU ops i = true) ∧ TA F n P w0 D ops Q Hc Rc k listed' (eE E dst v) H' R'))
    (hi : ops[i]? = some ⟨dst, op, ty, pos, aft, g⟩ := by exact rfl) (hl : listed.setIfInBounds i true = listed' := by simp only [List.setIfInBounds_toArray, List.set_cons_succ, List.set_cons_zero]; rfl) (hr : Region.ready .any ops listed = [i] := by decide +kernel) (hw : nL ops ⟨dst, op, ty, pos, aft, g⟩ E = true := by exact rfl) (hd : jE op = true := by exact rfl) : TA F n P w0 D ops Q Hc Rc (k + 1) listed E H R := TA_gen i hr hi hl hw hd h
theorem pZ (i j : Nat) {di dj : Option Tmp} {oi oj : Op} {ti tj : TypeId} {pi pj : String} {ai aj : Array Edge} {gi gj : Option (Nat × Bool)} {k : Nat} {listed li lj : Array Bool}
    (h : OW F n P w0 D Q ⟨di, oi, ti, pi, ai, gi⟩ E H R (fun v H' R' => ((∀ w, S w0 w H' R' → S w0 w Hc Rc) ∨ gU ops i = true) ∧ TA F n P w0 D ops Q Hc Rc k li (eE E di v) H' R'))
    (h' : OW F n P w0 D Q ⟨dj, oj, tj, pj, aj, gj⟩ E H R (fun v H' R' => ((∀ w, S w0 w H' R' → S w0 w Hc Rc) ∨ gU ops j = true) ∧ TA F n P w0 D ops Q Hc Rc k lj (eE E dj v) H' R'))
    (ho : ops[i]? = some ⟨di, oi, ti, pi, ai, gi⟩ := by exact rfl) (ho' : ops[j]? = some ⟨dj, oj, tj, pj, aj, gj⟩ := by exact rfl) (hli : listed.setIfInBounds i true = li := by simp only [List.setIfInBounds_toArray, List.set_cons_succ, List.set_cons_zero]; rfl) (hlj : listed.setIfInBounds j true = lj := by simp only [List.setIfInBounds_toArray, List.set_cons_succ, List.set_cons_zero]; rfl) (hr : Region.ready .any ops listed = [i, j] := by decide +kernel)
    (hw : nL ops ⟨di, oi, ti, pi, ai, gi⟩ E = true := by exact rfl) (hw' : nL ops ⟨dj, oj, tj, pj, aj, gj⟩ E = true := by exact rfl) : TA F n P w0 D ops Q Hc Rc (k + 1) listed E H R := TA_two' i j hr ho ho' hli hlj hw hw' h h'
theorem TA_3 (i j l : Nat) {di dj dl : Option Tmp} {oi oj ol : Op} {ti tj tl : TypeId} {pi pj pl : String} {ai aj al : Array Edge} {gi gj gl : Option (Nat × Bool)} {k : Nat} {listed li lj ll : Array Bool}
    (h : OW F n P w0 D Q ⟨di, oi, ti, pi, ai, gi⟩ E H R (fun v H' R' => ((∀ w, S w0 w H' R' → S w0 w Hc Rc) ∨ gU ops i = true) ∧ TA F n P w0 D ops Q Hc Rc k li (eE E di v) H' R'))
    (h' : OW F n P w0 D Q ⟨dj, oj, tj, pj, aj, gj⟩ E H R (fun v H' R' => ((∀ w, S w0 w H' R' → S w0 w Hc Rc) ∨ gU ops j = true) ∧ TA F n P w0 D ops Q Hc Rc k lj (eE E dj v) H' R'))
    (h2 : OW F n P w0 D Q ⟨dl, ol, tl, pl, al, gl⟩ E H R (fun v H' R' => ((∀ w, S w0 w H' R' → S w0 w Hc Rc) ∨ gU ops l = true) ∧ TA F n P w0 D ops Q Hc Rc k ll (eE E dl v) H' R'))
    (ho : ops[i]? = some ⟨di, oi, ti, pi, ai, gi⟩ := by exact rfl) (ho' : ops[j]? = some ⟨dj, oj, tj, pj, aj, gj⟩ := by exact rfl) (ho2 : ops[l]? = some ⟨dl, ol, tl, pl, al, gl⟩ := by exact rfl) (hli : listed.setIfInBounds i true = li := by simp only [List.setIfInBounds_toArray, List.set_cons_succ, List.set_cons_zero]; rfl) (hlj : listed.setIfInBounds j true = lj := by simp only [List.setIfInBounds_toArray, List.set_cons_succ, List.set_cons_zero]; rfl) (hll : listed.setIfInBounds l true = ll := by simp only [List.setIfInBounds_toArray, List.set_cons_succ, List.set_cons_zero]; rfl) (hr : Region.ready .any ops listed = [i, j, l] := by decide +kernel)
    (hw : nL ops ⟨di, oi, ti, pi, ai, gi⟩ E = true := by exact rfl) (hw' : nL ops ⟨dj, oj, tj, pj, aj, gj⟩ E = true := by exact rfl) (hw2 : nL ops ⟨dl, ol, tl, pl, al, gl⟩ E = true := by exact rfl) : TA F n P w0 D ops Q Hc Rc (k + 1) listed E H R := TA_three i j l hr ho ho' ho2 hli hlj hll hw hw' hw2 h h' h2
theorem iC {k : Nat} {listed : Array Bool} (h : En w0 D Q .normal E H R) (hr : (Region.ready .any ops listed).isEmpty = true := by decide +kernel) : TA F n P w0 D ops Q Hc Rc k listed E H R := kU hr h
end
theorem dV {w0 : World} {H H' : List Hp} {R R' : List MP} (h1 : H'.Sublist H := by exact eB) (h2 : ∀ p ∈ R', p ∈ R := by exact hP) : ∀ w, S w0 w H R → S w0 w H' R' := fun w hs => hs.weaken h1 h2
theorem r4 {w0 : World} {H H' : List Hp} {R : List MP} (h1 : H'.Sublist H := by exact eB) : ∀ w, S w0 w H R → S w0 w H' R := fun w hs => hs.weaken h1 (fun _ h => h)
abbrev fE {α : Type _} {a : α} {l : List α} : l.Sublist (a :: l) := List.Sublist.cons _ (List.Sublist.refl _)
end Go.Proofs.YtggdljhmbckpmaaGreat
namespace Go.Proofs.YtggdljhmbckpmaaGreat
open Go Go.RowKit
set_option maxRecDepth 100000
set_option maxHeartbeats 400000

def fnv (s : Nat) (c : UInt8) : Nat := ((s ^^^ c.toNat) * 16777619) % 4294967296
def jU (xs : List UInt8) : Nat := xs.foldl fnv 2166136261
theorem fnv_lt (s : Nat) (c : UInt8) : fnv s c < 4294967296 := Nat.mod_lt _ aO
theorem lG : ∀ (xs : List UInt8) (s : Nat), s < 4294967296 → xs.foldl fnv s < 4294967296
  | [], s, h => h
  | x :: xs, s, h => lG xs _ (fnv_lt s x)
theorem sU (xs : List UInt8) : jU xs < 4294967296 := lG xs _ aO

theorem vH (xs : List UInt8) (i : Nat) (hi : i < xs.length) : (xs.take (i + 1)).foldl fnv 2166136261 = fnv ((xs.take i).foldl fnv 2166136261) xs[i] := by
  rw [List.take_succ_eq_append_getElem hi, List.foldl_append, List.foldl_cons, List.foldl_nil]

theorem sum_k {w0 : World} {H : List Hp} {R : List MP} {K : Value → List Hp → List MP → Prop} (A : Option Addr) (c : Nat) (xs : List UInt8) (hb : xs.length ≤ 9223372036854775807) (hm : Sl (.slice A xs.length c) xs ∈ R)
    (k : K (.int .u32 (jU xs : Nat)) H R) : CallsK Tryz.prog w0 115 #[.slice A xs.length c] H R K := by
  refine bV Tryz.func115 rfl Tryz.ntmps115 fI ?_
  repeat' (first | (apply aF) | (apply aA) | (apply aV) | (apply aH) | (apply aD) | (refine aE rfl rfl ?_; ((first | refine aG ?_ | refine aY ?_ | refine bS rfl ?_)); refine aB ?_))
  refine cM [3, 5, 8, 9, 10, 11, 12, 13, 14, 15, 16, 17] (fun m j H' R' => H' = H ∧ R' = R ∧ ∃ i : Nat, i + m = xs.length ∧ j 8 = .int .i64 i ∧ j 3 = .int .u32 ((xs.take i).foldl fnv 2166136261 : Nat)) xs.length eS ⟨rfl, rfl, 0, by omega, rfl, rfl⟩ ?_
  rintro m j H' R' ⟨rfl, rfl, i, hi, h8, h3⟩
  refine dD (by simp only [eF, List.foldl_cons, List.foldl_nil, List.set_cons_succ, List.set_cons_zero, *]; rfl) ?_
  repeat' (first | (refine aE rfl rfl ?_; ((first | refine hJ rfl ?_ | refine pw_xor rfl rfl rfl (lG _ _ aO) (Nat.lt_of_lt_of_le (UInt8.toNat_lt _) cQ) ?_ | refine j8 (b := 16777619) rfl rfl rfl ?_)); refine aB ?_) | (apply aF) | (apply aA) | (apply aV) | (apply bP) | (apply bF) | (apply cG) | (apply aK; exact rfl) | (apply aJ; exact rfl) | (apply aH) | (apply aD) | (apply aW) | (apply bU) | (apply aS) | (apply aP; exact rfl; ((refine bD rfl cL rfl ?_)); refine aB ?_) | (apply aU; exact rfl; ((refine bM rfl rfl aO aO ?_)); refine aB ?_) | (apply aU; exact rfl; ((refine bQ rfl rfl (fun h => ?_) (fun h => ?_))) <;> (refine aB ?_)) | (apply gZ; exact rfl; ((refine iQ eR rfl aX (List.getElem?_eq_getElem aO) (fun b o => ?_))); refine aB ?_) | (refine aE rfl rfl ?_; ((first | refine aG ?_ | refine aY ?_)); refine aB ?_))
  · refine cJ (m - 1) H' R' aO eS ⟨rfl, rfl, i + 1, by omega, rfl, ?_⟩ (fun w hs => hs.weaken (List.Sublist.refl _) (fun p hp => List.Mem.tail _ hp))
    exact congrArg (fun n : Nat => Value.int .u32 (n : Int)) (vH xs i aO).symm
  · refine aZ (.inl rfl) (dP rfl (bR rfl)) (cA H' R' (fun _ h => h) ?_)
    rw [List.take_of_length_le aO]
    exact k
end Go.Proofs.YtggdljhmbckpmaaGreat
