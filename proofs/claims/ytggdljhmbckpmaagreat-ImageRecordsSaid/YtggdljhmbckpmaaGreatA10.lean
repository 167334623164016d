/- Rows of any data: what is noted of their cells while they grow, and how they are made to stay. -/
import Derived.Test.YtggdljhmbckpmaaGreatA9
set_option linter.unusedVariables false
set_option linter.unusedSimpArgs false
namespace Go.Proofs.YtggdljhmbckpmaaGreat
open Go Go.RowKit
attribute [local semireducible] T TC En PW GW CallsK CallsP Sl Rd Ls At S TA

/-! ### literals, step by step -/
theorem buildL_nil {E : List Value} {ev : List Value → Operand → Value} {pl : List (Nat × Nat)} {zs : List Value} : buildL E ev pl zs [] = some zs := rfl
theorem buildL_cons {E : List Value} {ev : List Value → Operand → Value} {pl : List (Nat × Nat)} {zs zs' vs : List Value} {o : Option (List Value)} {i : Nat} {x : Operand} {r : List (Nat × Operand)} {off sz : Nat} (h : pl[i]? = some (off, sz)) (hx : (ev E x).cells.toList = vs) (hl : vs.length = sz) (hb : off + sz ≤ zs.length) (hs : setsAt zs off vs = zs') (k : buildL E ev pl zs' r = o) : buildL E ev pl zs ((i, x) :: r) = o := by
  subst hx; subst hs
  simp only [buildL, h]
  rw [if_pos ⟨hl, hb⟩]; exact k
theorem partsL_start {E : List Value} {ev : List Value → Operand → Value} {sz i : Nat} {r : List (Nat × Operand)} {o : Option (List Value)} (k : (partsL E ev sz i r).map ([] ++ ·) = o) : partsL E ev sz i r = o := by
  simpa using k
theorem partsL_end {E : List Value} {ev : List Value → Operand → Value} {sz i : Nat} {d : List Value} : (partsL E ev sz i []).map (d ++ ·) = some d := by simp [partsL]
theorem partsL_step {E : List Value} {ev : List Value → Operand → Value} {sz i : Nat} {x : Operand} {r : List (Nat × Operand)} {vs d d' : List Value} {o : Option (List Value)} (hx : (ev E x).cells.toList = vs) (hl : vs.length = sz) (hd : d ++ vs = d') (k : (partsL E ev sz (i + 1) r).map (d' ++ ·) = o) : (partsL E ev sz i ((i, x) :: r)).map (d ++ ·) = o := by
  subst hx; subst hd
  unfold partsL
  rw [if_pos ⟨rfl, hl⟩, ← k]
  cases partsL E ev sz (i + 1) r <;> simp
section
variable {P : Program} {w0 : World} {E : List Value} {H : List Hp} {R : List MP} {ty : TypeId} {K : Value → List MP → Prop}
theorem pw_makeFuncL {fn : Fn} {first cap : List Operand} {f1 c1 : List Value} (h1 : first.map (ev E) = f1) (h2 : cap.map (ev E) = c1) (k : K (.func fn f1.toArray c1.toArray) R) : PW P w0 E (.makeFunc fn first.toArray cap.toArray) ty H R K := by
  subst h1; subst h2
  exact pw_makeFunc (by simpa using k)
end
/-- 'cs' are the cells of 'xs'. -/
def Cx {α : Type} [Rep α] (cs : List Value) (xs : List α) : MP where
  p s := cs.length = xs.length * Rep.size α ∧ ∀ j x, xs[j]? = some x → Rep.rd s ((cs.drop (j * Rep.size α)).take (Rep.size α)) x
  mono s t h hp := ⟨hp.1, fun j x hj => Rep.mono h (hp.2 j x hj)⟩

theorem Cx_nil {α : Type} [Rep α] (s : Sto) : (Cx [] ([] : List α)).p s := ⟨by simp, fun j x hj => by simp at hj⟩
theorem Cx_snoc {α : Type} [Rep α] {s : Sto} {cs c1 : List Value} {xs : List α} {x : α} (h : (Cx cs xs).p s) (hr : Rep.rd s c1 x) : (Cx (cs ++ c1) (xs ++ [x])).p s := by
  obtain ⟨h1, h2⟩ := h
  have hl := Rep.len hr
  refine ⟨by simp [h1, hl, Nat.add_mul], fun j y hj => ?_⟩
  rcases Nat.lt_or_ge j xs.length with hlt | hge
  · rw [List.getElem?_append_left hlt] at hj
    have hb : j * Rep.size α + Rep.size α ≤ cs.length := by
      rw [h1]
      calc j * Rep.size α + Rep.size α = (j + 1) * Rep.size α := by rw [Nat.add_mul, Nat.one_mul]
        _ ≤ xs.length * Rep.size α := Nat.mul_le_mul_right _ (by omega)
    rw [List.drop_append_of_le_length (by omega), List.take_append_of_le_length (by simp; omega)]
    exact h2 j y hj
  · rw [List.getElem?_append_right hge] at hj
    have : j = xs.length ∧ y = x := by
      have := (List.getElem?_eq_some_iff.1 hj).1
      simp at this
      have e : j - xs.length = 0 := by omega
      rw [e] at hj; simp at hj
      exact ⟨by omega, hj.symm⟩
    obtain ⟨rfl, rfl⟩ := this
    rw [← h1, List.drop_left, ← hl, List.take_length]; exact hr
theorem Cx_bytes (xs : List UInt8) (s : Sto) : (Cx (bytesV xs) xs).p s := by
  refine ⟨by simp [Rep.size], fun j x hj => ?_⟩
  have hl := (List.getElem?_eq_some_iff.1 hj).1
  have : (bytesV xs)[j]? = some (byteV x) := by simp [bytesV, hj]
  obtain ⟨h1, h2⟩ := List.getElem?_eq_some_iff.1 this
  show ((bytesV xs).drop (j * 1)).take 1 = [byteV x]
  rw [Nat.mul_one, List.drop_eq_getElem_cons h1, h2]; rfl
theorem Cx_one {α : Type} [Rep α] {s : Sto} {c1 : List Value} {x : α} (hr : Rep.rd s c1 x) : (Cx c1 [x]).p s := by
  simpa using Cx_snoc (Cx_nil s) hr

section
variable {F : Fence} {n : Nat} {P : Program} {w0 : World} {D : List Deferred} {ops : Array Oper} {Q : Exit → Act → World → Prop} {rest : List Oper} {E : List Value} {H : List Hp} {R : List MP}
theorem S.learn {w : World} (h : S w0 w H R) (p : MP) (hp : ∀ s : Sto, (∀ q ∈ R, q.p s) → p.p s) : S w0 w H (p :: R) := h.add p hp
theorem S.sl_nil (α : Type) [Rep α] {w : World} (h : S w0 w H R) : S w0 w H (Sl (.slice none 0 0) ([] : List α) :: R) :=
  h.add _ (fun s _ => ⟨none, 0, rfl, ⟨by simp, by simp [maxL]⟩, fun h => by simp at h⟩)

theorem S.stays {α : Type} [Rep α] {w : World} {i : Nat} {v : Value} {T : TypeId} {sz m : Nat} {cs : List Value} {xs : List α} (h : S w0 w H R) (hi : H[i]? = some (.row v T sz m cs)) (hsz : Rep.size α = sz) (h0 : 0 < sz) (hx : Cx cs xs ∈ R) :
    ∃ A c, v = .slice A xs.length c ∧ S w0 w (H.eraseIdx i) (Sl (.slice A xs.length c) xs :: R) := by
  subst hsz
  have hcl : cs.length = xs.length * Rep.size α := by
    obtain ⟨s, hs⟩ := h
    exact (hs.rd _ hx).1
  have hml : xs.length = m := by
    obtain ⟨s, hs⟩ := h
    have h1 := (hs.hp _ (List.mem_of_getElem? hi)).1.1
    rw [hcl] at h1
    exact Nat.eq_of_mul_eq_mul_right h0 h1
  rcases h.unrow hi with ⟨rfl, hm0, hnil⟩ | ⟨b, cap, sp, rfl, h2, h3, h4, h5, h6⟩
  · have : xs = [] := List.eq_nil_of_length_eq_zero (by omega)
    subst this
    exact ⟨none, 0, rfl, (h.drop i).sl_nil α⟩
  · subst hml
    refine ⟨some ⟨b, 0, none⟩, cap, rfl, ?_⟩
    have hlt : i < H.length := (List.getElem?_eq_some_iff.1 hi).1
    have h7 := h6.freeze (i := i) (b := b) (cs := cs ++ sp) (T := T) (by rw [List.getElem?_set_self hlt])
    have e : (H.set i (.blk b (cs ++ sp) T)).eraseIdx i = H.eraseIdx i := by rw [List.eraseIdx_set_eq]
    rw [e] at h7
    have h8 := h7.add (Sl (.slice (some ⟨b, 0, none⟩) xs.length cap) xs) (fun s hR => by
      have hat := hR (At b 0 (cs ++ sp)) (by simp)
      obtain ⟨_, hcx⟩ := hR (Cx cs xs) (by simp [hx])
      refine ⟨_, _, rfl, ⟨h4, by simp only [maxLen] at h5; simp only [maxL]; omega⟩, fun _ => ⟨b, 0, rfl, fun k x hk => ⟨_, hcx k x hk, fun j v hj => ?_⟩⟩⟩
      rw [List.getElem?_take] at hj
      split at hj
      · rename_i hjlt
        rw [List.getElem?_drop] at hj
        have := hat (k * Rep.size α + j) v (by rw [List.getElem?_append_left (List.getElem?_eq_some_iff.1 hj).1]; exact hj)
        simpa [Nat.add_assoc] using this
      · cases hj)
    exact h8.weaken (List.Sublist.refl _) (fun p hp => by
      rcases List.mem_cons.1 hp with rfl | hp
      · simp
      · simp [hp])
/-- A block that holds the cells of 'xs' is made to stay, as the slice of all of it. -/
theorem S.blk_stays {α : Type} [Rep α] {w : World} {i b n c : Nat} {T : TypeId} {cs sp : List Value} {xs : List α} (h : S w0 w H R) (hi : H[i]? = some (.blk b (cs ++ sp) T)) (hx : Cx cs xs ∈ R) (hn : n = xs.length) (hc : n ≤ c) (hcm : c ≤ maxL) :
    S w0 w (H.eraseIdx i) (Sl (.slice (some ⟨b, 0, none⟩) n c) xs :: R) := by
  subst hn
  have h7 := h.freeze hi
  have h8 := h7.add (Sl (.slice (some ⟨b, 0, none⟩) xs.length c) xs) (fun s hR => by
    have hat := hR (At b 0 (cs ++ sp)) (by simp)
    obtain ⟨_, hcx⟩ := hR (Cx cs xs) (by simp [hx])
    refine ⟨_, _, rfl, ⟨hc, hcm⟩, fun _ => ⟨b, 0, rfl, fun k x hk => ⟨_, hcx k x hk, fun j v hj => ?_⟩⟩⟩
    rw [List.getElem?_take] at hj
    split at hj
    · rename_i hjlt
      rw [List.getElem?_drop] at hj
      have := hat (k * Rep.size α + j) v (by rw [List.getElem?_append_left (List.getElem?_eq_some_iff.1 hj).1]; exact hj)
      simpa [Nat.add_assoc] using this
    · cases hj)
  exact h8.weaken (List.Sublist.refl _) (fun p hp => by
    rcases List.mem_cons.1 hp with rfl | hp
    · simp
    · simp [hp])

theorem S.bytes_stay {w : World} {i b n c : Nat} {T : TypeId} {xs : List UInt8} (h : S w0 w H R) (hi : H[i]? = some (.blk b (bytesV xs) T)) (hn : n = xs.length) (hc : n ≤ c) (hcm : c ≤ maxL) :
    S w0 w (H.eraseIdx i) (Sl (.slice (some ⟨b, 0, none⟩) n c) xs :: R) :=
  ((h.learn (Cx (bytesV xs) xs) (fun s _ => Cx_bytes _ s)).blk_stays (i := i) (cs := bytesV xs) (sp := []) (by simpa using hi) (by simp) hn hc hcm).weaken (List.Sublist.refl _) (fun p hp => by
    rcases List.mem_cons.1 hp with rfl | hp
    · simp
    · simp [hp])
theorem K_bool {K : Value → List Hp → List MP → Prop} {a b : Bool} (h : a = b) (hk : K (.bool b) H R) : K (.bool a) H R := h ▸ hk
theorem T_load [Wd F] {dst : Option Tmp} {t : TypeId} {x : Operand} {ty : TypeId} {pos : String} {aft : Array Edge} {g : Option (Nat × Bool)} (hw : Region.wanted ⟨dst, .load t x, ty, pos, aft, g⟩ (yielded ops E.toArray) = true)
    (h : PW P w0 E (.load t x) ty H R (fun v R' => T F n P w0 D ops Q rest (setD E dst v) H R')) : T F n P w0 D ops Q (⟨dst, .load t x, ty, pos, aft, g⟩ :: rest) E H R := T_pure hw rfl h
theorem T_bin [Wd F] {dst : Option Tmp} {o : BinOp} {t t' : TypeId} {x y : Operand} {ty : TypeId} {pos : String} {aft : Array Edge} {g : Option (Nat × Bool)} (hw : Region.wanted ⟨dst, .binOp o t x y t', ty, pos, aft, g⟩ (yielded ops E.toArray) = true)
    (h : PW P w0 E (.binOp o t x y t') ty H R (fun v R' => T F n P w0 D ops Q rest (setD E dst v) H R')) : T F n P w0 D ops Q (⟨dst, .binOp o t x y t', ty, pos, aft, g⟩ :: rest) E H R := T_pure hw rfl h
theorem T_idx [Wd F] {dst : Option Tmp} {t : TypeId} {x y : Operand} {ty : TypeId} {pos : String} {aft : Array Edge} {g : Option (Nat × Bool)} (hw : Region.wanted ⟨dst, .indexAddr t x y, ty, pos, aft, g⟩ (yielded ops E.toArray) = true)
    (h : PW P w0 E (.indexAddr t x y) ty H R (fun v R' => T F n P w0 D ops Q rest (setD E dst v) H R')) : T F n P w0 D ops Q (⟨dst, .indexAddr t x y, ty, pos, aft, g⟩ :: rest) E H R := T_pure hw rfl h
theorem T_store [Wd F] {dst : Option Tmp} {t : TypeId} {x y : Operand} {ty : TypeId} {pos : String} {aft : Array Edge} {g : Option (Nat × Bool)} (hw : Region.wanted ⟨dst, .store t x y, ty, pos, aft, g⟩ (yielded ops E.toArray) = true)
    (h : GW P w0 E (.store t x y) ty H R (fun v H' R' => T F n P w0 D ops Q rest (setD E dst v) H' R')) : T F n P w0 D ops Q (⟨dst, .store t x y, ty, pos, aft, g⟩ :: rest) E H R := T_gen hw rfl h
theorem S.shape {w : World} {i : Nat} {v : Value} {T : TypeId} {sz m : Nat} {cs : List Value} (h : S w0 w H R) (hi : H[i]? = some (.row v T sz m cs)) : ∃ A c, v = .slice A m c := by
  rcases h.unrow hi with ⟨rfl, h0, _⟩ | ⟨b, cap, sp, h1, _⟩
  · subst h0; exact ⟨_, _, rfl⟩
  · exact ⟨_, _, h1⟩
theorem T_shape (i : Nat) {v : Value} {T' : TypeId} {sz m : Nat} {cs : List Value} (hi : H[i]? = some (.row v T' sz m cs)) (k : ∀ A c, v = .slice A m c → T F n P w0 D ops Q rest E H R) : T F n P w0 D ops Q rest E H R := fun w hs => by
  obtain ⟨A, c, e⟩ := hs.shape hi
  exact k A c e w hs
theorem TC_shape {co : Code} (i : Nat) {v : Value} {T' : TypeId} {sz m : Nat} {cs : List Value} (hi : H[i]? = some (.row v T' sz m cs)) (k : ∀ A c, v = .slice A m c → TC F n P w0 D co Q E H R) : TC F n P w0 D co Q E H R := fun w hs => by
  obtain ⟨A, c, e⟩ := hs.shape hi
  exact k A c e w hs
theorem TA_shape {Hc : List Hp} {Rc : List MP} {kk : Nat} {listed : Array Bool} (i : Nat) {v : Value} {T' : TypeId} {sz m : Nat} {cs : List Value} (hi : H[i]? = some (.row v T' sz m cs)) (k : ∀ A c, v = .slice A m c → TA F n P w0 D ops Q Hc Rc kk listed E H R) : TA F n P w0 D ops Q Hc Rc kk listed E H R := fun hreg w hs => by
  obtain ⟨A, c, e⟩ := hs.shape hi
  exact k A c e hreg w hs
theorem T_stays (i : Nat) {v : Value} {m : Nat} {xs : List UInt8} (hi : H[i]? = some (.row v 5 1 m (bytesV xs))) (k : ∀ A c, v = .slice A xs.length c → T F n P w0 D ops Q rest E (H.eraseIdx i) (Sl (.slice A xs.length c) xs :: R)) : T F n P w0 D ops Q rest E H R := fun w hs => by
  obtain ⟨A, c, e, h⟩ := hs.row_stays hi
  exact k A c e w h
theorem TC_stays {co : Code} (i : Nat) {v : Value} {m : Nat} {xs : List UInt8} (hi : H[i]? = some (.row v 5 1 m (bytesV xs))) (k : ∀ A c, v = .slice A xs.length c → TC F n P w0 D co Q E (H.eraseIdx i) (Sl (.slice A xs.length c) xs :: R)) : TC F n P w0 D co Q E H R := fun w hs => by
  obtain ⟨A, c, e, h⟩ := hs.row_stays hi
  exact k A c e w h
theorem TA_stays {Hc : List Hp} {Rc : List MP} {kk : Nat} {listed : Array Bool} (i : Nat) {v : Value} {m : Nat} {xs : List UInt8} (hi : H[i]? = some (.row v 5 1 m (bytesV xs))) (k : ∀ A c, v = .slice A xs.length c → TA F n P w0 D ops Q Hc Rc kk listed E (H.eraseIdx i) (Sl (.slice A xs.length c) xs :: R)) : TA F n P w0 D ops Q Hc Rc kk listed E H R := fun hreg w hs => by
  obtain ⟨A, c, e, h⟩ := hs.row_stays hi
  exact TW_any _ _ _ _ _ _ _ w (k A c e hreg w h)
theorem En_stays {e : Exit} (i : Nat) {v : Value} {m : Nat} {xs : List UInt8} (hi : H[i]? = some (.row v 5 1 m (bytesV xs))) (k : ∀ A c, v = .slice A xs.length c → En w0 D Q e E (H.eraseIdx i) (Sl (.slice A xs.length c) xs :: R)) : En w0 D Q e E H R := fun w hs => by
  obtain ⟨A, c, e, h⟩ := hs.row_stays hi
  exact k A c e w h
theorem T_staysx {α : Type} [Rep α] (i : Nat) {v : Value} {T' : TypeId} {sz m : Nat} {cs : List Value} {xs : List α} (hi : H[i]? = some (.row v T' sz m cs)) (hsz : Rep.size α = sz) (h0 : 0 < sz) (hx : Cx cs xs ∈ R) (k : ∀ A c, v = .slice A xs.length c → T F n P w0 D ops Q rest E (H.eraseIdx i) (Sl (.slice A xs.length c) xs :: R)) : T F n P w0 D ops Q rest E H R := fun w hs => by
  obtain ⟨A, c, e, h⟩ := hs.stays hi hsz h0 hx
  exact k A c e w h
theorem TC_staysx {co : Code} {α : Type} [Rep α] (i : Nat) {v : Value} {T' : TypeId} {sz m : Nat} {cs : List Value} {xs : List α} (hi : H[i]? = some (.row v T' sz m cs)) (hsz : Rep.size α = sz) (h0 : 0 < sz) (hx : Cx cs xs ∈ R) (k : ∀ A c, v = .slice A xs.length c → TC F n P w0 D co Q E (H.eraseIdx i) (Sl (.slice A xs.length c) xs :: R)) : TC F n P w0 D co Q E H R := fun w hs => by
  obtain ⟨A, c, e, h⟩ := hs.stays hi hsz h0 hx
  exact k A c e w h
theorem T_learn (p : MP) (hp : ∀ s : Sto, (∀ q ∈ R, q.p s) → p.p s) (k : T F n P w0 D ops Q rest E H (p :: R)) : T F n P w0 D ops Q rest E H R := fun w hs => k w (hs.add p hp)
theorem TC_learn {co : Code} (p : MP) (hp : ∀ s : Sto, (∀ q ∈ R, q.p s) → p.p s) (k : TC F n P w0 D co Q E H (p :: R)) : TC F n P w0 D co Q E H R := fun w hs => k w (hs.add p hp)
theorem TA_learn {Hc : List Hp} {Rc : List MP} {kk : Nat} {listed : Array Bool} (p : MP) (hp : ∀ s : Sto, (∀ q ∈ R, q.p s) → p.p s) (k : TA F n P w0 D ops Q Hc Rc kk listed E H (p :: R)) : TA F n P w0 D ops Q Hc Rc kk listed E H R := TA_pre (fun w hs => hs.add p hp) k
theorem CallsK_learn {f : FuncId} {args : Array Value} {K : Value → List Hp → List MP → Prop} (p : MP) (hp : ∀ s : Sto, (∀ q ∈ R, q.p s) → p.p s) (k : CallsK P w0 f args H (p :: R) K) : CallsK P w0 f args H R K := fun w hs => k w (hs.add p hp)
theorem En_learn {e : Exit} (p : MP) (hp : ∀ s : Sto, (∀ q ∈ R, q.p s) → p.p s) (k : En w0 D Q e E H (p :: R)) : En w0 D Q e E H R := fun w hs => k w (hs.add p hp)
theorem Sl_nil (α : Type) [Rep α] (s : Sto) : (Sl (.slice none 0 0) ([] : List α)).p s := ⟨none, 0, rfl, ⟨by simp, by simp [maxL]⟩, fun h => by simp at h⟩
theorem T_nilrow (T' : TypeId) (size : Nat) (k : T F n P w0 D ops Q rest E (.row (.slice none 0 0) T' size 0 [] :: H) R) : T F n P w0 D ops Q rest E H R := fun w hs => k w (hs.nilrow T' size)
theorem TC_nilrow {co : Code} (T' : TypeId) (size : Nat) (k : TC F n P w0 D co Q E (.row (.slice none 0 0) T' size 0 [] :: H) R) : TC F n P w0 D co Q E H R := fun w hs => k w (hs.nilrow T' size)
end
end Go.Proofs.YtggdljhmbckpmaaGreat
