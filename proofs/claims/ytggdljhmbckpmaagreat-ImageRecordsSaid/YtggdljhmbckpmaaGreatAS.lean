/- Appending what stays to an owned row. What is owned is made to stay, where the order is drawn. -/
import Derived.Test.YtggdljhmbckpmaaGreatA17
import Derived.Laws.Small
import Derived.Test.YtggdljhmbckpmaaGreatA14
set_option linter.unusedVariables false
set_option linter.unusedSimpArgs false
namespace Go.Proofs.YtggdljhmbckpmaaGreat
open Go Go.RowKit
attribute [local semireducible] T TC En PW GW OW CallsK CallsP Sl Rd Ls At S

theorem cut4 {α β γ δ : Type} {G : α → β → γ → δ → Prop} {p : Prop} (h : (∀ a b c d, G a b c d) → p) (k : ∀ a b c d, G a b c d) : p := h k
theorem cut5 {α β γ δ ε : Type} {G : α → β → γ → δ → ε → Prop} {p : Prop} (h : (∀ a b c d e, G a b c d e) → p) (k : ∀ a b c d e, G a b c d e) : p := h k
theorem ls_cells {α : Type} [Rep α] {s : Sto} {b o : Nat} {xs : List α} (h : (Ls b o xs).p s) : ∀ k, k ≤ xs.length → ∃ news : List Value, (Cx news (xs.take k)).p s ∧ (At b o news).p s
  | 0, _ => ⟨[], by simpa using Cx_nil s, fun j v hj => by simp at hj⟩
  | k + 1, hk => by
    obtain ⟨news, h1, h2⟩ := ls_cells h k (by omega)
    obtain ⟨cs, h3, h4⟩ := h k xs[k] (List.getElem?_eq_getElem (by omega))
    refine ⟨news ++ cs, ?_, fun j v hj => ?_⟩
    · rw [List.take_succ_eq_append_getElem (by omega)]
      exact Cx_snoc h1 h3
    · have hl : news.length = k * Rep.size α := by
        have := h1.1
        rw [List.length_take, Nat.min_eq_left (by omega)] at this
        exact this
      by_cases hj' : j < news.length
      · rw [List.getElem?_append_left hj'] at hj
        exact h2 j v hj
      · rw [List.getElem?_append_right (by omega)] at hj
        have := h4 _ v hj
        rw [show o + k * Rep.size α + (j - news.length) = o + j by omega] at this
        exact this
theorem Cx_append {α : Type} [Rep α] {s : Sto} {cs : List Value} {xs : List α} (h : (Cx cs xs).p s) {ds : List Value} : ∀ {ys : List α}, (Cx ds ys).p s → (Cx (cs ++ ds) (xs ++ ys)).p s := fun {ys} h' => by
  obtain ⟨h1, h2⟩ := h
  obtain ⟨h3, h4⟩ := h'
  refine ⟨by simp [h1, h3, Nat.add_mul], fun j x hj => ?_⟩
  by_cases hjl : j < xs.length
  · rw [List.getElem?_append_left hjl] at hj
    have := h2 j x hj
    have hle : (j + 1) * Rep.size α ≤ cs.length := by rw [h1]; exact Nat.mul_le_mul_right _ hjl
    rw [Nat.add_mul] at hle
    rw [List.drop_append_of_le_length (by omega), List.take_append_of_le_length (by simp; omega)]
    exact this
  · rw [List.getElem?_append_right (by omega)] at hj
    have := h4 _ x hj
    have e : j * Rep.size α = cs.length + (j - xs.length) * Rep.size α := by
      rw [h1, ← Nat.add_mul]; congr 1; omega
    rw [e, List.drop_append, List.drop_of_length_le (by omega), Nat.add_sub_cancel_left, List.nil_append]
    exact this
section
variable {P : Program} {w0 : World} {E : List Value} {H : List Hp} {R : List MP} {ty : TypeId} {K : Value → List Hp → List MP → Prop}
theorem S.opened {α : Type} [Rep α] {w : World} (hs : S w0 w H R) {A : Option Addr} {m c : Nat} {xs : List α} (hm : Sl (.slice A m c) xs ∈ R) :
    m = xs.length ∧ ∃ news b o, S w0 w H (Cx news xs :: At b o news :: R) ∧ (0 < m → A = some ⟨b, o, none⟩) ∧ news.length = m * Rep.size α ∧ ∀ u ∈ news, u.oneCell' = true := by
  obtain ⟨s, h⟩ := hs
  obtain ⟨A', c', e1, h2, h3⟩ := h.rd _ hm
  injection e1 with e1 e5 e6
  subst e1; subst e5; subst e6
  refine ⟨rfl, ?_⟩
  have one : ∀ news : List Value, (Cx news xs).p s → news.length = xs.length * Rep.size α ∧ ∀ u ∈ news, u.oneCell' = true := by
    rintro news ⟨h4, h5⟩
    refine ⟨h4, fun u hu => ?_⟩
    obtain ⟨j, hj⟩ := List.mem_iff_getElem?.1 hu
    have hjl := (List.getElem?_eq_some_iff.1 hj).1
    have hsz : 0 < Rep.size α := by
      rcases Nat.eq_zero_or_pos (Rep.size α) with h0 | h0
      · rw [h4, h0] at hjl; omega
      · exact h0
    have hq : j / Rep.size α < xs.length := by rw [h4] at hjl; exact (Nat.div_lt_iff_lt_mul hsz).2 hjl
    have h6 := h5 _ _ (List.getElem?_eq_getElem hq)
    refine Rep.one h6 u (List.mem_iff_getElem?.2 ⟨j % Rep.size α, ?_⟩)
    rw [List.getElem?_take, if_pos (Nat.mod_lt _ hsz), List.getElem?_drop]
    have := Nat.div_add_mod' j (Rep.size α)
    rw [this]; exact hj
  rcases Nat.eq_zero_or_pos xs.length with h0 | h0
  · have : xs = [] := List.eq_nil_of_length_eq_zero h0
    subst this
    refine ⟨[], 0, 0, ⟨s, h.more (fun p hp => ?_)⟩, fun h => by simp at h, by simp, by simp⟩
    simp only [List.mem_cons] at hp
    rcases hp with rfl | rfl | hp
    · exact Cx_nil s
    · exact fun j v hj => by simp at hj
    · exact h.rd p hp
  · obtain ⟨b, o, rfl, hl⟩ := h3 h0
    obtain ⟨news, h4, h5⟩ := ls_cells hl xs.length (Nat.le_refl _)
    rw [List.take_length] at h4
    obtain ⟨o1, o2⟩ := one news h4
    refine ⟨news, b, o, ⟨s, h.more (fun p hp => ?_)⟩, fun _ => rfl, o1, o2⟩
    simp only [List.mem_cons] at hp
    rcases hp with rfl | rfl | hp
    · exact h4
    · exact h5
    · exact h.rd p hp
/-- append of what stays to an owned row. -/
theorem gw_append_slx {α : Type} [Rep α] {t e : TypeId} {s x : Operand} (i : Nat) {n c m sz by_ : Nat} {zs cs : List Value} {v : Value} {A : Option Addr} {xs : List α} [h : TyL P t e sz by_ zs] (hs : ev E s = v) (hx : ev E x = .slice A m c) (hm : Sl (.slice A m c) xs ∈ R) (hsz : Rep.size α = sz) (h0 : 0 < sz) (hi : H[i]? = some (.row v e sz n cs))
    (hby : (n + m) * by_ ≤ 140737488355328) (hnm : n + m ≤ 140737488355328)
    (kk : ∀ v' news, K v' (H.set i (.row v' e sz (n + m) (cs ++ news))) (Cx news xs :: R)) : GW P w0 E (.call ⟨.builtin .append, #[s, x], #[t, t]⟩) ty H R K := fun w hw => by
  obtain ⟨hml, news, b, o, hw2, hA, hl, h1⟩ := hw.opened hm
  subst hsz
  obtain ⟨v', w', H', R', r1, r2, rfl, r3⟩ := gw_append_core (P := P) (t := t) (s := s) (x := x) (w0 := w0) (E := E) (ty := ty) (h := h) (K := fun v' H' R' => R' = Cx news xs :: At b o news :: R ∧ H' = H.set i (.row v' e (Rep.size α) (n + m) (cs ++ news))) (R := Cx news xs :: At b o news :: R) hs hx hi h0 hl (fun w hw h0 => by
    refine ⟨_, hA h0, fun j u hj => ?_⟩
    rw [Addr.add_mk]
    exact hw.at_cell (by simp) j u hj) h1 hby hnm (fun v' => ⟨rfl, rfl⟩) w hw2
  subst r3
  exact ⟨v', w', _, _, r1, r2.weaken (List.Sublist.refl _) (fun p hp => by
    rcases List.mem_cons.1 hp with rfl | hp
    · simp
    · simp [hp]), kk v' news⟩
/-- An empty literal: an owned row. -/
theorem gw_build0 {t e : TypeId} {parts : Array (Nat × Operand)} {sz by_ : Nat} {zs : List Value} [h : TyL P t e sz by_ zs] (hp : parts = #[]) (h0 : 0 < sz) (kk : ∀ b, K (.slice (some ⟨b, 0, none⟩) 0 0) (.row (.slice (some ⟨b, 0, none⟩) 0 0) e sz 0 [] :: H) R) : GW P w0 E (.buildSlice t 0 parts) ty H R K := fun w hw => by
  subst hp
  obtain ⟨v', w', H', R', r1, r2, b, rfl, rfl, rfl⟩ := gw_buildSlice (P := P) (t := t) (w0 := w0) (E := E) (ty := ty) (H := H) (R := R) (n := 0) (parts := #[]) (h := h) (K := fun v H' R' => ∃ b, v = .slice (some ⟨b, 0, none⟩) 0 0 ∧ H' = .blk b [] e :: H ∧ R' = R) (by simp) (cs := []) rfl rfl (fun b => ⟨b, rfl, rfl, rfl⟩) w hw
  exact ⟨_, w', _, _, r1, r2.torow (i := 0) (cs := []) (sp := []) (n := 0) (cap := 0) (size := sz) rfl (by simp) (by simp) (by omega) (by decide), kk b⟩
end
section
variable {P : Program} {w0 : World} {E : List Value} {H : List Hp} {R : List MP} {ty : TypeId} {K : Value → List MP → Prop}
theorem pw_max2 {ts : Array TypeId} {x y : Operand} {p q : Int} (hx : ev E x = .int .i64 p) (hy : ev E y = .int .i64 q) (kk : K (.int .i64 (if q > p then q else p)) R) : PW P w0 E (.call ⟨.builtin .max, #[x, y], ts⟩) ty H R K :=
  fun w s hs => ⟨_, R, fun w' _ => by
    simp only [xop, execOp, resolve, invoke, builtin, List.map_toArray, List.map_cons, List.map_nil, hx, hy, Sem.run_bind, Sem.run_pure, Result.andThen_ok, run_max_int2], fun _ h => h, hs.rd, kk⟩
end
end Go.Proofs.YtggdljhmbckpmaaGreat
namespace Go.Proofs.YtggdljhmbckpmaaGreat
open Go Go.RowKit
attribute [local semireducible] T TA TC En PW GW OW CallsK CallsP Sl Rd Ls At S
section
variable {F : Fence} {n : Nat} {P : Program} {w0 : World} {D : List Deferred} {ops : Array Oper} {Q : Exit → Act → World → Prop} {rest : List Oper} {E : List Value} {H : List Hp} {R : List MP}
theorem TA_staysx {α : Type} [Rep α] {Hc : List Hp} {Rc : List MP} {kk : Nat} {listed : Array Bool} (i : Nat) {v : Value} {T' : TypeId} {sz m : Nat} {cs : List Value} {xs : List α} (hi : H[i]? = some (.row v T' sz m cs)) (hsz : Rep.size α = sz) (h0 : 0 < sz) (hx : Cx cs xs ∈ R) (k : ∀ A c, v = .slice A xs.length c → TA F n P w0 D ops Q Hc Rc kk listed E (H.eraseIdx i) (Sl (.slice A xs.length c) xs :: R)) : TA F n P w0 D ops Q Hc Rc kk listed E H R := fun hreg w hs => by
  obtain ⟨A, c, e, h⟩ := hs.stays hi hsz h0 hx
  exact TW_any _ _ _ _ _ _ _ w (k A c e hreg w h)
/-- The only one that may come up is not wanted. -/
theorem TA_os (i : Nat) {dst : Option Tmp} {op : Op} {ty : TypeId} {pos : String} {aft : Array Edge} {g : Option (Nat × Bool)} {Hc : List Hp} {Rc : List MP} {k : Nat} {listed listed' : Array Bool} {E' : List Value} (h : TA F n P w0 D ops Q Hc Rc k listed' E' H R)
    (hi : ops[i]? = some ⟨dst, op, ty, pos, aft, g⟩ := by exact rfl) (hl : listed.setIfInBounds i true = listed' := by simp only [List.setIfInBounds_toArray, List.set_cons_succ, List.set_cons_zero]; rfl) (hr : Region.ready .any ops listed = [i] := by decide +kernel)
    (hw : wnt ops ⟨dst, op, ty, pos, aft, g⟩ E = false := by exact rfl) (he : setD E dst undef = E' := by simp only [setD, List.set_cons_succ, List.set_cons_zero]; rfl) : TA F n P w0 D ops Q Hc Rc (k + 1) listed E H R := TA_oneskip i hr hi hl hw (TA_env he h)
theorem S.str_stay {w : World} {b : Nat} {T' : TypeId} {xs : List UInt8} (hl : xs.length ≤ 140737488355328) (hs : S w0 w (.blk b [.string (strV xs)] T' :: H) R) : S w0 w H (Sl (.slice (some ⟨b, 0, none⟩) 1 1) ([strV xs] : List ByteArray) :: R) := by
  have hsz : (strV xs).size = xs.length := rfl
  exact ((hs.learn (Cx [.string (strV xs)] ([strV xs] : List ByteArray)) (fun s _ => Cx_one ⟨rfl, by rw [hsz]; simp only [maxL]; omega⟩)).blk_stays (i := 0) (b := b) (T := T') (cs := [.string (strV xs)]) (n := 1) (c := 1) (sp := []) rfl List.mem_cons_self rfl (Nat.le_refl _) (by decide)).weaken (List.Sublist.refl _) (sub_cons List.mem_cons_self (fun p hp => List.mem_cons_of_mem _ (List.mem_cons_of_mem _ hp)))
end
end Go.Proofs.YtggdljhmbckpmaaGreat
