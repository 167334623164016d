/- The rules that a walk takes most often, with the reading of the temporaries as a default: short words for printed texts. Appending what stays to an owned row. What is owned is made to stay, where the order is drawn. Joins that other exits pass by. -/
import Derived.Test.YtggdljhmbckpmaaAM
import Derived.Laws.Small
import Derived.Test.YtggdljhmbckpmaaA14
set_option linter.unusedVariables false
set_option linter.unusedSimpArgs false
namespace Go.Proofs.Ytggdljhmbckpmaa
open Go Go.RowKit
section
variable {F : Fence} {n : Nat} {P : Program} {w0 : World} {D : List Deferred} {ops : Array Oper} {Q : Exit → Act → World → Prop} {rest : List Oper} {E : List Value} {H Hc : List Hp} {R Rc : List MP} {ty : TypeId} {K : Value → List MP → Prop}
theorem T_nv {E' : List Value} (k : T F n P w0 D ops Q rest E' H R) (h : E = E' := by simp only [setD, List.set_cons_succ, List.set_cons_zero]; rfl) : T F n P w0 D ops Q rest E H R := T_env h k
theorem TA_nv {k : Nat} {listed : Array Bool} {E' : List Value} (kk : TA F n P w0 D ops Q Hc Rc k listed E' H R) (h : E = E' := by simp only [setD, List.set_cons_succ, List.set_cons_zero]; rfl) : TA F n P w0 D ops Q Hc Rc k listed E H R := TA_env h kk
theorem pw_mv {x : Operand} {v : Value} (k : K v R) (hx : ev E x = v := by simp only [ev, List.getD_cons_zero, List.getD_cons_succ]; rfl) : PW P w0 E (.move x) ty H R K := pw_move hx k
theorem pw_as {x : Operand} {v : Value} (k : K v R) (hx : ev E x = v := by simp only [ev, List.getD_cons_zero, List.getD_cons_succ]; rfl) : PW P w0 E (.assign x) ty H R K := pw_assign hx k
theorem T_hq {H' : List Hp} (k : T F n P w0 D ops Q rest E H' R) (h : H = H' := by simp only [List.set_cons_succ, List.set_cons_zero, List.eraseIdx_cons_zero, List.eraseIdx_cons_succ, overlay, List.take_succ_cons, List.take_zero, List.drop_succ_cons, List.drop_zero, List.length_cons, List.length_nil, Nat.zero_add, Nat.reduceAdd, List.nil_append, List.cons_append, List.append_nil]; rfl) : T F n P w0 D ops Q rest E H R := T_hp h k
theorem TA_hq {k : Nat} {listed : Array Bool} {H' : List Hp} (kk : TA F n P w0 D ops Q Hc Rc k listed E H' R) (h : H = H' := by simp only [List.set_cons_succ, List.set_cons_zero, List.eraseIdx_cons_zero, List.eraseIdx_cons_succ, overlay, List.take_succ_cons, List.take_zero, List.drop_succ_cons, List.drop_zero, List.length_cons, List.length_nil, Nat.zero_add, Nat.reduceAdd, List.nil_append, List.cons_append, List.append_nil]; rfl) : TA F n P w0 D ops Q Hc Rc k listed E H R := TA_hp h kk
end
/-! ### closers -/
theorem hpp {α : Sort _} {a b : α} (h : a = b := by simp only [List.set_cons_succ, List.set_cons_zero, List.eraseIdx_cons_zero, List.eraseIdx_cons_succ, overlay, List.take_succ_cons, List.take_zero, List.drop_succ_cons, List.drop_zero, List.length_cons, List.length_nil, Nat.zero_add, Nat.reduceAdd, List.nil_append, List.cons_append, List.append_nil]; rfl) : a = b := h
theorem nvp {α : Sort _} {a b : α} (h : a = b := by simp only [setD, List.set_cons_succ, List.set_cons_zero]; rfl) : a = b := h
theorem evp {a b : Value} (h : a = b := by simp only [ev, List.getD_cons_zero, List.getD_cons_succ]; rfl) : a = b := h
theorem clp {α : Sort _} {a b : α} (h : a = b := by simp only [ev, List.getD_cons_zero, List.getD_cons_succ, Value.cells]; rfl) : a = b := h
theorem agp {α : Sort _} {a b : α} (h : a = b := by simp only [List.map_cons, List.map_nil, ev, List.getD_cons_zero, List.getD_cons_succ]; rfl) : a = b := h
theorem arp {α : Sort _} {a b : α} (h : a = b := by simp only [List.map_cons, List.map_nil, List.nil_append, List.cons_append, List.append_nil, ev, List.getD_cons_zero, List.getD_cons_succ]; rfl) : a = b := h
theorem nep {α : Sort _} {a b : α} (h : a = b := by simp only [List.length_cons, List.length_nil, Nat.reduceAdd, Nat.reduceSub, List.replicate_succ, List.replicate_zero, List.cons_append, List.nil_append]; rfl) : a = b := h
theorem sjp {α : Sort _} {a b : α} (h : a = b := by simp only [setJ, List.foldl_cons, List.foldl_nil, List.set_cons_succ, List.set_cons_zero, List.getD_cons_zero, List.getD_cons_succ]) : a = b := h
theorem memr {α : Type _} {a : α} {l : List α} (h : a ∈ l := by repeat (first | with_reducible apply List.mem_cons_self | with_reducible assumption | with_reducible apply List.mem_cons_of_mem)) : a ∈ l := h
theorem memt {α : Type _} {a : α} {l : List α} (h : a ∈ l := by first | ((repeat (first | with_reducible apply List.mem_cons_self | with_reducible assumption | with_reducible apply List.mem_cons_of_mem)); done) | repeat (first | exact List.Mem.head _ | assumption | apply List.Mem.tail)) : a ∈ l := h
theorem memx {α : Type _} {a : α} {l : List α} (h : a ∈ l := by first | ((repeat (first | with_reducible apply List.mem_cons_self | with_reducible assumption | with_reducible apply List.mem_cons_of_mem)); done) | ((repeat (first | exact List.Mem.head _ | assumption | apply List.Mem.tail)); done)) : a ∈ l := h
theorem bldp {α : Sort _} {a b : α} (h : a = b := by repeat' first | refine buildL_cons rfl clp (by rfl) (by exact Nat.le_of_ble_eq_true rfl) (by simp only [setsAt]; rfl) ?_ | exact buildL_nil) : a = b := h
theorem prtp {α : Sort _} {a b : α} (h : a = b := by refine partsL_start ?_; repeat' first | refine partsL_step clp (by rfl) (by simp only [List.cons_append, List.nil_append]; rfl) ?_ | exact partsL_end) : a = b := h
theorem sbp {a b : List Hp} (h : a.Sublist b := by repeat (first | exact List.Sublist.refl _ | with_reducible apply List.Sublist.cons_cons | apply List.Sublist.cons)) : a.Sublist b := h
theorem kpp {R R' : List MP} (h : ∀ p ∈ R', p ∈ R := by first | (intro p hp; with_reducible exact hp) | (repeat' (first | with_reducible refine sub_cons memt ?_ | (intro p hp; repeat (first | with_reducible exact hp | with_reducible apply List.mem_cons_of_mem))))) : ∀ p ∈ R', p ∈ R := h
section
variable {F : Fence} {n : Nat} {P : Program} {w0 : World} {D : List Deferred} {ops : Array Oper} {Q : Exit → Act → World → Prop} {rest : List Oper} {E : List Value} {H Hc : List Hp} {R Rc : List MP}
theorem TA_ps [Wd F] (i : Nat) {dst : Option Tmp} {op : Op} {ty : TypeId} {pos : String} {aft : Array Edge} {g : Option (Nat × Bool)} {k : Nat} {listed listed' : Array Bool} (hS : Hc.Sublist H) (h : PW P w0 E op ty Hc R (fun v R' => TA F n P w0 D ops Q Hc R' k listed' (setD E dst v) H R'))
    (hi : ops[i]? = some ⟨dst, op, ty, pos, aft, g⟩ := by exact rfl) (hl : listed.setIfInBounds i true = listed' := by simp only [List.setIfInBounds_toArray, List.set_cons_succ, List.set_cons_zero]; rfl) (hf : (Region.free .any ops listed i && (Region.ready .any ops listed).contains i) = true := by decide +kernel)
    (hw : wnt ops ⟨dst, op, ty, pos, aft, g⟩ E = true := by exact rfl) (hd : notDefer op = true := by exact rfl) : TA F n P w0 D ops Q Hc R (k + 1) listed E H R := TA_pure i hi hf hl hw hd hS h
theorem TA_p [Wd F] (i : Nat) {dst : Option Tmp} {op : Op} {ty : TypeId} {pos : String} {aft : Array Edge} {g : Option (Nat × Bool)} {k : Nat} {listed listed' : Array Bool} (h : PW P w0 E op ty H R (fun v R' => TA F n P w0 D ops Q H R' k listed' (setD E dst v) H R'))
    (hi : ops[i]? = some ⟨dst, op, ty, pos, aft, g⟩ := by exact rfl) (hl : listed.setIfInBounds i true = listed' := by simp only [List.setIfInBounds_toArray, List.set_cons_succ, List.set_cons_zero]; rfl) (hf : (Region.free .any ops listed i && (Region.ready .any ops listed).contains i) = true := by decide +kernel)
    (hw : wnt ops ⟨dst, op, ty, pos, aft, g⟩ E = true := by exact rfl) (hd : notDefer op = true := by exact rfl) : TA F n P w0 D ops Q H R (k + 1) listed E H R := TA_pure i hi hf hl hw hd (List.Sublist.refl _) h
theorem TA_ks [Wd F] (i : Nat) {dst : Option Tmp} {op : Op} {ty : TypeId} {pos : String} {aft : Array Edge} {g : Option (Nat × Bool)} {k : Nat} {listed listed' : Array Bool} {E' : List Value} (hS : Hc.Sublist H) (h : TA F n P w0 D ops Q Hc R k listed' E' H R)
    (hi : ops[i]? = some ⟨dst, op, ty, pos, aft, g⟩ := by exact rfl) (hl : listed.setIfInBounds i true = listed' := by simp only [List.setIfInBounds_toArray, List.set_cons_succ, List.set_cons_zero]; rfl) (hf : (Region.free .any ops listed i && (Region.ready .any ops listed).contains i) = true := by decide +kernel)
    (hw : wnt ops ⟨dst, op, ty, pos, aft, g⟩ E = false := by exact rfl) (he : setD E dst undef = E' := by simp only [setD, List.set_cons_succ, List.set_cons_zero]; rfl) : TA F n P w0 D ops Q Hc R (k + 1) listed E H R := TA_skip i hi hf hl hw hS (TA_env he h)
theorem TA_o (i : Nat) {dst : Option Tmp} {op : Op} {ty : TypeId} {pos : String} {aft : Array Edge} {g : Option (Nat × Bool)} {k : Nat} {listed listed' : Array Bool} (h : OW F n P w0 D Q ⟨dst, op, ty, pos, aft, g⟩ E H R (fun v H' R' => ((∀ w, S w0 w H' R' → S w0 w Hc Rc) ∨ lastOp ops i = true) ∧ TA F n P w0 D ops Q Hc Rc k listed' (setD E dst v) H' R'))
    (hi : ops[i]? = some ⟨dst, op, ty, pos, aft, g⟩ := by exact rfl) (hl : listed.setIfInBounds i true = listed' := by simp only [List.setIfInBounds_toArray, List.set_cons_succ, List.set_cons_zero]; rfl) (hr : Region.ready .any ops listed = [i] := by decide +kernel) (hw : wnt ops ⟨dst, op, ty, pos, aft, g⟩ E = true := by exact rfl) : TA F n P w0 D ops Q Hc Rc (k + 1) listed E H R := TA_one i hr hi hl hw h
theorem TA_g [Wd F] (i : Nat) {dst : Option Tmp} {op : Op} {ty : TypeId} {pos : String} {aft : Array Edge} {g : Option (Nat × Bool)} {k : Nat} {listed listed' : Array Bool} (h : GW P w0 E op ty H R (fun v H' R' => ((∀ w, S w0 w H' R' → S w0 w Hc Rc) ∨ lastOp ops i = true) ∧ TA F n P w0 D ops Q Hc Rc k listed' (setD E dst v) H' R'))
    (hi : ops[i]? = some ⟨dst, op, ty, pos, aft, g⟩ := by exact rfl) (hl : listed.setIfInBounds i true = listed' := by simp only [List.setIfInBounds_toArray, List.set_cons_succ, List.set_cons_zero]; rfl) (hr : Region.ready .any ops listed = [i] := by decide +kernel) (hw : wnt ops ⟨dst, op, ty, pos, aft, g⟩ E = true := by exact rfl) (hd : notDefer op = true := by exact rfl) : TA F n P w0 D ops Q Hc Rc (k + 1) listed E H R := TA_gen i hr hi hl hw hd h
theorem TA_2 (i j : Nat) {di dj : Option Tmp} {oi oj : Op} {ti tj : TypeId} {pi pj : String} {ai aj : Array Edge} {gi gj : Option (Nat × Bool)} {k : Nat} {listed li lj : Array Bool}
    (h : OW F n P w0 D Q ⟨di, oi, ti, pi, ai, gi⟩ E H R (fun v H' R' => ((∀ w, S w0 w H' R' → S w0 w Hc Rc) ∨ lastOp ops i = true) ∧ TA F n P w0 D ops Q Hc Rc k li (setD E di v) H' R'))
    (h' : OW F n P w0 D Q ⟨dj, oj, tj, pj, aj, gj⟩ E H R (fun v H' R' => ((∀ w, S w0 w H' R' → S w0 w Hc Rc) ∨ lastOp ops j = true) ∧ TA F n P w0 D ops Q Hc Rc k lj (setD E dj v) H' R'))
    (ho : ops[i]? = some ⟨di, oi, ti, pi, ai, gi⟩ := by exact rfl) (ho' : ops[j]? = some ⟨dj, oj, tj, pj, aj, gj⟩ := by exact rfl) (hli : listed.setIfInBounds i true = li := by simp only [List.setIfInBounds_toArray, List.set_cons_succ, List.set_cons_zero]; rfl) (hlj : listed.setIfInBounds j true = lj := by simp only [List.setIfInBounds_toArray, List.set_cons_succ, List.set_cons_zero]; rfl) (hr : Region.ready .any ops listed = [i, j] := by decide +kernel)
    (hw : wnt ops ⟨di, oi, ti, pi, ai, gi⟩ E = true := by exact rfl) (hw' : wnt ops ⟨dj, oj, tj, pj, aj, gj⟩ E = true := by exact rfl) : TA F n P w0 D ops Q Hc Rc (k + 1) listed E H R := TA_two' i j hr ho ho' hli hlj hw hw' h h'
theorem TA_3 (i j l : Nat) {di dj dl : Option Tmp} {oi oj ol : Op} {ti tj tl : TypeId} {pi pj pl : String} {ai aj al : Array Edge} {gi gj gl : Option (Nat × Bool)} {k : Nat} {listed li lj ll : Array Bool}
    (h : OW F n P w0 D Q ⟨di, oi, ti, pi, ai, gi⟩ E H R (fun v H' R' => ((∀ w, S w0 w H' R' → S w0 w Hc Rc) ∨ lastOp ops i = true) ∧ TA F n P w0 D ops Q Hc Rc k li (setD E di v) H' R'))
    (h' : OW F n P w0 D Q ⟨dj, oj, tj, pj, aj, gj⟩ E H R (fun v H' R' => ((∀ w, S w0 w H' R' → S w0 w Hc Rc) ∨ lastOp ops j = true) ∧ TA F n P w0 D ops Q Hc Rc k lj (setD E dj v) H' R'))
    (h2 : OW F n P w0 D Q ⟨dl, ol, tl, pl, al, gl⟩ E H R (fun v H' R' => ((∀ w, S w0 w H' R' → S w0 w Hc Rc) ∨ lastOp ops l = true) ∧ TA F n P w0 D ops Q Hc Rc k ll (setD E dl v) H' R'))
    (ho : ops[i]? = some ⟨di, oi, ti, pi, ai, gi⟩ := by exact rfl) (ho' : ops[j]? = some ⟨dj, oj, tj, pj, aj, gj⟩ := by exact rfl) (ho2 : ops[l]? = some ⟨dl, ol, tl, pl, al, gl⟩ := by exact rfl) (hli : listed.setIfInBounds i true = li := by simp only [List.setIfInBounds_toArray, List.set_cons_succ, List.set_cons_zero]; rfl) (hlj : listed.setIfInBounds j true = lj := by simp only [List.setIfInBounds_toArray, List.set_cons_succ, List.set_cons_zero]; rfl) (hll : listed.setIfInBounds l true = ll := by simp only [List.setIfInBounds_toArray, List.set_cons_succ, List.set_cons_zero]; rfl) (hr : Region.ready .any ops listed = [i, j, l] := by decide +kernel)
    (hw : wnt ops ⟨di, oi, ti, pi, ai, gi⟩ E = true := by exact rfl) (hw' : wnt ops ⟨dj, oj, tj, pj, aj, gj⟩ E = true := by exact rfl) (hw2 : wnt ops ⟨dl, ol, tl, pl, al, gl⟩ E = true := by exact rfl) : TA F n P w0 D ops Q Hc Rc (k + 1) listed E H R := TA_three i j l hr ho ho' ho2 hli hlj hll hw hw' hw2 h h' h2
theorem TA_d {k : Nat} {listed : Array Bool} (h : En w0 D Q .normal E H R) (hr : (Region.ready .any ops listed).isEmpty = true := by decide +kernel) : TA F n P w0 D ops Q Hc Rc k listed E H R := TA_done hr h
end
end Go.Proofs.Ytggdljhmbckpmaa
namespace Go.Proofs.Ytggdljhmbckpmaa
open Go Go.RowKit
attribute [local semireducible] T TC En PW GW OW CallsK CallsP Sl Rd Ls At S

theorem cut4 {α β γ δ : Type} {G : α → β → γ → δ → Prop} {p : Prop} (h : (∀ a b c d, G a b c d) → p) (k : ∀ a b c d, G a b c d) : p := h k
theorem cut5 {α β γ δ ε : Type} {G : α → β → γ → δ → ε → Prop} {p : Prop} (h : (∀ a b c d e, G a b c d e) → p) (k : ∀ a b c d e, G a b c d e) : p := h k
theorem ls_cells {α : Type} [Rep α] {s : Sto} {b o : Nat} {xs : List α} (h : (Ls b o xs).p s) : ∀ k, k ≤ xs.length → ∃ news : List Value, (Cx news (xs.take k)).p s ∧ (At b o news).p s
  | 0, _ => ⟨[], by simpa using Cx_nil s, fun j v hj => by simp at hj⟩
  | k + 1, hk => by
    obtain ⟨news, h1, h2⟩ := ls_cells h k (by omega)
    obtain ⟨cs, h3, h4⟩ := h k xs[k] (List.getElem?_eq_getElem (by omega))
    refine ⟨news ++ cs, ?_, fun j v hj => ?_⟩
    · rw [List.take_succ_eq_append_getElem (by omega)]
      exact Cx_snoc h1 h3
    · have hl : news.length = k * Rep.size α := by
        have := h1.1
        rw [List.length_take, Nat.min_eq_left (by omega)] at this
        exact this
      by_cases hj' : j < news.length
      · rw [List.getElem?_append_left hj'] at hj
        exact h2 j v hj
      · rw [List.getElem?_append_right (by omega)] at hj
        have := h4 _ v hj
        rw [show o + k * Rep.size α + (j - news.length) = o + j by omega] at this
        exact this
theorem Cx_append {α : Type} [Rep α] {s : Sto} {cs : List Value} {xs : List α} (h : (Cx cs xs).p s) {ds : List Value} : ∀ {ys : List α}, (Cx ds ys).p s → (Cx (cs ++ ds) (xs ++ ys)).p s := fun {ys} h' => by
  obtain ⟨h1, h2⟩ := h
  obtain ⟨h3, h4⟩ := h'
  refine ⟨by simp [h1, h3, Nat.add_mul], fun j x hj => ?_⟩
  by_cases hjl : j < xs.length
  · rw [List.getElem?_append_left hjl] at hj
    have := h2 j x hj
    have hle : (j + 1) * Rep.size α ≤ cs.length := by rw [h1]; exact Nat.mul_le_mul_right _ hjl
    rw [Nat.add_mul] at hle
    rw [List.drop_append_of_le_length (by omega), List.take_append_of_le_length (by simp; omega)]
    exact this
  · rw [List.getElem?_append_right (by omega)] at hj
    have := h4 _ x hj
    have e : j * Rep.size α = cs.length + (j - xs.length) * Rep.size α := by
      rw [h1, ← Nat.add_mul]; congr 1; omega
    rw [e, List.drop_append, List.drop_of_length_le (by omega), Nat.add_sub_cancel_left, List.nil_append]
    exact this
section
variable {P : Program} {w0 : World} {E : List Value} {H : List Hp} {R : List MP} {ty : TypeId} {K : Value → List Hp → List MP → Prop}
theorem S.opened {α : Type} [Rep α] {w : World} (hs : S w0 w H R) {A : Option Addr} {m c : Nat} {xs : List α} (hm : Sl (.slice A m c) xs ∈ R) :
    m = xs.length ∧ ∃ news b o, S w0 w H (Cx news xs :: At b o news :: R) ∧ (0 < m → A = some ⟨b, o, none⟩) ∧ news.length = m * Rep.size α ∧ ∀ u ∈ news, u.oneCell' = true := by
  obtain ⟨s, h⟩ := hs
  obtain ⟨A', c', e1, h2, h3⟩ := h.rd _ hm
  injection e1 with e1 e5 e6
  subst e1; subst e5; subst e6
  refine ⟨rfl, ?_⟩
  have one : ∀ news : List Value, (Cx news xs).p s → news.length = xs.length * Rep.size α ∧ ∀ u ∈ news, u.oneCell' = true := by
    rintro news ⟨h4, h5⟩
    refine ⟨h4, fun u hu => ?_⟩
    obtain ⟨j, hj⟩ := List.mem_iff_getElem?.1 hu
    have hjl := (List.getElem?_eq_some_iff.1 hj).1
    have hsz : 0 < Rep.size α := by
      rcases Nat.eq_zero_or_pos (Rep.size α) with h0 | h0
      · rw [h4, h0] at hjl; omega
      · exact h0
    have hq : j / Rep.size α < xs.length := by rw [h4] at hjl; exact (Nat.div_lt_iff_lt_mul hsz).2 hjl
    have h6 := h5 _ _ (List.getElem?_eq_getElem hq)
    refine Rep.one h6 u (List.mem_iff_getElem?.2 ⟨j % Rep.size α, ?_⟩)
    rw [List.getElem?_take, if_pos (Nat.mod_lt _ hsz), List.getElem?_drop]
    have := Nat.div_add_mod' j (Rep.size α)
    rw [this]; exact hj
  rcases Nat.eq_zero_or_pos xs.length with h0 | h0
  · have : xs = [] := List.eq_nil_of_length_eq_zero h0
    subst this
    refine ⟨[], 0, 0, ⟨s, h.more (fun p hp => ?_)⟩, fun h => by simp at h, by simp, by simp⟩
    simp only [List.mem_cons] at hp
    rcases hp with rfl | rfl | hp
    · exact Cx_nil s
    · exact fun j v hj => by simp at hj
    · exact h.rd p hp
  · obtain ⟨b, o, rfl, hl⟩ := h3 h0
    obtain ⟨news, h4, h5⟩ := ls_cells hl xs.length (Nat.le_refl _)
    rw [List.take_length] at h4
    obtain ⟨o1, o2⟩ := one news h4
    refine ⟨news, b, o, ⟨s, h.more (fun p hp => ?_)⟩, fun _ => rfl, o1, o2⟩
    simp only [List.mem_cons] at hp
    rcases hp with rfl | rfl | hp
    · exact h4
    · exact h5
    · exact h.rd p hp
/-- append of what stays to an owned row. -/
theorem gw_append_slx {α : Type} [Rep α] {t e : TypeId} {s x : Operand} (i : Nat) {n c m sz by_ : Nat} {zs cs : List Value} {v : Value} {A : Option Addr} {xs : List α} [h : TyL P t e sz by_ zs] (hs : ev E s = v) (hx : ev E x = .slice A m c) (hm : Sl (.slice A m c) xs ∈ R) (hsz : Rep.size α = sz) (h0 : 0 < sz) (hi : H[i]? = some (.row v e sz n cs))
    (hby : (n + m) * by_ ≤ 140737488355328) (hnm : n + m ≤ 140737488355328)
    (kk : ∀ v' news, K v' (H.set i (.row v' e sz (n + m) (cs ++ news))) (Cx news xs :: R)) : GW P w0 E (.call ⟨.builtin .append, #[s, x], #[t, t]⟩) ty H R K := fun w hw => by
  obtain ⟨hml, news, b, o, hw2, hA, hl, h1⟩ := hw.opened hm
  subst hsz
  obtain ⟨v', w', H', R', r1, r2, rfl, r3⟩ := gw_append_core (P := P) (t := t) (s := s) (x := x) (w0 := w0) (E := E) (ty := ty) (h := h) (K := fun v' H' R' => R' = Cx news xs :: At b o news :: R ∧ H' = H.set i (.row v' e (Rep.size α) (n + m) (cs ++ news))) (R := Cx news xs :: At b o news :: R) hs hx hi h0 hl (fun w hw h0 => by
    refine ⟨_, hA h0, fun j u hj => ?_⟩
    rw [Addr.add_mk]
    exact hw.at_cell (by simp) j u hj) h1 hby hnm (fun v' => ⟨rfl, rfl⟩) w hw2
  subst r3
  exact ⟨v', w', _, _, r1, r2.weaken (List.Sublist.refl _) (fun p hp => by
    rcases List.mem_cons.1 hp with rfl | hp
    · simp
    · simp [hp]), kk v' news⟩
/-- An empty literal: an owned row. -/
theorem gw_build0 {t e : TypeId} {parts : Array (Nat × Operand)} {sz by_ : Nat} {zs : List Value} [h : TyL P t e sz by_ zs] (hp : parts = #[]) (h0 : 0 < sz) (kk : ∀ b, K (.slice (some ⟨b, 0, none⟩) 0 0) (.row (.slice (some ⟨b, 0, none⟩) 0 0) e sz 0 [] :: H) R) : GW P w0 E (.buildSlice t 0 parts) ty H R K := fun w hw => by
  subst hp
  obtain ⟨v', w', H', R', r1, r2, b, rfl, rfl, rfl⟩ := gw_buildSlice (P := P) (t := t) (w0 := w0) (E := E) (ty := ty) (H := H) (R := R) (n := 0) (parts := #[]) (h := h) (K := fun v H' R' => ∃ b, v = .slice (some ⟨b, 0, none⟩) 0 0 ∧ H' = .blk b [] e :: H ∧ R' = R) (by simp) (cs := []) rfl rfl (fun b => ⟨b, rfl, rfl, rfl⟩) w hw
  exact ⟨_, w', _, _, r1, r2.torow (i := 0) (cs := []) (sp := []) (n := 0) (cap := 0) (size := sz) rfl (by simp) (by simp) (by omega) (by decide), kk b⟩
end
section
variable {P : Program} {w0 : World} {E : List Value} {H : List Hp} {R : List MP} {ty : TypeId} {K : Value → List MP → Prop}
theorem pw_max2 {ts : Array TypeId} {x y : Operand} {p q : Int} (hx : ev E x = .int .i64 p) (hy : ev E y = .int .i64 q) (kk : K (.int .i64 (if q > p then q else p)) R) : PW P w0 E (.call ⟨.builtin .max, #[x, y], ts⟩) ty H R K :=
  fun w s hs => ⟨_, R, fun w' _ => by
    simp only [xop, execOp, resolve, invoke, builtin, List.map_toArray, List.map_cons, List.map_nil, hx, hy, Sem.run_bind, Sem.run_pure, Result.andThen_ok, run_max_int2], fun _ h => h, hs.rd, kk⟩
end
end Go.Proofs.Ytggdljhmbckpmaa
namespace Go.Proofs.Ytggdljhmbckpmaa
open Go Go.RowKit
attribute [local semireducible] T TA TC En PW GW OW CallsK CallsP Sl Rd Ls At S
section
variable {F : Fence} {n : Nat} {P : Program} {w0 : World} {D : List Deferred} {ops : Array Oper} {Q : Exit → Act → World → Prop} {rest : List Oper} {E : List Value} {H : List Hp} {R : List MP}
theorem TA_staysx {α : Type} [Rep α] {Hc : List Hp} {Rc : List MP} {kk : Nat} {listed : Array Bool} (i : Nat) {v : Value} {T' : TypeId} {sz m : Nat} {cs : List Value} {xs : List α} (hi : H[i]? = some (.row v T' sz m cs)) (hsz : Rep.size α = sz) (h0 : 0 < sz) (hx : Cx cs xs ∈ R) (k : ∀ A c, v = .slice A xs.length c → TA F n P w0 D ops Q Hc Rc kk listed E (H.eraseIdx i) (Sl (.slice A xs.length c) xs :: R)) : TA F n P w0 D ops Q Hc Rc kk listed E H R := fun hreg w hs => by
  obtain ⟨A, c, e, h⟩ := hs.stays hi hsz h0 hx
  exact TW_any _ _ _ _ _ _ _ w (k A c e hreg w h)
/-- The only one that may come up is not wanted. -/
theorem TA_os (i : Nat) {dst : Option Tmp} {op : Op} {ty : TypeId} {pos : String} {aft : Array Edge} {g : Option (Nat × Bool)} {Hc : List Hp} {Rc : List MP} {k : Nat} {listed listed' : Array Bool} {E' : List Value} (h : TA F n P w0 D ops Q Hc Rc k listed' E' H R)
    (hi : ops[i]? = some ⟨dst, op, ty, pos, aft, g⟩ := by exact rfl) (hl : listed.setIfInBounds i true = listed' := by simp only [List.setIfInBounds_toArray, List.set_cons_succ, List.set_cons_zero]; rfl) (hr : Region.ready .any ops listed = [i] := by decide +kernel)
    (hw : wnt ops ⟨dst, op, ty, pos, aft, g⟩ E = false := by exact rfl) (he : setD E dst undef = E' := by simp only [setD, List.set_cons_succ, List.set_cons_zero]; rfl) : TA F n P w0 D ops Q Hc Rc (k + 1) listed E H R := TA_oneskip i hr hi hl hw (TA_env he h)
theorem S.str_stay {w : World} {b : Nat} {T' : TypeId} {xs : List UInt8} (hl : xs.length ≤ 140737488355328) (hs : S w0 w (.blk b [.string (strV xs)] T' :: H) R) : S w0 w H (Sl (.slice (some ⟨b, 0, none⟩) 1 1) ([strV xs] : List ByteArray) :: R) := by
  have hsz : (strV xs).size = xs.length := rfl
  exact ((hs.learn (Cx [.string (strV xs)] ([strV xs] : List ByteArray)) (fun s _ => Cx_one ⟨rfl, by rw [hsz]; simp only [maxL]; omega⟩)).blk_stays (i := 0) (b := b) (T := T') (cs := [.string (strV xs)]) (n := 1) (c := 1) (sp := []) rfl List.mem_cons_self rfl (Nat.le_refl _) (by decide)).weaken (List.Sublist.refl _) (sub_cons List.mem_cons_self (fun p hp => List.mem_cons_of_mem _ (List.mem_cons_of_mem _ hp)))
end
end Go.Proofs.Ytggdljhmbckpmaa
namespace Go.Proofs.Ytggdljhmbckpmaa
open Go Go.RowKit
attribute [local semireducible] T TC En PW GW OW CallsK CallsP Sl Rd Ls At S TA
section
variable {F : Fence} {n : Nat} {P : Program} {w0 : World} {D : List Deferred} {ops : Array Oper} {Q : Exit → Act → World → Prop} {rest : List Oper} {E : List Value} {H : List Hp} {R : List MP}
def MidP (Q : Exit → Act → World → Prop) (w0 : World) (D : List Deferred) (E0 : List Value) (js : List Nat) (M : (Nat → Value) → List Hp → List MP → Prop) : Exit → Act → World → Prop :=
  fun e a w => match e with
  | .normal => ∃ j H R, a = act (setJ E0 js j) D ∧ S w0 w H R ∧ M j H R
  | e => Q e a w
theorem TC_cutP {x y : Code} (js : List Nat) (M : (Nat → Value) → List Hp → List MP → Prop) (h1 : TC F n P w0 D x (MidP Q w0 D E js M) E H R) (h2 : ∀ j H R, M j H R → TC F n P w0 D y Q (setJ E js j) H R) : TC F n P w0 D (.seq x y) Q E H R := fun w hs =>
  wpIn_seq (wpIn_mono (h1 w hs) (fun e a w' he => by
    cases e with
    | normal =>
      obtain ⟨j, H', R', e1, e2, e3⟩ := he
      subst e1
      exact h2 j H' R' e3 w' e2
    | _ => exact he))
theorem En_midP {E0 : List Value} {js : List Nat} {M : (Nat → Value) → List Hp → List MP → Prop} (H' : List Hp) (R' : List MP) (hE : setJ E0 js (fun i => E.getD i undef) = E) (hM : M (fun i => E.getD i undef) H' R') (hw : ∀ w, S w0 w H R → S w0 w H' R') : En w0 D (MidP Q w0 D E0 js M) .normal E H R := fun w hs =>
  ⟨_, H', R', by rw [hE], hw w hs, hM⟩
theorem En_midP_panic {E0 : List Value} {js : List Nat} {M : (Nat → Value) → List Hp → List MP → Prop} {ch : List PanicEntry} (h : En w0 D Q (.panic ch) E H R) : En w0 D (MidP Q w0 D E0 js M) (.panic ch) E H R := h
theorem En_midP_ret {E0 : List Value} {js : List Nat} {M : (Nat → Value) → List Hp → List MP → Prop} (h : En w0 D Q .ret E H R) : En w0 D (MidP Q w0 D E0 js M) .ret E H R := h
theorem En_midP_exit {E0 : List Value} {js : List Nat} {M : (Nat → Value) → List Hp → List MP → Prop} {id : Nat} (h : En w0 D Q (.exit id) E H R) : En w0 D (MidP Q w0 D E0 js M) (.exit id) E H R := h
theorem En_fact {e : Exit} {p : Prop} (h : ∀ w, S w0 w H R → p) (k : p → En w0 D Q e E H R) : En w0 D Q e E H R := fun w hs => k (h w hs) w hs
end
section
variable {P : Program} {w0 : World} {E : List Value} {H : List Hp} {R : List MP} {ty : TypeId} {K : Value → List Hp → List MP → Prop}
theorem gw_build1 {t e : TypeId} {x : Operand} {sz by_ : Nat} {zs cs : List Value} [h : TyL P t e sz by_ zs] (hsz : sz ≤ 1000) (hx : (ev E x).cells = cs.toArray) (hl : cs.length = sz) (kk : ∀ b, K (.slice (some ⟨b, 0, none⟩) 1 1) (.blk b cs e :: H) R) : GW P w0 E (.buildSlice t 1 #[(0, x)]) ty H R K :=
  gw_buildSlice (by omega) (by simp [partsL, hx, hl]) rfl kk
end
end Go.Proofs.Ytggdljhmbckpmaa
