/- A program logic over the fenced walk: owned blocks, a hidden store of cells that stay, and the rules for code. -/
import Derived.CallsIn
import Derived.ControlIn
import Derived.OrdersIn
import Derived.RangeFuncCalls
import Derived.Sort.LoopGhostIn
import Derived.Below
import Derived.Laws.World
import Derived.Laws.Cells
import Derived.Laws.CopyRow
import Derived.Lib.Hide
set_option linter.unusedVariables false
set_option linter.unusedSimpArgs false
namespace Go.Proofs.YtggdljhmbckpmaaGreat
open Go Go.RowKit

/-! ### 1. The store that stays -/
abbrev Sto := Nat → Nat → Option Value
def Sto.le (s t : Sto) : Prop := ∀ b o v, s b o = some v → t b o = some v
structure MP where
  p : Sto → Prop
  mono : ∀ s t : Sto, s.le t → p s → p t

/-- An owned block. 'row': a slice of the call's own, its capacity unknown. -/
inductive Hp where
  | blk (b : Nat) (cs : List Value) (T : TypeId)
  | row (v : Value) (T : TypeId) (size n : Nat) (cs : List Value)
  | obj (b : Nat) (o : Obj)


def Hp.own : Hp → Option Nat
  | .blk b _ _ => some b
  | .row v _ _ _ _ => v.ownBlock
  | .obj b _ => some b

def Hp.ok (B : Nat) (s : Sto) (w : World) : Hp → Prop
  | .blk b cs T => B ≤ b ∧ w.heap[b]? = some (.cells cs.toArray T (0, 0)) ∧ ∀ o, s b o = none
  | .row v T size n cs => w.ownsRow B T size v n cs ∧ ∀ b, v.ownBlock = some b → ∀ o, s b o = none
  | .obj b x => B ≤ b ∧ w.heap[b]? = some x ∧ ∀ o, s b o = none

structure Ok (w0 : World) (s : Sto) (w : World) (H : List Hp) (R : List MP) : Prop where
  below : Below w0.heap.size w0 w
  st : ∀ b o v, s b o = some v → w.cell? ⟨b, o, none⟩ = some v
  hp : ∀ h ∈ H, h.ok w0.heap.size s w
  nd : (H.filterMap Hp.own).Nodup
  rd : ∀ p ∈ R, p.p s

def S (w0 w : World) (H : List Hp) (R : List MP) : Prop := ∃ s, Ok w0 s w H R

theorem S.below {w0 w : World} {H : List Hp} {R : List MP} (h : S w0 w H R) : Below w0.heap.size w0 w := by
  obtain ⟨s, h⟩ := h; exact h.below

/-- The cells of a block do not turn: what is owned and what stays abide. -/
theorem Hp.ok_of_heap {B : Nat} {s s' : Sto} {w w' : World} {h : Hp} (hk : h.ok B s w)
    (hh : ∀ b, h.own = some b → w'.heap[b]? = w.heap[b]? ∧ ∀ o, s' b o = s b o) : h.ok B s' w' := by
  cases h with
  | blk b cs T =>
    obtain ⟨h0, h1, h2⟩ := hk
    obtain ⟨e1, e2⟩ := hh b rfl
    exact ⟨h0, e1.trans h1, fun o => (e2 o).trans (h2 o)⟩
  | row v T size n cs =>
    obtain ⟨⟨h1, h2⟩, h6⟩ := hk
    refine ⟨⟨h1, ?_⟩, fun b hb o => ((hh b hb).2 o).trans (h6 b hb o)⟩
    rcases h2 with h2 | ⟨b, cap, cur, rfl, h0, h3, h4⟩
    · exact .inl h2
    · exact .inr ⟨b, cap, cur, rfl, h0, (hh b rfl).1.trans h3, h4⟩
  | obj b x =>
    obtain ⟨h0, h1, h2⟩ := hk
    obtain ⟨e1, e2⟩ := hh b rfl
    exact ⟨h0, e1.trans h1, fun o => (e2 o).trans (h2 o)⟩

theorem Hp.own_lt {B : Nat} {s : Sto} {w : World} {h : Hp} (hk : h.ok B s w) {b : Nat} (hb : h.own = some b) : b < w.heap.size ∧ B ≤ b ∧ ∀ o, s b o = none := by
  cases h with
  | blk b' cs T =>
    obtain ⟨h0, h1, h2⟩ := hk
    simp [Hp.own] at hb; subst hb
    exact ⟨(Array.getElem?_eq_some_iff.1 h1).1, h0, h2⟩
  | row v T size n cs =>
    obtain ⟨⟨h1, h2⟩, h6⟩ := hk
    have h6' := h6 b hb
    rcases h2 with ⟨rfl, _⟩ | ⟨b', cap, cur, rfl, h0, h3, h4⟩
    · simp [Hp.own, Value.ownBlock] at hb
    · simp [Hp.own, Value.ownBlock] at hb; subst hb
      exact ⟨(Array.getElem?_eq_some_iff.1 h3).1, h0, h6'⟩
  | obj b' x =>
    obtain ⟨h0, h1, h2⟩ := hk
    simp [Hp.own] at hb; subst hb
    exact ⟨(Array.getElem?_eq_some_iff.1 h1).1, h0, h2⟩

theorem Ok.st_lt {w0 w : World} {s : Sto} {H : List Hp} {R : List MP} (h : Ok w0 s w H R) {b o : Nat} {v : Value} (hs : s b o = some v) : b < w.heap.size :=
  World.block_lt_of_cell? w _ (h.st _ _ _ hs)

theorem S.weaken {w0 w : World} {H H' : List Hp} {R R' : List MP} (h : S w0 w H R) (hH : H'.Sublist H) (hR : ∀ p ∈ R', p ∈ R) : S w0 w H' R' := by
  obtain ⟨s, h⟩ := h
  exact ⟨s, h.below, h.st, fun x hx => h.hp x (hH.subset hx), h.nd.sublist (hH.filterMap _), fun p hp => h.rd p (hR p hp)⟩

theorem S.perm {w0 w : World} {H H' : List Hp} {R : List MP} (h : S w0 w H R) (hH : H.Perm H') : S w0 w H' R := by
  obtain ⟨s, h⟩ := h
  exact ⟨s, h.below, h.st, fun x hx => h.hp x (hH.mem_iff.2 hx), (hH.filterMap _).nodup_iff.1 h.nd, h.rd⟩

/-- What follows from what stays. -/
theorem S.add {w0 w : World} {H : List Hp} {R : List MP} (h : S w0 w H R) (p : MP) (hp : ∀ s, (∀ q ∈ R, q.p s) → p.p s) : S w0 w H (p :: R) := by
  obtain ⟨s, h⟩ := h
  refine ⟨s, h.below, h.st, h.hp, h.nd, fun q hq => ?_⟩
  rcases List.mem_cons.1 hq with rfl | hq
  · exact hp s h.rd
  · exact h.rd q hq

theorem S.drew {w0 w : World} {H : List Hp} {R : List MP} (h : S w0 w H R) : S w0 w.drew H R := by
  obtain ⟨s, h⟩ := h
  exact ⟨s, h.below.drew, h.st, fun x hx => Hp.ok_of_heap (h.hp x hx) fun _ _ => ⟨rfl, fun _ => rfl⟩, h.nd, h.rd⟩

theorem kK (w : World) (o : Obj) (k : Nat) (h : k < w.heap.size) : (w.alloc o).heap[k]? = w.heap[k]? := Below.heap_alloc w o k h
theorem nE (w : World) (o : Obj) : (w.alloc o).heap[w.heap.size]? = some o := by
  show (w.heap.push o)[w.heap.size]? = _
  simp

/-- A new block of cells. -/
theorem S.alloc {w0 w : World} {H : List Hp} {R : List MP} (h : S w0 w H R) (cs : List Value) (T : TypeId) :
    S w0 (w.alloc (.cells cs.toArray T)) (.blk w.heap.size cs T :: H) R := by
  obtain ⟨s, h⟩ := h
  have hn : ∀ o, s w.heap.size o = none := fun o => by
    cases e : s w.heap.size o with
    | none => rfl
    | some v => have := h.st_lt e; omega
  refine ⟨s, h.below.alloc h.below.size _, fun b f v hs => (World.cell?_of_block (w := w) (kK w _ b (h.st_lt hs))).trans (h.st b f v hs), ?_, ?_, h.rd⟩
  · intro x hx
    rcases List.mem_cons.1 hx with rfl | hx
    · exact ⟨h.below.size, nE w _, hn⟩
    · exact Hp.ok_of_heap (h.hp x hx) fun b hb => ⟨kK w _ b (Hp.own_lt (h.hp x hx) hb).1, fun _ => rfl⟩
  · simp only [List.filterMap_cons, Hp.own]
    refine List.nodup_cons.2 ⟨fun hm => ?_, h.nd⟩
    obtain ⟨x, hx, hxb⟩ := List.mem_filterMap.1 hm
    have := (Hp.own_lt (h.hp x hx) hxb).1
    omega

/-- A new object, owned. -/
theorem S.alloc_obj {w0 w : World} {H : List Hp} {R : List MP} (h : S w0 w H R) (x : Obj) :
    S w0 (w.alloc x) (.obj w.heap.size x :: H) R := by
  obtain ⟨s, h⟩ := h
  have hn : ∀ o, s w.heap.size o = none := fun o => by
    cases e : s w.heap.size o with
    | none => rfl
    | some v => have := h.st_lt e; omega
  refine ⟨s, h.below.alloc h.below.size _, fun b f v hs => (World.cell?_of_block (w := w) (kK w _ b (h.st_lt hs))).trans (h.st b f v hs), ?_, ?_, h.rd⟩
  · intro y hy
    rcases List.mem_cons.1 hy with rfl | hy
    · exact ⟨h.below.size, nE w _, hn⟩
    · exact Hp.ok_of_heap (h.hp y hy) fun b hb => ⟨kK w _ b (Hp.own_lt (h.hp y hy) hb).1, fun _ => rfl⟩
  · simp only [List.filterMap_cons, Hp.own]
    refine List.nodup_cons.2 ⟨fun hm => ?_, h.nd⟩
    obtain ⟨y, hy, hyb⟩ := List.mem_filterMap.1 hm
    have := (Hp.own_lt (h.hp y hy) hyb).1
    omega

theorem lE {H : List Hp} {i : Nat} {x y : Hp} (hi : H[i]? = some x) (hxy : x.own = y.own) : (H.set i y).filterMap Hp.own = H.filterMap Hp.own := by
  induction H generalizing i with
  | nil => simp at hi
  | cons a l ih =>
    cases i with
    | zero => simp at hi; subst hi; simp [List.filterMap_cons, hxy]
    | succ i => simp at hi; simp only [List.set_cons_succ, List.filterMap_cons, ih hi]

theorem mC {H : List Hp} (nd : (H.filterMap Hp.own).Nodup) {i j : Nat} {x y : Hp} {b : Nat} (hi : H[i]? = some x) (hj : H[j]? = some y) (hb : x.own = some b) (hij : i ≠ j) : y.own ≠ some b := by
  intro hy
  induction H generalizing i j with
  | nil => simp at hi
  | cons a l ih =>
    cases i with
    | zero =>
      simp at hi; subst hi
      cases j with
      | zero => exact hij rfl
      | succ j =>
        simp at hj
        simp only [List.filterMap_cons, hb] at nd
        exact (List.nodup_cons.1 nd).1 (List.mem_filterMap.2 ⟨y, List.mem_of_getElem? hj, hy⟩)
    | succ i =>
      simp at hi
      cases j with
      | zero =>
        simp at hj; subst hj
        simp only [List.filterMap_cons, hy] at nd
        exact (List.nodup_cons.1 nd).1 (List.mem_filterMap.2 ⟨x, List.mem_of_getElem? hi, hb⟩)
      | succ j =>
        simp at hj
        have nd' : (l.filterMap Hp.own).Nodup := by
          simp only [List.filterMap_cons] at nd
          split at nd
          · exact nd
          · exact (List.nodup_cons.1 nd).2
        exact ih nd' hi hj (by omega)

/-- One owned block is written; whatever else stays. -/
theorem S.turn {w0 w w' : World} {H : List Hp} {R : List MP} {i : Nat} {x y : Hp} {b : Nat} (h : S w0 w H R) (hi : H[i]? = some x) (hb : x.own = some b) (hy : y.own = some b)
    (hw : ∀ k, k ≠ b → w'.heap[k]? = w.heap[k]?) (hsz : w'.heap.size = w.heap.size) (ho : w'.os = w.os) (ht : w'.tape = w.tape) (hu : w'.output = w.output)
    (hyok : ∀ s : Sto, x.ok w0.heap.size s w → y.ok w0.heap.size s w') : S w0 w' (H.set i y) R := by
  obtain ⟨s, h⟩ := h
  have hx := h.hp x (List.mem_of_getElem? hi)
  obtain ⟨hlt, hB, hs⟩ := Hp.own_lt hx hb
  refine ⟨s, ⟨ho.trans h.below.os, ht.trans h.below.tape, hu.trans h.below.output, by rw [hsz]; exact h.below.size, fun k hk => (hw k (by omega)).trans (h.below.block k hk)⟩, ?_, ?_, ?_, h.rd⟩
  · intro c o v hc
    have hne : c ≠ b := fun e => by rw [e, hs] at hc; cases hc
    exact (World.cell?_of_block (w := w) (hw c hne)).trans (h.st c o v hc)
  · intro z hz
    obtain ⟨j, hj⟩ := List.mem_iff_getElem?.1 hz
    by_cases hij : i = j
    · subst hij
      rw [List.getElem?_set_self (List.getElem?_eq_some_iff.1 hi).1] at hj
      cases hj
      exact hyok s hx
    · rw [List.getElem?_set_ne hij] at hj
      refine Hp.ok_of_heap (h.hp z (List.mem_of_getElem? hj)) fun c hc => ⟨hw c fun e => ?_, fun _ => rfl⟩
      subst e
      exact mC h.nd hi hj hb hij hc
  · rw [lE hi (hb.trans hy.symm)]; exact h.nd

theorem qB {w : World} {b o : Nat} {cs : Array Value} {T : TypeId} {fr : Nat × Nat} (h : w.heap[b]? = some (.cells cs T fr)) : w.cell? ⟨b, o, none⟩ = cs[o]? := by
  simp [World.cell?, h]

theorem S.blk_heap {w0 w : World} {H : List Hp} {R : List MP} {i b : Nat} {cs : List Value} {T : TypeId} (h : S w0 w H R) (hi : H[i]? = some (.blk b cs T)) : w.heap[b]? = some (.cells cs.toArray T (0, 0)) ∧ w0.heap.size ≤ b := by
  obtain ⟨s, h⟩ := h
  exact ⟨(h.hp _ (List.mem_of_getElem? hi)).2.1, (h.hp _ (List.mem_of_getElem? hi)).1⟩

theorem S.obj_heap {w0 w : World} {H : List Hp} {R : List MP} {i b : Nat} {x : Obj} (h : S w0 w H R) (hi : H[i]? = some (.obj b x)) : w.heap[b]? = some x := by
  obtain ⟨s, h⟩ := h
  exact (h.hp _ (List.mem_of_getElem? hi)).2.1
theorem S.set_obj {w0 w w' : World} {H : List Hp} {R : List MP} {i b : Nat} {x : Obj} (h : S w0 w H R) (hi : H[i]? = some (.obj b x)) (y : Obj)
    (hw : ∀ k, k ≠ b → w'.heap[k]? = w.heap[k]?) (hy : b < w.heap.size → w'.heap[b]? = some y) (hsz : w'.heap.size = w.heap.size) (ho : w'.os = w.os) (ht : w'.tape = w.tape) (hu : w'.output = w.output) :
    S w0 w' (H.set i (.obj b y)) R := by
  refine h.turn hi rfl rfl hw hsz ho ht hu ?_
  rintro s ⟨h0, h1, h2⟩
  exact ⟨h0, hy (Array.getElem?_eq_some_iff.1 h1).1, h2⟩

/-- What is owned may be let go. -/
theorem S.drop {w0 w : World} {H : List Hp} {R : List MP} (h : S w0 w H R) (i : Nat) : S w0 w (H.eraseIdx i) R :=
  h.weaken (List.eraseIdx_sublist H i) fun _ hp => hp

/-! ### 2. Facts that stay -/
/-- The cells 'cs' lie at block b from o on. -/
def At (b o : Nat) (cs : List Value) : MP where
  p s := ∀ j v, cs[j]? = some v → s b (o + j) = some v
  mono s t h hp j v hj := h _ _ _ (hp j v hj)

theorem S.at_cell {w0 w : World} {H : List Hp} {R : List MP} {b o : Nat} {cs : List Value} (h : S w0 w H R) (hm : At b o cs ∈ R) (j : Nat) (v : Value) (hj : cs[j]? = some v) : w.cell? ⟨b, o + j, none⟩ = some v := by
  obtain ⟨s, h⟩ := h
  exact h.st _ _ _ (h.rd _ hm j v hj)

/-- An owned block is made to stay. -/
theorem S.freeze {w0 w : World} {H : List Hp} {R : List MP} {i b : Nat} {cs : List Value} {T : TypeId} (h : S w0 w H R) (hi : H[i]? = some (.blk b cs T)) : S w0 w (H.eraseIdx i) (At b 0 cs :: R) := by
  obtain ⟨s, h⟩ := h
  obtain ⟨h0, h1, h2⟩ := h.hp _ (List.mem_of_getElem? hi)
  have hle : Sto.le s (fun c o => if c = b then cs[o]? else s c o) := fun c o v hc => by
    have hne : c ≠ b := fun e => by rw [e, h2] at hc; cases hc
    simp [hne, hc]
  refine ⟨fun c o => if c = b then cs[o]? else s c o, h.below, ?_, ?_, h.nd.sublist ((List.eraseIdx_sublist H i).filterMap _), ?_⟩
  · intro c o v hc
    by_cases e : c = b
    · subst e
      simp at hc
      rw [qB h1]; simpa using hc
    · simp [e] at hc; exact h.st c o v hc
  · intro x hx
    obtain ⟨j, hj⟩ := List.mem_iff_getElem?.1 hx
    have hj' : H[if j < i then j else j + 1]? = some x := by
      rw [List.getElem?_eraseIdx] at hj
      split at hj <;> rename_i hlt
      · rw [if_pos hlt]; exact hj
      · rw [if_neg hlt]; exact hj
    refine Hp.ok_of_heap (h.hp x (List.mem_of_getElem? hj')) fun c hc => ⟨rfl, fun o => ?_⟩
    have hne : c ≠ b := fun e => by
      subst e
      exact mC h.nd hi hj' rfl (by split <;> omega) hc
    simp [hne]
  · intro p hp
    rcases List.mem_cons.1 hp with rfl | hp
    · intro j v hj; simpa using hj
    · exact p.mono _ _ hle (h.rd p hp)

theorem S.unrow {w0 w : World} {H : List Hp} {R : List MP} {i n size : Nat} {v : Value} {cs : List Value} {T : TypeId} (h : S w0 w H R) (hi : H[i]? = some (.row v T size n cs)) :
    (v = .slice none 0 0 ∧ n = 0 ∧ cs = []) ∨ ∃ b cap sp, v = .slice (some ⟨b, 0, none⟩) n cap ∧ (cs ++ sp).length = cap * size ∧ cs.length = n * size ∧ n ≤ cap ∧ cap ≤ maxLen ∧ S w0 w (H.set i (.blk b (cs ++ sp) T)) R := by
  obtain ⟨s, h⟩ := h
  obtain ⟨⟨h1, h2⟩, h6⟩ := h.hp _ (List.mem_of_getElem? hi)
  rcases h2 with ⟨rfl, rfl⟩ | ⟨b, cap, cur, rfl, h0, h3, h7, h8, h9, h10⟩
  · exact .inl ⟨rfl, rfl, List.eq_nil_of_length_eq_zero (by simpa using h1)⟩
  · have hcur : cs ++ cur.toList.drop (n * size) = cur.toList := by rw [← h10, List.take_append_drop]
    refine .inr ⟨b, cap, cur.toList.drop (n * size), rfl, by rw [hcur]; simpa using h9, h1, h7, h8, s, h.below, h.st, ?_, ?_, h.rd⟩
    · intro x hx
      obtain ⟨j, hj⟩ := List.mem_iff_getElem?.1 hx
      by_cases e : i = j
      · subst e
        rw [List.getElem?_set_self (List.getElem?_eq_some_iff.1 hi).1] at hj
        cases hj
        exact ⟨h0, by rw [hcur]; simpa using h3, h6 b rfl⟩
      · rw [List.getElem?_set_ne e] at hj
        exact h.hp x (List.mem_of_getElem? hj)
    · rw [lE hi (y := .blk b (cs ++ cur.toList.drop (n * size)) T) rfl]; exact h.nd

theorem S.torow {w0 w : World} {H : List Hp} {R : List MP} {i n size cap b : Nat} {cs sp : List Value} {T : TypeId} (h : S w0 w H R) (hi : H[i]? = some (.blk b (cs ++ sp) T)) (h1 : (cs ++ sp).length = cap * size) (h2 : cs.length = n * size) (h3 : n ≤ cap) (h4 : cap ≤ maxLen) :
    S w0 w (H.set i (.row (.slice (some ⟨b, 0, none⟩) n cap) T size n cs)) R := by
  refine h.turn hi rfl rfl (fun _ _ => rfl) rfl rfl rfl rfl ?_
  rintro s ⟨h0, h5, h6⟩
  refine ⟨⟨h2, .inr ⟨b, cap, _, rfl, h0, h5, h3, h4, by simpa using h1, ?_⟩⟩, fun b' hb => by simp [Value.ownBlock] at hb; subst hb; exact h6⟩
  simp [← h2]

/-- A nil slice is a row of none. -/
theorem S.nilrow {w0 w : World} {H : List Hp} {R : List MP} (h : S w0 w H R) (T : TypeId) (size : Nat) : S w0 w (.row (.slice none 0 0) T size 0 [] :: H) R := by
  obtain ⟨s, h⟩ := h
  refine ⟨s, h.below, h.st, fun x hx => ?_, ?_, h.rd⟩
  · rcases List.mem_cons.1 hx with rfl | hx
    · exact ⟨⟨by simp, .inl ⟨rfl, rfl⟩⟩, fun b hb => by cases hb⟩
    · exact h.hp x hx
  · simpa [List.filterMap_cons, Hp.own, Value.ownBlock] using h.nd

theorem vY {T : TypeId} {size n' : Nat} {v' : Value} {cs' : List Value} {H : List Hp} {i : Nat} (hlt : i < H.length) (key : ∀ b, v'.ownBlock = some b → ∀ j z, H[j]? = some z → i ≠ j → z.own ≠ some b) (nd : (H.filterMap Hp.own).Nodup) :
    ((H.set i (.row v' T size n' cs')).filterMap Hp.own).Nodup := by
  induction H generalizing i with
  | nil => simp at hlt
  | cons a l ih =>
    cases i with
    | zero =>
      simp only [List.set_cons_zero, List.filterMap_cons]
      have nd' : (l.filterMap Hp.own).Nodup := by
        simp only [List.filterMap_cons] at nd
        split at nd
        · exact nd
        · exact (List.nodup_cons.1 nd).2
      cases hvb : v'.ownBlock with
      | none => simpa [Hp.own, hvb] using nd'
      | some b =>
        simp only [Hp.own, hvb]
        refine List.nodup_cons.2 ⟨fun hm => ?_, nd'⟩
        obtain ⟨z, hz, hzb⟩ := List.mem_filterMap.1 hm
        obtain ⟨j, hj⟩ := List.mem_iff_getElem?.1 hz
        exact key b hvb (j + 1) z (by simpa using hj) (by omega) hzb
    | succ i =>
      simp only [List.set_cons_succ, List.filterMap_cons]

      have nd' : (l.filterMap Hp.own).Nodup := by
        simp only [List.filterMap_cons] at nd
        split at nd
        · exact nd
        · exact (List.nodup_cons.1 nd).2
      have ih' := ih (by simpa using hlt) (fun b hvb j z hj hij => key b hvb (j + 1) z (by simpa using hj) (by omega)) nd'
      cases hao : a.own with
      | none => simpa [hao] using ih'
      | some c =>
        simp only
        refine List.nodup_cons.2 ⟨fun hm => ?_, ih'⟩
        obtain ⟨z, hz, hzb⟩ := List.mem_filterMap.1 hm
        obtain ⟨j, hj⟩ := List.mem_iff_getElem?.1 hz
        by_cases hij : i = j
        · subst hij
          rw [List.getElem?_set_self (by simpa using hlt)] at hj
          cases hj
          exact key c hzb 0 a rfl (by omega) hao
        · rw [List.getElem?_set_ne hij] at hj
          simp only [List.filterMap_cons, hao] at nd
          exact (List.nodup_cons.1 nd).1 (List.mem_filterMap.2 ⟨z, List.mem_of_getElem? hj, hzb⟩)

/-- What the append laws leave. -/
theorem S.grow {w0 w w' : World} {H : List Hp} {R : List MP} {i n n' size : Nat} {v v' : Value} {cs cs' : List Value} {T : TypeId} (h : S w0 w H R) (hi : H[i]? = some (.row v T size n cs))
    (hg : w.grownBy w' v.ownBlock) (ho : w'.ownsRow w0.heap.size T size v' n' cs') (hb : v'.ownBlock = none ∨ v'.ownBlock = v.ownBlock ∨ ∃ b, v'.ownBlock = some b ∧ w.heap.size ≤ b) : S w0 w' (H.set i (.row v' T size n' cs')) R := by
  obtain ⟨s, h⟩ := h
  have hx := h.hp _ (List.mem_of_getElem? hi)
  obtain ⟨hx1, hx2⟩ := hx
  have hown : ∀ b, v.ownBlock = some b → b < w.heap.size ∧ w0.heap.size ≤ b := fun b hb => by
    have := Hp.own_lt (h.hp _ (List.mem_of_getElem? hi)) (b := b) hb
    exact ⟨this.1, this.2.1⟩
  have hkeep : ∀ b, b < w.heap.size → v.ownBlock ≠ some b → w'.heap[b]? = w.heap[b]? := fun b hb hne => hg.block b hb (fun e => hne e.symm)
  refine ⟨s, h.below.grown hg h.below.size (fun k hk => (hown k hk).2), ?_, ?_, ?_, h.rd⟩
  · intro b o u hs
    have hne : v.ownBlock ≠ some b := fun e => by rw [hx2 b e o] at hs; cases hs
    exact (World.cell?_of_block (w := w) (hkeep b (h.st_lt hs) hne)).trans (h.st b o u hs)
  · intro z hz
    obtain ⟨j, hj⟩ := List.mem_iff_getElem?.1 hz
    by_cases hij : i = j
    · subst hij
      rw [List.getElem?_set_self (List.getElem?_eq_some_iff.1 hi).1] at hj
      cases hj
      refine ⟨ho, fun b hvb o => ?_⟩
      rcases hb with hb | hb | ⟨c, hb, hc⟩
      · rw [hb] at hvb; cases hvb
      · rw [hb] at hvb; exact hx2 b hvb o
      · rw [hb] at hvb; cases hvb
        cases e : s b o with
        | none => rfl
        | some u => have := h.st_lt e; omega
    · rw [List.getElem?_set_ne hij] at hj
      have hz' := h.hp z (List.mem_of_getElem? hj)
      refine Hp.ok_of_heap hz' fun c hc => ⟨hkeep c (Hp.own_lt hz' hc).1 fun e => ?_, fun _ => rfl⟩
      exact mC h.nd hi hj e hij hc
  · -- the blocks are still apart
    have hlt : i < H.length := (List.getElem?_eq_some_iff.1 hi).1
    have key : ∀ b, v'.ownBlock = some b → ∀ j z, H[j]? = some z → i ≠ j → z.own ≠ some b := fun b hvb j z hj hij => by
      rcases hb with hb | hb | ⟨c, hb, hc⟩
      · rw [hb] at hvb; cases hvb
      · rw [hb] at hvb; exact mC h.nd hi hj hvb hij
      · rw [hb] at hvb; cases hvb
        intro e
        have := (Hp.own_lt (h.hp z (List.mem_of_getElem? hj)) e).1
        omega
    exact vY hlt key h.nd
attribute [irreducible] At S
theorem aO {p : Prop} (h : p := by omega) : p := h
theorem eK {p : Prop} (h : p := by simp [Value.oneCell']) : p := h
theorem dB {p : Prop} (h : p := by simp) : p := h
theorem dT {α : Sort _} {a b : α} (h : a = b := by rfl) : a = b := h
theorem jN {p : Prop} (h : p := by decide +kernel) : p := h
theorem cQ {p : Prop} (h : p := by decide) : p := h
end Go.Proofs.YtggdljhmbckpmaaGreat
