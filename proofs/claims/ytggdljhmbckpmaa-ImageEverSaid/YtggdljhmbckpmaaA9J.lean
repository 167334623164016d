/- Elements of slices, opened; the data of drives. Rows of any data: what is noted of their cells while they grow, and how they are made to stay. More rules for operations: the greatest of three, remainders of natural numbers. Several operations of a drawn region that may come up; one continuation for all orders. -/
import Derived.Test.YtggdljhmbckpmaaA7f0J
import Derived.Laws.Cover1
set_option linter.unusedVariables false
set_option linter.unusedSimpArgs false
namespace Go.Proofs.Ytggdljhmbckpmaa
open Go Go.RowKit
attribute [local semireducible] T TC En PW GW OW CallsK CallsP Sl Rd Ls At S

/-- How a datum lies in cells: its cells, what is known of them. -/
class Unp (α : Type) [Rep α] where
  Y : Type
  cs : α → Y → List Value
  ok : α → Y → Prop
  fs : α → Y → List MP
  un : ∀ {s : Sto} {cs' : List Value} {x : α}, Rep.rd s cs' x → ∃ y, cs' = cs x y ∧ ok x y ∧ ∀ p ∈ fs x y, p.p s
  re : ∀ {s : Sto} {x : α} {y : Y}, ok x y → (∀ p ∈ fs x y, p.p s) → Rep.rd s (cs x y) x

instance : Unp UInt8 := ⟨Unit, fun c _ => [byteV c], fun _ _ => True, fun _ _ => [], fun h => ⟨(), h, trivial, fun _ h => by cases h⟩, fun _ _ => rfl⟩
def InI (n : Int) : Prop := -9223372036854775808 ≤ n ∧ n ≤ 9223372036854775807
instance : Unp Int := ⟨Unit, fun n _ => [.int .i64 n], fun n _ => InI n, fun _ _ => [], fun h => ⟨(), h.1, h.2, fun _ h => by cases h⟩, fun h _ => ⟨rfl, h⟩⟩
instance {α : Type} [Rep α] : Unp (List α) := ⟨Option Addr × Nat, fun xs y => [.slice y.1 xs.length y.2], fun xs y => xs.length ≤ y.2 ∧ y.2 ≤ maxL, fun xs y => [Sl (.slice y.1 xs.length y.2) xs],
  fun {s cs' x} h => by
    obtain ⟨v, rfl, A, c, rfl, h2, h3⟩ := h
    refine ⟨(A, c), rfl, h2, fun p hp => ?_⟩
    simp at hp; subst hp
    exact ⟨A, c, rfl, h2, h3⟩,
  fun {s x y} h h' => ⟨_, rfl, h' _ (by simp)⟩⟩

section
variable {F : Fence} {n : Nat} {P : Program} {w0 : World} {D : List Deferred} {ops : Array Oper} {Q : Exit → Act → World → Prop} {rest : List Oper} {E : List Value} {H : List Hp} {R : List MP} {ty : TypeId} {K : Value → List MP → Prop}

/-- 'xs[i]': its place, and what lies there. -/
theorem pw_indexU {α : Type} [Rep α] [Unp α] {t e : TypeId} {x ix : Operand} {agg : Bool} {sz by_ : Nat} {z : Value} [h : TyU P t (.slice e)] [he : Ty P e agg sz by_ z] {v : Value} {xs : List α} {k : IntKind} {i : Int} {d : α} (hx : ev E x = v) (hix : ev E ix = .int k i) (hm : Sl v xs ∈ R) (hsz : Rep.size α = sz) (hd : xs[i.toNat]? = some d) (h0 : 0 ≤ i)
    (kk : ∀ b o (y : Unp.Y α), Unp.ok d y → K (.pointer (some ⟨b, o, none⟩)) (At b o (Unp.cs d y) :: (Unp.fs d y ++ R))) : PW P w0 E (.indexAddr t x ix) ty H R K := fun w s hs => by
  obtain ⟨i, rfl⟩ := Int.eq_ofNat_of_zero_le h0
  have hl : i < xs.length := (List.getElem?_eq_some_iff.1 hd).1
  obtain ⟨b, o, c, cs, e1, hcl, hs'⟩ := sl_at hs.rd hm i d hd
  have hr : Rep.rd s cs d := hs' (Rd cs d) (by simp)
  obtain ⟨y, rfl, hok, hf⟩ := Unp.un hr
  refine ⟨.pointer (some ⟨b, o + i * sz, none⟩), _, fun w' _ => ?_, ?_, ?_, by rw [← hsz]; exact kk b (o + i * Rep.size α) y hok⟩
  · simp only [xop, execOp, hx, hix, e1, Sem.run_bind]
    rw [indexAt_slice (P := P) (t := t) b o xs.length c k i hl w']
    rfl
  · intro p hp; simp [hp]
  · intro p hp
    rcases List.mem_cons.1 hp with rfl | hp
    · exact hs' _ (by simp)
    · rcases List.mem_append.1 hp with hp | hp
      · exact hf p hp
      · exact hs.rd p hp
theorem pw_index_b {t e : TypeId} {x ix : Operand} {agg : Bool} {by_ : Nat} {z : Value} [h : TyU P t (.slice e)] [he : Ty P e agg 1 by_ z] {v : Value} {xs : List UInt8} {k : IntKind} {i : Int} {d : UInt8} (hx : ev E x = v) (hix : ev E ix = .int k i) (hm : Sl v xs ∈ R) (hd : xs[i.toNat]? = some d) (h0 : 0 ≤ i)
    (kk : ∀ b o, K (.pointer (some ⟨b, o, none⟩)) (At b o [byteV d] :: R)) : PW P w0 E (.indexAddr t x ix) ty H R K := pw_indexU hx hix hm rfl hd h0 (fun b o y _ => kk b o)
theorem pw_index_i {t e : TypeId} {x ix : Operand} {agg : Bool} {by_ : Nat} {z : Value} [h : TyU P t (.slice e)] [he : Ty P e agg 1 by_ z] {v : Value} {xs : List Int} {k : IntKind} {i : Int} {d : Int} (hx : ev E x = v) (hix : ev E ix = .int k i) (hm : Sl v xs ∈ R) (hd : xs[i.toNat]? = some d) (h0 : 0 ≤ i)
    (kk : ∀ b o, InI d → K (.pointer (some ⟨b, o, none⟩)) (At b o [.int .i64 d] :: R)) : PW P w0 E (.indexAddr t x ix) ty H R K := pw_indexU hx hix hm rfl hd h0 (fun b o y hy => kk b o hy)

/-- Into an owned block: 'xs[i]'s place. -/
theorem pw_index_o {t e : TypeId} {x ix : Operand} {agg : Bool} {sz by_ : Nat} {z : Value} [h : TyU P t (.slice e)] [he : Ty P e agg sz by_ z] {b o n c : Nat} {k : IntKind} {i : Int} (hx : ev E x = .slice (some ⟨b, o, none⟩) n c) (hix : ev E ix = .int k i) (h0 : 0 ≤ i) (h1 : i < n)
    (kk : K (.pointer (some ⟨b, o + i.toNat * sz, none⟩)) R) : PW P w0 E (.indexAddr t x ix) ty H R K := pw_index_at hx hix h0 h1 kk

theorem pw_conv_b32 {s d : TypeId} {x : Operand} {ds : TypeDesc} {c : UInt8} [hs : TyU P s ds] [hd : TyU P d (.int .u32)] (hx : ev E x = byteV c) (kk : K (.int .u32 ((c.toNat : Nat) : Int)) R) : PW P w0 E (.convert s d x) ty H R K :=
  pw_convn (hs := hs) (hd := hd) hx rfl (by
    have := c.toNat_lt
    rw [Nat.mod_eq_of_lt (by simp [IntKind.bits]; omega)]; exact kk)
theorem pw_conv_b64 {s d : TypeId} {x : Operand} {ds : TypeDesc} {c : UInt8} [hs : TyU P s ds] [hd : TyU P d (.int .u64)] (hx : ev E x = byteV c) (kk : K (.int .u64 ((c.toNat : Nat) : Int)) R) : PW P w0 E (.convert s d x) ty H R K :=
  pw_convn (hs := hs) (hd := hd) hx rfl (by
    have := c.toNat_lt
    rw [Nat.mod_eq_of_lt (by simp [IntKind.bits]; omega)]; exact kk)
end

/-! ### drives -/
structure DW where
  at_ : Int
  data : List UInt8
structure DO where
  kind : Int
  at_ : Int
  data : List UInt8
structure RecD where
  at_ : Int
  epoch : Int
  seq : Int
  len : Int
structure Drive where
  bytes : List UInt8
  pending : List DW
instance : Rep DW where
  size := 2
  rd s cs x := ∃ A c, cs = [.int .i64 x.at_, .slice A x.data.length c] ∧ InI x.at_ ∧ (Sl (.slice A x.data.length c) x.data).p s
  mono h hp := by obtain ⟨A, c, e, k, l⟩ := hp; exact ⟨A, c, e, k, (Sl _ _).mono _ _ h l⟩
  len hp := by obtain ⟨A, c, rfl, k⟩ := hp; rfl
  one hp := by obtain ⟨A, c, rfl, k⟩ := hp; simp [Value.oneCell']
theorem Sl_len {α : Type} [Rep α] {s : Sto} {A : Option Addr} {n c : Nat} {xs : List α} (h : (Sl (.slice A n c) xs).p s) : n ≤ 9223372036854775807 := by
  obtain ⟨A', c', e, ⟨h1, h2⟩, _⟩ := h
  injection e with _ e2 e3
  simp only [maxL] at h2; omega
instance : Unp DW := ⟨Option Addr × Nat, fun x y => [.int .i64 x.at_, .slice y.1 x.data.length y.2], fun x _ => InI x.at_ ∧ x.data.length ≤ 9223372036854775807, fun x y => [Sl (.slice y.1 x.data.length y.2) x.data],
  fun {s cs' x} h => by
    obtain ⟨A, c, rfl, h2, h3⟩ := h
    exact ⟨(A, c), rfl, ⟨h2, Sl_len h3⟩, fun p hp => by simp at hp; subst hp; exact h3⟩,
  fun {s x y} h h' => ⟨y.1, y.2, rfl, h.1, h' _ (by simp)⟩⟩
instance : Rep DO where
  size := 3
  rd s cs x := ∃ A c, cs = [.int .i64 x.kind, .int .i64 x.at_, .slice A x.data.length c] ∧ (InI x.kind ∧ InI x.at_) ∧ (Sl (.slice A x.data.length c) x.data).p s
  mono h hp := by obtain ⟨A, c, e, k, l⟩ := hp; exact ⟨A, c, e, k, (Sl _ _).mono _ _ h l⟩
  len hp := by obtain ⟨A, c, rfl, k⟩ := hp; rfl
  one hp := by obtain ⟨A, c, rfl, k⟩ := hp; simp [Value.oneCell']
instance : Unp DO := ⟨Option Addr × Nat, fun x y => [.int .i64 x.kind, .int .i64 x.at_, .slice y.1 x.data.length y.2], fun x _ => InI x.kind ∧ InI x.at_ ∧ x.data.length ≤ 9223372036854775807, fun x y => [Sl (.slice y.1 x.data.length y.2) x.data],
  fun {s cs' x} h => by
    obtain ⟨A, c, rfl, h2, h3⟩ := h
    exact ⟨(A, c), rfl, ⟨h2.1, h2.2, Sl_len h3⟩, fun p hp => by simp at hp; subst hp; exact h3⟩,
  fun {s x y} h h' => ⟨y.1, y.2, rfl, ⟨h.1, h.2.1⟩, h' _ (by simp)⟩⟩
instance : Rep RecD where
  size := 4
  rd s cs x := cs = [.int .i64 x.at_, .int .i64 x.epoch, .int .i64 x.seq, .int .i64 x.len] ∧ InI x.at_ ∧ InI x.epoch ∧ InI x.seq ∧ InI x.len
  mono h hp := hp
  len hp := by obtain ⟨rfl, k⟩ := hp; rfl
  one hp := by obtain ⟨rfl, k⟩ := hp; simp [Value.oneCell']
instance : Unp RecD := ⟨Unit, fun x _ => [.int .i64 x.at_, .int .i64 x.epoch, .int .i64 x.seq, .int .i64 x.len], fun x _ => InI x.at_ ∧ InI x.epoch ∧ InI x.seq ∧ InI x.len, fun _ _ => [],
  fun h => ⟨(), h.1, h.2, fun _ h => by cases h⟩, fun h _ => ⟨rfl, h⟩⟩

section
variable {P : Program} {w0 : World} {E : List Value} {H : List Hp} {R : List MP} {ty : TypeId} {K : Value → List MP → Prop}
theorem pw_index_w {t e : TypeId} {x ix : Operand} {agg : Bool} {by_ : Nat} {z : Value} [h : TyU P t (.slice e)] [he : Ty P e agg 2 by_ z] {v : Value} {xs : List DW} {k : IntKind} {i : Int} {d : DW} (hx : ev E x = v) (hix : ev E ix = .int k i) (hm : Sl v xs ∈ R) (hd : xs[i.toNat]? = some d) (h0 : 0 ≤ i)
    (kk : ∀ b o A c, InI d.at_ → d.data.length ≤ 9223372036854775807 → K (.pointer (some ⟨b, o, none⟩)) (At b o [.int .i64 d.at_, .slice A d.data.length c] :: Sl (.slice A d.data.length c) d.data :: R)) : PW P w0 E (.indexAddr t x ix) ty H R K := pw_indexU hx hix hm rfl hd h0 (fun b o (y : Option Addr × Nat) (hy : InI d.at_ ∧ d.data.length ≤ 9223372036854775807) => kk b o y.1 y.2 hy.1 hy.2)
theorem pw_index_op {t e : TypeId} {x ix : Operand} {agg : Bool} {by_ : Nat} {z : Value} [h : TyU P t (.slice e)] [he : Ty P e agg 3 by_ z] {v : Value} {xs : List DO} {k : IntKind} {i : Int} {d : DO} (hx : ev E x = v) (hix : ev E ix = .int k i) (hm : Sl v xs ∈ R) (hd : xs[i.toNat]? = some d) (h0 : 0 ≤ i)
    (kk : ∀ b o A c, InI d.kind → InI d.at_ → d.data.length ≤ 9223372036854775807 → K (.pointer (some ⟨b, o, none⟩)) (At b o [.int .i64 d.kind, .int .i64 d.at_, .slice A d.data.length c] :: Sl (.slice A d.data.length c) d.data :: R)) : PW P w0 E (.indexAddr t x ix) ty H R K := pw_indexU hx hix hm rfl hd h0 (fun b o (y : Option Addr × Nat) (hy : InI d.kind ∧ InI d.at_ ∧ d.data.length ≤ 9223372036854775807) => kk b o y.1 y.2 hy.1 hy.2.1 hy.2.2)
theorem pw_index_r {t e : TypeId} {x ix : Operand} {agg : Bool} {by_ : Nat} {z : Value} [h : TyU P t (.slice e)] [he : Ty P e agg 4 by_ z] {v : Value} {xs : List RecD} {k : IntKind} {i : Int} {d : RecD} (hx : ev E x = v) (hix : ev E ix = .int k i) (hm : Sl v xs ∈ R) (hd : xs[i.toNat]? = some d) (h0 : 0 ≤ i)
    (kk : ∀ b o, InI d.at_ ∧ InI d.epoch ∧ InI d.seq ∧ InI d.len → K (.pointer (some ⟨b, o, none⟩)) (At b o [.int .i64 d.at_, .int .i64 d.epoch, .int .i64 d.seq, .int .i64 d.len] :: R)) : PW P w0 E (.indexAddr t x ix) ty H R K := pw_indexU hx hix hm rfl hd h0 (fun b o y hy => kk b o hy)
theorem pw_index_bN {t e : TypeId} {x ix : Operand} {agg : Bool} {by_ : Nat} {z : Value} [h : TyU P t (.slice e)] [he : Ty P e agg 1 by_ z] {v : Value} {xs : List UInt8} {k : IntKind} {i : Nat} {d : UInt8} (hx : ev E x = v) (hix : ev E ix = .int k (i : Int)) (hm : Sl v xs ∈ R) (hd : xs[i]? = some d)
    (kk : ∀ b o, K (.pointer (some ⟨b, o, none⟩)) (At b o [byteV d] :: R)) : PW P w0 E (.indexAddr t x ix) ty H R K := pw_index_b hx hix hm (by simpa using hd) (by omega) kk
theorem pw_index_iN {t e : TypeId} {x ix : Operand} {agg : Bool} {by_ : Nat} {z : Value} [h : TyU P t (.slice e)] [he : Ty P e agg 1 by_ z] {v : Value} {xs : List Int} {k : IntKind} {i : Nat} {d : Int} (hx : ev E x = v) (hix : ev E ix = .int k (i : Int)) (hm : Sl v xs ∈ R) (hd : xs[i]? = some d)
    (kk : ∀ b o, InI d → K (.pointer (some ⟨b, o, none⟩)) (At b o [.int .i64 d] :: R)) : PW P w0 E (.indexAddr t x ix) ty H R K := pw_index_i hx hix hm (by simpa using hd) (by omega) kk
theorem pw_index_wN {t e : TypeId} {x ix : Operand} {agg : Bool} {by_ : Nat} {z : Value} [h : TyU P t (.slice e)] [he : Ty P e agg 2 by_ z] {v : Value} {xs : List DW} {k : IntKind} {i : Nat} {d : DW} (hx : ev E x = v) (hix : ev E ix = .int k (i : Int)) (hm : Sl v xs ∈ R) (hd : xs[i]? = some d)
    (kk : ∀ b o A c, InI d.at_ → d.data.length ≤ 9223372036854775807 → K (.pointer (some ⟨b, o, none⟩)) (At b o [.int .i64 d.at_, .slice A d.data.length c] :: Sl (.slice A d.data.length c) d.data :: R)) : PW P w0 E (.indexAddr t x ix) ty H R K := pw_index_w hx hix hm (by simpa using hd) (by omega) kk
theorem pw_index_opN {t e : TypeId} {x ix : Operand} {agg : Bool} {by_ : Nat} {z : Value} [h : TyU P t (.slice e)] [he : Ty P e agg 3 by_ z] {v : Value} {xs : List DO} {k : IntKind} {i : Nat} {d : DO} (hx : ev E x = v) (hix : ev E ix = .int k (i : Int)) (hm : Sl v xs ∈ R) (hd : xs[i]? = some d)
    (kk : ∀ b o A c, InI d.kind → InI d.at_ → d.data.length ≤ 9223372036854775807 → K (.pointer (some ⟨b, o, none⟩)) (At b o [.int .i64 d.kind, .int .i64 d.at_, .slice A d.data.length c] :: Sl (.slice A d.data.length c) d.data :: R)) : PW P w0 E (.indexAddr t x ix) ty H R K := pw_index_op hx hix hm (by simpa using hd) (by omega) kk
theorem pw_index_rN {t e : TypeId} {x ix : Operand} {agg : Bool} {by_ : Nat} {z : Value} [h : TyU P t (.slice e)] [he : Ty P e agg 4 by_ z] {v : Value} {xs : List RecD} {k : IntKind} {i : Nat} {d : RecD} (hx : ev E x = v) (hix : ev E ix = .int k (i : Int)) (hm : Sl v xs ∈ R) (hd : xs[i]? = some d)
    (kk : ∀ b o, InI d.at_ ∧ InI d.epoch ∧ InI d.seq ∧ InI d.len → K (.pointer (some ⟨b, o, none⟩)) (At b o [.int .i64 d.at_, .int .i64 d.epoch, .int .i64 d.seq, .int .i64 d.len] :: R)) : PW P w0 E (.indexAddr t x ix) ty H R K := pw_index_r hx hix hm (by simpa using hd) (by omega) kk
end
end Go.Proofs.Ytggdljhmbckpmaa
namespace Go.Proofs.Ytggdljhmbckpmaa
open Go Go.RowKit
attribute [local semireducible] T TC En PW GW CallsK CallsP Sl Rd Ls At S TA

/-! ### literals, step by step -/
theorem buildL_nil {E : List Value} {ev : List Value → Operand → Value} {pl : List (Nat × Nat)} {zs : List Value} : buildL E ev pl zs [] = some zs := rfl
theorem buildL_cons {E : List Value} {ev : List Value → Operand → Value} {pl : List (Nat × Nat)} {zs zs' vs : List Value} {o : Option (List Value)} {i : Nat} {x : Operand} {r : List (Nat × Operand)} {off sz : Nat} (h : pl[i]? = some (off, sz)) (hx : (ev E x).cells.toList = vs) (hl : vs.length = sz) (hb : off + sz ≤ zs.length) (hs : setsAt zs off vs = zs') (k : buildL E ev pl zs' r = o) : buildL E ev pl zs ((i, x) :: r) = o := by
  subst hx; subst hs
  simp only [buildL, h]
  rw [if_pos ⟨hl, hb⟩]; exact k
theorem partsL_start {E : List Value} {ev : List Value → Operand → Value} {sz i : Nat} {r : List (Nat × Operand)} {o : Option (List Value)} (k : (partsL E ev sz i r).map ([] ++ ·) = o) : partsL E ev sz i r = o := by
  simpa using k
theorem partsL_end {E : List Value} {ev : List Value → Operand → Value} {sz i : Nat} {d : List Value} : (partsL E ev sz i []).map (d ++ ·) = some d := by simp [partsL]
theorem partsL_step {E : List Value} {ev : List Value → Operand → Value} {sz i : Nat} {x : Operand} {r : List (Nat × Operand)} {vs d d' : List Value} {o : Option (List Value)} (hx : (ev E x).cells.toList = vs) (hl : vs.length = sz) (hd : d ++ vs = d') (k : (partsL E ev sz (i + 1) r).map (d' ++ ·) = o) : (partsL E ev sz i ((i, x) :: r)).map (d ++ ·) = o := by
  subst hx; subst hd
  unfold partsL
  rw [if_pos ⟨rfl, hl⟩, ← k]
  cases partsL E ev sz (i + 1) r <;> simp
section
variable {P : Program} {w0 : World} {E : List Value} {H : List Hp} {R : List MP} {ty : TypeId} {K : Value → List MP → Prop}
theorem pw_makeFuncL {fn : Fn} {first cap : List Operand} {f1 c1 : List Value} (h1 : first.map (ev E) = f1) (h2 : cap.map (ev E) = c1) (k : K (.func fn f1.toArray c1.toArray) R) : PW P w0 E (.makeFunc fn first.toArray cap.toArray) ty H R K := by
  subst h1; subst h2
  exact pw_makeFunc (by simpa using k)
end
/-- 'cs' are the cells of 'xs'. -/
def Cx {α : Type} [Rep α] (cs : List Value) (xs : List α) : MP where
  p s := cs.length = xs.length * Rep.size α ∧ ∀ j x, xs[j]? = some x → Rep.rd s ((cs.drop (j * Rep.size α)).take (Rep.size α)) x
  mono s t h hp := ⟨hp.1, fun j x hj => Rep.mono h (hp.2 j x hj)⟩

theorem Cx_nil {α : Type} [Rep α] (s : Sto) : (Cx [] ([] : List α)).p s := ⟨by simp, fun j x hj => by simp at hj⟩
theorem Cx_snoc {α : Type} [Rep α] {s : Sto} {cs c1 : List Value} {xs : List α} {x : α} (h : (Cx cs xs).p s) (hr : Rep.rd s c1 x) : (Cx (cs ++ c1) (xs ++ [x])).p s := by
  obtain ⟨h1, h2⟩ := h
  have hl := Rep.len hr
  refine ⟨by simp [h1, hl, Nat.add_mul], fun j y hj => ?_⟩
  rcases Nat.lt_or_ge j xs.length with hlt | hge
  · rw [List.getElem?_append_left hlt] at hj
    have hb : j * Rep.size α + Rep.size α ≤ cs.length := by
      rw [h1]
      calc j * Rep.size α + Rep.size α = (j + 1) * Rep.size α := by rw [Nat.add_mul, Nat.one_mul]
        _ ≤ xs.length * Rep.size α := Nat.mul_le_mul_right _ (by omega)
    rw [List.drop_append_of_le_length (by omega), List.take_append_of_le_length (by simp; omega)]
    exact h2 j y hj
  · rw [List.getElem?_append_right hge] at hj
    have : j = xs.length ∧ y = x := by
      have := (List.getElem?_eq_some_iff.1 hj).1
      simp at this
      have e : j - xs.length = 0 := by omega
      rw [e] at hj; simp at hj
      exact ⟨by omega, hj.symm⟩
    obtain ⟨rfl, rfl⟩ := this
    rw [← h1, List.drop_left, ← hl, List.take_length]; exact hr
theorem Cx_bytes (xs : List UInt8) (s : Sto) : (Cx (bytesV xs) xs).p s := by
  refine ⟨by simp [Rep.size], fun j x hj => ?_⟩
  have hl := (List.getElem?_eq_some_iff.1 hj).1
  have : (bytesV xs)[j]? = some (byteV x) := by simp [bytesV, hj]
  obtain ⟨h1, h2⟩ := List.getElem?_eq_some_iff.1 this
  show ((bytesV xs).drop (j * 1)).take 1 = [byteV x]
  rw [Nat.mul_one, List.drop_eq_getElem_cons h1, h2]; rfl
theorem Cx_one {α : Type} [Rep α] {s : Sto} {c1 : List Value} {x : α} (hr : Rep.rd s c1 x) : (Cx c1 [x]).p s := by
  simpa using Cx_snoc (Cx_nil s) hr

section
variable {F : Fence} {n : Nat} {P : Program} {w0 : World} {D : List Deferred} {ops : Array Oper} {Q : Exit → Act → World → Prop} {rest : List Oper} {E : List Value} {H : List Hp} {R : List MP}
theorem S.learn {w : World} (h : S w0 w H R) (p : MP) (hp : ∀ s : Sto, (∀ q ∈ R, q.p s) → p.p s) : S w0 w H (p :: R) := h.add p hp
theorem S.sl_nil (α : Type) [Rep α] {w : World} (h : S w0 w H R) : S w0 w H (Sl (.slice none 0 0) ([] : List α) :: R) :=
  h.add _ (fun s _ => ⟨none, 0, rfl, ⟨by simp, by simp [maxL]⟩, fun h => by simp at h⟩)

theorem S.stays {α : Type} [Rep α] {w : World} {i : Nat} {v : Value} {T : TypeId} {sz m : Nat} {cs : List Value} {xs : List α} (h : S w0 w H R) (hi : H[i]? = some (.row v T sz m cs)) (hsz : Rep.size α = sz) (h0 : 0 < sz) (hx : Cx cs xs ∈ R) :
    ∃ A c, v = .slice A xs.length c ∧ S w0 w (H.eraseIdx i) (Sl (.slice A xs.length c) xs :: R) := by
  subst hsz
  have hcl : cs.length = xs.length * Rep.size α := by
    obtain ⟨s, hs⟩ := h
    exact (hs.rd _ hx).1
  have hml : xs.length = m := by
    obtain ⟨s, hs⟩ := h
    have h1 := (hs.hp _ (List.mem_of_getElem? hi)).1.1
    rw [hcl] at h1
    exact Nat.eq_of_mul_eq_mul_right h0 h1
  rcases h.unrow hi with ⟨rfl, hm0, hnil⟩ | ⟨b, cap, sp, rfl, h2, h3, h4, h5, h6⟩
  · have : xs = [] := List.eq_nil_of_length_eq_zero (by omega)
    subst this
    exact ⟨none, 0, rfl, (h.drop i).sl_nil α⟩
  · subst hml
    refine ⟨some ⟨b, 0, none⟩, cap, rfl, ?_⟩
    have hlt : i < H.length := (List.getElem?_eq_some_iff.1 hi).1
    have h7 := h6.freeze (i := i) (b := b) (cs := cs ++ sp) (T := T) (by rw [List.getElem?_set_self hlt])
    have e : (H.set i (.blk b (cs ++ sp) T)).eraseIdx i = H.eraseIdx i := by rw [List.eraseIdx_set_eq]
    rw [e] at h7
    have h8 := h7.add (Sl (.slice (some ⟨b, 0, none⟩) xs.length cap) xs) (fun s hR => by
      have hat := hR (At b 0 (cs ++ sp)) (by simp)
      obtain ⟨_, hcx⟩ := hR (Cx cs xs) (by simp [hx])
      refine ⟨_, _, rfl, ⟨h4, by simp only [maxLen] at h5; simp only [maxL]; omega⟩, fun _ => ⟨b, 0, rfl, fun k x hk => ⟨_, hcx k x hk, fun j v hj => ?_⟩⟩⟩
      rw [List.getElem?_take] at hj
      split at hj
      · rename_i hjlt
        rw [List.getElem?_drop] at hj
        have := hat (k * Rep.size α + j) v (by rw [List.getElem?_append_left (List.getElem?_eq_some_iff.1 hj).1]; exact hj)
        simpa [Nat.add_assoc] using this
      · cases hj)
    exact h8.weaken (List.Sublist.refl _) (fun p hp => by
      rcases List.mem_cons.1 hp with rfl | hp
      · simp
      · simp [hp])
/-- A block that holds the cells of 'xs' is made to stay, as the slice of all of it. -/
theorem S.blk_stays {α : Type} [Rep α] {w : World} {i b n c : Nat} {T : TypeId} {cs sp : List Value} {xs : List α} (h : S w0 w H R) (hi : H[i]? = some (.blk b (cs ++ sp) T)) (hx : Cx cs xs ∈ R) (hn : n = xs.length) (hc : n ≤ c) (hcm : c ≤ maxL) :
    S w0 w (H.eraseIdx i) (Sl (.slice (some ⟨b, 0, none⟩) n c) xs :: R) := by
  subst hn
  have h7 := h.freeze hi
  have h8 := h7.add (Sl (.slice (some ⟨b, 0, none⟩) xs.length c) xs) (fun s hR => by
    have hat := hR (At b 0 (cs ++ sp)) (by simp)
    obtain ⟨_, hcx⟩ := hR (Cx cs xs) (by simp [hx])
    refine ⟨_, _, rfl, ⟨hc, hcm⟩, fun _ => ⟨b, 0, rfl, fun k x hk => ⟨_, hcx k x hk, fun j v hj => ?_⟩⟩⟩
    rw [List.getElem?_take] at hj
    split at hj
    · rename_i hjlt
      rw [List.getElem?_drop] at hj
      have := hat (k * Rep.size α + j) v (by rw [List.getElem?_append_left (List.getElem?_eq_some_iff.1 hj).1]; exact hj)
      simpa [Nat.add_assoc] using this
    · cases hj)
  exact h8.weaken (List.Sublist.refl _) (fun p hp => by
    rcases List.mem_cons.1 hp with rfl | hp
    · simp
    · simp [hp])

theorem S.bytes_stay {w : World} {i b n c : Nat} {T : TypeId} {xs : List UInt8} (h : S w0 w H R) (hi : H[i]? = some (.blk b (bytesV xs) T)) (hn : n = xs.length) (hc : n ≤ c) (hcm : c ≤ maxL) :
    S w0 w (H.eraseIdx i) (Sl (.slice (some ⟨b, 0, none⟩) n c) xs :: R) :=
  ((h.learn (Cx (bytesV xs) xs) (fun s _ => Cx_bytes _ s)).blk_stays (i := i) (cs := bytesV xs) (sp := []) (by simpa using hi) (by simp) hn hc hcm).weaken (List.Sublist.refl _) (fun p hp => by
    rcases List.mem_cons.1 hp with rfl | hp
    · simp
    · simp [hp])
theorem K_bool {K : Value → List Hp → List MP → Prop} {a b : Bool} (h : a = b) (hk : K (.bool b) H R) : K (.bool a) H R := h ▸ hk
theorem T_load [Wd F] {dst : Option Tmp} {t : TypeId} {x : Operand} {ty : TypeId} {pos : String} {aft : Array Edge} {g : Option (Nat × Bool)} (hw : Region.wanted ⟨dst, .load t x, ty, pos, aft, g⟩ (yielded ops E.toArray) = true)
    (h : PW P w0 E (.load t x) ty H R (fun v R' => T F n P w0 D ops Q rest (setD E dst v) H R')) : T F n P w0 D ops Q (⟨dst, .load t x, ty, pos, aft, g⟩ :: rest) E H R := T_pure hw rfl h
theorem T_bin [Wd F] {dst : Option Tmp} {o : BinOp} {t t' : TypeId} {x y : Operand} {ty : TypeId} {pos : String} {aft : Array Edge} {g : Option (Nat × Bool)} (hw : Region.wanted ⟨dst, .binOp o t x y t', ty, pos, aft, g⟩ (yielded ops E.toArray) = true)
    (h : PW P w0 E (.binOp o t x y t') ty H R (fun v R' => T F n P w0 D ops Q rest (setD E dst v) H R')) : T F n P w0 D ops Q (⟨dst, .binOp o t x y t', ty, pos, aft, g⟩ :: rest) E H R := T_pure hw rfl h
theorem T_idx [Wd F] {dst : Option Tmp} {t : TypeId} {x y : Operand} {ty : TypeId} {pos : String} {aft : Array Edge} {g : Option (Nat × Bool)} (hw : Region.wanted ⟨dst, .indexAddr t x y, ty, pos, aft, g⟩ (yielded ops E.toArray) = true)
    (h : PW P w0 E (.indexAddr t x y) ty H R (fun v R' => T F n P w0 D ops Q rest (setD E dst v) H R')) : T F n P w0 D ops Q (⟨dst, .indexAddr t x y, ty, pos, aft, g⟩ :: rest) E H R := T_pure hw rfl h
theorem T_store [Wd F] {dst : Option Tmp} {t : TypeId} {x y : Operand} {ty : TypeId} {pos : String} {aft : Array Edge} {g : Option (Nat × Bool)} (hw : Region.wanted ⟨dst, .store t x y, ty, pos, aft, g⟩ (yielded ops E.toArray) = true)
    (h : GW P w0 E (.store t x y) ty H R (fun v H' R' => T F n P w0 D ops Q rest (setD E dst v) H' R')) : T F n P w0 D ops Q (⟨dst, .store t x y, ty, pos, aft, g⟩ :: rest) E H R := T_gen hw rfl h
theorem S.shape {w : World} {i : Nat} {v : Value} {T : TypeId} {sz m : Nat} {cs : List Value} (h : S w0 w H R) (hi : H[i]? = some (.row v T sz m cs)) : ∃ A c, v = .slice A m c := by
  rcases h.unrow hi with ⟨rfl, h0, _⟩ | ⟨b, cap, sp, h1, _⟩
  · subst h0; exact ⟨_, _, rfl⟩
  · exact ⟨_, _, h1⟩
theorem T_shape (i : Nat) {v : Value} {T' : TypeId} {sz m : Nat} {cs : List Value} (hi : H[i]? = some (.row v T' sz m cs)) (k : ∀ A c, v = .slice A m c → T F n P w0 D ops Q rest E H R) : T F n P w0 D ops Q rest E H R := fun w hs => by
  obtain ⟨A, c, e⟩ := hs.shape hi
  exact k A c e w hs
theorem TC_shape {co : Code} (i : Nat) {v : Value} {T' : TypeId} {sz m : Nat} {cs : List Value} (hi : H[i]? = some (.row v T' sz m cs)) (k : ∀ A c, v = .slice A m c → TC F n P w0 D co Q E H R) : TC F n P w0 D co Q E H R := fun w hs => by
  obtain ⟨A, c, e⟩ := hs.shape hi
  exact k A c e w hs
theorem TA_shape {Hc : List Hp} {Rc : List MP} {kk : Nat} {listed : Array Bool} (i : Nat) {v : Value} {T' : TypeId} {sz m : Nat} {cs : List Value} (hi : H[i]? = some (.row v T' sz m cs)) (k : ∀ A c, v = .slice A m c → TA F n P w0 D ops Q Hc Rc kk listed E H R) : TA F n P w0 D ops Q Hc Rc kk listed E H R := fun hreg w hs => by
  obtain ⟨A, c, e⟩ := hs.shape hi
  exact k A c e hreg w hs
theorem T_stays (i : Nat) {v : Value} {m : Nat} {xs : List UInt8} (hi : H[i]? = some (.row v 5 1 m (bytesV xs))) (k : ∀ A c, v = .slice A xs.length c → T F n P w0 D ops Q rest E (H.eraseIdx i) (Sl (.slice A xs.length c) xs :: R)) : T F n P w0 D ops Q rest E H R := fun w hs => by
  obtain ⟨A, c, e, h⟩ := hs.row_stays hi
  exact k A c e w h
theorem TC_stays {co : Code} (i : Nat) {v : Value} {m : Nat} {xs : List UInt8} (hi : H[i]? = some (.row v 5 1 m (bytesV xs))) (k : ∀ A c, v = .slice A xs.length c → TC F n P w0 D co Q E (H.eraseIdx i) (Sl (.slice A xs.length c) xs :: R)) : TC F n P w0 D co Q E H R := fun w hs => by
  obtain ⟨A, c, e, h⟩ := hs.row_stays hi
  exact k A c e w h
theorem TA_stays {Hc : List Hp} {Rc : List MP} {kk : Nat} {listed : Array Bool} (i : Nat) {v : Value} {m : Nat} {xs : List UInt8} (hi : H[i]? = some (.row v 5 1 m (bytesV xs))) (k : ∀ A c, v = .slice A xs.length c → TA F n P w0 D ops Q Hc Rc kk listed E (H.eraseIdx i) (Sl (.slice A xs.length c) xs :: R)) : TA F n P w0 D ops Q Hc Rc kk listed E H R := fun hreg w hs => by
  obtain ⟨A, c, e, h⟩ := hs.row_stays hi
  exact TW_any _ _ _ _ _ _ _ w (k A c e hreg w h)
theorem En_stays {e : Exit} (i : Nat) {v : Value} {m : Nat} {xs : List UInt8} (hi : H[i]? = some (.row v 5 1 m (bytesV xs))) (k : ∀ A c, v = .slice A xs.length c → En w0 D Q e E (H.eraseIdx i) (Sl (.slice A xs.length c) xs :: R)) : En w0 D Q e E H R := fun w hs => by
  obtain ⟨A, c, e, h⟩ := hs.row_stays hi
  exact k A c e w h
theorem T_staysx {α : Type} [Rep α] (i : Nat) {v : Value} {T' : TypeId} {sz m : Nat} {cs : List Value} {xs : List α} (hi : H[i]? = some (.row v T' sz m cs)) (hsz : Rep.size α = sz) (h0 : 0 < sz) (hx : Cx cs xs ∈ R) (k : ∀ A c, v = .slice A xs.length c → T F n P w0 D ops Q rest E (H.eraseIdx i) (Sl (.slice A xs.length c) xs :: R)) : T F n P w0 D ops Q rest E H R := fun w hs => by
  obtain ⟨A, c, e, h⟩ := hs.stays hi hsz h0 hx
  exact k A c e w h
theorem TC_staysx {co : Code} {α : Type} [Rep α] (i : Nat) {v : Value} {T' : TypeId} {sz m : Nat} {cs : List Value} {xs : List α} (hi : H[i]? = some (.row v T' sz m cs)) (hsz : Rep.size α = sz) (h0 : 0 < sz) (hx : Cx cs xs ∈ R) (k : ∀ A c, v = .slice A xs.length c → TC F n P w0 D co Q E (H.eraseIdx i) (Sl (.slice A xs.length c) xs :: R)) : TC F n P w0 D co Q E H R := fun w hs => by
  obtain ⟨A, c, e, h⟩ := hs.stays hi hsz h0 hx
  exact k A c e w h
theorem T_learn (p : MP) (hp : ∀ s : Sto, (∀ q ∈ R, q.p s) → p.p s) (k : T F n P w0 D ops Q rest E H (p :: R)) : T F n P w0 D ops Q rest E H R := fun w hs => k w (hs.add p hp)
theorem TC_learn {co : Code} (p : MP) (hp : ∀ s : Sto, (∀ q ∈ R, q.p s) → p.p s) (k : TC F n P w0 D co Q E H (p :: R)) : TC F n P w0 D co Q E H R := fun w hs => k w (hs.add p hp)
theorem TA_learn {Hc : List Hp} {Rc : List MP} {kk : Nat} {listed : Array Bool} (p : MP) (hp : ∀ s : Sto, (∀ q ∈ R, q.p s) → p.p s) (k : TA F n P w0 D ops Q Hc Rc kk listed E H (p :: R)) : TA F n P w0 D ops Q Hc Rc kk listed E H R := TA_pre (fun w hs => hs.add p hp) k
theorem CallsK_learn {f : FuncId} {args : Array Value} {K : Value → List Hp → List MP → Prop} (p : MP) (hp : ∀ s : Sto, (∀ q ∈ R, q.p s) → p.p s) (k : CallsK P w0 f args H (p :: R) K) : CallsK P w0 f args H R K := fun w hs => k w (hs.add p hp)
theorem En_learn {e : Exit} (p : MP) (hp : ∀ s : Sto, (∀ q ∈ R, q.p s) → p.p s) (k : En w0 D Q e E H (p :: R)) : En w0 D Q e E H R := fun w hs => k w (hs.add p hp)
theorem Sl_nil (α : Type) [Rep α] (s : Sto) : (Sl (.slice none 0 0) ([] : List α)).p s := ⟨none, 0, rfl, ⟨by simp, by simp [maxL]⟩, fun h => by simp at h⟩
theorem T_nilrow (T' : TypeId) (size : Nat) (k : T F n P w0 D ops Q rest E (.row (.slice none 0 0) T' size 0 [] :: H) R) : T F n P w0 D ops Q rest E H R := fun w hs => k w (hs.nilrow T' size)
theorem TC_nilrow {co : Code} (T' : TypeId) (size : Nat) (k : TC F n P w0 D co Q E (.row (.slice none 0 0) T' size 0 [] :: H) R) : TC F n P w0 D co Q E H R := fun w hs => k w (hs.nilrow T' size)
end
end Go.Proofs.Ytggdljhmbckpmaa
namespace Go.Proofs.Ytggdljhmbckpmaa
open Go Go.RowKit
attribute [local semireducible] T TC En PW GW CallsK CallsP Sl Rd Ls At S TA
section
variable {P : Program} {w0 : World} {E : List Value} {H : List Hp} {R : List MP} {ty : TypeId} {K : Value → List MP → Prop}
/-- The amount of a number; of the least one 0. -/
def amt (p : Int) : Nat := if p = -9223372036854775808 then 0 else p.natAbs
theorem amt_le {p : Int} (h : InI p) : (amt p : Int) ≤ 9223372036854775807 := by
  unfold InI at h; unfold amt; split <;> omega
theorem pw_amt {ts : Array TypeId} {x y z : Operand} {p : Int} (hI : InI p) (hx : ev E x = .int .i64 p) (hy : ev E y = .int .i64 (IntKind.i64.wrap (0 - p))) (hz : ev E z = .int .i64 0) (kk : K (.int .i64 ((amt p : Nat) : Int)) R) : PW P w0 E (.call ⟨.builtin .max, #[x, y, z], ts⟩) ty H R K :=
  fun w s hs => ⟨_, R, fun w' _ => by
    have e : (if (0 : Int) > (if IntKind.i64.wrap (0 - p) > p then IntKind.i64.wrap (0 - p) else p) then 0 else (if IntKind.i64.wrap (0 - p) > p then IntKind.i64.wrap (0 - p) else p)) = (amt p : Int) := by
      unfold InI at hI
      unfold amt
      by_cases h : p = -9223372036854775808
      · subst h; decide
      · rw [wrap_id (k := .i64) (by simp [IntKind.min, IntKind.signed, IntKind.bits]; omega) (by simp [IntKind.max, IntKind.signed, IntKind.bits]; omega), if_neg h]
        split <;> split <;> omega
    simp only [xop, execOp, resolve, invoke, builtin, List.map_toArray, List.map_cons, List.map_nil, hx, hy, hz, Sem.run_bind, Sem.run_pure, Result.andThen_ok, run_max_int3, e], fun _ h => h, hs.rd, kk⟩
theorem pw_remN {t t' : TypeId} {x y : Operand} {a m : Nat} (hx : ev E x = .int .i64 (a : Int)) (hy : ev E y = .int .i64 (m : Int)) (hm : 0 < m) (kk : ∀ r : Nat, Hid (r = a % m) → r < m → K (.int .i64 (r : Int)) R) : PW P w0 E (.binOp .rem t x y t') ty H R K :=
  pw_rem hx hy (by omega) (by omega) (by
    have := kk (a % m) (Lib.hid rfl) (Nat.mod_lt _ hm)
    rw [Int.natCast_emod] at this; exact this)
end
end Go.Proofs.Ytggdljhmbckpmaa
namespace Go.Proofs.Ytggdljhmbckpmaa
open Go Go.RowKit
attribute [local semireducible] T TC En PW GW CallsK CallsP Sl Rd Ls At S TA
section
variable {F : Fence} {n : Nat} {P : Program} {w0 : World} {D : List Deferred} {ops : Array Oper} {Q : Exit → Act → World → Prop} {Hc : List Hp} {Rc : List MP} {E : List Value} {H : List Hp} {R : List MP}
theorem sub_cons {α : Type _} {a : α} {l L : List α} (h : a ∈ L) (k : ∀ p ∈ l, p ∈ L) : ∀ p ∈ a :: l, p ∈ L := fun p hp => by
  rcases List.mem_cons.1 hp with rfl | hp
  · exact h
  · exact k p hp
theorem cut0 {G p : Prop} (h : G → p) (k : G) : p := h k
theorem cut1 {G : Nat → Prop} {p : Prop} (h : (∀ b, G b) → p) (k : ∀ b, G b) : p := h k
theorem cut2 {G : Nat → Nat → Prop} {p : Prop} (h : (∀ b c, G b c) → p) (k : ∀ b c, G b c) : p := h k
theorem cutV {G : Value → Prop} {p : Prop} (h : (∀ b, G b) → p) (k : ∀ b, G b) : p := h k
/-- Two may come up. -/
theorem TA_two' (i j : Nat) {di dj : Option Tmp} {oi oj : Op} {ti tj : TypeId} {pi pj : String} {ai aj : Array Edge} {gi gj : Option (Nat × Bool)} {k : Nat} {listed li lj : Array Bool} (hr : Region.ready .any ops listed = [i, j]) (ho : ops[i]? = some ⟨di, oi, ti, pi, ai, gi⟩) (ho' : ops[j]? = some ⟨dj, oj, tj, pj, aj, gj⟩) (hli : listed.setIfInBounds i true = li) (hlj : listed.setIfInBounds j true = lj)
    (hw : wnt ops ⟨di, oi, ti, pi, ai, gi⟩ E = true) (hw' : wnt ops ⟨dj, oj, tj, pj, aj, gj⟩ E = true)
    (h : OW F n P w0 D Q ⟨di, oi, ti, pi, ai, gi⟩ E H R (fun v H' R' => ((∀ w, S w0 w H' R' → S w0 w Hc Rc) ∨ lastOp ops i = true) ∧ TA F n P w0 D ops Q Hc Rc k li (setD E di v) H' R'))
    (h' : OW F n P w0 D Q ⟨dj, oj, tj, pj, aj, gj⟩ E H R (fun v H' R' => ((∀ w, S w0 w H' R' → S w0 w Hc Rc) ∨ lastOp ops j = true) ∧ TA F n P w0 D ops Q Hc Rc k lj (setD E dj v) H' R')) : TA F n P w0 D ops Q Hc Rc (k + 1) listed E H R :=
  TA_two i j hr ho ho' hli hlj hw hw' h h'
/-- Three may come up. -/
theorem TA_three (i j l : Nat) {di dj dl : Option Tmp} {oi oj ol : Op} {ti tj tl : TypeId} {pi pj pl : String} {ai aj al : Array Edge} {gi gj gl : Option (Nat × Bool)} {k : Nat} {listed li lj ll : Array Bool} (hr : Region.ready .any ops listed = [i, j, l]) (ho : ops[i]? = some ⟨di, oi, ti, pi, ai, gi⟩) (ho' : ops[j]? = some ⟨dj, oj, tj, pj, aj, gj⟩) (ho2 : ops[l]? = some ⟨dl, ol, tl, pl, al, gl⟩) (hli : listed.setIfInBounds i true = li) (hlj : listed.setIfInBounds j true = lj) (hll : listed.setIfInBounds l true = ll)
    (hw : wnt ops ⟨di, oi, ti, pi, ai, gi⟩ E = true) (hw' : wnt ops ⟨dj, oj, tj, pj, aj, gj⟩ E = true) (hw2 : wnt ops ⟨dl, ol, tl, pl, al, gl⟩ E = true)
    (h : OW F n P w0 D Q ⟨di, oi, ti, pi, ai, gi⟩ E H R (fun v H' R' => ((∀ w, S w0 w H' R' → S w0 w Hc Rc) ∨ lastOp ops i = true) ∧ TA F n P w0 D ops Q Hc Rc k li (setD E di v) H' R'))
    (h' : OW F n P w0 D Q ⟨dj, oj, tj, pj, aj, gj⟩ E H R (fun v H' R' => ((∀ w, S w0 w H' R' → S w0 w Hc Rc) ∨ lastOp ops j = true) ∧ TA F n P w0 D ops Q Hc Rc k lj (setD E dj v) H' R'))
    (h2 : OW F n P w0 D Q ⟨dl, ol, tl, pl, al, gl⟩ E H R (fun v H' R' => ((∀ w, S w0 w H' R' → S w0 w Hc Rc) ∨ lastOp ops l = true) ∧ TA F n P w0 D ops Q Hc Rc k ll (setD E dl v) H' R')) : TA F n P w0 D ops Q Hc Rc (k + 1) listed E H R := by
  subst hli; subst hlj; subst hll
  exact TA_all hr (by simp) (fun q hq o2 hoq => by
    simp at hq
    rcases hq with rfl | rfl | rfl
    · rw [ho] at hoq; cases hoq; exact ⟨fun _ => h, fun hf => by rw [hw] at hf; cases hf⟩
    · rw [ho'] at hoq; cases hoq; exact ⟨fun _ => h', fun hf => by rw [hw'] at hf; cases hf⟩
    · rw [ho2] at hoq; cases hoq; exact ⟨fun _ => h2, fun hf => by rw [hw2] at hf; cases hf⟩)
end
end Go.Proofs.Ytggdljhmbckpmaa
