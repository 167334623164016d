/- Elements of slices, opened; the data of drives. -/
import Derived.Test.YtggdljhmbckpmaaGreatA8
set_option linter.unusedVariables false
set_option linter.unusedSimpArgs false
namespace Go.Proofs.YtggdljhmbckpmaaGreat
open Go Go.RowKit
attribute [local semireducible] T TC En PW GW OW CallsK CallsP Sl Rd Ls At S

/-- How a datum lies in cells: its cells, what is known of them. -/
class Unp (α : Type) [Rep α] where
  Y : Type
  cs : α → Y → List Value
  ok : α → Y → Prop
  fs : α → Y → List MP
  un : ∀ {s : Sto} {cs' : List Value} {x : α}, Rep.rd s cs' x → ∃ y, cs' = cs x y ∧ ok x y ∧ ∀ p ∈ fs x y, p.p s
  re : ∀ {s : Sto} {x : α} {y : Y}, ok x y → (∀ p ∈ fs x y, p.p s) → Rep.rd s (cs x y) x

instance : Unp UInt8 := ⟨Unit, fun c _ => [byteV c], fun _ _ => True, fun _ _ => [], fun h => ⟨(), h, trivial, fun _ h => by cases h⟩, fun _ _ => rfl⟩
def InI (n : Int) : Prop := -9223372036854775808 ≤ n ∧ n ≤ 9223372036854775807
instance : Unp Int := ⟨Unit, fun n _ => [.int .i64 n], fun n _ => InI n, fun _ _ => [], fun h => ⟨(), h.1, h.2, fun _ h => by cases h⟩, fun h _ => ⟨rfl, h⟩⟩
instance {α : Type} [Rep α] : Unp (List α) := ⟨Option Addr × Nat, fun xs y => [.slice y.1 xs.length y.2], fun xs y => xs.length ≤ y.2 ∧ y.2 ≤ maxL, fun xs y => [Sl (.slice y.1 xs.length y.2) xs],
  fun {s cs' x} h => by
    obtain ⟨v, rfl, A, c, rfl, h2, h3⟩ := h
    refine ⟨(A, c), rfl, h2, fun p hp => ?_⟩
    simp at hp; subst hp
    exact ⟨A, c, rfl, h2, h3⟩,
  fun {s x y} h h' => ⟨_, rfl, h' _ (by simp)⟩⟩

section
variable {F : Fence} {n : Nat} {P : Program} {w0 : World} {D : List Deferred} {ops : Array Oper} {Q : Exit → Act → World → Prop} {rest : List Oper} {E : List Value} {H : List Hp} {R : List MP} {ty : TypeId} {K : Value → List MP → Prop}

/-- 'xs[i]': its place, and what lies there. -/
theorem pw_indexU {α : Type} [Rep α] [Unp α] {t e : TypeId} {x ix : Operand} {agg : Bool} {sz by_ : Nat} {z : Value} [h : TyU P t (.slice e)] [he : Ty P e agg sz by_ z] {v : Value} {xs : List α} {k : IntKind} {i : Int} {d : α} (hx : ev E x = v) (hix : ev E ix = .int k i) (hm : Sl v xs ∈ R) (hsz : Rep.size α = sz) (hd : xs[i.toNat]? = some d) (h0 : 0 ≤ i)
    (kk : ∀ b o (y : Unp.Y α), Unp.ok d y → K (.pointer (some ⟨b, o, none⟩)) (At b o (Unp.cs d y) :: (Unp.fs d y ++ R))) : PW P w0 E (.indexAddr t x ix) ty H R K := fun w s hs => by
  obtain ⟨i, rfl⟩ := Int.eq_ofNat_of_zero_le h0
  have hl : i < xs.length := (List.getElem?_eq_some_iff.1 hd).1
  obtain ⟨b, o, c, cs, e1, hcl, hs'⟩ := sl_at hs.rd hm i d hd
  have hr : Rep.rd s cs d := hs' (Rd cs d) (by simp)
  obtain ⟨y, rfl, hok, hf⟩ := Unp.un hr
  refine ⟨.pointer (some ⟨b, o + i * sz, none⟩), _, fun w' _ => ?_, ?_, ?_, by rw [← hsz]; exact kk b (o + i * Rep.size α) y hok⟩
  · simp only [xop, execOp, hx, hix, e1, Sem.run_bind]
    rw [indexAt_slice (P := P) (t := t) b o xs.length c k i hl w']
    rfl
  · intro p hp; simp [hp]
  · intro p hp
    rcases List.mem_cons.1 hp with rfl | hp
    · exact hs' _ (by simp)
    · rcases List.mem_append.1 hp with hp | hp
      · exact hf p hp
      · exact hs.rd p hp
theorem pw_index_b {t e : TypeId} {x ix : Operand} {agg : Bool} {by_ : Nat} {z : Value} [h : TyU P t (.slice e)] [he : Ty P e agg 1 by_ z] {v : Value} {xs : List UInt8} {k : IntKind} {i : Int} {d : UInt8} (hx : ev E x = v) (hix : ev E ix = .int k i) (hm : Sl v xs ∈ R) (hd : xs[i.toNat]? = some d) (h0 : 0 ≤ i)
    (kk : ∀ b o, K (.pointer (some ⟨b, o, none⟩)) (At b o [byteV d] :: R)) : PW P w0 E (.indexAddr t x ix) ty H R K := pw_indexU hx hix hm rfl hd h0 (fun b o y _ => kk b o)
theorem pw_index_i {t e : TypeId} {x ix : Operand} {agg : Bool} {by_ : Nat} {z : Value} [h : TyU P t (.slice e)] [he : Ty P e agg 1 by_ z] {v : Value} {xs : List Int} {k : IntKind} {i : Int} {d : Int} (hx : ev E x = v) (hix : ev E ix = .int k i) (hm : Sl v xs ∈ R) (hd : xs[i.toNat]? = some d) (h0 : 0 ≤ i)
    (kk : ∀ b o, InI d → K (.pointer (some ⟨b, o, none⟩)) (At b o [.int .i64 d] :: R)) : PW P w0 E (.indexAddr t x ix) ty H R K := pw_indexU hx hix hm rfl hd h0 (fun b o y hy => kk b o hy)

/-- Into an owned block: 'xs[i]'s place. -/
theorem pw_index_o {t e : TypeId} {x ix : Operand} {agg : Bool} {sz by_ : Nat} {z : Value} [h : TyU P t (.slice e)] [he : Ty P e agg sz by_ z] {b o n c : Nat} {k : IntKind} {i : Int} (hx : ev E x = .slice (some ⟨b, o, none⟩) n c) (hix : ev E ix = .int k i) (h0 : 0 ≤ i) (h1 : i < n)
    (kk : K (.pointer (some ⟨b, o + i.toNat * sz, none⟩)) R) : PW P w0 E (.indexAddr t x ix) ty H R K := pw_index_at hx hix h0 h1 kk

theorem pw_conv_b32 {s d : TypeId} {x : Operand} {ds : TypeDesc} {c : UInt8} [hs : TyU P s ds] [hd : TyU P d (.int .u32)] (hx : ev E x = byteV c) (kk : K (.int .u32 ((c.toNat : Nat) : Int)) R) : PW P w0 E (.convert s d x) ty H R K :=
  pw_convn (hs := hs) (hd := hd) hx rfl (by
    have := c.toNat_lt
    rw [Nat.mod_eq_of_lt (by simp [IntKind.bits]; omega)]; exact kk)
theorem pw_conv_b64 {s d : TypeId} {x : Operand} {ds : TypeDesc} {c : UInt8} [hs : TyU P s ds] [hd : TyU P d (.int .u64)] (hx : ev E x = byteV c) (kk : K (.int .u64 ((c.toNat : Nat) : Int)) R) : PW P w0 E (.convert s d x) ty H R K :=
  pw_convn (hs := hs) (hd := hd) hx rfl (by
    have := c.toNat_lt
    rw [Nat.mod_eq_of_lt (by simp [IntKind.bits]; omega)]; exact kk)
end

/-! ### drives -/
structure DW where
  at_ : Int
  data : List UInt8
structure DO where
  kind : Int
  at_ : Int
  data : List UInt8
structure RecD where
  at_ : Int
  epoch : Int
  seq : Int
  len : Int
structure Drive where
  bytes : List UInt8
  pending : List DW
instance : Rep DW where
  size := 2
  rd s cs x := ∃ A c, cs = [.int .i64 x.at_, .slice A x.data.length c] ∧ InI x.at_ ∧ (Sl (.slice A x.data.length c) x.data).p s
  mono h hp := by obtain ⟨A, c, e, k, l⟩ := hp; exact ⟨A, c, e, k, (Sl _ _).mono _ _ h l⟩
  len hp := by obtain ⟨A, c, rfl, k⟩ := hp; rfl
  one hp := by obtain ⟨A, c, rfl, k⟩ := hp; simp [Value.oneCell']
theorem Sl_len {α : Type} [Rep α] {s : Sto} {A : Option Addr} {n c : Nat} {xs : List α} (h : (Sl (.slice A n c) xs).p s) : n ≤ 9223372036854775807 := by
  obtain ⟨A', c', e, ⟨h1, h2⟩, _⟩ := h
  injection e with _ e2 e3
  simp only [maxL] at h2; omega
instance : Unp DW := ⟨Option Addr × Nat, fun x y => [.int .i64 x.at_, .slice y.1 x.data.length y.2], fun x _ => InI x.at_ ∧ x.data.length ≤ 9223372036854775807, fun x y => [Sl (.slice y.1 x.data.length y.2) x.data],
  fun {s cs' x} h => by
    obtain ⟨A, c, rfl, h2, h3⟩ := h
    exact ⟨(A, c), rfl, ⟨h2, Sl_len h3⟩, fun p hp => by simp at hp; subst hp; exact h3⟩,
  fun {s x y} h h' => ⟨y.1, y.2, rfl, h.1, h' _ (by simp)⟩⟩
instance : Rep DO where
  size := 3
  rd s cs x := ∃ A c, cs = [.int .i64 x.kind, .int .i64 x.at_, .slice A x.data.length c] ∧ (InI x.kind ∧ InI x.at_) ∧ (Sl (.slice A x.data.length c) x.data).p s
  mono h hp := by obtain ⟨A, c, e, k, l⟩ := hp; exact ⟨A, c, e, k, (Sl _ _).mono _ _ h l⟩
  len hp := by obtain ⟨A, c, rfl, k⟩ := hp; rfl
  one hp := by obtain ⟨A, c, rfl, k⟩ := hp; simp [Value.oneCell']
instance : Unp DO := ⟨Option Addr × Nat, fun x y => [.int .i64 x.kind, .int .i64 x.at_, .slice y.1 x.data.length y.2], fun x _ => InI x.kind ∧ InI x.at_ ∧ x.data.length ≤ 9223372036854775807, fun x y => [Sl (.slice y.1 x.data.length y.2) x.data],
  fun {s cs' x} h => by
    obtain ⟨A, c, rfl, h2, h3⟩ := h
    exact ⟨(A, c), rfl, ⟨h2.1, h2.2, Sl_len h3⟩, fun p hp => by simp at hp; subst hp; exact h3⟩,
  fun {s x y} h h' => ⟨y.1, y.2, rfl, ⟨h.1, h.2.1⟩, h' _ (by simp)⟩⟩
instance : Rep RecD where
  size := 4
  rd s cs x := cs = [.int .i64 x.at_, .int .i64 x.epoch, .int .i64 x.seq, .int .i64 x.len] ∧ InI x.at_ ∧ InI x.epoch ∧ InI x.seq ∧ InI x.len
  mono h hp := hp
  len hp := by obtain ⟨rfl, k⟩ := hp; rfl
  one hp := by obtain ⟨rfl, k⟩ := hp; simp [Value.oneCell']
instance : Unp RecD := ⟨Unit, fun x _ => [.int .i64 x.at_, .int .i64 x.epoch, .int .i64 x.seq, .int .i64 x.len], fun x _ => InI x.at_ ∧ InI x.epoch ∧ InI x.seq ∧ InI x.len, fun _ _ => [],
  fun h => ⟨(), h.1, h.2, fun _ h => by cases h⟩, fun h _ => ⟨rfl, h⟩⟩

section
variable {P : Program} {w0 : World} {E : List Value} {H : List Hp} {R : List MP} {ty : TypeId} {K : Value → List MP → Prop}
theorem pw_index_w {t e : TypeId} {x ix : Operand} {agg : Bool} {by_ : Nat} {z : Value} [h : TyU P t (.slice e)] [he : Ty P e agg 2 by_ z] {v : Value} {xs : List DW} {k : IntKind} {i : Int} {d : DW} (hx : ev E x = v) (hix : ev E ix = .int k i) (hm : Sl v xs ∈ R) (hd : xs[i.toNat]? = some d) (h0 : 0 ≤ i)
    (kk : ∀ b o A c, InI d.at_ → d.data.length ≤ 9223372036854775807 → K (.pointer (some ⟨b, o, none⟩)) (At b o [.int .i64 d.at_, .slice A d.data.length c] :: Sl (.slice A d.data.length c) d.data :: R)) : PW P w0 E (.indexAddr t x ix) ty H R K := pw_indexU hx hix hm rfl hd h0 (fun b o (y : Option Addr × Nat) (hy : InI d.at_ ∧ d.data.length ≤ 9223372036854775807) => kk b o y.1 y.2 hy.1 hy.2)
theorem pw_index_op {t e : TypeId} {x ix : Operand} {agg : Bool} {by_ : Nat} {z : Value} [h : TyU P t (.slice e)] [he : Ty P e agg 3 by_ z] {v : Value} {xs : List DO} {k : IntKind} {i : Int} {d : DO} (hx : ev E x = v) (hix : ev E ix = .int k i) (hm : Sl v xs ∈ R) (hd : xs[i.toNat]? = some d) (h0 : 0 ≤ i)
    (kk : ∀ b o A c, InI d.kind → InI d.at_ → d.data.length ≤ 9223372036854775807 → K (.pointer (some ⟨b, o, none⟩)) (At b o [.int .i64 d.kind, .int .i64 d.at_, .slice A d.data.length c] :: Sl (.slice A d.data.length c) d.data :: R)) : PW P w0 E (.indexAddr t x ix) ty H R K := pw_indexU hx hix hm rfl hd h0 (fun b o (y : Option Addr × Nat) (hy : InI d.kind ∧ InI d.at_ ∧ d.data.length ≤ 9223372036854775807) => kk b o y.1 y.2 hy.1 hy.2.1 hy.2.2)
theorem pw_index_r {t e : TypeId} {x ix : Operand} {agg : Bool} {by_ : Nat} {z : Value} [h : TyU P t (.slice e)] [he : Ty P e agg 4 by_ z] {v : Value} {xs : List RecD} {k : IntKind} {i : Int} {d : RecD} (hx : ev E x = v) (hix : ev E ix = .int k i) (hm : Sl v xs ∈ R) (hd : xs[i.toNat]? = some d) (h0 : 0 ≤ i)
    (kk : ∀ b o, InI d.at_ ∧ InI d.epoch ∧ InI d.seq ∧ InI d.len → K (.pointer (some ⟨b, o, none⟩)) (At b o [.int .i64 d.at_, .int .i64 d.epoch, .int .i64 d.seq, .int .i64 d.len] :: R)) : PW P w0 E (.indexAddr t x ix) ty H R K := pw_indexU hx hix hm rfl hd h0 (fun b o y hy => kk b o hy)
theorem pw_index_bN {t e : TypeId} {x ix : Operand} {agg : Bool} {by_ : Nat} {z : Value} [h : TyU P t (.slice e)] [he : Ty P e agg 1 by_ z] {v : Value} {xs : List UInt8} {k : IntKind} {i : Nat} {d : UInt8} (hx : ev E x = v) (hix : ev E ix = .int k (i : Int)) (hm : Sl v xs ∈ R) (hd : xs[i]? = some d)
    (kk : ∀ b o, K (.pointer (some ⟨b, o, none⟩)) (At b o [byteV d] :: R)) : PW P w0 E (.indexAddr t x ix) ty H R K := pw_index_b hx hix hm (by simpa using hd) (by omega) kk
theorem pw_index_iN {t e : TypeId} {x ix : Operand} {agg : Bool} {by_ : Nat} {z : Value} [h : TyU P t (.slice e)] [he : Ty P e agg 1 by_ z] {v : Value} {xs : List Int} {k : IntKind} {i : Nat} {d : Int} (hx : ev E x = v) (hix : ev E ix = .int k (i : Int)) (hm : Sl v xs ∈ R) (hd : xs[i]? = some d)
    (kk : ∀ b o, InI d → K (.pointer (some ⟨b, o, none⟩)) (At b o [.int .i64 d] :: R)) : PW P w0 E (.indexAddr t x ix) ty H R K := pw_index_i hx hix hm (by simpa using hd) (by omega) kk
theorem pw_index_wN {t e : TypeId} {x ix : Operand} {agg : Bool} {by_ : Nat} {z : Value} [h : TyU P t (.slice e)] [he : Ty P e agg 2 by_ z] {v : Value} {xs : List DW} {k : IntKind} {i : Nat} {d : DW} (hx : ev E x = v) (hix : ev E ix = .int k (i : Int)) (hm : Sl v xs ∈ R) (hd : xs[i]? = some d)
    (kk : ∀ b o A c, InI d.at_ → d.data.length ≤ 9223372036854775807 → K (.pointer (some ⟨b, o, none⟩)) (At b o [.int .i64 d.at_, .slice A d.data.length c] :: Sl (.slice A d.data.length c) d.data :: R)) : PW P w0 E (.indexAddr t x ix) ty H R K := pw_index_w hx hix hm (by simpa using hd) (by omega) kk
theorem pw_index_opN {t e : TypeId} {x ix : Operand} {agg : Bool} {by_ : Nat} {z : Value} [h : TyU P t (.slice e)] [he : Ty P e agg 3 by_ z] {v : Value} {xs : List DO} {k : IntKind} {i : Nat} {d : DO} (hx : ev E x = v) (hix : ev E ix = .int k (i : Int)) (hm : Sl v xs ∈ R) (hd : xs[i]? = some d)
    (kk : ∀ b o A c, InI d.kind → InI d.at_ → d.data.length ≤ 9223372036854775807 → K (.pointer (some ⟨b, o, none⟩)) (At b o [.int .i64 d.kind, .int .i64 d.at_, .slice A d.data.length c] :: Sl (.slice A d.data.length c) d.data :: R)) : PW P w0 E (.indexAddr t x ix) ty H R K := pw_index_op hx hix hm (by simpa using hd) (by omega) kk
theorem pw_index_rN {t e : TypeId} {x ix : Operand} {agg : Bool} {by_ : Nat} {z : Value} [h : TyU P t (.slice e)] [he : Ty P e agg 4 by_ z] {v : Value} {xs : List RecD} {k : IntKind} {i : Nat} {d : RecD} (hx : ev E x = v) (hix : ev E ix = .int k (i : Int)) (hm : Sl v xs ∈ R) (hd : xs[i]? = some d)
    (kk : ∀ b o, InI d.at_ ∧ InI d.epoch ∧ InI d.seq ∧ InI d.len → K (.pointer (some ⟨b, o, none⟩)) (At b o [.int .i64 d.at_, .int .i64 d.epoch, .int .i64 d.seq, .int .i64 d.len] :: R)) : PW P w0 E (.indexAddr t x ix) ty H R K := pw_index_r hx hix hm (by simpa using hd) (by omega) kk
end
end Go.Proofs.YtggdljhmbckpmaaGreat
