/- The rules for operations that make or turn memory; the ends of bodies. -/
import Derived.Test.YtggdljhmbckpmaaGreatAB
import Derived.Maps.AppendAt
import Derived.Lib.AppendStr
import Derived.Laws.BytesArg
import Derived.Laws.MakeOwn
import Derived.Lib.ConvBytes
import Derived.Deep.OwnRows
set_option linter.unusedVariables false
set_option linter.unusedSimpArgs false
namespace Go.Proofs.YtggdljhmbckpmaaGreat
open Go Go.RowKit
attribute [local semireducible] T TC En PW GW OW CallsK CallsP Sl Rd Ls At S

def eP (c : UInt8) : Value := .int .u8 (c.toNat : Int)
def bA (xs : List UInt8) : List Value := xs.map eP
@[simp] theorem sE (xs : List UInt8) : (bA xs).length = xs.length := by simp [bA]
theorem lD (xs : List UInt8) : ∀ u ∈ bA xs, u.oneCell' = true := by
  intro u hu
  obtain ⟨c, _, rfl⟩ := List.mem_map.1 hu
  rfl
theorem fE (xs ys : List UInt8) : bA (xs ++ ys) = bA xs ++ bA ys := by simp [bA]
def fR (cs : List Value) (o : Nat) (vs : List Value) : List Value := cs.take o ++ vs ++ cs.drop (o + vs.length)

/-! ### literals, as lists -/
def iL : List Value → Nat → List Value → List Value
  | [], _, _ => []
  | z :: zs, o + 1, vs => z :: iL zs o vs
  | z :: zs, 0, v :: vs => v :: iL zs 0 vs
  | z :: zs, 0, [] => z :: zs
theorem nU : ∀ (zs : List Value) (o : Nat), iL zs o [] = zs
  | [], _ => rfl
  | z :: zs, 0 => rfl
  | z :: zs, o + 1 => by rw [iL, nU zs o]
theorem qE : ∀ (zs : List Value) (o : Nat) (v : Value) (vs : List Value), iL zs o (v :: vs) = iL (zs.set o v) (o + 1) vs
  | [], _, _, _ => rfl
  | z :: zs, 0, v, vs => by simp [iL]
  | z :: zs, o + 1, v, vs => by simp [iL, qE zs o v vs]
theorem rF (off : Nat) : ∀ (vs : List Value) (j : Nat) (zs : List Value), (vs.zipIdx j).foldl (fun (cs : Array Value) (p : Value × Nat) => cs.setIfInBounds (off + p.2) p.1) zs.toArray = (iL zs (off + j) vs).toArray
  | [], j, zs => by simp [nU]
  | v :: vs, j, zs => by
    rw [List.zipIdx_cons, List.foldl_cons, qE]
    have := rF off vs (j + 1) (zs.set (off + j) v)
    rw [← Nat.add_assoc] at this
    rw [← this]
    simp
theorem sL (place : Nat → Option (Nat × Nat)) (zs vs : List Value) (i : Nat) (v : Value) (rest : List (Nat × Value)) (off sz : Nat) (hp : place i = some (off, sz)) (hv : v.cells = vs.toArray) (h1 : vs.length = sz) (h2 : off + sz ≤ zs.length) :
    Instr.fill place zs.toArray ((i, v) :: rest) = Instr.fill place (iL zs off vs).toArray rest := by
  have hf := rF off vs 0 zs
  have hc : ¬ (vs.toArray.size ≠ sz ∨ off + vs.toArray.size > zs.toArray.size) := by simp; omega
  simp only [Instr.fill, hp, hv]
  rw [if_neg (by simpa using hc)]
  congr 1
  rw [← Array.foldl_toList]
  simpa using hf
def lG (E : List Value) (ev : List Value → Operand → Value) (pl : List (Nat × Nat)) : List Value → List (Nat × Operand) → Option (List Value)
  | zs, [] => some zs
  | zs, (i, x) :: r => match pl[i]? with
    | some (off, sz) => if (ev E x).cells.toList.length = sz ∧ off + sz ≤ zs.length then lG E ev pl (iL zs off (ev E x).cells.toList) r else none
    | none => none
theorem qG (E : List Value) (ev : List Value → Operand → Value) (pl : List (Nat × Nat)) : ∀ (ps : List (Nat × Operand)) (zs cs : List Value), lG E ev pl zs ps = some cs → Instr.fill (pl.toArray[·]?) zs.toArray (ps.map fun p => (p.1, ev E p.2)) = some cs.toArray
  | [], zs, cs, h => by simp [lG] at h; subst h; rfl
  | (i, x) :: r, zs, cs, h => by
    simp only [lG] at h
    split at h
    · rename_i off sz hp
      split at h
      · rename_i hc
        rw [List.map_cons, sL (pl.toArray[·]?) zs (ev E x).cells.toList i (ev E x) _ off sz (by simpa using hp) (by simp) hc.1 hc.2]
        exact qG E ev pl r _ cs h
      · cases h
    · cases h
def jA (E : List Value) (ev : List Value → Operand → Value) (sz : Nat) : Nat → List (Nat × Operand) → Option (List Value)
  | _, [] => some []
  | i, (j, x) :: r => if j = i ∧ (ev E x).cells.toList.length = sz then (jA E ev sz (i + 1) r).map ((ev E x).cells.toList ++ ·) else none
theorem sD (d : List Value) : ∀ (vs z : List Value), vs.length ≤ z.length → iL (d ++ z) d.length vs = d ++ vs ++ z.drop vs.length := by
  induction d with
  | nil =>
    intro vs
    induction vs with
    | nil => intro z _; simp [nU]
    | cons v vs ih =>
      intro z hz
      cases z with
      | nil => simp at hz
      | cons a z => simp [iL] at *; exact ih z hz
  | cons a d ih => intro vs z hz; simp [iL]; simpa using ih vs z hz
theorem qF (E : List Value) (ev : List Value → Operand → Value) (sz : Nat) : ∀ (ps : List (Nat × Operand)) (i : Nat) (d z cs : List Value), d.length = i * sz → z.length = ps.length * sz → jA E ev sz i ps = some cs →
    Instr.fill (fun i => some (i * sz, sz)) (d ++ z).toArray (ps.map fun p => (p.1, ev E p.2)) = some (d ++ cs).toArray
  | [], i, d, z, cs, _, hz, h => by
    simp at hz; subst hz
    simp [jA] at h; subst h; rfl
  | (j, x) :: r, i, d, z, cs, hd, hz, h => by
    simp only [jA] at h
    split at h
    · rename_i hc
      obtain ⟨rfl, hl⟩ := hc
      obtain ⟨cs', h', rfl⟩ := Option.map_eq_some_iff.1 h
      have hz' : z.length = sz + r.length * sz := by rw [hz, List.length_cons, Nat.add_mul]; omega
      rw [List.map_cons, sL _ (d ++ z) (ev E x).cells.toList j (ev E x) _ (j * sz) sz rfl (by simp) hl (by simp; omega)]
      have := sD d (ev E x).cells.toList z (by omega)
      rw [hd] at this
      rw [this]
      have ih := qF E ev sz r (j + 1) (d ++ (ev E x).cells.toList) (z.drop (ev E x).cells.toList.length) cs' (by simp at hl ⊢; rw [Nat.add_mul]; omega) (by rw [List.length_drop, hl]; omega) h'
      rw [ih]; simp
    · cases h

section
variable {P : Program} {w0 : World} {E : List Value} {H : List Hp} {R : List MP} {ty : TypeId} {K : Value → List Hp → List MP → Prop}

/-- A struct's literal. -/
theorem dN {t : TypeId} {parts : Array (Nat × Operand)} {zs : List Value} {pl : Array (Nat × Nat)} {cs : List Value} {K : Value → List MP → Prop} [h : TyB P t zs pl] (hv : lG E ev pl.toList zs parts.toList = some cs) (k : K (.agg cs.toArray) R) : PW P w0 E (.build t parts) ty H R K :=
  eV rfl (fun w _ => h.build _ _ w (by
    have := qG E ev pl.toList parts.toList zs cs hv
    simpa using this)) k
/-! ### new blocks -/
theorem eB {t : TypeId} {x : Operand} {cs : List Value} (hx : (ev E x).cells = cs.toArray) (kk : ∀ b, K (.pointer (some ⟨b, 0, none⟩)) (.blk b cs t :: H) R) : GW P w0 E (.box t x) ty H R K := fun w hs =>
  ⟨_, _, _, R, .inl (by simp [lR, execOp, Instr.box, newVar, newRow, hx]), hs.alloc cs t, kk _⟩
theorem bK {t : TypeId} {agg : Bool} {sz by_ : Nat} {z : Value} {cs : List Value} [h : Ty P t agg sz by_ z] (hz : z.cells = cs.toArray) (kk : ∀ b, K (.pointer (some ⟨b, 0, none⟩)) (.blk b cs t :: H) R) : GW P w0 E (.alloc t) ty H R K := fun w hs =>
  ⟨_, _, _, R, .inl (by
    simp only [lR, execOp, Instr.alloc, Sem.run_bind, h.zero, Result.andThen_ok]
    simp [newVar, newRow, hz]), hs.alloc cs t, kk _⟩

/-! ### stores -/
theorem S.setRow {w : World} {i b : Nat} {cs : List Value} {T : TypeId} (h : S w0 w H R) (hi : H[i]? = some (.blk b cs T)) (cs' : List Value) :
    S w0 (w.setRow b cs'.toArray) (H.set i (.blk b cs' T)) R := by
  have hb := (h.blk_heap hi).1
  refine h.turn hi rfl rfl (fun k hk => ?_) ?_ rfl rfl rfl ?_
  · simp only [World.setRow, Array.getElem?_modify]; rw [if_neg (fun e => hk e.symm)]
  · simp [World.setRow]
  · rintro s ⟨h0, h1, h2⟩
    exact ⟨h0, setRow_heap w b _ _ T _ h1, h2⟩
theorem aO {t : TypeId} {a x : Operand} {agg : Bool} {sz by_ : Nat} {z : Value} [h : Ty P t agg sz by_ z] {i b o : Nat} {cs vs : List Value} {T : TypeId} (ha : ev E a = .pointer (some ⟨b, o, none⟩)) (hx : (ev E x).cells = vs.toArray) (hi : H[i]? = some (.blk b cs T))
    (hl : vs.length = sz) (ho : o + sz ≤ cs.length) (h1 : ∀ v ∈ vs, v.oneCell' = true) (kk : K undef (H.set i (.blk b (fR cs o vs) T)) R) : GW P w0 E (.store t a x) ty H R K := fun w hs => by
  refine ⟨undef, w.setRow b (fR cs o vs).toArray, _, R, .inr ⟨?_, rfl⟩, hs.setRow hi _, kk⟩
  have hb := (hs.blk_heap hi).1
  have hst := run_storeCells_at (P := P) b o T vs 0 cs.toArray w hb (by simp; omega) h1
  simp only [lR, execOp, Instr.storeAt, ha, Instr.sureAddr, storeVar, Sem.run_bind, Sem.run_pure, Result.andThen_ok, h.size, hx]
  have : ¬ vs.toArray.size ≠ sz := by simp [hl]
  rw [if_neg this]
  rw [hst]
  simp [fR]

/-! ### slices made -/
class TyL (P : Program) (t : TypeId) (e : outParam TypeId) (sz by_ : outParam Nat) (zs : outParam (List Value)) : Prop where
  und : P.underlying t = some (.slice e)
  info : ∃ i z, P.info? e = some i ∧ i.size = sz ∧ i.bytes = by_ ∧ i.zero = some z ∧ z.cells = zs.toArray ∧ (sz = 1 → ∀ cs, z ≠ .agg cs)
  len : zs.length = sz
theorem TyL.size {t e : TypeId} {sz by_ : Nat} {zs : List Value} (h : TyL P t e sz by_ zs) (w : World) : (sizeOf e).run P w = .ok sz w := by
  obtain ⟨i, z, hi, e1, _⟩ := h.info
  simp [sizeOf, typeInfo, hi, e1]

theorem bH {t e : TypeId} {n : Nat} {parts : Array (Nat × Operand)} {sz by_ : Nat} {zs cs : List Value} [h : TyL P t e sz by_ zs] (hn : n * sz ≤ 16777216)
    (hv0 : jA E ev sz 0 parts.toList = some cs) (hps : parts.size = n)
    (kk : ∀ b, K (.slice (some ⟨b, 0, none⟩) n n) (.blk b cs e :: H) R) : GW P w0 E (.buildSlice t n parts) ty H R K := fun w hs => by
  obtain ⟨i, z, hi, e1, e2, e3, e4, _⟩ := h.info
  refine ⟨_, _, _, R, .inl ?_, hs.alloc cs e, kk _⟩
  have hle : ¬ n * sz > 2 ^ 24 := by omega
  have hv : Instr.fill (fun i => some (i * sz, sz)) ((Array.range (n * sz)).map (zs.toArray[· % zs.toArray.size]!)) ((parts.map fun (i, x) => (i, ev E x)).toList) = some cs.toArray := by
    have hz : ((Array.range (n * sz)).map (fun x => (zs.toArray[x % zs.toArray.size]! : Value))).size = n * sz := by simp
    generalize (Array.range (n * sz)).map (fun x => (zs.toArray[x % zs.toArray.size]! : Value)) = Z at hz ⊢
    have := qF E ev sz parts.toList 0 [] Z.toList cs (by simp) (by simp [hps, hz]) hv0
    simpa using this
  have key : (Instr.buildSlice t n (parts.map fun (i, x) => (i, ev E x))).run P w = .ok (.slice (some ⟨w.heap.size, 0, none⟩) n n) (w.alloc (.cells cs.toArray e)) := by
    unfold Instr.buildSlice
    simp only [Sem.run_bind, run_underlying h.und, Result.andThen_ok, h.size, if_neg hle]
    by_cases h0 : n * sz = 0
    · have hz : ((Array.range (n * sz)).map (fun x => ((#[] : Array Value)[x % (#[] : Array Value).size]! : Value))) = ((Array.range (n * sz)).map (zs.toArray[· % zs.toArray.size]!)) := by
        rw [h0]; apply Array.ext <;> simp
      rw [if_pos h0, Sem.run_bind, Sem.run_pure, Result.andThen_ok, hz]
      have hv' := hv
      simp only at hv'
      rw [hv']
      rfl
    · rw [if_neg h0]
      simp only [Sem.run_bind, zeroValue, typeInfo, run_program, hi, e3, e4, Sem.run_pure, Result.andThen_ok]
      have hv' := hv
      simp only at hv'
      rw [hv']
      rfl
  simp only [lR, execOp, Sem.run_bind, key, Result.andThen_ok]
  rfl

/-- make([]T, n): whole cells of zeros. -/
theorem t6 {t e : TypeId} {l c : Operand} {k k' : IntKind} {n : Nat} {by_ : Nat} {z : Value} [h : TyL P t e 1 by_ [z]] (hl : ev E l = .int k (n : Int)) (hc : ev E c = .int k' (n : Int)) (hn : by_ * n ≤ 281474976710656) (hn2 : n ≤ 281474976710656)
    (kk : ∀ b, K (.slice (some ⟨b, 0, none⟩) n n) (.blk b (List.replicate n z) e :: H) R) : GW P w0 E (.makeSlice t l c) ty H R K := fun w hs => by
  obtain ⟨i, z', hi, e1, e2, e3, e4, hna⟩ := h.info
  refine ⟨_, _, _, R, .inl ?_, hs.alloc (List.replicate n z) e, kk _⟩
  have hone : z' = z := by
    cases z' with
    | agg cs => simp [Value.cells] at e4; subst e4; exact absurd rfl (hna rfl _)
    | _ => simp [Value.cells] at e4; exact e4
  subst hone
  have key := run_make_row' (P := P) t e z' by_ h.und (by rw [hi]; simp [e1, e2, e3]) e4 k k' n hn (by omega) w
  have hcell : madeCells #[z'] n = (List.replicate n z').toArray := by
    apply Array.ext
    · simp [size_madeCells]
    · intro j h1 h2
      simp [madeCells, Nat.mod_one]
  rw [hcell] at key
  simp only [lR, execOp, hl, hc, Sem.run_bind, key, Result.andThen_ok]
  rfl

/-! ### append -/
theorem qP (w : World) (t ty e : TypeId) (sz : Nat) (hu : P.underlying t = some (.slice e)) (hs : ∀ w, (sizeOf e).run P w = .ok sz w) (base : Option Addr) (n cap : Nat) (hle : n ≤ cap) (A : Option Addr) (c : Nat) :
    (Builtin.append_ #[t, t] ty #[.slice base n cap, .slice A 0 c]).run P w = .ok (.slice base n cap) w := by
  have hfc : (Builtin.firstCells sz 0 (.slice A 0 c)).run P w = .ok #[] w := by
    cases A with
    | none => rfl
    | some a => simp [Builtin.firstCells, loadCells, loadCellsFrom]
  unfold Builtin.append_
  simp only [List.getElem?_toArray, List.getElem?_cons_zero, List.getElem?_cons_succ, Sem.run_bind, run_underlying hu, Result.andThen_ok, hs, Sem.run_pure, Builtin.lenOf, Nat.add_zero]
  simp [hle, hfc, storeCells]
  cases base <;> rfl
theorem mF {t e : TypeId} {s x : Operand} {i n m c sz by_ : Nat} {zs cs news : List Value} {v : Value} {A : Option Addr} [h : TyL P t e sz by_ zs] (hs : ev E s = v) (hx : ev E x = .slice A m c) (hi : H[i]? = some (.row v e sz n cs))
    (hsz : 0 < sz) (hl : news.length = m * sz) (hsrc : ∀ w, S w0 w H R → 0 < m → ∃ a, A = some a ∧ ∀ j u, news[j]? = some u → w.cell? (a.add j) = some u) (h1 : ∀ u ∈ news, u.oneCell' = true)
    (hby : (n + m) * by_ ≤ 140737488355328) (hnm : n + m ≤ 140737488355328)
    (kk : ∀ v', K v' (H.set i (.row v' e sz (n + m) (cs ++ news))) R) : GW P w0 E (.call ⟨.builtin .append, #[s, x], #[t, t]⟩) ty H R K := fun w hw => by
  obtain ⟨ti, z, hti, e1, e2, e3, e4, _⟩ := h.info
  have hrow : w.ownsRow w0.heap.size e sz v n cs := by
    obtain ⟨s, hok⟩ := hw
    exact (hok.hp _ (List.mem_of_getElem? hi)).1
  have hbase : w0.heap.size ≤ w.heap.size := hw.below.size
  have fin : ∀ v' w', (Builtin.append_ #[t, t] ty #[v, .slice A m c]).run P w = .ok v' w' → S w0 w' (H.set i (.row v' e sz (n + m) (cs ++ news))) R → ∃ v w' H' R', ((lR E (.call ⟨.builtin .append, #[s, x], #[t, t]⟩) ty).run P w = .ok (.value v) w' ∨ (lR E (.call ⟨.builtin .append, #[s, x], #[t, t]⟩) ty).run P w = .ok .skip w' ∧ v = undef) ∧ S w0 w' H' R' ∧ K v H' R' := fun v' w' hr hs' =>
    ⟨v', w', _, _, .inl (by simp [lR, execOp, resolve, invoke, builtin, hs, hx, hr]), hs', kk v'⟩
  have hzl : zs.length = sz := h.len
  rcases Nat.eq_zero_or_pos m with h0 | h0
  · subst h0
    have hnil : news = [] := List.eq_nil_of_length_eq_zero (by simpa using hl)
    subst hnil
    refine fin v w ?_ ?_
    · have hsmall : ∃ base cap, v = .slice base n cap ∧ n ≤ cap := by
        rcases hrow.2 with ⟨rfl, rfl⟩ | ⟨g, cap, cur, rfl, _, _, h3, _⟩
        · exact ⟨none, 0, rfl, by omega⟩
        · exact ⟨_, cap, rfl, h3⟩
      obtain ⟨base, cap, rfl, hle⟩ := hsmall
      exact qP (P := P) w t ty e sz h.und (fun w => h.size w) base n cap hle A c
    · have : S w0 w (H.set i (.row v e sz (n + 0) (cs ++ []))) R := by
        have e : H.set i (.row v e sz (n + 0) (cs ++ [])) = H := by
          simp only [Nat.add_zero, List.append_nil]
          obtain ⟨hlt, he⟩ := List.getElem?_eq_some_iff.1 hi
          rw [← he]; exact List.set_getElem_self hlt
        rw [e]; exact hw
      exact this
  · obtain ⟨a, rfl, hc⟩ := hsrc w hw h0
    obtain ⟨v', w', hr, ho, hg, _, hb⟩ := run_append_own_at (P := P) w w0.heap.size t ty e ti z sz by_ h.und hti e3 e1 e2 (by rw [e4]; simpa using hzl) hsz v n cs hrow a m c news hl hc h1 (by simp only [maxLen]; omega) hby hbase
    refine fin v' w' hr (hw.grow hi hg ho ?_)
    rcases hb with hb | hb
    · exact .inr (.inl hb)
    · exact .inr (.inr ⟨_, hb, Nat.le_refl _⟩)
end
end Go.Proofs.YtggdljhmbckpmaaGreat
