/- The rules for operations that make or turn memory; the ends of bodies. Slicing, copying, strings; the ends of bodies; panics. -/
import Derived.Test.YtggdljhmbckpmaaGreatA2J
import Derived.Maps.AppendAt
import Derived.Lib.AppendStr
import Derived.Laws.BytesArg
import Derived.Laws.MakeOwn
import Derived.Lib.ConvBytes
import Derived.Deep.OwnRows
set_option linter.unusedVariables false
set_option linter.unusedSimpArgs false
namespace Go.Proofs.YtggdljhmbckpmaaGreat
open Go Go.RowKit
attribute [local semireducible] T TC En PW GW OW CallsK CallsP Sl Rd Ls At S

def fH (c : UInt8) : Value := .int .u8 (c.toNat : Int)
def bC (xs : List UInt8) : List Value := xs.map fH
@[simp] theorem uF (xs : List UInt8) : (bC xs).length = xs.length := by simp [bC]
theorem mX (xs : List UInt8) : ∀ u ∈ bC xs, u.oneCell' = true := by
  intro u hu
  obtain ⟨c, _, rfl⟩ := List.mem_map.1 hu
  rfl
theorem eX (xs ys : List UInt8) : bC (xs ++ ys) = bC xs ++ bC ys := by simp [bC]
def gL (cs : List Value) (o : Nat) (vs : List Value) : List Value := cs.take o ++ vs ++ cs.drop (o + vs.length)

/-! ### literals, as lists -/
def jQ : List Value → Nat → List Value → List Value
  | [], _, _ => []
  | z :: zs, o + 1, vs => z :: jQ zs o vs
  | z :: zs, 0, v :: vs => v :: jQ zs 0 vs
  | z :: zs, 0, [] => z :: zs
theorem pO : ∀ (zs : List Value) (o : Nat), jQ zs o [] = zs
  | [], _ => rfl
  | z :: zs, 0 => rfl
  | z :: zs, o + 1 => by rw [jQ, pO zs o]
theorem sD : ∀ (zs : List Value) (o : Nat) (v : Value) (vs : List Value), jQ zs o (v :: vs) = jQ (zs.set o v) (o + 1) vs
  | [], _, _, _ => rfl
  | z :: zs, 0, v, vs => by simp [jQ]
  | z :: zs, o + 1, v, vs => by simp [jQ, sD zs o v vs]
theorem tB (off : Nat) : ∀ (vs : List Value) (j : Nat) (zs : List Value), (vs.zipIdx j).foldl (fun (cs : Array Value) (p : Value × Nat) => cs.setIfInBounds (off + p.2) p.1) zs.toArray = (jQ zs (off + j) vs).toArray
  | [], j, zs => by simp [pO]
  | v :: vs, j, zs => by
    rw [List.zipIdx_cons, List.foldl_cons, sD]
    have := tB off vs (j + 1) (zs.set (off + j) v)
    rw [← Nat.add_assoc] at this
    rw [← this]
    simp
theorem vD (place : Nat → Option (Nat × Nat)) (zs vs : List Value) (i : Nat) (v : Value) (rest : List (Nat × Value)) (off sz : Nat) (hp : place i = some (off, sz)) (hv : v.cells = vs.toArray) (h1 : vs.length = sz) (h2 : off + sz ≤ zs.length) :
    Instr.fill place zs.toArray ((i, v) :: rest) = Instr.fill place (jQ zs off vs).toArray rest := by
  have hf := tB off vs 0 zs
  have hc : ¬ (vs.toArray.size ≠ sz ∨ off + vs.toArray.size > zs.toArray.size) := by simp; omega
  simp only [Instr.fill, hp, hv]
  rw [if_neg (by simpa using hc)]
  congr 1
  rw [← Array.foldl_toList]
  simpa using hf
def mZ (E : List Value) (ev : List Value → Operand → Value) (pl : List (Nat × Nat)) : List Value → List (Nat × Operand) → Option (List Value)
  | zs, [] => some zs
  | zs, (i, x) :: r => match pl[i]? with
    | some (off, sz) => if (ev E x).cells.toList.length = sz ∧ off + sz ≤ zs.length then mZ E ev pl (jQ zs off (ev E x).cells.toList) r else none
    | none => none
theorem sH (E : List Value) (ev : List Value → Operand → Value) (pl : List (Nat × Nat)) : ∀ (ps : List (Nat × Operand)) (zs cs : List Value), mZ E ev pl zs ps = some cs → Instr.fill (pl.toArray[·]?) zs.toArray (ps.map fun p => (p.1, ev E p.2)) = some cs.toArray
  | [], zs, cs, h => by simp [mZ] at h; subst h; rfl
  | (i, x) :: r, zs, cs, h => by
    simp only [mZ] at h
    split at h
    · rename_i off sz hp
      split at h
      · rename_i hc
        rw [List.map_cons, vD (pl.toArray[·]?) zs (ev E x).cells.toList i (ev E x) _ off sz (by simpa using hp) dB hc.1 hc.2]
        exact sH E ev pl r _ cs h
      · cases h
    · cases h
def kM (E : List Value) (ev : List Value → Operand → Value) (sz : Nat) : Nat → List (Nat × Operand) → Option (List Value)
  | _, [] => some []
  | i, (j, x) :: r => if j = i ∧ (ev E x).cells.toList.length = sz then (kM E ev sz (i + 1) r).map ((ev E x).cells.toList ++ ·) else none
theorem uK (d : List Value) : ∀ (vs z : List Value), vs.length ≤ z.length → jQ (d ++ z) d.length vs = d ++ vs ++ z.drop vs.length := by
  induction d with
  | nil =>
    intro vs
    induction vs with
    | nil => intro z _; simp [pO]
    | cons v vs ih =>
      intro z hz
      cases z with
      | nil => simp at hz
      | cons a z => simp [jQ] at *; exact ih z hz
  | cons a d ih => intro vs z hz; simp [jQ]; simpa using ih vs z hz
theorem sK (E : List Value) (ev : List Value → Operand → Value) (sz : Nat) : ∀ (ps : List (Nat × Operand)) (i : Nat) (d z cs : List Value), d.length = i * sz → z.length = ps.length * sz → kM E ev sz i ps = some cs →
    Instr.fill (fun i => some (i * sz, sz)) (d ++ z).toArray (ps.map fun p => (p.1, ev E p.2)) = some (d ++ cs).toArray
  | [], i, d, z, cs, _, hz, h => by
    simp at hz; subst hz
    simp [kM] at h; subst h; rfl
  | (j, x) :: r, i, d, z, cs, hd, hz, h => by
    simp only [kM] at h
    split at h
    · rename_i hc
      obtain ⟨rfl, hl⟩ := hc
      obtain ⟨cs', h', rfl⟩ := Option.map_eq_some_iff.1 h
      have hz' : z.length = sz + r.length * sz := by rw [hz, List.length_cons, Nat.add_mul]; omega
      rw [List.map_cons, vD _ (d ++ z) (ev E x).cells.toList j (ev E x) _ (j * sz) sz rfl dB hl (by simp; omega)]
      have := uK d (ev E x).cells.toList z aO
      rw [hd] at this
      rw [this]
      have ih := sK E ev sz r (j + 1) (d ++ (ev E x).cells.toList) (z.drop (ev E x).cells.toList.length) cs' (by simp at hl ⊢; rw [Nat.add_mul]; omega) (by rw [List.length_drop, hl]; omega) h'
      rw [ih]; simp
    · cases h

section
variable {P : Program} {w0 : World} {E : List Value} {H : List Hp} {R : List MP} {ty : TypeId} {K : Value → List Hp → List MP → Prop}

/-- A struct's literal. -/
theorem dI {t : TypeId} {parts : Array (Nat × Operand)} {zs : List Value} {pl : Array (Nat × Nat)} {cs : List Value} {K : Value → List MP → Prop} [h : TyB P t zs pl] (hv : mZ E ev pl.toList zs parts.toList = some cs) (k : K (.agg cs.toArray) R) : PW P w0 E (.build t parts) ty H R K :=
  fS rfl (fun w _ => h.build _ _ w (by
    have := sH E ev pl.toList parts.toList zs cs hv
    simpa using this)) k
/-! ### new blocks -/
theorem dX {t : TypeId} {x : Operand} {cs : List Value} (hx : (ev E x).cells = cs.toArray) (kk : ∀ b, K (.pointer (some ⟨b, 0, none⟩)) (.blk b cs t :: H) R) : GW P w0 E (.box t x) ty H R K := fun w hs =>
  ⟨_, _, _, R, .inl (by simp [nG, execOp, Instr.box, newVar, newRow, hx]), hs.alloc cs t, kk _⟩
theorem bL {t : TypeId} {agg : Bool} {sz by_ : Nat} {z : Value} {cs : List Value} [h : Ty P t agg sz by_ z] (hz : z.cells = cs.toArray) (kk : ∀ b, K (.pointer (some ⟨b, 0, none⟩)) (.blk b cs t :: H) R) : GW P w0 E (.alloc t) ty H R K := fun w hs =>
  ⟨_, _, _, R, .inl (by
    simp only [nG, execOp, Instr.alloc, Sem.run_bind, h.zero, Result.andThen_ok]
    simp [newVar, newRow, hz]), hs.alloc cs t, kk _⟩

/-! ### stores -/
theorem S.setRow {w : World} {i b : Nat} {cs : List Value} {T : TypeId} (h : S w0 w H R) (hi : H[i]? = some (.blk b cs T)) (cs' : List Value) :
    S w0 (w.setRow b cs'.toArray) (H.set i (.blk b cs' T)) R := by
  have hb := (h.blk_heap hi).1
  refine h.turn hi rfl rfl (fun k hk => ?_) ?_ rfl rfl rfl ?_
  · simp only [World.setRow, Array.getElem?_modify]; rw [if_neg (fun e => hk e.symm)]
  · simp [World.setRow]
  · rintro s ⟨h0, h1, h2⟩
    exact ⟨h0, setRow_heap w b _ _ T _ h1, h2⟩
theorem aN {t : TypeId} {a x : Operand} {agg : Bool} {sz by_ : Nat} {z : Value} [h : Ty P t agg sz by_ z] {i b o : Nat} {cs vs : List Value} {T : TypeId} (ha : ev E a = .pointer (some ⟨b, o, none⟩)) (hx : (ev E x).cells = vs.toArray) (hi : H[i]? = some (.blk b cs T))
    (hl : vs.length = sz) (ho : o + sz ≤ cs.length) (h1 : ∀ v ∈ vs, v.oneCell' = true) (kk : K undef (H.set i (.blk b (gL cs o vs) T)) R) : GW P w0 E (.store t a x) ty H R K := fun w hs => by
  refine ⟨undef, w.setRow b (gL cs o vs).toArray, _, R, .inr ⟨?_, rfl⟩, hs.setRow hi _, kk⟩
  have hb := (hs.blk_heap hi).1
  have hst := run_storeCells_at (P := P) b o T vs 0 cs.toArray w hb (by simp; omega) h1
  simp only [nG, execOp, Instr.storeAt, ha, Instr.sureAddr, storeVar, Sem.run_bind, Sem.run_pure, Result.andThen_ok, h.size, hx]
  have : ¬ vs.toArray.size ≠ sz := by simp [hl]
  rw [if_neg this]
  rw [hst]
  simp [gL]

/-! ### slices made -/
class TyL (P : Program) (t : TypeId) (e : outParam TypeId) (sz by_ : outParam Nat) (zs : outParam (List Value)) : Prop where
  und : P.underlying t = some (.slice e)
  info : ∃ i z, P.info? e = some i ∧ i.size = sz ∧ i.bytes = by_ ∧ i.zero = some z ∧ z.cells = zs.toArray ∧ (sz = 1 → ∀ cs, z ≠ .agg cs)
  len : zs.length = sz
theorem TyL.size {t e : TypeId} {sz by_ : Nat} {zs : List Value} (h : TyL P t e sz by_ zs) (w : World) : (sizeOf e).run P w = .ok sz w := by
  obtain ⟨i, z, hi, e1, _⟩ := h.info
  simp [sizeOf, typeInfo, hi, e1]

theorem bK {t e : TypeId} {n : Nat} {parts : Array (Nat × Operand)} {sz by_ : Nat} {zs cs : List Value} [h : TyL P t e sz by_ zs] (hn : n * sz ≤ 16777216)
    (hv0 : kM E ev sz 0 parts.toList = some cs) (hps : parts.size = n)
    (kk : ∀ b, K (.slice (some ⟨b, 0, none⟩) n n) (.blk b cs e :: H) R) : GW P w0 E (.buildSlice t n parts) ty H R K := fun w hs => by
  obtain ⟨i, z, hi, e1, e2, e3, e4, _⟩ := h.info
  refine ⟨_, _, _, R, .inl ?_, hs.alloc cs e, kk _⟩
  have hle : ¬ n * sz > 2 ^ 24 := by omega
  have hv : Instr.fill (fun i => some (i * sz, sz)) ((Array.range (n * sz)).map (zs.toArray[· % zs.toArray.size]!)) ((parts.map fun (i, x) => (i, ev E x)).toList) = some cs.toArray := by
    have hz : ((Array.range (n * sz)).map (fun x => (zs.toArray[x % zs.toArray.size]! : Value))).size = n * sz := by simp
    generalize (Array.range (n * sz)).map (fun x => (zs.toArray[x % zs.toArray.size]! : Value)) = Z at hz ⊢
    have := sK E ev sz parts.toList 0 [] Z.toList cs dB (by simp [hps, hz]) hv0
    simpa using this
  have key : (Instr.buildSlice t n (parts.map fun (i, x) => (i, ev E x))).run P w = .ok (.slice (some ⟨w.heap.size, 0, none⟩) n n) (w.alloc (.cells cs.toArray e)) := by
    unfold Instr.buildSlice
    simp only [Sem.run_bind, run_underlying h.und, Result.andThen_ok, h.size, if_neg hle]
    by_cases h0 : n * sz = 0
    · have hz : ((Array.range (n * sz)).map (fun x => ((#[] : Array Value)[x % (#[] : Array Value).size]! : Value))) = ((Array.range (n * sz)).map (zs.toArray[· % zs.toArray.size]!)) := by
        rw [h0]; apply Array.ext <;> simp
      rw [if_pos h0, Sem.run_bind, Sem.run_pure, Result.andThen_ok, hz]
      have hv' := hv
      simp only at hv'
      rw [hv']
      rfl
    · rw [if_neg h0]
      simp only [Sem.run_bind, zeroValue, typeInfo, run_program, hi, e3, e4, Sem.run_pure, Result.andThen_ok]
      have hv' := hv
      simp only at hv'
      rw [hv']
      rfl
  simp only [nG, execOp, Sem.run_bind, key, Result.andThen_ok]
  rfl

/-- make([]T, n): whole cells of zeros. -/
theorem gw_make {t e : TypeId} {l c : Operand} {k k' : IntKind} {n : Nat} {by_ : Nat} {z : Value} [h : TyL P t e 1 by_ [z]] (hl : ev E l = .int k (n : Int)) (hc : ev E c = .int k' (n : Int)) (hn : by_ * n ≤ 281474976710656) (hn2 : n ≤ 281474976710656)
    (kk : ∀ b, K (.slice (some ⟨b, 0, none⟩) n n) (.blk b (List.replicate n z) e :: H) R) : GW P w0 E (.makeSlice t l c) ty H R K := fun w hs => by
  obtain ⟨i, z', hi, e1, e2, e3, e4, hna⟩ := h.info
  refine ⟨_, _, _, R, .inl ?_, hs.alloc (List.replicate n z) e, kk _⟩
  have hone : z' = z := by
    cases z' with
    | agg cs => simp [Value.cells] at e4; subst e4; exact absurd rfl (hna rfl _)
    | _ => simp [Value.cells] at e4; exact e4
  subst hone
  have key := run_make_row' (P := P) t e z' by_ h.und (by rw [hi]; simp [e1, e2, e3]) e4 k k' n hn aO w
  have hcell : madeCells #[z'] n = (List.replicate n z').toArray := by
    apply Array.ext
    · simp [size_madeCells]
    · intro j h1 h2
      simp [madeCells, Nat.mod_one]
  rw [hcell] at key
  simp only [nG, execOp, hl, hc, Sem.run_bind, key, Result.andThen_ok]
  rfl

/-! ### append -/
theorem sS (w : World) (t ty e : TypeId) (sz : Nat) (hu : P.underlying t = some (.slice e)) (hs : ∀ w, (sizeOf e).run P w = .ok sz w) (base : Option Addr) (n cap : Nat) (hle : n ≤ cap) (A : Option Addr) (c : Nat) :
    (Builtin.append_ #[t, t] ty #[.slice base n cap, .slice A 0 c]).run P w = .ok (.slice base n cap) w := by
  have hfc : (Builtin.firstCells sz 0 (.slice A 0 c)).run P w = .ok #[] w := by
    cases A with
    | none => rfl
    | some a => simp [Builtin.firstCells, loadCells, loadCellsFrom]
  unfold Builtin.append_
  simp only [List.getElem?_toArray, List.getElem?_cons_zero, List.getElem?_cons_succ, Sem.run_bind, run_underlying hu, Result.andThen_ok, hs, Sem.run_pure, Builtin.lenOf, Nat.add_zero]
  simp [hle, hfc, storeCells]
  cases base <;> rfl
theorem oG {t e : TypeId} {s x : Operand} {i n m c sz by_ : Nat} {zs cs news : List Value} {v : Value} {A : Option Addr} [h : TyL P t e sz by_ zs] (hs : ev E s = v) (hx : ev E x = .slice A m c) (hi : H[i]? = some (.row v e sz n cs))
    (hsz : 0 < sz) (hl : news.length = m * sz) (hsrc : ∀ w, S w0 w H R → 0 < m → ∃ a, A = some a ∧ ∀ j u, news[j]? = some u → w.cell? (a.add j) = some u) (h1 : ∀ u ∈ news, u.oneCell' = true)
    (hby : (n + m) * by_ ≤ 140737488355328) (hnm : n + m ≤ 140737488355328)
    (kk : ∀ v', K v' (H.set i (.row v' e sz (n + m) (cs ++ news))) R) : GW P w0 E (.call ⟨.builtin .append, #[s, x], #[t, t]⟩) ty H R K := fun w hw => by
  obtain ⟨ti, z, hti, e1, e2, e3, e4, _⟩ := h.info
  have hrow : w.ownsRow w0.heap.size e sz v n cs := by
    obtain ⟨s, hok⟩ := hw
    exact (hok.hp _ (List.mem_of_getElem? hi)).1
  have hbase : w0.heap.size ≤ w.heap.size := hw.below.size
  have fin : ∀ v' w', (Builtin.append_ #[t, t] ty #[v, .slice A m c]).run P w = .ok v' w' → S w0 w' (H.set i (.row v' e sz (n + m) (cs ++ news))) R → ∃ v w' H' R', ((nG E (.call ⟨.builtin .append, #[s, x], #[t, t]⟩) ty).run P w = .ok (.value v) w' ∨ (nG E (.call ⟨.builtin .append, #[s, x], #[t, t]⟩) ty).run P w = .ok .skip w' ∧ v = undef) ∧ S w0 w' H' R' ∧ K v H' R' := fun v' w' hr hs' =>
    ⟨v', w', _, _, .inl (by simp [nG, execOp, resolve, invoke, builtin, hs, hx, hr]), hs', kk v'⟩
  have hzl : zs.length = sz := h.len
  rcases Nat.eq_zero_or_pos m with h0 | h0
  · subst h0
    have hnil : news = [] := List.eq_nil_of_length_eq_zero (by simpa using hl)
    subst hnil
    refine fin v w ?_ ?_
    · have hsmall : ∃ base cap, v = .slice base n cap ∧ n ≤ cap := by
        rcases hrow.2 with ⟨rfl, rfl⟩ | ⟨g, cap, cur, rfl, _, _, h3, _⟩
        · exact ⟨none, 0, rfl, by omega⟩
        · exact ⟨_, cap, rfl, h3⟩
      obtain ⟨base, cap, rfl, hle⟩ := hsmall
      exact sS (P := P) w t ty e sz h.und (fun w => h.size w) base n cap hle A c
    · have : S w0 w (H.set i (.row v e sz (n + 0) (cs ++ []))) R := by
        have e : H.set i (.row v e sz (n + 0) (cs ++ [])) = H := by
          simp only [Nat.add_zero, List.append_nil]
          obtain ⟨hlt, he⟩ := List.getElem?_eq_some_iff.1 hi
          rw [← he]; exact List.set_getElem_self hlt
        rw [e]; exact hw
      exact this
  · obtain ⟨a, rfl, hc⟩ := hsrc w hw h0
    obtain ⟨v', w', hr, ho, hg, _, hb⟩ := run_append_own_at (P := P) w w0.heap.size t ty e ti z sz by_ h.und hti e3 e1 e2 (by rw [e4]; simpa using hzl) hsz v n cs hrow a m c news hl hc h1 (by simp only [maxLen]; omega) hby hbase
    refine fin v' w' hr (hw.grow hi hg ho ?_)
    rcases hb with hb | hb
    · exact .inr (.inl hb)
    · exact .inr (.inr ⟨_, hb, Nat.le_refl _⟩)
end
end Go.Proofs.YtggdljhmbckpmaaGreat
namespace Go.Proofs.YtggdljhmbckpmaaGreat
open Go Go.RowKit
attribute [local semireducible] T TC En PW GW OW CallsK CallsP Sl Rd Ls At S

def t4 (E : List Value) (d : Int) : Option Operand → Option Int
  | none => some d
  | some o => match ev E o with | .int _ i => some i | _ => none

section
variable {P : Program} {w0 : World} {E : List Value} {H : List Hp} {R : List MP} {ty : TypeId} {K : Value → List MP → Prop}

theorem sN (isS : Bool) (n c : Nat) (lo hi : Option Operand) (l h : Int) (hl : t4 E 0 lo = some l) (hh : t4 E n hi = some h) (h0 : 0 ≤ l) (h1 : l ≤ h) (h2 : h ≤ c) (w : World) :
    (Instr.sliceBounds isS n c (lo.map (ev E)) (hi.map (ev E)) none).run P w = .ok (l.toNat, h.toNat, c) w := by
  have hlow : ∀ o, lo = some o → ∃ k, ev E o = .int k l := fun o ho => by
    subst ho
    simp only [t4] at hl
    cases he : ev E o <;> rw [he] at hl <;> simp at hl
    subst hl; exact ⟨_, rfl⟩
  have hhigh : ∀ o, hi = some o → ∃ k, ev E o = .int k h := fun o ho => by
    subst ho
    simp only [t4] at hh
    cases he : ev E o <;> rw [he] at hh <;> simp at hh
    subst hh; exact ⟨_, rfl⟩
  have hb1 : 0 ≤ h ∧ h ≤ (c : Int) := by omega
  have hb2 : 0 ≤ l ∧ l ≤ (h.toNat : Int) := by omega
  cases lo with
  | none =>
    simp [t4] at hl; subst hl
    cases hi with
    | none => simp [t4] at hh; subst hh; simp [Instr.sliceBounds]
    | some o' =>
      obtain ⟨k', e'⟩ := hhigh _ rfl
      simp [Instr.sliceBounds, Instr.sliceBound, asIntOf, e', hb1]
  | some o =>
    obtain ⟨k, e⟩ := hlow _ rfl
    cases hi with
    | none =>
      simp [t4] at hh; subst hh
      have hb3 : 0 ≤ l ∧ l ≤ (n : Int) := by omega
      simp [Instr.sliceBounds, Instr.sliceBound, asIntOf, e, hb3]
    | some o' =>
      obtain ⟨k', e'⟩ := hhigh _ rfl
      have hb4 : 0 ≤ l ∧ l ≤ max h 0 := by omega
      simp [Instr.sliceBounds, Instr.sliceBound, asIntOf, e, e', hb1, hb4]

theorem xH {t e : TypeId} {x : Operand} {lo hi : Option Operand} {sz by_ : Nat} {zs : List Value} [ht : TyL P t e sz by_ zs] {A : Option Addr} {n c : Nat} {l h : Int} (hx : ev E x = .slice A n c) (hl : t4 E 0 lo = some l) (hh : t4 E n hi = some h)
    (h0 : 0 ≤ l) (h1 : l ≤ h) (h2 : h ≤ c) (kk : K (.slice (if c = l.toNat then A else A.map (·.add (l.toNat * sz))) (h.toNat - l.toNat) (c - l.toNat)) R) : PW P w0 E (.slice t x lo hi none) ty H R K :=
  fS rfl (fun w _ => by
    rw [hx]
    simp only [Instr.sliceAt, Instr.slice, Sem.run_bind, run_underlying ht.und, Result.andThen_ok, Option.map_none, sN true n c lo hi l h hl hh h0 h1 h2, ht.size, Sem.run_pure]) kk

theorem Addr.add_mk (b o n : Nat) : (⟨b, o, none⟩ : Addr).add n = ⟨b, o + n, none⟩ := by unfold Addr.add; split <;> simp_all

theorem sl_cut {α : Type} [Rep α] {A : Option Addr} {n c : Nat} {xs : List α} (hm : Sl (.slice A n c) xs ∈ R) (l h : Nat) (h1 : l ≤ h) (h2 : h ≤ xs.length) {s : Sto} (hR : ∀ q ∈ R, q.p s) :
    (Sl (.slice (if c = l then A else A.map (·.add (l * Rep.size α))) (h - l) (c - l)) ((xs.take h).drop l)).p s := by
  obtain ⟨A', c', e1, ⟨e2, e3⟩, e4⟩ := hR _ hm
  injection e1 with e1 e5 e6
  subst e1; subst e6; subst e5
  have hlen : ((xs.take h).drop l).length = h - l := by simp; omega
  refine ⟨_, _, by rw [hlen], ⟨by rw [hlen]; omega, by omega⟩, fun hp => ?_⟩
  rw [hlen] at hp
  obtain ⟨b, o, rfl, hb⟩ := e4 aO
  have hne : ¬ c = l := by omega
  rw [if_neg hne]
  refine ⟨b, o + l * Rep.size α, by simp [Addr.add_mk], fun i x hi => ?_⟩
  have hi' : xs[l + i]? = some x := by
    rw [List.getElem?_drop, List.getElem?_take] at hi
    split at hi
    · exact hi
    · cases hi
  obtain ⟨cs, r1, r2⟩ := hb (l + i) x hi'
  refine ⟨cs, r1, fun j v hj => ?_⟩
  have := r2 j v hj
  rw [Nat.add_mul] at this
  rw [show o + l * Rep.size α + i * Rep.size α + j = o + (l * Rep.size α + i * Rep.size α) + j by omega]
  exact this

theorem fY {α : Type} [Rep α] {t e : TypeId} {x : Operand} {lo hi : Option Operand} {sz by_ : Nat} {zs : List Value} [ht : TyL P t e sz by_ zs] {A : Option Addr} {n c : Nat} {xs : List α} {l h : Int} (hx : ev E x = .slice A n c) (hm : Sl (.slice A n c) xs ∈ R) (hn : n = xs.length) (hsz : Rep.size α = sz) (hl : t4 E 0 lo = some l) (hh : t4 E n hi = some h)
    (h0 : 0 ≤ l) (h1 : l ≤ h) (h2 : h ≤ xs.length) (kk : ∀ A' c', K (.slice A' (h.toNat - l.toNat) c') (Sl (.slice A' (h.toNat - l.toNat) c') ((xs.take h.toNat).drop l.toNat) :: R)) : PW P w0 E (.slice t x lo hi none) ty H R K := fun w s hs => by
  have hc : xs.length ≤ c := by
    obtain ⟨A', c', e1, e2, _⟩ := xC ⟨s, hs⟩ hm
    injection e1 with _ _ e3; omega
  subst hsz
  refine PW.learn _ (fun p hp => List.mem_cons_of_mem _ hp) (fun s hR p hp => ?_)
    (xH hx hl hh h0 h1 aO (kk _ _)) w s hs
  rcases List.mem_cons.1 hp with rfl | hp
  · exact sl_cut hm l.toNat h.toNat aO aO hR
  · exact hR p hp

/-! ### strings -/
theorem S.sl_bytes {w : World} (hs : S w0 w H R) {A : Option Addr} {n c : Nat} {xs : List UInt8} (hm : Sl (.slice A n c) xs ∈ R) : n = xs.length ∧ (0 < n → ∃ b o, A = some ⟨b, o, none⟩ ∧ ∀ j u, (bC xs)[j]? = some u → w.cell? ⟨b, o + j, none⟩ = some u) := by
  obtain ⟨s, h⟩ := hs
  obtain ⟨A', c', e1, _, e4⟩ := h.rd _ hm
  injection e1 with e1 e5 e6
  subst e1; subst e5; subst e6
  refine ⟨rfl, fun hp => ?_⟩
  obtain ⟨b, o, rfl, hb⟩ := e4 hp
  refine ⟨b, o, rfl, fun j u hj => ?_⟩
  simp only [bC, List.getElem?_map, Option.map_eq_some_iff] at hj
  obtain ⟨x, hx, rfl⟩ := hj
  obtain ⟨cs, r1, r2⟩ := hb j x hx
  have r1' : cs = [fH x] := r1
  subst r1'
  have := h.st _ _ _ (r2 0 _ rfl)
  simpa [Rep.size] using this

def rG (xs : List UInt8) : ByteArray := ⟨xs.toArray⟩
theorem vS {s e d : TypeId} {x : Operand} {A : Option Addr} {n c : Nat} {xs : List UInt8} [hs : TyU P s (.slice e)] [he : TyU P e (.int .u8)] [hd : TyU P d .string] (hx : ev E x = .slice A n c) (hm : Sl (.slice A n c) xs ∈ R) (kk : K (.string (rG xs)) R) : PW P w0 E (.convert s d x) ty H R K :=
  fS rfl (fun w hw => by
    rw [hx]
    obtain ⟨hn, hc⟩ := hw.sl_bytes hm
    rcases Nat.eq_zero_or_pos n with h0 | h0
    · have : xs = [] := List.eq_nil_of_length_eq_zero aO
      subst this
      cases A with
      | none => rw [run_convert_bytes_nil (P := P) w s e hs.und he.und n c d hd.und]; rfl
      | some a =>
        obtain ⟨b, o, sp⟩ := a
        subst h0
        simp only [convert, Sem.run_bind, run_underlying hs.und, run_underlying hd.und, run_underlying he.und, Result.andThen_ok, Conv.bytesToString]
        simp [loadCells, loadCellsFrom]
        rfl
    · obtain ⟨b, o, rfl, hcell⟩ := hc h0
      have := run_convert_bytes_arg (P := P) w s e hs.und he.und b o n c (xs.map fun c => (c.toNat : Int)) (by simpa using hn.symm) (fun i hi => by
        rw [hcell i (fH (xs[i]'aO)) (by simp [bC, List.getElem?_eq_getElem (show i < xs.length by omega)])]
        simp [fH, List.getD, List.getElem?_eq_getElem (show i < xs.length by omega)]) d hd.und
      rw [this]
      congr 2
      simp only [strOfNums, rG, List.map_map]
      congr 2
      exact (List.map_congr_left (fun c _ => by simp)).trans (List.map_id xs)) kk
end

/-! ### copy -/
section
variable {P : Program} {w0 : World} {E : List Value} {H : List Hp} {R : List MP} {ty : TypeId} {K : Value → List Hp → List MP → Prop}
theorem rR {w : World} (hs : S w0 w H R) {A : Option Addr} {n c : Nat} {xs : List UInt8} (hm : Sl (.slice A n c) xs ∈ R) (k : Nat) (hk : k ≤ n) :
    (Builtin.firstCells 1 k (.slice A n c)).run P w = .ok (bC (xs.take k)).toArray w := by
  obtain ⟨hn, hc⟩ := hs.sl_bytes hm
  rcases Nat.eq_zero_or_pos k with h0 | h0
  · subst h0
    cases A with
    | none => rfl
    | some a => simp [Builtin.firstCells, loadCells, loadCellsFrom, bC]
  · obtain ⟨b, o, rfl, hcell⟩ := hc aO
    have := run_loadCells_list (P := P) w ⟨b, o, none⟩ (bC (xs.take k)) (fun j v hj => by
      rw [Addr.add_mk]
      refine hcell j v ?_
      simp only [bC, List.map_take, List.getElem?_take] at hj
      split at hj
      · exact hj
      · cases hj)
    have hl : (bC (xs.take k)).length = k := by simp; omega
    rw [hl] at this
    simpa [Builtin.firstCells] using this

theorem rC {t e : TypeId} {d s : Operand} {i dn dc b o n c : Nat} {A : Option Addr} {zs cs : List Value} {T : TypeId} {by_ : Nat} {xs : List UInt8} [h : TyL P t e 1 by_ zs] (hd : ev E d = .slice (some ⟨b, o, none⟩) dn dc) (hx : ev E s = .slice A n c) (hm : Sl (.slice A n c) xs ∈ R) (hi : H[i]? = some (.blk b cs T))
    (hroom : 0 < dn → o + dn ≤ cs.length) (kk : K (.int .i64 (min n dn : Nat)) (H.set i (.blk b (gL cs o (bC (xs.take dn))) T)) R) : GW P w0 E (.call ⟨.builtin .copy, #[d, s], #[t, t]⟩) ty H R K := fun w hs => by
  obtain ⟨hn, _⟩ := hs.sl_bytes hm
  have hfc := rR (P := P) hs hm (Nat.min n dn) (Nat.min_le_left _ _)
  have htk : xs.take (Nat.min n dn) = xs.take dn := by
    rw [hn]
    rcases Nat.le_total xs.length dn with hle | hle
    · rw [show Nat.min xs.length dn = xs.length from Nat.min_eq_left hle, List.take_of_length_le hle, List.take_length]
    · rw [show Nat.min xs.length dn = dn from Nat.min_eq_right hle]
  rw [htk] at hfc
  have hb := (hs.blk_heap hi).1
  have fin : ∀ w', (storeCells ⟨b, o, none⟩ (bC (xs.take dn))).run P w = .ok () w' → (nG E (.call ⟨.builtin .copy, #[d, s], #[t, t]⟩) ty).run P w = .ok (.value (.int .i64 (min n dn : Nat))) w' := fun w' hw' => by
    simp only [nG, execOp, resolve, invoke, builtin, Builtin.copy_, List.map_toArray, List.map_cons, List.map_nil, List.getElem?_toArray, List.getElem?_cons_zero, List.getElem?_cons_succ, hd, hx, Sem.run_bind, Sem.run_pure, Result.andThen_ok, run_underlying h.und, Builtin.lenOf, h.size, hfc, hw']
    rfl
  by_cases h0 : (xs.take dn).length = 0
  · have hnil : xs.take dn = [] := List.eq_nil_of_length_eq_zero h0
    refine ⟨_, w, _, R, .inl (fin w (by rw [hnil]; rfl)), ?_, kk⟩
    have he : gL cs o (bC (xs.take dn)) = cs := by rw [hnil]; simp [gL, bC]
    rw [he]
    have e2 : H.set i (.blk b cs T) = H := by
      obtain ⟨hlt, e⟩ := List.getElem?_eq_some_iff.1 hi
      rw [← e]; exact List.set_getElem_self hlt
    rw [e2]; exact hs
  · have hlen : (xs.take dn).length ≤ dn := List.length_take_le _ _
    have hst := run_storeCells_at (P := P) b o T (bC (xs.take dn)) 0 cs.toArray w hb (by simp only [uF, List.size_toArray, Nat.add_zero]; have := hroom aO; omega) (mX _)
    refine ⟨_, _, _, R, .inl (fin _ hst), ?_, kk⟩
    have := hs.setRow hi (gL cs o (bC (xs.take dn)))
    simpa [gL] using this
end

/-! ### the ends -/
section
variable {F : Fence} {n : Nat} {P : Program} {w0 : World} {D : List Deferred} {ops : Array Oper} {Q : Exit → Act → World → Prop} {rest : List Oper} {E : List Value} {H : List Hp} {R : List MP}
def rvS (tmps : Array Value) (rv : ResultVar) : Sem Value := match rv with | .tmp t => pure (tmps.getD t undef) | .cell a t => do loadVar t (← asAddr (tmps.getD a undef))
theorem lM (fn : Func) (tmps : Array Value) : results fn tmps = (fn.results.mapM (rvS tmps) >>= fun vs => pure (if h : vs.size = 1 then vs[0] else .tuple vs)) := rfl
def RV (P : Program) (w0 : World) (E : List Value) (H : List Hp) (R : List MP) (rv : ResultVar) (v : Value) : Prop :=
  ∀ w, S w0 w H R → (rvS E.toArray rv).run P w = .ok v w
theorem bR {t : Tmp} {v : Value} (h : E.getD t undef = v) : RV P w0 E H R (.tmp t) v := fun w _ => by simp [rvS, ← h]
theorem dC {a : Tmp} {t : TypeId} {agg : Bool} {sz by_ : Nat} {z : Value} [h : Ty P t agg sz by_ z] {i b o : Nat} {cs : List Value} {T : TypeId} {v : Value} (hx : E.getD a undef = .pointer (some ⟨b, o, none⟩)) (hi : H[i]? = some (.blk b cs T)) (hv : iM agg sz cs o = some v) : RV P w0 E H R (.cell a t) v := fun w hs => by
  have := mV (P := P) (t := t) (o := 0) (k := o) (hs.blk_cells hi) hv
  simp only [Nat.zero_add, Instr.loadAt, Instr.sureAddr, Sem.run_bind, Sem.run_pure, Result.andThen_ok] at this
  have e : E.toArray.getD a undef = .pointer (some ⟨b, o, none⟩) := by simpa using hx
  simp only [rvS, e, Sem.run_bind, asAddr, Sem.run_pure, Result.andThen_ok]
  exact this
theorem aZ {fn : Func} {Rp : Ending → World → Prop} {e : Exit} (he : e = .ret ∨ e = .normal) {v : Value} (hr : ∀ w, S w0 w H R → (results fn E.toArray).run P w = .ok v w) (hR : ∀ w, S w0 w H R → Rp (.returned v) w) : En w0 [] (bodyPost P fn Rp) e E H R := fun w hs => by
  rcases he with rfl | rfl <;> exact ⟨rfl, v, hr w hs, hR w hs⟩
theorem gQ {fn : Func} (h : fn.results = #[]) : ∀ w, S w0 w H R → (results fn E.toArray).run P w = .ok (.tuple #[]) w := fun w _ => by simp [results, h]
theorem dP {fn : Func} {r : ResultVar} {v : Value} (h : fn.results = #[r]) (h1 : RV P w0 E H R r v) : ∀ w, S w0 w H R → (results fn E.toArray).run P w = .ok v w := fun w hs => by
  simp [lM, h, h1 w hs]
theorem iN {fn : Func} {r r' : ResultVar} {v v' : Value} (h : fn.results = #[r, r']) (h1 : RV P w0 E H R r v) (h2 : RV P w0 E H R r' v') : ∀ w, S w0 w H R → (results fn E.toArray).run P w = .ok (.tuple #[v, v']) w := fun w hs => by
  simp [lM, h, h1 w hs, h2 w hs]
theorem res3 {fn : Func} {r r' r2 : ResultVar} {v v' v2 : Value} (h : fn.results = #[r, r', r2]) (h1 : RV P w0 E H R r v) (h2 : RV P w0 E H R r' v') (h3 : RV P w0 E H R r2 v2) : ∀ w, S w0 w H R → (results fn E.toArray).run P w = .ok (.tuple #[v, v', v2]) w := fun w hs => by
  simp [lM, h, h1 w hs, h2 w hs, h3 w hs]
theorem cA {v : Value} {K : Value → List Hp → List MP → Prop} (H' : List Hp) (R' : List MP) (hw : ∀ w, S w0 w H R → S w0 w H' R') (hk : K v H' R') : ∀ w, S w0 w H R → (∃ u H' R', Ending.returned v = .returned u ∧ S w0 w H' R' ∧ K u H' R') := fun w hs => ⟨v, H', R', rfl, hw w hs, hk⟩
theorem sV [Wd F] {dst : Option Tmp} {x : Operand} {ty : TypeId} {pos : String} {aft : Array Edge} {g : Option (Nat × Bool)} (hw : Region.wanted ⟨dst, .panic x, ty, pos, aft, g⟩ (yielded ops E.toArray) = true) {t : TypeId} {v : Value} (hx : ev E x = .iface t v) (h : En w0 D Q (.panic [{ v := .iface t v, recovered := false }]) E H R) :
    T F n P w0 D ops Q (⟨dst, .panic x, ty, pos, aft, g⟩ :: rest) E H R := fun w hs => by
  unfold wpListIn
  rw [if_pos (by simpa [jR] using hw)]
  refine ⟨hX, ?_⟩
  rw [jZ (by intro c e; cases e)]
  have : (nG E (.panic x) ty).run P w = .halt (.panic (.iface t v)) w := by simp [nG, execOp, hx, Instr.panic]
  rw [this]
  exact h w hs
theorem aR {fn : Func} {Rp : Ending → World → Prop} {ch : List PanicEntry} (hR : ∀ w, S w0 w H R → Rp (.panicked ch) w) : En w0 [] (bodyPost P fn Rp) (.panic ch) E H R := fun w hs => ⟨rfl, hR w hs⟩
end
end Go.Proofs.YtggdljhmbckpmaaGreat
