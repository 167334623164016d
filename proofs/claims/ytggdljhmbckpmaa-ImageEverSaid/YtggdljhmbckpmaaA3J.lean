/- The rules for operations that only read and reckon. The rules for operations that make or turn memory; the ends of bodies. -/
import Derived.Test.YtggdljhmbckpmaaA2
import Derived.LoadGo3
import Derived.Maps.AppendAt
import Derived.Lib.AppendStr
import Derived.Laws.BytesArg
import Derived.Laws.MakeOwn
import Derived.Lib.ConvBytes
import Derived.Deep.OwnRows
set_option linter.unusedVariables false
set_option linter.unusedSimpArgs false
namespace Go.Proofs.Ytggdljhmbckpmaa
open Go Go.RowKit
attribute [local semireducible] T TC En PW GW OW CallsK CallsP Sl Rd Ls At S

/-! ### 0. What is known of a program's types -/
class TyU (P : Program) (t : TypeId) (d : outParam TypeDesc) : Prop where
  und : P.underlying t = some d
class Ty (P : Program) (t : TypeId) (agg : outParam Bool) (sz by_ : outParam Nat) (z : outParam Value) : Prop where
  info : (P.info? t).map (fun i => (i.size, i.bytes, i.zero)) = some (sz, by_, some z)
  agg : ∀ w, (isAgg t).run P w = .ok agg w
class TyF (P : Program) (t : TypeId) (f : Nat) (off ft : outParam Nat) : Prop where
  addr : ∀ b o w, (Instr.fieldAt t (.pointer (some ⟨b, o, none⟩)) f).run P w = .ok (.pointer (some ⟨b, o + off, none⟩)) w
  fld : ∃ fs : Array Field, P.underlying t = some (.struct fs) ∧ ∃ fd : Field, fs[f]? = some fd ∧ fd.offset = off ∧ fd.type = ft
/-- A struct's zero cells, and of each field its offset and size. -/
class TyB (P : Program) (t : TypeId) (zs : outParam (List Value)) (pl : outParam (Array (Nat × Nat))) : Prop where
  build : ∀ (parts : Array (Nat × Value)) (cells : Array Value) (w : World), Instr.fill (pl[·]?) zs.toArray parts.toList = some cells → (Instr.build t parts).run P w = .ok (.agg cells) w

section
variable {P : Program}
theorem Ty.size {t : TypeId} {agg : Bool} {sz by_ : Nat} {z : Value} [h : Ty P t agg sz by_ z] (w : World) : (sizeOf t).run P w = .ok sz w := by
  obtain ⟨i, hi, e⟩ := Option.map_eq_some_iff.1 h.info
  simp only [Prod.mk.injEq] at e
  simp [sizeOf, typeInfo, hi, e.1]
theorem Ty.zero {t : TypeId} {agg : Bool} {sz by_ : Nat} {z : Value} [h : Ty P t agg sz by_ z] (w : World) : (zeroValue t).run P w = .ok z w := by
  obtain ⟨i, hi, e⟩ := Option.map_eq_some_iff.1 h.info
  simp only [Prod.mk.injEq] at e
  simp [zeroValue, typeInfo, hi, e.2.2]
theorem isAgg_of {t : TypeId} {d : TypeDesc} (h : P.underlying t = some d) (w : World) : (isAgg t).run P w = .ok (match d with | .struct _ | .array _ _ => true | _ => false) w := by
  simp only [isAgg, Sem.run_bind, run_underlying h, Result.andThen_ok]
  cases d <;> rfl
theorem fieldAt_of {t : TypeId} {fs : Array Field} {f : Nat} {fd : Field} (h : P.underlying t = some (.struct fs)) (hf : fs[f]? = some fd) {sz : Nat} (hs : ∀ w, (sizeOf fd.type).run P w = .ok sz w) (h0 : sz ≠ 0) (b o : Nat) (w : World) :
    (Instr.fieldAt t (.pointer (some ⟨b, o, none⟩)) f).run P w = .ok (.pointer (some ⟨b, o + fd.offset, none⟩)) w := by
  have : (⟨b, o, none⟩ : Addr).add fd.offset = ⟨b, o + fd.offset, none⟩ := by unfold Addr.add; split <;> simp_all
  simp [Instr.fieldAt, run_underlying h, hf, Instr.sureAddr, fieldPlace, hs, h0, this]
theorem tyF_of {t : TypeId} {fs : Array Field} {f off ft sz : Nat} (h : P.underlying t = some (.struct fs)) (hf : (fs[f]?).map (fun fd => (fd.offset, fd.type)) = some (off, ft)) (hs : ∀ w, (sizeOf ft).run P w = .ok sz w) (h0 : sz ≠ 0) : TyF P t f off ft := by
  obtain ⟨fd, h1, h2⟩ := Option.map_eq_some_iff.1 hf
  simp only [Prod.mk.injEq] at h2
  obtain ⟨rfl, rfl⟩ := h2
  exact ⟨fun b o w => fieldAt_of h h1 hs h0 b o w, fs, h, fd, h1, rfl, rfl⟩
end

def cellsVal (agg : Bool) (sz : Nat) (cs : List Value) (o : Nat) : Option Value :=
  match agg with
  | false => cs[o]?
  | true => if o + sz ≤ cs.length then some (.agg ((cs.drop o).take sz).toArray) else none

section
variable {P : Program} {w0 : World} {E : List Value} {H : List Hp} {R : List MP} {ty : TypeId} {K : Value → List MP → Prop}

theorem pw_val {op : Op} {s : Sem Value} {v : Value} (hx : xop E op ty = (s >>= fun v => pure (.value v))) (hr : ∀ w, S w0 w H R → s.run P w = .ok v w) (k : K v R) : PW P w0 E op ty H R K :=
  fun w s hs => ⟨v, R, fun w' hs' => by rw [hx]; simp [hr w' hs'], fun _ h => h, hs.rd, k⟩
/-- More is learned first. -/
theorem PW.learn {op : Op} (R' : List MP) (hR : ∀ p ∈ R, p ∈ R') (hw : ∀ s : Sto, (∀ p ∈ R, p.p s) → ∀ p ∈ R', p.p s) (h : PW P w0 E op ty H R' K) : PW P w0 E op ty H R K := fun w s hs => by
  obtain ⟨v, R2, h1, h2, h3, h4⟩ := h w s (hs.more (hw s hs.rd))
  exact ⟨v, R2, h1, fun p hp => h2 p (hR p hp), h3, h4⟩

theorem pw_move {x : Operand} {v : Value} (hx : ev E x = v) (k : K v R) : PW P w0 E (.move x) ty H R K := fun w s hs => ⟨_, R, fun _ _ => (by simp [xop, execOp, hx]), fun _ h => h, hs.rd, k⟩
theorem pw_assign {x : Operand} {v : Value} (hx : ev E x = v) (k : K v R) : PW P w0 E (.assign x) ty H R K := fun w s hs => ⟨_, R, fun _ _ => (by simp [xop, execOp, hx]), fun _ h => h, hs.rd, k⟩
theorem pw_pick_t {c a b : Operand} {v : Value} (hc : ev E c = .bool true) (ha : ev E a = v) (k : K v R) : PW P w0 E (.pick c a b) ty H R K := fun w s hs =>
  ⟨_, R, fun w' _ => by simp [xop, execOp, hc, ha, asBool], fun _ h => h, hs.rd, k⟩
theorem pw_pick_f {c a b : Operand} {v : Value} (hc : ev E c = .bool false) (hb : ev E b = v) (k : K v R) : PW P w0 E (.pick c a b) ty H R K := fun w s hs =>
  ⟨_, R, fun w' _ => by simp [xop, execOp, hc, hb, asBool], fun _ h => h, hs.rd, k⟩
theorem pw_nilCheck {x : Operand} {a : Addr} (hx : ev E x = .pointer (some a)) (k : K (.pointer (some a)) R) : PW P w0 E (.nilCheck x) ty H R K := fun w s hs =>
  ⟨_, R, fun w' _ => by simp [xop, execOp, hx], fun _ h => h, hs.rd, k⟩
theorem pw_fieldAddr {s : TypeId} {x : Operand} {f b o off ft : Nat} [h : TyF P s f off ft] (hx : ev E x = .pointer (some ⟨b, o, none⟩)) (k : K (.pointer (some ⟨b, o + off, none⟩)) R) : PW P w0 E (.fieldAddr s x f) ty H R K :=
  pw_val rfl (fun w _ => by rw [hx]; exact h.addr b o w) k
theorem pw_extract {x : Operand} {i : Nat} {vs : Array Value} {v : Value} (hx : ev E x = .tuple vs) (hv : vs[i]? = some v) (k : K v R) : PW P w0 E (.extract x i) ty H R K :=
  pw_val rfl (fun w _ => by rw [hx]; simp [Instr.extract, hv]) k
theorem pw_field {s : TypeId} {x : Operand} {f off ft sz by_ : Nat} {agg : Bool} {z v : Value} {cs : List Value} [h : TyF P s f off ft] [ht : Ty P ft agg sz by_ z] (hx : ev E x = .agg cs.toArray) (hv : cellsVal agg sz cs off = some v) (k : K v R) : PW P w0 E (.field s x f) ty H R K :=
  pw_val rfl (fun w _ => by
    rw [hx]
    obtain ⟨fs, h1, fd, h2, h3, h4⟩ := h.fld
    subst h4; subst h3
    cases agg with
    | false =>
      simp only [cellsVal] at hv
      simp [Instr.field, run_underlying h1, h2, asAgg, part, ht.agg, hv]
    | true =>
      simp only [cellsVal] at hv
      split at hv
      · cases hv
        simp [Instr.field, run_underlying h1, h2, asAgg, part, ht.agg, ht.size]
      · cases hv) k
theorem pw_makeInterface {t : TypeId} {x : Operand} {d : TypeDesc} [h : TyU P t d] (hd : (match d with | .interface _ => false | _ => true) = true) (k : K (.iface t (ev E x)) R) : PW P w0 E (.makeInterface t x) ty H R K :=
  pw_val rfl (fun w _ => by
    simp only [Instr.makeInterface, Sem.run_bind, run_underlying h.und, Result.andThen_ok]
    cases d <;> first | rfl | cases hd) k
theorem pw_makeFunc {fn : Fn} {first cap : Array Operand} (k : K (.func fn (first.map (ev E)) (cap.map (ev E))) R) : PW P w0 E (.makeFunc fn first cap) ty H R K :=
  pw_val rfl (fun w _ => rfl) k
/-! ### loads -/
theorem loadAt_cells {t : TypeId} {agg : Bool} {sz by_ : Nat} {z : Value} [h : Ty P t agg sz by_ z] {w : World} {b o : Nat} {cs : List Value} {k : Nat} {v : Value} (hc : ∀ j u, cs[j]? = some u → w.cell? ⟨b, o + j, none⟩ = some u) (hv : cellsVal agg sz cs k = some v) :
    (Instr.loadAt t (.pointer (some ⟨b, o + k, none⟩))).run P w = .ok v w := by
  cases agg with
  | false =>
    simp only [cellsVal] at hv
    simp [Instr.loadAt, Instr.sureAddr, loadVar, h.agg, hc k v hv]
  | true =>
    simp only [cellsVal] at hv
    split at hv
    · rename_i hle
      cases hv
      have hl : ((cs.drop k).take sz).length = sz := by simp; omega
      have := run_loadCells_list (P := P) w ⟨b, o + k, none⟩ ((cs.drop k).take sz) (fun j u hj => by
        have ha : (⟨b, o + k, none⟩ : Addr).add j = ⟨b, o + (k + j), none⟩ := by unfold Addr.add; split <;> simp_all [Nat.add_assoc]
        rw [ha]
        refine hc _ _ ?_
        rw [List.getElem?_take] at hj
        split at hj
        · simpa using hj
        · cases hj)
      rw [hl] at this
      simp [Instr.loadAt, Instr.sureAddr, loadVar, h.agg, h.size, this]
    · cases hv

theorem S.blk_cells {w : World} {i b : Nat} {cs : List Value} {T : TypeId} (h : S w0 w H R) (hi : H[i]? = some (.blk b cs T)) : ∀ j u, cs[j]? = some u → w.cell? ⟨b, 0 + j, none⟩ = some u := fun j u hj => by
  rw [cell_of_heap (h.blk_heap hi).1]; simpa using hj

theorem pw_load {t : TypeId} {x : Operand} {agg : Bool} {sz by_ : Nat} {z : Value} [h : Ty P t agg sz by_ z] {i b o : Nat} {cs : List Value} {T : TypeId} {v : Value} (hx : ev E x = .pointer (some ⟨b, o, none⟩)) (hi : H[i]? = some (.blk b cs T)) (hv : cellsVal agg sz cs o = some v) (k : K v R) : PW P w0 E (.load t x) ty H R K :=
  pw_val rfl (fun w hs => by
    rw [hx]
    have := loadAt_cells (P := P) (t := t) (o := 0) (k := o) (hs.blk_cells hi) hv
    simpa using this) k
theorem pw_load_at {t : TypeId} {x : Operand} {agg : Bool} {sz by_ : Nat} {z : Value} [h : Ty P t agg sz by_ z] {b o q : Nat} {cs : List Value} {v : Value} (hx : ev E x = .pointer (some ⟨b, o + q, none⟩)) (hm : At b o cs ∈ R) (hv : cellsVal agg sz cs q = some v) (k : K v R) : PW P w0 E (.load t x) ty H R K :=
  pw_val rfl (fun w hs => by
    rw [hx]
    exact loadAt_cells (P := P) (t := t) (fun j u hj => hs.at_cell hm j u hj) hv) k
theorem pw_load_at0 {t : TypeId} {x : Operand} {agg : Bool} {sz by_ : Nat} {z : Value} [h : Ty P t agg sz by_ z] {b o : Nat} {cs : List Value} {v : Value} (hx : ev E x = .pointer (some ⟨b, o, none⟩)) (hm : At b o cs ∈ R) (hv : cellsVal agg sz cs 0 = some v) (k : K v R) : PW P w0 E (.load t x) ty H R K :=
  pw_load_at (q := 0) (by simpa using hx) hm hv k

/-! ### whole numbers -/
theorem pw_bin {bop : BinOp} {t t' : TypeId} {x y : Operand} {k : IntKind} {a b : Int} {v : Value} (hx : ev E x = .int k a) (hy : ev E y = .int k b) (hr : ∀ w : World, (binOp bop t (.int k a) (.int k b)).run P w = .ok v w) (kk : K v R) : PW P w0 E (.binOp bop t x y t') ty H R K :=
  pw_val rfl (fun w _ => by
    rw [hx, hy]
    simp only [Sem.run_bind]
    have : (eqGuard bop t x y (.int k a) (.int k b)).run P w = .ok () w := by unfold eqGuard; cases bop <;> rfl
    rw [this]; exact hr w) kk
theorem wrap_id {k : IntKind} {n : Int} (h1 : k.min ≤ n) (h2 : n ≤ k.max) : k.wrap n = n := by
  cases k <;> simp [IntKind.min, IntKind.max, IntKind.wrap, IntKind.bits, IntKind.signed] at * <;> (try split) <;> omega
theorem pw_add {k : IntKind} {t t' : TypeId} {x y : Operand} {a b : Int} (hx : ev E x = .int k a) (hy : ev E y = .int k b) (h1 : k.min ≤ a + b) (h2 : a + b ≤ k.max) (kk : K (.int k (a + b)) R) : PW P w0 E (.binOp .add t x y t') ty H R K :=
  pw_bin hx hy (fun w => by simp [binOp, Op.intArith, wrap_id h1 h2]) kk
theorem pw_sub {k : IntKind} {t t' : TypeId} {x y : Operand} {a b : Int} (hx : ev E x = .int k a) (hy : ev E y = .int k b) (h1 : k.min ≤ a - b) (h2 : a - b ≤ k.max) (kk : K (.int k (a - b)) R) : PW P w0 E (.binOp .sub t x y t') ty H R K :=
  pw_bin hx hy (fun w => by simp [binOp, Op.intArith, wrap_id h1 h2]) kk
theorem pw_mul {k : IntKind} {t t' : TypeId} {x y : Operand} {a b : Int} (hx : ev E x = .int k a) (hy : ev E y = .int k b) (h1 : k.min ≤ a * b) (h2 : a * b ≤ k.max) (kk : K (.int k (a * b)) R) : PW P w0 E (.binOp .mul t x y t') ty H R K :=
  pw_bin hx hy (fun w => by simp [binOp, Op.intArith, wrap_id h1 h2]) kk
theorem pw_add64 {t t' : TypeId} {x y : Operand} {a b : Int} (hx : ev E x = .int .i64 a) (hy : ev E y = .int .i64 b) (h1 : -9223372036854775808 ≤ a + b) (h2 : a + b ≤ 9223372036854775807) (kk : K (.int .i64 (a + b)) R) : PW P w0 E (.binOp .add t x y t') ty H R K :=
  pw_add hx hy h1 h2 kk
theorem pw_sub64 {t t' : TypeId} {x y : Operand} {a b : Int} (hx : ev E x = .int .i64 a) (hy : ev E y = .int .i64 b) (h1 : -9223372036854775808 ≤ a - b) (h2 : a - b ≤ 9223372036854775807) (kk : K (.int .i64 (a - b)) R) : PW P w0 E (.binOp .sub t x y t') ty H R K :=
  pw_sub hx hy h1 h2 kk
theorem pw_mul64 {t t' : TypeId} {x y : Operand} {a b : Int} (hx : ev E x = .int .i64 a) (hy : ev E y = .int .i64 b) (h1 : -9223372036854775808 ≤ a * b) (h2 : a * b ≤ 9223372036854775807) (kk : K (.int .i64 (a * b)) R) : PW P w0 E (.binOp .mul t x y t') ty H R K :=
  pw_mul hx hy h1 h2 kk
theorem pw_arithw {bop : BinOp} {k : IntKind} {t t' : TypeId} {x y : Operand} {a b : Int} (hx : ev E x = .int k a) (hy : ev E y = .int k b) (r : Int) (hr : (match bop with | .add => some (k.wrap (a + b)) | .sub => some (k.wrap (a - b)) | .mul => some (k.wrap (a * b)) | _ => none) = some r) (kk : K (.int k r) R) : PW P w0 E (.binOp bop t x y t') ty H R K :=
  pw_bin hx hy (fun w => by cases bop <;> simp at hr <;> subst hr <;> simp [binOp, Op.intArith]) kk
theorem pw_quo {t t' : TypeId} {x y : Operand} {a b : Int} (hx : ev E x = .int .i64 a) (hy : ev E y = .int .i64 b) (ha : 0 ≤ a) (ha' : a ≤ 9223372036854775807) (hb : 0 < b) (kk : K (.int .i64 (a / b)) R) : PW P w0 E (.binOp .quo t x y t') ty H R K :=
  pw_bin hx hy (fun w => by
    have h0 : ¬ b = 0 := by omega
    have h1 : 0 ≤ a / b := Int.ediv_nonneg ha (by omega)
    have h2 : a / b ≤ a := Int.ediv_le_self b ha
    have : a.tdiv b = a / b := Int.tdiv_eq_ediv_of_nonneg ha
    simp [binOp, Op.intDiv, h0, this, wrap_id (k := .i64) (n := a / b) (by simp [IntKind.min, IntKind.signed, IntKind.bits]; omega) (by simp [IntKind.max, IntKind.signed, IntKind.bits]; omega)]) kk
theorem pw_rem {t t' : TypeId} {x y : Operand} {a b : Int} (hx : ev E x = .int .i64 a) (hy : ev E y = .int .i64 b) (ha : 0 ≤ a) (hb : 0 < b) (kk : K (.int .i64 (a % b)) R) : PW P w0 E (.binOp .rem t x y t') ty H R K :=
  pw_bin hx hy (fun w => by
    have h0 : ¬ b = 0 := by omega
    simp [binOp, Op.intDiv, h0, Int.tmod_eq_emod_of_nonneg ha]) kk
theorem pw_lss {k : IntKind} {t t' : TypeId} {x y : Operand} {a b : Int} (hx : ev E x = .int k a) (hy : ev E y = .int k b) (kt : a < b → K (.bool true) R) (kf : ¬ a < b → K (.bool false) R) : PW P w0 E (.binOp .lss t x y t') ty H R K := by
  by_cases h : a < b
  · exact pw_bin hx hy (fun w => by simp [binOp, Op.intCmp, h]) (kt h)
  · exact pw_bin hx hy (fun w => by simp [binOp, Op.intCmp]; omega) (kf h)
theorem pw_leq {k : IntKind} {t t' : TypeId} {x y : Operand} {a b : Int} (hx : ev E x = .int k a) (hy : ev E y = .int k b) (kt : a ≤ b → K (.bool true) R) (kf : ¬ a ≤ b → K (.bool false) R) : PW P w0 E (.binOp .leq t x y t') ty H R K := by
  by_cases h : a ≤ b
  · exact pw_bin hx hy (fun w => by simp [binOp, Op.intCmp, h]) (kt h)
  · exact pw_bin hx hy (fun w => by simp [binOp, Op.intCmp]; omega) (kf h)
theorem pw_gtr {k : IntKind} {t t' : TypeId} {x y : Operand} {a b : Int} (hx : ev E x = .int k a) (hy : ev E y = .int k b) (kt : b < a → K (.bool true) R) (kf : ¬ b < a → K (.bool false) R) : PW P w0 E (.binOp .gtr t x y t') ty H R K := by
  by_cases h : b < a
  · exact pw_bin hx hy (fun w => by simp [binOp, Op.intCmp, h]) (kt h)
  · exact pw_bin hx hy (fun w => by simp [binOp, Op.intCmp]; omega) (kf h)
theorem pw_geq {k : IntKind} {t t' : TypeId} {x y : Operand} {a b : Int} (hx : ev E x = .int k a) (hy : ev E y = .int k b) (kt : b ≤ a → K (.bool true) R) (kf : ¬ b ≤ a → K (.bool false) R) : PW P w0 E (.binOp .geq t x y t') ty H R K := by
  by_cases h : b ≤ a
  · exact pw_bin hx hy (fun w => by simp [binOp, Op.intCmp, h]) (kt h)
  · exact pw_bin hx hy (fun w => by simp [binOp, Op.intCmp]; omega) (kf h)
theorem pw_eql {k : IntKind} {t t' : TypeId} {x y : Operand} {a b : Int} (hx : ev E x = .int k a) (hy : ev E y = .int k b) (kt : a = b → K (.bool true) R) (kf : ¬ a = b → K (.bool false) R) : PW P w0 E (.binOp .eql t x y t') ty H R K := by
  by_cases h : a = b
  · exact pw_bin hx hy (fun w => by simp [binOp, Op.intCmp, h]) (kt h)
  · exact pw_bin hx hy (fun w => by simp [binOp, Op.intCmp, h]) (kf h)
theorem pw_neq {k : IntKind} {t t' : TypeId} {x y : Operand} {a b : Int} (hx : ev E x = .int k a) (hy : ev E y = .int k b) (kt : ¬ a = b → K (.bool true) R) (kf : a = b → K (.bool false) R) : PW P w0 E (.binOp .neq t x y t') ty H R K := by
  by_cases h : a = b
  · exact pw_bin hx hy (fun w => by simp [binOp, Op.intCmp, h]) (kf h)
  · exact pw_bin hx hy (fun w => by simp [binOp, Op.intCmp, h]) (kt h)
theorem pw_conv {s d : TypeId} {x : Operand} {k k' : IntKind} {ds : TypeDesc} {a : Int} [hs : TyU P s ds] [hd : TyU P d (.int k')] (hx : ev E x = .int k a) (kk : K (.int k' (k'.wrap a)) R) : PW P w0 E (.convert s d x) ty H R K :=
  pw_val rfl (fun w _ => by
    rw [hx]
    simp only [convert, Sem.run_bind, run_underlying hs.und, run_underlying hd.und, Result.andThen_ok]
    cases ds <;> rfl) kk
theorem pw_not {t : TypeId} {x : Operand} {b : Bool} (hx : ev E x = .bool b) (kk : K (.bool (!b)) R) : PW P w0 E (.unOp .not t x) ty H R K :=
  pw_val rfl (fun w _ => by rw [hx]; rfl) kk
theorem pw_neg {t : TypeId} {x : Operand} {k : IntKind} {a : Int} (hx : ev E x = .int k a) (kk : K (.int k (k.wrap (0 - a))) R) : PW P w0 E (.unOp .neg t x) ty H R K :=
  pw_val rfl (fun w _ => by rw [hx]; rfl) kk
theorem pw_len {t : TypeId} {x : Operand} {e : TypeId} {A : Option Addr} {n c : Nat} [h : TyU P t (.slice e)] (hx : ev E x = .slice A n c) (kk : K (.int .i64 (n : Int)) R) : PW P w0 E (.call ⟨.builtin .len, #[x], #[t]⟩) ty H R K :=
  fun w s hs => ⟨_, R, fun w' _ => by simp [xop, execOp, resolve, invoke, builtin, Builtin.len_, hx, run_underlying h.und, goInt], fun _ h => h, hs.rd, kk⟩
theorem pw_lens {t : TypeId} {x : Operand} {s : ByteArray} [h : TyU P t .string] (hx : ev E x = .string s) (kk : K (.int .i64 (s.size : Int)) R) : PW P w0 E (.call ⟨.builtin .len, #[x], #[t]⟩) ty H R K :=
  fun w s hs => ⟨_, R, fun w' _ => by simp [xop, execOp, resolve, invoke, builtin, Builtin.len_, hx, run_underlying h.und, goInt], fun _ h => h, hs.rd, kk⟩

/-! ### slices that stay -/
theorem sl_at {α : Type} [Rep α] {s : Sto} (hs : ∀ p ∈ R, p.p s) {v : Value} {xs : List α} (hm : Sl v xs ∈ R) (i : Nat) (x : α) (hi : xs[i]? = some x) :
    ∃ b o c cs, v = .slice (some ⟨b, o, none⟩) xs.length c ∧ cs.length = Rep.size α ∧ ∀ p ∈ (At b (o + i * Rep.size α) cs :: Rd cs x :: R), p.p s := by
  obtain ⟨A, c, h1, h2, h3⟩ := hs _ hm
  obtain ⟨b, o, rfl, hl⟩ := h3 (by have := (List.getElem?_eq_some_iff.1 hi).1; omega)
  obtain ⟨cs, hr, hc⟩ := hl i x hi
  refine ⟨b, o, c, cs, h1, Rep.len hr, fun p hp => ?_⟩
  rcases List.mem_cons.1 hp with rfl | hp
  · exact hc
  · rcases List.mem_cons.1 hp with rfl | hp
    · exact hr
    · exact hs p hp
theorem S.sl_at {α : Type} [Rep α] {w : World} (hs : S w0 w H R) {v : Value} {xs : List α} (hm : Sl v xs ∈ R) (i : Nat) (x : α) (hi : xs[i]? = some x) :
    ∃ b o c cs, v = .slice (some ⟨b, o, none⟩) xs.length c ∧ cs.length = Rep.size α ∧ S w0 w H (At b (o + i * Rep.size α) cs :: Rd cs x :: R) := by
  obtain ⟨s, h⟩ := hs
  obtain ⟨b, o, c, cs, h1, h2, h3⟩ := Go.Proofs.Ytggdljhmbckpmaa.sl_at h.rd hm i x hi
  exact ⟨b, o, c, cs, h1, h2, s, h.more h3⟩
theorem indexAt_slice {t e : TypeId} {agg : Bool} {sz by_ : Nat} {z : Value} [h : TyU P t (.slice e)] [he : Ty P e agg sz by_ z] (b o n c : Nat) (k : IntKind) (i : Nat) (hi : i < n) (w : World) :
    (Instr.indexAt t (.slice (some ⟨b, o, none⟩) n c) (.int k (i : Int))).run P w = .ok (.pointer (some ⟨b, o + i * sz, none⟩)) w := by
  have ha : (⟨b, o, none⟩ : Addr).add (i * sz) = ⟨b, o + i * sz, none⟩ := by unfold Addr.add; split <;> simp_all
  have hb : (0 : Int) ≤ (i : Int) ∧ (i : Int) < (n : Int) := by omega
  simp [Instr.indexAt, asIntOf, run_underlying h.und, hb, he.size, ha, hi]
/-- 'xs[i]': its place, and what lies there. -/
theorem pw_index {α : Type} [Rep α] {t e : TypeId} {x ix : Operand} {agg : Bool} {sz by_ : Nat} {z : Value} [h : TyU P t (.slice e)] [he : Ty P e agg sz by_ z] {v : Value} {xs : List α} {k : IntKind} {i : Int} (hx : ev E x = v) (hix : ev E ix = .int k i) (hm : Sl v xs ∈ R) (hsz : Rep.size α = sz) (h0 : 0 ≤ i) (h1 : i < xs.length)
    (kk : ∀ b o cs (hl : i.toNat < xs.length), cs.length = sz → K (.pointer (some ⟨b, o, none⟩)) (At b o cs :: Rd cs (xs[i.toNat]'hl) :: R)) : PW P w0 E (.indexAddr t x ix) ty H R K := fun w s hs => by
  obtain ⟨i, rfl⟩ := Int.eq_ofNat_of_zero_le h0
  have hl : i < xs.length := by omega
  obtain ⟨b, o, c, cs, e1, hcl, hs'⟩ := sl_at hs.rd hm i xs[i] (List.getElem?_eq_getElem hl)
  refine ⟨.pointer (some ⟨b, o + i * sz, none⟩), _, fun w' _ => ?_, ?_, hs', by have := kk b (o + i * sz) cs (by simpa using hl) (by rw [← hsz]; exact hcl); rw [hsz]; exact this⟩
  · simp only [xop, execOp, hx, hix, e1, Sem.run_bind]
    rw [indexAt_slice (P := P) (t := t) b o xs.length c k i hl w']
    rfl
  · intro p hp; simp [hp]
/-- The same where the slice's place is known: nothing new is learned. -/
theorem pw_index_at {t e : TypeId} {x ix : Operand} {agg : Bool} {sz by_ : Nat} {z : Value} [h : TyU P t (.slice e)] [he : Ty P e agg sz by_ z] {b o n c : Nat} {k : IntKind} {i : Int} (hx : ev E x = .slice (some ⟨b, o, none⟩) n c) (hix : ev E ix = .int k i) (h0 : 0 ≤ i) (h1 : i < n)
    (kk : K (.pointer (some ⟨b, o + i.toNat * sz, none⟩)) R) : PW P w0 E (.indexAddr t x ix) ty H R K := by
  obtain ⟨i, rfl⟩ := Int.eq_ofNat_of_zero_le h0
  refine pw_val rfl (fun w hs => ?_) kk
  rw [hx, hix]
  exact indexAt_slice (P := P) (t := t) b o n c k i (by omega) w
end
end Go.Proofs.Ytggdljhmbckpmaa
namespace Go.Proofs.Ytggdljhmbckpmaa
open Go Go.RowKit
attribute [local semireducible] T TC En PW GW OW CallsK CallsP Sl Rd Ls At S

def byteV (c : UInt8) : Value := .int .u8 (c.toNat : Int)
def bytesV (xs : List UInt8) : List Value := xs.map byteV
@[simp] theorem bytesV_length (xs : List UInt8) : (bytesV xs).length = xs.length := by simp [bytesV]
theorem bytesV_one (xs : List UInt8) : ∀ u ∈ bytesV xs, u.oneCell' = true := by
  intro u hu
  obtain ⟨c, _, rfl⟩ := List.mem_map.1 hu
  rfl
theorem bytesV_append (xs ys : List UInt8) : bytesV (xs ++ ys) = bytesV xs ++ bytesV ys := by simp [bytesV]
def overlay (cs : List Value) (o : Nat) (vs : List Value) : List Value := cs.take o ++ vs ++ cs.drop (o + vs.length)

/-! ### literals, as lists -/
def setsAt : List Value → Nat → List Value → List Value
  | [], _, _ => []
  | z :: zs, o + 1, vs => z :: setsAt zs o vs
  | z :: zs, 0, v :: vs => v :: setsAt zs 0 vs
  | z :: zs, 0, [] => z :: zs
theorem setsAt_nil : ∀ (zs : List Value) (o : Nat), setsAt zs o [] = zs
  | [], _ => rfl
  | z :: zs, 0 => rfl
  | z :: zs, o + 1 => by rw [setsAt, setsAt_nil zs o]
theorem setsAt_length : ∀ (zs : List Value) (o : Nat) (vs : List Value), (setsAt zs o vs).length = zs.length
  | [], _, _ => rfl
  | z :: zs, o + 1, vs => by simp [setsAt, setsAt_length zs o vs]
  | z :: zs, 0, v :: vs => by simp [setsAt, setsAt_length zs 0 vs]
  | z :: zs, 0, [] => rfl
theorem setsAt_cons : ∀ (zs : List Value) (o : Nat) (v : Value) (vs : List Value), setsAt zs o (v :: vs) = setsAt (zs.set o v) (o + 1) vs
  | [], _, _, _ => rfl
  | z :: zs, 0, v, vs => by simp [setsAt]
  | z :: zs, o + 1, v, vs => by simp [setsAt, setsAt_cons zs o v vs]
theorem foldl_sets (off : Nat) : ∀ (vs : List Value) (j : Nat) (zs : List Value), (vs.zipIdx j).foldl (fun (cs : Array Value) (p : Value × Nat) => cs.setIfInBounds (off + p.2) p.1) zs.toArray = (setsAt zs (off + j) vs).toArray
  | [], j, zs => by simp [setsAt_nil]
  | v :: vs, j, zs => by
    rw [List.zipIdx_cons, List.foldl_cons, setsAt_cons]
    have := foldl_sets off vs (j + 1) (zs.set (off + j) v)
    rw [← Nat.add_assoc] at this
    rw [← this]
    simp
theorem fill_step (place : Nat → Option (Nat × Nat)) (zs vs : List Value) (i : Nat) (v : Value) (rest : List (Nat × Value)) (off sz : Nat) (hp : place i = some (off, sz)) (hv : v.cells = vs.toArray) (h1 : vs.length = sz) (h2 : off + sz ≤ zs.length) :
    Instr.fill place zs.toArray ((i, v) :: rest) = Instr.fill place (setsAt zs off vs).toArray rest := by
  have hf := foldl_sets off vs 0 zs
  have hc : ¬ (vs.toArray.size ≠ sz ∨ off + vs.toArray.size > zs.toArray.size) := by simp; omega
  simp only [Instr.fill, hp, hv]
  rw [if_neg (by simpa using hc)]
  congr 1
  rw [← Array.foldl_toList]
  simpa using hf
def buildL (E : List Value) (ev : List Value → Operand → Value) (pl : List (Nat × Nat)) : List Value → List (Nat × Operand) → Option (List Value)
  | zs, [] => some zs
  | zs, (i, x) :: r => match pl[i]? with
    | some (off, sz) => if (ev E x).cells.toList.length = sz ∧ off + sz ≤ zs.length then buildL E ev pl (setsAt zs off (ev E x).cells.toList) r else none
    | none => none
theorem buildL_fill (E : List Value) (ev : List Value → Operand → Value) (pl : List (Nat × Nat)) : ∀ (ps : List (Nat × Operand)) (zs cs : List Value), buildL E ev pl zs ps = some cs → Instr.fill (pl.toArray[·]?) zs.toArray (ps.map fun p => (p.1, ev E p.2)) = some cs.toArray
  | [], zs, cs, h => by simp [buildL] at h; subst h; rfl
  | (i, x) :: r, zs, cs, h => by
    simp only [buildL] at h
    split at h
    · rename_i off sz hp
      split at h
      · rename_i hc
        rw [List.map_cons, fill_step (pl.toArray[·]?) zs (ev E x).cells.toList i (ev E x) _ off sz (by simpa using hp) (by simp) hc.1 hc.2]
        exact buildL_fill E ev pl r _ cs h
      · cases h
    · cases h
def partsL (E : List Value) (ev : List Value → Operand → Value) (sz : Nat) : Nat → List (Nat × Operand) → Option (List Value)
  | _, [] => some []
  | i, (j, x) :: r => if j = i ∧ (ev E x).cells.toList.length = sz then (partsL E ev sz (i + 1) r).map ((ev E x).cells.toList ++ ·) else none
theorem setsAt_append (d : List Value) : ∀ (vs z : List Value), vs.length ≤ z.length → setsAt (d ++ z) d.length vs = d ++ vs ++ z.drop vs.length := by
  induction d with
  | nil =>
    intro vs
    induction vs with
    | nil => intro z _; simp [setsAt_nil]
    | cons v vs ih =>
      intro z hz
      cases z with
      | nil => simp at hz
      | cons a z => simp [setsAt] at *; exact ih z hz
  | cons a d ih => intro vs z hz; simp [setsAt]; simpa using ih vs z hz
theorem partsL_fill (E : List Value) (ev : List Value → Operand → Value) (sz : Nat) : ∀ (ps : List (Nat × Operand)) (i : Nat) (d z cs : List Value), d.length = i * sz → z.length = ps.length * sz → partsL E ev sz i ps = some cs →
    Instr.fill (fun i => some (i * sz, sz)) (d ++ z).toArray (ps.map fun p => (p.1, ev E p.2)) = some (d ++ cs).toArray
  | [], i, d, z, cs, _, hz, h => by
    simp at hz; subst hz
    simp [partsL] at h; subst h; rfl
  | (j, x) :: r, i, d, z, cs, hd, hz, h => by
    simp only [partsL] at h
    split at h
    · rename_i hc
      obtain ⟨rfl, hl⟩ := hc
      obtain ⟨cs', h', rfl⟩ := Option.map_eq_some_iff.1 h
      have hz' : z.length = sz + r.length * sz := by rw [hz, List.length_cons, Nat.add_mul]; omega
      rw [List.map_cons, fill_step _ (d ++ z) (ev E x).cells.toList j (ev E x) _ (j * sz) sz rfl (by simp) hl (by simp; omega)]
      have := setsAt_append d (ev E x).cells.toList z (by omega)
      rw [hd] at this
      rw [this]
      have ih := partsL_fill E ev sz r (j + 1) (d ++ (ev E x).cells.toList) (z.drop (ev E x).cells.toList.length) cs' (by simp at hl ⊢; rw [Nat.add_mul]; omega) (by rw [List.length_drop, hl]; omega) h'
      rw [ih]; simp
    · cases h

section
variable {P : Program} {w0 : World} {E : List Value} {H : List Hp} {R : List MP} {ty : TypeId} {K : Value → List Hp → List MP → Prop}

theorem gw_pure {op : Op} {K' : Value → List MP → Prop} (h : PW P w0 E op ty H R K') (hk : ∀ v R', K' v R' → K v H R') : GW P w0 E op ty H R K := fun w hs => by
  obtain ⟨s, hok⟩ := hs
  obtain ⟨v, R', h1, h2, h3, h4⟩ := h w s hok
  replace h3 : S w0 w H R' := ⟨s, hok.more h3⟩
  exact ⟨v, w, H, R', .inl (h1 w h3), h3, hk v R' h4⟩

/-- A struct's literal. -/
theorem pw_build {t : TypeId} {parts : Array (Nat × Operand)} {zs : List Value} {pl : Array (Nat × Nat)} {cs : List Value} {K : Value → List MP → Prop} [h : TyB P t zs pl] (hv : buildL E ev pl.toList zs parts.toList = some cs) (k : K (.agg cs.toArray) R) : PW P w0 E (.build t parts) ty H R K :=
  pw_val rfl (fun w _ => h.build _ _ w (by
    have := buildL_fill E ev pl.toList parts.toList zs cs hv
    simpa using this)) k
/-! ### new blocks -/
theorem gw_box {t : TypeId} {x : Operand} {cs : List Value} (hx : (ev E x).cells = cs.toArray) (kk : ∀ b, K (.pointer (some ⟨b, 0, none⟩)) (.blk b cs t :: H) R) : GW P w0 E (.box t x) ty H R K := fun w hs =>
  ⟨_, _, _, R, .inl (by simp [xop, execOp, Instr.box, newVar, newRow, hx]), hs.alloc cs t, kk _⟩
theorem gw_alloc {t : TypeId} {agg : Bool} {sz by_ : Nat} {z : Value} {cs : List Value} [h : Ty P t agg sz by_ z] (hz : z.cells = cs.toArray) (kk : ∀ b, K (.pointer (some ⟨b, 0, none⟩)) (.blk b cs t :: H) R) : GW P w0 E (.alloc t) ty H R K := fun w hs =>
  ⟨_, _, _, R, .inl (by
    simp only [xop, execOp, Instr.alloc, Sem.run_bind, h.zero, Result.andThen_ok]
    simp [newVar, newRow, hz]), hs.alloc cs t, kk _⟩

/-! ### stores -/
theorem S.setRow {w : World} {i b : Nat} {cs : List Value} {T : TypeId} (h : S w0 w H R) (hi : H[i]? = some (.blk b cs T)) (cs' : List Value) :
    S w0 (w.setRow b cs'.toArray) (H.set i (.blk b cs' T)) R := by
  have hb := (h.blk_heap hi).1
  refine h.turn hi rfl rfl (fun k hk => ?_) ?_ rfl rfl rfl ?_
  · simp only [World.setRow, Array.getElem?_modify]; rw [if_neg (fun e => hk e.symm)]
  · simp [World.setRow]
  · rintro s ⟨h0, h1, h2⟩
    exact ⟨h0, setRow_heap w b _ _ T _ h1, h2⟩
theorem gw_store {t : TypeId} {a x : Operand} {agg : Bool} {sz by_ : Nat} {z : Value} [h : Ty P t agg sz by_ z] {i b o : Nat} {cs vs : List Value} {T : TypeId} (ha : ev E a = .pointer (some ⟨b, o, none⟩)) (hx : (ev E x).cells = vs.toArray) (hi : H[i]? = some (.blk b cs T))
    (hl : vs.length = sz) (ho : o + sz ≤ cs.length) (h1 : ∀ v ∈ vs, v.oneCell' = true) (kk : K undef (H.set i (.blk b (overlay cs o vs) T)) R) : GW P w0 E (.store t a x) ty H R K := fun w hs => by
  refine ⟨undef, w.setRow b (overlay cs o vs).toArray, _, R, .inr ⟨?_, rfl⟩, hs.setRow hi _, kk⟩
  have hb := (hs.blk_heap hi).1
  have hst := run_storeCells_at (P := P) b o T vs 0 cs.toArray w hb (by simp; omega) h1
  simp only [xop, execOp, Instr.storeAt, ha, Instr.sureAddr, storeVar, Sem.run_bind, Sem.run_pure, Result.andThen_ok, h.size, hx]
  have : ¬ vs.toArray.size ≠ sz := by simp [hl]
  rw [if_neg this]
  rw [hst]
  simp [overlay]

/-! ### slices made -/
class TyL (P : Program) (t : TypeId) (e : outParam TypeId) (sz by_ : outParam Nat) (zs : outParam (List Value)) : Prop where
  und : P.underlying t = some (.slice e)
  info : ∃ i z, P.info? e = some i ∧ i.size = sz ∧ i.bytes = by_ ∧ i.zero = some z ∧ z.cells = zs.toArray ∧ (sz = 1 → ∀ cs, z ≠ .agg cs)
  len : zs.length = sz
theorem TyL.size {t e : TypeId} {sz by_ : Nat} {zs : List Value} (h : TyL P t e sz by_ zs) (w : World) : (sizeOf e).run P w = .ok sz w := by
  obtain ⟨i, z, hi, e1, _⟩ := h.info
  simp [sizeOf, typeInfo, hi, e1]

theorem gw_buildSlice {t e : TypeId} {n : Nat} {parts : Array (Nat × Operand)} {sz by_ : Nat} {zs cs : List Value} [h : TyL P t e sz by_ zs] (hn : n * sz ≤ 16777216)
    (hv0 : partsL E ev sz 0 parts.toList = some cs) (hps : parts.size = n)
    (kk : ∀ b, K (.slice (some ⟨b, 0, none⟩) n n) (.blk b cs e :: H) R) : GW P w0 E (.buildSlice t n parts) ty H R K := fun w hs => by
  obtain ⟨i, z, hi, e1, e2, e3, e4, _⟩ := h.info
  refine ⟨_, _, _, R, .inl ?_, hs.alloc cs e, kk _⟩
  have hle : ¬ n * sz > 2 ^ 24 := by omega
  have hv : Instr.fill (fun i => some (i * sz, sz)) ((Array.range (n * sz)).map (zs.toArray[· % zs.toArray.size]!)) ((parts.map fun (i, x) => (i, ev E x)).toList) = some cs.toArray := by
    have hz : ((Array.range (n * sz)).map (fun x => (zs.toArray[x % zs.toArray.size]! : Value))).size = n * sz := by simp
    generalize (Array.range (n * sz)).map (fun x => (zs.toArray[x % zs.toArray.size]! : Value)) = Z at hz ⊢
    have := partsL_fill E ev sz parts.toList 0 [] Z.toList cs (by simp) (by simp [hps, hz]) hv0
    simpa using this
  have key : (Instr.buildSlice t n (parts.map fun (i, x) => (i, ev E x))).run P w = .ok (.slice (some ⟨w.heap.size, 0, none⟩) n n) (w.alloc (.cells cs.toArray e)) := by
    unfold Instr.buildSlice
    simp only [Sem.run_bind, run_underlying h.und, Result.andThen_ok, h.size, if_neg hle]
    by_cases h0 : n * sz = 0
    · have hz : ((Array.range (n * sz)).map (fun x => ((#[] : Array Value)[x % (#[] : Array Value).size]! : Value))) = ((Array.range (n * sz)).map (zs.toArray[· % zs.toArray.size]!)) := by
        rw [h0]; apply Array.ext <;> simp
      rw [if_pos h0, Sem.run_bind, Sem.run_pure, Result.andThen_ok, hz]
      have hv' := hv
      simp only at hv'
      rw [hv']
      rfl
    · rw [if_neg h0]
      simp only [Sem.run_bind, zeroValue, typeInfo, run_program, hi, e3, e4, Sem.run_pure, Result.andThen_ok]
      have hv' := hv
      simp only at hv'
      rw [hv']
      rfl
  simp only [xop, execOp, Sem.run_bind, key, Result.andThen_ok]
  rfl

/-- make([]T, n): whole cells of zeros. -/
theorem gw_make {t e : TypeId} {l c : Operand} {k k' : IntKind} {n : Nat} {by_ : Nat} {z : Value} [h : TyL P t e 1 by_ [z]] (hl : ev E l = .int k (n : Int)) (hc : ev E c = .int k' (n : Int)) (hn : by_ * n ≤ 281474976710656) (hn2 : n ≤ 281474976710656)
    (kk : ∀ b, K (.slice (some ⟨b, 0, none⟩) n n) (.blk b (List.replicate n z) e :: H) R) : GW P w0 E (.makeSlice t l c) ty H R K := fun w hs => by
  obtain ⟨i, z', hi, e1, e2, e3, e4, hna⟩ := h.info
  refine ⟨_, _, _, R, .inl ?_, hs.alloc (List.replicate n z) e, kk _⟩
  have hone : z' = z := by
    cases z' with
    | agg cs => simp [Value.cells] at e4; subst e4; exact absurd rfl (hna rfl _)
    | _ => simp [Value.cells] at e4; exact e4
  subst hone
  have key := run_make_row' (P := P) t e z' by_ h.und (by rw [hi]; simp [e1, e2, e3]) e4 k k' n hn (by omega) w
  have hcell : madeCells #[z'] n = (List.replicate n z').toArray := by
    apply Array.ext
    · simp [size_madeCells]
    · intro j h1 h2
      simp [madeCells, Nat.mod_one]
  rw [hcell] at key
  simp only [xop, execOp, hl, hc, Sem.run_bind, key, Result.andThen_ok]
  rfl

/-! ### append -/
theorem run_append_zero (w : World) (t ty e : TypeId) (sz : Nat) (hu : P.underlying t = some (.slice e)) (hs : ∀ w, (sizeOf e).run P w = .ok sz w) (base : Option Addr) (n cap : Nat) (hle : n ≤ cap) (A : Option Addr) (c : Nat) :
    (Builtin.append_ #[t, t] ty #[.slice base n cap, .slice A 0 c]).run P w = .ok (.slice base n cap) w := by
  have hfc : (Builtin.firstCells sz 0 (.slice A 0 c)).run P w = .ok #[] w := by
    cases A with
    | none => rfl
    | some a => simp [Builtin.firstCells, loadCells, loadCellsFrom]
  unfold Builtin.append_
  simp only [List.getElem?_toArray, List.getElem?_cons_zero, List.getElem?_cons_succ, Sem.run_bind, run_underlying hu, Result.andThen_ok, hs, Sem.run_pure, Builtin.lenOf, Nat.add_zero]
  simp [hle, hfc, storeCells]
  cases base <;> rfl
theorem gw_append_core {t e : TypeId} {s x : Operand} {i n m c sz by_ : Nat} {zs cs news : List Value} {v : Value} {A : Option Addr} [h : TyL P t e sz by_ zs] (hs : ev E s = v) (hx : ev E x = .slice A m c) (hi : H[i]? = some (.row v e sz n cs))
    (hsz : 0 < sz) (hl : news.length = m * sz) (hsrc : ∀ w, S w0 w H R → 0 < m → ∃ a, A = some a ∧ ∀ j u, news[j]? = some u → w.cell? (a.add j) = some u) (h1 : ∀ u ∈ news, u.oneCell' = true)
    (hby : (n + m) * by_ ≤ 140737488355328) (hnm : n + m ≤ 140737488355328)
    (kk : ∀ v', K v' (H.set i (.row v' e sz (n + m) (cs ++ news))) R) : GW P w0 E (.call ⟨.builtin .append, #[s, x], #[t, t]⟩) ty H R K := fun w hw => by
  obtain ⟨ti, z, hti, e1, e2, e3, e4, _⟩ := h.info
  have hrow : w.ownsRow w0.heap.size e sz v n cs := by
    obtain ⟨s, hok⟩ := hw
    exact (hok.hp _ (List.mem_of_getElem? hi)).1
  have hbase : w0.heap.size ≤ w.heap.size := hw.below.size
  have fin : ∀ v' w', (Builtin.append_ #[t, t] ty #[v, .slice A m c]).run P w = .ok v' w' → S w0 w' (H.set i (.row v' e sz (n + m) (cs ++ news))) R → ∃ v w' H' R', ((xop E (.call ⟨.builtin .append, #[s, x], #[t, t]⟩) ty).run P w = .ok (.value v) w' ∨ (xop E (.call ⟨.builtin .append, #[s, x], #[t, t]⟩) ty).run P w = .ok .skip w' ∧ v = undef) ∧ S w0 w' H' R' ∧ K v H' R' := fun v' w' hr hs' =>
    ⟨v', w', _, _, .inl (by simp [xop, execOp, resolve, invoke, builtin, hs, hx, hr]), hs', kk v'⟩
  have hzl : zs.length = sz := h.len
  rcases Nat.eq_zero_or_pos m with h0 | h0
  · subst h0
    have hnil : news = [] := List.eq_nil_of_length_eq_zero (by simpa using hl)
    subst hnil
    refine fin v w ?_ ?_
    · have hsmall : ∃ base cap, v = .slice base n cap ∧ n ≤ cap := by
        rcases hrow.2 with ⟨rfl, rfl⟩ | ⟨g, cap, cur, rfl, _, _, h3, _⟩
        · exact ⟨none, 0, rfl, by omega⟩
        · exact ⟨_, cap, rfl, h3⟩
      obtain ⟨base, cap, rfl, hle⟩ := hsmall
      exact run_append_zero (P := P) w t ty e sz h.und (fun w => h.size w) base n cap hle A c
    · have : S w0 w (H.set i (.row v e sz (n + 0) (cs ++ []))) R := by
        have e : H.set i (.row v e sz (n + 0) (cs ++ [])) = H := by
          simp only [Nat.add_zero, List.append_nil]
          obtain ⟨hlt, he⟩ := List.getElem?_eq_some_iff.1 hi
          rw [← he]; exact List.set_getElem_self hlt
        rw [e]; exact hw
      exact this
  · obtain ⟨a, rfl, hc⟩ := hsrc w hw h0
    obtain ⟨v', w', hr, ho, hg, _, hb⟩ := run_append_own_at (P := P) w w0.heap.size t ty e ti z sz by_ h.und hti e3 e1 e2 (by rw [e4]; simpa using hzl) hsz v n cs hrow a m c news hl hc h1 (by simp only [maxLen]; omega) hby hbase
    refine fin v' w' hr (hw.grow hi hg ho ?_)
    rcases hb with hb | hb
    · exact .inr (.inl hb)
    · exact .inr (.inr ⟨_, hb, Nat.le_refl _⟩)
end
end Go.Proofs.Ytggdljhmbckpmaa
