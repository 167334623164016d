/- The rules for operations that only read and reckon. -/
import Derived.Test.YtggdljhmbckpmaaA2
import Derived.LoadGo3
set_option linter.unusedVariables false
set_option linter.unusedSimpArgs false
namespace Go.Proofs.Ytggdljhmbckpmaa
open Go Go.RowKit
attribute [local semireducible] T TC En PW GW OW CallsK CallsP Sl Rd Ls At S

/-! ### 0. What is known of a program's types -/
class TyU (P : Program) (t : TypeId) (d : outParam TypeDesc) : Prop where
  und : P.underlying t = some d
class Ty (P : Program) (t : TypeId) (agg : outParam Bool) (sz by_ : outParam Nat) (z : outParam Value) : Prop where
  info : (P.info? t).map (fun i => (i.size, i.bytes, i.zero)) = some (sz, by_, some z)
  agg : ∀ w, (isAgg t).run P w = .ok agg w
class TyF (P : Program) (t : TypeId) (f : Nat) (off ft : outParam Nat) : Prop where
  addr : ∀ b o w, (Instr.fieldAt t (.pointer (some ⟨b, o, none⟩)) f).run P w = .ok (.pointer (some ⟨b, o + off, none⟩)) w
  fld : ∃ fs : Array Field, P.underlying t = some (.struct fs) ∧ ∃ fd : Field, fs[f]? = some fd ∧ fd.offset = off ∧ fd.type = ft
/-- A struct's zero cells, and of each field its offset and size. -/
class TyB (P : Program) (t : TypeId) (zs : outParam (List Value)) (pl : outParam (Array (Nat × Nat))) : Prop where
  build : ∀ (parts : Array (Nat × Value)) (cells : Array Value) (w : World), Instr.fill (pl[·]?) zs.toArray parts.toList = some cells → (Instr.build t parts).run P w = .ok (.agg cells) w

section
variable {P : Program}
theorem Ty.size {t : TypeId} {agg : Bool} {sz by_ : Nat} {z : Value} [h : Ty P t agg sz by_ z] (w : World) : (sizeOf t).run P w = .ok sz w := by
  obtain ⟨i, hi, e⟩ := Option.map_eq_some_iff.1 h.info
  simp only [Prod.mk.injEq] at e
  simp [sizeOf, typeInfo, hi, e.1]
theorem Ty.zero {t : TypeId} {agg : Bool} {sz by_ : Nat} {z : Value} [h : Ty P t agg sz by_ z] (w : World) : (zeroValue t).run P w = .ok z w := by
  obtain ⟨i, hi, e⟩ := Option.map_eq_some_iff.1 h.info
  simp only [Prod.mk.injEq] at e
  simp [zeroValue, typeInfo, hi, e.2.2]
theorem isAgg_of {t : TypeId} {d : TypeDesc} (h : P.underlying t = some d) (w : World) : (isAgg t).run P w = .ok (match d with | .struct _ | .array _ _ => true | _ => false) w := by
  simp only [isAgg, Sem.run_bind, run_underlying h, Result.andThen_ok]
  cases d <;> rfl
theorem fieldAt_of {t : TypeId} {fs : Array Field} {f : Nat} {fd : Field} (h : P.underlying t = some (.struct fs)) (hf : fs[f]? = some fd) {sz : Nat} (hs : ∀ w, (sizeOf fd.type).run P w = .ok sz w) (h0 : sz ≠ 0) (b o : Nat) (w : World) :
    (Instr.fieldAt t (.pointer (some ⟨b, o, none⟩)) f).run P w = .ok (.pointer (some ⟨b, o + fd.offset, none⟩)) w := by
  have : (⟨b, o, none⟩ : Addr).add fd.offset = ⟨b, o + fd.offset, none⟩ := by unfold Addr.add; split <;> simp_all
  simp [Instr.fieldAt, run_underlying h, hf, Instr.sureAddr, fieldPlace, hs, h0, this]
theorem tyF_of {t : TypeId} {fs : Array Field} {f off ft sz : Nat} (h : P.underlying t = some (.struct fs)) (hf : (fs[f]?).map (fun fd => (fd.offset, fd.type)) = some (off, ft)) (hs : ∀ w, (sizeOf ft).run P w = .ok sz w) (h0 : sz ≠ 0) : TyF P t f off ft := by
  obtain ⟨fd, h1, h2⟩ := Option.map_eq_some_iff.1 hf
  simp only [Prod.mk.injEq] at h2
  obtain ⟨rfl, rfl⟩ := h2
  exact ⟨fun b o w => fieldAt_of h h1 hs h0 b o w, fs, h, fd, h1, rfl, rfl⟩
end

def cellsVal (agg : Bool) (sz : Nat) (cs : List Value) (o : Nat) : Option Value :=
  match agg with
  | false => cs[o]?
  | true => if o + sz ≤ cs.length then some (.agg ((cs.drop o).take sz).toArray) else none

section
variable {P : Program} {w0 : World} {E : List Value} {H : List Hp} {R : List MP} {ty : TypeId} {K : Value → List MP → Prop}

theorem pw_val {op : Op} {s : Sem Value} {v : Value} (hx : xop E op ty = (s >>= fun v => pure (.value v))) (hr : ∀ w, S w0 w H R → s.run P w = .ok v w) (k : K v R) : PW P w0 E op ty H R K :=
  fun w s hs => ⟨v, R, fun w' hs' => by rw [hx]; simp [hr w' hs'], fun _ h => h, hs.rd, k⟩
/-- More is learned first. -/
theorem PW.learn {op : Op} (R' : List MP) (hR : ∀ p ∈ R, p ∈ R') (hw : ∀ s : Sto, (∀ p ∈ R, p.p s) → ∀ p ∈ R', p.p s) (h : PW P w0 E op ty H R' K) : PW P w0 E op ty H R K := fun w s hs => by
  obtain ⟨v, R2, h1, h2, h3, h4⟩ := h w s (hs.more (hw s hs.rd))
  exact ⟨v, R2, h1, fun p hp => h2 p (hR p hp), h3, h4⟩

theorem pw_move {x : Operand} {v : Value} (hx : ev E x = v) (k : K v R) : PW P w0 E (.move x) ty H R K := fun w s hs => ⟨_, R, fun _ _ => (by simp [xop, execOp, hx]), fun _ h => h, hs.rd, k⟩
theorem pw_assign {x : Operand} {v : Value} (hx : ev E x = v) (k : K v R) : PW P w0 E (.assign x) ty H R K := fun w s hs => ⟨_, R, fun _ _ => (by simp [xop, execOp, hx]), fun _ h => h, hs.rd, k⟩
theorem pw_pick_t {c a b : Operand} {v : Value} (hc : ev E c = .bool true) (ha : ev E a = v) (k : K v R) : PW P w0 E (.pick c a b) ty H R K := fun w s hs =>
  ⟨_, R, fun w' _ => by simp [xop, execOp, hc, ha, asBool], fun _ h => h, hs.rd, k⟩
theorem pw_pick_f {c a b : Operand} {v : Value} (hc : ev E c = .bool false) (hb : ev E b = v) (k : K v R) : PW P w0 E (.pick c a b) ty H R K := fun w s hs =>
  ⟨_, R, fun w' _ => by simp [xop, execOp, hc, hb, asBool], fun _ h => h, hs.rd, k⟩
theorem pw_nilCheck {x : Operand} {a : Addr} (hx : ev E x = .pointer (some a)) (k : K (.pointer (some a)) R) : PW P w0 E (.nilCheck x) ty H R K := fun w s hs =>
  ⟨_, R, fun w' _ => by simp [xop, execOp, hx], fun _ h => h, hs.rd, k⟩
theorem pw_fieldAddr {s : TypeId} {x : Operand} {f b o off ft : Nat} [h : TyF P s f off ft] (hx : ev E x = .pointer (some ⟨b, o, none⟩)) (k : K (.pointer (some ⟨b, o + off, none⟩)) R) : PW P w0 E (.fieldAddr s x f) ty H R K :=
  pw_val rfl (fun w _ => by rw [hx]; exact h.addr b o w) k
theorem pw_extract {x : Operand} {i : Nat} {vs : Array Value} {v : Value} (hx : ev E x = .tuple vs) (hv : vs[i]? = some v) (k : K v R) : PW P w0 E (.extract x i) ty H R K :=
  pw_val rfl (fun w _ => by rw [hx]; simp [Instr.extract, hv]) k
theorem pw_field {s : TypeId} {x : Operand} {f off ft sz by_ : Nat} {agg : Bool} {z v : Value} {cs : List Value} [h : TyF P s f off ft] [ht : Ty P ft agg sz by_ z] (hx : ev E x = .agg cs.toArray) (hv : cellsVal agg sz cs off = some v) (k : K v R) : PW P w0 E (.field s x f) ty H R K :=
  pw_val rfl (fun w _ => by
    rw [hx]
    obtain ⟨fs, h1, fd, h2, h3, h4⟩ := h.fld
    subst h4; subst h3
    cases agg with
    | false =>
      simp only [cellsVal] at hv
      simp [Instr.field, run_underlying h1, h2, asAgg, part, ht.agg, hv]
    | true =>
      simp only [cellsVal] at hv
      split at hv
      · cases hv
        simp [Instr.field, run_underlying h1, h2, asAgg, part, ht.agg, ht.size]
      · cases hv) k
theorem pw_makeInterface {t : TypeId} {x : Operand} {d : TypeDesc} [h : TyU P t d] (hd : (match d with | .interface _ => false | _ => true) = true) (k : K (.iface t (ev E x)) R) : PW P w0 E (.makeInterface t x) ty H R K :=
  pw_val rfl (fun w _ => by
    simp only [Instr.makeInterface, Sem.run_bind, run_underlying h.und, Result.andThen_ok]
    cases d <;> first | rfl | cases hd) k
theorem pw_makeFunc {fn : Fn} {first cap : Array Operand} (k : K (.func fn (first.map (ev E)) (cap.map (ev E))) R) : PW P w0 E (.makeFunc fn first cap) ty H R K :=
  pw_val rfl (fun w _ => rfl) k
/-! ### loads -/
theorem loadAt_cells {t : TypeId} {agg : Bool} {sz by_ : Nat} {z : Value} [h : Ty P t agg sz by_ z] {w : World} {b o : Nat} {cs : List Value} {k : Nat} {v : Value} (hc : ∀ j u, cs[j]? = some u → w.cell? ⟨b, o + j, none⟩ = some u) (hv : cellsVal agg sz cs k = some v) :
    (Instr.loadAt t (.pointer (some ⟨b, o + k, none⟩))).run P w = .ok v w := by
  cases agg with
  | false =>
    simp only [cellsVal] at hv
    simp [Instr.loadAt, Instr.sureAddr, loadVar, h.agg, hc k v hv]
  | true =>
    simp only [cellsVal] at hv
    split at hv
    · rename_i hle
      cases hv
      have hl : ((cs.drop k).take sz).length = sz := by simp; omega
      have := run_loadCells_list (P := P) w ⟨b, o + k, none⟩ ((cs.drop k).take sz) (fun j u hj => by
        have ha : (⟨b, o + k, none⟩ : Addr).add j = ⟨b, o + (k + j), none⟩ := by unfold Addr.add; split <;> simp_all [Nat.add_assoc]
        rw [ha]
        refine hc _ _ ?_
        rw [List.getElem?_take] at hj
        split at hj
        · simpa using hj
        · cases hj)
      rw [hl] at this
      simp [Instr.loadAt, Instr.sureAddr, loadVar, h.agg, h.size, this]
    · cases hv

theorem S.blk_cells {w : World} {i b : Nat} {cs : List Value} {T : TypeId} (h : S w0 w H R) (hi : H[i]? = some (.blk b cs T)) : ∀ j u, cs[j]? = some u → w.cell? ⟨b, 0 + j, none⟩ = some u := fun j u hj => by
  rw [cell_of_heap (h.blk_heap hi).1]; simpa using hj

theorem pw_load {t : TypeId} {x : Operand} {agg : Bool} {sz by_ : Nat} {z : Value} [h : Ty P t agg sz by_ z] {i b o : Nat} {cs : List Value} {T : TypeId} {v : Value} (hx : ev E x = .pointer (some ⟨b, o, none⟩)) (hi : H[i]? = some (.blk b cs T)) (hv : cellsVal agg sz cs o = some v) (k : K v R) : PW P w0 E (.load t x) ty H R K :=
  pw_val rfl (fun w hs => by
    rw [hx]
    have := loadAt_cells (P := P) (t := t) (o := 0) (k := o) (hs.blk_cells hi) hv
    simpa using this) k
theorem pw_load_at {t : TypeId} {x : Operand} {agg : Bool} {sz by_ : Nat} {z : Value} [h : Ty P t agg sz by_ z] {b o q : Nat} {cs : List Value} {v : Value} (hx : ev E x = .pointer (some ⟨b, o + q, none⟩)) (hm : At b o cs ∈ R) (hv : cellsVal agg sz cs q = some v) (k : K v R) : PW P w0 E (.load t x) ty H R K :=
  pw_val rfl (fun w hs => by
    rw [hx]
    exact loadAt_cells (P := P) (t := t) (fun j u hj => hs.at_cell hm j u hj) hv) k
theorem pw_load_at0 {t : TypeId} {x : Operand} {agg : Bool} {sz by_ : Nat} {z : Value} [h : Ty P t agg sz by_ z] {b o : Nat} {cs : List Value} {v : Value} (hx : ev E x = .pointer (some ⟨b, o, none⟩)) (hm : At b o cs ∈ R) (hv : cellsVal agg sz cs 0 = some v) (k : K v R) : PW P w0 E (.load t x) ty H R K :=
  pw_load_at (q := 0) (by simpa using hx) hm hv k

/-! ### whole numbers -/
theorem pw_bin {bop : BinOp} {t t' : TypeId} {x y : Operand} {k : IntKind} {a b : Int} {v : Value} (hx : ev E x = .int k a) (hy : ev E y = .int k b) (hr : ∀ w : World, (binOp bop t (.int k a) (.int k b)).run P w = .ok v w) (kk : K v R) : PW P w0 E (.binOp bop t x y t') ty H R K :=
  pw_val rfl (fun w _ => by
    rw [hx, hy]
    simp only [Sem.run_bind]
    have : (eqGuard bop t x y (.int k a) (.int k b)).run P w = .ok () w := by unfold eqGuard; cases bop <;> rfl
    rw [this]; exact hr w) kk
theorem wrap_id {k : IntKind} {n : Int} (h1 : k.min ≤ n) (h2 : n ≤ k.max) : k.wrap n = n := by
  cases k <;> simp [IntKind.min, IntKind.max, IntKind.wrap, IntKind.bits, IntKind.signed] at * <;> (try split) <;> omega
theorem pw_add {k : IntKind} {t t' : TypeId} {x y : Operand} {a b : Int} (hx : ev E x = .int k a) (hy : ev E y = .int k b) (h1 : k.min ≤ a + b) (h2 : a + b ≤ k.max) (kk : K (.int k (a + b)) R) : PW P w0 E (.binOp .add t x y t') ty H R K :=
  pw_bin hx hy (fun w => by simp [binOp, Op.intArith, wrap_id h1 h2]) kk
theorem pw_sub {k : IntKind} {t t' : TypeId} {x y : Operand} {a b : Int} (hx : ev E x = .int k a) (hy : ev E y = .int k b) (h1 : k.min ≤ a - b) (h2 : a - b ≤ k.max) (kk : K (.int k (a - b)) R) : PW P w0 E (.binOp .sub t x y t') ty H R K :=
  pw_bin hx hy (fun w => by simp [binOp, Op.intArith, wrap_id h1 h2]) kk
theorem pw_mul {k : IntKind} {t t' : TypeId} {x y : Operand} {a b : Int} (hx : ev E x = .int k a) (hy : ev E y = .int k b) (h1 : k.min ≤ a * b) (h2 : a * b ≤ k.max) (kk : K (.int k (a * b)) R) : PW P w0 E (.binOp .mul t x y t') ty H R K :=
  pw_bin hx hy (fun w => by simp [binOp, Op.intArith, wrap_id h1 h2]) kk
theorem pw_add64 {t t' : TypeId} {x y : Operand} {a b : Int} (hx : ev E x = .int .i64 a) (hy : ev E y = .int .i64 b) (h1 : -9223372036854775808 ≤ a + b) (h2 : a + b ≤ 9223372036854775807) (kk : K (.int .i64 (a + b)) R) : PW P w0 E (.binOp .add t x y t') ty H R K :=
  pw_add hx hy h1 h2 kk
theorem pw_sub64 {t t' : TypeId} {x y : Operand} {a b : Int} (hx : ev E x = .int .i64 a) (hy : ev E y = .int .i64 b) (h1 : -9223372036854775808 ≤ a - b) (h2 : a - b ≤ 9223372036854775807) (kk : K (.int .i64 (a - b)) R) : PW P w0 E (.binOp .sub t x y t') ty H R K :=
  pw_sub hx hy h1 h2 kk
theorem pw_mul64 {t t' : TypeId} {x y : Operand} {a b : Int} (hx : ev E x = .int .i64 a) (hy : ev E y = .int .i64 b) (h1 : -9223372036854775808 ≤ a * b) (h2 : a * b ≤ 9223372036854775807) (kk : K (.int .i64 (a * b)) R) : PW P w0 E (.binOp .mul t x y t') ty H R K :=
  pw_mul hx hy h1 h2 kk
theorem pw_arithw {bop : BinOp} {k : IntKind} {t t' : TypeId} {x y : Operand} {a b : Int} (hx : ev E x = .int k a) (hy : ev E y = .int k b) (r : Int) (hr : (match bop with | .add => some (k.wrap (a + b)) | .sub => some (k.wrap (a - b)) | .mul => some (k.wrap (a * b)) | _ => none) = some r) (kk : K (.int k r) R) : PW P w0 E (.binOp bop t x y t') ty H R K :=
  pw_bin hx hy (fun w => by cases bop <;> simp at hr <;> subst hr <;> simp [binOp, Op.intArith]) kk
theorem pw_quo {t t' : TypeId} {x y : Operand} {a b : Int} (hx : ev E x = .int .i64 a) (hy : ev E y = .int .i64 b) (ha : 0 ≤ a) (ha' : a ≤ 9223372036854775807) (hb : 0 < b) (kk : K (.int .i64 (a / b)) R) : PW P w0 E (.binOp .quo t x y t') ty H R K :=
  pw_bin hx hy (fun w => by
    have h0 : ¬ b = 0 := by omega
    have h1 : 0 ≤ a / b := Int.ediv_nonneg ha (by omega)
    have h2 : a / b ≤ a := Int.ediv_le_self b ha
    have : a.tdiv b = a / b := Int.tdiv_eq_ediv_of_nonneg ha
    simp [binOp, Op.intDiv, h0, this, wrap_id (k := .i64) (n := a / b) (by simp [IntKind.min, IntKind.signed, IntKind.bits]; omega) (by simp [IntKind.max, IntKind.signed, IntKind.bits]; omega)]) kk
theorem pw_rem {t t' : TypeId} {x y : Operand} {a b : Int} (hx : ev E x = .int .i64 a) (hy : ev E y = .int .i64 b) (ha : 0 ≤ a) (hb : 0 < b) (kk : K (.int .i64 (a % b)) R) : PW P w0 E (.binOp .rem t x y t') ty H R K :=
  pw_bin hx hy (fun w => by
    have h0 : ¬ b = 0 := by omega
    simp [binOp, Op.intDiv, h0, Int.tmod_eq_emod_of_nonneg ha]) kk
theorem pw_lss {k : IntKind} {t t' : TypeId} {x y : Operand} {a b : Int} (hx : ev E x = .int k a) (hy : ev E y = .int k b) (kt : a < b → K (.bool true) R) (kf : ¬ a < b → K (.bool false) R) : PW P w0 E (.binOp .lss t x y t') ty H R K := by
  by_cases h : a < b
  · exact pw_bin hx hy (fun w => by simp [binOp, Op.intCmp, h]) (kt h)
  · exact pw_bin hx hy (fun w => by simp [binOp, Op.intCmp]; omega) (kf h)
theorem pw_leq {k : IntKind} {t t' : TypeId} {x y : Operand} {a b : Int} (hx : ev E x = .int k a) (hy : ev E y = .int k b) (kt : a ≤ b → K (.bool true) R) (kf : ¬ a ≤ b → K (.bool false) R) : PW P w0 E (.binOp .leq t x y t') ty H R K := by
  by_cases h : a ≤ b
  · exact pw_bin hx hy (fun w => by simp [binOp, Op.intCmp, h]) (kt h)
  · exact pw_bin hx hy (fun w => by simp [binOp, Op.intCmp]; omega) (kf h)
theorem pw_gtr {k : IntKind} {t t' : TypeId} {x y : Operand} {a b : Int} (hx : ev E x = .int k a) (hy : ev E y = .int k b) (kt : b < a → K (.bool true) R) (kf : ¬ b < a → K (.bool false) R) : PW P w0 E (.binOp .gtr t x y t') ty H R K := by
  by_cases h : b < a
  · exact pw_bin hx hy (fun w => by simp [binOp, Op.intCmp, h]) (kt h)
  · exact pw_bin hx hy (fun w => by simp [binOp, Op.intCmp]; omega) (kf h)
theorem pw_geq {k : IntKind} {t t' : TypeId} {x y : Operand} {a b : Int} (hx : ev E x = .int k a) (hy : ev E y = .int k b) (kt : b ≤ a → K (.bool true) R) (kf : ¬ b ≤ a → K (.bool false) R) : PW P w0 E (.binOp .geq t x y t') ty H R K := by
  by_cases h : b ≤ a
  · exact pw_bin hx hy (fun w => by simp [binOp, Op.intCmp, h]) (kt h)
  · exact pw_bin hx hy (fun w => by simp [binOp, Op.intCmp]; omega) (kf h)
theorem pw_eql {k : IntKind} {t t' : TypeId} {x y : Operand} {a b : Int} (hx : ev E x = .int k a) (hy : ev E y = .int k b) (kt : a = b → K (.bool true) R) (kf : ¬ a = b → K (.bool false) R) : PW P w0 E (.binOp .eql t x y t') ty H R K := by
  by_cases h : a = b
  · exact pw_bin hx hy (fun w => by simp [binOp, Op.intCmp, h]) (kt h)
  · exact pw_bin hx hy (fun w => by simp [binOp, Op.intCmp, h]) (kf h)
theorem pw_neq {k : IntKind} {t t' : TypeId} {x y : Operand} {a b : Int} (hx : ev E x = .int k a) (hy : ev E y = .int k b) (kt : ¬ a = b → K (.bool true) R) (kf : a = b → K (.bool false) R) : PW P w0 E (.binOp .neq t x y t') ty H R K := by
  by_cases h : a = b
  · exact pw_bin hx hy (fun w => by simp [binOp, Op.intCmp, h]) (kf h)
  · exact pw_bin hx hy (fun w => by simp [binOp, Op.intCmp, h]) (kt h)
theorem pw_conv {s d : TypeId} {x : Operand} {k k' : IntKind} {ds : TypeDesc} {a : Int} [hs : TyU P s ds] [hd : TyU P d (.int k')] (hx : ev E x = .int k a) (kk : K (.int k' (k'.wrap a)) R) : PW P w0 E (.convert s d x) ty H R K :=
  pw_val rfl (fun w _ => by
    rw [hx]
    simp only [convert, Sem.run_bind, run_underlying hs.und, run_underlying hd.und, Result.andThen_ok]
    cases ds <;> rfl) kk
theorem pw_not {t : TypeId} {x : Operand} {b : Bool} (hx : ev E x = .bool b) (kk : K (.bool (!b)) R) : PW P w0 E (.unOp .not t x) ty H R K :=
  pw_val rfl (fun w _ => by rw [hx]; rfl) kk
theorem pw_neg {t : TypeId} {x : Operand} {k : IntKind} {a : Int} (hx : ev E x = .int k a) (kk : K (.int k (k.wrap (0 - a))) R) : PW P w0 E (.unOp .neg t x) ty H R K :=
  pw_val rfl (fun w _ => by rw [hx]; rfl) kk
theorem pw_len {t : TypeId} {x : Operand} {e : TypeId} {A : Option Addr} {n c : Nat} [h : TyU P t (.slice e)] (hx : ev E x = .slice A n c) (kk : K (.int .i64 (n : Int)) R) : PW P w0 E (.call ⟨.builtin .len, #[x], #[t]⟩) ty H R K :=
  fun w s hs => ⟨_, R, fun w' _ => by simp [xop, execOp, resolve, invoke, builtin, Builtin.len_, hx, run_underlying h.und, goInt], fun _ h => h, hs.rd, kk⟩
theorem pw_lens {t : TypeId} {x : Operand} {s : ByteArray} [h : TyU P t .string] (hx : ev E x = .string s) (kk : K (.int .i64 (s.size : Int)) R) : PW P w0 E (.call ⟨.builtin .len, #[x], #[t]⟩) ty H R K :=
  fun w s hs => ⟨_, R, fun w' _ => by simp [xop, execOp, resolve, invoke, builtin, Builtin.len_, hx, run_underlying h.und, goInt], fun _ h => h, hs.rd, kk⟩

/-! ### slices that stay -/
theorem sl_at {α : Type} [Rep α] {s : Sto} (hs : ∀ p ∈ R, p.p s) {v : Value} {xs : List α} (hm : Sl v xs ∈ R) (i : Nat) (x : α) (hi : xs[i]? = some x) :
    ∃ b o c cs, v = .slice (some ⟨b, o, none⟩) xs.length c ∧ cs.length = Rep.size α ∧ ∀ p ∈ (At b (o + i * Rep.size α) cs :: Rd cs x :: R), p.p s := by
  obtain ⟨A, c, h1, h2, h3⟩ := hs _ hm
  obtain ⟨b, o, rfl, hl⟩ := h3 (by have := (List.getElem?_eq_some_iff.1 hi).1; omega)
  obtain ⟨cs, hr, hc⟩ := hl i x hi
  refine ⟨b, o, c, cs, h1, Rep.len hr, fun p hp => ?_⟩
  rcases List.mem_cons.1 hp with rfl | hp
  · exact hc
  · rcases List.mem_cons.1 hp with rfl | hp
    · exact hr
    · exact hs p hp
theorem S.sl_at {α : Type} [Rep α] {w : World} (hs : S w0 w H R) {v : Value} {xs : List α} (hm : Sl v xs ∈ R) (i : Nat) (x : α) (hi : xs[i]? = some x) :
    ∃ b o c cs, v = .slice (some ⟨b, o, none⟩) xs.length c ∧ cs.length = Rep.size α ∧ S w0 w H (At b (o + i * Rep.size α) cs :: Rd cs x :: R) := by
  obtain ⟨s, h⟩ := hs
  obtain ⟨b, o, c, cs, h1, h2, h3⟩ := Go.Proofs.Ytggdljhmbckpmaa.sl_at h.rd hm i x hi
  exact ⟨b, o, c, cs, h1, h2, s, h.more h3⟩
theorem indexAt_slice {t e : TypeId} {agg : Bool} {sz by_ : Nat} {z : Value} [h : TyU P t (.slice e)] [he : Ty P e agg sz by_ z] (b o n c : Nat) (k : IntKind) (i : Nat) (hi : i < n) (w : World) :
    (Instr.indexAt t (.slice (some ⟨b, o, none⟩) n c) (.int k (i : Int))).run P w = .ok (.pointer (some ⟨b, o + i * sz, none⟩)) w := by
  have ha : (⟨b, o, none⟩ : Addr).add (i * sz) = ⟨b, o + i * sz, none⟩ := by unfold Addr.add; split <;> simp_all
  have hb : (0 : Int) ≤ (i : Int) ∧ (i : Int) < (n : Int) := by omega
  simp [Instr.indexAt, asIntOf, run_underlying h.und, hb, he.size, ha, hi]
/-- 'xs[i]': its place, and what lies there. -/
theorem pw_index {α : Type} [Rep α] {t e : TypeId} {x ix : Operand} {agg : Bool} {sz by_ : Nat} {z : Value} [h : TyU P t (.slice e)] [he : Ty P e agg sz by_ z] {v : Value} {xs : List α} {k : IntKind} {i : Int} (hx : ev E x = v) (hix : ev E ix = .int k i) (hm : Sl v xs ∈ R) (hsz : Rep.size α = sz) (h0 : 0 ≤ i) (h1 : i < xs.length)
    (kk : ∀ b o cs (hl : i.toNat < xs.length), cs.length = sz → K (.pointer (some ⟨b, o, none⟩)) (At b o cs :: Rd cs (xs[i.toNat]'hl) :: R)) : PW P w0 E (.indexAddr t x ix) ty H R K := fun w s hs => by
  obtain ⟨i, rfl⟩ := Int.eq_ofNat_of_zero_le h0
  have hl : i < xs.length := by omega
  obtain ⟨b, o, c, cs, e1, hcl, hs'⟩ := sl_at hs.rd hm i xs[i] (List.getElem?_eq_getElem hl)
  refine ⟨.pointer (some ⟨b, o + i * sz, none⟩), _, fun w' _ => ?_, ?_, hs', by have := kk b (o + i * sz) cs (by simpa using hl) (by rw [← hsz]; exact hcl); rw [hsz]; exact this⟩
  · simp only [xop, execOp, hx, hix, e1, Sem.run_bind]
    rw [indexAt_slice (P := P) (t := t) b o xs.length c k i hl w']
    rfl
  · intro p hp; simp [hp]
/-- The same where the slice's place is known: nothing new is learned. -/
theorem pw_index_at {t e : TypeId} {x ix : Operand} {agg : Bool} {sz by_ : Nat} {z : Value} [h : TyU P t (.slice e)] [he : Ty P e agg sz by_ z] {b o n c : Nat} {k : IntKind} {i : Int} (hx : ev E x = .slice (some ⟨b, o, none⟩) n c) (hix : ev E ix = .int k i) (h0 : 0 ≤ i) (h1 : i < n)
    (kk : K (.pointer (some ⟨b, o + i.toNat * sz, none⟩)) R) : PW P w0 E (.indexAddr t x ix) ty H R K := by
  obtain ⟨i, rfl⟩ := Int.eq_ofNat_of_zero_le h0
  refine pw_val rfl (fun w hs => ?_) kk
  rw [hx, hix]
  exact indexAt_slice (P := P) (t := t) b o n c k i (by omega) w
end
end Go.Proofs.Ytggdljhmbckpmaa
