/- The rules that a walk takes most often, with the reading of the temporaries as a default: short words for printed texts. The small functions of package image: walks. The small functions of package image: walks (2). The functions of package image on drives: walks. -/
import Derived.Test.YtggdljhmbckpmaaA9J
import Derived.Test.YtggdljhmbckpmaaA7
import Derived.Test.YtggdljhmbckpmaaA7f0J
set_option linter.unusedVariables false
set_option linter.unusedSimpArgs false
namespace Go.Proofs.Ytggdljhmbckpmaa
open Go Go.RowKit
section
variable {F : Fence} {n : Nat} {P : Program} {w0 : World} {D : List Deferred} {ops : Array Oper} {Q : Exit → Act → World → Prop} {rest : List Oper} {E : List Value} {H Hc : List Hp} {R Rc : List MP} {ty : TypeId} {K : Value → List MP → Prop}
theorem T_nv {E' : List Value} (k : T F n P w0 D ops Q rest E' H R) (h : E = E' := by simp only [setD, List.set_cons_succ, List.set_cons_zero]; rfl) : T F n P w0 D ops Q rest E H R := T_env h k
theorem TA_nv {k : Nat} {listed : Array Bool} {E' : List Value} (kk : TA F n P w0 D ops Q Hc Rc k listed E' H R) (h : E = E' := by simp only [setD, List.set_cons_succ, List.set_cons_zero]; rfl) : TA F n P w0 D ops Q Hc Rc k listed E H R := TA_env h kk
theorem pw_mv {x : Operand} {v : Value} (k : K v R) (hx : ev E x = v := by simp only [ev, List.getD_cons_zero, List.getD_cons_succ]; rfl) : PW P w0 E (.move x) ty H R K := pw_move hx k
theorem pw_as {x : Operand} {v : Value} (k : K v R) (hx : ev E x = v := by simp only [ev, List.getD_cons_zero, List.getD_cons_succ]; rfl) : PW P w0 E (.assign x) ty H R K := pw_assign hx k
theorem T_hq {H' : List Hp} (k : T F n P w0 D ops Q rest E H' R) (h : H = H' := by simp only [List.set_cons_succ, List.set_cons_zero, List.eraseIdx_cons_zero, List.eraseIdx_cons_succ, overlay, List.take_succ_cons, List.take_zero, List.drop_succ_cons, List.drop_zero, List.length_cons, List.length_nil, Nat.zero_add, Nat.reduceAdd, List.nil_append, List.cons_append, List.append_nil]; rfl) : T F n P w0 D ops Q rest E H R := T_hp h k
theorem TA_hq {k : Nat} {listed : Array Bool} {H' : List Hp} (kk : TA F n P w0 D ops Q Hc Rc k listed E H' R) (h : H = H' := by simp only [List.set_cons_succ, List.set_cons_zero, List.eraseIdx_cons_zero, List.eraseIdx_cons_succ, overlay, List.take_succ_cons, List.take_zero, List.drop_succ_cons, List.drop_zero, List.length_cons, List.length_nil, Nat.zero_add, Nat.reduceAdd, List.nil_append, List.cons_append, List.append_nil]; rfl) : TA F n P w0 D ops Q Hc Rc k listed E H R := TA_hp h kk
end
/-! ### closers -/
theorem hpp {α : Sort _} {a b : α} (h : a = b := by simp only [List.set_cons_succ, List.set_cons_zero, List.eraseIdx_cons_zero, List.eraseIdx_cons_succ, overlay, List.take_succ_cons, List.take_zero, List.drop_succ_cons, List.drop_zero, List.length_cons, List.length_nil, Nat.zero_add, Nat.reduceAdd, List.nil_append, List.cons_append, List.append_nil]; rfl) : a = b := h
theorem nvp {α : Sort _} {a b : α} (h : a = b := by simp only [setD, List.set_cons_succ, List.set_cons_zero]; rfl) : a = b := h
theorem evp {a b : Value} (h : a = b := by simp only [ev, List.getD_cons_zero, List.getD_cons_succ]; rfl) : a = b := h
theorem clp {α : Sort _} {a b : α} (h : a = b := by simp only [ev, List.getD_cons_zero, List.getD_cons_succ, Value.cells]; rfl) : a = b := h
theorem agp {α : Sort _} {a b : α} (h : a = b := by simp only [List.map_cons, List.map_nil, ev, List.getD_cons_zero, List.getD_cons_succ]; rfl) : a = b := h
theorem arp {α : Sort _} {a b : α} (h : a = b := by simp only [List.map_cons, List.map_nil, List.nil_append, List.cons_append, List.append_nil, ev, List.getD_cons_zero, List.getD_cons_succ]; rfl) : a = b := h
theorem nep {α : Sort _} {a b : α} (h : a = b := by simp only [List.length_cons, List.length_nil, Nat.reduceAdd, Nat.reduceSub, List.replicate_succ, List.replicate_zero, List.cons_append, List.nil_append]; rfl) : a = b := h
theorem sjp {α : Sort _} {a b : α} (h : a = b := by simp only [setJ, List.foldl_cons, List.foldl_nil, List.set_cons_succ, List.set_cons_zero, List.getD_cons_zero, List.getD_cons_succ]) : a = b := h
theorem memr {α : Type _} {a : α} {l : List α} (h : a ∈ l := by repeat (first | with_reducible apply List.mem_cons_self | with_reducible assumption | with_reducible apply List.mem_cons_of_mem)) : a ∈ l := h
theorem memt {α : Type _} {a : α} {l : List α} (h : a ∈ l := by first | ((repeat (first | with_reducible apply List.mem_cons_self | with_reducible assumption | with_reducible apply List.mem_cons_of_mem)); done) | repeat (first | exact List.Mem.head _ | assumption | apply List.Mem.tail)) : a ∈ l := h
theorem memx {α : Type _} {a : α} {l : List α} (h : a ∈ l := by first | ((repeat (first | with_reducible apply List.mem_cons_self | with_reducible assumption | with_reducible apply List.mem_cons_of_mem)); done) | ((repeat (first | exact List.Mem.head _ | assumption | apply List.Mem.tail)); done)) : a ∈ l := h
theorem bldp {α : Sort _} {a b : α} (h : a = b := by repeat' first | refine buildL_cons rfl clp (by rfl) (by exact Nat.le_of_ble_eq_true rfl) (by simp only [setsAt]; rfl) ?_ | exact buildL_nil) : a = b := h
theorem prtp {α : Sort _} {a b : α} (h : a = b := by refine partsL_start ?_; repeat' first | refine partsL_step clp (by rfl) (by simp only [List.cons_append, List.nil_append]; rfl) ?_ | exact partsL_end) : a = b := h
theorem sbp {a b : List Hp} (h : a.Sublist b := by repeat (first | exact List.Sublist.refl _ | with_reducible apply List.Sublist.cons_cons | apply List.Sublist.cons)) : a.Sublist b := h
theorem kpp {R R' : List MP} (h : ∀ p ∈ R', p ∈ R := by first | (intro p hp; with_reducible exact hp) | (repeat' (first | with_reducible refine sub_cons memt ?_ | (intro p hp; repeat (first | with_reducible exact hp | with_reducible apply List.mem_cons_of_mem))))) : ∀ p ∈ R', p ∈ R := h
section
variable {F : Fence} {n : Nat} {P : Program} {w0 : World} {D : List Deferred} {ops : Array Oper} {Q : Exit → Act → World → Prop} {rest : List Oper} {E : List Value} {H Hc : List Hp} {R Rc : List MP}
theorem TA_ps [Wd F] (i : Nat) {dst : Option Tmp} {op : Op} {ty : TypeId} {pos : String} {aft : Array Edge} {g : Option (Nat × Bool)} {k : Nat} {listed listed' : Array Bool} (hS : Hc.Sublist H) (h : PW P w0 E op ty Hc R (fun v R' => TA F n P w0 D ops Q Hc R' k listed' (setD E dst v) H R'))
    (hi : ops[i]? = some ⟨dst, op, ty, pos, aft, g⟩ := by exact rfl) (hl : listed.setIfInBounds i true = listed' := by simp only [List.setIfInBounds_toArray, List.set_cons_succ, List.set_cons_zero]; rfl) (hf : (Region.free .any ops listed i && (Region.ready .any ops listed).contains i) = true := by decide +kernel)
    (hw : wnt ops ⟨dst, op, ty, pos, aft, g⟩ E = true := by exact rfl) (hd : notDefer op = true := by exact rfl) : TA F n P w0 D ops Q Hc R (k + 1) listed E H R := TA_pure i hi hf hl hw hd hS h
theorem TA_p [Wd F] (i : Nat) {dst : Option Tmp} {op : Op} {ty : TypeId} {pos : String} {aft : Array Edge} {g : Option (Nat × Bool)} {k : Nat} {listed listed' : Array Bool} (h : PW P w0 E op ty H R (fun v R' => TA F n P w0 D ops Q H R' k listed' (setD E dst v) H R'))
    (hi : ops[i]? = some ⟨dst, op, ty, pos, aft, g⟩ := by exact rfl) (hl : listed.setIfInBounds i true = listed' := by simp only [List.setIfInBounds_toArray, List.set_cons_succ, List.set_cons_zero]; rfl) (hf : (Region.free .any ops listed i && (Region.ready .any ops listed).contains i) = true := by decide +kernel)
    (hw : wnt ops ⟨dst, op, ty, pos, aft, g⟩ E = true := by exact rfl) (hd : notDefer op = true := by exact rfl) : TA F n P w0 D ops Q H R (k + 1) listed E H R := TA_pure i hi hf hl hw hd (List.Sublist.refl _) h
theorem TA_ks [Wd F] (i : Nat) {dst : Option Tmp} {op : Op} {ty : TypeId} {pos : String} {aft : Array Edge} {g : Option (Nat × Bool)} {k : Nat} {listed listed' : Array Bool} {E' : List Value} (hS : Hc.Sublist H) (h : TA F n P w0 D ops Q Hc R k listed' E' H R)
    (hi : ops[i]? = some ⟨dst, op, ty, pos, aft, g⟩ := by exact rfl) (hl : listed.setIfInBounds i true = listed' := by simp only [List.setIfInBounds_toArray, List.set_cons_succ, List.set_cons_zero]; rfl) (hf : (Region.free .any ops listed i && (Region.ready .any ops listed).contains i) = true := by decide +kernel)
    (hw : wnt ops ⟨dst, op, ty, pos, aft, g⟩ E = false := by exact rfl) (he : setD E dst undef = E' := by simp only [setD, List.set_cons_succ, List.set_cons_zero]; rfl) : TA F n P w0 D ops Q Hc R (k + 1) listed E H R := TA_skip i hi hf hl hw hS (TA_env he h)
theorem TA_o (i : Nat) {dst : Option Tmp} {op : Op} {ty : TypeId} {pos : String} {aft : Array Edge} {g : Option (Nat × Bool)} {k : Nat} {listed listed' : Array Bool} (h : OW F n P w0 D Q ⟨dst, op, ty, pos, aft, g⟩ E H R (fun v H' R' => ((∀ w, S w0 w H' R' → S w0 w Hc Rc) ∨ lastOp ops i = true) ∧ TA F n P w0 D ops Q Hc Rc k listed' (setD E dst v) H' R'))
    (hi : ops[i]? = some ⟨dst, op, ty, pos, aft, g⟩ := by exact rfl) (hl : listed.setIfInBounds i true = listed' := by simp only [List.setIfInBounds_toArray, List.set_cons_succ, List.set_cons_zero]; rfl) (hr : Region.ready .any ops listed = [i] := by decide +kernel) (hw : wnt ops ⟨dst, op, ty, pos, aft, g⟩ E = true := by exact rfl) : TA F n P w0 D ops Q Hc Rc (k + 1) listed E H R := TA_one i hr hi hl hw h
theorem TA_g [Wd F] (i : Nat) {dst : Option Tmp} {op : Op} {ty : TypeId} {pos : String} {aft : Array Edge} {g : Option (Nat × Bool)} {k : Nat} {listed listed' : Array Bool} (h : GW P w0 E op ty H R (fun v H' R' => ((∀ w, S w0 w H' R' → S w0 w Hc Rc) ∨ lastOp ops i = true) ∧ TA F n P w0 D ops Q Hc Rc k listed' (setD E dst v) H' R'))
    (hi : ops[i]? = some ⟨dst, op, ty, pos, aft, g⟩ := by exact rfl) (hl : listed.setIfInBounds i true = listed' := by simp only [List.setIfInBounds_toArray, List.set_cons_succ, List.set_cons_zero]; rfl) (hr : Region.ready .any ops listed = [i] := by decide +kernel) (hw : wnt ops ⟨dst, op, ty, pos, aft, g⟩ E = true := by exact rfl) (hd : notDefer op = true := by exact rfl) : TA F n P w0 D ops Q Hc Rc (k + 1) listed E H R := TA_gen i hr hi hl hw hd h
theorem TA_2 (i j : Nat) {di dj : Option Tmp} {oi oj : Op} {ti tj : TypeId} {pi pj : String} {ai aj : Array Edge} {gi gj : Option (Nat × Bool)} {k : Nat} {listed li lj : Array Bool}
    (h : OW F n P w0 D Q ⟨di, oi, ti, pi, ai, gi⟩ E H R (fun v H' R' => ((∀ w, S w0 w H' R' → S w0 w Hc Rc) ∨ lastOp ops i = true) ∧ TA F n P w0 D ops Q Hc Rc k li (setD E di v) H' R'))
    (h' : OW F n P w0 D Q ⟨dj, oj, tj, pj, aj, gj⟩ E H R (fun v H' R' => ((∀ w, S w0 w H' R' → S w0 w Hc Rc) ∨ lastOp ops j = true) ∧ TA F n P w0 D ops Q Hc Rc k lj (setD E dj v) H' R'))
    (ho : ops[i]? = some ⟨di, oi, ti, pi, ai, gi⟩ := by exact rfl) (ho' : ops[j]? = some ⟨dj, oj, tj, pj, aj, gj⟩ := by exact rfl) (hli : listed.setIfInBounds i true = li := by simp only [List.setIfInBounds_toArray, List.set_cons_succ, List.set_cons_zero]; rfl) (hlj : listed.setIfInBounds j true = lj := by simp only [List.setIfInBounds_toArray, List.set_cons_succ, List.set_cons_zero]; rfl) (hr : Region.ready .any ops listed = [i, j] := by decide +kernel)
    (hw : wnt ops ⟨di, oi, ti, pi, ai, gi⟩ E = true := by exact rfl) (hw' : wnt ops ⟨dj, oj, tj, pj, aj, gj⟩ E = true := by exact rfl) : TA F n P w0 D ops Q Hc Rc (k + 1) listed E H R := TA_two' i j hr ho ho' hli hlj hw hw' h h'
theorem TA_3 (i j l : Nat) {di dj dl : Option Tmp} {oi oj ol : Op} {ti tj tl : TypeId} {pi pj pl : String} {ai aj al : Array Edge} {gi gj gl : Option (Nat × Bool)} {k : Nat} {listed li lj ll : Array Bool}
    (h : OW F n P w0 D Q ⟨di, oi, ti, pi, ai, gi⟩ E H R (fun v H' R' => ((∀ w, S w0 w H' R' → S w0 w Hc Rc) ∨ lastOp ops i = true) ∧ TA F n P w0 D ops Q Hc Rc k li (setD E di v) H' R'))
    (h' : OW F n P w0 D Q ⟨dj, oj, tj, pj, aj, gj⟩ E H R (fun v H' R' => ((∀ w, S w0 w H' R' → S w0 w Hc Rc) ∨ lastOp ops j = true) ∧ TA F n P w0 D ops Q Hc Rc k lj (setD E dj v) H' R'))
    (h2 : OW F n P w0 D Q ⟨dl, ol, tl, pl, al, gl⟩ E H R (fun v H' R' => ((∀ w, S w0 w H' R' → S w0 w Hc Rc) ∨ lastOp ops l = true) ∧ TA F n P w0 D ops Q Hc Rc k ll (setD E dl v) H' R'))
    (ho : ops[i]? = some ⟨di, oi, ti, pi, ai, gi⟩ := by exact rfl) (ho' : ops[j]? = some ⟨dj, oj, tj, pj, aj, gj⟩ := by exact rfl) (ho2 : ops[l]? = some ⟨dl, ol, tl, pl, al, gl⟩ := by exact rfl) (hli : listed.setIfInBounds i true = li := by simp only [List.setIfInBounds_toArray, List.set_cons_succ, List.set_cons_zero]; rfl) (hlj : listed.setIfInBounds j true = lj := by simp only [List.setIfInBounds_toArray, List.set_cons_succ, List.set_cons_zero]; rfl) (hll : listed.setIfInBounds l true = ll := by simp only [List.setIfInBounds_toArray, List.set_cons_succ, List.set_cons_zero]; rfl) (hr : Region.ready .any ops listed = [i, j, l] := by decide +kernel)
    (hw : wnt ops ⟨di, oi, ti, pi, ai, gi⟩ E = true := by exact rfl) (hw' : wnt ops ⟨dj, oj, tj, pj, aj, gj⟩ E = true := by exact rfl) (hw2 : wnt ops ⟨dl, ol, tl, pl, al, gl⟩ E = true := by exact rfl) : TA F n P w0 D ops Q Hc Rc (k + 1) listed E H R := TA_three i j l hr ho ho' ho2 hli hlj hll hw hw' hw2 h h' h2
theorem TA_d {k : Nat} {listed : Array Bool} (h : En w0 D Q .normal E H R) (hr : (Region.ready .any ops listed).isEmpty = true := by decide +kernel) : TA F n P w0 D ops Q Hc Rc k listed E H R := TA_done hr h
end
end Go.Proofs.Ytggdljhmbckpmaa
namespace Go.Proofs.Ytggdljhmbckpmaa
open Go Go.RowKit
set_option maxRecDepth 100000
set_option maxHeartbeats 400000

def fnv (s : Nat) (c : UInt8) : Nat := ((s ^^^ c.toNat) * 16777619) % 4294967296
def sumB (xs : List UInt8) : Nat := xs.foldl fnv 2166136261
theorem fnv_lt (s : Nat) (c : UInt8) : fnv s c < 4294967296 := Nat.mod_lt _ (by omega)
theorem foldl_fnv_lt : ∀ (xs : List UInt8) (s : Nat), s < 4294967296 → xs.foldl fnv s < 4294967296
  | [], s, h => h
  | x :: xs, s, h => foldl_fnv_lt xs _ (fnv_lt s x)
theorem sumB_lt (xs : List UInt8) : sumB xs < 4294967296 := foldl_fnv_lt xs _ (by omega)

theorem fold_step (xs : List UInt8) (i : Nat) (hi : i < xs.length) : (xs.take (i + 1)).foldl fnv 2166136261 = fnv ((xs.take i).foldl fnv 2166136261) xs[i] := by
  rw [List.take_succ_eq_append_getElem hi, List.foldl_append, List.foldl_cons, List.foldl_nil]

theorem sum_k {w0 : World} {H : List Hp} {R : List MP} {K : Value → List Hp → List MP → Prop} (A : Option Addr) (c : Nat) (xs : List UInt8) (hb : xs.length ≤ 9223372036854775807) (hm : Sl (.slice A xs.length c) xs ∈ R)
    (k : K (.int .u32 (sumB xs : Nat)) H R) : CallsK Try.prog w0 101 #[.slice A xs.length c] H R K := by
  refine calls_of Try.func101 rfl Try.ntmps101 nep ?_
  repeat' (first | (apply TC_seq) | (apply TC_region) | (apply TC_block) | (apply T_nil) | (apply En_then) | (refine T_pure rfl rfl ?_; ((first | refine pw_mv ?_ | refine pw_as ?_ | refine pw_len rfl ?_)); refine T_nv ?_))
  refine TC_loopS [3, 5, 8, 9, 10, 11, 12, 13, 14, 15, 16, 17] (fun m j H' R' => H' = H ∧ R' = R ∧ ∃ i : Nat, i + m = xs.length ∧ j 8 = .int .i64 i ∧ j 3 = .int .u32 ((xs.take i).foldl fnv 2166136261 : Nat)) xs.length sjp ⟨rfl, rfl, 0, by omega, rfl, rfl⟩ ?_
  rintro m j H' R' ⟨rfl, rfl, i, hi, h8, h3⟩
  refine TC_env (by simp only [setJ, List.foldl_cons, List.foldl_nil, List.set_cons_succ, List.set_cons_zero, *]; rfl) ?_
  repeat' (first | (refine T_pure rfl rfl ?_; ((first | refine pw_conv_b32 rfl ?_ | refine pw_xor rfl rfl rfl (foldl_fnv_lt _ _ (by omega)) (Nat.lt_of_lt_of_le (UInt8.toNat_lt _) (by decide)) ?_ | refine pw_muln (b := 16777619) rfl rfl rfl ?_)); refine T_nv ?_) | (apply TC_seq) | (apply TC_region) | (apply TC_block) | (apply TC_ret) | (apply TC_skip) | (apply TC_exit) | (apply TC_cond_true; exact rfl) | (apply TC_cond_false; exact rfl) | (apply T_nil) | (apply En_then) | (apply En_then_exit) | (apply En_block) | (apply En_block_exit) | (apply T_load; exact rfl; ((refine pw_load_at0 rfl memr rfl ?_)); refine T_nv ?_) | (apply T_bin; exact rfl; ((refine pw_add64 rfl rfl (by omega) (by omega) ?_)); refine T_nv ?_) | (apply T_bin; exact rfl; ((refine pw_lss rfl rfl (fun h => ?_) (fun h => ?_))) <;> (refine T_nv ?_)) | (apply T_idx; exact rfl; ((refine pw_index_bN evp rfl memt (List.getElem?_eq_getElem (by omega)) (fun b o => ?_))); refine T_nv ?_) | (refine T_pure rfl rfl ?_; ((first | refine pw_mv ?_ | refine pw_as ?_)); refine T_nv ?_))
  · refine En_backS (m - 1) H' R' (by omega) sjp ⟨rfl, rfl, i + 1, by omega, rfl, ?_⟩ (fun w hs => hs.weaken (List.Sublist.refl _) (fun p hp => List.Mem.tail _ hp))
    exact congrArg (fun n : Nat => Value.int .u32 (n : Int)) (fold_step xs i (by omega)).symm
  · refine En_fin (.inl rfl) (res1 rfl (rv_tmp rfl)) (fin_K H' R' (fun _ h => h) ?_)
    rw [List.take_of_length_le (by omega)]
    exact k
end Go.Proofs.Ytggdljhmbckpmaa
namespace Go.Proofs.Ytggdljhmbckpmaa
open Go Go.RowKit
set_option maxRecDepth 100000
set_option maxHeartbeats 800000

theorem K_nat {K : Value → List Hp → List MP → Prop} {k : IntKind} {H : List Hp} {R : List MP} {a b : Nat} (h : a = b) (hk : K (.int k (b : Int)) H R) : K (.int k (a : Int)) H R := h ▸ hk

def four (a b c d : UInt8) : Nat := a.toNat ||| b.toNat * 2 ^ 8 % 2 ^ 32 ||| c.toNat * 2 ^ 16 % 2 ^ 32 ||| d.toNat * 2 ^ 24 % 2 ^ 32
def fourL (xs : List UInt8) : Nat := four (xs.getD 0 0) (xs.getD 1 0) (xs.getD 2 0) (xs.getD 3 0)
theorem getD_at (xs : List UInt8) (i : Nat) (h : i < xs.length) : xs.getD i 0 = xs[i] := by simp [List.getD, h]
theorem fourOf_k {w0 : World} {H : List Hp} {R : List MP} {K : Value → List Hp → List MP → Prop} (A : Option Addr) (c : Nat) (xs : List UInt8) (h4 : 4 ≤ xs.length) (hb : xs.length ≤ 9223372036854775807) (hm : Sl (.slice A xs.length c) xs ∈ R)
    (k : K (.int .u32 (fourL xs : Nat)) H R) : CallsK Try.prog w0 125 #[.slice A xs.length c] H R K := by
  refine calls_of Try.func125 rfl Try.ntmps125 nep ?_
  repeat' (first | (apply TC_seq) | (apply TC_region) | (apply T_nil) | (apply En_then) | (refine T_pure rfl rfl ?_; ((refine pw_as ?_)); refine T_nv ?_))
  refine TC_draw mixed (by decide +kernel) (fun _ _ _ _ _ _ h => h) (List.Sublist.refl _) ?_
  all_goals ((refine TA_p 0 ?_; ((refine pw_mv ?_)); refine TA_nv ?_))
  all_goals ((refine TA_p 1 ?_; ((refine pw_index_b evp rfl memt (List.getElem?_eq_getElem (by omega)) (by omega) (fun b o => ?_))); refine TA_nv ?_))
  all_goals ((refine TA_p 2 ?_; ((refine pw_load_at0 rfl memr rfl ?_)); refine TA_nv ?_))
  all_goals ((refine TA_p 3 ?_; ((refine pw_conv_b32 evp ?_)); refine TA_nv ?_))
  all_goals ((refine TA_p 4 ?_; ((refine pw_mv ?_)); refine TA_nv ?_))
  all_goals ((refine TA_p 5 ?_; ((refine pw_index_b evp rfl memt (List.getElem?_eq_getElem (by omega)) (by omega) (fun b o => ?_))); refine TA_nv ?_))
  all_goals ((refine TA_p 6 ?_; ((refine pw_load_at0 rfl memr rfl ?_)); refine TA_nv ?_))
  all_goals ((refine TA_p 7 ?_; ((refine pw_conv_b32 evp ?_)); refine TA_nv ?_))
  all_goals ((refine TA_p 8 ?_; ((refine pw_shl (n := 8) rfl rfl rfl (by decide) ?_)); refine TA_nv ?_))
  all_goals ((refine TA_p 9 ?_; ((refine pw_or rfl rfl rfl (by repeat' ((exact Nat.lt_of_lt_of_le (UInt8.toNat_lt _) (by decide)))) (by repeat' ((exact Nat.mod_lt _ (by decide)))) ?_)); refine TA_nv ?_))
  all_goals ((refine TA_p 10 ?_; ((refine pw_mv ?_)); refine TA_nv ?_))
  all_goals ((refine TA_p 11 ?_; ((refine pw_index_b evp rfl memt (List.getElem?_eq_getElem (by omega)) (by omega) (fun b o => ?_))); refine TA_nv ?_))
  all_goals ((refine TA_p 12 ?_; ((refine pw_load_at0 rfl memr rfl ?_)); refine TA_nv ?_))
  all_goals ((refine TA_p 13 ?_; ((refine pw_conv_b32 evp ?_)); refine TA_nv ?_))
  all_goals ((refine TA_p 14 ?_; ((refine pw_shl (n := 16) rfl rfl rfl (by decide) ?_)); refine TA_nv ?_))
  all_goals ((refine TA_p 15 ?_; ((refine pw_or rfl rfl rfl (by repeat' ((first | exact Nat.mod_lt _ (by decide) | exact Nat.lt_of_lt_of_le (UInt8.toNat_lt _) (by decide) | refine Nat.or_lt_two_pow ?_ ?_))) (by repeat' ((exact Nat.mod_lt _ (by decide)))) ?_)); refine TA_nv ?_))
  all_goals ((refine TA_p 16 ?_; ((refine pw_mv ?_)); refine TA_nv ?_))
  all_goals ((refine TA_p 17 ?_; ((refine pw_index_b evp rfl memt (List.getElem?_eq_getElem (by omega)) (by omega) (fun b o => ?_))); refine TA_nv ?_))
  all_goals ((refine TA_p 18 ?_; ((refine pw_load_at0 rfl memr rfl ?_)); refine TA_nv ?_))
  all_goals ((refine TA_p 19 ?_; ((refine pw_conv_b32 evp ?_)); refine TA_nv ?_))
  all_goals ((refine TA_p 20 ?_; ((refine pw_shl (n := 24) rfl rfl rfl (by decide) ?_)); refine TA_nv ?_))
  all_goals ((refine TA_p 21 ?_; ((refine pw_or rfl rfl rfl (by repeat' ((first | exact Nat.mod_lt _ (by decide) | exact Nat.lt_of_lt_of_le (UInt8.toNat_lt _) (by decide) | refine Nat.or_lt_two_pow ?_ ?_))) (by repeat' ((exact Nat.mod_lt _ (by decide)))) ?_)); refine TA_nv ?_))
  all_goals ((refine TA_p 22 ?_; ((refine pw_as ?_)); refine TA_nv ?_))
  all_goals refine TA_d ?_
  repeat' (first | (apply TC_ret) | (apply En_then))
  refine En_fin (.inl rfl) (res1 rfl (rv_tmp rfl)) (fin_K H R (fun w hs => hs.weaken (List.Sublist.refl _) (fun p hp => by simp [hp])) ?_)
  refine K_nat (b := fourL xs) ?_ k
  simp only [fourL, four, getD_at xs 0 (by omega), getD_at xs 1 (by omega), getD_at xs 2 (by omega), getD_at xs 3 (by omega)]
  rfl

def le4 (n : Nat) : List UInt8 := [UInt8.ofNat n, UInt8.ofNat (n / 256), UInt8.ofNat (n / 65536), UInt8.ofNat (n / 16777216)]
theorem byteV_ofNat (n : Nat) : Value.int .u8 ((n % 2 ^ IntKind.bits .u8 : Nat) : Int) = byteV (UInt8.ofNat n) := by simp [byteV, IntKind.bits]
theorem appendFour_k {w0 : World} {H : List Hp} {R : List MP} {K : Value → List Hp → List MP → Prop} (v : Value) (m n : Nat) (cs : List Value) (hb : m ≤ 1000000000) (hn : n < 4294967296)
    (k : ∀ v', K v' (.row v' 5 1 (m + 4) (cs ++ bytesV (le4 n)) :: H) R) : CallsK Try.prog w0 100 #[v, .int .u32 n] (.row v 5 1 m cs :: H) R K := by
  refine calls_of Try.func100 rfl Try.ntmps100 nep ?_
  repeat' (first | (refine T_pure rfl rfl ?_; ((first | refine pw_convn rfl rfl ?_ | refine pw_shr (n := 8) rfl rfl (by decide) ?_ | refine pw_shr (n := 16) rfl rfl (by decide) ?_ | refine pw_shr (n := 24) rfl rfl (by decide) ?_)); refine T_nv ?_) | (apply TC_seq) | (apply TC_region) | (apply T_nil) | (apply En_then) | (refine T_pure rfl rfl ?_; ((first | refine pw_mv ?_ | refine pw_as ?_)); refine T_nv ?_) | (refine T_gen rfl rfl ?_; ((refine gw_buildSlice (by decide) prtp rfl (fun b => ?_))); refine T_nv ?_))
  refine T_hp (H' := .blk b (bytesV (le4 n)) 5 :: .row v 5 1 m cs :: H) (by simp only [bytesV, le4, List.map_cons, List.map_nil, ← byteV_ofNat]) ?_
  refine T_gen rfl rfl ?_
  refine gw_append_blk 1 0 rfl rfl rfl rfl (by decide) (by simp [le4]) (bytesV_one _) (by omega) (by omega) (fun v' => ?_)
  refine T_nv ?_
  refine T_hq ?_
  repeat' (first | (apply TC_ret) | (apply T_nil) | (apply En_then) | (refine T_pure rfl rfl ?_; ((refine pw_as ?_)); refine T_nv ?_))
  refine En_fin (.inl rfl) (res1 rfl (rv_tmp rfl)) (fin_K _ R (fun w hs => hs.weaken (List.sublist_cons_self _ _) (fun p hp => hp)) (k v'))

/-- slices.Clone of bytes: a row of its own. -/
theorem clone_k {w0 : World} {H : List Hp} {R : List MP} {K : Value → List Hp → List MP → Prop} (A : Option Addr) (c : Nat) (xs : List UInt8) (hb : xs.length ≤ 140737488355328) (hm : Sl (.slice A xs.length c) xs ∈ R)
    (k : ∀ v', K v' (.row v' 5 1 xs.length (bytesV xs) :: H) R) : CallsK Try.prog w0 57 #[.slice A xs.length c] H R K := by
  refine CallsK_fact (p := A = none → xs = []) (fun w hs hA => ?_) (fun hnil => ?_)
  · obtain ⟨hn, hc⟩ := hs.sl_bytes hm
    rcases Nat.eq_zero_or_pos xs.length with h0 | h0
    · exact List.eq_nil_of_length_eq_zero h0
    · obtain ⟨b, o, e, _⟩ := hc h0
      rw [hA] at e; cases e
  refine calls_of Try.func57 rfl Try.ntmps57 nep ?_
  repeat' (first | (refine T_pure rfl rfl ?_; refine pw_eqnil rfl rfl (fun hA => ?_) (fun a hA => ?_) <;> refine T_nv ?_) | (apply TC_seq) | (apply TC_region) | (apply TC_ret) | (apply TC_skip) | (apply TC_cond_true; exact rfl) | (apply TC_cond_false; exact rfl) | (apply T_nil) | (apply En_then) | (apply En_then_ret) | (refine T_pure rfl rfl ?_; ((first | refine pw_mv ?_ | refine pw_as ?_)); refine T_nv ?_) | (refine T_gen rfl rfl ?_; ((refine gw_buildSlice (by decide) prtp rfl (fun b => ?_))); refine T_nv ?_))
  · have hx := hnil hA
    subst hx
    refine En_fin (.inl rfl) (res1 rfl (rv_tmp rfl)) (fin_K _ R (fun w hs => hs.nilrow 5 1) (k _))
  · skip
    repeat' (fail)
    refine T_weaken (.row (.slice (some ⟨b, 0, none⟩) 0 0) 5 1 0 [] :: H) R (fun w hs => hs.torow (i := 0) (cs := []) (sp := []) (n := 0) (cap := 0) (size := 1) rfl rfl rfl (by omega) (by decide)) ?_
    repeat' (fail)
    refine T_gen rfl rfl ?_
    refine gw_append_sl 0 rfl rfl memt rfl rfl (by omega) (by omega) (fun v' => ?_)
    refine T_nv ?_
    refine T_hp (by simp only [List.set_cons_zero, Nat.zero_add, List.nil_append]; rfl) ?_
    repeat' (first | (apply TC_ret) | (apply T_nil) | (apply En_then) | (refine T_pure rfl rfl ?_; ((refine pw_as ?_)); refine T_nv ?_))
    exact En_fin (.inl rfl) (res1 rfl (rv_tmp rfl)) (fin_K _ R (fun w hs => hs) (k v'))
end Go.Proofs.Ytggdljhmbckpmaa
namespace Go.Proofs.Ytggdljhmbckpmaa
open Go Go.RowKit
set_option maxRecDepth 100000
set_option maxHeartbeats 800000

def withinB (at_ n size : Int) : Bool := decide (0 ≤ at_ ∧ at_ ≤ size ∧ n ≤ size - at_)
theorem within_k {w0 : World} {H : List Hp} {R : List MP} {K : Value → List Hp → List MP → Prop} (a n s : Int) (ha : InI a) (hn : 0 ≤ n ∧ n ≤ 9223372036854775807) (hs : 0 ≤ s ∧ s ≤ 9223372036854775807)
    (k : K (.bool (withinB a n s)) H R) : CallsK Try.prog w0 62 #[.int .i64 a, .int .i64 n, .int .i64 s] H R K := by
  unfold withinB at k
  unfold InI at ha
  refine calls_of Try.func62 rfl Try.ntmps62 nep ?_
  repeat' (first | (apply TC_seq) | (apply TC_region) | (apply TC_ret) | (apply T_nil) | (apply En_then) | (apply T_bin; exact rfl; ((refine pw_sub64 rfl rfl (by omega) (by omega) ?_)); refine T_nv ?_) | (apply T_bin; exact rfl; ((first | refine pw_leq rfl rfl (fun h => ?_) (fun h => ?_) | refine pw_geq rfl rfl (fun h => ?_) (fun h => ?_))) <;> (refine T_nv ?_)) | (refine T_pure rfl rfl ?_; ((first | refine pw_mv ?_ | refine pw_as ?_ | refine pw_pick_t rfl evp ?_ | refine pw_pick_f rfl evp ?_)); refine T_nv ?_) | (refine T_skipped rfl ?_; refine T_nv ?_))
  all_goals
    refine En_fin (.inl rfl) (res1 rfl (rv_tmp rfl)) (fin_K H R (fun _ h => h) ?_)
    (first | (rw [decide_eq_false (by omega)] at k; exact k) | (rw [decide_eq_true (by omega)] at k; exact k))

theorem within_k2 {w0 : World} {H : List Hp} {R : List MP} {K : Value → List Hp → List MP → Prop} (a n s : Int) (ha : InI a) (hn : 0 ≤ n ∧ n ≤ 9223372036854775807) (hs : 0 ≤ s ∧ s ≤ 9223372036854775807)
    (kt : withinB a n s = true → K (.bool true) H R) (kf : withinB a n s = false → K (.bool false) H R) : CallsK Try.prog w0 62 #[.int .i64 a, .int .i64 n, .int .i64 s] H R K := by
  refine within_k a n s ha hn hs ?_
  cases h : withinB a n s
  · exact kf h
  · exact kt h

abbrev dv (A : Option Addr) (c : Nat) (A2 : Option Addr) (c2 : Nat) (d : Drive) : Value := .agg #[.slice A d.bytes.length c, .slice A2 d.pending.length c2]
def wOk (n : Nat) (w : DW) : Bool := withinB w.at_ (w.data.length : Int) (n : Int)
def checkD (d : Drive) : Bool := decide (64 ≤ d.bytes.length) && decide (d.bytes.length ≤ 600000) && decide (d.bytes.length % 2 = 0) && decide (d.pending.length ≤ 100) && d.pending.all (wOk d.bytes.length)
def errD (d : Drive) : Int := if checkD d then 0 else 301
theorem errD_no {d : Drive} (h : ¬ (64 ≤ d.bytes.length ∧ d.bytes.length ≤ 600000 ∧ d.bytes.length % 2 = 0 ∧ d.pending.length ≤ 100)) : errD d = 301 := by
  unfold errD checkD
  rw [if_neg]
  simp only [Bool.and_eq_true, decide_eq_true_eq]
  intro hh
  exact h ⟨hh.1.1.1.1, hh.1.1.1.2, hh.1.1.2, hh.1.2⟩
theorem errD_w {d : Drive} {i : Nat} (hi : i < d.pending.length) (h : wOk d.bytes.length d.pending[i] = false) : errD d = 301 := by
  unfold errD checkD
  rw [if_neg]
  simp only [Bool.and_eq_true]
  intro hh
  have := List.all_eq_true.1 hh.2 _ (List.getElem_mem hi)
  rw [h] at this; cases this
theorem errD_yes {d : Drive} (h : 64 ≤ d.bytes.length ∧ d.bytes.length ≤ 600000 ∧ d.bytes.length % 2 = 0 ∧ d.pending.length ≤ 100) (hw : ∀ i (hi : i < d.pending.length), wOk d.bytes.length d.pending[i] = true) : errD d = 0 := by
  unfold errD checkD
  rw [if_pos]
  simp only [Bool.and_eq_true, decide_eq_true_eq]
  refine ⟨⟨⟨⟨h.1, h.2.1⟩, h.2.2.1⟩, h.2.2.2⟩, List.all_eq_true.2 fun w hw' => ?_⟩
  obtain ⟨i, hi, rfl⟩ := List.mem_iff_getElem.1 hw'
  exact hw i hi
theorem K_int {K : Value → List Hp → List MP → Prop} {k : IntKind} {H : List Hp} {R : List MP} {a b : Int} (h : a = b) (hk : K (.int k b) H R) : K (.int k a) H R := h ▸ hk



theorem check_k {w0 : World} {H : List Hp} {R : List MP} {K : Value → List Hp → List MP → Prop} (A : Option Addr) (c : Nat) (A2 : Option Addr) (c2 : Nat) (d : Drive) (hb : d.bytes.length ≤ 9223372036854775807) (hp : d.pending.length ≤ 9223372036854775807)
    (hm : Sl (.slice A d.bytes.length c) d.bytes ∈ R) (hm2 : Sl (.slice A2 d.pending.length c2) d.pending ∈ R)
    (k : K (.int .i64 (errD d)) H R) : CallsK Try.prog w0 27 #[dv A c A2 c2 d] H R K := by
  refine calls_of Try.func27 rfl Try.ntmps27 nep ?_
  repeat' (first | (apply TC_seq) | (apply TC_region) | (apply TC_block) | (apply TC_ret) | (apply TC_skip) | (apply TC_cond_true; exact rfl) | (apply TC_cond_false; exact rfl) | (apply T_nil) | (apply En_then) | (apply En_then_ret) | (apply T_load; exact rfl; ((refine pw_load (i := 0) rfl rfl rfl ?_)); refine T_nv ?_) | (apply T_bin; exact rfl; ((refine pw_rem rfl rfl (by omega) (by omega) ?_)); refine T_nv ?_) | (apply T_bin; exact rfl; ((first | refine pw_lss rfl rfl (fun h => ?_) (fun h => ?_) | refine pw_gtr rfl rfl (fun h => ?_) (fun h => ?_) | refine pw_eql rfl rfl (fun h => ?_) (fun h => ?_))) <;> (refine T_nv ?_)) | (refine T_pure rfl rfl ?_; ((first | refine pw_mv ?_ | refine pw_as ?_ | refine pw_pick_t rfl evp ?_ | refine pw_pick_f rfl evp ?_ | refine pw_fieldAddr rfl ?_ | refine pw_len rfl ?_)); refine T_nv ?_) | (refine T_skipped rfl ?_; refine T_nv ?_) | (refine T_gen rfl rfl ?_; ((refine gw_box clp (fun b => ?_))); refine T_nv ?_))
  iterate 4
    · refine En_fin (.inl rfl) (res1 rfl (rv_tmp rfl)) (fin_K H R (fun w hs => hs.weaken (List.sublist_cons_self _ _) (fun p hp => hp)) ?_)
      exact K_int (errD_no (by omega)).symm k
  have hlen : 64 ≤ d.bytes.length ∧ d.bytes.length ≤ 600000 ∧ d.bytes.length % 2 = 0 ∧ d.pending.length ≤ 100 := by omega
  refine TC_loopS [2, 5, 29, 30, 31, 32, 33, 34, 35, 36, 37, 38, 39, 40, 41] (fun m j H' R' => .blk b [.slice A d.bytes.length c, .slice A2 d.pending.length c2] 45 :: H = H' ∧ R = R' ∧ ∃ i : Nat, i + m = d.pending.length ∧ j 29 = .int .i64 i ∧ ∀ l (hl : l < d.pending.length), l < i → wOk d.bytes.length d.pending[l] = true) d.pending.length sjp ⟨rfl, rfl, 0, by omega, rfl, fun l hl h => by omega⟩ ?_
  rintro m j H' R' ⟨hH, hR, i, hi, h29, hall⟩
  subst hH; subst hR
  refine TC_env (by simp only [setJ, List.foldl_cons, List.foldl_nil, List.set_cons_succ, List.set_cons_zero, *]; rfl) ?_
  have HA := Go.Lib.hid hall
  clear hall
  repeat' (first | (refine T_ow rfl ?_; refine ow_callf arp ?_; refine within_k2 _ _ _ hI ⟨by omega, by omega⟩ ⟨by omega, by omega⟩ (fun hB => ?_) (fun hB => ?_) <;> refine T_nv ?_) | (apply TC_seq) | (apply TC_region) | (apply TC_block) | (apply TC_ret) | (apply TC_skip) | (apply TC_exit) | (apply TC_cond_true; exact rfl) | (apply TC_cond_false; exact rfl) | (apply T_nil) | (apply En_then) | (apply En_then_ret) | (apply En_then_exit) | (apply En_block) | (apply En_block_ret) | (apply En_block_exit) | (apply T_load; exact rfl; ((first | refine pw_load (i := 0) rfl rfl rfl ?_ | refine pw_load_at0 rfl memr rfl ?_)); refine T_nv ?_) | (apply T_bin; exact rfl; ((refine pw_add64 rfl rfl (by omega) (by omega) ?_)); refine T_nv ?_) | (apply T_bin; exact rfl; ((refine pw_lss rfl rfl (fun h => ?_) (fun h => ?_))) <;> (refine T_nv ?_)) | (apply T_idx; exact rfl; ((refine pw_index_wN evp rfl memt (List.getElem?_eq_getElem (by omega)) (fun b o A c hI hL => ?_))); refine T_nv ?_) | (apply T_store; exact rfl; ((refine gw_store (i := 0) rfl clp rfl (by rfl) (by simp) (by simp [Value.oneCell']) ?_)); refine T_nv ?_; refine T_hq ?_) | (refine T_pure rfl rfl ?_; ((first | refine pw_mv ?_ | refine pw_as ?_ | refine pw_fieldAddr rfl ?_ | refine pw_len rfl ?_ | refine pw_not rfl ?_)); refine T_nv ?_) | (refine T_gen rfl rfl ?_; ((refine gw_alloc clp (fun b => ?_))); refine T_nv ?_))
  · refine En_backS (m - 1) _ R (by omega) sjp ⟨rfl, rfl, i + 1, by omega, rfl, fun l hl h => ?_⟩ (fun w hs => hs.weaken (by simp) (fun p hp => by simp [hp]))
    by_cases e : l = i
    · subst e; exact hB
    · exact HA.out l hl (by omega)
  · refine En_fin (.inl rfl) (res1 rfl (rv_tmp rfl)) (fin_K H R (fun w hs => hs.weaken (by simp) (fun p hp => by simp [hp])) ?_)
    exact K_int (errD_w (by omega) hB).symm k
  · refine En_fin (.inl rfl) (res1 rfl (rv_tmp rfl)) (fin_K H R (fun w hs => hs.weaken (by simp) (fun p hp => hp)) ?_)
    exact K_int (errD_yes hlen (fun l hl => HA.out l hl (by omega))).symm k
end Go.Proofs.Ytggdljhmbckpmaa
