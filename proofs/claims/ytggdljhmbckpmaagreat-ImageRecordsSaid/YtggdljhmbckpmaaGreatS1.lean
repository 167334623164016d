/- The law's helpers: sameRecords, same: walks. -/
import Derived.Test.YtggdljhmbckpmaaGreatF14
import Derived.Test.YtggdljhmbckpmaaGreatH1
import Derived.Test.YtggdljhmbckpmaaGreatAS
import Derived.Laws.StructEq
set_option linter.unusedVariables false
set_option linter.unusedSimpArgs false
namespace Go.Proofs.YtggdljhmbckpmaaGreat
open Go Go.RowKit
set_option maxRecDepth 100000
set_option maxHeartbeats 1600000

section
variable {w0 : World} {E : List Value} {H : List Hp} {R : List MP} {ty : TypeId} {K : Value → List MP → Prop}
theorem fields50 : (Tryz.prog.fieldsOf 135).toList.map (fun f => (decide (f.name = "_"), f.type, f.offset)) = [(false, 3, 0), (false, 3, 1), (false, 3, 2), (false, 3, 3)] := by kernel_rfl
theorem eqFields_ints (d : Nat) (xs ys : Array Value) : ∀ (fs : List Field) (l : List (Nat × Int)), fs.map (fun f => (decide (f.name = "_"), f.type, f.offset)) = l.map (fun p => (false, 3, p.1)) → (∀ p ∈ l, xs[p.1]? = some (.int .i64 p.2) ∧ ys[p.1]? = some (.int .i64 p.2)) → ∀ w : World, (Op.eqFields (d + 1) xs ys fs).run Tryz.prog w = .ok true w
  | [], [], _, _, w => by simp [Op.eqFields]
  | [], p :: l, h, _, w => by simp at h
  | f :: fs, [], h, _, w => by simp at h
  | f :: fs, p :: l, h, hp, w => by
    simp only [List.map_cons, List.cons.injEq, Prod.mk.injEq, decide_eq_false_iff_not] at h
    obtain ⟨⟨h1, h2, h3⟩, h4⟩ := h
    obtain ⟨h5, h6⟩ := hp p (by simp)
    have ih := eqFields_ints d xs ys fs l h4 (fun q hq => hp q (by simp [hq])) w
    have hpart : ∀ (zs : Array Value) (v : Value), zs[p.1]? = some v → (part f.type zs f.offset).run Tryz.prog w = .ok v w := fun zs v hv => by
      rw [h2, h3]
      simp [part, (ty3).agg, hv]
    unfold Op.eqFields
    rw [if_pos h1]
    simp only [Sem.run_bind, hpart _ _ h5, hpart _ _ h6, Result.andThen_ok]
    rw [h2, run_equalIn_int w d 3 .i64 .i64 p.2 p.2 (tu3).und]
    simp [ih]
theorem pw_neqR {t' : TypeId} {x y : Operand} {a b c d : Int} (hx : ev E x = .agg #[.int .i64 a, .int .i64 b, .int .i64 c, .int .i64 d]) (hy : ev E y = .agg #[.int .i64 a, .int .i64 b, .int .i64 c, .int .i64 d]) (kk : K (.bool false) R) : PW Tryz.prog w0 E (.binOp .neq 135 x y t') ty H R K :=
  pw_val rfl (fun w _ => by
    rw [hx, hy]
    have hg := run_eqGuard_agg (P := Tryz.prog) w .neq 135 x y #[.int .i64 a, .int .i64 b, .int .i64 c, .int .i64 d] #[.int .i64 a, .int .i64 b, .int .i64 c, .int .i64 d] (by kernel_rfl)
    have he := eqFields_ints 9998 #[.int .i64 a, .int .i64 b, .int .i64 c, .int .i64 d] #[.int .i64 a, .int .i64 b, .int .i64 c, .int .i64 d] _ [(0, a), (1, b), (2, c), (3, d)] fields50 (by simp) w
    have hs := run_equalIn_agg (P := Tryz.prog) w 9999 135 #[.int .i64 a, .int .i64 b, .int .i64 c, .int .i64 d] #[.int .i64 a, .int .i64 b, .int .i64 c, .int .i64 d] (by kernel_rfl) (by kernel_rfl)
    simp only [Sem.run_bind, hg, Result.andThen_ok, run_neq_struct, hs, he]; rfl) kk
end
section
variable {P : Program} {w0 : World} {E : List Value} {H : List Hp} {R : List MP} {ty : TypeId} {K : Value → List MP → Prop}
theorem pw_take {α : Type} [Rep α] {t e : TypeId} {x hi : Operand} {sz by_ : Nat} {zs : List Value} [ht : TyL P t e sz by_ zs] {A : Option Addr} {n c m : Nat} {xs : List α} (hx : ev E x = .slice A n c) (hm : Sl (.slice A n c) xs ∈ R) (hn : n = xs.length) (hsz : Rep.size α = sz) (hh : bnd E n (some hi) = some (m : Int)) (h2 : m ≤ xs.length)
    (kk : ∀ A' c', K (.slice A' m c') (Sl (.slice A' m c') (xs.take m) :: R)) : PW P w0 E (.slice t x none (some hi) none) ty H R K := by
  refine pw_slice_sl hx hm hn hsz rfl hh (Int.le_refl _) (by omega) (by omega) (fun A' c' => ?_)
  have e1 : (m : Int).toNat - (0 : Int).toNat = m := by simp
  have e2 : (xs.take (m : Int).toNat).drop (0 : Int).toNat = xs.take m := by simp
  rw [e1, e2]
  exact kk A' c'
/-- An element of the records that are returned. -/
theorem pw_index_rL {t e : TypeId} {x ix : Operand} {agg : Bool} {by_ : Nat} {z0 : Value} [h : TyU P t (.slice e)] [he : Ty P e agg 4 by_ z0] {v : Value} {lR : List RecD} {l : List Rc} {k : IntKind} {z : Int} (i : Nat) {r : Rc} (hx : ev E x = v) (hix : ev E ix = .int k z) (hm : Sl v lR ∈ R) (hlR : lR = l.map Rc.toR) (hr : l[i]? = some r) (hz : z = (i : Int))
    (kk : ∀ b o, K (.pointer (some ⟨b, o, none⟩)) (At b o [.int .i64 (r.at_ : Int), .int .i64 (r.epoch : Int), .int .i64 (r.seq : Int), .int .i64 (r.data.length : Int)] :: R)) : PW P w0 E (.indexAddr t x ix) ty H R K := by
  subst hz
  exact pw_index_rN (d := r.toR) hx hix hm (by rw [hlR, List.getElem?_map, hr]; rfl) (fun b o _ => kk b o)
end
theorem sameRecords_k {w0 : World} {H : List Hp} {R : List MP} {K : Value → List Hp → List MP → Prop} (A : Option Addr) (m c : Nat) (A2 : Option Addr) (m2 c2 : Nat) (xs : List RecD) (hx : xs.length ≤ 9223372036854775806) (e1 : m = xs.length) (e2 : m2 = xs.length) (h1 : Sl (.slice A m c) xs ∈ R) (h2 : Sl (.slice A2 m2 c2) xs ∈ R)
    (k : K (.bool true) H R) : CallsK Tryz.prog w0 20 #[.slice A m c, .slice A2 m2 c2] H R K := by
  subst e1; subst e2
  refine calls_of Tryz.func20 rfl Tryz.ntmps20 nep ?_
  repeat' (first | (apply T_bin; exact rfl; refine pw_neq rfl rfl (fun h => absurd rfl h) (fun hh => ?_); refine T_nv ?_) | (apply TC_seq) | (apply TC_region) | (apply TC_block) | (apply TC_skip) | (apply TC_cond_false; exact rfl) | (apply T_nil) | (apply En_then) | (refine T_pure rfl rfl ?_; ((first | refine pw_mv ?_ | refine pw_as ?_ | refine pw_len rfl ?_)); refine T_nv ?_))
  refine TC_loopS [4, 5, 11, 12, 13, 14, 15, 16, 17, 18, 19, 20, 21, 22, 23, 24, 25] (fun m j H' R' => H = H' ∧ R = R' ∧ ∃ i : Nat, i + m = xs.length ∧ j 5 = .int .i64 (i : Int)) xs.length sjp ⟨rfl, rfl, 0, by omega, rfl⟩ ?_
  rintro m j H' R' ⟨hH, hR, i, hi, h5⟩
  subst hH; subst hR
  refine TC_env (by simp only [setJ, List.foldl_cons, List.foldl_nil, List.set_cons_succ, List.set_cons_zero, h5]; rfl) ?_
  repeat' (first | (apply TC_seq) | (apply TC_region) | (apply TC_block) | (apply TC_ret) | (apply TC_skip) | (apply TC_exit) | (apply TC_cond_true; exact rfl) | (apply TC_cond_false; exact rfl) | (apply T_nil) | (apply En_then) | (apply En_then_exit) | (apply En_block_exit) | (apply T_bin; exact rfl; ((refine pw_lss rfl rfl (fun h => ?_) (fun h => ?_))) <;> (refine T_nv ?_)) | (refine T_pure rfl rfl ?_; ((first | refine pw_mv ?_ | refine pw_as ?_ | refine pw_len rfl ?_)); refine T_nv ?_))
  · skip
    refine TC_draw mixed (by decide +kernel) (fun _ _ _ _ _ _ h => h) (List.Sublist.refl _) ?_
    all_goals ((refine TA_p 0 ?_; ((refine pw_mv ?_)); refine TA_nv ?_))
    all_goals ((refine TA_p 1 ?_; ((refine pw_mv ?_)); refine TA_nv ?_))
    all_goals ((refine TA_p 2 ?_; ((refine pw_index_rN evp rfl memt (List.getElem?_eq_getElem (by omega)) (fun b o hI => ?_))); refine TA_nv ?_))
    all_goals ((refine TA_p 3 ?_; ((refine pw_load_at0 rfl memr rfl ?_)); refine TA_nv ?_))
    all_goals ((refine TA_p 4 ?_; ((refine pw_mv ?_)); refine TA_nv ?_))
    all_goals ((refine TA_p 5 ?_; ((refine pw_mv ?_)); refine TA_nv ?_))
    all_goals ((refine TA_p 6 ?_; ((refine pw_index_rN evp rfl memt (List.getElem?_eq_getElem (by omega)) (fun b o hI => ?_))); refine TA_nv ?_))
    all_goals ((refine TA_p 7 ?_; ((refine pw_load_at0 rfl memr rfl ?_)); refine TA_nv ?_))
    all_goals ((refine TA_p 8 ?_; ((refine pw_neqR rfl rfl ?_)); refine TA_nv ?_))
    all_goals refine TA_d ?_
    repeat' (first | (apply TC_region) | (apply TC_skip) | (apply TC_cond_false; exact rfl) | (apply T_nil) | (apply En_then) | (apply En_block) | (apply T_bin; exact rfl; ((refine pw_add64 rfl rfl (by omega) (by omega) ?_)); refine T_nv ?_) | (refine T_pure rfl rfl ?_; ((first | refine pw_mv ?_ | refine pw_as ?_)); refine T_nv ?_))
    refine En_backS (m - 1) _ R (by omega) sjp ⟨rfl, rfl, i + 1, by omega, rfl⟩ (fun w hs => hs.weaken sbp kpp)
  · skip
    repeat' (fail)
    exact En_fin (.inl rfl) (res1 rfl (rv_tmp rfl)) (fin_K H R (fun w hs => hs.weaken sbp kpp) k)
end Go.Proofs.YtggdljhmbckpmaaGreat
