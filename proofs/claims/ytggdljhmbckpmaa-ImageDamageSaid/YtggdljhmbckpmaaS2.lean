/- The law's helpers: same, contents: walks. -/
import Derived.Test.YtggdljhmbckpmaaS1
import Derived.Test.YtggdljhmbckpmaaG1
import Derived.Test.YtggdljhmbckpmaaQQ
import Derived.Test.YtggdljhmbckpmaaA14
set_option linter.unusedVariables false
set_option linter.unusedSimpArgs false
namespace Go.Proofs.Ytggdljhmbckpmaa
open Go Go.RowKit
set_option maxRecDepth 100000
set_option maxHeartbeats 1600000

instance : Unp ByteArray := ⟨Unit, fun n _ => [.string n], fun n _ => n.size ≤ maxL, fun _ _ => [], fun h => ⟨(), h.1, h.2, fun _ h => by cases h⟩, fun h _ => ⟨rfl, h⟩⟩
theorem strV_inj {xs ys : List UInt8} (h : strV xs = strV ys) : xs = ys := by
  have := congrArg ByteArray.toList h
  rwa [strV_toList, strV_toList] at this
section
variable {P : Program} {w0 : World} {E : List Value} {H : List Hp} {R : List MP} {ty : TypeId} {K : Value → List MP → Prop}
theorem pw_index_s {t e : TypeId} {x ix : Operand} {agg : Bool} {by_ : Nat} {z0 : Value} [h : TyU P t (.slice e)] [he : Ty P e agg 1 by_ z0] {v : Value} {l : List (List UInt8)} {k : IntKind} {z : Int} (i : Nat) {r : List UInt8} (hx : ev E x = v) (hix : ev E ix = .int k z) (hm : Sl v (l.map strV) ∈ R) (hr : l[i]? = some r) (hz : z = (i : Int))
    (kk : ∀ b o, K (.pointer (some ⟨b, o, none⟩)) (At b o [.string (strV r)] :: R)) : PW P w0 E (.indexAddr t x ix) ty H R K := by
  subst hz
  exact pw_indexU (d := strV r) hx hix hm rfl (by rw [Int.toNat_natCast, List.getElem?_map, hr]; rfl) (by omega) (fun b o _ _ => kk b o)
theorem pw_neqs {t t' : TypeId} {x y : Operand} {xs ys : List UInt8} (hx : ev E x = .string (strV xs)) (hy : ev E y = .string (strV ys)) (kt : xs ≠ ys → K (.bool true) R) (kf : xs = ys → K (.bool false) R) : PW P w0 E (.binOp .neq t x y t') ty H R K := by
  have hg : ∀ w : World, (eqGuard .neq t x y (.string (strV xs)) (.string (strV ys))).run P w = .ok () w := fun w => by cases x <;> cases y <;> rfl
  by_cases h : xs = ys
  · exact pw_val rfl (fun w _ => by
      rw [hx, hy]
      simp only [Sem.run_bind, hg, Result.andThen_ok, binOp_string_neq, strV_toList, Sem.run_pure]
      simp [h]) (kf h)
  · exact pw_val rfl (fun w _ => by
      rw [hx, hy]
      simp only [Sem.run_bind, hg, Result.andThen_ok, binOp_string_neq, strV_toList, Sem.run_pure]
      simp [h]) (kt h)
end
theorem same_k {w0 : World} {H : List Hp} {R : List MP} {K : Value → List Hp → List MP → Prop} (A : Option Addr) (m c : Nat) (A2 : Option Addr) (m2 c2 : Nat) (us vs : List (List UInt8)) (hx : us.length ≤ 9223372036854775806) (e1 : m = us.length) (e2 : m2 = vs.length) (h1 : Sl (.slice A m c) (us.map strV) ∈ R) (h2 : Sl (.slice A2 m2 c2) (vs.map strV) ∈ R)
    (kt : us = vs → K (.bool true) H R) (kf : us ≠ vs → K (.bool false) H R) : CallsK Try.prog w0 31 #[.slice A m c, .slice A2 m2 c2] H R K := by
  subst e1; subst e2
  refine calls_of Try.func31 rfl Try.ntmps31 nep ?_
  repeat' (first | (apply TC_seq) | (apply TC_region) | (apply TC_block) | (apply TC_ret) | (apply TC_skip) | (apply TC_cond_true; exact rfl) | (apply TC_cond_false; exact rfl) | (apply T_nil) | (apply En_then) | (apply En_then_ret) | (apply T_bin; exact rfl; ((refine pw_neq rfl rfl (fun h => ?_) (fun h => ?_))) <;> (refine T_nv ?_)) | (refine T_pure rfl rfl ?_; ((first | refine pw_mv ?_ | refine pw_as ?_ | refine pw_len rfl ?_)); refine T_nv ?_))
  · exact En_fin (.inl rfl) (res1 rfl (rv_tmp rfl)) (fin_K H R (fun w hs => hs.weaken sbp kpp) (kf (fun h => by subst h; contradiction)))
  have hl : us.length = vs.length := by omega
  refine TC_loopS [4, 5, 11, 12, 13, 14, 15, 16, 17, 18, 19, 20, 21, 22, 23, 24, 25] (fun m j H' R' => H = H' ∧ R = R' ∧ ∃ i : Nat, i + m = us.length ∧ j 5 = .int .i64 (i : Int) ∧ ∀ q, q < i → us[q]? = vs[q]?) us.length sjp ⟨rfl, rfl, 0, by omega, rfl, fun q hq => by omega⟩ ?_
  rintro m j H' R' ⟨hH, hR, i, hi, h5, hq⟩
  subst hH; subst hR
  refine TC_env (by simp only [setJ, List.foldl_cons, List.foldl_nil, List.set_cons_succ, List.set_cons_zero, h5]; rfl) ?_
  have HQ := Go.Lib.hid hq
  clear hq
  by_cases hil : i < us.length
  · obtain ⟨a, ha⟩ : ∃ a, us[i]? = some a := ⟨_, List.getElem?_eq_getElem hil⟩
    obtain ⟨b', hb'⟩ : ∃ b', vs[i]? = some b' := ⟨_, List.getElem?_eq_getElem (by omega)⟩
    repeat' (first | (apply TC_seq) | (apply TC_region) | (apply TC_block) | (apply TC_skip) | (apply TC_cond_true; exact rfl) | (apply T_nil) | (apply En_then) | (apply T_bin; exact rfl; ((refine pw_lss rfl rfl (fun h => ?_) (fun h => ?_))) <;> (first | (exfalso; omega) | refine T_nv ?_)) | (refine T_pure rfl rfl ?_; ((first | refine pw_mv ?_ | refine pw_len rfl ?_)); refine T_nv ?_))
    refine TC_draw mixed (by decide +kernel) (fun _ _ _ _ _ _ h => h) (List.Sublist.refl _) ?_
    all_goals ((refine TA_p 0 ?_; ((refine pw_mv ?_)); refine TA_nv ?_))
    all_goals ((refine TA_p 1 ?_; ((refine pw_mv ?_)); refine TA_nv ?_))
    all_goals ((refine TA_p 2 ?_; ((refine pw_index_s (v := .slice A us.length c) (l := us) i rfl rfl memt ha rfl (fun b o => ?_))); refine TA_nv ?_))
    all_goals ((refine TA_p 3 ?_; ((refine pw_load_at0 rfl memr rfl ?_)); refine TA_nv ?_))
    all_goals ((refine TA_p 4 ?_; ((refine pw_mv ?_)); refine TA_nv ?_))
    all_goals ((refine TA_p 5 ?_; ((refine pw_mv ?_)); refine TA_nv ?_))
    all_goals ((refine TA_p 6 ?_; ((refine pw_index_s (v := .slice A2 vs.length c2) (l := vs) i rfl rfl memt hb' rfl (fun b o => ?_))); refine TA_nv ?_))
    all_goals ((refine TA_p 7 ?_; ((refine pw_load_at0 rfl memr rfl ?_)); refine TA_nv ?_))
    all_goals ((refine TA_p 8 ?_; ((refine pw_neqs rfl rfl (fun hh => ?_) (fun hh => ?_))); refine TA_nv ?_))
    all_goals refine TA_d ?_
    · skip
      repeat' (first | (apply TC_seq) | (apply TC_region) | (apply TC_ret) | (apply TC_cond_true; exact rfl) | (apply T_nil) | (apply En_then) | (apply En_then_ret) | (apply En_block_ret) | (refine T_pure rfl rfl ?_; ((refine pw_as ?_)); refine T_nv ?_))
      exact En_fin (.inl rfl) (res1 rfl (rv_tmp rfl)) (fin_K H R (fun w hs => hs.weaken sbp kpp) (kf (fun h => by subst h; rw [ha] at hb'; injection hb' with hb'; contradiction)))
    · skip
      repeat' (first | (apply TC_region) | (apply TC_skip) | (apply TC_cond_false; exact rfl) | (apply T_nil) | (apply En_then) | (apply En_block) | (apply T_bin; exact rfl; ((refine pw_add64 rfl rfl (by omega) (by omega) ?_)); refine T_nv ?_) | (refine T_pure rfl rfl ?_; ((first | refine pw_mv ?_ | refine pw_as ?_)); refine T_nv ?_))
      refine En_backS (m - 1) _ R (by omega) sjp ⟨rfl, rfl, i + 1, by omega, rfl, fun q hq => ?_⟩ (fun w hs => hs.weaken sbp kpp)
      by_cases e : q = i
      · subst e; rw [ha, hb', hh]
      · exact HQ.out q (by omega)
  · skip
    repeat' (first | (apply TC_seq) | (apply TC_region) | (apply TC_ret) | (apply TC_exit) | (apply TC_cond_false; exact rfl) | (apply T_nil) | (apply En_then) | (apply En_then_exit) | (apply En_block_exit) | (apply T_bin; exact rfl; ((refine pw_lss rfl rfl (fun h => ?_) (fun h => ?_))) <;> (first | (exfalso; omega) | refine T_nv ?_)) | (refine T_pure rfl rfl ?_; ((first | refine pw_mv ?_ | refine pw_as ?_ | refine pw_len rfl ?_)); refine T_nv ?_))
    refine En_fin (.inl rfl) (res1 rfl (rv_tmp rfl)) (fin_K H R (fun w hs => hs.weaken sbp kpp) (kt ?_))
    apply List.ext_getElem?
    intro q
    by_cases hq : q < i
    · exact HQ.out q hq
    · rw [List.getElem?_eq_none (by omega), List.getElem?_eq_none (by omega)]

/-- The contents and whether there are any are returned, for good. -/
def KS (K : Value → List Hp → List MP → Prop) (r : List (List UInt8) × Bool) (H : List Hp) (R : List MP) : Prop := ∀ A c, K (.tuple #[.slice A r.1.length c, .bool r.2]) H (Sl (.slice A r.1.length c) (r.1.map strV) :: R)
theorem KS_eq {K : Value → List Hp → List MP → Prop} {r r' : List (List UInt8) × Bool} {H : List Hp} {R : List MP} (e : r = r') (h : KS K r H R) : KS K r' H R := e ▸ h
theorem KS_lit {K : Value → List Hp → List MP → Prop} {r : List (List UInt8) × Bool} {H : List Hp} {R : List MP} {n : Nat} (u : List (List UInt8)) (j : Bool) (e : r = (u, j)) (hn : u.length = n) (h : ∀ A c, K (.tuple #[.slice A n c, .bool j]) H (Sl (.slice A n c) (u.map strV) :: R)) : KS K r H R := by
  subst e; subst hn; exact h
theorem contents_k {w0 : World} {H : List Hp} {R : List MP} {K : Value → List Hp → List MP → Prop} (A0 : Option Addr) (c0 : Nat) (A2 : Option Addr) (c2 : Nat) (d : Drive) (hb : d.bytes.length ≤ 9223372036854775807) (hp : d.pending.length ≤ 9223372036854775807)
    (hm : Sl (.slice A0 d.bytes.length c0) d.bytes ∈ R) (hm2 : Sl (.slice A2 d.pending.length c2) d.pending ∈ R)
    (k : KS K (contD d) H R) : CallsK Try.prog w0 30 #[dv A0 c0 A2 c2 d] H R K := by
  by_cases hc : checkD d = true
  · obtain ⟨⟨l, half⟩, hcur⟩ : ∃ r, curB (hasB d) = r := ⟨_, rfl⟩
    have hrec : recordsD d = (l.map Rc.toR, 0) := by unfold recordsD; rw [if_pos hc, hcur]
    have hread : readD d = (hasB d, 0) := by unfold readD; rw [if_pos hc]
    have k' := KS_eq (r' := (l.map Rc.data, true)) (by unfold contD; rw [if_pos hc, hcur]) k
    have hlen := hasB_length hc
    have h6 := (checkD_spec hc).2.1
    obtain ⟨size, hsz⟩ : ∃ size, (hasB d).length = 2 * size := ⟨(hasB d).length / 2, by have := (checkD_spec hc).2.2.1; omega⟩
    have hl6 : l.length ≤ 600000 := by have := curB_len (b := hasB d) (by omega); rw [hcur] at this; exact this
    have hch := fun i r (hi : l[i]? = some r) => cur_rec hsz (by omega) hcur i r hi
    have HC := Go.Lib.hid hch
    clear hch
    obtain ⟨bb, hbb⟩ : ∃ bb, hasB d = bb := ⟨_, rfl⟩
    rw [hbb] at hread hlen hsz HC
    clear hcur
    refine calls_of Try.func30 rfl Try.ntmps30 nep ?_
    repeat' (first | (refine T_gen rfl rfl ?_; refine gw_box clp (fun b1 => ?_); refine T_nv ?_) | (refine T_ow rfl ?_; refine ow_callf arp ?_; refine records_k _ _ _ _ d hb hp hm hm2 (KR_lit (l.map Rc.toR) 0 hrec (by simp : (l.map Rc.toR).length = l.length) (fun AR cR => ?_)); refine T_nv ?_) | (refine T_ow rfl ?_; refine ow_callf arp ?_; refine read_k _ _ _ _ d hb hp memt memt (KB_lit bb 0 hread rfl (fun Ab cb => ?_)); refine T_nv ?_) | (apply TC_seq) | (apply TC_region) | (apply TC_block) | (apply TC_skip) | (apply TC_cond_false; exact rfl) | (apply T_nil) | (apply En_then) | (apply T_load; exact rfl; ((refine pw_load (i := 0) rfl rfl rfl ?_)); refine T_nv ?_) | (apply T_bin; exact rfl; ((refine pw_neq rfl rfl (fun h => ?_) (fun h => ?_))) <;> (first | (exfalso; omega) | refine T_nv ?_)) | (refine T_pure rfl rfl ?_; ((first | refine pw_mv ?_ | refine pw_as ?_ | refine pw_pick_f rfl evp ?_ | refine pw_extract rfl rfl ?_)); refine T_nv ?_))
    refine TC_weaken (.blk b1 [.slice A0 d.bytes.length c0, .slice A2 d.pending.length c2] 45 :: H) (Sl (.slice Ab bb.length cb) bb :: Sl (.slice AR l.length cR) (l.map Rc.toR) :: R) (fun w hs => hs.weaken sbp kpp) ?_
    refine TC_nilrow 9 1 ?_
    refine TC_learn (Cx [] ([] : List ByteArray)) (fun s _ => Cx_nil s) ?_
    refine TC_loopS [2, 3, 8, 9, 26, 27, 28, 29, 30, 31, 32, 33, 34, 35, 36, 37, 38, 39, 40, 41, 42, 43, 44, 45, 46, 47, 48, 49, 50, 51, 52, 53, 54, 55, 56, 57, 58, 59, 60, 61, 62, 63, 64, 65, 66, 67, 68, 69, 70, 71, 72, 73, 74, 75, 76, 77, 78, 79, 80, 81, 82, 83, 84, 85, 86] (fun m j H' R' => ∃ i : Nat, i + m = l.length ∧ j 9 = .int .i64 i ∧ ∃ pv cs, j 8 = pv ∧ (Cx cs (((l.take i).map Rc.data).map strV) :: Sl (.slice Ab bb.length cb) bb :: Sl (.slice AR l.length cR) (l.map Rc.toR) :: R) = R' ∧
      (.row pv 9 1 i cs :: .blk b1 [.slice A0 d.bytes.length c0, .slice A2 d.pending.length c2] 45 :: H) = H') l.length sjp ⟨0, by omega, rfl, _, [], rfl, rfl, rfl⟩ ?_
    rintro m j H' R' ⟨i, hi, h9, pv, cs, h8, hR, hH⟩
    subst hH; subst hR
    refine TC_env (by simp only [setJ, List.foldl_cons, List.foldl_nil, List.set_cons_succ, List.set_cons_zero, h9, h8]; rfl) ?_
    by_cases hil : i < l.length
    · obtain ⟨r, hr⟩ : ∃ r, l[i]? = some r := ⟨_, List.getElem?_eq_getElem hil⟩
      obtain ⟨q1, q2, q3, q4, q5, q6, q7, q8⟩ := HC.out i r hr
      have hdata : (bb.take ((r.at_ : Int) + 17 + (r.data.length : Int)).toNat).drop ((r.at_ : Int) + 17).toNat = r.data := by
        rw [show ((r.at_ : Int) + 17 + (r.data.length : Int)).toNat = r.at_ + 17 + r.data.length by omega, show ((r.at_ : Int) + 17).toNat = r.at_ + 17 by omega]; exact q8
      repeat' (first | (apply TC_seq) | (apply TC_region) | (apply TC_block) | (apply TC_skip) | (apply TC_cond_true; exact rfl) | (apply T_nil) | (apply En_then) | (apply T_bin; exact rfl; ((refine pw_lss rfl rfl (fun h => ?_) (fun h => ?_))) <;> (first | (exfalso; omega) | refine T_nv ?_)) | (refine T_pure rfl rfl ?_; ((first | refine pw_mv ?_ | refine pw_len rfl ?_)); refine T_nv ?_))
      refine TC_draw mixed (by decide +kernel) (fun _ _ _ _ _ _ h => h) (List.Sublist.refl _) ?_
      all_goals ((refine TA_p 0 ?_; ((refine pw_mv ?_)); refine TA_nv ?_))
      all_goals ((refine TA_p 1 ?_; ((refine pw_mv ?_)); refine TA_nv ?_))
      all_goals ((refine TA_p 2 ?_; ((refine pw_index_rL (v := .slice AR l.length cR) (l := l) i rfl rfl memt rfl hr rfl (fun b o => ?_))); refine TA_nv ?_))
      all_goals ((refine TA_p 3 ?_; ((refine pw_fieldAddr rfl ?_)); refine TA_nv ?_))
      all_goals ((refine TA_p 4 ?_; ((refine pw_load_at rfl memr rfl ?_)); refine TA_nv ?_))
      all_goals ((refine TA_p 5 ?_; ((refine pw_lss rfl rfl (fun h => ?_) (fun h => ?_))) <;> (first | (exfalso; omega) | refine TA_nv ?_)))
      all_goals ((refine TA_p 6 ?_; ((refine pw_mv ?_)); refine TA_nv ?_))
      all_goals ((refine TA_p 7 ?_; ((refine pw_mv ?_)); refine TA_nv ?_))
      all_goals ((refine TA_p 8 ?_; ((refine pw_mv ?_)); refine TA_nv ?_))
      all_goals ((refine TA_p 9 ?_; ((refine pw_index_rL (v := .slice AR l.length cR) (l := l) i rfl rfl memt rfl hr rfl (fun b o => ?_))); refine TA_nv ?_))
      all_goals ((refine TA_p 10 ?_; ((refine pw_fieldAddr rfl ?_)); refine TA_nv ?_))
      all_goals ((refine TA_p 11 ?_; ((refine pw_load_at rfl memr rfl ?_)); refine TA_nv ?_))
      all_goals ((refine TA_p 12 ?_; ((refine pw_lss rfl rfl (fun h => ?_) (fun h => ?_))) <;> (first | (exfalso; omega) | refine TA_nv ?_)))
      all_goals ((refine TA_p 13 ?_; ((refine pw_pick_f rfl evp ?_)); refine TA_nv ?_))
      all_goals ((refine TA_p 14 ?_; ((refine pw_mv ?_)); refine TA_nv ?_))
      all_goals ((refine TA_p 15 ?_; ((refine pw_mv ?_)); refine TA_nv ?_))
      all_goals ((refine TA_p 16 ?_; ((refine pw_mv ?_)); refine TA_nv ?_))
      all_goals ((refine TA_p 17 ?_; ((refine pw_index_rL (v := .slice AR l.length cR) (l := l) i rfl rfl memt rfl hr rfl (fun b o => ?_))); refine TA_nv ?_))
      all_goals ((refine TA_p 18 ?_; ((refine pw_fieldAddr rfl ?_)); refine TA_nv ?_))
      all_goals ((refine TA_p 19 ?_; ((refine pw_load_at rfl memr rfl ?_)); refine TA_nv ?_))
      all_goals ((refine TA_p 20 ?_; ((refine pw_add64 rfl rfl (by omega) (by omega) ?_)); refine TA_nv ?_))
      all_goals ((refine TA_p 21 ?_; ((refine pw_mv ?_)); refine TA_nv ?_))
      all_goals ((refine TA_p 22 ?_; ((refine pw_mv ?_)); refine TA_nv ?_))
      all_goals ((refine TA_p 23 ?_; ((refine pw_index_rL (v := .slice AR l.length cR) (l := l) i rfl rfl memt rfl hr rfl (fun b o => ?_))); refine TA_nv ?_))
      all_goals ((refine TA_p 24 ?_; ((refine pw_fieldAddr rfl ?_)); refine TA_nv ?_))
      all_goals ((refine TA_p 25 ?_; ((refine pw_load_at rfl memr rfl ?_)); refine TA_nv ?_))
      all_goals ((refine TA_p 26 ?_; ((refine pw_add64 rfl rfl (by omega) (by omega) ?_)); refine TA_nv ?_))
      all_goals ((refine TA_p 27 ?_; ((refine pw_mv ?_)); refine TA_nv ?_))
      all_goals ((refine TA_p 28 ?_; ((refine pw_len rfl ?_)); refine TA_nv ?_))
      all_goals ((refine TA_p 29 ?_; ((refine pw_gtr rfl rfl (fun h => ?_) (fun h => ?_))) <;> (first | (exfalso; omega) | refine TA_nv ?_)))
      all_goals ((refine TA_p 30 ?_; ((refine pw_pick_f rfl evp ?_)); refine TA_nv ?_))
      all_goals refine TA_d ?_
      repeat' (first | (apply TC_skip) | (apply TC_cond_false; exact rfl) | (apply En_then))
      refine TC_draw mixed (by decide +kernel) (fun _ _ _ _ _ _ h => h) (List.Sublist.cons _ (List.Sublist.refl _)) ?_
      all_goals ((refine TA_ps 0 (List.Sublist.cons _ (List.Sublist.refl _)) ?_; ((refine pw_mv ?_)); refine TA_nv ?_))
      all_goals ((refine TA_ps 1 (List.Sublist.cons _ (List.Sublist.refl _)) ?_; ((refine pw_mv ?_)); refine TA_nv ?_))
      all_goals ((refine TA_ps 2 (List.Sublist.cons _ (List.Sublist.refl _)) ?_; ((refine pw_mv ?_)); refine TA_nv ?_))
      all_goals ((refine TA_ps 3 (List.Sublist.cons _ (List.Sublist.refl _)) ?_; ((refine pw_mv ?_)); refine TA_nv ?_))
      all_goals ((refine TA_ps 4 (List.Sublist.cons _ (List.Sublist.refl _)) ?_; ((refine pw_index_rL (v := .slice AR l.length cR) (l := l) i rfl rfl memt rfl hr rfl (fun b o => ?_))); refine TA_nv ?_))
      all_goals ((refine TA_ps 5 (List.Sublist.cons _ (List.Sublist.refl _)) ?_; ((refine pw_fieldAddr rfl ?_)); refine TA_nv ?_))
      all_goals ((refine TA_ps 6 (List.Sublist.cons _ (List.Sublist.refl _)) ?_; ((refine pw_load_at rfl memr rfl ?_)); refine TA_nv ?_))
      all_goals ((refine TA_ps 7 (List.Sublist.cons _ (List.Sublist.refl _)) ?_; ((refine pw_add64 rfl rfl (by omega) (by omega) ?_)); refine TA_nv ?_))
      all_goals ((refine TA_ps 8 (List.Sublist.cons _ (List.Sublist.refl _)) ?_; ((refine pw_mv ?_)); refine TA_nv ?_))
      all_goals ((refine TA_ps 9 (List.Sublist.cons _ (List.Sublist.refl _)) ?_; ((refine pw_mv ?_)); refine TA_nv ?_))
      all_goals ((refine TA_ps 10 (List.Sublist.cons _ (List.Sublist.refl _)) ?_; ((refine pw_index_rL (v := .slice AR l.length cR) (l := l) i rfl rfl memt rfl hr rfl (fun b o => ?_))); refine TA_nv ?_))
      all_goals ((refine TA_ps 11 (List.Sublist.cons _ (List.Sublist.refl _)) ?_; ((refine pw_fieldAddr rfl ?_)); refine TA_nv ?_))
      all_goals ((refine TA_ps 12 (List.Sublist.cons _ (List.Sublist.refl _)) ?_; ((refine pw_load_at rfl memr rfl ?_)); refine TA_nv ?_))
      all_goals ((refine TA_ps 13 (List.Sublist.cons _ (List.Sublist.refl _)) ?_; ((refine pw_add64 rfl rfl (by omega) (by omega) ?_)); refine TA_nv ?_))
      all_goals ((refine TA_ps 14 (List.Sublist.cons _ (List.Sublist.refl _)) ?_; ((refine pw_mv ?_)); refine TA_nv ?_))
      all_goals ((refine TA_ps 15 (List.Sublist.cons _ (List.Sublist.refl _)) ?_; ((refine pw_mv ?_)); refine TA_nv ?_))
      all_goals ((refine TA_ps 16 (List.Sublist.cons _ (List.Sublist.refl _)) ?_; ((refine pw_index_rL (v := .slice AR l.length cR) (l := l) i rfl rfl memt rfl hr rfl (fun b o => ?_))); refine TA_nv ?_))
      all_goals ((refine TA_ps 17 (List.Sublist.cons _ (List.Sublist.refl _)) ?_; ((refine pw_fieldAddr rfl ?_)); refine TA_nv ?_))
      all_goals ((refine TA_ps 18 (List.Sublist.cons _ (List.Sublist.refl _)) ?_; ((refine pw_load_at rfl memr rfl ?_)); refine TA_nv ?_))
      all_goals ((refine TA_ps 19 (List.Sublist.cons _ (List.Sublist.refl _)) ?_; ((refine pw_add64 rfl rfl (by omega) (by omega) ?_)); refine TA_nv ?_))
      all_goals ((refine TA_ps 20 (List.Sublist.cons _ (List.Sublist.refl _)) ?_; (((refine pw_slice_sl (xs := bb) rfl memt rfl rfl rfl rfl (by omega) (by omega) (by omega) (fun A8 c8 => ?_); rw [hdata]))); refine TA_nv ?_))
      all_goals ((refine TA_ps 21 (List.Sublist.cons _ (List.Sublist.refl _)) ?_; ((refine pw_str (xs := r.data) rfl memt ?_)); refine TA_nv ?_))
      -- left: [22, 23, 24]; ready: [22]: ['buildSlice']
      refine TA_g 22 ?_
      refine gw_buildSlice (by decide) prtp rfl (fun b5 => ?_)
      refine ⟨.inl (fun w hs => hs.weaken sbp kpp), ?_⟩; refine TA_nv ?_
      refine TA_g 23 ?_
      refine gw_append_blk 1 0 rfl rfl rfl rfl (by decide) rfl (by simp [Value.oneCell']) (by omega) (by omega) (fun pv' => ?_)
      refine ⟨.inl (fun w hs => hs.weaken sbp kpp), ?_⟩; refine TA_nv ?_; refine TA_hq ?_
      refine TA_learn (Cx (cs ++ [.string (strV r.data)]) (((l.take i).map Rc.data).map strV ++ [strV r.data])) (fun s hs => Cx_snoc (hs (Cx cs (((l.take i).map Rc.data).map strV)) memt) ⟨rfl, by have : (strV r.data).size = r.data.length := rfl; rw [this]; simp only [maxL]; omega⟩) ?_
      refine TA_common _ (List.Sublist.refl _) kpp ?_
      all_goals ((refine TA_ps 24 sbp ?_; ((refine pw_as ?_)); refine TA_nv ?_))
      all_goals refine TA_d ?_
      repeat' (first | (apply TC_region) | (apply T_nil) | (apply En_then) | (apply En_block) | (apply T_bin; exact rfl; ((refine pw_add64 rfl rfl (by omega) (by omega) ?_)); refine T_nv ?_) | (refine T_pure rfl rfl ?_; ((first | refine pw_mv ?_ | refine pw_as ?_)); refine T_nv ?_))
      refine En_backS (m - 1) (.row pv' 9 1 (i + 1) (cs ++ [.string (strV r.data)]) :: .blk b1 [.slice A0 d.bytes.length c0, .slice A2 d.pending.length c2] 45 :: H) (Cx (cs ++ [.string (strV r.data)]) (((l.take i).map Rc.data).map strV ++ [strV r.data]) :: Sl (.slice Ab bb.length cb) bb :: Sl (.slice AR l.length cR) (l.map Rc.toR) :: R) (by omega) sjp ⟨i + 1, by omega, rfl, pv', _, rfl, ?_, rfl⟩ (fun w hs => hs.weaken sbp kpp)
      obtain ⟨hil', hre⟩ := List.getElem?_eq_some_iff.1 hr
      rw [List.take_succ_eq_append_getElem hil', hre]; simp
    · skip
      repeat' (first | (apply TC_seq) | (apply TC_region) | (apply TC_ret) | (apply TC_exit) | (apply TC_cond_false; exact rfl) | (apply T_nil) | (apply En_then) | (apply En_then_exit) | (apply En_block_exit) | (apply T_bin; exact rfl; ((refine pw_lss rfl rfl (fun h => ?_) (fun h => ?_))) <;> (first | (exfalso; omega) | refine T_nv ?_)) | (refine T_pure rfl rfl ?_; ((first | refine pw_mv ?_ | refine pw_as ?_ | refine pw_len rfl ?_)); refine T_nv ?_))
      have hie : i = l.length := by omega
      subst hie
      refine En_weaken _ (Cx cs ((l.map Rc.data).map strV) :: R) (fun w hs => hs.weaken (List.Sublist.refl _) (fun p hp => by
        rw [List.take_length]; simp only [List.mem_cons] at hp ⊢
        rcases hp with hp | hp
        · exact .inl hp
        · exact .inr (.inr (.inr hp)))) ?_
      refine En_stays' (xs := (l.map Rc.data).map strV) 0 rfl rfl (by decide) memt (fun A c hv => ?_)
      subst hv
      have hln : ((l.map Rc.data).map strV).length = (l.map Rc.data).length := by simp
      rw [hln]
      exact En_fin (.inl rfl) (res2 rfl (rv_tmp rfl) (rv_tmp rfl)) (fin_K H _ (fun w hs => hs.weaken sbp kpp) (k' A c))
  · have hc' : checkD d = false := by simpa using hc
    have hrec : recordsD d = ([], 301) := by unfold recordsD; rw [hc']; rfl
    have hread : readD d = ([], 301) := by unfold readD; rw [hc']; rfl
    have k' := KS_eq (r' := ([], false)) (by unfold contD; rw [hc']; rfl) k
    refine calls_of Try.func30 rfl Try.ntmps30 nep ?_
    repeat' (first | (refine T_gen rfl rfl ?_; refine gw_box clp (fun b1 => ?_); refine T_nv ?_) | (refine T_ow rfl ?_; refine ow_callf arp ?_; refine records_k _ _ _ _ d hb hp hm hm2 (KR_lit [] 301 hrec rfl (fun AR cR => ?_)); refine T_nv ?_) | (refine T_ow rfl ?_; refine ow_callf arp ?_; refine read_k _ _ _ _ d hb hp memt memt (KB_lit [] 301 hread rfl (fun Ab cb => ?_)); refine T_nv ?_) | (apply TC_seq) | (apply TC_region) | (apply TC_ret) | (apply TC_cond_true; exact rfl) | (apply T_nil) | (apply En_then) | (apply En_then_ret) | (apply T_load; exact rfl; ((refine pw_load (i := 0) rfl rfl rfl ?_)); refine T_nv ?_) | (apply T_bin; exact rfl; ((refine pw_neq rfl rfl (fun h => ?_) (fun h => ?_))) <;> (first | (exfalso; omega) | refine T_nv ?_)) | (refine T_pure rfl rfl ?_; ((first | refine pw_mv ?_ | refine pw_as ?_ | refine pw_pick_t rfl evp ?_ | refine pw_extract rfl rfl ?_)); refine T_nv ?_) | (refine T_skipped rfl ?_; refine T_nv ?_))
    exact En_fin (.inl rfl) (res2 rfl (rv_tmp rfl) (rv_tmp rfl)) (fin_K H (Sl (.slice none 0 0) ([] : List ByteArray) :: R) (fun w hs => (hs.weaken (H' := H) (R' := R) sbp kpp).sl_nil ByteArray) (k' none 0))
end Go.Proofs.Ytggdljhmbckpmaa
