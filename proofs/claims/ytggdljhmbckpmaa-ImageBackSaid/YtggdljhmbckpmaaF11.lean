/- The current records: walks. -/
import Derived.Test.YtggdljhmbckpmaaF10
set_option linter.unusedVariables false
set_option linter.unusedSimpArgs false
namespace Go.Proofs.Ytggdljhmbckpmaa
open Go Go.RowKit
set_option maxRecDepth 100000
set_option maxHeartbeats 800000

theorem recsOf_k {w0 : World} {H : List Hp} {R : List MP} {K : Value → List Hp → List MP → Prop} (v : Value) (half : Int)
    (k : ∀ b1 b2, K (.func (.func 120) #[] #[.pointer (some ⟨b1, 0, none⟩), .pointer (some ⟨b2, 0, none⟩)]) (.blk b1 [.int .i64 half] 3 :: .blk b2 [v] 33 :: H) R) (hv : v.cells = #[v]) : CallsK Try.prog w0 99 #[v, .int .i64 half] H R K := by
  refine calls_of Try.func99 rfl Try.ntmps99 nep ?_
  repeat' (first | (refine T_gen rfl rfl ?_; refine gw_box (cs := [v]) hv (fun b => ?_); refine T_nv ?_) | (apply TC_seq) | (apply TC_region) | (apply TC_ret) | (apply T_nil) | (apply En_then) | (refine T_pure rfl rfl ?_; ((first | refine pw_as ?_ | refine pw_makeFuncL agp agp ?_)); refine T_nv ?_) | (refine T_gen rfl rfl ?_; ((refine gw_box clp (fun b => ?_))); refine T_nv ?_))
  exact En_fin (.inl rfl) (res1 rfl (rv_tmp rfl)) (fin_K _ R (fun _ h => h) (k _ _))

/-- The records of the halves ahead of number h, and which half's they are. -/
def curN (xs : List UInt8) : Nat → List Rc × Nat
  | 0 => ([], 0)
  | h + 1 => if 0 < (recsB xs h).length ∧ ((curN xs h).1.length = 0 ∨ ((curN xs h).1.getD 0 Rc.zero).epoch < ((recsB xs h).getD 0 Rc.zero).epoch) then (recsB xs h, h) else curN xs h
def curB (xs : List UInt8) : List Rc × Nat := curN xs 2
theorem getD_rc (xs : List Rc) (h : 0 < xs.length) : xs.getD 0 Rc.zero = xs[0] := by simp [List.getD, h]

section
variable {P : Program} {w0 : World} {E : List Value} {H : List Hp} {R : List MP} {ty : TypeId} {K : Value → List MP → Prop}
theorem pw_index_rc0 {t e : TypeId} {x ix : Operand} {agg : Bool} {by_ : Nat} {z : Value} [h : TyU P t (.slice e)] [he : Ty P e agg 4 by_ z] {v : Value} {xs : List Rc} {k : IntKind} {d : Rc} (hx : ev E x = v) (hix : ev E ix = .int k 0) (hm : Sl v xs ∈ R) (hd : xs[0]? = some d)
    (kk : ∀ b o A c, d.ok → K (.pointer (some ⟨b, o, none⟩)) (At b o [.int .i64 (d.at_ : Int), .int .i64 (d.epoch : Int), .int .i64 (d.seq : Int), .slice A d.data.length c] :: Sl (.slice A d.data.length c) d.data :: R)) : PW P w0 E (.indexAddr t x ix) ty H R K := pw_indexU hx hix hm rfl (by simpa using hd) (by omega) (fun b o (y : Option Addr × Nat) (hy : d.ok) => kk b o y.1 y.2 hy)
end
def mk (d : Nat) : Deferred := ⟨.collected d, #[]⟩
def mkO (d : Nat) : Hp := .obj d (.deferred (some []))
theorem LV_marks {P : Program} {w0 : World} {fn : Func} {K : Value → List Hp → List MP → Prop} {E : List Value} {H : List Hp} {R : List MP} {v : Value} (hr : ∀ w, S w0 w H R → (results fn E.toArray).run P w = .ok v w) (H' : List Hp) (R' : List MP) (hw : ∀ w, S w0 w H R → S w0 w H' R') (hk : K v H' R') :
    ∀ (ds : List Nat), LV P w0 fn K (ds.map mk) E (ds.map mkO ++ H) R
  | [] => LV_nil hr H' R' hw hk
  | d :: ds => by
    refine LV_mark (i := 0) rfl ?_
    have ih := LV_marks hr H' R' hw hk ds
    unfold LV at ih ⊢
    intro w hs
    exact ih w (hs.weaken (List.sublist_cons_self _ _) (fun _ h => h))

theorem marks_panic {F : Fence} {n : Nat} {P : Program} {fn : Func} {Rp : Ending → World → Prop} {t t' : Array Value} {c : List PanicEntry} : ∀ (ds : List Nat) (w : World), LeavesInM F n P fn t Rp (ds.map mk) (.panicking c) w → LeavesInM F n P fn t' Rp (ds.map mk) (.panicking c) w
  | [], w, h => h
  | d :: ds, w, h => by
    obtain ⟨h1, h2⟩ := h
    refine ⟨h1, ?_⟩
    rcases h2 with ⟨r, w', e1, e2, e3⟩ | ⟨_, fv, cap, f, args, e1, _⟩
    · exact .inl ⟨r, w', e1, e2, marks_panic ds w' e3⟩
    · cases e1
theorem hQ_marks {F : Fence} {n : Nat} {P : Program} {fn : Func} {Rp : Ending → World → Prop} (ds : List Nat) {p : Tmp → Prop} (c : List PanicEntry) (E : List Value) (e : Tmp) (v : Value) (w : World) (_ : p e) (h : bodyPostM F n P fn Rp (.panic c) (act (setD E (some e) v) (ds.map mk)) w) : bodyPostM F n P fn Rp (.panic c) (act E (ds.map mk)) w := marks_panic ds w h
theorem current_k {w0 : World} {H : List Hp} {R : List MP} {K : Value → List Hp → List MP → Prop} (A : Option Addr) (c : Nat) (xs : List UInt8) (hb : xs.length ≤ 600000) (hm : Sl (.slice A xs.length c) xs ∈ R)
    (k : ∀ A' c', K (.tuple #[.slice A' (curB xs).1.length c', .int .i64 ((curB xs).2 : Int)]) H (Sl (.slice A' (curB xs).1.length c') (curB xs).1 :: R)) : CallsK Try.prog w0 49 #[.slice A xs.length c] H R K := by
  refine callsM_of Try.func49 rfl Try.ntmps49 nep ?_
  repeat' (first | (apply TC_seq) | (apply TC_region) | (apply TC_block) | (apply T_nil) | (apply En_then) | (refine T_pure rfl rfl ?_; ((first | refine pw_mv ?_ | refine pw_as ?_)); refine T_nv ?_))
  refine TC_learn (Sl (.slice none 0 0) ([] : List Rc)) (fun s _ => Sl_nil Rc s) ?_
  refine TC_loopSD [2, 3, 4, 5, 6, 7, 8, 9, 10, 11, 12, 14, 15, 16, 17, 18, 19, 20, 21, 22, 23, 24, 25, 26, 27, 28, 29, 30, 31, 32, 33, 34, 35, 36, 37, 38, 39] (fun m D' j H' R' => ∃ (h : Nat) (A' : Option Addr) (c' : Nat) (ds : List Nat), h + m = 2 ∧ D' = ds.map mk ∧ j 7 = .int .i64 (h : Int) ∧ j 2 = .slice A' (curN xs h).1.length c' ∧ j 3 = .int .i64 ((curN xs h).2 : Int) ∧ H' = ds.map mkO ++ H ∧ Sl (.slice A' (curN xs h).1.length c') (curN xs h).1 ∈ R' ∧ ∀ p ∈ R, p ∈ R') 2
    sjp ⟨0, none, 0, [], rfl, rfl, rfl, rfl, rfl, rfl, memt, fun p hp => List.mem_cons_of_mem _ hp⟩ ?_
  rintro m D' j H' R' ⟨hn, A', c', ds, hhm, hD, h7, h2, h3, hH, hm2, hR⟩
  subst hD hH
  refine TC_env (by simp only [setJ, List.foldl_cons, List.foldl_nil, List.set_cons_succ, List.set_cons_zero, h7, h2, h3]; rfl) ?_
  have hm3 : Sl (.slice A xs.length c) xs ∈ R' := hR _ hm
  repeat' (first | (refine T_ow rfl ?_; refine ow_callf arp ?_; refine recsOf_k _ _ (fun b1 b2 => ?_) rfl; refine T_nv ?_) | (apply TC_seq) | (apply TC_region) | (apply TC_block) | (apply TC_ret) | (apply TC_skip) | (apply TC_exit) | (apply TC_cond_true; exact rfl) | (apply TC_cond_false; exact rfl) | (apply T_nil) | (apply En_then) | (apply En_then_exit) | (apply En_block_exit) | (apply T_bin; exact rfl; ((refine pw_lss rfl rfl (fun h => ?_) (fun h => ?_))) <;> (refine T_nv ?_)) | (refine T_pure rfl rfl ?_; ((first | refine pw_mv ?_ | refine pw_as ?_)); refine T_nv ?_) | (refine T_gen rfl rfl ?_; ((refine gw_alloc clp (fun b => ?_))); refine T_nv ?_))
  · revert b
    intro b5
    refine TC_nilrow 121 4 ?_
    refine TC_rangeFunc (lb := [.pointer (some ⟨b1, 0, none⟩), .pointer (some ⟨b2, 0, none⟩)]) rfl (fun l d fn => ?_)
    generalize hrec : ({ state := .ready, pending := none, fn := fn, tmps := _, params := _, assign := _, body := _, defers := d } : Loop) = rec
    refine CallsK_learn (Cx [] ([] : List Rc)) (fun s _ => Cx_nil s) ?_
    refine recs1_k l 3 4 b1 b2 A c xs hn (by omega) hb (fun pre H2 R2 => ∃ v cs, H2 = .obj l (.loop rec) :: .obj d (.deferred (some [])) :: .row v 121 4 pre.length cs :: .blk b1 [.int .i64 (hn : Int)] 3 :: .blk b2 [.slice A xs.length c] 33 :: .blk b5 [v] 116 :: (ds.map mkO ++ H) ∧ Cx cs pre ∈ R2 ∧ ∀ p ∈ R', p ∈ R2) ?_ ?_ ?_ ⟨_, [], rfl, memt, fun p hp => List.mem_cons_of_mem _ hp⟩ ?_
    · rintro pre H2 R2 ⟨v, cs, rfl, hcx, hR2⟩
      exact ⟨rfl, rfl, hR2 _ hm3⟩
    · rintro pre H2 R2 R3 ⟨v, cs, rfl, hcx, hR2⟩ hsub
      exact ⟨v, cs, rfl, hsub _ hcx, fun p hp => hsub _ (hR2 p hp)⟩
    · rintro pre x A1 c1 H2 R2 ⟨v, cs, rfl, hcx, hR2⟩ hpl hxok hsl
      refine yk_round (i := 0) rfl (by rw [← hrec]) (by rw [← hrec]) ?_
      rw [show rec.assign = _ from (by rw [← hrec]), show rec.body = _ from (by rw [← hrec])]
      repeat' (first | (apply TC_region) | (apply T_nil) | (apply T_store; exact rfl; ((refine gw_store (i := 0) rfl clp rfl (by rfl) (by simp) (by simp [Value.oneCell']) ?_)); refine T_nv ?_; refine T_hq ?_) | (refine T_gen rfl rfl ?_; ((refine gw_alloc clp (fun b => ?_))); refine T_nv ?_))
      refine En_begin (i := 1) rfl (by rw [← hrec]) ?_
      refine TC_hp hpp ?_
      repeat' (first | (refine T_pure rfl rfl ?_; refine pw_load (i := 6) rfl rfl rfl ?_; refine T_nv ?_) | (apply TC_region) | (apply TC_block) | (apply T_load; exact rfl; ((refine pw_load (i := 0) rfl rfl rfl ?_)); refine T_nv ?_) | (refine T_gen rfl rfl ?_; ((refine gw_buildSlice (by decide) prtp rfl (fun b => ?_))); refine T_nv ?_))
      refine T_gen rfl rfl ?_
      refine gw_append_blk 4 0 rfl rfl rfl rfl (by decide) rfl (by simp [Value.oneCell']) (by omega) (by omega) (fun v' => ?_)
      refine T_nv ?_; refine T_hq ?_
      refine T_shape 4 rfl (fun A6 c6 hv => ?_); subst hv
      refine T_learn (Cx (cs ++ [.int .i64 (x.at_ : Int), .int .i64 (x.epoch : Int), .int .i64 (x.seq : Int), .slice A1 x.data.length c1]) (pre ++ [x])) (fun s hs => Cx_snoc (hs (Cx cs pre) memt) ⟨A1, c1, rfl, hxok, hs (Sl (.slice A1 x.data.length c1) x.data) memt⟩) ?_
      repeat' (first | (refine T_gen rfl rfl ?_; refine gw_store (i := 7) rfl clp rfl (by rfl) (by simp) (by simp [Value.oneCell']) ?_; refine T_nv ?_; refine T_hq ?_) | (apply T_nil) | (apply En_block))
      refine En_endRound (i := 2) rfl (show _ = rec by rw [← hrec]) (.obj l (.loop rec) :: .obj d (.deferred (some [])) :: .row (.slice A6 (pre.length + 1) c6) 121 4 (pre.length + 1) (cs ++ [.int .i64 (x.at_ : Int), .int .i64 (x.epoch : Int), .int .i64 (x.seq : Int), .slice A1 x.data.length c1]) :: .blk b1 [.int .i64 (hn : Int)] 3 :: .blk b2 [.slice A xs.length c] 33 :: .blk b5 [.slice A6 (pre.length + 1) c6] 116 :: (ds.map mkO ++ H)) _ (fun w hs => hs.weaken sbp (fun _ h => h)) ⟨rfl, ⟨_, _, by rw [List.length_append, List.length_singleton], memt, fun p hp => List.mem_cons_of_mem _ (hR2 p hp)⟩, fun p hp => List.mem_cons_of_mem _ hp⟩
    · rintro H2 R2 ⟨v, cs, rfl, hcx, hR2⟩
      refine ⟨0, rec, rfl, by rw [← hrec], by rw [← hrec], ?_⟩
      clear hrec
      refine En_weaken (.row v 121 4 (recsB xs hn).length cs :: .blk b5 [v] 116 :: ((d :: ds).map mkO ++ H)) R2 (fun w hs => (hs.weaken (H' := .obj d (.deferred (some [])) :: .row v 121 4 (recsB xs hn).length cs :: .blk b5 [v] 116 :: (ds.map mkO ++ H)) sbp (fun _ h => h)).rot3) ?_
      apply En_block
      apply En_then
      refine TC_shape 0 rfl (fun A2 c2 hv => ?_); subst hv
      refine TC_staysx 0 rfl rfl (by decide) hcx (fun A3 c3 hv => ?_); cases hv
      refine TC_hp hpp ?_
      obtain ⟨out, half, hcu⟩ : ∃ out half, curN xs hn = (out, half) := ⟨_, _, rfl⟩
      obtain ⟨l0, hl0⟩ : ∃ l0, recsB xs hn = l0 := ⟨_, rfl⟩
      rw [hcu] at hm2 h2 h3 ⊢
      rw [hl0] at hcx ⊢
      simp only at hm2 h2 h3 ⊢
      have hcu1 := Go.Lib.hid hcu
      have hl1 := Go.Lib.hid hl0
      have hm4 : Sl (.slice A' out.length c') out ∈ R2 := hR2 _ hm2
      clear hcu hl0 hcx hm2
      apply TC_seq
      refine TC_draw mixed (by decide +kernel) (hQ_marks (p := fun e => isDst _ e = true) (d :: ds)) (List.Sublist.refl _) ?_
      all_goals ((refine TA_p 0 ?_; ((refine pw_load (i := 0) rfl rfl rfl ?_)); refine TA_nv ?_))
      all_goals ((refine TA_p 1 ?_; ((refine pw_len rfl ?_)); refine TA_nv ?_))
      all_goals ((refine TA_p 2 ?_; ((refine pw_gtr rfl rfl (fun h => ?_) (fun h => ?_))) <;> (refine TA_nv ?_)))
      all_goals ((refine TA_p 3 ?_; ((refine pw_mv ?_)); refine TA_nv ?_))
      all_goals (first | (refine TA_p 4 ?_; ((refine pw_mv ?_)); refine TA_nv ?_) | (refine TA_ks 4 (List.Sublist.refl _) ?_))
      all_goals (first | (refine TA_p 5 ?_; ((refine pw_len rfl ?_)); refine TA_nv ?_) | (refine TA_ks 5 (List.Sublist.refl _) ?_))
      all_goals (first | (refine TA_p 6 ?_; ((refine pw_eql rfl rfl (fun h => ?_) (fun h => ?_))) <;> (refine TA_nv ?_)) | (refine TA_ks 6 (List.Sublist.refl _) ?_))
      all_goals (first | (refine TA_p 7 ?_; ((refine pw_mv ?_)); refine TA_nv ?_) | (refine TA_ks 7 (List.Sublist.refl _) ?_))
      all_goals (first | (refine TA_p 8 ?_; ((refine pw_load (i := 0) rfl rfl rfl ?_)); refine TA_nv ?_) | (refine TA_ks 8 (List.Sublist.refl _) ?_))
      all_goals (first | (refine TA_p 9 ?_; ((refine pw_index_rc0 rfl rfl memt (List.getElem?_eq_getElem (by omega)) (fun b o A c hok => ?_))); refine TA_nv ?_) | (refine TA_ks 9 (List.Sublist.refl _) ?_))
      all_goals (first | (refine TA_p 10 ?_; ((refine pw_fieldAddr rfl ?_)); refine TA_nv ?_) | (refine TA_ks 10 (List.Sublist.refl _) ?_))
      all_goals (first | (refine TA_p 11 ?_; ((refine pw_load_at rfl memr rfl ?_)); refine TA_nv ?_) | (refine TA_ks 11 (List.Sublist.refl _) ?_))
      all_goals (first | (refine TA_p 12 ?_; ((refine pw_mv ?_)); refine TA_nv ?_) | (refine TA_ks 12 (List.Sublist.refl _) ?_))
      all_goals (first | (refine TA_p 13 ?_; ((refine pw_index_rc0 rfl rfl memt (List.getElem?_eq_getElem (by omega)) (fun b o A c hok => ?_))); refine TA_nv ?_) | (refine TA_ks 13 (List.Sublist.refl _) ?_))
      all_goals (first | (refine TA_p 14 ?_; ((refine pw_fieldAddr rfl ?_)); refine TA_nv ?_) | (refine TA_ks 14 (List.Sublist.refl _) ?_))
      all_goals (first | (refine TA_p 15 ?_; ((refine pw_load_at rfl memr rfl ?_)); refine TA_nv ?_) | (refine TA_ks 15 (List.Sublist.refl _) ?_))
      all_goals (first | (refine TA_p 16 ?_; ((refine pw_gtr rfl rfl (fun h => ?_) (fun h => ?_))) <;> (refine TA_nv ?_)) | (refine TA_ks 16 (List.Sublist.refl _) ?_))
      all_goals (first | (refine TA_p 17 ?_; ((first | refine pw_pick_t rfl evp ?_ | refine pw_pick_f rfl evp ?_)); refine TA_nv ?_) | (refine TA_ks 17 (List.Sublist.refl _) ?_))
      all_goals ((refine TA_p 18 ?_; ((first | refine pw_pick_t rfl evp ?_ | refine pw_pick_f rfl evp ?_)); refine TA_nv ?_))
      all_goals refine TA_d ?_
      repeat' (first | (apply TC_region) | (apply TC_skip) | (apply TC_cond_true; exact rfl) | (apply TC_cond_false; exact rfl) | (apply T_nil) | (apply En_then) | (apply En_block) | (apply T_load; exact rfl; ((refine pw_load (i := 0) rfl rfl rfl ?_)); refine T_nv ?_) | (apply T_bin; exact rfl; ((refine pw_add64 rfl rfl (by omega) (by omega) ?_)); refine T_nv ?_) | (refine T_pure rfl rfl ?_; ((first | refine pw_mv ?_ | refine pw_as ?_)); refine T_nv ?_))
      · have hnext : curN xs (hn + 1) = (l0, hn) := by
          show (if _ then _ else _) = _
          rw [hl1.out, hcu1.out, if_pos ⟨by omega, .inl (by simp only; omega)⟩]
        refine En_backSD (m - 1) ((d :: ds).map mkO ++ H) (Sl (.slice A2 l0.length c2) l0 :: R2) (by omega) sjp ⟨hn + 1, A2, c2, d :: ds, by omega, rfl, rfl, by rw [hnext]; rfl, by rw [hnext]; rfl, rfl, by rw [hnext]; exact List.mem_cons_self, fun p hp => List.mem_cons_of_mem _ (hR2 _ (hR _ hp))⟩ (fun w hs => hs.weaken sbp kpp)
      · have hnext : curN xs (hn + 1) = (l0, hn) := by
          show (if _ then _ else _) = _
          rw [hl1.out, hcu1.out, if_pos ⟨by omega, .inr (by show (out.getD 0 Rc.zero).epoch < (l0.getD 0 Rc.zero).epoch; rw [getD_rc out (by omega), getD_rc l0 (by omega)]; omega)⟩]
        refine En_backSD (m - 1) ((d :: ds).map mkO ++ H) (Sl (.slice A2 l0.length c2) l0 :: R2) (by omega) sjp ⟨hn + 1, A2, c2, d :: ds, by omega, rfl, rfl, by rw [hnext]; rfl, by rw [hnext]; rfl, rfl, by rw [hnext]; exact List.mem_cons_self, fun p hp => List.mem_cons_of_mem _ (hR2 _ (hR _ hp))⟩ (fun w hs => hs.weaken sbp kpp)
      · have hnext : curN xs (hn + 1) = (out, half) := by
          show (if _ then _ else _) = _
          rw [hl1.out, hcu1.out, if_neg (fun hc => by
            rcases hc.2 with e | e
            · simp only at e; omega
            · simp only at e; rw [getD_rc out (by omega), getD_rc l0 (by omega)] at e; omega)]
        refine En_backSD (m - 1) ((d :: ds).map mkO ++ H) R2 (by omega) sjp ⟨hn + 1, A', c', d :: ds, by omega, rfl, rfl, by rw [hnext]; rfl, by rw [hnext]; rfl, rfl, by rw [hnext]; exact hm4, fun p hp => hR2 _ (hR _ hp)⟩ (fun w hs => hs.weaken sbp kpp)
      · have hnext : curN xs (hn + 1) = (out, half) := by
          show (if _ then _ else _) = _
          rw [hl1.out, hcu1.out, if_neg (fun hc => by have := hc.1; omega)]
        refine En_backSD (m - 1) ((d :: ds).map mkO ++ H) R2 (by omega) sjp ⟨hn + 1, A', c', d :: ds, by omega, rfl, rfl, by rw [hnext]; rfl, by rw [hnext]; rfl, rfl, by rw [hnext]; exact hm4, fun p hp => hR2 _ (hR _ hp)⟩ (fun w hs => hs.weaken sbp kpp)
  · have hh2 : hn = 2 := by omega
    subst hh2
    refine En_leave (.inl rfl) (LV_marks (res2 rfl (rv_tmp rfl) (rv_tmp rfl)) H (Sl (.slice A' (curB xs).1.length c') (curB xs).1 :: R) (fun w hs => hs.weaken sbp (sub_cons hm2 hR)) (k A' c') ds)
end Go.Proofs.Ytggdljhmbckpmaa
