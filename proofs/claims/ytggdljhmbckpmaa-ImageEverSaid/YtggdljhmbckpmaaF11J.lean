/- The current records: walks. Records, Last: walks. An append to a part of an owned block. -/
import Derived.Test.YtggdljhmbckpmaaF9J
import Derived.Test.YtggdljhmbckpmaaA13J
import Derived.ArgAppend
set_option linter.unusedVariables false
set_option linter.unusedSimpArgs false
namespace Go.Proofs.Ytggdljhmbckpmaa
open Go Go.RowKit
set_option maxRecDepth 100000
set_option maxHeartbeats 800000

theorem recsOf_k {w0 : World} {H : List Hp} {R : List MP} {K : Value → List Hp → List MP → Prop} (v : Value) (half : Int)
    (k : ∀ b1 b2, K (.func (.func 120) #[] #[.pointer (some ⟨b1, 0, none⟩), .pointer (some ⟨b2, 0, none⟩)]) (.blk b1 [.int .i64 half] 3 :: .blk b2 [v] 33 :: H) R) (hv : v.cells = #[v]) : CallsK Try.prog w0 99 #[v, .int .i64 half] H R K := by
  refine calls_of Try.func99 rfl Try.ntmps99 nep ?_
  repeat' (first | (refine T_gen rfl rfl ?_; refine gw_box (cs := [v]) hv (fun b => ?_); refine T_nv ?_) | (apply TC_seq) | (apply TC_region) | (apply TC_ret) | (apply T_nil) | (apply En_then) | (refine T_pure rfl rfl ?_; ((first | refine pw_as ?_ | refine pw_makeFuncL agp agp ?_)); refine T_nv ?_) | (refine T_gen rfl rfl ?_; ((refine gw_box clp (fun b => ?_))); refine T_nv ?_))
  exact En_fin (.inl rfl) (res1 rfl (rv_tmp rfl)) (fin_K _ R (fun _ h => h) (k _ _))

/-- The records of the halves ahead of number h, and which half's they are. -/
def curN (xs : List UInt8) : Nat → List Rc × Nat
  | 0 => ([], 0)
  | h + 1 => if 0 < (recsB xs h).length ∧ ((curN xs h).1.length = 0 ∨ ((curN xs h).1.getD 0 Rc.zero).epoch < ((recsB xs h).getD 0 Rc.zero).epoch) then (recsB xs h, h) else curN xs h
def curB (xs : List UInt8) : List Rc × Nat := curN xs 2
theorem getD_rc (xs : List Rc) (h : 0 < xs.length) : xs.getD 0 Rc.zero = xs[0] := by simp [List.getD, h]

section
variable {P : Program} {w0 : World} {E : List Value} {H : List Hp} {R : List MP} {ty : TypeId} {K : Value → List MP → Prop}
theorem pw_index_rc0 {t e : TypeId} {x ix : Operand} {agg : Bool} {by_ : Nat} {z : Value} [h : TyU P t (.slice e)] [he : Ty P e agg 4 by_ z] {v : Value} {xs : List Rc} {k : IntKind} {d : Rc} (hx : ev E x = v) (hix : ev E ix = .int k 0) (hm : Sl v xs ∈ R) (hd : xs[0]? = some d)
    (kk : ∀ b o A c, d.ok → K (.pointer (some ⟨b, o, none⟩)) (At b o [.int .i64 (d.at_ : Int), .int .i64 (d.epoch : Int), .int .i64 (d.seq : Int), .slice A d.data.length c] :: Sl (.slice A d.data.length c) d.data :: R)) : PW P w0 E (.indexAddr t x ix) ty H R K := pw_indexU hx hix hm rfl (by simpa using hd) (by omega) (fun b o (y : Option Addr × Nat) (hy : d.ok) => kk b o y.1 y.2 hy)
end
def mk (d : Nat) : Deferred := ⟨.collected d, #[]⟩
def mkO (d : Nat) : Hp := .obj d (.deferred (some []))
theorem LV_marks {P : Program} {w0 : World} {fn : Func} {K : Value → List Hp → List MP → Prop} {E : List Value} {H : List Hp} {R : List MP} {v : Value} (hr : ∀ w, S w0 w H R → (results fn E.toArray).run P w = .ok v w) (H' : List Hp) (R' : List MP) (hw : ∀ w, S w0 w H R → S w0 w H' R') (hk : K v H' R') :
    ∀ (ds : List Nat), LV P w0 fn K (ds.map mk) E (ds.map mkO ++ H) R
  | [] => LV_nil hr H' R' hw hk
  | d :: ds => by
    refine LV_mark (i := 0) rfl ?_
    have ih := LV_marks hr H' R' hw hk ds
    unfold LV at ih ⊢
    intro w hs
    exact ih w (hs.weaken (List.sublist_cons_self _ _) (fun _ h => h))

theorem marks_panic {F : Fence} {n : Nat} {P : Program} {fn : Func} {Rp : Ending → World → Prop} {t t' : Array Value} {c : List PanicEntry} : ∀ (ds : List Nat) (w : World), LeavesInM F n P fn t Rp (ds.map mk) (.panicking c) w → LeavesInM F n P fn t' Rp (ds.map mk) (.panicking c) w
  | [], w, h => h
  | d :: ds, w, h => by
    obtain ⟨h1, h2⟩ := h
    refine ⟨h1, ?_⟩
    rcases h2 with ⟨r, w', e1, e2, e3⟩ | ⟨_, fv, cap, f, args, e1, _⟩
    · exact .inl ⟨r, w', e1, e2, marks_panic ds w' e3⟩
    · cases e1
theorem hQ_marks {F : Fence} {n : Nat} {P : Program} {fn : Func} {Rp : Ending → World → Prop} (ds : List Nat) {p : Tmp → Prop} (c : List PanicEntry) (E : List Value) (e : Tmp) (v : Value) (w : World) (_ : p e) (h : bodyPostM F n P fn Rp (.panic c) (act (setD E (some e) v) (ds.map mk)) w) : bodyPostM F n P fn Rp (.panic c) (act E (ds.map mk)) w := marks_panic ds w h
theorem current_k {w0 : World} {H : List Hp} {R : List MP} {K : Value → List Hp → List MP → Prop} (A : Option Addr) (c : Nat) (xs : List UInt8) (hb : xs.length ≤ 600000) (hm : Sl (.slice A xs.length c) xs ∈ R)
    (k : ∀ A' c', K (.tuple #[.slice A' (curB xs).1.length c', .int .i64 ((curB xs).2 : Int)]) H (Sl (.slice A' (curB xs).1.length c') (curB xs).1 :: R)) : CallsK Try.prog w0 49 #[.slice A xs.length c] H R K := by
  refine callsM_of Try.func49 rfl Try.ntmps49 nep ?_
  repeat' (first | (apply TC_seq) | (apply TC_region) | (apply TC_block) | (apply T_nil) | (apply En_then) | (refine T_pure rfl rfl ?_; ((first | refine pw_mv ?_ | refine pw_as ?_)); refine T_nv ?_))
  refine TC_learn (Sl (.slice none 0 0) ([] : List Rc)) (fun s _ => Sl_nil Rc s) ?_
  refine TC_loopSD [2, 3, 4, 5, 6, 7, 8, 9, 10, 11, 12, 14, 15, 16, 17, 18, 19, 20, 21, 22, 23, 24, 25, 26, 27, 28, 29, 30, 31, 32, 33, 34, 35, 36, 37, 38, 39] (fun m D' j H' R' => ∃ (h : Nat) (A' : Option Addr) (c' : Nat) (ds : List Nat), h + m = 2 ∧ D' = ds.map mk ∧ j 7 = .int .i64 (h : Int) ∧ j 2 = .slice A' (curN xs h).1.length c' ∧ j 3 = .int .i64 ((curN xs h).2 : Int) ∧ H' = ds.map mkO ++ H ∧ Sl (.slice A' (curN xs h).1.length c') (curN xs h).1 ∈ R' ∧ ∀ p ∈ R, p ∈ R') 2
    sjp ⟨0, none, 0, [], rfl, rfl, rfl, rfl, rfl, rfl, memt, fun p hp => List.mem_cons_of_mem _ hp⟩ ?_
  rintro m D' j H' R' ⟨hn, A', c', ds, hhm, hD, h7, h2, h3, hH, hm2, hR⟩
  subst hD hH
  refine TC_env (by simp only [setJ, List.foldl_cons, List.foldl_nil, List.set_cons_succ, List.set_cons_zero, h7, h2, h3]; rfl) ?_
  have hm3 : Sl (.slice A xs.length c) xs ∈ R' := hR _ hm
  repeat' (first | (refine T_ow rfl ?_; refine ow_callf arp ?_; refine recsOf_k _ _ (fun b1 b2 => ?_) rfl; refine T_nv ?_) | (apply TC_seq) | (apply TC_region) | (apply TC_block) | (apply TC_ret) | (apply TC_skip) | (apply TC_exit) | (apply TC_cond_true; exact rfl) | (apply TC_cond_false; exact rfl) | (apply T_nil) | (apply En_then) | (apply En_then_exit) | (apply En_block_exit) | (apply T_bin; exact rfl; ((refine pw_lss rfl rfl (fun h => ?_) (fun h => ?_))) <;> (refine T_nv ?_)) | (refine T_pure rfl rfl ?_; ((first | refine pw_mv ?_ | refine pw_as ?_)); refine T_nv ?_) | (refine T_gen rfl rfl ?_; ((refine gw_alloc clp (fun b => ?_))); refine T_nv ?_))
  · revert b
    intro b5
    refine TC_nilrow 121 4 ?_
    refine TC_rangeFunc (lb := [.pointer (some ⟨b1, 0, none⟩), .pointer (some ⟨b2, 0, none⟩)]) rfl (fun l d fn => ?_)
    generalize hrec : ({ state := .ready, pending := none, fn := fn, tmps := _, params := _, assign := _, body := _, defers := d } : Loop) = rec
    refine CallsK_learn (Cx [] ([] : List Rc)) (fun s _ => Cx_nil s) ?_
    refine recs1_k l 3 4 b1 b2 A c xs hn (by omega) hb (fun pre H2 R2 => ∃ v cs, H2 = .obj l (.loop rec) :: .obj d (.deferred (some [])) :: .row v 121 4 pre.length cs :: .blk b1 [.int .i64 (hn : Int)] 3 :: .blk b2 [.slice A xs.length c] 33 :: .blk b5 [v] 116 :: (ds.map mkO ++ H) ∧ Cx cs pre ∈ R2 ∧ ∀ p ∈ R', p ∈ R2) ?_ ?_ ?_ ⟨_, [], rfl, memt, fun p hp => List.mem_cons_of_mem _ hp⟩ ?_
    · rintro pre H2 R2 ⟨v, cs, rfl, hcx, hR2⟩
      exact ⟨rfl, rfl, hR2 _ hm3⟩
    · rintro pre H2 R2 R3 ⟨v, cs, rfl, hcx, hR2⟩ hsub
      exact ⟨v, cs, rfl, hsub _ hcx, fun p hp => hsub _ (hR2 p hp)⟩
    · rintro pre x A1 c1 H2 R2 ⟨v, cs, rfl, hcx, hR2⟩ hpl hxok hsl
      refine yk_round (i := 0) rfl (by rw [← hrec]) (by rw [← hrec]) ?_
      rw [show rec.assign = _ from (by rw [← hrec]), show rec.body = _ from (by rw [← hrec])]
      repeat' (first | (apply TC_region) | (apply T_nil) | (apply T_store; exact rfl; ((refine gw_store (i := 0) rfl clp rfl (by rfl) (by simp) (by simp [Value.oneCell']) ?_)); refine T_nv ?_; refine T_hq ?_) | (refine T_gen rfl rfl ?_; ((refine gw_alloc clp (fun b => ?_))); refine T_nv ?_))
      refine En_begin (i := 1) rfl (by rw [← hrec]) ?_
      refine TC_hp hpp ?_
      repeat' (first | (refine T_pure rfl rfl ?_; refine pw_load (i := 6) rfl rfl rfl ?_; refine T_nv ?_) | (apply TC_region) | (apply TC_block) | (apply T_load; exact rfl; ((refine pw_load (i := 0) rfl rfl rfl ?_)); refine T_nv ?_) | (refine T_gen rfl rfl ?_; ((refine gw_buildSlice (by decide) prtp rfl (fun b => ?_))); refine T_nv ?_))
      refine T_gen rfl rfl ?_
      refine gw_append_blk 4 0 rfl rfl rfl rfl (by decide) rfl (by simp [Value.oneCell']) (by omega) (by omega) (fun v' => ?_)
      refine T_nv ?_; refine T_hq ?_
      refine T_shape 4 rfl (fun A6 c6 hv => ?_); subst hv
      refine T_learn (Cx (cs ++ [.int .i64 (x.at_ : Int), .int .i64 (x.epoch : Int), .int .i64 (x.seq : Int), .slice A1 x.data.length c1]) (pre ++ [x])) (fun s hs => Cx_snoc (hs (Cx cs pre) memt) ⟨A1, c1, rfl, hxok, hs (Sl (.slice A1 x.data.length c1) x.data) memt⟩) ?_
      repeat' (first | (refine T_gen rfl rfl ?_; refine gw_store (i := 7) rfl clp rfl (by rfl) (by simp) (by simp [Value.oneCell']) ?_; refine T_nv ?_; refine T_hq ?_) | (apply T_nil) | (apply En_block))
      refine En_endRound (i := 2) rfl (show _ = rec by rw [← hrec]) (.obj l (.loop rec) :: .obj d (.deferred (some [])) :: .row (.slice A6 (pre.length + 1) c6) 121 4 (pre.length + 1) (cs ++ [.int .i64 (x.at_ : Int), .int .i64 (x.epoch : Int), .int .i64 (x.seq : Int), .slice A1 x.data.length c1]) :: .blk b1 [.int .i64 (hn : Int)] 3 :: .blk b2 [.slice A xs.length c] 33 :: .blk b5 [.slice A6 (pre.length + 1) c6] 116 :: (ds.map mkO ++ H)) _ (fun w hs => hs.weaken sbp (fun _ h => h)) ⟨rfl, ⟨_, _, by rw [List.length_append, List.length_singleton], memt, fun p hp => List.mem_cons_of_mem _ (hR2 p hp)⟩, fun p hp => List.mem_cons_of_mem _ hp⟩
    · rintro H2 R2 ⟨v, cs, rfl, hcx, hR2⟩
      refine ⟨0, rec, rfl, by rw [← hrec], by rw [← hrec], ?_⟩
      clear hrec
      refine En_weaken (.row v 121 4 (recsB xs hn).length cs :: .blk b5 [v] 116 :: ((d :: ds).map mkO ++ H)) R2 (fun w hs => (hs.weaken (H' := .obj d (.deferred (some [])) :: .row v 121 4 (recsB xs hn).length cs :: .blk b5 [v] 116 :: (ds.map mkO ++ H)) sbp (fun _ h => h)).rot3) ?_
      apply En_block
      apply En_then
      refine TC_shape 0 rfl (fun A2 c2 hv => ?_); subst hv
      refine TC_staysx 0 rfl rfl (by decide) hcx (fun A3 c3 hv => ?_); cases hv
      refine TC_hp hpp ?_
      obtain ⟨out, half, hcu⟩ : ∃ out half, curN xs hn = (out, half) := ⟨_, _, rfl⟩
      obtain ⟨l0, hl0⟩ : ∃ l0, recsB xs hn = l0 := ⟨_, rfl⟩
      rw [hcu] at hm2 h2 h3 ⊢
      rw [hl0] at hcx ⊢
      simp only at hm2 h2 h3 ⊢
      have hcu1 := Go.Lib.hid hcu
      have hl1 := Go.Lib.hid hl0
      have hm4 : Sl (.slice A' out.length c') out ∈ R2 := hR2 _ hm2
      clear hcu hl0 hcx hm2
      apply TC_seq
      refine TC_draw mixed (by decide +kernel) (hQ_marks (p := fun e => isDst _ e = true) (d :: ds)) (List.Sublist.refl _) ?_
      all_goals ((refine TA_p 0 ?_; ((refine pw_load (i := 0) rfl rfl rfl ?_)); refine TA_nv ?_))
      all_goals ((refine TA_p 1 ?_; ((refine pw_len rfl ?_)); refine TA_nv ?_))
      all_goals ((refine TA_p 2 ?_; ((refine pw_gtr rfl rfl (fun h => ?_) (fun h => ?_))) <;> (refine TA_nv ?_)))
      all_goals ((refine TA_p 3 ?_; ((refine pw_mv ?_)); refine TA_nv ?_))
      all_goals (first | (refine TA_p 4 ?_; ((refine pw_mv ?_)); refine TA_nv ?_) | (refine TA_ks 4 (List.Sublist.refl _) ?_))
      all_goals (first | (refine TA_p 5 ?_; ((refine pw_len rfl ?_)); refine TA_nv ?_) | (refine TA_ks 5 (List.Sublist.refl _) ?_))
      all_goals (first | (refine TA_p 6 ?_; ((refine pw_eql rfl rfl (fun h => ?_) (fun h => ?_))) <;> (refine TA_nv ?_)) | (refine TA_ks 6 (List.Sublist.refl _) ?_))
      all_goals (first | (refine TA_p 7 ?_; ((refine pw_mv ?_)); refine TA_nv ?_) | (refine TA_ks 7 (List.Sublist.refl _) ?_))
      all_goals (first | (refine TA_p 8 ?_; ((refine pw_load (i := 0) rfl rfl rfl ?_)); refine TA_nv ?_) | (refine TA_ks 8 (List.Sublist.refl _) ?_))
      all_goals (first | (refine TA_p 9 ?_; ((refine pw_index_rc0 rfl rfl memt (List.getElem?_eq_getElem (by omega)) (fun b o A c hok => ?_))); refine TA_nv ?_) | (refine TA_ks 9 (List.Sublist.refl _) ?_))
      all_goals (first | (refine TA_p 10 ?_; ((refine pw_fieldAddr rfl ?_)); refine TA_nv ?_) | (refine TA_ks 10 (List.Sublist.refl _) ?_))
      all_goals (first | (refine TA_p 11 ?_; ((refine pw_load_at rfl memr rfl ?_)); refine TA_nv ?_) | (refine TA_ks 11 (List.Sublist.refl _) ?_))
      all_goals (first | (refine TA_p 12 ?_; ((refine pw_mv ?_)); refine TA_nv ?_) | (refine TA_ks 12 (List.Sublist.refl _) ?_))
      all_goals (first | (refine TA_p 13 ?_; ((refine pw_index_rc0 rfl rfl memt (List.getElem?_eq_getElem (by omega)) (fun b o A c hok => ?_))); refine TA_nv ?_) | (refine TA_ks 13 (List.Sublist.refl _) ?_))
      all_goals (first | (refine TA_p 14 ?_; ((refine pw_fieldAddr rfl ?_)); refine TA_nv ?_) | (refine TA_ks 14 (List.Sublist.refl _) ?_))
      all_goals (first | (refine TA_p 15 ?_; ((refine pw_load_at rfl memr rfl ?_)); refine TA_nv ?_) | (refine TA_ks 15 (List.Sublist.refl _) ?_))
      all_goals (first | (refine TA_p 16 ?_; ((refine pw_gtr rfl rfl (fun h => ?_) (fun h => ?_))) <;> (refine TA_nv ?_)) | (refine TA_ks 16 (List.Sublist.refl _) ?_))
      all_goals (first | (refine TA_p 17 ?_; ((first | refine pw_pick_t rfl evp ?_ | refine pw_pick_f rfl evp ?_)); refine TA_nv ?_) | (refine TA_ks 17 (List.Sublist.refl _) ?_))
      all_goals ((refine TA_p 18 ?_; ((first | refine pw_pick_t rfl evp ?_ | refine pw_pick_f rfl evp ?_)); refine TA_nv ?_))
      all_goals refine TA_d ?_
      repeat' (first | (apply TC_region) | (apply TC_skip) | (apply TC_cond_true; exact rfl) | (apply TC_cond_false; exact rfl) | (apply T_nil) | (apply En_then) | (apply En_block) | (apply T_load; exact rfl; ((refine pw_load (i := 0) rfl rfl rfl ?_)); refine T_nv ?_) | (apply T_bin; exact rfl; ((refine pw_add64 rfl rfl (by omega) (by omega) ?_)); refine T_nv ?_) | (refine T_pure rfl rfl ?_; ((first | refine pw_mv ?_ | refine pw_as ?_)); refine T_nv ?_))
      · have hnext : curN xs (hn + 1) = (l0, hn) := by
          show (if _ then _ else _) = _
          rw [hl1.out, hcu1.out, if_pos ⟨by omega, .inl (by simp only; omega)⟩]
        refine En_backSD (m - 1) ((d :: ds).map mkO ++ H) (Sl (.slice A2 l0.length c2) l0 :: R2) (by omega) sjp ⟨hn + 1, A2, c2, d :: ds, by omega, rfl, rfl, by rw [hnext]; rfl, by rw [hnext]; rfl, rfl, by rw [hnext]; exact List.mem_cons_self, fun p hp => List.mem_cons_of_mem _ (hR2 _ (hR _ hp))⟩ (fun w hs => hs.weaken sbp kpp)
      · have hnext : curN xs (hn + 1) = (l0, hn) := by
          show (if _ then _ else _) = _
          rw [hl1.out, hcu1.out, if_pos ⟨by omega, .inr (by show (out.getD 0 Rc.zero).epoch < (l0.getD 0 Rc.zero).epoch; rw [getD_rc out (by omega), getD_rc l0 (by omega)]; omega)⟩]
        refine En_backSD (m - 1) ((d :: ds).map mkO ++ H) (Sl (.slice A2 l0.length c2) l0 :: R2) (by omega) sjp ⟨hn + 1, A2, c2, d :: ds, by omega, rfl, rfl, by rw [hnext]; rfl, by rw [hnext]; rfl, rfl, by rw [hnext]; exact List.mem_cons_self, fun p hp => List.mem_cons_of_mem _ (hR2 _ (hR _ hp))⟩ (fun w hs => hs.weaken sbp kpp)
      · have hnext : curN xs (hn + 1) = (out, half) := by
          show (if _ then _ else _) = _
          rw [hl1.out, hcu1.out, if_neg (fun hc => by
            rcases hc.2 with e | e
            · simp only at e; omega
            · simp only at e; rw [getD_rc out (by omega), getD_rc l0 (by omega)] at e; omega)]
        refine En_backSD (m - 1) ((d :: ds).map mkO ++ H) R2 (by omega) sjp ⟨hn + 1, A', c', d :: ds, by omega, rfl, rfl, by rw [hnext]; rfl, by rw [hnext]; rfl, rfl, by rw [hnext]; exact hm4, fun p hp => hR2 _ (hR _ hp)⟩ (fun w hs => hs.weaken sbp kpp)
      · have hnext : curN xs (hn + 1) = (out, half) := by
          show (if _ then _ else _) = _
          rw [hl1.out, hcu1.out, if_neg (fun hc => by have := hc.1; omega)]
        refine En_backSD (m - 1) ((d :: ds).map mkO ++ H) R2 (by omega) sjp ⟨hn + 1, A', c', d :: ds, by omega, rfl, rfl, by rw [hnext]; rfl, by rw [hnext]; rfl, rfl, by rw [hnext]; exact hm4, fun p hp => hR2 _ (hR _ hp)⟩ (fun w hs => hs.weaken sbp kpp)
  · have hh2 : hn = 2 := by omega
    subst hh2
    refine En_leave (.inl rfl) (LV_marks (res2 rfl (rv_tmp rfl) (rv_tmp rfl)) H (Sl (.slice A' (curB xs).1.length c') (curB xs).1 :: R) (fun w hs => hs.weaken sbp (sub_cons hm2 hR)) (k A' c') ds)
end Go.Proofs.Ytggdljhmbckpmaa
namespace Go.Proofs.Ytggdljhmbckpmaa
open Go Go.RowKit
set_option maxRecDepth 100000
set_option maxHeartbeats 800000

theorem current_k' {w0 : World} {H : List Hp} {R : List MP} {K : Value → List Hp → List MP → Prop} (A : Option Addr) (m c : Nat) (xs : List UInt8) (hml : m = xs.length) (hb : xs.length ≤ 600000) (hm : Sl (.slice A m c) xs ∈ R)
    (k : ∀ A' c', K (.tuple #[.slice A' (curB xs).1.length c', .int .i64 ((curB xs).2 : Int)]) H (Sl (.slice A' (curB xs).1.length c') (curB xs).1 :: R)) : CallsK Try.prog w0 49 #[.slice A m c] H R K := by
  subst hml; exact current_k A c xs hb hm k

def Rc.toR (r : Rc) : RecD := ⟨r.at_, r.epoch, r.seq, r.data.length⟩
def recordsD (d : Drive) : List RecD × Int := if checkD d then ((curB (hasB d)).1.map Rc.toR, 0) else ([], 301)
/-- Records and an errno are returned, the records for good. -/
def KR (K : Value → List Hp → List MP → Prop) (r : List RecD × Int) (H : List Hp) (R : List MP) : Prop := ∀ A c, K (.tuple #[.slice A r.1.length c, .int .i64 r.2]) H (Sl (.slice A r.1.length c) r.1 :: R)
theorem KR_eq {K : Value → List Hp → List MP → Prop} {r r' : List RecD × Int} {H : List Hp} {R : List MP} (e : r = r') (h : KR K r H R) : KR K r' H R := e ▸ h
theorem recs_len (b : List UInt8) (limit : Nat) (hl : limit ≤ 600000) : ∀ m at_ seq ep, at_ ≤ limit → at_ + (recL b limit m at_ seq ep).length ≤ limit
  | 0, at_, seq, ep, h => by simp [recL]; omega
  | m + 1, at_, seq, ep, h => by
    unfold recL
    split
    · rename_i hc
      obtain ⟨h1, h2, h3, h4⟩ := recA_ok hl hc.1
      have := recs_len b limit hl m (recA b at_ limit).1.stop (seq + 1) (some (recA b at_ limit).1.epoch) h3
      simp only [List.length_cons]; omega
    · simp; omega
theorem recsB_len {b : List UInt8} {h : Nat} (hb : b.length ≤ 600000) (hh : h < 2) : (recsB b h).length ≤ 600000 := by
  have := recs_len b ((h + 1) * b.length / 2) (by rcases (show h = 0 ∨ h = 1 by omega) with rfl | rfl <;> simp <;> omega) (b.length + 1) (h * b.length / 2) 0 none (by rcases (show h = 0 ∨ h = 1 by omega) with rfl | rfl <;> simp <;> omega)
  have h2 : (h + 1) * b.length / 2 ≤ 600000 := by rcases (show h = 0 ∨ h = 1 by omega) with rfl | rfl <;> simp <;> omega
  unfold recsB
  omega
theorem curB_len {b : List UInt8} (hb : b.length ≤ 600000) : (curB b).1.length ≤ 600000 := by
  have h0 := recsB_len (h := 0) hb (by omega)
  have h1 := recsB_len (h := 1) hb (by omega)
  have key : ∀ h, h ≤ 2 → (curN b h).1.length ≤ 600000 := by
    intro h hh
    induction h with
    | zero => simp [curN]
    | succ h ih =>
      unfold curN
      split
      · rcases (show h = 0 ∨ h = 1 by omega) with rfl | rfl
        · exact h0
        · exact h1
      · exact ih (by omega)
  exact key 2 (by omega)

theorem records_k {w0 : World} {H : List Hp} {R : List MP} {K : Value → List Hp → List MP → Prop} (A0 : Option Addr) (c0 : Nat) (A2 : Option Addr) (c2 : Nat) (d : Drive) (hb : d.bytes.length ≤ 9223372036854775807) (hp : d.pending.length ≤ 9223372036854775807)
    (hm : Sl (.slice A0 d.bytes.length c0) d.bytes ∈ R) (hm2 : Sl (.slice A2 d.pending.length c2) d.pending ∈ R)
    (k : KR K (recordsD d) H R) : CallsK Try.prog w0 15 #[dv A0 c0 A2 c2 d] H R K := by
  refine calls_of Try.func15 rfl Try.ntmps15 nep ?_
  repeat' (first | (refine T_ow rfl ?_; refine ow_callf arp ?_; refine check_k _ _ _ _ d hb hp hm hm2 ?_; refine T_nv ?_) | (apply TC_seq) | (apply TC_region) | (apply TC_ret) | (apply TC_skip) | (apply TC_cond_true; exact rfl) | (apply TC_cond_false; exact rfl) | (apply T_nil) | (apply En_then) | (apply En_then_ret) | (apply T_load; exact rfl; ((refine pw_load (i := 0) rfl rfl rfl ?_)); refine T_nv ?_) | (apply T_bin; exact rfl; ((refine pw_neq rfl rfl (fun h => ?_) (fun h => ?_))) <;> (refine T_nv ?_)) | (refine T_pure rfl rfl ?_; ((first | refine pw_mv ?_ | refine pw_as ?_)); refine T_nv ?_) | (refine T_gen rfl rfl ?_; ((refine gw_box clp (fun b => ?_))); refine T_nv ?_))
  · have hc : checkD d = false := by unfold errD at h; cases hc : checkD d <;> simp_all
    have e : errD d = 301 := by unfold errD; rw [hc]; rfl
    rw [e]
    refine En_fin (.inl rfl) (res2 rfl (rv_tmp rfl) (rv_tmp rfl)) (fin_K H (Sl (.slice none 0 0) ([] : List RecD) :: R) (fun w hs => (hs.weaken sbp (fun _ h => h)).sl_nil RecD) ?_)
    exact KR_eq (r' := ([], 301)) (by unfold recordsD; rw [hc]; rfl) k none 0
  have hc : checkD d = true := by unfold errD at h; cases hc : checkD d <;> simp_all
  have hlen := hasB_length hc
  have h6 := (checkD_spec hc).2.1
  have hcl := curB_len (b := hasB d) (by omega)
  obtain ⟨rs, hrs⟩ : ∃ rs, (curB (hasB d)).1 = rs := ⟨_, rfl⟩
  rw [hrs] at hcl
  have k' := KR_eq (r' := (rs.map Rc.toR, 0)) (by unfold recordsD; rw [if_pos hc, hrs]) k
  repeat' (first | (refine T_ow rfl ?_; refine ow_callf arp ?_; refine has_k _ _ _ _ d hc hm hm2 (fun v => ?_); refine T_nv ?_; refine T_stays 0 rfl (fun A' c' hv => ?_); subst hv; refine T_hq ?_) | (refine T_ow rfl ?_; refine ow_callf arp ?_; refine current_k' _ _ _ (hasB d) rfl (by omega) memt (fun A3 c3 => ?_); rw [hrs]; refine T_nv ?_) | (apply TC_seq) | (apply TC_region) | (apply TC_block) | (apply T_nil) | (apply En_then) | (refine T_pure rfl rfl ?_; ((first | refine pw_mv ?_ | refine pw_as ?_ | refine pw_len rfl ?_ | refine pw_extract rfl rfl ?_)); refine T_nv ?_))
  refine TC_nilrow 50 4 ?_
  refine TC_learn (Cx [] ([] : List RecD)) (fun s _ => Cx_nil s) ?_
  refine TC_weaken _ (Cx [] ([] : List RecD) :: Sl (.slice A3 rs.length c3) rs :: R) (fun w hs => hs.weaken (List.Sublist.refl _) kpp) ?_
  refine TC_loopS [2, 8, 22, 23, 24, 25, 26, 27, 28, 29, 30, 31, 32, 33, 34, 35, 36, 37, 38, 39] (fun m j H' R' => ∃ i v cs, i + m = rs.length ∧ j 22 = .int .i64 ((i : Nat) : Int) ∧ j 2 = v ∧ H' = .row v 50 4 i cs :: .blk b [.slice A0 d.bytes.length c0, .slice A2 d.pending.length c2] 45 :: H ∧ R' = Cx cs ((rs.take i).map Rc.toR) :: Sl (.slice A3 rs.length c3) rs :: R) rs.length sjp ⟨0, _, [], by omega, rfl, rfl, rfl, rfl⟩ ?_
  rintro m j H' R' ⟨i, v, cs, hi, h22, h2, hH, hR⟩
  subst hH hR
  refine TC_env (by simp only [setJ, List.foldl_cons, List.foldl_nil, List.set_cons_succ, List.set_cons_zero, h22, h2]; rfl) ?_
  repeat' (first | (refine T_pure rfl rfl ?_; refine pw_index_rcN rfl rfl memt (List.getElem?_eq_getElem (by omega)) (fun b' o A4 c4 hok => ?_); refine T_nv ?_) | (apply TC_seq) | (apply TC_region) | (apply TC_block) | (apply TC_ret) | (apply TC_skip) | (apply TC_exit) | (apply TC_cond_true; exact rfl) | (apply TC_cond_false; exact rfl) | (apply T_nil) | (apply En_then) | (apply En_then_exit) | (apply En_block_exit) | (apply T_load; exact rfl; ((first | refine pw_load (i := 0) rfl rfl rfl ?_ | refine pw_load_at0 rfl memr rfl ?_)); refine T_nv ?_) | (apply T_bin; exact rfl; ((refine pw_lss rfl rfl (fun h => ?_) (fun h => ?_))) <;> (refine T_nv ?_)) | (apply T_store; exact rfl; ((refine gw_store (i := 0) rfl clp rfl (by rfl) (by simp) (by simp [Value.oneCell']) ?_)); refine T_nv ?_; refine T_hq ?_) | (refine T_pure rfl rfl ?_; ((first | refine pw_mv ?_ | refine pw_as ?_ | refine pw_fieldAddr rfl ?_ | refine pw_len rfl ?_ | refine pw_build bldp ?_)); refine T_nv ?_) | (refine T_gen rfl rfl ?_; ((first | refine gw_alloc clp (fun b => ?_) | refine gw_buildSlice (by decide) prtp rfl (fun b => ?_))); refine T_nv ?_))
  · refine T_gen rfl rfl ?_
    refine gw_append_blk 2 0 rfl rfl rfl rfl (by decide) rfl (by simp [Value.oneCell']) (by omega) (by omega) (fun v' => ?_)
    refine T_nv ?_; refine T_hq ?_
    have hI : InI ((rs[i]).at_ : Int) ∧ InI ((rs[i]).epoch : Int) ∧ InI ((rs[i]).seq : Int) ∧ InI ((rs[i]).data.length : Int) := by
      have h1 := hok.1
      have h2 := hok.2.1
      have h3 := hok.2.2
      simp only [Rc.stop] at h1
      simp only [InI]
      omega
    refine T_learn (Cx (cs ++ [.int .i64 (rs[i].at_ : Int), .int .i64 (rs[i].epoch : Int), .int .i64 (rs[i].seq : Int), .int .i64 (rs[i].data.length : Int)]) ((rs.take i).map Rc.toR ++ [rs[i].toR])) (fun s hs => Cx_snoc (hs (Cx cs ((rs.take i).map Rc.toR)) memt) ⟨rfl, hI⟩) ?_
    repeat' (first | (apply TC_region) | (apply T_nil) | (apply En_then) | (apply En_block) | (apply T_bin; exact rfl; ((refine pw_add64 rfl rfl (by omega) (by omega) ?_)); refine T_nv ?_) | (refine T_pure rfl rfl ?_; ((first | refine pw_mv ?_ | refine pw_as ?_)); refine T_nv ?_))
    refine En_backS (m - 1) _ (Cx (cs ++ [.int .i64 (rs[i].at_ : Int), .int .i64 (rs[i].epoch : Int), .int .i64 (rs[i].seq : Int), .int .i64 (rs[i].data.length : Int)]) ((rs.take (i + 1)).map Rc.toR) :: Sl (.slice A3 rs.length c3) rs :: R) (by omega) sjp ⟨i + 1, _, _, by omega, rfl, rfl, rfl, rfl⟩ (fun w hs => hs.weaken sbp ?_)
    rw [List.take_succ_eq_append_getElem (show i < rs.length by omega), List.map_append, List.map_cons, List.map_nil]
    exact kpp
  · have hie : i = rs.length := by omega
    subst hie
    refine En_stays' 0 rfl rfl (by decide) (show Cx cs (rs.map Rc.toR) ∈ _ by rw [List.take_length]; exact List.mem_cons_self) (fun A5 c5 hv => ?_)
    subst hv
    refine En_fin (.inl rfl) (res2 rfl (rv_tmp rfl) (rv_tmp rfl)) (fin_K H _ (fun w hs => hs.weaken sbp kpp) (k' A5 c5))

def lastD (d : Drive) : List UInt8 × Int := if checkD d then (if (curB (hasB d)).1.length = 0 then ([], 302) else (((curB (hasB d)).1.getD ((curB (hasB d)).1.length - 1) Rc.zero).data, 0)) else ([], 301)
theorem clone_k' {w0 : World} {H : List Hp} {R : List MP} {K : Value → List Hp → List MP → Prop} (A : Option Addr) (m c : Nat) (xs : List UInt8) (hml : m = xs.length) (hb : xs.length ≤ 140737488355328) (hm : Sl (.slice A m c) xs ∈ R)
    (k : ∀ v', K v' (.row v' 5 1 xs.length (bytesV xs) :: H) R) : CallsK Try.prog w0 57 #[.slice A m c] H R K := by
  subst hml; exact clone_k A c xs hb hm k
theorem last_k {w0 : World} {H : List Hp} {R : List MP} {K : Value → List Hp → List MP → Prop} (A0 : Option Addr) (c0 : Nat) (A2 : Option Addr) (c2 : Nat) (d : Drive) (hb : d.bytes.length ≤ 9223372036854775807) (hp : d.pending.length ≤ 9223372036854775807)
    (hm : Sl (.slice A0 d.bytes.length c0) d.bytes ∈ R) (hm2 : Sl (.slice A2 d.pending.length c2) d.pending ∈ R)
    (k : KB K (lastD d) H R) : CallsK Try.prog w0 34 #[dv A0 c0 A2 c2 d] H R K := by
  refine calls_of Try.func34 rfl Try.ntmps34 nep ?_
  repeat' (first | (refine T_ow rfl ?_; refine ow_callf arp ?_; refine check_k _ _ _ _ d hb hp hm hm2 ?_; refine T_nv ?_) | (apply TC_seq) | (apply TC_region) | (apply TC_ret) | (apply TC_skip) | (apply TC_cond_true; exact rfl) | (apply TC_cond_false; exact rfl) | (apply T_nil) | (apply En_then) | (apply En_then_ret) | (apply T_load; exact rfl; ((refine pw_load (i := 0) rfl rfl rfl ?_)); refine T_nv ?_) | (apply T_bin; exact rfl; ((refine pw_neq rfl rfl (fun h => ?_) (fun h => ?_))) <;> (refine T_nv ?_)) | (refine T_pure rfl rfl ?_; ((first | refine pw_mv ?_ | refine pw_as ?_)); refine T_nv ?_) | (refine T_gen rfl rfl ?_; ((refine gw_box clp (fun b => ?_))); refine T_nv ?_))
  · have hc : checkD d = false := by unfold errD at h; cases hc : checkD d <;> simp_all
    have e : errD d = 301 := by unfold errD; rw [hc]; rfl
    rw [e]
    refine En_fin (.inl rfl) (res2 rfl (rv_tmp rfl) (rv_tmp rfl)) (fin_K H (Sl (.slice none 0 0) ([] : List UInt8) :: R) (fun w hs => (hs.weaken sbp (fun _ h => h)).sl_nil UInt8) ?_)
    exact KB_eq (r' := ([], 301)) (by unfold lastD; rw [hc]; rfl) k none 0
  have hc : checkD d = true := by unfold errD at h; cases hc : checkD d <;> simp_all
  have hlen := hasB_length hc
  have h6 := (checkD_spec hc).2.1
  have hcl := curB_len (b := hasB d) (by omega)
  obtain ⟨rs, hrs⟩ : ∃ rs, (curB (hasB d)).1 = rs := ⟨_, rfl⟩
  rw [hrs] at hcl
  have k' := KB_eq (r' := if rs.length = 0 then ([], 302) else ((rs.getD (rs.length - 1) Rc.zero).data, 0)) (by unfold lastD; rw [if_pos hc, hrs]) k
  repeat' (first | (refine T_ow rfl ?_; refine ow_callf arp ?_; refine has_k _ _ _ _ d hc hm hm2 (fun v => ?_); refine T_nv ?_; refine T_stays 0 rfl (fun A' c' hv => ?_); subst hv; refine T_hq ?_) | (refine T_ow rfl ?_; refine ow_callf arp ?_; refine current_k' _ _ _ (hasB d) rfl (by omega) memt (fun A3 c3 => ?_); rw [hrs]; refine T_nv ?_) | (apply TC_seq) | (apply TC_region) | (apply TC_ret) | (apply TC_skip) | (apply TC_cond_true; exact rfl) | (apply TC_cond_false; exact rfl) | (apply T_nil) | (apply En_then) | (apply En_then_ret) | (apply T_bin; exact rfl; ((refine pw_sub64 rfl rfl (by omega) (by omega) ?_)); refine T_nv ?_) | (apply T_bin; exact rfl; ((refine pw_eql rfl rfl (fun h => ?_) (fun h => ?_))) <;> (refine T_nv ?_)) | (refine T_pure rfl rfl ?_; ((first | refine pw_mv ?_ | refine pw_as ?_ | refine pw_len rfl ?_ | refine pw_extract rfl rfl ?_)); refine T_nv ?_))
  · rw [if_pos (by omega)] at k'
    refine En_fin (.inl rfl) (res2 rfl (rv_tmp rfl) (rv_tmp rfl)) (fin_K H (Sl (.slice none 0 0) ([] : List UInt8) :: R) (fun w hs => (hs.weaken sbp kpp).sl_nil UInt8) (k' none 0))
  · rw [if_neg (by omega)] at k'
    have e : rs.getD (rs.length - 1) Rc.zero = rs[rs.length - 1]'(by omega) := by simp [List.getD, show rs.length - 1 < rs.length by omega]
    rw [e] at k'
    have hi : ((rs.length : Int) - 1) = ((rs.length - 1 : Nat) : Int) := by omega
    repeat' (first | (rw [hi]; refine T_pure rfl rfl ?_; refine pw_index_rcN rfl rfl memt (List.getElem?_eq_getElem (by omega)) (fun b' o A4 c4 hok => ?_); refine T_nv ?_) | (refine T_ow rfl ?_; refine ow_callf arp ?_; refine clone_k' _ _ _ (rs[rs.length - 1]'(by omega)).data rfl (by have h1 := hok.1; simp only [Rc.stop] at h1; omega) memt (fun v => ?_); refine T_nv ?_; refine T_stays 0 rfl (fun A' c' hv => ?_); subst hv; refine T_hq ?_) | (apply TC_ret) | (apply T_nil) | (apply En_then) | (apply T_load; exact rfl; ((refine pw_load_at rfl memr rfl ?_)); refine T_nv ?_) | (refine T_pure rfl rfl ?_; ((first | refine pw_as ?_ | refine pw_fieldAddr rfl ?_)); refine T_nv ?_))
    refine En_fin (.inl rfl) (res2 rfl (rv_tmp rfl) (rv_tmp rfl)) (fin_K H _ (fun w hs => hs.weaken sbp kpp) (k' _ _))
end Go.Proofs.Ytggdljhmbckpmaa
namespace Go.Proofs.Ytggdljhmbckpmaa
open Go Go.RowKit
attribute [local semireducible] T TC En PW GW OW CallsK CallsP Sl Rd Ls At S TA
section
variable {P : Program} {w0 : World} {H : List Hp} {R : List MP}
theorem run_append_room_off (w : World) (t ty e : TypeId) (i : TypeInfo) (ht : P.underlying t = some (.slice e)) (hi : P.info? e = some i)
    (g off sLen sCap : Nat) (cur : Array Value) (hg : w.heap[g]? = some (.cells cur e (0, 0)))
    (a : Addr) (m c : Nat) (news : List Value) (hl : news.length = m * i.size) (hnews : ∀ j u, news[j]? = some u → w.cell? (a.add j) = some u) (h1 : ∀ u ∈ news, u.oneCell' = true)
    (hroom : sLen + m ≤ sCap) (hfit : off + sLen * i.size + news.length ≤ cur.size) :
    (Builtin.append_ #[t, t] ty #[.slice (some ⟨g, off, none⟩) sLen sCap, .slice (some a) m c]).run P w =
      .ok (.slice (some ⟨g, off, none⟩) (sLen + m) sCap) (w.setRow g (cur.toList.take (off + sLen * i.size) ++ news ++ cur.toList.drop (off + sLen * i.size + news.length)).toArray) := by
  have hf := run_firstCells_some (P := P) w i.size m a m c news hl hnews
  have hst := run_storeCells_at P g (off + sLen * i.size) e news 0 cur w hg (by simpa using hfit) h1
  simp only [Nat.add_zero] at hst
  simp [Builtin.append_, run_underlying ht, sizeOf, typeInfo, hi, Builtin.lenOf, hroom, hf, Addr.add_lit, hst]
/-- What a block's part reads as, once it stays. -/
theorem Sl_at {s : Sto} {b off n c : Nat} {cs : List Value} {xs : List UInt8} (hat : (At b 0 cs).p s) (hn : n = xs.length) (hc : n ≤ c) (hcm : c ≤ maxL) (hx : ∀ k x, xs[k]? = some x → cs[off + k]? = some (byteV x)) : (Sl (.slice (some ⟨b, off, none⟩) n c) xs).p s := by
  subst hn
  refine ⟨_, _, rfl, ⟨hc, hcm⟩, fun _ => ⟨b, off, rfl, fun k x hk => ⟨[byteV x], rfl, fun j v hj => ?_⟩⟩⟩
  have hj0 : j = 0 ∧ v = byteV x := by
    cases j with
    | zero => simp at hj; exact ⟨rfl, hj.symm⟩
    | succ j => simp at hj
  obtain ⟨rfl, rfl⟩ := hj0
  have := hat (off + k) (byteV x) (hx k x hk)
  simpa [Rep.size] using this
end
section
variable {P : Program} {w0 : World} {E : List Value} {H : List Hp} {R : List MP} {ty : TypeId} {K : Value → List Hp → List MP → Prop}
/-- Bytes are appended to a part of an owned block: the outcome stays. -/
theorem gw_append_sub {t : TypeId} {s x : Operand} (i j : Nat) {b off cap b9 c by_ : Nat} {zs cs : List Value} {xs ys : List UInt8} [h : TyL P t 5 1 by_ zs] (hs : ev E s = .slice (some ⟨b, off, none⟩) xs.length cap) (hx : ev E x = .slice (some ⟨b9, 0, none⟩) ys.length c)
    (hi : H[i]? = some (.blk b cs 5)) (hj : H[j]? = some (.blk b9 (bytesV ys) 5)) (hcs : ∀ k x, xs[k]? = some x → cs[off + k]? = some (byteV x)) (hxc : xs.length ≤ cap) (hcap : cap ≤ maxLen) (hfit : off + cap ≤ cs.length)
    (hby : (xs.length + ys.length) * by_ ≤ 140737488355328) (hnm : xs.length + ys.length ≤ 140737488355328)
    (kk : ∀ A c', K (.slice A (xs ++ ys).length c') (H.eraseIdx i) (Sl (.slice A (xs ++ ys).length c') (xs ++ ys) :: R)) : GW P w0 E (.call ⟨.builtin .append, #[s, x], #[t, t]⟩) ty H R K := fun w hw => by
  obtain ⟨ti, z, hti, e1, e2, e3, e4, _⟩ := h.info
  have hzl : zs.length = 1 := h.len
  have hb := (hw.blk_heap hi).1
  have hnews : ∀ k u, (bytesV ys)[k]? = some u → w.cell? ((⟨b9, 0, none⟩ : Addr).add k) = some u := fun k u hk => by rw [Addr.add_mk]; exact hw.blk_cells hj k u hk
  have fin : ∀ v' w', (Builtin.append_ #[t, t] ty #[.slice (some ⟨b, off, none⟩) xs.length cap, .slice (some ⟨b9, 0, none⟩) ys.length c]).run P w = .ok v' w' → (∃ A c', v' = .slice A (xs ++ ys).length c' ∧ S w0 w' (H.eraseIdx i) (Sl (.slice A (xs ++ ys).length c') (xs ++ ys) :: R)) → ∃ v w' H' R', ((xop E (.call ⟨.builtin .append, #[s, x], #[t, t]⟩) ty).run P w = .ok (.value v) w' ∨ (xop E (.call ⟨.builtin .append, #[s, x], #[t, t]⟩) ty).run P w = .ok .skip w' ∧ v = undef) ∧ S w0 w' H' R' ∧ K v H' R' := fun v' w' hr ⟨A, c', e, hs'⟩ =>
    ⟨v', w', _, _, .inl (by simp [xop, execOp, resolve, invoke, builtin, hs, hx, hr]), hs', e ▸ kk A c'⟩
  by_cases hroom : xs.length + ys.length ≤ cap
  · have hr := run_append_room_off (P := P) w t ty 5 ti h.und hti b off xs.length cap cs.toArray hb ⟨b9, 0, none⟩ ys.length c (bytesV ys) (by simp [e1]) hnews (bytesV_one _) hroom (by simp [e1]; omega)
    refine fin _ _ hr ⟨some ⟨b, off, none⟩, cap, by rw [List.length_append], ?_⟩
    have h2 := hw.setRow hi (cs.take (off + xs.length * ti.size) ++ bytesV ys ++ cs.drop (off + xs.length * ti.size + (bytesV ys).length))
    have hlt : i < H.length := (List.getElem?_eq_some_iff.1 hi).1
    have h3 := h2.freeze (i := i) (b := b) (T := 5) (by rw [List.getElem?_set_self hlt])
    rw [List.eraseIdx_set_eq] at h3
    refine (h3.add (Sl (.slice (some ⟨b, off, none⟩) (xs ++ ys).length cap) (xs ++ ys)) (fun s hR => Sl_at (hR _ List.mem_cons_self) rfl (by rw [List.length_append]; omega) (by simp only [maxLen] at hcap; simp only [maxL]; omega) (fun k x hk => ?_))).weaken (List.Sublist.refl _) (fun p hp => by
      rcases List.mem_cons.1 hp with rfl | hp
      · simp
      · simp [hp])
    rw [e1, Nat.mul_one]
    by_cases hk' : k < xs.length
    · rw [List.getElem?_append_left hk'] at hk
      rw [List.append_assoc, List.getElem?_append_left (by simp; omega), List.getElem?_take, if_pos (by omega)]
      exact hcs k x hk
    · rw [List.getElem?_append_right (by omega)] at hk
      have hk2 := (List.getElem?_eq_some_iff.1 hk).1
      rw [List.append_assoc, List.getElem?_append_right (by simp; omega), List.getElem?_append_left (by simp; omega)]
      rw [List.length_take, Nat.min_eq_left (by omega), show off + k - (off + xs.length) = k - xs.length by omega]
      simp [bytesV, hk]
  · obtain ⟨v', w', hr, ho, hg⟩ := run_append_arg_grows (P := P) w t ty 5 ti z 1 by_ h.und hti e3 e1 e2 (by rw [e4]; simpa using hzl) (by omega) ⟨b, off, none⟩ xs.length cap (bytesV xs) (by simp) (fun k u hk => by
        rw [Addr.add_mk]
        have hk2 : ∃ x, xs[k]? = some x ∧ u = byteV x := by
          simp only [bytesV, List.getElem?_map] at hk
          cases hx : xs[k]? with
          | none => rw [hx] at hk; cases hk
          | some x => rw [hx] at hk; exact ⟨x, rfl, by simpa using hk.symm⟩
        obtain ⟨x, hx1, rfl⟩ := hk2
        have := hw.blk_cells hi (off + k) (byteV x) (hcs k x hx1)
        simpa using this) ⟨b9, 0, none⟩ ys.length c (bytesV ys) (by simp) hnews (by omega) (by simp only [maxLen]; omega) hby
    refine fin v' w' hr ?_
    have h2 := ((hw.drop i).nilrow 5 1).grow (i := 0) (n' := xs.length + ys.length) (v' := v') (cs' := bytesV xs ++ bytesV ys) rfl hg ⟨ho.1, ?_⟩ ?_
    · rw [← bytesV_append] at h2
      obtain ⟨A, c', e, h3⟩ := S.row_stays (i := 0) (m := xs.length + ys.length) (xs := xs ++ ys) h2 rfl
      exact ⟨A, c', e, h3⟩
    · rcases ho.2 with ho | ⟨g, cap', cur, k1, k2, k3⟩
      · exact .inl ho
      · exact .inr ⟨g, cap', cur, k1, Nat.le_trans hw.below.size k2, k3⟩
    · rcases ho.2 with ⟨ho, _⟩ | ⟨g, cap', cur, k1, k2, k3⟩
      · subst ho; exact .inl rfl
      · subst k1; exact .inr (.inr ⟨g, rfl, k2⟩)
end
end Go.Proofs.Ytggdljhmbckpmaa
