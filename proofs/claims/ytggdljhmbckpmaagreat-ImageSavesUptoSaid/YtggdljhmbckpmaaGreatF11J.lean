/- The current records: walks. Records, Last: walks. -/
import Derived.Test.YtggdljhmbckpmaaGreatF9J
import Derived.Test.YtggdljhmbckpmaaGreatF2J
set_option linter.unusedVariables false
set_option linter.unusedSimpArgs false
namespace Go.Proofs.YtggdljhmbckpmaaGreat
open Go Go.RowKit
set_option maxRecDepth 100000
set_option maxHeartbeats 800000

theorem recsOf_k {w0 : World} {H : List Hp} {R : List MP} {K : Value → List Hp → List MP → Prop} (v : Value) (half : Int)
    (k : ∀ b1 b2, K (.func (.func 148) #[] #[.pointer (some ⟨b1, 0, none⟩), .pointer (some ⟨b2, 0, none⟩)]) (.blk b1 [.int .i64 half] 3 :: .blk b2 [v] 33 :: H) R) (hv : v.cells = #[v]) : CallsK Tryz.prog w0 113 #[v, .int .i64 half] H R K := by
  refine bV Tryz.func113 rfl Tryz.ntmps113 fI ?_
  repeat' (first | (refine bJ rfl rfl ?_; refine dX (cs := [v]) hv (fun b => ?_); refine aB ?_) | (apply aF) | (apply aA) | (apply bP) | (apply aH) | (apply aD) | (refine aE rfl rfl ?_; ((first | refine aY ?_ | refine cR iE iE ?_)); refine aB ?_) | (refine bJ rfl rfl ?_; ((refine dX cW (fun b => ?_))); refine aB ?_))
  exact aZ (.inl rfl) (dP rfl (bR rfl)) (cA _ R (fun _ h => h) (k _ _))

/-- The records of the halves ahead of number h, and which half's they are. -/
def lH (xs : List UInt8) : Nat → List Rc × Nat
  | 0 => ([], 0)
  | h + 1 => if 0 < (eP xs h).length ∧ ((lH xs h).1.length = 0 ∨ ((lH xs h).1.getD 0 Rc.zero).epoch < ((eP xs h).getD 0 Rc.zero).epoch) then (eP xs h, h) else lH xs h
def jA (xs : List UInt8) : List Rc × Nat := lH xs 2
theorem oX (xs : List Rc) (h : 0 < xs.length) : xs.getD 0 Rc.zero = xs[0] := by simp [List.getD, h]

section
variable {P : Program} {w0 : World} {E : List Value} {H : List Hp} {R : List MP} {ty : TypeId} {K : Value → List MP → Prop}
theorem rF {t e : TypeId} {x ix : Operand} {agg : Bool} {by_ : Nat} {z : Value} [h : TyU P t (.slice e)] [he : Ty P e agg 4 by_ z] {v : Value} {xs : List Rc} {k : IntKind} {d : Rc} (hx : ev E x = v) (hix : ev E ix = .int k 0) (hm : Sl v xs ∈ R) (hd : xs[0]? = some d)
    (kk : ∀ b o A c, d.ok → K (.pointer (some ⟨b, o, none⟩)) (At b o [.int .i64 (d.at_ : Int), .int .i64 (d.epoch : Int), .int .i64 (d.seq : Int), .slice A d.data.length c] :: Sl (.slice A d.data.length c) d.data :: R)) : PW P w0 E (.indexAddr t x ix) ty H R K := dZ hx hix hm rfl (by simpa using hd) aO (fun b o (y : Option Addr × Nat) (hy : d.ok) => kk b o y.1 y.2 hy)
end
def mk (d : Nat) : Deferred := ⟨.collected d, #[]⟩
def mkO (d : Nat) : Hp := .obj d (.deferred (some []))
theorem xK {P : Program} {w0 : World} {fn : Func} {K : Value → List Hp → List MP → Prop} {E : List Value} {H : List Hp} {R : List MP} {v : Value} (hr : ∀ w, S w0 w H R → (results fn E.toArray).run P w = .ok v w) (H' : List Hp) (R' : List MP) (hw : ∀ w, S w0 w H R → S w0 w H' R') (hk : K v H' R') :
    ∀ (ds : List Nat), LV P w0 fn K (ds.map mk) E (ds.map mkO ++ H) R
  | [] => LV_nil hr H' R' hw hk
  | d :: ds => by
    refine LV_mark (i := 0) rfl ?_
    have ih := xK hr H' R' hw hk ds
    unfold LV at ih ⊢
    intro w hs
    exact ih w (hs.weaken (List.sublist_cons_self _ _) (fun _ h => h))

theorem rX {F : Fence} {n : Nat} {P : Program} {fn : Func} {Rp : Ending → World → Prop} {t t' : Array Value} {c : List PanicEntry} : ∀ (ds : List Nat) (w : World), LeavesInM F n P fn t Rp (ds.map mk) (.panicking c) w → LeavesInM F n P fn t' Rp (ds.map mk) (.panicking c) w
  | [], w, h => h
  | d :: ds, w, h => by
    obtain ⟨h1, h2⟩ := h
    refine ⟨h1, ?_⟩
    rcases h2 with ⟨r, w', e1, e2, e3⟩ | ⟨_, fv, cap, f, args, e1, _⟩
    · exact .inl ⟨r, w', e1, e2, rX ds w' e3⟩
    · cases e1
theorem hQ_marks {F : Fence} {n : Nat} {P : Program} {fn : Func} {Rp : Ending → World → Prop} (ds : List Nat) {p : Tmp → Prop} (c : List PanicEntry) (E : List Value) (e : Tmp) (v : Value) (w : World) (_ : p e) (h : bodyPostM F n P fn Rp (.panic c) (jR (eE E (some e) v) (ds.map mk)) w) : bodyPostM F n P fn Rp (.panic c) (jR E (ds.map mk)) w := rX ds w h
theorem q9 {w0 : World} {H : List Hp} {R : List MP} {K : Value → List Hp → List MP → Prop} (A : Option Addr) (c : Nat) (xs : List UInt8) (hb : xs.length ≤ 600000) (hm : Sl (.slice A xs.length c) xs ∈ R)
    (k : ∀ A' c', K (.tuple #[.slice A' (jA xs).1.length c', .int .i64 ((jA xs).2 : Int)]) H (Sl (.slice A' (jA xs).1.length c') (jA xs).1 :: R)) : CallsK Tryz.prog w0 55 #[.slice A xs.length c] H R K := by
  refine oZ Tryz.func55 rfl Tryz.ntmps55 fI ?_
  repeat' (first | (apply aF) | (apply aA) | (apply aV) | (apply aH) | (apply aD) | (refine aE rfl rfl ?_; ((first | refine aG ?_ | refine aY ?_)); refine aB ?_))
  refine qL (Sl (.slice none 0 0) ([] : List Rc)) (fun s _ => kR Rc s) ?_
  refine k9 [2, 3, 4, 5, 6, 7, 8, 9, 10, 11, 12, 14, 15, 16, 17, 18, 19, 20, 21, 22, 23, 24, 25, 26, 27, 28, 29, 30, 31, 32, 33, 34, 35, 36, 37, 38, 39] (fun m D' j H' R' => ∃ (h : Nat) (A' : Option Addr) (c' : Nat) (ds : List Nat), h + m = 2 ∧ D' = ds.map mk ∧ j 7 = .int .i64 (h : Int) ∧ j 2 = .slice A' (lH xs h).1.length c' ∧ j 3 = .int .i64 ((lH xs h).2 : Int) ∧ H' = ds.map mkO ++ H ∧ Sl (.slice A' (lH xs h).1.length c') (lH xs h).1 ∈ R' ∧ ∀ p ∈ R, p ∈ R') 2
    eS ⟨0, none, 0, [], rfl, rfl, rfl, rfl, rfl, rfl, aX, fun p hp => List.mem_cons_of_mem _ hp⟩ ?_
  rintro m D' j H' R' ⟨hn, A', c', ds, hhm, hD, h7, h2, h3, hH, hm2, hR⟩
  subst hD hH
  refine dD (by simp only [eF, List.foldl_cons, List.foldl_nil, List.set_cons_succ, List.set_cons_zero, h7, h2, h3]; rfl) ?_
  have hm3 : Sl (.slice A xs.length c) xs ∈ R' := hR _ hm
  repeat' (first | (refine dK rfl ?_; refine aT fA ?_; refine recsOf_k _ _ (fun b1 b2 => ?_) rfl; refine aB ?_) | (apply aF) | (apply aA) | (apply aV) | (apply bP) | (apply bF) | (apply cG) | (apply aK; exact rfl) | (apply aJ; exact rfl) | (apply aH) | (apply aD) | (apply aW) | (apply aS) | (apply aU; exact rfl; ((refine bQ rfl rfl (fun h => ?_) (fun h => ?_))) <;> (refine aB ?_)) | (refine aE rfl rfl ?_; ((first | refine aG ?_ | refine aY ?_)); refine aB ?_) | (refine bJ rfl rfl ?_; ((refine bL cW (fun b => ?_))); refine aB ?_))
  · revert b
    intro b5
    refine mN 124 4 ?_
    refine wG (lb := [.pointer (some ⟨b1, 0, none⟩), .pointer (some ⟨b2, 0, none⟩)]) rfl (fun l d fn => ?_)
    generalize hrec : ({ state := .ready, pending := none, fn := fn, tmps := _, params := _, assign := _, body := _, defers := d } : Loop) = rec
    refine iS (Cx [] ([] : List Rc)) (fun s _ => gN s) ?_
    refine recs1_k l 3 4 b1 b2 A c xs hn aO hb (fun pre H2 R2 => ∃ v cs, H2 = .obj l (.loop rec) :: .obj d (.deferred (some [])) :: .row v 124 4 pre.length cs :: .blk b1 [.int .i64 (hn : Int)] 3 :: .blk b2 [.slice A xs.length c] 33 :: .blk b5 [v] 120 :: (ds.map mkO ++ H) ∧ Cx cs pre ∈ R2 ∧ ∀ p ∈ R', p ∈ R2) ?_ ?_ ?_ ⟨_, [], rfl, aX, fun p hp => List.mem_cons_of_mem _ hp⟩ ?_
    · rintro pre H2 R2 ⟨v, cs, rfl, hcx, hR2⟩
      exact ⟨rfl, rfl, hR2 _ hm3⟩
    · rintro pre H2 R2 R3 ⟨v, cs, rfl, hcx, hR2⟩ hsub
      exact ⟨v, cs, rfl, hsub _ hcx, fun p hp => hsub _ (hR2 p hp)⟩
    · rintro pre x A1 c1 H2 R2 ⟨v, cs, rfl, hcx, hR2⟩ hpl hxok hsl
      refine yk_round (i := 0) rfl (by rw [← hrec]) (by rw [← hrec]) ?_
      rw [show rec.assign = _ from (by rw [← hrec]), show rec.body = _ from (by rw [← hrec])]
      repeat' (first | (apply aA) | (apply aH) | (apply bE; exact rfl; ((refine aN (i := 0) rfl cW rfl dT dB eK ?_)); refine aB ?_; refine cE ?_) | (refine bJ rfl rfl ?_; ((refine bL cW (fun b => ?_))); refine aB ?_))
      refine En_begin (i := 1) rfl (by rw [← hrec]) ?_
      refine jB tH ?_
      repeat' (first | (refine aE rfl rfl ?_; refine aL (i := 6) rfl rfl rfl ?_; refine aB ?_) | (apply aA) | (apply aV) | (apply aP; exact rfl; ((refine aL (i := 0) rfl rfl rfl ?_)); refine aB ?_) | (refine bJ rfl rfl ?_; ((refine bK cQ fP rfl (fun b => ?_))); refine aB ?_))
      refine bJ rfl rfl ?_
      refine dF 4 0 rfl rfl rfl rfl cQ rfl eK aO aO (fun v' => ?_)
      refine aB ?_; refine cE ?_
      refine gY 4 rfl (fun A6 c6 hv => ?_); subst hv
      refine iY (Cx (cs ++ [.int .i64 (x.at_ : Int), .int .i64 (x.epoch : Int), .int .i64 (x.seq : Int), .slice A1 x.data.length c1]) (pre ++ [x])) (fun s hs => eZ (hs (Cx cs pre) aX) ⟨A1, c1, rfl, hxok, hs (Sl (.slice A1 x.data.length c1) x.data) aX⟩) ?_
      repeat' (first | (refine bJ rfl rfl ?_; refine aN (i := 7) rfl cW rfl dT dB eK ?_; refine aB ?_; refine cE ?_) | (apply aH) | (apply bU))
      refine xS (i := 2) rfl (show _ = rec by rw [← hrec]) (.obj l (.loop rec) :: .obj d (.deferred (some [])) :: .row (.slice A6 (pre.length + 1) c6) 124 4 (pre.length + 1) (cs ++ [.int .i64 (x.at_ : Int), .int .i64 (x.epoch : Int), .int .i64 (x.seq : Int), .slice A1 x.data.length c1]) :: .blk b1 [.int .i64 (hn : Int)] 3 :: .blk b2 [.slice A xs.length c] 33 :: .blk b5 [.slice A6 (pre.length + 1) c6] 120 :: (ds.map mkO ++ H)) _ r4 ⟨rfl, ⟨_, _, by rw [List.length_append, List.length_singleton], aX, fun p hp => List.mem_cons_of_mem _ (hR2 p hp)⟩, fun p hp => List.mem_cons_of_mem _ hp⟩
    · rintro H2 R2 ⟨v, cs, rfl, hcx, hR2⟩
      refine ⟨0, rec, rfl, by rw [← hrec], by rw [← hrec], ?_⟩
      clear hrec
      refine mM (.row v 124 4 (eP xs hn).length cs :: .blk b5 [v] 120 :: ((d :: ds).map mkO ++ H)) R2 (fun w hs => (hs.weaken (H' := .obj d (.deferred (some [])) :: .row v 124 4 (eP xs hn).length cs :: .blk b5 [v] 120 :: (ds.map mkO ++ H)) eB (fun _ h => h)).rot3) ?_
      apply bU
      apply aD
      refine rE 0 rfl (fun A2 c2 hv => ?_); subst hv
      refine r8 0 rfl rfl cQ hcx (fun A3 c3 hv => ?_); cases hv
      refine jB tH ?_
      obtain ⟨out, half, hcu⟩ : ∃ out half, lH xs hn = (out, half) := ⟨_, _, rfl⟩
      obtain ⟨l0, hl0⟩ : ∃ l0, eP xs hn = l0 := ⟨_, rfl⟩
      rw [hcu] at hm2 h2 h3 ⊢
      rw [hl0] at hcx ⊢
      simp only at hm2 h2 h3 ⊢
      have hcu1 := Go.Lib.hid hcu
      have hl1 := Go.Lib.hid hl0
      have hm4 : Sl (.slice A' out.length c') out ∈ R2 := hR2 _ hm2
      clear hcu hl0 hcx hm2
      apply aF
      refine eC fK jN (hQ_marks (p := fun e => oK _ e = true) (d :: ds)) (List.Sublist.refl _) ?_
      all_goals ((refine bG 0 ?_; ((refine aL (i := 0) rfl rfl rfl ?_)); refine aI ?_))
      all_goals ((refine bG 1 ?_; ((refine bS rfl ?_)); refine aI ?_))
      all_goals ((refine bG 2 ?_; ((refine fD rfl rfl (fun h => ?_) (fun h => ?_))) <;> (refine aI ?_)))
      all_goals ((refine bG 3 ?_; ((refine aG ?_)); refine aI ?_))
      all_goals (first | (refine bG 4 ?_; ((refine aG ?_)); refine aI ?_) | (refine dS 4 (List.Sublist.refl _) ?_))
      all_goals (first | (refine bG 5 ?_; ((refine bS rfl ?_)); refine aI ?_) | (refine dS 5 (List.Sublist.refl _) ?_))
      all_goals (first | (refine bG 6 ?_; ((refine fZ rfl rfl (fun h => ?_) (fun h => ?_))) <;> (refine aI ?_)) | (refine dS 6 (List.Sublist.refl _) ?_))
      all_goals (first | (refine bG 7 ?_; ((refine aG ?_)); refine aI ?_) | (refine dS 7 (List.Sublist.refl _) ?_))
      all_goals (first | (refine bG 8 ?_; ((refine aL (i := 0) rfl rfl rfl ?_)); refine aI ?_) | (refine dS 8 (List.Sublist.refl _) ?_))
      all_goals (first | (refine bG 9 ?_; ((refine rF rfl rfl aX (List.getElem?_eq_getElem aO) (fun b o A c hok => ?_))); refine aI ?_) | (refine dS 9 (List.Sublist.refl _) ?_))
      all_goals (first | (refine bG 10 ?_; ((refine aC rfl ?_)); refine aI ?_) | (refine dS 10 (List.Sublist.refl _) ?_))
      all_goals (first | (refine bG 11 ?_; ((refine aQ rfl cL rfl ?_)); refine aI ?_) | (refine dS 11 (List.Sublist.refl _) ?_))
      all_goals (first | (refine bG 12 ?_; ((refine aG ?_)); refine aI ?_) | (refine dS 12 (List.Sublist.refl _) ?_))
      all_goals (first | (refine bG 13 ?_; ((refine rF rfl rfl aX (List.getElem?_eq_getElem aO) (fun b o A c hok => ?_))); refine aI ?_) | (refine dS 13 (List.Sublist.refl _) ?_))
      all_goals (first | (refine bG 14 ?_; ((refine aC rfl ?_)); refine aI ?_) | (refine dS 14 (List.Sublist.refl _) ?_))
      all_goals (first | (refine bG 15 ?_; ((refine aQ rfl cL rfl ?_)); refine aI ?_) | (refine dS 15 (List.Sublist.refl _) ?_))
      all_goals (first | (refine bG 16 ?_; ((refine fD rfl rfl (fun h => ?_) (fun h => ?_))) <;> (refine aI ?_)) | (refine dS 16 (List.Sublist.refl _) ?_))
      all_goals (first | (refine bG 17 ?_; ((first | refine bX rfl eR ?_ | refine cH rfl eR ?_)); refine aI ?_) | (refine dS 17 (List.Sublist.refl _) ?_))
      all_goals ((refine bG 18 ?_; ((first | refine bX rfl eR ?_ | refine cH rfl eR ?_)); refine aI ?_))
      all_goals refine iC ?_
      repeat' (first | (apply aA) | (apply bF) | (apply aK; exact rfl) | (apply aJ; exact rfl) | (apply aH) | (apply aD) | (apply bU) | (apply aP; exact rfl; ((refine aL (i := 0) rfl rfl rfl ?_)); refine aB ?_) | (apply aU; exact rfl; ((refine bM rfl rfl aO aO ?_)); refine aB ?_) | (refine aE rfl rfl ?_; ((first | refine aG ?_ | refine aY ?_)); refine aB ?_))
      · have hnext : lH xs (hn + 1) = (l0, hn) := by
          show (if _ then _ else _) = _
          rw [hl1.out, hcu1.out, if_pos ⟨by omega, .inl (by simp only; omega)⟩]
        refine oN (m - 1) ((d :: ds).map mkO ++ H) (Sl (.slice A2 l0.length c2) l0 :: R2) aO eS ⟨hn + 1, A2, c2, d :: ds, by omega, rfl, rfl, by rw [hnext]; rfl, by rw [hnext]; rfl, rfl, by rw [hnext]; exact List.mem_cons_self, fun p hp => List.mem_cons_of_mem _ (hR2 _ (hR _ hp))⟩ dV
      · have hnext : lH xs (hn + 1) = (l0, hn) := by
          show (if _ then _ else _) = _
          rw [hl1.out, hcu1.out, if_pos ⟨by omega, .inr (by show (out.getD 0 Rc.zero).epoch < (l0.getD 0 Rc.zero).epoch; rw [oX out aO, oX l0 aO]; omega)⟩]
        refine oN (m - 1) ((d :: ds).map mkO ++ H) (Sl (.slice A2 l0.length c2) l0 :: R2) aO eS ⟨hn + 1, A2, c2, d :: ds, by omega, rfl, rfl, by rw [hnext]; rfl, by rw [hnext]; rfl, rfl, by rw [hnext]; exact List.mem_cons_self, fun p hp => List.mem_cons_of_mem _ (hR2 _ (hR _ hp))⟩ dV
      · have hnext : lH xs (hn + 1) = (out, half) := by
          show (if _ then _ else _) = _
          rw [hl1.out, hcu1.out, if_neg (fun hc => by
            rcases hc.2 with e | e
            · simp only at e; omega
            · simp only at e; rw [oX out aO, oX l0 aO] at e; omega)]
        refine oN (m - 1) ((d :: ds).map mkO ++ H) R2 aO eS ⟨hn + 1, A', c', d :: ds, by omega, rfl, rfl, by rw [hnext]; rfl, by rw [hnext]; rfl, rfl, by rw [hnext]; exact hm4, fun p hp => hR2 _ (hR _ hp)⟩ dV
      · have hnext : lH xs (hn + 1) = (out, half) := by
          show (if _ then _ else _) = _
          rw [hl1.out, hcu1.out, if_neg (fun hc => by have := hc.1; omega)]
        refine oN (m - 1) ((d :: ds).map mkO ++ H) R2 aO eS ⟨hn + 1, A', c', d :: ds, by omega, rfl, rfl, by rw [hnext]; rfl, by rw [hnext]; rfl, rfl, by rw [hnext]; exact hm4, fun p hp => hR2 _ (hR _ hp)⟩ dV
  · have hh2 : hn = 2 := by omega
    subst hh2
    refine En_leave (.inl rfl) (xK (iN rfl (bR rfl) (bR rfl)) H (Sl (.slice A' (jA xs).1.length c') (jA xs).1 :: R) (fun w hs => hs.weaken eB (bT hm2 hR)) (k A' c') ds)
end Go.Proofs.YtggdljhmbckpmaaGreat
namespace Go.Proofs.YtggdljhmbckpmaaGreat
open Go Go.RowKit
set_option maxRecDepth 100000
set_option maxHeartbeats 800000

theorem pW {w0 : World} {H : List Hp} {R : List MP} {K : Value → List Hp → List MP → Prop} (A : Option Addr) (m c : Nat) (xs : List UInt8) (hml : m = xs.length) (hb : xs.length ≤ 600000) (hm : Sl (.slice A m c) xs ∈ R)
    (k : ∀ A' c', K (.tuple #[.slice A' (jA xs).1.length c', .int .i64 ((jA xs).2 : Int)]) H (Sl (.slice A' (jA xs).1.length c') (jA xs).1 :: R)) : CallsK Tryz.prog w0 55 #[.slice A m c] H R K := by
  subst hml; exact q9 A c xs hb hm k

def Rc.toR (r : Rc) : RecD := ⟨r.at_, r.epoch, r.seq, r.data.length⟩
def qX (d : Drive) : List RecD × Int := if eW d then ((jA (gW d)).1.map Rc.toR, 0) else ([], 301)
/-- Records and an errno are returned, the records for good. -/
def KR (K : Value → List Hp → List MP → Prop) (r : List RecD × Int) (H : List Hp) (R : List MP) : Prop := ∀ A c, K (.tuple #[.slice A r.1.length c, .int .i64 r.2]) H (Sl (.slice A r.1.length c) r.1 :: R)
theorem KR_eq {K : Value → List Hp → List MP → Prop} {r r' : List RecD × Int} {H : List Hp} {R : List MP} (e : r = r') (h : KR K r H R) : KR K r' H R := e ▸ h
theorem xA (b : List UInt8) (limit : Nat) (hl : limit ≤ 600000) : ∀ m at_ seq ep, at_ ≤ limit → at_ + (iF b limit m at_ seq ep).length ≤ limit
  | 0, at_, seq, ep, h => by simp [iF]; omega
  | m + 1, at_, seq, ep, h => by
    unfold iF
    split
    · rename_i hc
      obtain ⟨h1, h2, h3, h4⟩ := oP hl hc.1
      have := xA b limit hl m (fU b at_ limit).1.stop (seq + 1) (some (fU b at_ limit).1.epoch) h3
      simp only [List.length_cons]; omega
    · simp; omega
theorem vF {b : List UInt8} {h : Nat} (hb : b.length ≤ 600000) (hh : h < 2) : (eP b h).length ≤ 600000 := by
  have := xA b ((h + 1) * b.length / 2) (by rcases (show h = 0 ∨ h = 1 by omega) with rfl | rfl <;> simp <;> omega) (b.length + 1) (h * b.length / 2) 0 none (by rcases (show h = 0 ∨ h = 1 by omega) with rfl | rfl <;> simp <;> omega)
  have h2 : (h + 1) * b.length / 2 ≤ 600000 := by rcases (show h = 0 ∨ h = 1 by omega) with rfl | rfl <;> simp <;> omega
  unfold eP
  omega
theorem mP {b : List UInt8} (hb : b.length ≤ 600000) : (jA b).1.length ≤ 600000 := by
  have h0 := vF (h := 0) hb aO
  have h1 := vF (h := 1) hb aO
  have key : ∀ h, h ≤ 2 → (lH b h).1.length ≤ 600000 := by
    intro h hh
    induction h with
    | zero => simp [lH]
    | succ h ih =>
      unfold lH
      split
      · rcases (show h = 0 ∨ h = 1 by omega) with rfl | rfl
        · exact h0
        · exact h1
      · exact ih aO
  exact key 2 aO

theorem t6 {w0 : World} {H : List Hp} {R : List MP} {K : Value → List Hp → List MP → Prop} (A0 : Option Addr) (c0 : Nat) (A2 : Option Addr) (c2 : Nat) (d : Drive) (hb : d.bytes.length ≤ 9223372036854775807) (hp : d.pending.length ≤ 9223372036854775807)
    (hm : Sl (.slice A0 d.bytes.length c0) d.bytes ∈ R) (hm2 : Sl (.slice A2 d.pending.length c2) d.pending ∈ R)
    (k : KR K (qX d) H R) : CallsK Tryz.prog w0 15 #[dv A0 c0 A2 c2 d] H R K := by
  refine bV Tryz.func15 rfl Tryz.ntmps15 fI ?_
  repeat' (first | (refine dK rfl ?_; refine aT fA ?_; refine mA _ _ _ _ d hb hp hm hm2 ?_; refine aB ?_) | (apply aF) | (apply aA) | (apply bP) | (apply bF) | (apply aK; exact rfl) | (apply aJ; exact rfl) | (apply aH) | (apply aD) | (apply bN) | (apply aP; exact rfl; ((refine aL (i := 0) rfl rfl rfl ?_)); refine aB ?_) | (apply aU; exact rfl; ((refine eD rfl rfl (fun h => ?_) (fun h => ?_))) <;> (refine aB ?_)) | (refine aE rfl rfl ?_; ((first | refine aG ?_ | refine aY ?_)); refine aB ?_) | (refine bJ rfl rfl ?_; ((refine dX cW (fun b => ?_))); refine aB ?_))
  · have hc : eW d = false := by unfold iX at h; cases hc : eW d <;> simp_all
    have e : iX d = 301 := by unfold iX; rw [hc]; rfl
    rw [e]
    refine aZ (.inl rfl) (iN rfl (bR rfl) (bR rfl)) (cA H (Sl (.slice none 0 0) ([] : List RecD) :: R) (fun w hs => (hs.weaken eB (fun _ h => h)).sl_nil RecD) ?_)
    exact KR_eq (r' := ([], 301)) (by unfold qX; rw [hc]; rfl) k none 0
  have hc : eW d = true := by unfold iX at h; cases hc : eW d <;> simp_all
  have hlen := fM hc
  have h6 := (fX hc).2.1
  have hcl := mP (b := gW d) aO
  obtain ⟨rs, hrs⟩ : ∃ rs, (jA (gW d)).1 = rs := ⟨_, rfl⟩
  rw [hrs] at hcl
  have k' := KR_eq (r' := (rs.map Rc.toR, 0)) (by unfold qX; rw [if_pos hc, hrs]) k
  repeat' (first | (refine dK rfl ?_; refine aT fA ?_; refine j5 _ _ _ _ d hc hm hm2 (fun v => ?_); refine aB ?_; refine hZ 0 rfl (fun A' c' hv => ?_); subst hv; refine cE ?_) | (refine dK rfl ?_; refine aT fA ?_; refine pW _ _ _ (gW d) rfl aO aX (fun A3 c3 => ?_); rw [hrs]; refine aB ?_) | (apply aF) | (apply aA) | (apply aV) | (apply aH) | (apply aD) | (refine aE rfl rfl ?_; ((first | refine aG ?_ | refine aY ?_ | refine bS rfl ?_ | refine cD rfl rfl ?_)); refine aB ?_))
  refine mN 135 4 ?_
  refine qL (Cx [] ([] : List RecD)) (fun s _ => gN s) ?_
  refine eJ _ (Cx [] ([] : List RecD) :: Sl (.slice A3 rs.length c3) rs :: R) (fun w hs => hs.weaken (List.Sublist.refl _) hP) ?_
  refine cM [2, 8, 22, 23, 24, 25, 26, 27, 28, 29, 30, 31, 32, 33, 34, 35, 36, 37, 38, 39] (fun m j H' R' => ∃ i v cs, i + m = rs.length ∧ j 22 = .int .i64 ((i : Nat) : Int) ∧ j 2 = v ∧ H' = .row v 135 4 i cs :: .blk b [.slice A0 d.bytes.length c0, .slice A2 d.pending.length c2] 51 :: H ∧ R' = Cx cs ((rs.take i).map Rc.toR) :: Sl (.slice A3 rs.length c3) rs :: R) rs.length eS ⟨0, _, [], by omega, rfl, rfl, rfl, rfl⟩ ?_
  rintro m j H' R' ⟨i, v, cs, hi, h22, h2, hH, hR⟩
  subst hH hR
  refine dD (by simp only [eF, List.foldl_cons, List.foldl_nil, List.set_cons_succ, List.set_cons_zero, h22, h2]; rfl) ?_
  repeat' (first | (refine aE rfl rfl ?_; refine nD rfl rfl aX (List.getElem?_eq_getElem aO) (fun b' o A4 c4 hok => ?_); refine aB ?_) | (apply aF) | (apply aA) | (apply aV) | (apply bP) | (apply bF) | (apply cG) | (apply aK; exact rfl) | (apply aJ; exact rfl) | (apply aH) | (apply aD) | (apply aW) | (apply aS) | (apply aP; exact rfl; ((first | refine aL (i := 0) rfl rfl rfl ?_ | refine bD rfl cL rfl ?_)); refine aB ?_) | (apply aU; exact rfl; ((refine bQ rfl rfl (fun h => ?_) (fun h => ?_))) <;> (refine aB ?_)) | (apply bE; exact rfl; ((refine aN (i := 0) rfl cW rfl dT dB eK ?_)); refine aB ?_; refine cE ?_) | (refine aE rfl rfl ?_; ((first | refine aG ?_ | refine aY ?_ | refine aC rfl ?_ | refine bS rfl ?_ | refine dI gG ?_)); refine aB ?_) | (refine bJ rfl rfl ?_; ((first | refine bL cW (fun b => ?_) | refine bK cQ fP rfl (fun b => ?_))); refine aB ?_))
  · refine bJ rfl rfl ?_
    refine dF 2 0 rfl rfl rfl rfl cQ rfl eK aO aO (fun v' => ?_)
    refine aB ?_; refine cE ?_
    have hI : dO ((rs[i]).at_ : Int) ∧ dO ((rs[i]).epoch : Int) ∧ dO ((rs[i]).seq : Int) ∧ dO ((rs[i]).data.length : Int) := by
      have h1 := hok.1
      have h2 := hok.2.1
      have h3 := hok.2.2
      simp only [Rc.stop] at h1
      simp only [dO]
      omega
    refine iY (Cx (cs ++ [.int .i64 (rs[i].at_ : Int), .int .i64 (rs[i].epoch : Int), .int .i64 (rs[i].seq : Int), .int .i64 (rs[i].data.length : Int)]) ((rs.take i).map Rc.toR ++ [rs[i].toR])) (fun s hs => eZ (hs (Cx cs ((rs.take i).map Rc.toR)) aX) ⟨rfl, hI⟩) ?_
    repeat' (first | (apply aA) | (apply aH) | (apply aD) | (apply bU) | (apply aU; exact rfl; ((refine bM rfl rfl aO aO ?_)); refine aB ?_) | (refine aE rfl rfl ?_; ((first | refine aG ?_ | refine aY ?_)); refine aB ?_))
    refine cJ (m - 1) _ (Cx (cs ++ [.int .i64 (rs[i].at_ : Int), .int .i64 (rs[i].epoch : Int), .int .i64 (rs[i].seq : Int), .int .i64 (rs[i].data.length : Int)]) ((rs.take (i + 1)).map Rc.toR) :: Sl (.slice A3 rs.length c3) rs :: R) aO eS ⟨i + 1, _, _, by omega, rfl, rfl, rfl, rfl⟩ (fun w hs => hs.weaken eB ?_)
    rw [List.take_succ_eq_append_getElem (show i < rs.length by omega), List.map_append, List.map_cons, List.map_nil]
    exact hP
  · have hie : i = rs.length := by omega
    subst hie
    refine eH 0 rfl rfl cQ (show Cx cs (rs.map Rc.toR) ∈ _ by rw [List.take_length]; exact List.mem_cons_self) (fun A5 c5 hv => ?_)
    subst hv
    refine aZ (.inl rfl) (iN rfl (bR rfl) (bR rfl)) (cA H _ dV (k' A5 c5))

def kX (d : Drive) : List UInt8 × Int := if eW d then (if (jA (gW d)).1.length = 0 then ([], 302) else (((jA (gW d)).1.getD ((jA (gW d)).1.length - 1) Rc.zero).data, 0)) else ([], 301)
theorem clone_k' {w0 : World} {H : List Hp} {R : List MP} {K : Value → List Hp → List MP → Prop} (A : Option Addr) (m c : Nat) (xs : List UInt8) (hml : m = xs.length) (hb : xs.length ≤ 140737488355328) (hm : Sl (.slice A m c) xs ∈ R)
    (k : ∀ v', K v' (.row v' 5 1 xs.length (bC xs) :: H) R) : CallsK Tryz.prog w0 64 #[.slice A m c] H R K := by
  subst hml; exact oQ A c xs hb hm k
theorem vT {w0 : World} {H : List Hp} {R : List MP} {K : Value → List Hp → List MP → Prop} (A0 : Option Addr) (c0 : Nat) (A2 : Option Addr) (c2 : Nat) (d : Drive) (hb : d.bytes.length ≤ 9223372036854775807) (hp : d.pending.length ≤ 9223372036854775807)
    (hm : Sl (.slice A0 d.bytes.length c0) d.bytes ∈ R) (hm2 : Sl (.slice A2 d.pending.length c2) d.pending ∈ R)
    (k : KB K (kX d) H R) : CallsK Tryz.prog w0 17 #[dv A0 c0 A2 c2 d] H R K := by
  refine bV Tryz.func17 rfl Tryz.ntmps17 fI ?_
  repeat' (first | (refine dK rfl ?_; refine aT fA ?_; refine mA _ _ _ _ d hb hp hm hm2 ?_; refine aB ?_) | (apply aF) | (apply aA) | (apply bP) | (apply bF) | (apply aK; exact rfl) | (apply aJ; exact rfl) | (apply aH) | (apply aD) | (apply bN) | (apply aP; exact rfl; ((refine aL (i := 0) rfl rfl rfl ?_)); refine aB ?_) | (apply aU; exact rfl; ((refine eD rfl rfl (fun h => ?_) (fun h => ?_))) <;> (refine aB ?_)) | (refine aE rfl rfl ?_; ((first | refine aG ?_ | refine aY ?_)); refine aB ?_) | (refine bJ rfl rfl ?_; ((refine dX cW (fun b => ?_))); refine aB ?_))
  · have hc : eW d = false := by unfold iX at h; cases hc : eW d <;> simp_all
    have e : iX d = 301 := by unfold iX; rw [hc]; rfl
    rw [e]
    refine aZ (.inl rfl) (iN rfl (bR rfl) (bR rfl)) (cA H (Sl (.slice none 0 0) ([] : List UInt8) :: R) (fun w hs => (hs.weaken eB (fun _ h => h)).sl_nil UInt8) ?_)
    exact uQ (r' := ([], 301)) (by unfold kX; rw [hc]; rfl) k none 0
  have hc : eW d = true := by unfold iX at h; cases hc : eW d <;> simp_all
  have hlen := fM hc
  have h6 := (fX hc).2.1
  have hcl := mP (b := gW d) aO
  obtain ⟨rs, hrs⟩ : ∃ rs, (jA (gW d)).1 = rs := ⟨_, rfl⟩
  rw [hrs] at hcl
  have k' := uQ (r' := if rs.length = 0 then ([], 302) else ((rs.getD (rs.length - 1) Rc.zero).data, 0)) (by unfold kX; rw [if_pos hc, hrs]) k
  repeat' (first | (refine dK rfl ?_; refine aT fA ?_; refine j5 _ _ _ _ d hc hm hm2 (fun v => ?_); refine aB ?_; refine hZ 0 rfl (fun A' c' hv => ?_); subst hv; refine cE ?_) | (refine dK rfl ?_; refine aT fA ?_; refine pW _ _ _ (gW d) rfl aO aX (fun A3 c3 => ?_); rw [hrs]; refine aB ?_) | (apply aF) | (apply aA) | (apply bP) | (apply bF) | (apply aK; exact rfl) | (apply aJ; exact rfl) | (apply aH) | (apply aD) | (apply bN) | (apply aU; exact rfl; ((refine eY rfl rfl aO aO ?_)); refine aB ?_) | (apply aU; exact rfl; ((refine fZ rfl rfl (fun h => ?_) (fun h => ?_))) <;> (refine aB ?_)) | (refine aE rfl rfl ?_; ((first | refine aG ?_ | refine aY ?_ | refine bS rfl ?_ | refine cD rfl rfl ?_)); refine aB ?_))
  · rw [if_pos aO] at k'
    refine aZ (.inl rfl) (iN rfl (bR rfl) (bR rfl)) (cA H (Sl (.slice none 0 0) ([] : List UInt8) :: R) (fun w hs => (hs.weaken eB hP).sl_nil UInt8) (k' none 0))
  · rw [if_neg aO] at k'
    have e : rs.getD (rs.length - 1) Rc.zero = rs[rs.length - 1]'aO := by simp [List.getD, show rs.length - 1 < rs.length by omega]
    rw [e] at k'
    have hi : ((rs.length : Int) - 1) = ((rs.length - 1 : Nat) : Int) := by omega
    repeat' (first | (rw [hi]; refine aE rfl rfl ?_; refine nD rfl rfl aX (List.getElem?_eq_getElem aO) (fun b' o A4 c4 hok => ?_); refine aB ?_) | (refine dK rfl ?_; refine aT fA ?_; refine clone_k' _ _ _ (rs[rs.length - 1]'aO).data rfl (by have h1 := hok.1; simp only [Rc.stop] at h1; omega) aX (fun v => ?_); refine aB ?_; refine hZ 0 rfl (fun A' c' hv => ?_); subst hv; refine cE ?_) | (apply bP) | (apply aH) | (apply aD) | (apply aP; exact rfl; ((refine aQ rfl cL rfl ?_)); refine aB ?_) | (refine aE rfl rfl ?_; ((first | refine aY ?_ | refine aC rfl ?_)); refine aB ?_))
    refine aZ (.inl rfl) (iN rfl (bR rfl) (bR rfl)) (cA H _ dV (k' _ _))
end Go.Proofs.YtggdljhmbckpmaaGreat
