/- Frames, brackets, scopes compared: walks. Choices, heads compared: walks. What is owned is made to stay, where the order is drawn. -/
import Derived.Test.YtggdljhmbckpmaaGreatW2
import Derived.Test.YtggdljhmbckpmaaGreatA18J
import Derived.Test.YtggdljhmbckpmaaGreatF2J
set_option linter.unusedVariables false
set_option linter.unusedSimpArgs false
namespace Go.Proofs.YtggdljhmbckpmaaGreat
open Go Go.RowKit
set_option maxRecDepth 100000
set_option maxHeartbeats 3200000

theorem vM {w0 : World} {H : List Hp} {R : List MP} {K : Value → List Hp → List MP → Prop} (A1 : Option Addr) (c1 : Nat) (A2 : Option Addr) (c2 : Nat) (l1 l2 : List pU) (hml1 : Sl (.slice A1 l1.length c1) l1 ∈ R) (hml2 : Sl (.slice A2 l2.length c2) l2 ∈ R)
    (k : ∀ r : Bool, (l1 = l2 → r = true) → K (.bool r) H R) : CallsK Tryz.prog w0 47 #[.slice A1 l1.length c1, .slice A2 l2.length c2] H R K := by
  refine eQ (p := l1.length ≤ 9223372036854775807) (fun w hs => by have := dN hs hml1; simp only [eO] at this; omega) (fun hbl1 => ?_)
  refine eQ (p := l2.length ≤ 9223372036854775807) (fun w hs => by have := dN hs hml2; simp only [eO] at this; omega) (fun hbl2 => ?_)
  refine bV Tryz.func47 rfl Tryz.ntmps47 fI ?_
  repeat' (first | (apply aF) | (apply aA) | (apply aV) | (apply bP) | (apply bF) | (apply aK; exact rfl) | (apply aJ; exact rfl) | (apply aH) | (apply aD) | (apply bN) | (apply aU; exact rfl; ((refine eD rfl rfl (fun h => ?_) (fun h => ?_))) <;> (refine aB ?_)) | (refine aE rfl rfl ?_; ((first | refine aG ?_ | refine aY ?_ | refine bS rfl ?_)); refine aB ?_))
  · exact aZ (.inl rfl) (dP rfl (bR rfl)) (cA H R dV (k false (fun e => by subst e; exact absurd rfl (by assumption))))
  have hll : l1.length = l2.length := by omega
  refine cM [4, 5, 6, 7, 13, 14, 15, 16, 17, 18, 19, 20, 21, 22, 23, 24, 25, 26, 27, 28, 29, 30, 31, 32, 33, 34, 35, 36, 37, 38, 39, 40, 41, 42, 43, 44, 45, 46, 47, 48, 49, 50, 51, 52, 53, 54, 55, 56, 57, 58, 59, 60, 61] (fun m j H' R' => H' = H ∧ (∀ p ∈ R, p ∈ R') ∧ ∃ i : Nat, i + m = l1.length ∧ j 5 = .int .i64 (i : Int)) l1.length eS ⟨rfl, fun _ h => h, 0, by omega, rfl⟩ ?_
  rintro m j H' R' ⟨hH, hR, i, hi, h5⟩
  subst hH
  have hn1 := hR _ hml1
  have hn2 := hR _ hml2
  refine dD (by simp only [eF, List.foldl_cons, List.foldl_nil, List.set_cons_succ, List.set_cons_zero, h5]; rfl) ?_
  rcases Nat.lt_or_ge i l1.length with hlt | hge
  · obtain ⟨x, hx⟩ : ∃ x, l1[i]? = some x := ⟨_, List.getElem?_eq_getElem hlt⟩
    obtain ⟨y, hy⟩ : ∃ y, l2[i]? = some y := ⟨_, List.getElem?_eq_getElem aO⟩
    have hE : l1 = l2 → x = y := fun e => by
      subst e
      rw [hx] at hy
      injection hy
    obtain ⟨x0, x1, x2, x3, x4⟩ := x
    obtain ⟨y0, y1, y2, y3, y4⟩ := y
    repeat' (first | (apply gZ; exact rfl; ((first | refine sB (v := .slice A1 l1.length c1) (xs := l1) rfl rfl aX hx rfl (fun b o A0_ c0_ A1_ c1_ => ?_) | refine sB (v := .slice A2 l2.length c2) (xs := l2) rfl rfl aX hy rfl (fun b o A0_ c0_ A1_ c1_ => ?_))); refine aB ?_) | (refine dK rfl ?_; refine aT rfl ?_; refine pS _ _ _ _ _ _ aX aX (fun r hr => ?_); cases r <;> refine aB ?_) | (apply aF) | (apply aA) | (apply aV) | (apply bP) | (apply bF) | (apply aK; exact rfl) | (apply aJ; exact rfl) | (apply aH) | (apply aD) | (apply bN) | (apply bU) | (apply dQ) | (apply aP; exact rfl; ((first | refine aL (i := 0) rfl rfl rfl ?_ | refine aL (i := 1) rfl rfl rfl ?_ | refine bD rfl cL rfl ?_)); refine aB ?_) | (apply aU; exact rfl; ((refine bM rfl rfl aO aO ?_)); refine aB ?_) | (apply aU; exact rfl; ((first | refine bQ rfl rfl (fun h => ?_) (fun h => ?_) | refine eD rfl rfl (fun h => ?_) (fun h => ?_))) <;> (first | (exfalso; omega) | refine aB ?_)) | (apply bE; exact rfl; ((refine aN (i := 0) rfl cW rfl dT dB eK ?_)); refine aB ?_; refine cE ?_) | (refine aE rfl rfl ?_; ((first | refine aG ?_ | refine aY ?_ | refine bX rfl eR ?_ | refine cH rfl eR ?_ | refine aC rfl ?_ | refine bS rfl ?_ | refine dJ rfl ?_)); refine aB ?_) | (refine cX rfl ?_; refine aB ?_) | (refine bJ rfl rfl ?_; ((refine bL cW (fun b => ?_))); refine aB ?_))
    all_goals (first | exact cJ (m - 1) _ R aO eS ⟨rfl, fun _ h => h, i + 1, by omega, rfl⟩ (fun w hs => hs.weaken eB (fun p hp => by have hp := hR p hp; repeat ((first | with_reducible exact hp | with_reducible apply List.mem_cons_of_mem)))) | exact aZ (.inl rfl) (dP rfl (bR rfl)) (cA H' R (fun w hs => hs.weaken eB (fun p hp => by have hp := hR p hp; repeat ((first | with_reducible exact hp | with_reducible apply List.mem_cons_of_mem)))) (k false (fun e => by have e := hE e; (first | exact absurd (hr (by cases e; rfl)) cQ | (cases e; exact absurd rfl (by assumption)))))))
  · skip
    repeat' (first | (apply aF) | (apply aA) | (apply bP) | (apply cG) | (apply aJ; exact rfl) | (apply aH) | (apply aD) | (apply aW) | (apply aS) | (apply aU; exact rfl; ((refine bQ rfl rfl (fun h => ?_) (fun h => ?_))) <;> (first | (exfalso; omega) | refine aB ?_)) | (refine aE rfl rfl ?_; ((first | refine aG ?_ | refine aY ?_ | refine bS rfl ?_)); refine aB ?_))
    exact aZ (.inl rfl) (dP rfl (bR rfl)) (cA H' R (fun w hs => hs.weaken eB hR) (k true (fun _ => rfl)))
theorem tD {w0 : World} {H : List Hp} {R : List MP} {K : Value → List Hp → List MP → Prop} (A1 : Option Addr) (c1 : Nat) (A2 : Option Addr) (c2 : Nat) (l1 l2 : List pP) (hml1 : Sl (.slice A1 l1.length c1) l1 ∈ R) (hml2 : Sl (.slice A2 l2.length c2) l2 ∈ R)
    (k : ∀ r : Bool, (l1 = l2 → r = true) → K (.bool r) H R) : CallsK Tryz.prog w0 48 #[.slice A1 l1.length c1, .slice A2 l2.length c2] H R K := by
  refine eQ (p := l1.length ≤ 9223372036854775807) (fun w hs => by have := dN hs hml1; simp only [eO] at this; omega) (fun hbl1 => ?_)
  refine eQ (p := l2.length ≤ 9223372036854775807) (fun w hs => by have := dN hs hml2; simp only [eO] at this; omega) (fun hbl2 => ?_)
  refine bV Tryz.func48 rfl Tryz.ntmps48 fI ?_
  repeat' (first | (apply aF) | (apply aA) | (apply aV) | (apply bP) | (apply bF) | (apply aK; exact rfl) | (apply aJ; exact rfl) | (apply aH) | (apply aD) | (apply bN) | (apply aU; exact rfl; ((refine eD rfl rfl (fun h => ?_) (fun h => ?_))) <;> (refine aB ?_)) | (refine aE rfl rfl ?_; ((first | refine aG ?_ | refine aY ?_ | refine bS rfl ?_)); refine aB ?_))
  · exact aZ (.inl rfl) (dP rfl (bR rfl)) (cA H R dV (k false (fun e => by subst e; exact absurd rfl (by assumption))))
  have hll : l1.length = l2.length := by omega
  refine cM [4, 5, 6, 7, 13, 14, 15, 16, 17, 18, 19, 20, 21, 22, 23, 24, 25, 26, 27, 28, 29, 30, 31, 32, 33, 34, 35, 36, 37, 38, 39, 40, 41, 42, 43, 44, 45, 46, 47, 48, 49, 50, 51, 52, 53, 54, 55, 56, 57, 58, 59, 60, 61, 62, 63, 64, 65, 66, 67, 68, 69, 70, 71, 72, 73, 74, 75] (fun m j H' R' => H' = H ∧ (∀ p ∈ R, p ∈ R') ∧ ∃ i : Nat, i + m = l1.length ∧ j 5 = .int .i64 (i : Int)) l1.length eS ⟨rfl, fun _ h => h, 0, by omega, rfl⟩ ?_
  rintro m j H' R' ⟨hH, hR, i, hi, h5⟩
  subst hH
  have hn1 := hR _ hml1
  have hn2 := hR _ hml2
  refine dD (by simp only [eF, List.foldl_cons, List.foldl_nil, List.set_cons_succ, List.set_cons_zero, h5]; rfl) ?_
  rcases Nat.lt_or_ge i l1.length with hlt | hge
  · obtain ⟨x, hx⟩ : ∃ x, l1[i]? = some x := ⟨_, List.getElem?_eq_getElem hlt⟩
    obtain ⟨y, hy⟩ : ∃ y, l2[i]? = some y := ⟨_, List.getElem?_eq_getElem aO⟩
    have hE : l1 = l2 → x = y := fun e => by
      subst e
      rw [hx] at hy
      injection hy
    obtain ⟨x0, x1, x2, x3, x4, x5, x6⟩ := x
    obtain ⟨y0, y1, y2, y3, y4, y5, y6⟩ := y
    repeat' (first | (apply gZ; exact rfl; ((first | refine sL (v := .slice A1 l1.length c1) (xs := l1) rfl rfl aX hx rfl (fun b o A0_ c0_ A1_ c1_ => ?_) | refine sL (v := .slice A2 l2.length c2) (xs := l2) rfl rfl aX hy rfl (fun b o A0_ c0_ A1_ c1_ => ?_))); refine aB ?_) | (apply aU; exact rfl; ((refine vU rfl rfl (fun h => ?_) (fun h => ?_))) <;> refine aB ?_) | (refine dK rfl ?_; refine aT rfl ?_; refine pQ _ _ _ _ _ _ aX aX (fun r hr => ?_); cases r <;> refine aB ?_) | (apply aF) | (apply aA) | (apply aV) | (apply bP) | (apply bF) | (apply aK; exact rfl) | (apply aJ; exact rfl) | (apply aH) | (apply aD) | (apply bN) | (apply bU) | (apply dQ) | (apply aP; exact rfl; ((first | refine aL (i := 0) rfl rfl rfl ?_ | refine aL (i := 1) rfl rfl rfl ?_ | refine bD rfl cL rfl ?_)); refine aB ?_) | (apply aU; exact rfl; ((refine bM rfl rfl aO aO ?_)); refine aB ?_) | (apply aU; exact rfl; ((first | refine bQ rfl rfl (fun h => ?_) (fun h => ?_) | refine eD rfl rfl (fun h => ?_) (fun h => ?_))) <;> (first | (exfalso; omega) | refine aB ?_)) | (apply bE; exact rfl; ((refine aN (i := 0) rfl cW rfl dT dB eK ?_)); refine aB ?_; refine cE ?_) | (refine aE rfl rfl ?_; ((first | refine aG ?_ | refine aY ?_ | refine bX rfl eR ?_ | refine cH rfl eR ?_ | refine aC rfl ?_ | refine bS rfl ?_ | refine dJ rfl ?_)); refine aB ?_) | (refine cX rfl ?_; refine aB ?_) | (refine bJ rfl rfl ?_; ((refine bL cW (fun b => ?_))); refine aB ?_))
    all_goals (first | exact cJ (m - 1) _ R aO eS ⟨rfl, fun _ h => h, i + 1, by omega, rfl⟩ (fun w hs => hs.weaken eB (fun p hp => by have hp := hR p hp; repeat ((first | with_reducible exact hp | with_reducible apply List.mem_cons_of_mem)))) | exact aZ (.inl rfl) (dP rfl (bR rfl)) (cA H' R (fun w hs => hs.weaken eB (fun p hp => by have hp := hR p hp; repeat ((first | with_reducible exact hp | with_reducible apply List.mem_cons_of_mem)))) (k false (fun e => by have e := hE e; (first | exact absurd (hr (by cases e; rfl)) cQ | (cases e; exact absurd rfl (by assumption)))))))
  · skip
    repeat' (first | (apply aF) | (apply aA) | (apply bP) | (apply cG) | (apply aJ; exact rfl) | (apply aH) | (apply aD) | (apply aW) | (apply aS) | (apply aU; exact rfl; ((refine bQ rfl rfl (fun h => ?_) (fun h => ?_))) <;> (first | (exfalso; omega) | refine aB ?_)) | (refine aE rfl rfl ?_; ((first | refine aG ?_ | refine aY ?_ | refine bS rfl ?_)); refine aB ?_))
    exact aZ (.inl rfl) (dP rfl (bR rfl)) (cA H' R (fun w hs => hs.weaken eB hR) (k true (fun _ => rfl)))
theorem wC {w0 : World} {H : List Hp} {R : List MP} {K : Value → List Hp → List MP → Prop} (A1 : Option Addr) (c1 : Nat) (A2 : Option Addr) (c2 : Nat) (l1 l2 : List pR) (hml1 : Sl (.slice A1 l1.length c1) l1 ∈ R) (hml2 : Sl (.slice A2 l2.length c2) l2 ∈ R)
    (k : ∀ r : Bool, (l1 = l2 → r = true) → K (.bool r) H R) : CallsK Tryz.prog w0 49 #[.slice A1 l1.length c1, .slice A2 l2.length c2] H R K := by
  refine eQ (p := l1.length ≤ 9223372036854775807) (fun w hs => by have := dN hs hml1; simp only [eO] at this; omega) (fun hbl1 => ?_)
  refine eQ (p := l2.length ≤ 9223372036854775807) (fun w hs => by have := dN hs hml2; simp only [eO] at this; omega) (fun hbl2 => ?_)
  refine bV Tryz.func49 rfl Tryz.ntmps49 fI ?_
  repeat' (first | (apply aF) | (apply aA) | (apply aV) | (apply bP) | (apply bF) | (apply aK; exact rfl) | (apply aJ; exact rfl) | (apply aH) | (apply aD) | (apply bN) | (apply aU; exact rfl; ((refine eD rfl rfl (fun h => ?_) (fun h => ?_))) <;> (refine aB ?_)) | (refine aE rfl rfl ?_; ((first | refine aG ?_ | refine aY ?_ | refine bS rfl ?_)); refine aB ?_))
  · exact aZ (.inl rfl) (dP rfl (bR rfl)) (cA H R dV (k false (fun e => by subst e; exact absurd rfl (by assumption))))
  have hll : l1.length = l2.length := by omega
  refine cM [4, 5, 6, 7, 13, 14, 15, 16, 17, 18, 19, 20, 21, 22, 23, 24, 25, 26, 27, 28, 29, 30, 31, 32, 33, 34, 35, 36, 37, 38, 39, 40, 41, 42, 43, 44, 45, 46, 47, 48, 49, 50, 51, 52, 53, 54, 55, 56, 57, 58, 59, 60, 61, 62, 63, 64, 65, 66, 67, 68, 69, 70, 71, 72, 73, 74, 75, 76, 77, 78, 79] (fun m j H' R' => H' = H ∧ (∀ p ∈ R, p ∈ R') ∧ ∃ i : Nat, i + m = l1.length ∧ j 5 = .int .i64 (i : Int)) l1.length eS ⟨rfl, fun _ h => h, 0, by omega, rfl⟩ ?_
  rintro m j H' R' ⟨hH, hR, i, hi, h5⟩
  subst hH
  have hn1 := hR _ hml1
  have hn2 := hR _ hml2
  refine dD (by simp only [eF, List.foldl_cons, List.foldl_nil, List.set_cons_succ, List.set_cons_zero, h5]; rfl) ?_
  rcases Nat.lt_or_ge i l1.length with hlt | hge
  · obtain ⟨x, hx⟩ : ∃ x, l1[i]? = some x := ⟨_, List.getElem?_eq_getElem hlt⟩
    obtain ⟨y, hy⟩ : ∃ y, l2[i]? = some y := ⟨_, List.getElem?_eq_getElem aO⟩
    have hE : l1 = l2 → x = y := fun e => by
      subst e
      rw [hx] at hy
      injection hy
    obtain ⟨x0, x1, x2, x3, x4, x5, x6⟩ := x
    obtain ⟨y0, y1, y2, y3, y4, y5, y6⟩ := y
    repeat' (first | (apply gZ; exact rfl; ((first | refine rY (v := .slice A1 l1.length c1) (xs := l1) rfl rfl aX hx rfl (fun b o A0_ c0_ A1_ c1_ => ?_) | refine rY (v := .slice A2 l2.length c2) (xs := l2) rfl rfl aX hy rfl (fun b o A0_ c0_ A1_ c1_ => ?_))); refine aB ?_) | (apply aU; exact rfl; ((refine qQ rfl rfl (fun h => ?_) (fun h => ?_))) <;> refine aB ?_) | (refine dK rfl ?_; refine aT rfl ?_; refine pS _ _ _ _ _ _ aX aX (fun r hr => ?_); cases r <;> refine aB ?_) | (apply aF) | (apply aA) | (apply aV) | (apply bP) | (apply bF) | (apply aK; exact rfl) | (apply aJ; exact rfl) | (apply aH) | (apply aD) | (apply bN) | (apply bU) | (apply dQ) | (apply aP; exact rfl; ((first | refine aL (i := 0) rfl rfl rfl ?_ | refine aL (i := 1) rfl rfl rfl ?_ | refine bD rfl cL rfl ?_)); refine aB ?_) | (apply aU; exact rfl; ((refine bM rfl rfl aO aO ?_)); refine aB ?_) | (apply aU; exact rfl; ((first | refine bQ rfl rfl (fun h => ?_) (fun h => ?_) | refine eD rfl rfl (fun h => ?_) (fun h => ?_))) <;> (first | (exfalso; omega) | refine aB ?_)) | (apply bE; exact rfl; ((refine aN (i := 0) rfl cW rfl dT dB eK ?_)); refine aB ?_; refine cE ?_) | (refine aE rfl rfl ?_; ((first | refine aG ?_ | refine aY ?_ | refine bX rfl eR ?_ | refine cH rfl eR ?_ | refine aC rfl ?_ | refine bS rfl ?_ | refine dJ rfl ?_)); refine aB ?_) | (refine cX rfl ?_; refine aB ?_) | (refine bJ rfl rfl ?_; ((refine bL cW (fun b => ?_))); refine aB ?_))
    all_goals (first | exact cJ (m - 1) _ R aO eS ⟨rfl, fun _ h => h, i + 1, by omega, rfl⟩ (fun w hs => hs.weaken eB (fun p hp => by have hp := hR p hp; repeat ((first | with_reducible exact hp | with_reducible apply List.mem_cons_of_mem)))) | exact aZ (.inl rfl) (dP rfl (bR rfl)) (cA H' R (fun w hs => hs.weaken eB (fun p hp => by have hp := hR p hp; repeat ((first | with_reducible exact hp | with_reducible apply List.mem_cons_of_mem)))) (k false (fun e => by have e := hE e; (first | exact absurd (hr (by cases e; rfl)) cQ | (cases e; exact absurd rfl (by assumption)))))))
  · skip
    repeat' (first | (apply aF) | (apply aA) | (apply bP) | (apply cG) | (apply aJ; exact rfl) | (apply aH) | (apply aD) | (apply aW) | (apply aS) | (apply aU; exact rfl; ((refine bQ rfl rfl (fun h => ?_) (fun h => ?_))) <;> (first | (exfalso; omega) | refine aB ?_)) | (refine aE rfl rfl ?_; ((first | refine aG ?_ | refine aY ?_ | refine bS rfl ?_)); refine aB ?_))
    exact aZ (.inl rfl) (dP rfl (bR rfl)) (cA H' R (fun w hs => hs.weaken eB hR) (k true (fun _ => rfl)))
end Go.Proofs.YtggdljhmbckpmaaGreat
namespace Go.Proofs.YtggdljhmbckpmaaGreat
open Go Go.RowKit
set_option maxRecDepth 100000
set_option maxHeartbeats 3200000

theorem vR {w0 : World} {H : List Hp} {R : List MP} {K : Value → List Hp → List MP → Prop} (nx0 : Int) (Ax1 : Option Addr) (cx1 : Nat) (nx1 : List sQ) (Ax2 : Option Addr) (cx2 : Nat) (nx2 : List Tm) (nx3 : Int) (nx4 : Int) (nx5 : Int) (nx6 : Int) (nx7 : Int) (nx8 : Int) (nx9 : Int) (nx10 : Bool) (Ax11 : Option Addr) (cx11 : Nat) (nx11 : List Int) (Ax12 : Option Addr) (cx12 : Nat) (nx12 : List Int) (nx13 : Int) (nx14 : Int) (nx15 : Int) (nx16 : Int) (nx17 : Int) (ny0 : Int) (Ay1 : Option Addr) (cy1 : Nat) (ny1 : List sQ) (Ay2 : Option Addr) (cy2 : Nat) (ny2 : List Tm) (ny3 : Int) (ny4 : Int) (ny5 : Int) (ny6 : Int) (ny7 : Int) (ny8 : Int) (ny9 : Int) (ny10 : Bool) (Ay11 : Option Addr) (cy11 : Nat) (ny11 : List Int) (Ay12 : Option Addr) (cy12 : Nat) (ny12 : List Int) (ny13 : Int) (ny14 : Int) (ny15 : Int) (ny16 : Int) (ny17 : Int) (hx0 : Sl (.slice Ax1 nx1.length cx1) nx1 ∈ R) (hx1 : Sl (.slice Ax2 nx2.length cx2) nx2 ∈ R) (hx2 : Sl (.slice Ax11 nx11.length cx11) nx11 ∈ R) (hx3 : Sl (.slice Ax12 nx12.length cx12) nx12 ∈ R) (hy0 : Sl (.slice Ay1 ny1.length cy1) ny1 ∈ R) (hy1 : Sl (.slice Ay2 ny2.length cy2) ny2 ∈ R) (hy2 : Sl (.slice Ay11 ny11.length cy11) ny11 ∈ R) (hy3 : Sl (.slice Ay12 ny12.length cy12) ny12 ∈ R)
    (k : ∀ r : Bool, (((nx0, nx1, nx2, nx3, nx4, nx5, nx6, nx7, nx8, nx9, nx10, nx11, nx12, nx13, nx14, nx15, nx16, nx17) : pL) = ((ny0, ny1, ny2, ny3, ny4, ny5, ny6, ny7, ny8, ny9, ny10, ny11, ny12, ny13, ny14, ny15, ny16, ny17) : pL) → r = true) → K (.bool r) H R) : CallsK Tryz.prog w0 51 #[.agg #[.int .i64 nx0, .slice Ax1 nx1.length cx1, .slice Ax2 nx2.length cx2, .int .i64 nx3, .int .i64 nx4, .int .i64 nx5, .int .i64 nx6, .int .i64 nx7, .int .i64 nx8, .int .i64 nx9, .bool nx10, .slice Ax11 nx11.length cx11, .slice Ax12 nx12.length cx12, .int .i64 nx13, .int .i64 nx14, .int .i64 nx15, .int .i64 nx16, .int .i64 nx17], .agg #[.int .i64 ny0, .slice Ay1 ny1.length cy1, .slice Ay2 ny2.length cy2, .int .i64 ny3, .int .i64 ny4, .int .i64 ny5, .int .i64 ny6, .int .i64 ny7, .int .i64 ny8, .int .i64 ny9, .bool ny10, .slice Ay11 ny11.length cy11, .slice Ay12 ny12.length cy12, .int .i64 ny13, .int .i64 ny14, .int .i64 ny15, .int .i64 ny16, .int .i64 ny17]] H R K := by
  refine bV Tryz.func51 rfl Tryz.ntmps51 fI ?_
  repeat' first
    | (apply aU; exact rfl; (first | refine qQ rfl rfl (fun h => ?_) (fun h => ?_) | refine vU rfl rfl (fun h => ?_) (fun h => ?_) | refine vL rfl rfl (fun h => ?_) (fun h => ?_)) <;> refine aB ?_)
    | (refine dK rfl ?_; refine aT rfl ?_; refine xL _ _ _ _ _ _ aX aX (fun r hr => ?_); cases r <;> refine aB ?_)
    | (refine dK rfl ?_; refine aT rfl ?_; refine pQ _ _ _ _ _ _ aX aX (fun r hr => ?_); cases r <;> refine aB ?_)
    | (apply aF)
    | (apply aA)
    | (apply aV)
    | (apply bP)
    | (apply bF)
    | (apply cG)
    | (apply aK; exact rfl)
    | (apply aJ; exact rfl)
    | (apply aH)
    | (apply aD)
    | (apply bN)
    | (apply aW)
    | (apply aM)
    | (apply bU)
    | (apply dQ)
    | (apply cI)
    | (apply aS)
    | (apply fB; exact rfl)
    | (apply aP; exact rfl; (first | refine aL (i := 0) rfl rfl rfl ?_ | refine aL (i := 1) rfl rfl rfl ?_ | refine aL (i := 2) rfl rfl rfl ?_ | refine aL (i := 3) rfl rfl rfl ?_ | refine aL (i := 4) rfl rfl rfl ?_ | refine aL (i := 5) rfl rfl rfl ?_ | refine aQ rfl cL rfl ?_ | refine bD rfl cL rfl ?_ | refine aQ rfl aX rfl ?_ | refine bD rfl aX rfl ?_); refine aB ?_)
    | (apply aU; exact rfl; (first | refine bM rfl rfl aO aO ?_ | refine eY rfl rfl aO aO ?_ | refine gR rfl rfl aO aO ?_ | refine kT rfl rfl aO aO aO ?_ | refine lA rfl rfl aO aO ?_); refine aB ?_)
    | (apply aU; exact rfl; (first | refine bQ rfl rfl (fun h => ?_) (fun h => ?_) | refine lY rfl rfl (fun h => ?_) (fun h => ?_) | refine fD rfl rfl (fun h => ?_) (fun h => ?_) | refine jS rfl rfl (fun h => ?_) (fun h => ?_) | refine fZ rfl rfl (fun h => ?_) (fun h => ?_) | refine eD rfl rfl (fun h => ?_) (fun h => ?_)) <;> first | (exfalso; omega) | refine aB ?_)
    | (refine aE rfl rfl ?_; (first | refine aG ?_ | refine aY ?_ | refine bX rfl eR ?_ | refine cH rfl eR ?_ | refine bA rfl ?_ | refine aC rfl ?_ | refine bS rfl ?_ | refine kI rfl ?_ | refine cD rfl rfl ?_ | refine dJ rfl ?_ | refine cR iE iE ?_ | refine dI gG ?_ | refine fC rfl ?_); refine aB ?_)
    | (refine cX rfl ?_; refine aB ?_)
    | (refine bJ rfl rfl ?_; (first | refine dX cW (fun b => ?_) | refine bL cW (fun b => ?_) | refine bK cQ fP rfl (fun b => ?_)); refine aB ?_)
  all_goals first
    | exact aZ (.inl rfl) (dP rfl (bR rfl)) (cA H R dV (k true (fun _ => rfl)))
    | exact aZ (.inl rfl) (dP rfl (bR rfl)) (cA H R dV (k false (fun e => by first | exact absurd (hr (by cases e; rfl)) cQ | (cases e; exact absurd rfl (by assumption)))))
theorem wM {w0 : World} {H : List Hp} {R : List MP} {K : Value → List Hp → List MP → Prop} (nx0 : Int) (nx1 : Int) (nx2 : Int) (nx3 : Int) (nx4 : Int) (nx5 : Int) (nx6 : Bool) (Ax7 : Option Addr) (cx7 : Nat) (nx7 : List Int) (Ax8 : Option Addr) (cx8 : Nat) (nx8 : List Int) (Ax9 : Option Addr) (cx9 : Nat) (nx9 : List pU) (Ax10 : Option Addr) (cx10 : Nat) (nx10 : List pP) (Ax11 : Option Addr) (cx11 : Nat) (nx11 : List pR) (Ax12 : Option Addr) (cx12 : Nat) (nx12 : List mU) (Ax13 : Option Addr) (cx13 : Nat) (nx13 : List nJ) (Ax14 : Option Addr) (cx14 : Nat) (nx14 : List pL) (nx15 : Int) (ny0 : Int) (ny1 : Int) (ny2 : Int) (ny3 : Int) (ny4 : Int) (ny5 : Int) (ny6 : Bool) (Ay7 : Option Addr) (cy7 : Nat) (ny7 : List Int) (Ay8 : Option Addr) (cy8 : Nat) (ny8 : List Int) (Ay9 : Option Addr) (cy9 : Nat) (ny9 : List pU) (Ay10 : Option Addr) (cy10 : Nat) (ny10 : List pP) (Ay11 : Option Addr) (cy11 : Nat) (ny11 : List pR) (Ay12 : Option Addr) (cy12 : Nat) (ny12 : List mU) (Ay13 : Option Addr) (cy13 : Nat) (ny13 : List nJ) (Ay14 : Option Addr) (cy14 : Nat) (ny14 : List pL) (ny15 : Int) (hx0 : Sl (.slice Ax7 nx7.length cx7) nx7 ∈ R) (hx1 : Sl (.slice Ax8 nx8.length cx8) nx8 ∈ R) (hx2 : Sl (.slice Ax9 nx9.length cx9) nx9 ∈ R) (hx3 : Sl (.slice Ax10 nx10.length cx10) nx10 ∈ R) (hx4 : Sl (.slice Ax11 nx11.length cx11) nx11 ∈ R) (hx5 : Sl (.slice Ax12 nx12.length cx12) nx12 ∈ R) (hx6 : Sl (.slice Ax13 nx13.length cx13) nx13 ∈ R) (hx7 : Sl (.slice Ax14 nx14.length cx14) nx14 ∈ R) (hy0 : Sl (.slice Ay7 ny7.length cy7) ny7 ∈ R) (hy1 : Sl (.slice Ay8 ny8.length cy8) ny8 ∈ R) (hy2 : Sl (.slice Ay9 ny9.length cy9) ny9 ∈ R) (hy3 : Sl (.slice Ay10 ny10.length cy10) ny10 ∈ R) (hy4 : Sl (.slice Ay11 ny11.length cy11) ny11 ∈ R) (hy5 : Sl (.slice Ay12 ny12.length cy12) ny12 ∈ R) (hy6 : Sl (.slice Ay13 ny13.length cy13) ny13 ∈ R) (hy7 : Sl (.slice Ay14 ny14.length cy14) ny14 ∈ R)
    (k : ∀ r : Bool, (((nx0, nx1, nx2, nx3, nx4, nx5, nx6, nx7, nx8, nx9, nx10, nx11, nx12, nx13, nx14, nx15) : jO) = ((ny0, ny1, ny2, ny3, ny4, ny5, ny6, ny7, ny8, ny9, ny10, ny11, ny12, ny13, ny14, ny15) : jO) → r = true) → K (.bool r) H R) : CallsK Tryz.prog w0 46 #[.agg #[.int .i64 nx0, .int .i64 nx1, .int .i64 nx2, .int .i64 nx3, .int .i64 nx4, .int .i64 nx5, .bool nx6, .slice Ax7 nx7.length cx7, .slice Ax8 nx8.length cx8, .slice Ax9 nx9.length cx9, .slice Ax10 nx10.length cx10, .slice Ax11 nx11.length cx11, .slice Ax12 nx12.length cx12, .slice Ax13 nx13.length cx13, .slice Ax14 nx14.length cx14, .int .i64 nx15], .agg #[.int .i64 ny0, .int .i64 ny1, .int .i64 ny2, .int .i64 ny3, .int .i64 ny4, .int .i64 ny5, .bool ny6, .slice Ay7 ny7.length cy7, .slice Ay8 ny8.length cy8, .slice Ay9 ny9.length cy9, .slice Ay10 ny10.length cy10, .slice Ay11 ny11.length cy11, .slice Ay12 ny12.length cy12, .slice Ay13 ny13.length cy13, .slice Ay14 ny14.length cy14, .int .i64 ny15]] H R K := by
  refine bV Tryz.func46 rfl Tryz.ntmps46 fI ?_
  repeat' first
    | (apply aU; exact rfl; (first | refine qQ rfl rfl (fun h => ?_) (fun h => ?_) | refine vU rfl rfl (fun h => ?_) (fun h => ?_) | refine vL rfl rfl (fun h => ?_) (fun h => ?_)) <;> refine aB ?_)
    | (refine dK rfl ?_; refine aT rfl ?_; refine pQ _ _ _ _ _ _ aX aX (fun r hr => ?_); cases r <;> refine aB ?_)
    | (apply aF)
    | (apply aA)
    | (apply aV)
    | (apply bP)
    | (apply bF)
    | (apply cG)
    | (apply aK; exact rfl)
    | (apply aJ; exact rfl)
    | (apply aH)
    | (apply aD)
    | (apply bN)
    | (apply aW)
    | (apply aM)
    | (apply bU)
    | (apply dQ)
    | (apply cI)
    | (apply aS)
    | (apply fB; exact rfl)
    | (apply aP; exact rfl; (first | refine aL (i := 0) rfl rfl rfl ?_ | refine aL (i := 1) rfl rfl rfl ?_ | refine aL (i := 2) rfl rfl rfl ?_ | refine aL (i := 3) rfl rfl rfl ?_ | refine aL (i := 4) rfl rfl rfl ?_ | refine aL (i := 5) rfl rfl rfl ?_ | refine aQ rfl cL rfl ?_ | refine bD rfl cL rfl ?_ | refine aQ rfl aX rfl ?_ | refine bD rfl aX rfl ?_); refine aB ?_)
    | (apply aU; exact rfl; (first | refine bM rfl rfl aO aO ?_ | refine eY rfl rfl aO aO ?_ | refine gR rfl rfl aO aO ?_ | refine kT rfl rfl aO aO aO ?_ | refine lA rfl rfl aO aO ?_); refine aB ?_)
    | (apply aU; exact rfl; (first | refine bQ rfl rfl (fun h => ?_) (fun h => ?_) | refine lY rfl rfl (fun h => ?_) (fun h => ?_) | refine fD rfl rfl (fun h => ?_) (fun h => ?_) | refine jS rfl rfl (fun h => ?_) (fun h => ?_) | refine fZ rfl rfl (fun h => ?_) (fun h => ?_) | refine eD rfl rfl (fun h => ?_) (fun h => ?_)) <;> first | (exfalso; omega) | refine aB ?_)
    | (refine aE rfl rfl ?_; (first | refine aG ?_ | refine aY ?_ | refine bX rfl eR ?_ | refine cH rfl eR ?_ | refine bA rfl ?_ | refine aC rfl ?_ | refine bS rfl ?_ | refine kI rfl ?_ | refine cD rfl rfl ?_ | refine dJ rfl ?_ | refine cR iE iE ?_ | refine dI gG ?_ | refine fC rfl ?_); refine aB ?_)
    | (refine cX rfl ?_; refine aB ?_)
    | (refine bJ rfl rfl ?_; (first | refine dX cW (fun b => ?_) | refine bL cW (fun b => ?_) | refine bK cQ fP rfl (fun b => ?_)); refine aB ?_)
  all_goals first
    | exact aZ (.inl rfl) (dP rfl (bR rfl)) (cA H R dV (k true (fun _ => rfl)))
    | exact aZ (.inl rfl) (dP rfl (bR rfl)) (cA H R dV (k false (fun e => by first | exact absurd (hr (by cases e; rfl)) cQ | (cases e; exact absurd rfl (by assumption)))))
end Go.Proofs.YtggdljhmbckpmaaGreat
namespace Go.Proofs.YtggdljhmbckpmaaGreat
open Go Go.RowKit
attribute [local semireducible] T TA TC En PW GW OW CallsK CallsP Sl Rd Ls At S
section
variable {F : Fence} {n : Nat} {P : Program} {w0 : World} {D : List Deferred} {ops : Array Oper} {Q : Exit → Act → World → Prop} {rest : List Oper} {E : List Value} {H : List Hp} {R : List MP}
/-- The only one that may come up is not wanted. -/
theorem TA_os (i : Nat) {dst : Option Tmp} {op : Op} {ty : TypeId} {pos : String} {aft : Array Edge} {g : Option (Nat × Bool)} {Hc : List Hp} {Rc : List MP} {k : Nat} {listed listed' : Array Bool} {E' : List Value} (h : TA F n P w0 D ops Q Hc Rc k listed' E' H R)
    (hi : ops[i]? = some ⟨dst, op, ty, pos, aft, g⟩ := by exact rfl) (hl : listed.setIfInBounds i true = listed' := by simp only [List.setIfInBounds_toArray, List.set_cons_succ, List.set_cons_zero]; rfl) (hr : Region.ready .any ops listed = [i] := by decide +kernel)
    (hw : nL ops ⟨dst, op, ty, pos, aft, g⟩ E = false := by exact rfl) (he : eE E dst undef = E' := by simp only [eE, List.set_cons_succ, List.set_cons_zero]; rfl) : TA F n P w0 D ops Q Hc Rc (k + 1) listed E H R := yY i hr hi hl hw (yM he h)
end
end Go.Proofs.YtggdljhmbckpmaaGreat
