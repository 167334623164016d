/- Stores compared: walk. States compared: walk. ImageCodes: walk. The law's helpers: sameRecords, same: walks. -/
import Derived.Test.YtggdljhmbckpmaaGreatW3J
import Derived.Test.YtggdljhmbckpmaaGreatG2
import Derived.Test.YtggdljhmbckpmaaGreatH1J
import Derived.Test.YtggdljhmbckpmaaGreatM4J
import Derived.Test.YtggdljhmbckpmaaGreatX7J
import Derived.Test.YtggdljhmbckpmaaGreatV9
import Derived.Test.YtggdljhmbckpmaaGreatF14J
import Derived.Test.YtggdljhmbckpmaaGreatA18J
import Derived.Laws.StructEq
set_option linter.unusedVariables false
set_option linter.unusedSimpArgs false
namespace Go.Proofs.YtggdljhmbckpmaaGreat
open Go Go.RowKit
set_option maxRecDepth 100000
set_option maxHeartbeats 3200000

theorem vP {w0 : World} {H : List Hp} {R : List MP} {K : Value → List Hp → List MP → Prop} (nx0 : Int) (nx1 : Int) (nx2 : Int) (nx3 : Int) (nx4 : Int) (nx5 : Int) (nx6 : Bool) (Ax7 : Option Addr) (cx7 : Nat) (nx7 : List Int) (Ax8 : Option Addr) (cx8 : Nat) (nx8 : List Int) (Ax9 : Option Addr) (cx9 : Nat) (nx9 : List pU) (Ax10 : Option Addr) (cx10 : Nat) (nx10 : List pP) (Ax11 : Option Addr) (cx11 : Nat) (nx11 : List pR) (Ax12 : Option Addr) (cx12 : Nat) (nx12 : List mU) (Ax13 : Option Addr) (cx13 : Nat) (nx13 : List nJ) (Ax14 : Option Addr) (cx14 : Nat) (nx14 : List pL) (nx15 : Int) (ny0 : Int) (ny1 : Int) (ny2 : Int) (ny3 : Int) (ny4 : Int) (ny5 : Int) (ny6 : Bool) (Ay7 : Option Addr) (cy7 : Nat) (ny7 : List Int) (Ay8 : Option Addr) (cy8 : Nat) (ny8 : List Int) (Ay9 : Option Addr) (cy9 : Nat) (ny9 : List pU) (Ay10 : Option Addr) (cy10 : Nat) (ny10 : List pP) (Ay11 : Option Addr) (cy11 : Nat) (ny11 : List pR) (Ay12 : Option Addr) (cy12 : Nat) (ny12 : List mU) (Ay13 : Option Addr) (cy13 : Nat) (ny13 : List nJ) (Ay14 : Option Addr) (cy14 : Nat) (ny14 : List pL) (ny15 : Int) (hx0 : Sl (.slice Ax7 nx7.length cx7) nx7 ∈ R) (hx1 : Sl (.slice Ax8 nx8.length cx8) nx8 ∈ R) (hx2 : Sl (.slice Ax9 nx9.length cx9) nx9 ∈ R) (hx3 : Sl (.slice Ax10 nx10.length cx10) nx10 ∈ R) (hx4 : Sl (.slice Ax11 nx11.length cx11) nx11 ∈ R) (hx5 : Sl (.slice Ax12 nx12.length cx12) nx12 ∈ R) (hx6 : Sl (.slice Ax13 nx13.length cx13) nx13 ∈ R) (hx7 : Sl (.slice Ax14 nx14.length cx14) nx14 ∈ R) (hy0 : Sl (.slice Ay7 ny7.length cy7) ny7 ∈ R) (hy1 : Sl (.slice Ay8 ny8.length cy8) ny8 ∈ R) (hy2 : Sl (.slice Ay9 ny9.length cy9) ny9 ∈ R) (hy3 : Sl (.slice Ay10 ny10.length cy10) ny10 ∈ R) (hy4 : Sl (.slice Ay11 ny11.length cy11) ny11 ∈ R) (hy5 : Sl (.slice Ay12 ny12.length cy12) ny12 ∈ R) (hy6 : Sl (.slice Ay13 ny13.length cy13) ny13 ∈ R) (hy7 : Sl (.slice Ay14 ny14.length cy14) ny14 ∈ R)
    (k : ∀ r : Bool, (((nx0, nx1, nx2, nx3, nx4, nx5, nx6, nx7, nx8, nx9, nx10, nx11, nx12, nx13, nx14, nx15) : jO) = ((ny0, ny1, ny2, ny3, ny4, ny5, ny6, ny7, ny8, ny9, ny10, ny11, ny12, ny13, ny14, ny15) : jO) → r = true) → K (.bool r) H R) : CallsK Tryz.prog w0 50 #[.agg #[.int .i64 nx0, .int .i64 nx1, .int .i64 nx2, .int .i64 nx3, .int .i64 nx4, .int .i64 nx5, .bool nx6, .slice Ax7 nx7.length cx7, .slice Ax8 nx8.length cx8, .slice Ax9 nx9.length cx9, .slice Ax10 nx10.length cx10, .slice Ax11 nx11.length cx11, .slice Ax12 nx12.length cx12, .slice Ax13 nx13.length cx13, .slice Ax14 nx14.length cx14, .int .i64 nx15], .agg #[.int .i64 ny0, .int .i64 ny1, .int .i64 ny2, .int .i64 ny3, .int .i64 ny4, .int .i64 ny5, .bool ny6, .slice Ay7 ny7.length cy7, .slice Ay8 ny8.length cy8, .slice Ay9 ny9.length cy9, .slice Ay10 ny10.length cy10, .slice Ay11 ny11.length cy11, .slice Ay12 ny12.length cy12, .slice Ay13 ny13.length cy13, .slice Ay14 ny14.length cy14, .int .i64 ny15]] H R K := by
  refine eQ (p := nx12.length ≤ 9223372036854775807) (fun w hs => by have := dN hs hx5; simp only [eO] at this; omega) (fun hb1 => ?_)
  refine eQ (p := nx13.length ≤ 9223372036854775807) (fun w hs => by have := dN hs hx6; simp only [eO] at this; omega) (fun hb2 => ?_)
  refine eQ (p := ny12.length ≤ 9223372036854775807) (fun w hs => by have := dN hs hy5; simp only [eO] at this; omega) (fun hb3 => ?_)
  refine eQ (p := ny13.length ≤ 9223372036854775807) (fun w hs => by have := dN hs hy6; simp only [eO] at this; omega) (fun hb4 => ?_)
  refine bV Tryz.func50 rfl Tryz.ntmps50 fI ?_
  apply aF; apply aA
  repeat' (first | (refine aE rfl rfl ?_; ((refine aY ?_)); refine aB ?_) | (refine bJ rfl rfl ?_; ((refine dX cW (fun b => ?_))); refine aB ?_))
  rename_i b2
  revert b
  intro b3
  apply aH; apply aD
  repeat' (first | (apply aF) | (apply aA) | (apply aV) | (apply bP) | (apply bF) | (apply aK; exact rfl) | (apply aJ; exact rfl) | (apply aH) | (apply aD) | (apply bN) | (apply aP; exact rfl; ((first | refine aL (i := 0) rfl rfl rfl ?_ | refine aL (i := 1) rfl rfl rfl ?_)); refine aB ?_) | (apply aU; exact rfl; ((refine eD rfl rfl (fun h => ?_) (fun h => ?_))) <;> (refine aB ?_)) | (refine aE rfl rfl ?_; ((first | refine aG ?_ | refine aY ?_ | refine bX rfl eR ?_ | refine cH rfl eR ?_ | refine aC rfl ?_ | refine bS rfl ?_)); refine aB ?_) | (refine cX rfl ?_; refine aB ?_))
  all_goals try exact aZ (.inl rfl) (dP rfl (bR rfl)) (cA H R dV (k false (fun e => by cases e; exact absurd rfl (by assumption))))
  have hl1 : nx12.length = ny12.length := by omega
  have hl2 : nx13.length = ny13.length := by omega
  refine cM [4, 5, 25, 26, 27, 28, 29, 30, 31, 32, 33, 34, 35, 36, 37, 38, 39, 40, 41, 42, 43, 44, 45, 46] (fun m j H' R' => H' = .blk b3 [.int .i64 ny0, .int .i64 ny1, .int .i64 ny2, .int .i64 ny3, .int .i64 ny4, .int .i64 ny5, .bool ny6, .slice Ay7 ny7.length cy7, .slice Ay8 ny8.length cy8, .slice Ay9 ny9.length cy9, .slice Ay10 ny10.length cy10, .slice Ay11 ny11.length cy11, .slice Ay12 ny12.length cy12, .slice Ay13 ny13.length cy13, .slice Ay14 ny14.length cy14, .int .i64 ny15] 32 :: .blk b2 [.int .i64 nx0, .int .i64 nx1, .int .i64 nx2, .int .i64 nx3, .int .i64 nx4, .int .i64 nx5, .bool nx6, .slice Ax7 nx7.length cx7, .slice Ax8 nx8.length cx8, .slice Ax9 nx9.length cx9, .slice Ax10 nx10.length cx10, .slice Ax11 nx11.length cx11, .slice Ax12 nx12.length cx12, .slice Ax13 nx13.length cx13, .slice Ax14 nx14.length cx14, .int .i64 nx15] 32 :: H ∧ (∀ p ∈ R, p ∈ R') ∧ ∃ i : Nat, i + m = nx12.length ∧ j 5 = .int .i64 (i : Int)) nx12.length eS ⟨rfl, fun _ h => h, 0, by omega, rfl⟩ ?_
  rintro m j H' R' ⟨hH, hR, i, hi, h5⟩
  subst hH
  have hn1 := hR _ hx5
  have hn2 := hR _ hy5
  refine dD (by simp only [eF, List.foldl_cons, List.foldl_nil, List.set_cons_succ, List.set_cons_zero, h5]; rfl) ?_
  rcases Nat.lt_or_ge i nx12.length with hlt | hge
  · obtain ⟨x, hx⟩ : ∃ x, nx12[i]? = some x := ⟨_, List.getElem?_eq_getElem hlt⟩
    obtain ⟨y, hy⟩ : ∃ y, ny12[i]? = some y := ⟨_, List.getElem?_eq_getElem aO⟩
    have hE : ((nx0, nx1, nx2, nx3, nx4, nx5, nx6, nx7, nx8, nx9, nx10, nx11, nx12, nx13, nx14, nx15) : jO) = ((ny0, ny1, ny2, ny3, ny4, ny5, ny6, ny7, ny8, ny9, ny10, ny11, ny12, ny13, ny14, ny15) : jO) → x = y := fun e => by
      cases e
      rw [hx] at hy
      injection hy
    obtain ⟨x0, ⟨x1, x2⟩, x3, ⟨x4, x5, x6, x7⟩⟩ := x
    obtain ⟨y0, ⟨y1, y2⟩, y3, ⟨y4, y5, y6, y7⟩⟩ := y
    repeat' (first | (apply aF) | (apply aA) | (apply aV) | (apply bF) | (apply aK; exact rfl) | (apply aH) | (apply aD) | (apply aP; exact rfl; ((refine aL (i := 1) rfl rfl rfl ?_)); refine aB ?_) | (apply aU; exact rfl; ((refine bQ rfl rfl (fun h => ?_) (fun h => ?_))) <;> (first | (exfalso; omega) | refine aB ?_)) | (refine aE rfl rfl ?_; ((first | refine aG ?_ | refine aC rfl ?_ | refine bS rfl ?_)); refine aB ?_))
    refine eC fK jN (fun _ _ _ _ _ _ h => h) (List.Sublist.refl _) ?_
    all_goals ((refine bG 0 ?_; ((refine aC rfl ?_)); refine aI ?_))
    all_goals ((refine bG 1 ?_; ((refine aC rfl ?_)); refine aI ?_))
    all_goals ((refine bG 2 ?_; ((refine aL (i := 1) rfl rfl rfl ?_)); refine aI ?_))
    all_goals ((refine bG 3 ?_; ((refine aG ?_)); refine aI ?_))
    all_goals ((refine bG 4 ?_; ((refine sA (v := .slice Ax12 nx12.length cx12) (xs := nx12) rfl rfl aX hx rfl (fun b o A0_ c0_ A1_ c1_ => ?_))); refine aI ?_))
    all_goals ((refine bG 5 ?_; ((refine bD rfl cL rfl ?_)); refine aI ?_))
    all_goals ((refine bG 6 ?_; ((refine aC rfl ?_)); refine aI ?_))
    all_goals ((refine bG 7 ?_; ((refine aC rfl ?_)); refine aI ?_))
    all_goals ((refine bG 8 ?_; ((refine aL (i := 0) rfl rfl rfl ?_)); refine aI ?_))
    all_goals ((refine bG 9 ?_; ((refine aG ?_)); refine aI ?_))
    all_goals ((refine bG 10 ?_; ((refine sA (v := .slice Ay12 ny12.length cy12) (xs := ny12) rfl rfl aX hy rfl (fun b o A0_ c0_ A1_ c1_ => ?_))); refine aI ?_))
    all_goals ((refine bG 11 ?_; ((refine bD rfl cL rfl ?_)); refine aI ?_))
    -- left: [12, 13]; ready: [12]: ['call']
    refine gE 12 ?_
    refine aT rfl ?_
    refine uU _ _ _ _ _ _ _ _ _ _ _ _ _ _ _ _ _ _ _ _ _ _ _ _ aX aX aX aX (fun r hr => ?_)
    refine ⟨.inl (fun w hs => hs), ?_⟩
    refine aI ?_
    cases r
    all_goals ((refine bG 13 ?_; ((refine dJ rfl ?_)); refine aI ?_))
    all_goals refine iC ?_
    · skip
      repeat' (first | (apply aF) | (apply aA) | (apply bP) | (apply aK; exact rfl) | (apply aH) | (apply aD) | (apply bN) | (apply dQ) | (refine aE rfl rfl ?_; ((refine aY ?_)); refine aB ?_))
      exact aZ (.inl rfl) (dP rfl (bR rfl)) (cA H R (fun w hs => hs.weaken eB (fun p hp => by have hp := hR p hp; repeat ((first | with_reducible exact hp | with_reducible apply List.mem_cons_of_mem)))) (k false (fun e => hr (hE e))))
    · skip
      repeat' (first | (apply aA) | (apply bF) | (apply aJ; exact rfl) | (apply aH) | (apply aD) | (apply bU) | (apply aU; exact rfl; ((refine bM rfl rfl aO aO ?_)); refine aB ?_) | (refine aE rfl rfl ?_; ((first | refine aG ?_ | refine aY ?_)); refine aB ?_))
      exact cJ (m - 1) _ R aO eS ⟨rfl, fun _ h => h, i + 1, by omega, rfl⟩ (fun w hs => hs.weaken eB (fun p hp => by have hp := hR p hp; repeat ((first | with_reducible exact hp | with_reducible apply List.mem_cons_of_mem))))
  · skip
    repeat' (first | (apply aF) | (apply aA) | (apply aV) | (apply cG) | (apply aJ; exact rfl) | (apply aH) | (apply aD) | (apply aW) | (apply aS) | (apply aP; exact rfl; ((refine aL (i := 1) rfl rfl rfl ?_)); refine aB ?_) | (apply aU; exact rfl; ((refine bQ rfl rfl (fun h => ?_) (fun h => ?_))) <;> (first | (exfalso; omega) | refine aB ?_)) | (refine aE rfl rfl ?_; ((first | refine aG ?_ | refine aY ?_ | refine aC rfl ?_ | refine bS rfl ?_)); refine aB ?_))
    refine cM [4, 6, 47, 48, 49, 50, 51, 52, 53, 54, 55, 56, 57, 58, 59, 60, 61, 62, 63, 64, 65, 66, 67, 68, 69, 70, 71, 72, 73, 74, 75, 76, 77, 78, 79, 80, 81, 82] (fun m j H'' R'' => H'' = .blk b3 [.int .i64 ny0, .int .i64 ny1, .int .i64 ny2, .int .i64 ny3, .int .i64 ny4, .int .i64 ny5, .bool ny6, .slice Ay7 ny7.length cy7, .slice Ay8 ny8.length cy8, .slice Ay9 ny9.length cy9, .slice Ay10 ny10.length cy10, .slice Ay11 ny11.length cy11, .slice Ay12 ny12.length cy12, .slice Ay13 ny13.length cy13, .slice Ay14 ny14.length cy14, .int .i64 ny15] 32 :: .blk b2 [.int .i64 nx0, .int .i64 nx1, .int .i64 nx2, .int .i64 nx3, .int .i64 nx4, .int .i64 nx5, .bool nx6, .slice Ax7 nx7.length cx7, .slice Ax8 nx8.length cx8, .slice Ax9 nx9.length cx9, .slice Ax10 nx10.length cx10, .slice Ax11 nx11.length cx11, .slice Ax12 nx12.length cx12, .slice Ax13 nx13.length cx13, .slice Ax14 nx14.length cx14, .int .i64 nx15] 32 :: H ∧ (∀ p ∈ R, p ∈ R'') ∧ ∃ i : Nat, i + m = nx13.length ∧ j 6 = .int .i64 (i : Int)) nx13.length eS ⟨rfl, hR, 0, by omega, rfl⟩ ?_
    clear hn1 hn2 hR hi
    rintro m j2 H'' R'' ⟨hH, hR, i, hi, h6⟩
    subst hH
    have hn1 := hR _ hx6
    have hn2 := hR _ hy6
    refine dD (by simp only [eF, List.foldl_cons, List.foldl_nil, List.set_cons_succ, List.set_cons_zero, h6]; rfl) ?_
    rcases Nat.lt_or_ge i nx13.length with hlt | hge
    · obtain ⟨x, hx⟩ : ∃ x, nx13[i]? = some x := ⟨_, List.getElem?_eq_getElem hlt⟩
      obtain ⟨y, hy⟩ : ∃ y, ny13[i]? = some y := ⟨_, List.getElem?_eq_getElem aO⟩
      have hE : ((nx0, nx1, nx2, nx3, nx4, nx5, nx6, nx7, nx8, nx9, nx10, nx11, nx12, nx13, nx14, nx15) : jO) = ((ny0, ny1, ny2, ny3, ny4, ny5, ny6, ny7, ny8, ny9, ny10, ny11, ny12, ny13, ny14, ny15) : jO) → x = y := fun e => by
        cases e
        rw [hx] at hy
        injection hy
      obtain ⟨xq, x0, ⟨x1, x2⟩, x3, ⟨x4, x5, x6, x7⟩⟩ := x
      obtain ⟨yq, y0, ⟨y1, y2⟩, y3, ⟨y4, y5, y6, y7⟩⟩ := y
      repeat' (first | (apply aF) | (apply aA) | (apply aV) | (apply bF) | (apply aK; exact rfl) | (apply aH) | (apply aD) | (apply aP; exact rfl; ((refine aL (i := 1) rfl rfl rfl ?_)); refine aB ?_) | (apply aU; exact rfl; ((refine bQ rfl rfl (fun h => ?_) (fun h => ?_))) <;> (first | (exfalso; omega) | refine aB ?_)) | (refine aE rfl rfl ?_; ((first | refine aG ?_ | refine aC rfl ?_ | refine bS rfl ?_)); refine aB ?_))
      refine eC fK jN (fun _ _ _ _ _ _ h => h) (List.Sublist.refl _) ?_
      all_goals ((refine bG 0 ?_; ((refine aC rfl ?_)); refine aI ?_))
      all_goals ((refine bG 1 ?_; ((refine aL (i := 1) rfl rfl rfl ?_)); refine aI ?_))
      all_goals ((refine bG 2 ?_; ((refine aG ?_)); refine aI ?_))
      all_goals ((refine bG 3 ?_; ((refine mF (v := .slice Ax13 nx13.length cx13) (xs := nx13) rfl rfl aX hx rfl (fun b o A0_ c0_ A1_ c1_ => ?_))); refine aI ?_))
      all_goals ((refine bG 4 ?_; ((refine aC rfl ?_)); refine aI ?_))
      all_goals ((refine bG 5 ?_; ((refine aQ rfl cL rfl ?_)); refine aI ?_))
      all_goals ((refine bG 6 ?_; ((refine aC rfl ?_)); refine aI ?_))
      all_goals ((refine bG 7 ?_; ((refine aL (i := 0) rfl rfl rfl ?_)); refine aI ?_))
      all_goals ((refine bG 8 ?_; ((refine aG ?_)); refine aI ?_))
      all_goals ((refine bG 9 ?_; ((refine mF (v := .slice Ay13 ny13.length cy13) (xs := ny13) rfl rfl aX hy rfl (fun b o A0_ c0_ A1_ c1_ => ?_))); refine aI ?_))
      all_goals ((refine bG 10 ?_; ((refine aC rfl ?_)); refine aI ?_))
      all_goals ((refine bG 11 ?_; ((refine aQ rfl cL rfl ?_)); refine aI ?_))
      all_goals ((refine bG 12 ?_; ((refine eD rfl rfl (fun h => ?_) (fun h => ?_))) <;> (refine aI ?_)))
      all_goals ((refine bG 13 ?_; ((refine aG ?_)); refine aI ?_))
      all_goals (first | (refine bG 14 ?_; ((refine aC rfl ?_)); refine aI ?_) | (refine dS 14 (List.Sublist.refl _) ?_))
      all_goals (first | (refine bG 15 ?_; ((refine aL (i := 1) rfl rfl rfl ?_)); refine aI ?_) | (refine dS 15 (List.Sublist.refl _) ?_))
      all_goals (first | (refine bG 16 ?_; ((refine aG ?_)); refine aI ?_) | (refine dS 16 (List.Sublist.refl _) ?_))
      all_goals (first | (refine bG 17 ?_; ((refine mF (v := .slice Ax13 nx13.length cx13) (xs := nx13) rfl rfl aX hx rfl (fun b o A0_ c0_ A1_ c1_ => ?_))); refine aI ?_) | (refine dS 17 (List.Sublist.refl _) ?_))
      all_goals (first | (refine bG 18 ?_; ((refine aC rfl ?_)); refine aI ?_) | (refine dS 18 (List.Sublist.refl _) ?_))
      all_goals (first | (refine bG 19 ?_; ((refine aQ rfl cL rfl ?_)); refine aI ?_) | (refine dS 19 (List.Sublist.refl _) ?_))
      all_goals (first | (refine bG 20 ?_; ((refine aC rfl ?_)); refine aI ?_) | (refine dS 20 (List.Sublist.refl _) ?_))
      all_goals (first | (refine bG 21 ?_; ((refine aL (i := 0) rfl rfl rfl ?_)); refine aI ?_) | (refine dS 21 (List.Sublist.refl _) ?_))
      all_goals (first | (refine bG 22 ?_; ((refine aG ?_)); refine aI ?_) | (refine dS 22 (List.Sublist.refl _) ?_))
      all_goals (first | (refine bG 23 ?_; ((refine mF (v := .slice Ay13 ny13.length cy13) (xs := ny13) rfl rfl aX hy rfl (fun b o A0_ c0_ A1_ c1_ => ?_))); refine aI ?_) | (refine dS 23 (List.Sublist.refl _) ?_))
      all_goals (first | (refine bG 24 ?_; ((refine aC rfl ?_)); refine aI ?_) | (refine dS 24 (List.Sublist.refl _) ?_))
      all_goals (first | (refine bG 25 ?_; ((refine aQ rfl cL rfl ?_)); refine aI ?_) | (refine dS 25 (List.Sublist.refl _) ?_))
      -- left: [26, 27, 28]; ready: [26]: ['call']
      · refine TA_os 26 ?_
        all_goals ((refine dS 27 (List.Sublist.refl _) ?_))
        all_goals ((refine bG 28 ?_; ((refine bX rfl eR ?_)); refine aI ?_))
        all_goals refine iC ?_
        repeat' (first | (apply aF) | (apply aA) | (apply bP) | (apply aK; exact rfl) | (apply aH) | (apply aD) | (apply bN) | (apply dQ) | (refine aE rfl rfl ?_; ((refine aY ?_)); refine aB ?_))
        exact aZ (.inl rfl) (dP rfl (bR rfl)) (cA H R (fun w hs => hs.weaken eB (fun p hp => by have hp := hR p hp; repeat ((first | with_reducible exact hp | with_reducible apply List.mem_cons_of_mem)))) (k false (fun e => by have e := hE e; cases e; exact absurd rfl (by assumption))))
      refine gE 26 ?_
      refine aT rfl ?_
      refine uU _ _ _ _ _ _ _ _ _ _ _ _ _ _ _ _ _ _ _ _ _ _ _ _ aX aX aX aX (fun r hr => ?_)
      refine ⟨.inl (fun w hs => hs), ?_⟩
      refine aI ?_
      cases r
      all_goals ((refine bG 27 ?_; ((refine dJ rfl ?_)); refine aI ?_))
      all_goals ((refine bG 28 ?_; ((refine cH rfl eR ?_)); refine aI ?_))
      all_goals refine iC ?_
      · skip
        repeat' (first | (apply aF) | (apply aA) | (apply bP) | (apply aK; exact rfl) | (apply aH) | (apply aD) | (apply bN) | (apply dQ) | (refine aE rfl rfl ?_; ((refine aY ?_)); refine aB ?_))
        exact aZ (.inl rfl) (dP rfl (bR rfl)) (cA H R (fun w hs => hs.weaken eB (fun p hp => by have hp := hR p hp; repeat ((first | with_reducible exact hp | with_reducible apply List.mem_cons_of_mem)))) (k false (fun e => by have e := hE e; cases e; exact hr rfl)))
      · skip
        repeat' (first | (apply aA) | (apply bF) | (apply aJ; exact rfl) | (apply aH) | (apply aD) | (apply bU) | (apply aU; exact rfl; ((refine bM rfl rfl aO aO ?_)); refine aB ?_) | (refine aE rfl rfl ?_; ((first | refine aG ?_ | refine aY ?_)); refine aB ?_))
        exact cJ (m - 1) _ R aO eS ⟨rfl, fun _ h => h, i + 1, by omega, rfl⟩ (fun w hs => hs.weaken eB (fun p hp => by have hp := hR p hp; repeat ((first | with_reducible exact hp | with_reducible apply List.mem_cons_of_mem))))
    · skip
      repeat' (first | (apply aF) | (apply aA) | (apply bP) | (apply cG) | (apply aJ; exact rfl) | (apply aH) | (apply aD) | (apply aW) | (apply aS) | (apply aP; exact rfl; ((refine aL (i := 1) rfl rfl rfl ?_)); refine aB ?_) | (apply aU; exact rfl; ((refine bQ rfl rfl (fun h => ?_) (fun h => ?_))) <;> (first | (exfalso; omega) | refine aB ?_)) | (refine aE rfl rfl ?_; ((first | refine aG ?_ | refine aY ?_ | refine aC rfl ?_ | refine bS rfl ?_)); refine aB ?_))
      exact aZ (.inl rfl) (dP rfl (bR rfl)) (cA H R (fun w hs => hs.weaken eB (fun p hp => by have hp := hR p hp; repeat ((with_reducible exact hp)))) (k true (fun _ => rfl)))
end Go.Proofs.YtggdljhmbckpmaaGreat
namespace Go.Proofs.YtggdljhmbckpmaaGreat
open Go Go.RowKit
set_option maxRecDepth 100000
set_option maxHeartbeats 3200000

theorem yX {w0 : World} {H : List Hp} {R : List MP} {K : Value → List Hp → List MP → Prop} (nx0 : Int) (nx1 : Int) (nx2 : Int) (nx3 : Int) (nx4 : Int) (nx5 : Int) (nx6 : Bool) (Ax7 : Option Addr) (cx7 : Nat) (nx7 : List Int) (Ax8 : Option Addr) (cx8 : Nat) (nx8 : List Int) (Ax9 : Option Addr) (cx9 : Nat) (nx9 : List pU) (Ax10 : Option Addr) (cx10 : Nat) (nx10 : List pP) (Ax11 : Option Addr) (cx11 : Nat) (nx11 : List pR) (Ax12 : Option Addr) (cx12 : Nat) (nx12 : List mU) (Ax13 : Option Addr) (cx13 : Nat) (nx13 : List nJ) (Ax14 : Option Addr) (cx14 : Nat) (nx14 : List pL) (nx15 : Int) (ny0 : Int) (ny1 : Int) (ny2 : Int) (ny3 : Int) (ny4 : Int) (ny5 : Int) (ny6 : Bool) (Ay7 : Option Addr) (cy7 : Nat) (ny7 : List Int) (Ay8 : Option Addr) (cy8 : Nat) (ny8 : List Int) (Ay9 : Option Addr) (cy9 : Nat) (ny9 : List pU) (Ay10 : Option Addr) (cy10 : Nat) (ny10 : List pP) (Ay11 : Option Addr) (cy11 : Nat) (ny11 : List pR) (Ay12 : Option Addr) (cy12 : Nat) (ny12 : List mU) (Ay13 : Option Addr) (cy13 : Nat) (ny13 : List nJ) (Ay14 : Option Addr) (cy14 : Nat) (ny14 : List pL) (ny15 : Int) (hx0 : Sl (.slice Ax7 nx7.length cx7) nx7 ∈ R) (hx1 : Sl (.slice Ax8 nx8.length cx8) nx8 ∈ R) (hx2 : Sl (.slice Ax9 nx9.length cx9) nx9 ∈ R) (hx3 : Sl (.slice Ax10 nx10.length cx10) nx10 ∈ R) (hx4 : Sl (.slice Ax11 nx11.length cx11) nx11 ∈ R) (hx5 : Sl (.slice Ax12 nx12.length cx12) nx12 ∈ R) (hx6 : Sl (.slice Ax13 nx13.length cx13) nx13 ∈ R) (hx7 : Sl (.slice Ax14 nx14.length cx14) nx14 ∈ R) (hy0 : Sl (.slice Ay7 ny7.length cy7) ny7 ∈ R) (hy1 : Sl (.slice Ay8 ny8.length cy8) ny8 ∈ R) (hy2 : Sl (.slice Ay9 ny9.length cy9) ny9 ∈ R) (hy3 : Sl (.slice Ay10 ny10.length cy10) ny10 ∈ R) (hy4 : Sl (.slice Ay11 ny11.length cy11) ny11 ∈ R) (hy5 : Sl (.slice Ay12 ny12.length cy12) ny12 ∈ R) (hy6 : Sl (.slice Ay13 ny13.length cy13) ny13 ∈ R) (hy7 : Sl (.slice Ay14 ny14.length cy14) ny14 ∈ R)
    (k : ∀ r : Bool, (((nx0, nx1, nx2, nx3, nx4, nx5, nx6, nx7, nx8, nx9, nx10, nx11, nx12, nx13, nx14, nx15) : jO) = ((ny0, ny1, ny2, ny3, ny4, ny5, ny6, ny7, ny8, ny9, ny10, ny11, ny12, ny13, ny14, ny15) : jO) → r = true) → K (.bool r) H R) : CallsK Tryz.prog w0 12 #[.agg #[.int .i64 nx0, .int .i64 nx1, .int .i64 nx2, .int .i64 nx3, .int .i64 nx4, .int .i64 nx5, .bool nx6, .slice Ax7 nx7.length cx7, .slice Ax8 nx8.length cx8, .slice Ax9 nx9.length cx9, .slice Ax10 nx10.length cx10, .slice Ax11 nx11.length cx11, .slice Ax12 nx12.length cx12, .slice Ax13 nx13.length cx13, .slice Ax14 nx14.length cx14, .int .i64 nx15], .agg #[.int .i64 ny0, .int .i64 ny1, .int .i64 ny2, .int .i64 ny3, .int .i64 ny4, .int .i64 ny5, .bool ny6, .slice Ay7 ny7.length cy7, .slice Ay8 ny8.length cy8, .slice Ay9 ny9.length cy9, .slice Ay10 ny10.length cy10, .slice Ay11 ny11.length cy11, .slice Ay12 ny12.length cy12, .slice Ay13 ny13.length cy13, .slice Ay14 ny14.length cy14, .int .i64 ny15]] H R K := by
  refine eQ (p := nx14.length ≤ 9223372036854775807) (fun w hs => by have := dN hs hx7; simp only [eO] at this; omega) (fun hb1 => ?_)
  refine eQ (p := ny14.length ≤ 9223372036854775807) (fun w hs => by have := dN hs hy7; simp only [eO] at this; omega) (fun hb3 => ?_)
  refine bV Tryz.func12 rfl Tryz.ntmps12 fI ?_
  apply aF; apply aA
  repeat' (first | (refine aE rfl rfl ?_; ((refine aY ?_)); refine aB ?_) | (refine bJ rfl rfl ?_; ((refine dX cW (fun b => ?_))); refine aB ?_))
  rename_i b2
  revert b
  intro b3
  apply aH; apply aD
  repeat' (first | (refine dK rfl ?_; refine aT rfl ?_; refine wM _ _ _ _ _ _ _ _ _ _ _ _ _ _ _ _ _ _ _ _ _ _ _ _ _ _ _ _ _ _ _ _ _ _ _ _ _ _ _ _ _ _ _ _ _ _ _ _ _ _ _ _ _ _ _ _ _ _ _ _ _ _ _ _ aX aX aX aX aX aX aX aX aX aX aX aX aX aX aX aX (fun r hr => ?_); cases r <;> refine aB ?_) | (refine dK rfl ?_; refine aT rfl ?_; refine vM _ _ _ _ _ _ aX aX (fun r hr => ?_); cases r <;> refine aB ?_) | (refine dK rfl ?_; refine aT rfl ?_; refine tD _ _ _ _ _ _ aX aX (fun r hr => ?_); cases r <;> refine aB ?_) | (refine dK rfl ?_; refine aT rfl ?_; refine wC _ _ _ _ _ _ aX aX (fun r hr => ?_); cases r <;> refine aB ?_) | (refine dK rfl ?_; refine aT rfl ?_; refine vP _ _ _ _ _ _ _ _ _ _ _ _ _ _ _ _ _ _ _ _ _ _ _ _ _ _ _ _ _ _ _ _ _ _ _ _ _ _ _ _ _ _ _ _ _ _ _ _ _ _ _ _ _ _ _ _ _ _ _ _ _ _ _ _ aX aX aX aX aX aX aX aX aX aX aX aX aX aX aX aX (fun r hr => ?_); cases r <;> refine aB ?_) | (apply aF) | (apply aA) | (apply aV) | (apply bP) | (apply bF) | (apply aK; exact rfl) | (apply aJ; exact rfl) | (apply aH) | (apply aD) | (apply bN) | (apply aP; exact rfl; ((first | refine aL (i := 0) rfl rfl rfl ?_ | refine aL (i := 1) rfl rfl rfl ?_)); refine aB ?_) | (apply aU; exact rfl; ((refine eD rfl rfl (fun h => ?_) (fun h => ?_))) <;> (refine aB ?_)) | (refine aE rfl rfl ?_; ((first | refine aG ?_ | refine aY ?_ | refine bX rfl eR ?_ | refine cH rfl eR ?_ | refine aC rfl ?_ | refine bS rfl ?_ | refine dJ rfl ?_)); refine aB ?_) | (refine cX rfl ?_; refine aB ?_))
  all_goals try exact aZ (.inl rfl) (dP rfl (bR rfl)) (cA H R dV (k false (fun e => by (first | exact absurd (hr (by cases e; rfl)) cQ | (cases e; exact absurd rfl (by assumption))))))
  have hl1 : nx14.length = ny14.length := by omega
  refine cM [4, 5, 6, 7, 51, 52, 53, 54, 55, 56, 57, 58, 59, 60, 61, 62, 63, 64, 65, 66, 67, 68, 69, 70, 71, 72, 73, 74, 75, 76, 77, 78, 79, 80, 81, 82, 83, 84, 85, 86, 87, 88, 89, 90, 91, 92, 93] (fun m j H' R' => H' = .blk b3 [.int .i64 ny0, .int .i64 ny1, .int .i64 ny2, .int .i64 ny3, .int .i64 ny4, .int .i64 ny5, .bool ny6, .slice Ay7 ny7.length cy7, .slice Ay8 ny8.length cy8, .slice Ay9 ny9.length cy9, .slice Ay10 ny10.length cy10, .slice Ay11 ny11.length cy11, .slice Ay12 ny12.length cy12, .slice Ay13 ny13.length cy13, .slice Ay14 ny14.length cy14, .int .i64 ny15] 32 :: .blk b2 [.int .i64 nx0, .int .i64 nx1, .int .i64 nx2, .int .i64 nx3, .int .i64 nx4, .int .i64 nx5, .bool nx6, .slice Ax7 nx7.length cx7, .slice Ax8 nx8.length cx8, .slice Ax9 nx9.length cx9, .slice Ax10 nx10.length cx10, .slice Ax11 nx11.length cx11, .slice Ax12 nx12.length cx12, .slice Ax13 nx13.length cx13, .slice Ax14 nx14.length cx14, .int .i64 nx15] 32 :: H ∧ (∀ p ∈ R, p ∈ R') ∧ ∃ i : Nat, i + m = nx14.length ∧ j 5 = .int .i64 (i : Int)) nx14.length eS ⟨rfl, fun _ h => h, 0, by omega, rfl⟩ ?_
  rintro m j H' R' ⟨hH, hR, i, hi, h5⟩
  subst hH
  have hn1 := hR _ hx7
  have hn2 := hR _ hy7
  refine dD (by simp only [eF, List.foldl_cons, List.foldl_nil, List.set_cons_succ, List.set_cons_zero, h5]; rfl) ?_
  rcases Nat.lt_or_ge i nx14.length with hlt | hge
  · obtain ⟨x, hx⟩ : ∃ x, nx14[i]? = some x := ⟨_, List.getElem?_eq_getElem hlt⟩
    obtain ⟨y, hy⟩ : ∃ y, ny14[i]? = some y := ⟨_, List.getElem?_eq_getElem aO⟩
    have hE : ((nx0, nx1, nx2, nx3, nx4, nx5, nx6, nx7, nx8, nx9, nx10, nx11, nx12, nx13, nx14, nx15) : jO) = ((ny0, ny1, ny2, ny3, ny4, ny5, ny6, ny7, ny8, ny9, ny10, ny11, ny12, ny13, ny14, ny15) : jO) → x = y := fun e => by
      cases e
      rw [hx] at hy
      injection hy
    obtain ⟨x0, x1, x2, x3, x4, x5, x6, x7, x8, x9, x10, x11, x12, x13, x14, x15, x16, x17⟩ := x
    obtain ⟨y0, y1, y2, y3, y4, y5, y6, y7, y8, y9, y10, y11, y12, y13, y14, y15, y16, y17⟩ := y
    repeat' (first | (apply gZ; exact rfl; ((first | refine sG (v := .slice Ax14 nx14.length cx14) (xs := nx14) rfl rfl aX hx rfl (fun b o A0_ c0_ A1_ c1_ A2_ c2_ A3_ c3_ => ?_) | refine sG (v := .slice Ay14 ny14.length cy14) (xs := ny14) rfl rfl aX hy rfl (fun b o A0_ c0_ A1_ c1_ A2_ c2_ A3_ c3_ => ?_))); refine aB ?_) | (refine dK rfl ?_; refine aT rfl ?_; refine vR _ _ _ _ _ _ _ _ _ _ _ _ _ _ _ _ _ _ _ _ _ _ _ _ _ _ _ _ _ _ _ _ _ _ _ _ _ _ _ _ _ _ _ _ _ _ _ _ _ _ _ _ aX aX aX aX aX aX aX aX (fun r hr => ?_); cases r <;> refine aB ?_) | (refine dK rfl ?_; refine aT rfl ?_; refine pS _ _ _ _ _ _ aX aX (fun r hr => ?_); cases r <;> refine aB ?_) | (apply aF) | (apply aA) | (apply aV) | (apply bP) | (apply bF) | (apply aK; exact rfl) | (apply aJ; exact rfl) | (apply aH) | (apply aD) | (apply bN) | (apply bU) | (apply dQ) | (apply aP; exact rfl; ((first | refine aL (i := 0) rfl rfl rfl ?_ | refine aL (i := 1) rfl rfl rfl ?_ | refine bD rfl cL rfl ?_)); refine aB ?_) | (apply aU; exact rfl; ((refine bM rfl rfl aO aO ?_)); refine aB ?_) | (apply aU; exact rfl; ((first | refine bQ rfl rfl (fun h => ?_) (fun h => ?_) | refine eD rfl rfl (fun h => ?_) (fun h => ?_))) <;> (first | (exfalso; omega) | refine aB ?_)) | (apply bE; exact rfl; ((refine aN (i := 0) rfl cW rfl dT dB eK ?_)); refine aB ?_; refine cE ?_) | (refine aE rfl rfl ?_; ((first | refine aG ?_ | refine aY ?_ | refine bX rfl eR ?_ | refine cH rfl eR ?_ | refine aC rfl ?_ | refine bS rfl ?_ | refine dJ rfl ?_)); refine aB ?_) | (refine cX rfl ?_; refine aB ?_) | (refine bJ rfl rfl ?_; ((refine bL cW (fun b => ?_))); refine aB ?_))
    all_goals (first | exact cJ (m - 1) _ R aO eS ⟨rfl, fun _ h => h, i + 1, by omega, rfl⟩ (fun w hs => hs.weaken eB (fun p hp => by have hp := hR p hp; repeat ((first | with_reducible exact hp | with_reducible apply List.mem_cons_of_mem)))) | exact aZ (.inl rfl) (dP rfl (bR rfl)) (cA H R (fun w hs => hs.weaken eB (fun p hp => by have hp := hR p hp; repeat ((first | with_reducible exact hp | with_reducible apply List.mem_cons_of_mem)))) (k false (fun e => by have e := hE e; (first | exact absurd (hr (by cases e; rfl)) cQ | (cases e; exact absurd rfl (by assumption)))))))
  · skip
    repeat' (first | (apply aF) | (apply aA) | (apply bP) | (apply cG) | (apply aJ; exact rfl) | (apply aH) | (apply aD) | (apply aW) | (apply aS) | (apply aP; exact rfl; ((refine aL (i := 1) rfl rfl rfl ?_)); refine aB ?_) | (apply aU; exact rfl; ((refine bQ rfl rfl (fun h => ?_) (fun h => ?_))) <;> (first | (exfalso; omega) | refine aB ?_)) | (refine aE rfl rfl ?_; ((first | refine aG ?_ | refine aY ?_ | refine aC rfl ?_ | refine bS rfl ?_)); refine aB ?_))
    exact aZ (.inl rfl) (dP rfl (bR rfl)) (cA H R (fun w hs => hs.weaken eB hR) (k true (fun _ => rfl)))
/-- Two states: where they are equal the answer is yes. -/
theorem same26_k {w0 : World} {H : List Hp} {R : List MP} {K : Value → List Hp → List MP → Prop} (x y : jO) (u v : Unp.Y jO) (hx : ∀ p ∈ Unp.fs x u, p ∈ R) (hy : ∀ p ∈ Unp.fs y v, p ∈ R)
    (k : ∀ r : Bool, (x = y → r = true) → K (.bool r) H R) : CallsK Tryz.prog w0 12 #[.agg (Unp.cs x u).toArray, .agg (Unp.cs y v).toArray] H R K := by
  obtain ⟨x0, x1, x2, x3, x4, x5, x6, x7, x8, x9, x10, x11, x12, x13, x14, x15⟩ := x
  obtain ⟨y0, y1, y2, y3, y4, y5, y6, y7, y8, y9, y10, y11, y12, y13, y14, y15⟩ := y
  obtain ⟨u0, u1, u2, u3, u4, u5, u6, ⟨A7, c7⟩, ⟨A8, c8⟩, ⟨A9, c9⟩, ⟨A10, c10⟩, ⟨A11, c11⟩, ⟨A12, c12⟩, ⟨A13, c13⟩, ⟨A14, c14⟩, u15⟩ := u
  obtain ⟨v0, v1, v2, v3, v4, v5, v6, ⟨B7, d7⟩, ⟨B8, d8⟩, ⟨B9, d9⟩, ⟨B10, d10⟩, ⟨B11, d11⟩, ⟨B12, d12⟩, ⟨B13, d13⟩, ⟨B14, d14⟩, v15⟩ := v
  have gx : ∀ p ∈ [Sl (.slice A7 x7.length c7) x7, Sl (.slice A8 x8.length c8) x8, Sl (.slice A9 x9.length c9) x9, Sl (.slice A10 x10.length c10) x10, Sl (.slice A11 x11.length c11) x11, Sl (.slice A12 x12.length c12) x12, Sl (.slice A13 x13.length c13) x13, Sl (.slice A14 x14.length c14) x14], p ∈ R := hx
  have gy : ∀ p ∈ [Sl (.slice B7 y7.length d7) y7, Sl (.slice B8 y8.length d8) y8, Sl (.slice B9 y9.length d9) y9, Sl (.slice B10 y10.length d10) y10, Sl (.slice B11 y11.length d11) y11, Sl (.slice B12 y12.length d12) y12, Sl (.slice B13 y13.length d13) y13, Sl (.slice B14 y14.length d14) y14], p ∈ R := hy
  exact yX x0 x1 x2 x3 x4 x5 x6 A7 c7 x7 A8 c8 x8 A9 c9 x9 A10 c10 x10 A11 c11 x11 A12 c12 x12 A13 c13 x13 A14 c14 x14 x15 y0 y1 y2 y3 y4 y5 y6 B7 d7 y7 B8 d8 y8 B9 d9 y9 B10 d10 y10 B11 d11 y11 B12 d12 y12 B13 d13 y13 B14 d14 y14 y15 (gx _ dB) (gx _ dB) (gx _ dB) (gx _ dB) (gx _ dB) (gx _ dB) (gx _ dB) (gx _ dB) (gy _ dB) (gy _ dB) (gy _ dB) (gy _ dB) (gy _ dB) (gy _ dB) (gy _ dB) (gy _ dB) k
end Go.Proofs.YtggdljhmbckpmaaGreat
namespace Go.Proofs.YtggdljhmbckpmaaGreat
open Go Go.RowKit
set_option maxRecDepth 100000
set_option maxHeartbeats 4000000

theorem wE {cs r : List Value} {sz : Nat} (h : cs.length = sz) : iM true sz (cs ++ r) 0 = some (.agg cs.toArray) := by
  subst h; simp [iM]
theorem xM {cs r : List Value} {n i : Nat} (h : cs.length = n) (hi : n ≤ i) : iM false 1 (cs ++ r) i = r[i - n]? := by
  subst h
  simp only [iM]
  rw [List.getElem?_append_right hi]
end Go.Proofs.YtggdljhmbckpmaaGreat
namespace Go.Proofs.YtggdljhmbckpmaaGreat
open Go Go.RowKit
set_option maxRecDepth 100000
set_option maxHeartbeats 1600000

section
variable {w0 : World} {E : List Value} {H : List Hp} {R : List MP} {ty : TypeId} {K : Value → List MP → Prop}
end
section
variable {P : Program} {w0 : World} {E : List Value} {H : List Hp} {R : List MP} {ty : TypeId} {K : Value → List MP → Prop}
/-- An element of the records that are returned. -/
theorem yE {t e : TypeId} {x ix : Operand} {agg : Bool} {by_ : Nat} {z0 : Value} [h : TyU P t (.slice e)] [he : Ty P e agg 4 by_ z0] {v : Value} {lR : List RecD} {l : List Rc} {k : IntKind} {z : Int} (i : Nat) {r : Rc} (hx : ev E x = v) (hix : ev E ix = .int k z) (hm : Sl v lR ∈ R) (hlR : lR = l.map Rc.toR) (hr : l[i]? = some r) (hz : z = (i : Int))
    (kk : ∀ b o, K (.pointer (some ⟨b, o, none⟩)) (At b o [.int .i64 (r.at_ : Int), .int .i64 (r.epoch : Int), .int .i64 (r.seq : Int), .int .i64 (r.data.length : Int)] :: R)) : PW P w0 E (.indexAddr t x ix) ty H R K := by
  subst hz
  exact rZ (d := r.toR) hx hix hm (by rw [hlR, List.getElem?_map, hr]; rfl) (fun b o _ => kk b o)
end
end Go.Proofs.YtggdljhmbckpmaaGreat
