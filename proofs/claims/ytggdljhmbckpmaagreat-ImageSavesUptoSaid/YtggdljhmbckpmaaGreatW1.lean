/- Lists of numbers, of tries compared: walks. -/
import Derived.Test.YtggdljhmbckpmaaGreatN8J
import Derived.Test.YtggdljhmbckpmaaGreatX2J
import Derived.Test.YtggdljhmbckpmaaGreatH1J
import Derived.Laws.StructEq
set_option linter.unusedVariables false
set_option linter.unusedSimpArgs false
namespace Go.Proofs.YtggdljhmbckpmaaGreat
open Go Go.RowKit
set_option maxRecDepth 100000
set_option maxHeartbeats 3200000

section
variable {P : Program} {w0 : World} {E : List Value} {H : List Hp} {R : List MP} {ty : TypeId} {K : Value → List MP → Prop}
theorem qQ {t t' : TypeId} {x y : Operand} {a b : ByteArray} (hx : ev E x = .string a) (hy : ev E y = .string b) (kt : ¬ a = b → K (.bool true) R) (kf : a = b → K (.bool false) R) : PW P w0 E (.binOp .neq t x y t') ty H R K := by
  have hg : ∀ w : World, (eqGuard .neq t x y (.string a) (.string b)).run P w = .ok () w := fun w => by cases x <;> cases y <;> rfl
  have hl : ∀ s : ByteArray, s.toList = s.data.toList := fun s => by cases s; exact ByteArray.toList_mk _
  by_cases h : a = b
  · exact fS rfl (fun w _ => by
      rw [hx, hy]
      simp only [Sem.run_bind, hg, Result.andThen_ok, binOp_string_neq, Sem.run_pure]
      simp [h]) (kf h)
  · have hne : a.toList ≠ b.toList := fun e => h (by
      rw [hl, hl] at e
      cases a; cases b
      simpa using e)
    exact fS rfl (fun w _ => by
      rw [hx, hy]
      simp only [Sem.run_bind, hg, Result.andThen_ok, binOp_string_neq, Sem.run_pure]
      simp [hne]) (kt h)
theorem vU {t t' : TypeId} {x y : Operand} {a b : Bool} [ht : TyU P t .bool] (hx : ev E x = .bool a) (hy : ev E y = .bool b) (kt : ¬ a = b → K (.bool true) R) (kf : a = b → K (.bool false) R) : PW P w0 E (.binOp .neq t x y t') ty H R K := by
  have hg : ∀ w : World, (eqGuard .neq t x y (.bool a) (.bool b)).run P w = .ok () w := fun w => by cases x <;> cases y <;> rfl
  by_cases h : a = b
  · exact fS rfl (fun w _ => by
      rw [hx, hy]
      simp only [Sem.run_bind, hg, Result.andThen_ok, binOp]
      rw [show (Op.equal t (.bool a) (.bool b)).run P w = .ok (a == b) w from run_equalIn_bool' (P := P) w 9999 t a b ht.und]
      simp [h]) (kf h)
  · exact fS rfl (fun w _ => by
      rw [hx, hy]
      simp only [Sem.run_bind, hg, Result.andThen_ok, binOp]
      rw [show (Op.equal t (.bool a) (.bool b)).run P w = .ok (a == b) w from run_equalIn_bool' (P := P) w 9999 t a b ht.und]
      simp [h]) (kt h)
theorem vL {t t' : TypeId} {x y : Operand} {a b : Bool} [ht : TyU P t .bool] (hx : ev E x = .bool a) (hy : ev E y = .bool b) (kt : a = b → K (.bool true) R) (kf : ¬ a = b → K (.bool false) R) : PW P w0 E (.binOp .eql t x y t') ty H R K := by
  have hg : ∀ w : World, (eqGuard .eql t x y (.bool a) (.bool b)).run P w = .ok () w := fun w => by cases x <;> cases y <;> rfl
  by_cases h : a = b
  · exact fS rfl (fun w _ => by
      rw [hx, hy]
      simp only [Sem.run_bind, hg, Result.andThen_ok, binOp]
      rw [show (Op.equal t (.bool a) (.bool b)).run P w = .ok (a == b) w from run_equalIn_bool' (P := P) w 9999 t a b ht.und]
      simp [h]) (kt h)
  · exact fS rfl (fun w _ => by
      rw [hx, hy]
      simp only [Sem.run_bind, hg, Result.andThen_ok, binOp]
      rw [show (Op.equal t (.bool a) (.bool b)).run P w = .ok (a == b) w from run_equalIn_bool' (P := P) w 9999 t a b ht.und]
      simp [h]) (kf h)
end
section
variable {w0 : World} {E : List Value} {H : List Hp} {R : List MP} {ty : TypeId} {K : Value → List MP → Prop}
theorem k8 : (Tryz.prog.fieldsOf 207).toList.map (fun f => (decide (f.name = "_"), f.type, f.offset)) = [(false, 3, 0), (false, 3, 1), (false, 3, 2)] := by kernel_rfl
theorem nS (d : Nat) (xs ys : Array Value) : ∀ (fs : List Field) (l : List (Nat × Int × Int)), fs.map (fun f => (decide (f.name = "_"), f.type, f.offset)) = l.map (fun p => (false, 3, p.1)) → (∀ p ∈ l, xs[p.1]? = some (.int .i64 p.2.1) ∧ ys[p.1]? = some (.int .i64 p.2.2)) → ∀ w : World, (Op.eqFields (d + 1) xs ys fs).run Tryz.prog w = .ok (l.all fun p => p.2.1 == p.2.2) w
  | [], [], _, _, w => by simp [Op.eqFields]
  | [], p :: l, h, _, w => by simp at h
  | f :: fs, [], h, _, w => by simp at h
  | f :: fs, p :: l, h, hp, w => by
    simp only [List.map_cons, List.cons.injEq, Prod.mk.injEq, decide_eq_false_iff_not] at h
    obtain ⟨⟨h1, h2, h3⟩, h4⟩ := h
    obtain ⟨h5, h6⟩ := hp p dB
    have ih := nS d xs ys fs l h4 (fun q hq => hp q (by simp [hq])) w
    have hpart : ∀ (zs : Array Value) (v : Value), zs[p.1]? = some v → (part f.type zs f.offset).run Tryz.prog w = .ok v w := fun zs v hv => by
      rw [h2, h3]
      simp [part, (jV).agg, hv]
    unfold Op.eqFields
    rw [if_pos h1]
    simp only [Sem.run_bind, hpart _ _ h5, hpart _ _ h6, Result.andThen_ok]
    rw [h2, run_equalIn_int w d 3 .i64 .i64 p.2.1 p.2.2 (tu3).und]
    cases hb : p.2.1 == p.2.2 <;> simp [ih, hb]
theorem pw_neq3 {t' : TypeId} {x y : Operand} {a b c a' b' c' : Int} (hx : ev E x = .agg #[.int .i64 a, .int .i64 b, .int .i64 c]) (hy : ev E y = .agg #[.int .i64 a', .int .i64 b', .int .i64 c']) (kt : ¬ (a, b, c) = (a', b', c') → K (.bool true) R) (kf : (a, b, c) = (a', b', c') → K (.bool false) R) : PW Tryz.prog w0 E (.binOp .neq 207 x y t') ty H R K := by
  have key : ∀ w : World, (binOp .neq 207 (.agg #[.int .i64 a, .int .i64 b, .int .i64 c]) (.agg #[.int .i64 a', .int .i64 b', .int .i64 c'])).run Tryz.prog w = .ok (.bool (!([(0, a, a'), (1, b, b'), (2, c, c')] : List (Nat × Int × Int)).all fun p => p.2.1 == p.2.2)) w := fun w => by
    have he := nS 9998 #[.int .i64 a, .int .i64 b, .int .i64 c] #[.int .i64 a', .int .i64 b', .int .i64 c'] _ [(0, a, a'), (1, b, b'), (2, c, c')] k8 dB w
    have hs := run_equalIn_agg (P := Tryz.prog) w 9999 207 #[.int .i64 a, .int .i64 b, .int .i64 c] #[.int .i64 a', .int .i64 b', .int .i64 c'] (by kernel_rfl) (by kernel_rfl)
    rw [run_neq_struct, hs, he]; rfl
  have hg : ∀ w : World, (eqGuard .neq 207 x y (.agg #[.int .i64 a, .int .i64 b, .int .i64 c]) (.agg #[.int .i64 a', .int .i64 b', .int .i64 c'])).run Tryz.prog w = .ok () w := fun w => run_eqGuard_agg (P := Tryz.prog) w .neq 207 x y _ _ (by kernel_rfl)
  by_cases h : (a, b, c) = (a', b', c')
  · exact fS rfl (fun w _ => by
      rw [hx, hy]
      simp only [Sem.run_bind, hg, Result.andThen_ok, key]
      simp only [Prod.mk.injEq] at h
      simp [h.1, h.2.1, h.2.2]) (kf h)
  · exact fS rfl (fun w _ => by
      rw [hx, hy]
      simp only [Sem.run_bind, hg, Result.andThen_ok, key]
      simp only [Prod.mk.injEq] at h
      have hb : ((a == a') && ((b == b') && ((c == c') && true))) = false := by
        rw [Bool.eq_false_iff]
        intro hh
        simp only [Bool.and_eq_true, beq_iff_eq] at hh
        exact h ⟨hh.1, hh.2.1, hh.2.2.1⟩
      simp only [List.all_cons, List.all_nil, hb]
      rfl) (kt h)
end
theorem sE {P : Program} {w0 : World} {E : List Value} {H : List Hp} {R : List MP} {ty : TypeId} {K : Value → List MP → Prop} {t e : TypeId} {x ix : Operand} {agg : Bool} {sz by_ : Nat} {z : Value} [h : TyU P t (.slice e)] [he : Ty P e agg sz by_ z] {v : Value} {xs : List sQ} {k : IntKind} {i : Nat} {n0 : Int} {n1 : Int} {n2 : Int} (hx : ev E x = v) (hix : ev E ix = .int k (i : Int)) (hm : Sl v xs ∈ R) (hd : xs[i]? = some (n0, n1, n2)) (hsz : Rep.size sQ = sz)
    (kk : ∀ b o, K (.pointer (some ⟨b, o, none⟩)) (At b o [.int .i64 n0, .int .i64 n1, .int .i64 n2] :: R)) : PW P w0 E (.indexAddr t x ix) ty H R K :=
  dZ hx hix hm hsz (by simpa using hd) aO (fun b o y hy => by
    obtain ⟨u0, u1, u2⟩ := y
    exact kk b o )
theorem lI {P : Program} {w0 : World} {E : List Value} {H : List Hp} {R : List MP} {ty : TypeId} {K : Value → List MP → Prop} {t e : TypeId} {x ix : Operand} {agg : Bool} {sz by_ : Nat} {z : Value} [h : TyU P t (.slice e)] [he : Ty P e agg sz by_ z] {v : Value} {xs : List Tm} {k : IntKind} {i : Nat} {j0 k0 : Int} {m0 : ByteArray} {n0 : List Tm} (hx : ev E x = v) (hix : ev E ix = .int k (i : Int)) (hm : Sl v xs ∈ R) (hd : xs[i]? = some (.mk j0 k0 m0 n0)) (hsz : Rep.size Tm = sz)
    (kk : ∀ b o (A0 : Option Addr) (c0 : Nat), K (.pointer (some ⟨b, o, none⟩)) (At b o [.int .i64 j0, .int .i64 k0, .string m0, .slice A0 n0.length c0] :: Sl (.slice A0 n0.length c0) n0 :: R)) : PW P w0 E (.indexAddr t x ix) ty H R K :=
  dZ hx hix hm hsz (by simpa using hd) aO (fun b o y hy => by
    obtain ⟨A0, c0⟩ := y
    exact kk b o A0 c0)
theorem qW {P : Program} {w0 : World} {E : List Value} {H : List Hp} {R : List MP} {ty : TypeId} {K : Value → List MP → Prop} {t e : TypeId} {x ix : Operand} {agg : Bool} {sz by_ : Nat} {z : Value} [h : TyU P t (.slice e)] [he : Ty P e agg sz by_ z] {v : Value} {xs : List Tp} {k : IntKind} {i : Nat} {m0 : ByteArray} {n0 : List Tp} (hx : ev E x = v) (hix : ev E ix = .int k (i : Int)) (hm : Sl v xs ∈ R) (hd : xs[i]? = some (.mk m0 n0)) (hsz : Rep.size Tp = sz)
    (kk : ∀ b o (A0 : Option Addr) (c0 : Nat), K (.pointer (some ⟨b, o, none⟩)) (At b o [.string m0, .slice A0 n0.length c0] :: Sl (.slice A0 n0.length c0) n0 :: R)) : PW P w0 E (.indexAddr t x ix) ty H R K :=
  dZ hx hix hm hsz (by simpa using hd) aO (fun b o y hy => by
    obtain ⟨A0, c0⟩ := y
    exact kk b o A0 c0)
theorem sB {P : Program} {w0 : World} {E : List Value} {H : List Hp} {R : List MP} {ty : TypeId} {K : Value → List MP → Prop} {t e : TypeId} {x ix : Operand} {agg : Bool} {sz by_ : Nat} {z : Value} [h : TyU P t (.slice e)] [he : Ty P e agg sz by_ z] {v : Value} {xs : List pU} {k : IntKind} {i : Nat} {n0 : List Tm} {n1 : List Tm} {n2 : Int} {n3 : Int} {n4 : Int} (hx : ev E x = v) (hix : ev E ix = .int k (i : Int)) (hm : Sl v xs ∈ R) (hd : xs[i]? = some (n0, n1, n2, n3, n4)) (hsz : Rep.size pU = sz)
    (kk : ∀ b o (A0 : Option Addr) (c0 : Nat) (A1 : Option Addr) (c1 : Nat), K (.pointer (some ⟨b, o, none⟩)) (At b o [.slice A0 n0.length c0, .slice A1 n1.length c1, .int .i64 n2, .int .i64 n3, .int .i64 n4] :: Sl (.slice A0 n0.length c0) n0 :: Sl (.slice A1 n1.length c1) n1 :: R)) : PW P w0 E (.indexAddr t x ix) ty H R K :=
  dZ hx hix hm hsz (by simpa using hd) aO (fun b o y hy => by
    obtain ⟨⟨A0, c0⟩, ⟨A1, c1⟩, u2, u3, u4⟩ := y
    exact kk b o A0 c0 A1 c1)
theorem sL {P : Program} {w0 : World} {E : List Value} {H : List Hp} {R : List MP} {ty : TypeId} {K : Value → List MP → Prop} {t e : TypeId} {x ix : Operand} {agg : Bool} {sz by_ : Nat} {z : Value} [h : TyU P t (.slice e)] [he : Ty P e agg sz by_ z] {v : Value} {xs : List pP} {k : IntKind} {i : Nat} {n0 : Int} {n1 : Int} {n2 : List Int} {n3 : Bool} {n4 : List Int} {n5 : Bool} {n6 : Int} (hx : ev E x = v) (hix : ev E ix = .int k (i : Int)) (hm : Sl v xs ∈ R) (hd : xs[i]? = some (n0, n1, n2, n3, n4, n5, n6)) (hsz : Rep.size pP = sz)
    (kk : ∀ b o (A2 : Option Addr) (c2 : Nat) (A4 : Option Addr) (c4 : Nat), K (.pointer (some ⟨b, o, none⟩)) (At b o [.int .i64 n0, .int .i64 n1, .slice A2 n2.length c2, .bool n3, .slice A4 n4.length c4, .bool n5, .int .i64 n6] :: Sl (.slice A2 n2.length c2) n2 :: Sl (.slice A4 n4.length c4) n4 :: R)) : PW P w0 E (.indexAddr t x ix) ty H R K :=
  dZ hx hix hm hsz (by simpa using hd) aO (fun b o y hy => by
    obtain ⟨u0, u1, ⟨A2, c2⟩, u3, ⟨A4, c4⟩, u5, u6⟩ := y
    exact kk b o A2 c2 A4 c4)
theorem rY {P : Program} {w0 : World} {E : List Value} {H : List Hp} {R : List MP} {ty : TypeId} {K : Value → List MP → Prop} {t e : TypeId} {x ix : Operand} {agg : Bool} {sz by_ : Nat} {z : Value} [h : TyU P t (.slice e)] [he : Ty P e agg sz by_ z] {v : Value} {xs : List pR} {k : IntKind} {i : Nat} {n0 : Int} {n1 : Int} {n2 : Int} {n3 : Int} {n4 : List Tm} {n5 : ByteArray} {n6 : List Tm} (hx : ev E x = v) (hix : ev E ix = .int k (i : Int)) (hm : Sl v xs ∈ R) (hd : xs[i]? = some (n0, n1, n2, n3, n4, n5, n6)) (hsz : Rep.size pR = sz)
    (kk : ∀ b o (A4 : Option Addr) (c4 : Nat) (A6 : Option Addr) (c6 : Nat), K (.pointer (some ⟨b, o, none⟩)) (At b o [.int .i64 n0, .int .i64 n1, .int .i64 n2, .int .i64 n3, .slice A4 n4.length c4, .string n5, .slice A6 n6.length c6] :: Sl (.slice A4 n4.length c4) n4 :: Sl (.slice A6 n6.length c6) n6 :: R)) : PW P w0 E (.indexAddr t x ix) ty H R K :=
  dZ hx hix hm hsz (by simpa using hd) aO (fun b o y hy => by
    obtain ⟨u0, u1, u2, u3, ⟨A4, c4⟩, u5, ⟨A6, c6⟩⟩ := y
    exact kk b o A4 c4 A6 c6)
theorem sA {P : Program} {w0 : World} {E : List Value} {H : List Hp} {R : List MP} {ty : TypeId} {K : Value → List MP → Prop} {t e : TypeId} {x ix : Operand} {agg : Bool} {sz by_ : Nat} {z : Value} [h : TyU P t (.slice e)] [he : Ty P e agg sz by_ z] {v : Value} {xs : List mU} {k : IntKind} {i : Nat} {n0 : Int} {m1 : ByteArray} {n1 : List Tp} {n2 : Bool} {j3 k3 : Int} {m3 : ByteArray} {n3 : List Tm} (hx : ev E x = v) (hix : ev E ix = .int k (i : Int)) (hm : Sl v xs ∈ R) (hd : xs[i]? = some (n0, .mk m1 n1, n2, .mk j3 k3 m3 n3)) (hsz : Rep.size mU = sz)
    (kk : ∀ b o (A1 : Option Addr) (c1 : Nat) (A3 : Option Addr) (c3 : Nat), K (.pointer (some ⟨b, o, none⟩)) (At b o [.int .i64 n0, .string m1, .slice A1 n1.length c1, .bool n2, .int .i64 j3, .int .i64 k3, .string m3, .slice A3 n3.length c3] :: Sl (.slice A1 n1.length c1) n1 :: Sl (.slice A3 n3.length c3) n3 :: R)) : PW P w0 E (.indexAddr t x ix) ty H R K :=
  dZ hx hix hm hsz (by simpa using hd) aO (fun b o y hy => by
    obtain ⟨u0, ⟨A1, c1⟩, u2, ⟨A3, c3⟩⟩ := y
    exact kk b o A1 c1 A3 c3)
theorem mF {P : Program} {w0 : World} {E : List Value} {H : List Hp} {R : List MP} {ty : TypeId} {K : Value → List MP → Prop} {t e : TypeId} {x ix : Operand} {agg : Bool} {sz by_ : Nat} {z : Value} [h : TyU P t (.slice e)] [he : Ty P e agg sz by_ z] {v : Value} {xs : List nJ} {k : IntKind} {i : Nat} {n0 : Int} {n1 : Int} {m2 : ByteArray} {n2 : List Tp} {n3 : Bool} {j4 k4 : Int} {m4 : ByteArray} {n4 : List Tm} (hx : ev E x = v) (hix : ev E ix = .int k (i : Int)) (hm : Sl v xs ∈ R) (hd : xs[i]? = some (n0, n1, .mk m2 n2, n3, .mk j4 k4 m4 n4)) (hsz : Rep.size nJ = sz)
    (kk : ∀ b o (A2 : Option Addr) (c2 : Nat) (A4 : Option Addr) (c4 : Nat), K (.pointer (some ⟨b, o, none⟩)) (At b o [.int .i64 n0, .int .i64 n1, .string m2, .slice A2 n2.length c2, .bool n3, .int .i64 j4, .int .i64 k4, .string m4, .slice A4 n4.length c4] :: Sl (.slice A2 n2.length c2) n2 :: Sl (.slice A4 n4.length c4) n4 :: R)) : PW P w0 E (.indexAddr t x ix) ty H R K :=
  dZ hx hix hm hsz (by simpa using hd) aO (fun b o y hy => by
    obtain ⟨u0, u1, ⟨A2, c2⟩, u3, ⟨A4, c4⟩⟩ := y
    exact kk b o A2 c2 A4 c4)
theorem sG {P : Program} {w0 : World} {E : List Value} {H : List Hp} {R : List MP} {ty : TypeId} {K : Value → List MP → Prop} {t e : TypeId} {x ix : Operand} {agg : Bool} {sz by_ : Nat} {z : Value} [h : TyU P t (.slice e)] [he : Ty P e agg sz by_ z] {v : Value} {xs : List pL} {k : IntKind} {i : Nat} {n0 : Int} {n1 : List sQ} {n2 : List Tm} {n3 : Int} {n4 : Int} {n5 : Int} {n6 : Int} {n7 : Int} {n8 : Int} {n9 : Int} {n10 : Bool} {n11 : List Int} {n12 : List Int} {n13 : Int} {n14 : Int} {n15 : Int} {n16 : Int} {n17 : Int} (hx : ev E x = v) (hix : ev E ix = .int k (i : Int)) (hm : Sl v xs ∈ R) (hd : xs[i]? = some (n0, n1, n2, n3, n4, n5, n6, n7, n8, n9, n10, n11, n12, n13, n14, n15, n16, n17)) (hsz : Rep.size pL = sz)
    (kk : ∀ b o (A1 : Option Addr) (c1 : Nat) (A2 : Option Addr) (c2 : Nat) (A11 : Option Addr) (c11 : Nat) (A12 : Option Addr) (c12 : Nat), K (.pointer (some ⟨b, o, none⟩)) (At b o [.int .i64 n0, .slice A1 n1.length c1, .slice A2 n2.length c2, .int .i64 n3, .int .i64 n4, .int .i64 n5, .int .i64 n6, .int .i64 n7, .int .i64 n8, .int .i64 n9, .bool n10, .slice A11 n11.length c11, .slice A12 n12.length c12, .int .i64 n13, .int .i64 n14, .int .i64 n15, .int .i64 n16, .int .i64 n17] :: Sl (.slice A1 n1.length c1) n1 :: Sl (.slice A2 n2.length c2) n2 :: Sl (.slice A11 n11.length c11) n11 :: Sl (.slice A12 n12.length c12) n12 :: R)) : PW P w0 E (.indexAddr t x ix) ty H R K :=
  dZ hx hix hm hsz (by simpa using hd) aO (fun b o y hy => by
    obtain ⟨u0, ⟨A1, c1⟩, ⟨A2, c2⟩, u3, u4, u5, u6, u7, u8, u9, u10, ⟨A11, c11⟩, ⟨A12, c12⟩, u13, u14, u15, u16, u17⟩ := y
    exact kk b o A1 c1 A2 c2 A11 c11 A12 c12)
theorem pQ {w0 : World} {H : List Hp} {R : List MP} {K : Value → List Hp → List MP → Prop} (A1 : Option Addr) (c1 : Nat) (A2 : Option Addr) (c2 : Nat) (l1 l2 : List Int) (hml1 : Sl (.slice A1 l1.length c1) l1 ∈ R) (hml2 : Sl (.slice A2 l2.length c2) l2 ∈ R)
    (k : ∀ r : Bool, (l1 = l2 → r = true) → K (.bool r) H R) : CallsK Tryz.prog w0 108 #[.slice A1 l1.length c1, .slice A2 l2.length c2] H R K := by
  refine eQ (p := l1.length ≤ 9223372036854775807) (fun w hs => by have := dN hs hml1; simp only [eO] at this; omega) (fun hbl1 => ?_)
  refine eQ (p := l2.length ≤ 9223372036854775807) (fun w hs => by have := dN hs hml2; simp only [eO] at this; omega) (fun hbl2 => ?_)
  refine bV Tryz.func108 rfl Tryz.ntmps108 fI ?_
  repeat' (first | (apply aF) | (apply aA) | (apply aV) | (apply bP) | (apply bF) | (apply aK; exact rfl) | (apply aJ; exact rfl) | (apply aH) | (apply aD) | (apply bN) | (apply aU; exact rfl; ((refine eD rfl rfl (fun h => ?_) (fun h => ?_))) <;> (refine aB ?_)) | (refine aE rfl rfl ?_; ((first | refine aG ?_ | refine aY ?_ | refine bS rfl ?_)); refine aB ?_))
  · exact aZ (.inl rfl) (dP rfl (bR rfl)) (cA H R dV (k false (fun e => by subst e; exact absurd rfl (by assumption))))
  have hll : l1.length = l2.length := by omega
  refine cM [4, 5, 11, 12, 13, 14, 15, 16, 17, 18, 19, 20, 21, 22, 23, 24, 25] (fun m j H' R' => H' = H ∧ (∀ p ∈ R, p ∈ R') ∧ ∃ i : Nat, i + m = l1.length ∧ j 5 = .int .i64 (i : Int)) l1.length eS ⟨rfl, fun _ h => h, 0, by omega, rfl⟩ ?_
  rintro m j H' R' ⟨hH, hR, i, hi, h5⟩
  subst hH
  have hn1 := hR _ hml1
  have hn2 := hR _ hml2
  refine dD (by simp only [eF, List.foldl_cons, List.foldl_nil, List.set_cons_succ, List.set_cons_zero, h5]; rfl) ?_
  rcases Nat.lt_or_ge i l1.length with hlt | hge
  · obtain ⟨x, hx⟩ : ∃ x, l1[i]? = some x := ⟨_, List.getElem?_eq_getElem hlt⟩
    obtain ⟨y, hy⟩ : ∃ y, l2[i]? = some y := ⟨_, List.getElem?_eq_getElem aO⟩
    have hE : l1 = l2 → x = y := fun e => by
      subst e
      rw [hx] at hy
      injection hy
    repeat' (first | (apply aF) | (apply aA) | (apply aV) | (apply bF) | (apply aK; exact rfl) | (apply aH) | (apply aD) | (apply aU; exact rfl; ((refine bQ rfl rfl (fun h => ?_) (fun h => ?_))) <;> (first | (exfalso; omega) | refine aB ?_)) | (refine aE rfl rfl ?_; ((first | refine aG ?_ | refine bS rfl ?_)); refine aB ?_))
    refine eC fK jN (fun _ _ _ _ _ _ h => h) (List.Sublist.refl _) ?_
    all_goals ((refine bG 0 ?_; ((refine aG ?_)); refine aI ?_))
    all_goals ((refine bG 1 ?_; ((refine aG ?_)); refine aI ?_))
    all_goals ((refine bG 2 ?_; ((refine iP (v := .slice A1 l1.length c1) (xs := l1) rfl rfl aX hx (fun b o hI => ?_))); refine aI ?_))
    all_goals ((refine bG 3 ?_; ((refine bD rfl cL rfl ?_)); refine aI ?_))
    all_goals ((refine bG 4 ?_; ((refine aG ?_)); refine aI ?_))
    all_goals ((refine bG 5 ?_; ((refine aG ?_)); refine aI ?_))
    all_goals ((refine bG 6 ?_; ((refine iP (v := .slice A2 l2.length c2) (xs := l2) rfl rfl aX hy (fun b o hI => ?_))); refine aI ?_))
    all_goals ((refine bG 7 ?_; ((refine bD rfl cL rfl ?_)); refine aI ?_))
    all_goals ((refine bG 8 ?_; ((refine eD rfl rfl (fun h => ?_) (fun h => ?_))) <;> (refine aI ?_)))
    all_goals refine iC ?_
    · skip
      repeat' (first | (apply aF) | (apply aA) | (apply bP) | (apply aK; exact rfl) | (apply aH) | (apply aD) | (apply bN) | (apply dQ) | (refine aE rfl rfl ?_; ((refine aY ?_)); refine aB ?_))
      exact aZ (.inl rfl) (dP rfl (bR rfl)) (cA H' R (fun w hs => hs.weaken eB (fun p hp => by (exact List.mem_cons_of_mem _ (List.mem_cons_of_mem _ (hR p hp))))) (k false (fun e => absurd (hE e) (by assumption))))
    · skip
      repeat' (first | (apply aA) | (apply bF) | (apply aJ; exact rfl) | (apply aH) | (apply aD) | (apply bU) | (apply aU; exact rfl; ((refine bM rfl rfl aO aO ?_)); refine aB ?_) | (refine aE rfl rfl ?_; ((first | refine aG ?_ | refine aY ?_)); refine aB ?_))
      exact cJ (m - 1) _ R aO eS ⟨rfl, fun _ h => h, i + 1, by omega, rfl⟩ (fun w hs => hs.weaken eB (fun p hp => by (exact List.mem_cons_of_mem _ (List.mem_cons_of_mem _ (hR p hp)))))
  · skip
    repeat' (first | (apply aF) | (apply aA) | (apply bP) | (apply cG) | (apply aJ; exact rfl) | (apply aH) | (apply aD) | (apply aW) | (apply aS) | (apply aU; exact rfl; ((refine bQ rfl rfl (fun h => ?_) (fun h => ?_))) <;> (first | (exfalso; omega) | refine aB ?_)) | (refine aE rfl rfl ?_; ((first | refine aG ?_ | refine aY ?_ | refine bS rfl ?_)); refine aB ?_))
    exact aZ (.inl rfl) (dP rfl (bR rfl)) (cA H' R (fun w hs => hs.weaken eB hR) (k true (fun _ => rfl)))
theorem xL {w0 : World} {H : List Hp} {R : List MP} {K : Value → List Hp → List MP → Prop} (A1 : Option Addr) (c1 : Nat) (A2 : Option Addr) (c2 : Nat) (l1 l2 : List sQ) (hml1 : Sl (.slice A1 l1.length c1) l1 ∈ R) (hml2 : Sl (.slice A2 l2.length c2) l2 ∈ R)
    (k : ∀ r : Bool, (l1 = l2 → r = true) → K (.bool r) H R) : CallsK Tryz.prog w0 110 #[.slice A1 l1.length c1, .slice A2 l2.length c2] H R K := by
  refine eQ (p := l1.length ≤ 9223372036854775807) (fun w hs => by have := dN hs hml1; simp only [eO] at this; omega) (fun hbl1 => ?_)
  refine eQ (p := l2.length ≤ 9223372036854775807) (fun w hs => by have := dN hs hml2; simp only [eO] at this; omega) (fun hbl2 => ?_)
  refine bV Tryz.func110 rfl Tryz.ntmps110 fI ?_
  repeat' (first | (apply aF) | (apply aA) | (apply aV) | (apply bP) | (apply bF) | (apply aK; exact rfl) | (apply aJ; exact rfl) | (apply aH) | (apply aD) | (apply bN) | (apply aU; exact rfl; ((refine eD rfl rfl (fun h => ?_) (fun h => ?_))) <;> (refine aB ?_)) | (refine aE rfl rfl ?_; ((first | refine aG ?_ | refine aY ?_ | refine bS rfl ?_)); refine aB ?_))
  · exact aZ (.inl rfl) (dP rfl (bR rfl)) (cA H R dV (k false (fun e => by subst e; exact absurd rfl (by assumption))))
  have hll : l1.length = l2.length := by omega
  refine cM [4, 5, 11, 12, 13, 14, 15, 16, 17, 18, 19, 20, 21, 22, 23, 24, 25] (fun m j H' R' => H' = H ∧ (∀ p ∈ R, p ∈ R') ∧ ∃ i : Nat, i + m = l1.length ∧ j 5 = .int .i64 (i : Int)) l1.length eS ⟨rfl, fun _ h => h, 0, by omega, rfl⟩ ?_
  rintro m j H' R' ⟨hH, hR, i, hi, h5⟩
  subst hH
  have hn1 := hR _ hml1
  have hn2 := hR _ hml2
  refine dD (by simp only [eF, List.foldl_cons, List.foldl_nil, List.set_cons_succ, List.set_cons_zero, h5]; rfl) ?_
  rcases Nat.lt_or_ge i l1.length with hlt | hge
  · obtain ⟨x, hx⟩ : ∃ x, l1[i]? = some x := ⟨_, List.getElem?_eq_getElem hlt⟩
    obtain ⟨y, hy⟩ : ∃ y, l2[i]? = some y := ⟨_, List.getElem?_eq_getElem aO⟩
    have hE : l1 = l2 → x = y := fun e => by
      subst e
      rw [hx] at hy
      injection hy
    repeat' (first | (apply aF) | (apply aA) | (apply aV) | (apply bF) | (apply aK; exact rfl) | (apply aH) | (apply aD) | (apply aU; exact rfl; ((refine bQ rfl rfl (fun h => ?_) (fun h => ?_))) <;> (first | (exfalso; omega) | refine aB ?_)) | (refine aE rfl rfl ?_; ((first | refine aG ?_ | refine bS rfl ?_)); refine aB ?_))
    obtain ⟨x1, x2, x3⟩ := x
    obtain ⟨y1, y2, y3⟩ := y
    refine eC fK jN (fun _ _ _ _ _ _ h => h) (List.Sublist.refl _) ?_
    all_goals ((refine bG 0 ?_; ((refine aG ?_)); refine aI ?_))
    all_goals ((refine bG 1 ?_; ((refine aG ?_)); refine aI ?_))
    all_goals ((refine bG 2 ?_; ((refine sE (v := .slice A1 l1.length c1) (xs := l1) rfl rfl aX hx rfl (fun b o => ?_))); refine aI ?_))
    all_goals ((refine bG 3 ?_; ((refine bD rfl cL rfl ?_)); refine aI ?_))
    all_goals ((refine bG 4 ?_; ((refine aG ?_)); refine aI ?_))
    all_goals ((refine bG 5 ?_; ((refine aG ?_)); refine aI ?_))
    all_goals ((refine bG 6 ?_; ((refine sE (v := .slice A2 l2.length c2) (xs := l2) rfl rfl aX hy rfl (fun b o => ?_))); refine aI ?_))
    all_goals ((refine bG 7 ?_; ((refine bD rfl cL rfl ?_)); refine aI ?_))
    all_goals ((refine bG 8 ?_; (((refine pw_neq3 rfl rfl (fun h => ?_) (fun h => ?_)) <;> skip)); refine aI ?_))
    all_goals refine iC ?_
    · skip
      repeat' (first | (apply aF) | (apply aA) | (apply bP) | (apply aK; exact rfl) | (apply aH) | (apply aD) | (apply bN) | (apply dQ) | (refine aE rfl rfl ?_; ((refine aY ?_)); refine aB ?_))
      exact aZ (.inl rfl) (dP rfl (bR rfl)) (cA H' R (fun w hs => hs.weaken eB (fun p hp => by (exact List.mem_cons_of_mem _ (List.mem_cons_of_mem _ (hR p hp))))) (k false (fun e => absurd (hE e) (by assumption))))
    · skip
      repeat' (first | (apply aA) | (apply bF) | (apply aJ; exact rfl) | (apply aH) | (apply aD) | (apply bU) | (apply aU; exact rfl; ((refine bM rfl rfl aO aO ?_)); refine aB ?_) | (refine aE rfl rfl ?_; ((first | refine aG ?_ | refine aY ?_)); refine aB ?_))
      exact cJ (m - 1) _ R aO eS ⟨rfl, fun _ h => h, i + 1, by omega, rfl⟩ (fun w hs => hs.weaken eB (fun p hp => by (exact List.mem_cons_of_mem _ (List.mem_cons_of_mem _ (hR p hp)))))
  · skip
    repeat' (first | (apply aF) | (apply aA) | (apply bP) | (apply cG) | (apply aJ; exact rfl) | (apply aH) | (apply aD) | (apply aW) | (apply aS) | (apply aU; exact rfl; ((refine bQ rfl rfl (fun h => ?_) (fun h => ?_))) <;> (first | (exfalso; omega) | refine aB ?_)) | (refine aE rfl rfl ?_; ((first | refine aG ?_ | refine aY ?_ | refine bS rfl ?_)); refine aB ?_))
    exact aZ (.inl rfl) (dP rfl (bR rfl)) (cA H' R (fun w hs => hs.weaken eB hR) (k true (fun _ => rfl)))
end Go.Proofs.YtggdljhmbckpmaaGreat
