/- Encode of the zero state: walk. -/
import Derived.Test.YtggdljhmbckpmaaE5
import Derived.Test.YtggdljhmbckpmaaE6
set_option linter.unusedVariables false
set_option linter.unusedSimpArgs false
namespace Go.Proofs.Ytggdljhmbckpmaa
open Go Go.RowKit
set_option maxRecDepth 100000
set_option maxHeartbeats 1600000

theorem CallsK_post {P : Program} {w0 : World} {f : FuncId} {args : Array Value} {H : List Hp} {R : List MP} {K K' : Value → List Hp → List MP → Prop} (h : CallsK P w0 f args H R K') (hk : ∀ v H' R', K' v H' R' → ∃ H2 R2, (∀ w, S w0 w H' R' → S w0 w H2 R2) ∧ K v H2 R2) : CallsK P w0 f args H R K := by
  unfold CallsK at *
  exact fun w hs => (h w hs).mono (fun e w' ⟨v, H', R', e1, hs', k⟩ => by
    obtain ⟨H2, R2, h1, h2⟩ := hk v H' R' k
    exact ⟨v, H2, R2, e1, h1 w' hs', h2⟩)
structure Dum (n : Nat) where
  x : Unit
instance (n : Nat) : Rep (Dum n) := ⟨n, fun _ _ _ => False, fun _ h => h, fun h => h.elim, fun h => h.elim⟩
instance (n : Nat) : Unp (Dum n) := ⟨Unit, fun _ _ => List.replicate n (.int .i64 0), fun _ _ => False, fun _ _ => [], fun h => h.elim, fun h _ => h.elim⟩
theorem dum_len (n : Nat) (x : Dum n) (y : Unp.Y (Dum n)) : (Unp.cs x y).length = n := List.length_replicate
theorem dum_one (n : Nat) (x : Dum n) (y : Unp.Y (Dum n)) : ∀ u ∈ Unp.cs x y, u.oneCell' = true := fun u hu => by
  obtain ⟨_, rfl⟩ := List.mem_replicate.1 hu
  rfl
def encZ : List UInt8 := [109, 97, 1, 0, 0, 0, 0, 0, 0, 0, 0, 0, 0, 0, 0, 0, 0, 0, 0]
theorem encode0_k {w0 : World} {H : List Hp} {R : List MP} {K : Value → List Hp → List MP → Prop} (k : KB K (encZ, 0) H R) : CallsK Try.prog w0 11 #[.agg #[.int .i64 0, .int .i64 0, .int .i64 0, .int .i64 0, .int .i64 0, .int .i64 0, .bool false, .slice none 0 0, .slice none 0 0, .slice none 0 0, .slice none 0 0, .slice none 0 0, .slice none 0 0, .slice none 0 0, .slice none 0 0, .int .i64 0]] H R K := by
  refine CallsK_learn (Sl (.slice none 0 0) ([] : List Int)) (fun s _ => Sl_nil Int s) ?_
  refine CallsK_learn (Sl (.slice none 0 0) ([] : List (Dum 5))) (fun s _ => Sl_nil _ s) ?_
  refine CallsK_learn (Sl (.slice none 0 0) ([] : List (Dum 7))) (fun s _ => Sl_nil _ s) ?_
  refine CallsK_learn (Sl (.slice none 0 0) ([] : List (Dum 8))) (fun s _ => Sl_nil _ s) ?_
  refine CallsK_learn (Sl (.slice none 0 0) ([] : List (Dum 9))) (fun s _ => Sl_nil _ s) ?_
  refine CallsK_learn (Sl (.slice none 0 0) ([] : List (Dum 18))) (fun s _ => Sl_nil _ s) ?_
  refine CallsK_post (K' := fun v H' R' => ∃ A c, v = .tuple #[.slice A encZ.length c, .int .i64 0] ∧ H' = H ∧ R' = Sl (.slice A encZ.length c) encZ :: _) (encode_k [.int .i64 0, .int .i64 0, .int .i64 0, .int .i64 0, .int .i64 0, .int .i64 0, .bool false, .slice none 0 0, .slice none 0 0, .slice none 0 0, .slice none 0 0, .slice none 0 0, .slice none 0 0, .slice none 0 0, .slice none 0 0, .int .i64 0] _
    (fun bw => state_w bw (αF := Dum 5) (αB := Dum 7) (αS := Dum 7) (αV := Dum 8) (αT := Dum 9) (αC := Dum 18) 0 0 0 0 0 0 0 false (by intro x hx; simp at hx; subst hx; simp [InI]) (by simp [InI]) none 0 [] (by simp) none 0 [] (by simp)
      rfl (dum_len 5) (dum_one 5) none 0 [] (by simp) (fun _ => []) (fun x hx => by cases hx)
      rfl (dum_len 7) (dum_one 7) none 0 [] (by simp) (fun _ => []) (fun x hx => by cases hx)
      rfl (dum_len 7) (dum_one 7) none 0 [] (by simp) (fun _ => []) (fun x hx => by cases hx)
      rfl (dum_len 8) (dum_one 8) none 0 [] (by simp) (fun _ => []) (fun x hx => by cases hx)
      rfl (dum_len 9) (dum_one 9) none 0 [] (by simp) (fun _ => []) (fun b2 x hx => by cases hx)
      rfl (dum_len 18) (dum_one 18) none 0 [] (by simp) (fun _ => []) (fun x hx => by cases hx)) rfl ?_ (fun A c => ⟨A, c, rfl, rfl, rfl⟩)) ?_
  · intro p hp
    simp only [List.mem_cons, List.not_mem_nil, or_false] at hp
    rcases hp with rfl | rfl | rfl | rfl | rfl | rfl | rfl | rfl <;> simp
  · rintro v H' R' ⟨A, c, rfl, rfl, rfl⟩
    exact ⟨H', Sl (.slice A encZ.length c) encZ :: R, fun w hs => hs.weaken sbp (sub_cons List.mem_cons_self (fun p hp => by simp [hp])), k A c⟩
end Go.Proofs.Ytggdljhmbckpmaa
