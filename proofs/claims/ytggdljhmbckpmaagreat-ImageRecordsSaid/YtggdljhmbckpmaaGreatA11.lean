/- More rules for operations: the greatest of three, remainders of natural numbers. -/
import Derived.Test.YtggdljhmbckpmaaGreatA10
import Derived.Laws.Cover1
set_option linter.unusedVariables false
set_option linter.unusedSimpArgs false
namespace Go.Proofs.YtggdljhmbckpmaaGreat
open Go Go.RowKit
attribute [local semireducible] T TC En PW GW CallsK CallsP Sl Rd Ls At S TA
section
variable {P : Program} {w0 : World} {E : List Value} {H : List Hp} {R : List MP} {ty : TypeId} {K : Value → List MP → Prop}
/-- The amount of a number; of the least one 0. -/
def amt (p : Int) : Nat := if p = -9223372036854775808 then 0 else p.natAbs
theorem amt_le {p : Int} (h : InI p) : (amt p : Int) ≤ 9223372036854775807 := by
  unfold InI at h; unfold amt; split <;> omega
theorem pw_amt {ts : Array TypeId} {x y z : Operand} {p : Int} (hI : InI p) (hx : ev E x = .int .i64 p) (hy : ev E y = .int .i64 (IntKind.i64.wrap (0 - p))) (hz : ev E z = .int .i64 0) (kk : K (.int .i64 ((amt p : Nat) : Int)) R) : PW P w0 E (.call ⟨.builtin .max, #[x, y, z], ts⟩) ty H R K :=
  fun w s hs => ⟨_, R, fun w' _ => by
    have e : (if (0 : Int) > (if IntKind.i64.wrap (0 - p) > p then IntKind.i64.wrap (0 - p) else p) then 0 else (if IntKind.i64.wrap (0 - p) > p then IntKind.i64.wrap (0 - p) else p)) = (amt p : Int) := by
      unfold InI at hI
      unfold amt
      by_cases h : p = -9223372036854775808
      · subst h; decide
      · rw [wrap_id (k := .i64) (by simp [IntKind.min, IntKind.signed, IntKind.bits]; omega) (by simp [IntKind.max, IntKind.signed, IntKind.bits]; omega), if_neg h]
        split <;> split <;> omega
    simp only [xop, execOp, resolve, invoke, builtin, List.map_toArray, List.map_cons, List.map_nil, hx, hy, hz, Sem.run_bind, Sem.run_pure, Result.andThen_ok, run_max_int3, e], fun _ h => h, hs.rd, kk⟩
theorem pw_remN {t t' : TypeId} {x y : Operand} {a m : Nat} (hx : ev E x = .int .i64 (a : Int)) (hy : ev E y = .int .i64 (m : Int)) (hm : 0 < m) (kk : ∀ r : Nat, Hid (r = a % m) → r < m → K (.int .i64 (r : Int)) R) : PW P w0 E (.binOp .rem t x y t') ty H R K :=
  pw_rem hx hy (by omega) (by omega) (by
    have := kk (a % m) (Lib.hid rfl) (Nat.mod_lt _ hm)
    rw [Int.natCast_emod] at this; exact this)
end
end Go.Proofs.YtggdljhmbckpmaaGreat
