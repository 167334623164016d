/- The examples' values; done: walk. -/
import Derived.Test.YtggdljhmbckpmaaE7J
import Derived.Test.YtggdljhmbckpmaaM4J
import Derived.Test.YtggdljhmbckpmaaF6
import Derived.Test.YtggdljhmbckpmaaF7J
import Derived.Test.YtggdljhmbckpmaaF14
import Derived.KernelRfl
set_option linter.unusedVariables false
set_option linter.unusedSimpArgs false
namespace Go.Proofs.Ytggdljhmbckpmaa
open Go Go.RowKit
set_option maxRecDepth 100000
set_option maxHeartbeats 1600000

theorem KB_lit {K : Value → List Hp → List MP → Prop} {H : List Hp} {R : List MP} {n : Nat} {r : List UInt8 × Int} (xs : List UInt8) (e : Int) (hr : r = (xs, e)) (hn : xs.length = n) (k : ∀ A c, K (.tuple #[.slice A n c, .int .i64 e]) H (Sl (.slice A n c) xs :: R)) : KB K r H R := by subst hr; subst hn; exact k
theorem KR_lit {K : Value → List Hp → List MP → Prop} {H : List Hp} {R : List MP} {n : Nat} {r : List RecD × Int} (xs : List RecD) (e : Int) (hr : r = (xs, e)) (hn : xs.length = n) (k : ∀ A c, K (.tuple #[.slice A n c, .int .i64 e]) H (Sl (.slice A n c) xs :: R)) : KR K r H R := by subst hr; subst hn; exact k
theorem KO_lit {K : Value → List Hp → List MP → Prop} {H : List Hp} {R : List MP} {n : Nat} {r : List DO × Int} (xs : List DO) (e : Int) (hr : r = (xs, e)) (hn : xs.length = n) (k : ∀ A c, K (.tuple #[.slice A n c, .int .i64 e]) H (Sl (.slice A n c) xs :: R)) : KO K r H R := by subst hr; subst hn; exact k
theorem KD_lit {K : Value → List Hp → List MP → Prop} {H : List Hp} {R : List MP} {r : Drive × Int} (d : Drive) (e : Int) (hr : r = (d, e)) (k : ∀ A c A2 c2, K (.tuple #[dv A c A2 c2 d, .int .i64 e]) H (dvR A c A2 c2 d R)) : KD K r H R := by subst hr; exact k

def exD : Drive := ⟨[], []⟩
def exD0 : Drive := ⟨List.replicate 64 0, []⟩
def exR1 : List UInt8 := [1, 0, 0, 0, 0, 0, 0, 0, 1, 0, 0, 0, 149, 49, 220, 94, 7, 102, 88, 12, 2, 0]
def exR2 : List UInt8 := [2, 0, 0, 0, 0, 0, 0, 0, 3, 0, 0, 0, 228, 133, 208, 152, 1, 2, 3, 171, 55, 207, 86, 0]
def exO1 : List DO := [⟨1, 0, [0]⟩, ⟨2, 0, []⟩, ⟨1, 1, exR1⟩, ⟨2, 0, []⟩, ⟨1, 0, [167]⟩, ⟨2, 0, []⟩]
def exD1 : Drive := (doD exD0 exO1).1
def exO2 : List DO := [⟨1, 32, [0]⟩, ⟨2, 0, []⟩, ⟨1, 33, exR2⟩, ⟨2, 0, []⟩, ⟨1, 32, [167]⟩, ⟨2, 0, []⟩]
def exD2 : Drive := (doD exD1 (exO2.take 5)).1
def exX : Drive := (crashD exD2 [0]).1
def exY : Drive := (crashD exD2 [1]).1
theorem ex_new63 : newD 63 = (exD, 1) := by kernel_rfl
theorem ex_new64 : newD 64 = (exD0, 0) := by kernel_rfl
theorem ex_rec : recordsD exD0 = ([], 0) := by kernel_rfl
theorem ex_app1 : appendD exD0 [7] = (exO1, 0) := by kernel_rfl
theorem ex_app2 : appendD exD1 [1, 2, 3] = (exO2, 0) := by kernel_rfl
theorem ex_crash0 : crashD exD2 [0] = (exX, 0) := by kernel_rfl
theorem ex_crash1 : crashD exD2 [1] = (exY, 0) := by kernel_rfl
theorem ex_last0 : lastD exX = ([7], 0) := by kernel_rfl
theorem ex_last1 : lastD exY = ([1, 2, 3], 0) := by kernel_rfl
theorem ex_len0 : exD0.bytes.length = 64 ∧ exD0.pending.length = 0 := ⟨by kernel_rfl, by kernel_rfl⟩
theorem ex_len1 : exD1.bytes.length = 64 ∧ exD1.pending.length = 0 := ⟨by kernel_rfl, by kernel_rfl⟩
theorem ex_len2 : exD2.bytes.length = 64 ∧ exD2.pending.length = 1 := ⟨by kernel_rfl, by kernel_rfl⟩
theorem ex_lenX : exX.bytes.length = 64 ∧ exX.pending.length = 0 := ⟨by kernel_rfl, by kernel_rfl⟩
theorem ex_lenY : exY.bytes.length = 64 ∧ exY.pending.length = 0 := ⟨by kernel_rfl, by kernel_rfl⟩

/-- A drive alone is returned, for good. -/
def KD1 (K : Value → List Hp → List MP → Prop) (d : Drive) (H : List Hp) (R : List MP) : Prop := ∀ A c A2 c2, K (dv A c A2 c2 d) H (dvR A c A2 c2 d R)
theorem done_k {w0 : World} {H : List Hp} {R : List MP} {K : Value → List Hp → List MP → Prop} (A0 : Option Addr) (c0 : Nat) (A2 : Option Addr) (c2 : Nat) (A3 : Option Addr) (m c3 : Nat) (d : Drive) (l : List DO) (hml : m = l.length) (hb : d.bytes.length ≤ 9223372036854775807) (hp : d.pending.length ≤ 9223372036854775807) (hll : l.length ≤ 9223372036854775807)
    (hm : Sl (.slice A0 d.bytes.length c0) d.bytes ∈ R) (hm2 : Sl (.slice A2 d.pending.length c2) d.pending ∈ R) (hm3 : Sl (.slice A3 m c3) l ∈ R)
    (k : KD1 K (doD d l).1 H R) : CallsK Try.prog w0 17 #[dv A0 c0 A2 c2 d, .slice A3 m c3] H R K := by
  subst hml
  refine calls_of Try.func17 rfl Try.ntmps17 nep ?_
  repeat' (first | (refine T_ow rfl ?_; refine ow_callf arp ?_; refine do_k _ _ _ _ _ _ d l hb hp hll hm hm2 hm3 (fun A c A2 c2 => ?_); refine T_nv ?_) | (apply TC_seq) | (apply TC_region) | (apply TC_ret) | (apply T_nil) | (apply En_then) | (apply T_load; exact rfl; ((first | refine pw_load (i := 0) rfl rfl rfl ?_ | refine pw_load (i := 1) rfl rfl rfl ?_)); refine T_nv ?_) | (apply T_store; exact rfl; ((first | refine gw_store (i := 0) rfl clp rfl (by rfl) (by simp) (by simp [Value.oneCell']) ?_ | refine gw_store (i := 1) rfl clp rfl (by rfl) (by simp) (by simp [Value.oneCell']) ?_)); refine T_nv ?_; refine T_hq ?_) | (refine T_pure rfl rfl ?_; ((first | refine pw_mv ?_ | refine pw_as ?_ | refine pw_extract rfl rfl ?_)); refine T_nv ?_) | (refine T_gen rfl rfl ?_; ((first | refine gw_box clp (fun b => ?_) | refine gw_alloc clp (fun b => ?_))); refine T_nv ?_))
  refine En_fin (.inl rfl) (res1 rfl (rv_cell (i := 1) rfl rfl rfl)) (fin_K H _ (fun w hs => hs.weaken sbp (fun _ h => h)) (k A c A2 c2))

section
variable {F : Fence} {n : Nat} {P : Program} {w0 : World} {D : List Deferred} {ops : Array Oper} {Q : Exit → Act → World → Prop} {rest : List Oper} {E : List Value} {H : List Hp} {R : List MP}
theorem T_bytes (xs : List UInt8) {b : Nat} {cs : List Value} {T' : TypeId} (hc : cs = bytesV xs) (hl : xs.length ≤ 1000) (k : T F n P w0 D ops Q rest E H (Sl (.slice (some ⟨b, 0, none⟩) xs.length xs.length) xs :: R)) : T F n P w0 D ops Q rest E (.blk b cs T' :: H) R := T_weaken _ _ (fun w hs => by
  subst hc
  exact hs.bytes_stay (i := 0) (xs := xs) (n := xs.length) (c := xs.length) rfl rfl (Nat.le_refl _) (by simp only [maxL]; omega)) k
theorem S.ints_stay {w : World} (xs : List Int) {b : Nat} {cs : List Value} {T' : TypeId} (hc : cs = intsV xs) (h : ∀ x ∈ xs, InI x) (hl : xs.length ≤ 1000) (hs : S w0 w (.blk b cs T' :: H) R) : S w0 w H (Sl (.slice (some ⟨b, 0, none⟩) xs.length xs.length) xs :: R) := by
  subst hc
  exact ((hs.learn (Cx (intsV xs) xs) (fun s _ => Cx_ints xs h s)).blk_stays (i := 0) (b := b) (T := T') (cs := intsV xs) (n := xs.length) (c := xs.length) (sp := []) (by simp) List.mem_cons_self rfl (Nat.le_refl _) (by simp only [maxL]; omega)).weaken (List.Sublist.refl _) (sub_cons List.mem_cons_self (fun p hp => List.mem_cons_of_mem _ (List.mem_cons_of_mem _ hp)))
end
theorem cutD {G : Option Addr → Nat → Option Addr → Nat → Nat → Nat → Option Addr → Nat → Option Addr → Nat → Prop} {p : Prop} (h : (∀ a b c d e f g h i j, G a b c d e f g h i j) → p) (k : ∀ a b c d e f g h i j, G a b c d e f g h i j) : p := h k
end Go.Proofs.Ytggdljhmbckpmaa
