/- The leaves of math that md5's constants come to: bits of a float and back, Abs, IsNaN, IsInf, Floor. -/
import Derived.Test.YtmhlebnomagekaaDoorProg
import Derived.Test.YtmhlebnomagekaaDoorKit
import Derived.WalkLawsBesides
import Derived.Laws.Externs
set_option linter.unusedVariables false
set_option linter.unusedSimpArgs false
namespace Go.Proofs.YtmhlebnomagekaaDoor
open Go.RowKit Go.Proofs.YtmhlebnomagekaaDoorW.PrintWords

theorem run_bits (x : Nat) (w : World) : (callFunc 100 #[.float .f64 x]).run Tryd.prog w = .ok (.value (.int .u64 x)) w := by
  rw [run_callFunc_extern (e := Extern.MathFloatBits.float64bits) Tryd.func100 (by kernel_rfl) (by kernel_rfl) (by kernel_rfl) (by kernel_rfl)]
  rfl
theorem run_frombits (x : Int) (w : World) : (callFunc 99 #[.int .u64 x]).run Tryd.prog w = .ok (.value (.float .f64 x.toNat)) w := by
  rw [run_callFunc_extern (e := Extern.MathFloatBits.float64frombits) Tryd.func99 (by kernel_rfl) (by kernel_rfl) (by kernel_rfl) (by kernel_rfl)]
  rfl
set_option maxRecDepth 100000 in
theorem abs_calls (x y : Nat) (h : Go.bits .andNot .u64 x 9223372036854775808 = y) (w : World) :
    Calls Tryd.prog 77 #[.float .f64 x] w fun e w' => e = .returned (.float .f64 y) ∧ w' = w := by
  have h1 := run_bits x w
  have h2 := fun n => run_frombits n w
  go_enter Tryd.func77, Tryd.ntmps77
  go_wp2
  go_ret
  exact ⟨rfl, rfl⟩
set_option maxRecDepth 100000 in
theorem isNaN_calls (x : Nat) (h : FloatKind.f64.format.order x x = some .eq) (w : World) :
    Calls Tryd.prog 106 #[.float .f64 x] w fun e w' => e = .returned (.bool false) ∧ w' = w := by
  go_enter Tryd.func106, Tryd.ntmps106
  go_wp2
  go_ret
  exact ⟨by simp [h], rfl⟩
set_option maxRecDepth 100000 in
theorem isInf_calls (x y : Nat) (h : Go.bits .andNot .u64 x 9223372036854775808 = y) (h1 : (FloatKind.f64.format.order y 9218868437227405311 == some .gt) = false) (w : World) :
    Calls Tryd.prog 107 #[.float .f64 x, .int .i64 0] w fun e w' => e = .returned (.bool false) ∧ w' = w := by
  go_enter Tryd.func107, Tryd.ntmps107
  go_wp2_with fail
  refine (abs_calls x y h _).mono ?_
  rintro e w' ⟨rfl, rfl⟩
  go_wp2_with fail
  go_ret
  exact ⟨by simp [h1], rfl⟩
set_option maxRecDepth 100000 in
theorem floor_calls (x y : Nat) (w : World) (h : (Extern.MathFloor.toIntegral "math.archFloor" .down #[.float .f64 x]).run Tryd.prog w = .ok (.float .f64 y) w) :
    Calls Tryd.prog 76 #[.float .f64 x] w fun e' w' => e' = .returned (.float .f64 y) ∧ w' = w := by
  have h1 : (callFunc 97 #[.float .f64 x]).run Tryd.prog w = .ok (.value (.float .f64 y)) w := by
    rw [run_callFunc_extern (e := Extern.MathFloor.toIntegral "math.archFloor" .down) Tryd.func97 (by kernel_rfl) (by kernel_rfl) (by kernel_rfl) (by kernel_rfl), h]
    rfl
  go_enter Tryd.func76, Tryd.ntmps76
  go_wp2
  go_ret
  exact ⟨rfl, rfl⟩
/-- thirty-two bits, turned left by k -/
def rot (k : Nat) (x : Int) : Int := Go.bits .or .u32 (x * 2 ^ k % 4294967296) (x / 2 ^ (32 - k))
set_option maxRecDepth 100000 in
theorem rotl_7 (x : Int) (w : World) (h0 : 0 ≤ x) (h1 : x < 4294967296) :
    Calls Tryd.prog 79 #[.int .u32 x, .int .i64 7] w fun e w' => e = .returned (.int .u32 (rot 7 x)) ∧ w' = w := by
  have b1 : Go.bits .and .u64 7 31 = 7 := by decide
  go_enter Tryd.func79, Tryd.ntmps79
  go_wp2
  go_ret
  exact ⟨rfl, rfl⟩
set_option maxRecDepth 100000 in
theorem rotl_12 (x : Int) (w : World) (h0 : 0 ≤ x) (h1 : x < 4294967296) :
    Calls Tryd.prog 79 #[.int .u32 x, .int .i64 12] w fun e w' => e = .returned (.int .u32 (rot 12 x)) ∧ w' = w := by
  have b1 : Go.bits .and .u64 12 31 = 12 := by decide
  go_enter Tryd.func79, Tryd.ntmps79
  go_wp2
  go_ret
  exact ⟨rfl, rfl⟩
set_option maxRecDepth 100000 in
theorem rotl_17 (x : Int) (w : World) (h0 : 0 ≤ x) (h1 : x < 4294967296) :
    Calls Tryd.prog 79 #[.int .u32 x, .int .i64 17] w fun e w' => e = .returned (.int .u32 (rot 17 x)) ∧ w' = w := by
  have b1 : Go.bits .and .u64 17 31 = 17 := by decide
  go_enter Tryd.func79, Tryd.ntmps79
  go_wp2
  go_ret
  exact ⟨rfl, rfl⟩
set_option maxRecDepth 100000 in
theorem rotl_22 (x : Int) (w : World) (h0 : 0 ≤ x) (h1 : x < 4294967296) :
    Calls Tryd.prog 79 #[.int .u32 x, .int .i64 22] w fun e w' => e = .returned (.int .u32 (rot 22 x)) ∧ w' = w := by
  have b1 : Go.bits .and .u64 22 31 = 22 := by decide
  go_enter Tryd.func79, Tryd.ntmps79
  go_wp2
  go_ret
  exact ⟨rfl, rfl⟩
set_option maxRecDepth 100000 in
theorem rotl_5 (x : Int) (w : World) (h0 : 0 ≤ x) (h1 : x < 4294967296) :
    Calls Tryd.prog 79 #[.int .u32 x, .int .i64 5] w fun e w' => e = .returned (.int .u32 (rot 5 x)) ∧ w' = w := by
  have b1 : Go.bits .and .u64 5 31 = 5 := by decide
  go_enter Tryd.func79, Tryd.ntmps79
  go_wp2
  go_ret
  exact ⟨rfl, rfl⟩
set_option maxRecDepth 100000 in
theorem rotl_9 (x : Int) (w : World) (h0 : 0 ≤ x) (h1 : x < 4294967296) :
    Calls Tryd.prog 79 #[.int .u32 x, .int .i64 9] w fun e w' => e = .returned (.int .u32 (rot 9 x)) ∧ w' = w := by
  have b1 : Go.bits .and .u64 9 31 = 9 := by decide
  go_enter Tryd.func79, Tryd.ntmps79
  go_wp2
  go_ret
  exact ⟨rfl, rfl⟩
set_option maxRecDepth 100000 in
theorem rotl_14 (x : Int) (w : World) (h0 : 0 ≤ x) (h1 : x < 4294967296) :
    Calls Tryd.prog 79 #[.int .u32 x, .int .i64 14] w fun e w' => e = .returned (.int .u32 (rot 14 x)) ∧ w' = w := by
  have b1 : Go.bits .and .u64 14 31 = 14 := by decide
  go_enter Tryd.func79, Tryd.ntmps79
  go_wp2
  go_ret
  exact ⟨rfl, rfl⟩
set_option maxRecDepth 100000 in
theorem rotl_20 (x : Int) (w : World) (h0 : 0 ≤ x) (h1 : x < 4294967296) :
    Calls Tryd.prog 79 #[.int .u32 x, .int .i64 20] w fun e w' => e = .returned (.int .u32 (rot 20 x)) ∧ w' = w := by
  have b1 : Go.bits .and .u64 20 31 = 20 := by decide
  go_enter Tryd.func79, Tryd.ntmps79
  go_wp2
  go_ret
  exact ⟨rfl, rfl⟩
set_option maxRecDepth 100000 in
theorem rotl_4 (x : Int) (w : World) (h0 : 0 ≤ x) (h1 : x < 4294967296) :
    Calls Tryd.prog 79 #[.int .u32 x, .int .i64 4] w fun e w' => e = .returned (.int .u32 (rot 4 x)) ∧ w' = w := by
  have b1 : Go.bits .and .u64 4 31 = 4 := by decide
  go_enter Tryd.func79, Tryd.ntmps79
  go_wp2
  go_ret
  exact ⟨rfl, rfl⟩
set_option maxRecDepth 100000 in
theorem rotl_11 (x : Int) (w : World) (h0 : 0 ≤ x) (h1 : x < 4294967296) :
    Calls Tryd.prog 79 #[.int .u32 x, .int .i64 11] w fun e w' => e = .returned (.int .u32 (rot 11 x)) ∧ w' = w := by
  have b1 : Go.bits .and .u64 11 31 = 11 := by decide
  go_enter Tryd.func79, Tryd.ntmps79
  go_wp2
  go_ret
  exact ⟨rfl, rfl⟩
set_option maxRecDepth 100000 in
theorem rotl_16 (x : Int) (w : World) (h0 : 0 ≤ x) (h1 : x < 4294967296) :
    Calls Tryd.prog 79 #[.int .u32 x, .int .i64 16] w fun e w' => e = .returned (.int .u32 (rot 16 x)) ∧ w' = w := by
  have b1 : Go.bits .and .u64 16 31 = 16 := by decide
  go_enter Tryd.func79, Tryd.ntmps79
  go_wp2
  go_ret
  exact ⟨rfl, rfl⟩
set_option maxRecDepth 100000 in
theorem rotl_23 (x : Int) (w : World) (h0 : 0 ≤ x) (h1 : x < 4294967296) :
    Calls Tryd.prog 79 #[.int .u32 x, .int .i64 23] w fun e w' => e = .returned (.int .u32 (rot 23 x)) ∧ w' = w := by
  have b1 : Go.bits .and .u64 23 31 = 23 := by decide
  go_enter Tryd.func79, Tryd.ntmps79
  go_wp2
  go_ret
  exact ⟨rfl, rfl⟩
set_option maxRecDepth 100000 in
theorem rotl_6 (x : Int) (w : World) (h0 : 0 ≤ x) (h1 : x < 4294967296) :
    Calls Tryd.prog 79 #[.int .u32 x, .int .i64 6] w fun e w' => e = .returned (.int .u32 (rot 6 x)) ∧ w' = w := by
  have b1 : Go.bits .and .u64 6 31 = 6 := by decide
  go_enter Tryd.func79, Tryd.ntmps79
  go_wp2
  go_ret
  exact ⟨rfl, rfl⟩
set_option maxRecDepth 100000 in
theorem rotl_10 (x : Int) (w : World) (h0 : 0 ≤ x) (h1 : x < 4294967296) :
    Calls Tryd.prog 79 #[.int .u32 x, .int .i64 10] w fun e w' => e = .returned (.int .u32 (rot 10 x)) ∧ w' = w := by
  have b1 : Go.bits .and .u64 10 31 = 10 := by decide
  go_enter Tryd.func79, Tryd.ntmps79
  go_wp2
  go_ret
  exact ⟨rfl, rfl⟩
set_option maxRecDepth 100000 in
theorem rotl_15 (x : Int) (w : World) (h0 : 0 ≤ x) (h1 : x < 4294967296) :
    Calls Tryd.prog 79 #[.int .u32 x, .int .i64 15] w fun e w' => e = .returned (.int .u32 (rot 15 x)) ∧ w' = w := by
  have b1 : Go.bits .and .u64 15 31 = 15 := by decide
  go_enter Tryd.func79, Tryd.ntmps79
  go_wp2
  go_ret
  exact ⟨rfl, rfl⟩
set_option maxRecDepth 100000 in
theorem rotl_21 (x : Int) (w : World) (h0 : 0 ≤ x) (h1 : x < 4294967296) :
    Calls Tryd.prog 79 #[.int .u32 x, .int .i64 21] w fun e w' => e = .returned (.int .u32 (rot 21 x)) ∧ w' = w := by
  have b1 : Go.bits .and .u64 21 31 = 21 := by decide
  go_enter Tryd.func79, Tryd.ntmps79
  go_wp2
  go_ret
  exact ⟨rfl, rfl⟩
end Go.Proofs.YtmhlebnomagekaaDoor
