/- The closures of md5's rounds: what a round mixes, which word a step takes. -/
import Derived.Test.YtmhlebnomagekaaDoorFloat
set_option linter.unusedVariables false
set_option linter.unusedSimpArgs false
namespace Go.Proofs.YtmhlebnomagekaaDoor
open Go.RowKit Go.Proofs.YtmhlebnomagekaaDoorW.PrintWords

theorem bits_u32 (op : BinOp) (a b : Int) : 0 ≤ Go.bits op .u32 a b ∧ Go.bits op .u32 a b < 4294967296 := by
  unfold Go.bits
  cases op <;> simp [IntKind.wrap, IntKind.bits, IntKind.signed] <;> omega

/-- what round q mixes of three words -/
def mixF (q : Nat) (b c d : Int) : Int :=
  match q with
  | 0 => Go.bits .or .u32 (Go.bits .and .u32 b c) (Go.bits .and .u32 (Go.bits .xor .u32 IntKind.u32.max b) d)
  | 1 => Go.bits .or .u32 (Go.bits .and .u32 b d) (Go.bits .andNot .u32 c d)
  | 2 => Go.bits .xor .u32 (Go.bits .xor .u32 b c) d
  | _ => Go.bits .xor .u32 c (Go.bits .or .u32 b (Go.bits .xor .u32 IntKind.u32.max d))
theorem mixF_range (q : Nat) (b c d : Int) : 0 ≤ mixF q b c d ∧ mixF q b c d < 4294967296 := by
  unfold mixF; split <;> exact bits_u32 _ _ _
/-- which word step i of round q takes -/
def placeF (q i : Nat) : Nat :=
  match q with
  | 0 => i
  | 1 => (5 * i + 1) % 16
  | 2 => (3 * i + 5) % 16
  | _ => 7 * i % 16

theorem reti {k : IntKind} {a b : Int} (h : a = b) : Ending.returned (.int k a) = .returned (.int k b) := by rw [h]
set_option maxRecDepth 100000 in
theorem mix_0 (b c d : Int) (w : World) : Calls Tryd.prog 89 #[.int .u32 b, .int .u32 c, .int .u32 d] w fun e w' => e = .returned (.int .u32 (mixF 0 b c d)) ∧ w = w' := by
  go_enter Tryd.func89, Tryd.ntmps89
  go_wp2
  all_goals
    go_ret
    exact ⟨reti (by simp only [mixF]), rfl⟩
set_option maxRecDepth 100000 in
theorem mix_1 (b c d : Int) (w : World) : Calls Tryd.prog 91 #[.int .u32 b, .int .u32 c, .int .u32 d] w fun e w' => e = .returned (.int .u32 (mixF 1 b c d)) ∧ w = w' := by
  go_enter Tryd.func91, Tryd.ntmps91
  go_wp2
  all_goals
    go_ret
    exact ⟨reti (by simp only [mixF]), rfl⟩
set_option maxRecDepth 100000 in
theorem mix_2 (b c d : Int) (w : World) : Calls Tryd.prog 93 #[.int .u32 b, .int .u32 c, .int .u32 d] w fun e w' => e = .returned (.int .u32 (mixF 2 b c d)) ∧ w = w' := by
  go_enter Tryd.func93, Tryd.ntmps93
  go_wp2
  all_goals
    go_ret
    exact ⟨reti (by simp only [mixF]), rfl⟩
set_option maxRecDepth 100000 in
theorem mix_3 (b c d : Int) (w : World) : Calls Tryd.prog 95 #[.int .u32 b, .int .u32 c, .int .u32 d] w fun e w' => e = .returned (.int .u32 (mixF 3 b c d)) ∧ w = w' := by
  go_enter Tryd.func95, Tryd.ntmps95
  go_wp2
  all_goals
    go_ret
    exact ⟨reti (by simp only [mixF]), rfl⟩
set_option maxRecDepth 100000 in
theorem place_0 (i : Nat) (w : World) (h : i < 64) : Calls Tryd.prog 90 #[.int .i64 i] w fun e w' => e = .returned (.int .i64 (placeF 0 i : Nat)) ∧ w = w' := by
  go_enter Tryd.func90, Tryd.ntmps90
  go_wp2
  go_ret
  exact ⟨reti (by simp only [placeF]), rfl⟩
set_option maxRecDepth 100000 in
theorem place_1 (i : Nat) (w : World) (h : i < 64) : Calls Tryd.prog 92 #[.int .i64 i] w fun e w' => e = .returned (.int .i64 (placeF 1 i : Nat)) ∧ w = w' := by
  go_enter Tryd.func92, Tryd.ntmps92
  go_wp2
  go_ret
  exact ⟨reti (by simp only [placeF]; omega), rfl⟩
set_option maxRecDepth 100000 in
theorem place_2 (i : Nat) (w : World) (h : i < 64) : Calls Tryd.prog 94 #[.int .i64 i] w fun e w' => e = .returned (.int .i64 (placeF 2 i : Nat)) ∧ w = w' := by
  go_enter Tryd.func94, Tryd.ntmps94
  go_wp2
  go_ret
  exact ⟨reti (by simp only [placeF]; omega), rfl⟩
set_option maxRecDepth 100000 in
theorem place_3 (i : Nat) (w : World) (h : i < 64) : Calls Tryd.prog 96 #[.int .i64 i] w fun e w' => e = .returned (.int .i64 (placeF 3 i : Nat)) ∧ w = w' := by
  go_enter Tryd.func96, Tryd.ntmps96
  go_wp2
  go_ret
  exact ⟨reti (by simp only [placeF]; omega), rfl⟩
def roundsCells : Array Value :=
  #[.func (.func 89) #[] #[], .func (.func 90) #[] #[], .int .i64 7, .int .i64 12, .int .i64 17, .int .i64 22,
    .func (.func 91) #[] #[], .func (.func 92) #[] #[], .int .i64 5, .int .i64 9, .int .i64 14, .int .i64 20,
    .func (.func 93) #[] #[], .func (.func 94) #[] #[], .int .i64 4, .int .i64 11, .int .i64 16, .int .i64 23,
    .func (.func 95) #[] #[], .func (.func 96) #[] #[], .int .i64 6, .int .i64 10, .int .i64 15, .int .i64 21]
set_option maxRecDepth 100000 in
theorem rounds_c (w : World) : Calls Tryd.prog 75 #[] w fun e w' => e = .returned (.slice (some ⟨w.heap.size, 0, none⟩) 4 4) ∧ w' = w.alloc (.cells roundsCells 126) := by
  go_enter Tryd.func75, Tryd.ntmps75
  go_wp2
  go_ret
  exact ⟨rfl, rfl⟩
theorem rotl_any (k : Nat) (hk : k ∈ [7, 12, 17, 22, 5, 9, 14, 20, 4, 11, 16, 23, 6, 10, 15, 21]) (x : Int) (w : World) (h0 : 0 ≤ x) (h1 : x < 4294967296) :
    Calls Tryd.prog 79 #[.int .u32 x, .int .i64 k] w fun e w' => e = .returned (.int .u32 (rot k x)) ∧ w' = w := by
  simp only [List.mem_cons, List.not_mem_nil, or_false] at hk
  rcases hk with rfl | rfl | rfl | rfl | rfl | rfl | rfl | rfl | rfl | rfl | rfl | rfl | rfl | rfl | rfl | rfl
  · exact rotl_7 x w h0 h1
  · exact rotl_12 x w h0 h1
  · exact rotl_17 x w h0 h1
  · exact rotl_22 x w h0 h1
  · exact rotl_5 x w h0 h1
  · exact rotl_9 x w h0 h1
  · exact rotl_14 x w h0 h1
  · exact rotl_20 x w h0 h1
  · exact rotl_4 x w h0 h1
  · exact rotl_11 x w h0 h1
  · exact rotl_16 x w h0 h1
  · exact rotl_23 x w h0 h1
  · exact rotl_6 x w h0 h1
  · exact rotl_10 x w h0 h1
  · exact rotl_15 x w h0 h1
  · exact rotl_21 x w h0 h1
end Go.Proofs.YtmhlebnomagekaaDoor
