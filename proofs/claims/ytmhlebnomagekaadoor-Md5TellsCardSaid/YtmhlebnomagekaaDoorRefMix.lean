/- The reference's mix of three words: the same as the program's. -/
import Derived.Test.YtmhlebnomagekaaDoorMd5Mix
set_option linter.unusedVariables false
set_option linter.unusedSimpArgs false
namespace Go.Proofs.YtmhlebnomagekaaDoor
open Go.RowKit Go.Proofs.YtmhlebnomagekaaDoorW.PrintWords

def halyardref05_mix.f (a0 a1 a2 a3 : Int) : Option Int := if 0 ≤ a0 ∧ a0 < 4 then some (mixF a0.toNat a1 a2 a3) else none
set_option maxRecDepth 100000 in
theorem halyardref05_mix.calls (a0 a1 a2 a3 : Int) (r : Int) (w : World) (h : halyardref05_mix.f a0 a1 a2 a3 = some r) :
    Calls Tryd.prog 72 #[.int .i64 a0, .int .u32 a1, .int .u32 a2, .int .u32 a3] w fun e w' => e = .returned (.int .u32 r) ∧ Drawn0 w w' := by
  unfold halyardref05_mix.f at h
  split at h
  · rename_i h0
    simp only [Option.some.injEq] at h
    have H := Aside0.mk h
    clear h
    rcases (by omega : a0 = 0 ∨ a0 = 1 ∨ a0 = 2 ∨ a0 = 3) with rfl | rfl | rfl | rfl
    all_goals
      go_enter Tryd.func72, Tryd.ntmps72
      go_wp2
      all_goals
        go_ret
        refine ⟨?_, Drawn0.refl _⟩
        rw [← H.out]
        exact reti (by rfl)
  · cases h
end Go.Proofs.YtmhlebnomagekaaDoor
