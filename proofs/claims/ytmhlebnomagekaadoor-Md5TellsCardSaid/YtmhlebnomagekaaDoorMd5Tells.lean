/- Md5Tells: the digest of any text, and its digits, are the reference's: the walk. -/
import Derived.Test.YtmhlebnomagekaaDoorRefSum
import Derived.Test.YtmhlebnomagekaaDoorRefPad
import Derived.Test.YtmhlebnomagekaaDoorMd5Law
import Derived.Test.YtmhlebnomagekaaDoorMd5Alive
set_option linter.unusedVariables false
set_option linter.unusedSimpArgs false
namespace Go.Proofs.YtmhlebnomagekaaDoor
open Go.RowKit Go.Proofs.YtmhlebnomagekaaDoorW.PrintWords Go.Proofs.YtmhlebnomagekaaDoor.PM
set_option maxRecDepth 100000 in
set_option maxHeartbeats 4000000 in
theorem tells_walk (s : ByteArray) (w : World) (T : Trig w) (hB : 3 ≤ w.heap.size) (hs : s.size ≤ 140737488351232) :
    Calls Tryd.prog 3 #[.string s] w fun e w' => e = .returned (.bool true) ∧ Below w.heap.size w w' := by
  by_cases hb : 8192 < s.size
  · have hb' : (8192 : Int) < (s.size : Int) := by omega
    go_enter Tryd.func3, Tryd.ntmps3
    go_wp2_with fail
    refine (alive05 _ T hB).mono ?_
    rintro e w2 ⟨rfl, hb⟩
    go_wp2
    go_ret
    exact ⟨rfl, hb⟩
  · have hb' : (s.size : Int) ≤ 8192 := by omega
    obtain ⟨k, hk⟩ := sum_f s (by omega)
    have HK := Aside0.mk hk
    have HX := Aside0.mk (show halyardref05_Hex.f s = some (hexF s) by unfold halyardref05_Hex.f; rw [if_pos (by omega)])
    clear hk hb
    have hB' : ∀ {W : World}, Aside0 (Below w.heap.size w W) → 3 ≤ W.heap.size := fun h => Nat.le_trans hB h.out.size
    have HB' := Aside0.mk @hB'
    clear hB'
    go_enter Tryd.func3, Tryd.ntmps3
    go_wp2_with fail
    have HB1 := Aside0.mk ((Below.refl w.heap.size w).alloc (Nat.le_refl _) (.cells #[.string s] 9))
    refine (md5_Sum_c (some ⟨w.heap.size, 0, none⟩) 1 [s] _ (T.below HB1.out hB) (HB'.out HB1) (strC _ _ [s] (by simp) (str1 _ (by simp [Addr.add]))) (by rw [joinA_single]; omega) (by simp)).mono ?_
    rintro e w2 ⟨rfl, hb⟩
    rw [joinA_single]
    have HB2 := Aside0.mk (below_then hb HB1.out HB1.out.size)
    clear hb HB1
    go_wp2_with fail
    refine (halyardref05_Sum.calls k s _ _ HK.out).mono ?_
    rintro e w3 ⟨rfl, hb⟩
    have HB3 := Aside0.mk (below_then hb HB2.out HB2.out.size)
    clear hb HB2
    go_wp2_with fail
    refine (hex_c s _ (by omega)).mono ?_
    rintro e w4 ⟨rfl, hb⟩
    have HB4 := Aside0.mk (below_then hb HB3.out HB3.out.size)
    clear hb HB3
    go_wp2_with fail
    refine (halyardref05_Hex.calls s _ _ HX.out).mono ?_
    rintro e w5 ⟨rfl, hb⟩
    have HB5 := Aside0.mk (below_then hb HB4.out HB4.out.size)
    clear hb HB4
    go_wp2_with fail
    refine (alive05 _ (T.below HB5.out hB) (HB'.out HB5)).mono ?_
    rintro e w6 ⟨rfl, hb⟩
    go_wp2
    go_ret
    exact ⟨rfl, below_then hb HB5.out HB5.out.size⟩
end Go.Proofs.YtmhlebnomagekaaDoor
