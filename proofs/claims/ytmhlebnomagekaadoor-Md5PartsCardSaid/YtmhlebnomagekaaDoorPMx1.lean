-- written by a program of this session over the kit's print, with functions proved by hand beside it
import Derived.Test.YtmhlebnomagekaaDoorPMx0
namespace Go.Proofs.YtmhlebnomagekaaDoor.PM
open Go.RowKit Go.Proofs.YtmhlebnomagekaaDoorW.PrintWords Go.Proofs.YtmhlebnomagekaaDoorW.PrintLast Go.Proofs.YtmhlebnomagekaaDoorW.PrintMore
attribute [local go_sem] max2_int min2_int max_two min_two max_three min_three max_four min_four   -- for this text's walks alone
set_option linter.unusedVariables false
set_option linter.unusedSimpArgs false

/-! ### halyardref05_four: function 45 -/
def halyardref05_four.f (a0 : Int) : Option (ByteArray) := some (strOfNums (([(a0) % 256, ((Int.tdiv a0 256) % 4294967296) % 256, ((Int.tdiv a0 65536) % 4294967296) % 256, ((Int.tdiv a0 16777216) % 4294967296) % 256] : List Int)))
set_option maxHeartbeats 8000000 in
set_option maxRecDepth 100000 in
theorem halyardref05_four.calls (a0 : Int) (r : ByteArray) (w : World) (h : halyardref05_four.f a0 = some r) :
    Calls Tryd.prog 45 #[.int .u32 a0] w fun e w' => e = .returned (.string r) ∧ Below w.heap.size w w' := by
  have HB := Aside0.mk (Below.refl w.heap.size w)
  have H : (some (strOfNums (([(a0) % 256, ((Int.tdiv a0 256) % 4294967296) % 256, ((Int.tdiv a0 65536) % 4294967296) % 256, ((Int.tdiv a0 16777216) % 4294967296) % 256] : List Int)))) = some r := h
  clear h
  obtain ⟨y107, hy107⟩ : ∃ y_ : List Int, y_ = (([(a0) % 256, ((Int.tdiv a0 256) % 4294967296) % 256, ((Int.tdiv a0 65536) % 4294967296) % 256, ((Int.tdiv a0 16777216) % 4294967296) % 256] : List Int)) := ⟨_, rfl⟩
  replace H : (some (strOfNums y107)) = some r := by first | (rw [hy107]; with_reducible exact H) | (have H2_ := (Option.bind_some _ _).symm.trans H; rw [hy107]; with_reducible exact H2_) | (have H2_ := (Option.bind_some _ _).symm.trans H; with_reducible exact H2_) | with_reducible exact H | (rw [hy107]; exact H) | exact H
  have Ny107 := Aside0.mk hy107
  clear hy107
  obtain rfl := Option.some.inj H
  go_enter Tryd.func45, Tryd.ntmps45
  go_wp2_with (first | ((with_reducible refine gate_dst (N := 14) rfl ?_); refine Kd.R_lit (Kd.int .u8) _ 5 ?hg (N := 14) ?hd (xs := ([(a0) % 256, ((Int.tdiv a0 256) % 4294967296) % 256, ((Int.tdiv a0 65536) % 4294967296) % 256, ((Int.tdiv a0 16777216) % 4294967296) % 256] : List Int)) (inner := [.int .u8 ((a0) % 256), .int .u8 (((Int.tdiv a0 256) % 4294967296) % 256), .int .u8 (((Int.tdiv a0 65536) % 4294967296) % 256), .int .u8 (((Int.tdiv a0 16777216) % 4294967296) % 256)]) (ok := fun _ => True) (okp := fun _ => True) ?hr ?hp (fun _ hk => hk) trivial (Below.refl _ _) (Nat.le_refl _) (by simp) ?_; (case hd => rfl); (case hg => rfl); (case hr => first | (go_simp; done) | (go_simp; rfl)); (case hp => exact (Reps.one (show Kd.M (Kd.int .u8) _ _ _ ((a0) % 256) [.int .u8 ((a0) % 256)] from rfl) (Reps.one (show Kd.M (Kd.int .u8) _ _ _ (((Int.tdiv a0 256) % 4294967296) % 256) [.int .u8 (((Int.tdiv a0 256) % 4294967296) % 256)] from rfl) (Reps.one (show Kd.M (Kd.int .u8) _ _ _ (((Int.tdiv a0 65536) % 4294967296) % 256) [.int .u8 (((Int.tdiv a0 65536) % 4294967296) % 256)] from rfl) (Reps.one (show Kd.M (Kd.int .u8) _ _ _ (((Int.tdiv a0 16777216) % 4294967296) % 256) [.int .u8 (((Int.tdiv a0 16777216) % 4294967296) % 256)] from rfl) (Reps.none _ _)))))); intro v108 w2 ho3 hb hg_ hnew_; clear hg_ hnew_; (first | rw [← Ny107.out] at ho3 | (simp only [Int.reduceToNat] at ho3; rw [← Ny107.out] at ho3)); have n0_ := Aside0.mk (Kd.R_lower ho3 (below_size (by repeat (first | (with_reducible first | exact HB.out | apply below_alloc | apply pw_below_drewN | apply below_drew1) | exact HB.out)))); have n1_ := Aside0.mk (below_step (by repeat (first | (with_reducible first | exact HB.out | apply below_alloc | apply pw_below_drewN | apply below_drew1) | exact HB.out)) hb); clear HB; have HO109 := n0_; have HB := n1_; clear n0_ n1_; clear hb ho3; have hcv4 := own_string (P := Tryd.prog) Tryd.underlying57 Tryd.underlying5 Tryd.underlying9 (Kd.own_of_R HO109.out)))
  go_ret
  exact ⟨by first | rfl | (simp [errW_none, errW_some] <;> rfl) | (simp [*, errW_none, errW_some] <;> rfl), by repeat (first | (with_reducible first | exact HB.out | apply below_alloc | apply pw_below_drewN | apply below_drew1) | exact HB.out)⟩

/-! ### halyardref05_constants: function 69 -/
def halyardref05_constants.f  : Option (List Int) := some (([3614090360, 3905402710, 606105819, 3250441966, 4118548399, 1200080426, 2821735955, 4249261313, 1770035416, 2336552879, 4294925233, 2304563134, 1804603682, 4254626195, 2792965006, 1236535329, 4129170786, 3225465664, 643717713, 3921069994, 3593408605, 38016083, 3634488961, 3889429448, 568446438, 3275163606, 4107603335, 1163531501, 2850285829, 4243563512, 1735328473, 2368359562, 4294588738, 2272392833, 1839030562, 4259657740, 2763975236, 1272893353, 4139469664, 3200236656, 681279174, 3936430074, 3572445317, 76029189, 3654602809, 3873151461, 530742520, 3299628645, 4096336452, 1126891415, 2878612391, 4237533241, 1700485571, 2399980690, 4293915773, 2240044497, 1873313359, 4264355552, 2734768916, 1309151649, 4149444226, 3174756917, 718787259, 3951481745] : List Int))
set_option maxHeartbeats 8000000 in
set_option maxRecDepth 100000 in
theorem halyardref05_constants.calls  (r : List Int) (w : World) (h : halyardref05_constants.f  = some r) :
    Calls Tryd.prog 69 #[] w fun e w' => ∃ v0_ : Value, e = .returned (v0_) ∧ Kd.R (Kd.int .u32) 63 w' w.heap.size (fun _ => True) v0_ r ∧ Below w.heap.size w w' := by
  have HB := Aside0.mk (Below.refl w.heap.size w)
  have H : (some (([3614090360, 3905402710, 606105819, 3250441966, 4118548399, 1200080426, 2821735955, 4249261313, 1770035416, 2336552879, 4294925233, 2304563134, 1804603682, 4254626195, 2792965006, 1236535329, 4129170786, 3225465664, 643717713, 3921069994, 3593408605, 38016083, 3634488961, 3889429448, 568446438, 3275163606, 4107603335, 1163531501, 2850285829, 4243563512, 1735328473, 2368359562, 4294588738, 2272392833, 1839030562, 4259657740, 2763975236, 1272893353, 4139469664, 3200236656, 681279174, 3936430074, 3572445317, 76029189, 3654602809, 3873151461, 530742520, 3299628645, 4096336452, 1126891415, 2878612391, 4237533241, 1700485571, 2399980690, 4293915773, 2240044497, 1873313359, 4264355552, 2734768916, 1309151649, 4149444226, 3174756917, 718787259, 3951481745] : List Int))) = some r := h
  clear h
  obtain ⟨y110, hy110⟩ : ∃ y_ : List Int, y_ = (([3614090360, 3905402710, 606105819, 3250441966, 4118548399, 1200080426, 2821735955, 4249261313, 1770035416, 2336552879, 4294925233, 2304563134, 1804603682, 4254626195, 2792965006, 1236535329, 4129170786, 3225465664, 643717713, 3921069994, 3593408605, 38016083, 3634488961, 3889429448, 568446438, 3275163606, 4107603335, 1163531501, 2850285829, 4243563512, 1735328473, 2368359562, 4294588738, 2272392833, 1839030562, 4259657740, 2763975236, 1272893353, 4139469664, 3200236656, 681279174, 3936430074, 3572445317, 76029189, 3654602809, 3873151461, 530742520, 3299628645, 4096336452, 1126891415, 2878612391, 4237533241, 1700485571, 2399980690, 4293915773, 2240044497, 1873313359, 4264355552, 2734768916, 1309151649, 4149444226, 3174756917, 718787259, 3951481745] : List Int)) := ⟨_, rfl⟩
  replace H : (some y110) = some r := by first | (rw [hy110]; with_reducible exact H) | (have H2_ := (Option.bind_some _ _).symm.trans H; rw [hy110]; with_reducible exact H2_) | (have H2_ := (Option.bind_some _ _).symm.trans H; with_reducible exact H2_) | with_reducible exact H | (rw [hy110]; exact H) | exact H
  have Ny110 := Aside0.mk hy110
  clear hy110
  obtain rfl := Option.some.inj H
  go_enter Tryd.func69, Tryd.ntmps69
  go_wp2_with (first | ((with_reducible refine gate_dst (N := 1) rfl ?_); refine Kd.R_lit (Kd.int .u32) _ 63 ?hg (N := 1) ?hd (xs := ([3614090360, 3905402710, 606105819, 3250441966, 4118548399, 1200080426, 2821735955, 4249261313, 1770035416, 2336552879, 4294925233, 2304563134, 1804603682, 4254626195, 2792965006, 1236535329, 4129170786, 3225465664, 643717713, 3921069994, 3593408605, 38016083, 3634488961, 3889429448, 568446438, 3275163606, 4107603335, 1163531501, 2850285829, 4243563512, 1735328473, 2368359562, 4294588738, 2272392833, 1839030562, 4259657740, 2763975236, 1272893353, 4139469664, 3200236656, 681279174, 3936430074, 3572445317, 76029189, 3654602809, 3873151461, 530742520, 3299628645, 4096336452, 1126891415, 2878612391, 4237533241, 1700485571, 2399980690, 4293915773, 2240044497, 1873313359, 4264355552, 2734768916, 1309151649, 4149444226, 3174756917, 718787259, 3951481745] : List Int)) (inner := [.int .u32 3614090360, .int .u32 3905402710, .int .u32 606105819, .int .u32 3250441966, .int .u32 4118548399, .int .u32 1200080426, .int .u32 2821735955, .int .u32 4249261313, .int .u32 1770035416, .int .u32 2336552879, .int .u32 4294925233, .int .u32 2304563134, .int .u32 1804603682, .int .u32 4254626195, .int .u32 2792965006, .int .u32 1236535329, .int .u32 4129170786, .int .u32 3225465664, .int .u32 643717713, .int .u32 3921069994, .int .u32 3593408605, .int .u32 38016083, .int .u32 3634488961, .int .u32 3889429448, .int .u32 568446438, .int .u32 3275163606, .int .u32 4107603335, .int .u32 1163531501, .int .u32 2850285829, .int .u32 4243563512, .int .u32 1735328473, .int .u32 2368359562, .int .u32 4294588738, .int .u32 2272392833, .int .u32 1839030562, .int .u32 4259657740, .int .u32 2763975236, .int .u32 1272893353, .int .u32 4139469664, .int .u32 3200236656, .int .u32 681279174, .int .u32 3936430074, .int .u32 3572445317, .int .u32 76029189, .int .u32 3654602809, .int .u32 3873151461, .int .u32 530742520, .int .u32 3299628645, .int .u32 4096336452, .int .u32 1126891415, .int .u32 2878612391, .int .u32 4237533241, .int .u32 1700485571, .int .u32 2399980690, .int .u32 4293915773, .int .u32 2240044497, .int .u32 1873313359, .int .u32 4264355552, .int .u32 2734768916, .int .u32 1309151649, .int .u32 4149444226, .int .u32 3174756917, .int .u32 718787259, .int .u32 3951481745]) (ok := fun _ => True) (okp := fun _ => True) ?hr ?hp (fun _ hk => hk) trivial (Below.refl _ _) (Nat.le_refl _) (by simp) ?_; (case hd => rfl); (case hg => rfl); (case hr => first | (go_simp; done) | (go_simp; rfl)); (case hp => exact (Reps.one (show Kd.M (Kd.int .u32) _ _ _ 3614090360 [.int .u32 3614090360] from rfl) (Reps.one (show Kd.M (Kd.int .u32) _ _ _ 3905402710 [.int .u32 3905402710] from rfl) (Reps.one (show Kd.M (Kd.int .u32) _ _ _ 606105819 [.int .u32 606105819] from rfl) (Reps.one (show Kd.M (Kd.int .u32) _ _ _ 3250441966 [.int .u32 3250441966] from rfl) (Reps.one (show Kd.M (Kd.int .u32) _ _ _ 4118548399 [.int .u32 4118548399] from rfl) (Reps.one (show Kd.M (Kd.int .u32) _ _ _ 1200080426 [.int .u32 1200080426] from rfl) (Reps.one (show Kd.M (Kd.int .u32) _ _ _ 2821735955 [.int .u32 2821735955] from rfl) (Reps.one (show Kd.M (Kd.int .u32) _ _ _ 4249261313 [.int .u32 4249261313] from rfl) (Reps.one (show Kd.M (Kd.int .u32) _ _ _ 1770035416 [.int .u32 1770035416] from rfl) (Reps.one (show Kd.M (Kd.int .u32) _ _ _ 2336552879 [.int .u32 2336552879] from rfl) (Reps.one (show Kd.M (Kd.int .u32) _ _ _ 4294925233 [.int .u32 4294925233] from rfl) (Reps.one (show Kd.M (Kd.int .u32) _ _ _ 2304563134 [.int .u32 2304563134] from rfl) (Reps.one (show Kd.M (Kd.int .u32) _ _ _ 1804603682 [.int .u32 1804603682] from rfl) (Reps.one (show Kd.M (Kd.int .u32) _ _ _ 4254626195 [.int .u32 4254626195] from rfl) (Reps.one (show Kd.M (Kd.int .u32) _ _ _ 2792965006 [.int .u32 2792965006] from rfl) (Reps.one (show Kd.M (Kd.int .u32) _ _ _ 1236535329 [.int .u32 1236535329] from rfl) (Reps.one (show Kd.M (Kd.int .u32) _ _ _ 4129170786 [.int .u32 4129170786] from rfl) (Reps.one (show Kd.M (Kd.int .u32) _ _ _ 3225465664 [.int .u32 3225465664] from rfl) (Reps.one (show Kd.M (Kd.int .u32) _ _ _ 643717713 [.int .u32 643717713] from rfl) (Reps.one (show Kd.M (Kd.int .u32) _ _ _ 3921069994 [.int .u32 3921069994] from rfl) (Reps.one (show Kd.M (Kd.int .u32) _ _ _ 3593408605 [.int .u32 3593408605] from rfl) (Reps.one (show Kd.M (Kd.int .u32) _ _ _ 38016083 [.int .u32 38016083] from rfl) (Reps.one (show Kd.M (Kd.int .u32) _ _ _ 3634488961 [.int .u32 3634488961] from rfl) (Reps.one (show Kd.M (Kd.int .u32) _ _ _ 3889429448 [.int .u32 3889429448] from rfl) (Reps.one (show Kd.M (Kd.int .u32) _ _ _ 568446438 [.int .u32 568446438] from rfl) (Reps.one (show Kd.M (Kd.int .u32) _ _ _ 3275163606 [.int .u32 3275163606] from rfl) (Reps.one (show Kd.M (Kd.int .u32) _ _ _ 4107603335 [.int .u32 4107603335] from rfl) (Reps.one (show Kd.M (Kd.int .u32) _ _ _ 1163531501 [.int .u32 1163531501] from rfl) (Reps.one (show Kd.M (Kd.int .u32) _ _ _ 2850285829 [.int .u32 2850285829] from rfl) (Reps.one (show Kd.M (Kd.int .u32) _ _ _ 4243563512 [.int .u32 4243563512] from rfl) (Reps.one (show Kd.M (Kd.int .u32) _ _ _ 1735328473 [.int .u32 1735328473] from rfl) (Reps.one (show Kd.M (Kd.int .u32) _ _ _ 2368359562 [.int .u32 2368359562] from rfl) (Reps.one (show Kd.M (Kd.int .u32) _ _ _ 4294588738 [.int .u32 4294588738] from rfl) (Reps.one (show Kd.M (Kd.int .u32) _ _ _ 2272392833 [.int .u32 2272392833] from rfl) (Reps.one (show Kd.M (Kd.int .u32) _ _ _ 1839030562 [.int .u32 1839030562] from rfl) (Reps.one (show Kd.M (Kd.int .u32) _ _ _ 4259657740 [.int .u32 4259657740] from rfl) (Reps.one (show Kd.M (Kd.int .u32) _ _ _ 2763975236 [.int .u32 2763975236] from rfl) (Reps.one (show Kd.M (Kd.int .u32) _ _ _ 1272893353 [.int .u32 1272893353] from rfl) (Reps.one (show Kd.M (Kd.int .u32) _ _ _ 4139469664 [.int .u32 4139469664] from rfl) (Reps.one (show Kd.M (Kd.int .u32) _ _ _ 3200236656 [.int .u32 3200236656] from rfl) (Reps.one (show Kd.M (Kd.int .u32) _ _ _ 681279174 [.int .u32 681279174] from rfl) (Reps.one (show Kd.M (Kd.int .u32) _ _ _ 3936430074 [.int .u32 3936430074] from rfl) (Reps.one (show Kd.M (Kd.int .u32) _ _ _ 3572445317 [.int .u32 3572445317] from rfl) (Reps.one (show Kd.M (Kd.int .u32) _ _ _ 76029189 [.int .u32 76029189] from rfl) (Reps.one (show Kd.M (Kd.int .u32) _ _ _ 3654602809 [.int .u32 3654602809] from rfl) (Reps.one (show Kd.M (Kd.int .u32) _ _ _ 3873151461 [.int .u32 3873151461] from rfl) (Reps.one (show Kd.M (Kd.int .u32) _ _ _ 530742520 [.int .u32 530742520] from rfl) (Reps.one (show Kd.M (Kd.int .u32) _ _ _ 3299628645 [.int .u32 3299628645] from rfl) (Reps.one (show Kd.M (Kd.int .u32) _ _ _ 4096336452 [.int .u32 4096336452] from rfl) (Reps.one (show Kd.M (Kd.int .u32) _ _ _ 1126891415 [.int .u32 1126891415] from rfl) (Reps.one (show Kd.M (Kd.int .u32) _ _ _ 2878612391 [.int .u32 2878612391] from rfl) (Reps.one (show Kd.M (Kd.int .u32) _ _ _ 4237533241 [.int .u32 4237533241] from rfl) (Reps.one (show Kd.M (Kd.int .u32) _ _ _ 1700485571 [.int .u32 1700485571] from rfl) (Reps.one (show Kd.M (Kd.int .u32) _ _ _ 2399980690 [.int .u32 2399980690] from rfl) (Reps.one (show Kd.M (Kd.int .u32) _ _ _ 4293915773 [.int .u32 4293915773] from rfl) (Reps.one (show Kd.M (Kd.int .u32) _ _ _ 2240044497 [.int .u32 2240044497] from rfl) (Reps.one (show Kd.M (Kd.int .u32) _ _ _ 1873313359 [.int .u32 1873313359] from rfl) (Reps.one (show Kd.M (Kd.int .u32) _ _ _ 4264355552 [.int .u32 4264355552] from rfl) (Reps.one (show Kd.M (Kd.int .u32) _ _ _ 2734768916 [.int .u32 2734768916] from rfl) (Reps.one (show Kd.M (Kd.int .u32) _ _ _ 1309151649 [.int .u32 1309151649] from rfl) (Reps.one (show Kd.M (Kd.int .u32) _ _ _ 4149444226 [.int .u32 4149444226] from rfl) (Reps.one (show Kd.M (Kd.int .u32) _ _ _ 3174756917 [.int .u32 3174756917] from rfl) (Reps.one (show Kd.M (Kd.int .u32) _ _ _ 718787259 [.int .u32 718787259] from rfl) (Reps.one (show Kd.M (Kd.int .u32) _ _ _ 3951481745 [.int .u32 3951481745] from rfl) (Reps.none _ _)))))))))))))))))))))))))))))))))))))))))))))))))))))))))))))))))); intro v111 w1 ho2 hb hg_ hnew_; clear hg_ hnew_; (first | rw [← Ny110.out] at ho2 | (simp only [Int.reduceToNat] at ho2; rw [← Ny110.out] at ho2)); have n0_ := Aside0.mk (Kd.R_lower ho2 (below_size (by repeat (first | (with_reducible first | exact HB.out | apply below_alloc | apply pw_below_drewN | apply below_drew1) | exact HB.out)))); have n1_ := Aside0.mk (below_step (by repeat (first | (with_reducible first | exact HB.out | apply below_alloc | apply pw_below_drewN | apply below_drew1) | exact HB.out)) hb); clear HB; have HO112 := n0_; have HB := n1_; clear n0_ n1_; clear hb ho2))
  go_ret
  exact ⟨_, by first | rfl | (simp [errW_none, errW_some] <;> rfl) | (simp [*, errW_none, errW_some] <;> rfl), by (with_reducible repeat (first | apply Kd.R_alloc | apply Kd.R_drewN | apply Kd.R_drew)); exact HO112.out, by repeat (first | (with_reducible first | exact HB.out | apply below_alloc | apply pw_below_drewN | apply below_drew1) | exact HB.out)⟩

/-! ### halyardref05_place: function 70 -/
def halyardref05_place.f (a0 : Int) : Option (Int) := if (wrap64 (Int.tdiv a0 16)) = 0 then (some a0) else (if (wrap64 (Int.tdiv a0 16)) = 1 then (some (Int.tmod (wrap64 ((wrap64 (5 * a0)) + 1)) 16)) else (if (wrap64 (Int.tdiv a0 16)) = 2 then (some (Int.tmod (wrap64 ((wrap64 (3 * a0)) + 5)) 16)) else (some (Int.tmod (wrap64 (7 * a0)) 16))))
set_option maxHeartbeats 8000000 in
set_option maxRecDepth 100000 in
theorem halyardref05_place.calls (a0 : Int) (r : Int) (w : World) (h : halyardref05_place.f a0 = some r) :
    Calls Tryd.prog 70 #[.int .i64 a0] w fun e w' => e = .returned (.int .i64 r) ∧ Drawn0 w w' := by
  have H : (if (wrap64 (Int.tdiv a0 16)) = 0 then (some a0) else (if (wrap64 (Int.tdiv a0 16)) = 1 then (some (Int.tmod (wrap64 ((wrap64 (5 * a0)) + 1)) 16)) else (if (wrap64 (Int.tdiv a0 16)) = 2 then (some (Int.tmod (wrap64 ((wrap64 (3 * a0)) + 5)) 16)) else (some (Int.tmod (wrap64 (7 * a0)) 16))))) = some r := h
  clear h
  by_cases c2 : (wrap64 (Int.tdiv a0 16)) = 0
  · rw [if_pos c2] at H
    have c2b0 : ((wrap64 (Int.tdiv a0 16)) == 0) = true := beq_iff_eq.mpr c2
    have c2b1 : ((wrap64 (Int.tdiv a0 16)) != 0) = false := bne_eq_false_iff_eq.mpr c2
    clear c2
    obtain rfl := Option.some.inj H
    go_enter Tryd.func70, Tryd.ntmps70
    go_wp2
    go_ret
    exact ⟨by first | rfl | (simp; done) | (simp [*]; done), by repeat (first | exact Drawn0.refl _ | apply Drawn0.step)⟩
  · rw [if_neg c2] at H
    have c2b0 : ((wrap64 (Int.tdiv a0 16)) == 0) = false := beq_eq_false_iff_ne.mpr c2
    have c2b1 : ((wrap64 (Int.tdiv a0 16)) != 0) = true := bne_iff_ne.mpr c2
    by_cases c3 : (wrap64 (Int.tdiv a0 16)) = 1
    · rw [if_pos c3] at H
      have c3b0 : ((wrap64 (Int.tdiv a0 16)) == 1) = true := beq_iff_eq.mpr c3
      have c3b1 : ((wrap64 (Int.tdiv a0 16)) != 1) = false := bne_eq_false_iff_eq.mpr c3
      clear c3
      obtain rfl := Option.some.inj H
      go_enter Tryd.func70, Tryd.ntmps70
      go_wp2
      go_ret
      exact ⟨by first | rfl | (simp; done) | (simp [*]; done), by repeat (first | exact Drawn0.refl _ | apply Drawn0.step)⟩
    · rw [if_neg c3] at H
      have c3b0 : ((wrap64 (Int.tdiv a0 16)) == 1) = false := beq_eq_false_iff_ne.mpr c3
      have c3b1 : ((wrap64 (Int.tdiv a0 16)) != 1) = true := bne_iff_ne.mpr c3
      by_cases c4 : (wrap64 (Int.tdiv a0 16)) = 2
      · rw [if_pos c4] at H
        have c4b0 : ((wrap64 (Int.tdiv a0 16)) == 2) = true := beq_iff_eq.mpr c4
        have c4b1 : ((wrap64 (Int.tdiv a0 16)) != 2) = false := bne_eq_false_iff_eq.mpr c4
        clear c4
        obtain rfl := Option.some.inj H
        go_enter Tryd.func70, Tryd.ntmps70
        go_wp2
        go_ret
        exact ⟨by first | rfl | (simp; done) | (simp [*]; done), by repeat (first | exact Drawn0.refl _ | apply Drawn0.step)⟩
      · rw [if_neg c4] at H
        have c4b0 : ((wrap64 (Int.tdiv a0 16)) == 2) = false := beq_eq_false_iff_ne.mpr c4
        have c4b1 : ((wrap64 (Int.tdiv a0 16)) != 2) = true := bne_iff_ne.mpr c4
        obtain rfl := Option.some.inj H
        go_enter Tryd.func70, Tryd.ntmps70
        go_wp2
        go_ret
        exact ⟨by first | rfl | (simp; done) | (simp [*]; done), by repeat (first | exact Drawn0.refl _ | apply Drawn0.step)⟩

/-! ### halyardref05_turned: function 71 -/
def halyardref05_turned.f (a0 : Int) (a1 : Int) : Option (Int) := if 0 ≤ (IntKind.u64.wrap (a1)) then (if 0 ≤ (IntKind.u64.wrap (wrap64 (32 - a1))) then (some (((shl .u32 a0 (IntKind.u64.wrap (a1))) + (shr .u32 a0 (IntKind.u64.wrap (wrap64 (32 - a1))))) % 4294967296)) else (none)) else (none)
set_option maxHeartbeats 8000000 in
set_option maxRecDepth 100000 in
theorem halyardref05_turned.calls (a0 : Int) (a1 : Int) (r : Int) (w : World) (h : halyardref05_turned.f a0 a1 = some r) :
    Calls Tryd.prog 71 #[.int .u32 a0, .int .i64 a1] w fun e w' => e = .returned (.int .u32 r) ∧ Drawn0 w w' := by
  have H : (if 0 ≤ (IntKind.u64.wrap (a1)) then (if 0 ≤ (IntKind.u64.wrap (wrap64 (32 - a1))) then (some (((shl .u32 a0 (IntKind.u64.wrap (a1))) + (shr .u32 a0 (IntKind.u64.wrap (wrap64 (32 - a1))))) % 4294967296)) else (none)) else (none)) = some r := h
  clear h
  obtain ⟨ji3, hji3⟩ : ∃ j_ : Int, (IntKind.u64.wrap (a1)) = j_ := ⟨_, rfl⟩
  replace H : (if 0 ≤ (ji3) then (if 0 ≤ (IntKind.u64.wrap (wrap64 (32 - a1))) then (some (((shl .u32 a0 (ji3)) + (shr .u32 a0 (IntKind.u64.wrap (wrap64 (32 - a1))))) % 4294967296)) else (none)) else (none)) = some r := by first | (rw [hji3] at H; exact H) | (simp only [hji3] at H ⊢; exact H)
  by_cases c4 : 0 ≤ (ji3)
  · rw [if_pos c4] at H
    have c4b0 := eq_true c4
    have c4b1 : decide (0 ≤ (ji3)) = true := decide_eq_true c4
    clear c4
    obtain ⟨ji5, hji5⟩ : ∃ j_ : Int, (shl .u32 a0 (ji3)) = j_ := ⟨_, rfl⟩
    replace H : (if 0 ≤ (IntKind.u64.wrap (wrap64 (32 - a1))) then (some (((ji5) + (shr .u32 a0 (IntKind.u64.wrap (wrap64 (32 - a1))))) % 4294967296)) else (none)) = some r := by first | (rw [hji5] at H; exact H) | (simp only [hji5] at H ⊢; exact H)
    have hji5_ : (IntKind.u32.wrap (a0 * 2 ^ min (ji3).toNat 32)) = ji5 := hji5
    have hji5z : (ji3) ≤ 32 → (IntKind.u32.wrap (a0 * 2 ^ (ji3).toNat)) = ji5 := shl_small hji5
    obtain ⟨ji6, hji6⟩ : ∃ j_ : Int, (IntKind.u64.wrap (wrap64 (32 - a1))) = j_ := ⟨_, rfl⟩
    replace H : (if 0 ≤ (ji6) then (some (((ji5) + (shr .u32 a0 (ji6))) % 4294967296)) else (none)) = some r := by first | (rw [hji6] at H; exact H) | (simp only [hji6] at H ⊢; exact H)
    by_cases c7 : 0 ≤ (ji6)
    · rw [if_pos c7] at H
      have c7b0 := eq_true c7
      have c7b1 : decide (0 ≤ (ji6)) = true := decide_eq_true c7
      clear c7
      obtain ⟨ji8, hji8⟩ : ∃ j_ : Int, (shr .u32 a0 (ji6)) = j_ := ⟨_, rfl⟩
      replace H : (some (((ji5) + (ji8)) % 4294967296)) = some r := by first | (rw [hji8] at H; exact H) | (simp only [hji8] at H ⊢; exact H)
      have hji8_ : (a0 / 2 ^ min (ji6).toNat 32) = ji8 := hji8
      have hji8z : (ji6) ≤ 32 → (a0 / 2 ^ (ji6).toNat) = ji8 := shr_small hji8
      obtain rfl := Option.some.inj H
      go_enter Tryd.func71, Tryd.ntmps71
      go_wp2
      go_ret
      exact ⟨by first | rfl | (simp; done) | (simp only [← hji3, ← hji5, ← hji6, ← hji8] <;> (first | rfl | simp)) | (simp [*]; done), by repeat (first | exact Drawn0.refl _ | apply Drawn0.step)⟩
    · rw [if_neg c7] at H
      exact absurd H (by simp)
  · rw [if_neg c4] at H
    exact absurd H (by simp)

/-! ### halyardref05_by: function 73 -/
def halyardref05_by.f (a0 : Int) : Option (Int) := (some (([7, 12, 17, 22, 5, 9, 14, 20, 4, 11, 16, 23, 6, 10, 15, 21] : List Int) : List Int)).bind fun y113 => (if 0 ≤ (wrap64 ((wrap64 (4 * (wrap64 (Int.tdiv a0 16)))) + (Int.tmod a0 4))) then (if (wrap64 ((wrap64 (4 * (wrap64 (Int.tdiv a0 16)))) + (Int.tmod a0 4))) < (y113.length : Int) then (some (rd y113 (wrap64 ((wrap64 (4 * (wrap64 (Int.tdiv a0 16)))) + (Int.tmod a0 4))))) else (none)) else (none))
set_option maxHeartbeats 8000000 in
set_option maxRecDepth 100000 in
theorem halyardref05_by.calls (a0 : Int) (r : Int) (w : World) (h : halyardref05_by.f a0 = some r) :
    Calls Tryd.prog 73 #[.int .i64 a0] w fun e w' => e = .returned (.int .i64 r) ∧ Below w.heap.size w w' := by
  have HB := Aside0.mk (Below.refl w.heap.size w)
  have H : ((some (([7, 12, 17, 22, 5, 9, 14, 20, 4, 11, 16, 23, 6, 10, 15, 21] : List Int) : List Int)).bind fun y113 => (if 0 ≤ (wrap64 ((wrap64 (4 * (wrap64 (Int.tdiv a0 16)))) + (Int.tmod a0 4))) then (if (wrap64 ((wrap64 (4 * (wrap64 (Int.tdiv a0 16)))) + (Int.tmod a0 4))) < (y113.length : Int) then (some (rd y113 (wrap64 ((wrap64 (4 * (wrap64 (Int.tdiv a0 16)))) + (Int.tmod a0 4))))) else (none)) else (none))) = some r := h
  clear h
  obtain ⟨y113, hy113⟩ : ∃ y_ : List Int, y_ = (([7, 12, 17, 22, 5, 9, 14, 20, 4, 11, 16, 23, 6, 10, 15, 21] : List Int)) := ⟨_, rfl⟩
  replace H : (if 0 ≤ (wrap64 ((wrap64 (4 * (wrap64 (Int.tdiv a0 16)))) + (Int.tmod a0 4))) then (if (wrap64 ((wrap64 (4 * (wrap64 (Int.tdiv a0 16)))) + (Int.tmod a0 4))) < (y113.length : Int) then (some (rd y113 (wrap64 ((wrap64 (4 * (wrap64 (Int.tdiv a0 16)))) + (Int.tmod a0 4))))) else (none)) else (none)) = some r := by first | (rw [hy113]; with_reducible exact H) | (have H2_ := (Option.bind_some _ _).symm.trans H; rw [hy113]; with_reducible exact H2_) | (have H2_ := (Option.bind_some _ _).symm.trans H; with_reducible exact H2_) | with_reducible exact H | (rw [hy113]; exact H) | exact H
  have Ny113 := Aside0.mk hy113
  clear hy113
  obtain ⟨ji2, hji2⟩ : ∃ j_ : Int, (wrap64 ((wrap64 (4 * (wrap64 (Int.tdiv a0 16)))) + (Int.tmod a0 4))) = j_ := ⟨_, rfl⟩
  replace H : (if 0 ≤ (ji2) then (if (ji2) < (y113.length : Int) then (some (rd y113 (ji2))) else (none)) else (none)) = some r := by first | (rw [hji2] at H; exact H) | (simp only [hji2] at H ⊢; exact H)
  have hji2w : (IntKind.i64.wrap ((wrap64 (4 * (wrap64 (Int.tdiv a0 16)))) + (Int.tmod a0 4))) = ji2 := (i64_w _).trans hji2
  by_cases c3 : 0 ≤ (ji2)
  · rw [if_pos c3] at H
    have c3b0 : decide (0 ≤ (ji2)) = true := decide_eq_true c3
    clear c3
    by_cases c4 : (ji2) < (y113.length : Int)
    · rw [if_pos c4] at H
      have c4b0 : decide ((ji2) < (y113.length : Int)) = true := decide_eq_true c4
      clear c4
      obtain rfl := Option.some.inj H
      go_enter Tryd.func73, Tryd.ntmps73
      go_wp2_with (first | ((with_reducible refine gate_dst (N := 4) rfl ?_); refine Kd.R_lit (Kd.int .i64) _ 3 ?hg (N := 4) ?hd (xs := ([7, 12, 17, 22, 5, 9, 14, 20, 4, 11, 16, 23, 6, 10, 15, 21] : List Int)) (inner := [.int .i64 7, .int .i64 12, .int .i64 17, .int .i64 22, .int .i64 5, .int .i64 9, .int .i64 14, .int .i64 20, .int .i64 4, .int .i64 11, .int .i64 16, .int .i64 23, .int .i64 6, .int .i64 10, .int .i64 15, .int .i64 21]) (ok := fun _ => True) (okp := fun _ => True) ?hr ?hp (fun _ hk => hk) trivial (Below.refl _ _) (Nat.le_refl _) (by simp) ?_; (case hd => rfl); (case hg => rfl); (case hr => first | (go_simp; done) | (go_simp; rfl)); (case hp => exact (Reps.one (show Kd.M (Kd.int .i64) _ _ _ 7 [.int .i64 7] from rfl) (Reps.one (show Kd.M (Kd.int .i64) _ _ _ 12 [.int .i64 12] from rfl) (Reps.one (show Kd.M (Kd.int .i64) _ _ _ 17 [.int .i64 17] from rfl) (Reps.one (show Kd.M (Kd.int .i64) _ _ _ 22 [.int .i64 22] from rfl) (Reps.one (show Kd.M (Kd.int .i64) _ _ _ 5 [.int .i64 5] from rfl) (Reps.one (show Kd.M (Kd.int .i64) _ _ _ 9 [.int .i64 9] from rfl) (Reps.one (show Kd.M (Kd.int .i64) _ _ _ 14 [.int .i64 14] from rfl) (Reps.one (show Kd.M (Kd.int .i64) _ _ _ 20 [.int .i64 20] from rfl) (Reps.one (show Kd.M (Kd.int .i64) _ _ _ 4 [.int .i64 4] from rfl) (Reps.one (show Kd.M (Kd.int .i64) _ _ _ 11 [.int .i64 11] from rfl) (Reps.one (show Kd.M (Kd.int .i64) _ _ _ 16 [.int .i64 16] from rfl) (Reps.one (show Kd.M (Kd.int .i64) _ _ _ 23 [.int .i64 23] from rfl) (Reps.one (show Kd.M (Kd.int .i64) _ _ _ 6 [.int .i64 6] from rfl) (Reps.one (show Kd.M (Kd.int .i64) _ _ _ 10 [.int .i64 10] from rfl) (Reps.one (show Kd.M (Kd.int .i64) _ _ _ 15 [.int .i64 15] from rfl) (Reps.one (show Kd.M (Kd.int .i64) _ _ _ 21 [.int .i64 21] from rfl) (Reps.none _ _)))))))))))))))))); intro v114 w5 ho6 hb hg_ hnew_; clear hg_ hnew_; (first | rw [← Ny113.out] at ho6 | (simp only [Int.reduceToNat] at ho6; rw [← Ny113.out] at ho6)); have n0_ := Aside0.mk (Kd.R_lower ho6 (below_size (by repeat (first | (with_reducible first | exact HB.out | apply below_alloc | apply pw_below_drewN | apply below_drew1) | exact HB.out)))); have n1_ := Aside0.mk (below_step (by repeat (first | (with_reducible first | exact HB.out | apply below_alloc | apply pw_below_drewN | apply below_drew1) | exact HB.out)) hb); clear HB; have HO115 := n0_; have HB := n1_; clear n0_ n1_; clear hb ho6; obtain ⟨Ao7, co7, eo7⟩ := Kd.R_slice HO115.out; subst eo7; have p116 : 0 ≤ ((ji2) : Int) := of_decide_eq_true (by first | (with_reducible assumption) | assumption); have q116 : (ji2) < (y113.length : Int) := of_decide_eq_true (by first | (with_reducible assumption) | assumption); obtain ⟨ad116, e116, hx116_0⟩ := Kd.at_int (Kd.R_reads' HO115.out).2.2 (ji2) p116 q116; cases e116; replace p116 := eq_true p116; replace q116 := eq_true q116))
      go_ret
      exact ⟨by first | rfl | (simp [errW_none, errW_some] <;> rfl) | (simp only [← hji2]; first | rfl | (simp [errW_none, errW_some] <;> rfl)) | (simp [*, errW_none, errW_some] <;> rfl), by repeat (first | (with_reducible first | exact HB.out | apply below_alloc | apply pw_below_drewN | apply below_drew1) | exact HB.out)⟩
    · rw [if_neg c4] at H
      exact absurd H (by simp)
  · rw [if_neg c3] at H
    exact absurd H (by simp)

/-! ### halyardlaw05_long: function 15 -/
def halyardlaw05_long.l0 : Nat → List ByteArray → Int → Int → Option (Bool)
  | 0, _, _, _ => none
  | k + 1, x0, x3, x4 => if x4 < (x0.length : Int) then (if x4 < 100 then (if 0 ≤ x4 then (halyardlaw05_long.l0 k x0 (wrap64 (x3 + ((rdOf ByteArray.empty x0 x4).size : Int))) (wrap64 (x4 + 1))) else (none)) else (if (x0.length : Int) > 60 then (some true) else (some (decide (x3 > 8192))))) else (if (x0.length : Int) > 60 then (some true) else (some (decide (x3 > 8192))))
def halyardlaw05_long.f (k : Nat) (l0 : List ByteArray) : Option (Bool) := halyardlaw05_long.l0 k l0 0 0
theorem halyardlaw05_long.mono_l : ∀ k, (∀ y0 y1 y2, LeO (halyardlaw05_long.l0 k y0 y1 y2) (halyardlaw05_long.l0 (k + 1) y0 y1 y2))
  | 0 => fun _ _ _ r h => by simp [halyardlaw05_long.l0] at h
  | k + 1 => by
    have ih0 := halyardlaw05_long.mono_l k
    · intro y0 y1 y2
      unfold halyardlaw05_long.l0
      repeat' first
      | (with_reducible exact ih0 _ _ _)
      | (with_reducible exact LeO.refl _)
      | (with_reducible exact LeO.none _)
      | (with_reducible refine LeO.ite ?_ ?_)
      | (with_reducible refine LeO.bind ?_ (fun _ => ?_))
      | exact ih0 _ _ _
      | exact LeO.none _
      | refine LeO.ite ?_ ?_
      | refine LeO.bind ?_ (fun _ => ?_)
theorem halyardlaw05_long.mono : ∀ a0 k, LeO (halyardlaw05_long.f k a0) (halyardlaw05_long.f (k + 1) a0) := by
  intro a0 k
  have ih0 := halyardlaw05_long.mono_l k
  unfold halyardlaw05_long.f
  repeat' first
      | (with_reducible exact ih0 _ _ _)
      | (with_reducible exact LeO.refl _)
      | (with_reducible exact LeO.none _)
      | (with_reducible refine LeO.ite ?_ ?_)
      | (with_reducible refine LeO.bind ?_ (fun _ => ?_))
      | exact ih0 _ _ _
      | exact LeO.none _
      | refine LeO.ite ?_ ?_
      | refine LeO.bind ?_ (fun _ => ?_)
set_option maxHeartbeats 8000000 in
set_option maxRecDepth 100000 in
theorem halyardlaw05_long.calls (k : Nat) (A0 : Option Addr) (c0 : Nat) (l0 : List ByteArray) (r : Bool) (w : World) (hr0 : Kd.C Kd.string w A0 l0.length l0) (hc0 : l0.length ≤ c0) (h : halyardlaw05_long.f k l0 = some r) :
    Calls Tryd.prog 15 #[.slice A0 l0.length c0] w fun e w' => e = .returned (.bool r) ∧ Drawn0 w w' := by
  have HR0 := Aside0.mk hr0
  have HC0 := Aside0.mk hc0
  clear hr0 hc0
  have H : (halyardlaw05_long.l0 k l0 0 0) = some r := h
  clear h
  have H' := Aside0.mk H
  clear H
  go_enter Tryd.func15, Tryd.ntmps15
  go_wp2
  go_loopg [3, 4] k (fun kq v3 v4 w' => ∃ (x3_1 : Int) (x4_1 : Int), v3 = .int .i64 x3_1 ∧ v4 = .int .i64 x4_1 ∧ Aside0 (halyardlaw05_long.l0 kq l0 x3_1 x4_1 = some r) ∧ Aside0 (kq ≤ k) ∧ Drawn0 w w')
  case atStart => exact ⟨(0), (0), (by first | rfl | (simp; done) | (simp [*]; done)), (by first | rfl | (simp; done) | (simp [*]; done)), H', ⟨Nat.le_refl _⟩, by repeat (first | exact Drawn0.refl _ | apply Drawn0.step)⟩
  case round =>
    clear H'
    try clear c1
    obtain ⟨x3_1, x4_1, rfl, rfl, HA, HK1, ⟨m1, rfl⟩⟩ := hrel
    cases gk with
    | zero => exact absurd HA.out (by simp [halyardlaw05_long.l0])
    | succ k1 =>
      have H := HA.out
      clear HA
      simp only [halyardlaw05_long.l0] at H
      by_cases c2 : x4_1 < (l0.length : Int)
      · rw [if_pos c2] at H
        have c2b0 : decide (x4_1 < (l0.length : Int)) = true := decide_eq_true c2
        clear c2
        by_cases c3 : x4_1 < 100
        · rw [if_pos c3] at H
          have c3b0 : decide (x4_1 < 100) = true := decide_eq_true c3
          clear c3
          by_cases c4 : 0 ≤ x4_1
          · rw [if_pos c4] at H
            have c4b0 : decide (0 ≤ x4_1) = true := decide_eq_true c4
            clear c4
            have H' := Aside0.mk H
            clear H
            have p134 : 0 ≤ (x4_1 : Int) := of_decide_eq_true (by first | (with_reducible assumption) | assumption)
            have q134 : x4_1 < (l0.length : Int) := of_decide_eq_true (by first | (with_reducible assumption) | assumption)
            obtain ⟨ad134, e134, hx134_0⟩ := Kd.at_string HR0.out x4_1 p134 q134
            cases e134
            replace p134 := eq_true p134
            replace q134 := eq_true q134
            go_wp2
            go_roundg k1
            case measure => have := HK1.out; omega
            case rel => exact ⟨(wrap64 (x3_1 + ((rdOf ByteArray.empty l0 x4_1).size : Int))), (wrap64 (x4_1 + 1)), (by first | rfl | (simp; done) | (simp [*]; done)), (by first | rfl | (simp; done) | (simp [*]; done)), H', ⟨by have := HK1.out; omega⟩, by repeat (first | exact Drawn0.refl _ | apply Drawn0.step)⟩
          · rw [if_neg c4] at H
            exact absurd H (by simp)
        · rw [if_neg c3] at H
          have c3b0 : decide (x4_1 < 100) = false := decide_eq_false c3
          clear c3
          by_cases c5 : (l0.length : Int) > 60
          · rw [if_pos c5] at H
            have c5b0 : decide (60 < (l0.length : Int)) = true := decide_eq_true c5
            have c5b1 : decide (60 < l0.length) = true := decide_eq_true (by omega)
            clear c5
            obtain rfl := Option.some.inj H
            go_wp2
            go_ret
            exact ⟨by first | rfl | (simp; done) | (simp [*]; done), by repeat (first | exact Drawn0.refl _ | apply Drawn0.step)⟩
          · rw [if_neg c5] at H
            have c5b0 : decide (60 < (l0.length : Int)) = false := decide_eq_false c5
            have c5b1 : decide (60 < l0.length) = false := decide_eq_false (by omega)
            clear c5
            obtain rfl := Option.some.inj H
            go_wp2
            go_ret
            exact ⟨by first | rfl | (simp; done) | (simp [*]; done), by repeat (first | exact Drawn0.refl _ | apply Drawn0.step)⟩
      · rw [if_neg c2] at H
        have c2b0 : decide (x4_1 < (l0.length : Int)) = false := decide_eq_false c2
        clear c2
        by_cases c6 : (l0.length : Int) > 60
        · rw [if_pos c6] at H
          have c6b0 : decide (60 < (l0.length : Int)) = true := decide_eq_true c6
          have c6b1 : decide (60 < l0.length) = true := decide_eq_true (by omega)
          clear c6
          obtain rfl := Option.some.inj H
          go_wp2
          go_ret
          exact ⟨by first | rfl | (simp; done) | (simp [*]; done), by repeat (first | exact Drawn0.refl _ | apply Drawn0.step)⟩
        · rw [if_neg c6] at H
          have c6b0 : decide (60 < (l0.length : Int)) = false := decide_eq_false c6
          have c6b1 : decide (60 < l0.length) = false := decide_eq_false (by omega)
          clear c6
          obtain rfl := Option.some.inj H
          go_wp2
          go_ret
          exact ⟨by first | rfl | (simp; done) | (simp [*]; done), by repeat (first | exact Drawn0.refl _ | apply Drawn0.step)⟩

/-! ### halyardlaw05_all: function 16 -/
def halyardlaw05_all.l0 : Nat → List ByteArray → ByteArray → Int → Option (ByteArray)
  | 0, _, _, _ => none
  | k + 1, x0, x3, x4 => if x4 < (x0.length : Int) then (if 0 ≤ x4 then (if x3.size + (rdOf ByteArray.empty x0 x4).size ≤ 9223372036854775807 then (halyardlaw05_all.l0 k x0 (x3 ++ (rdOf ByteArray.empty x0 x4)) (wrap64 (x4 + 1))) else (none)) else (none)) else (some x3)
def halyardlaw05_all.f (k : Nat) (l0 : List ByteArray) : Option (ByteArray) := halyardlaw05_all.l0 k l0 (⟨#[]⟩ : ByteArray) 0
theorem halyardlaw05_all.mono_l : ∀ k, (∀ y0 y1 y2, LeO (halyardlaw05_all.l0 k y0 y1 y2) (halyardlaw05_all.l0 (k + 1) y0 y1 y2))
  | 0 => fun _ _ _ r h => by simp [halyardlaw05_all.l0] at h
  | k + 1 => by
    have ih0 := halyardlaw05_all.mono_l k
    · intro y0 y1 y2
      unfold halyardlaw05_all.l0
      repeat' first
      | (with_reducible exact ih0 _ _ _)
      | (with_reducible exact LeO.refl _)
      | (with_reducible exact LeO.none _)
      | (with_reducible refine LeO.ite ?_ ?_)
      | (with_reducible refine LeO.bind ?_ (fun _ => ?_))
      | exact ih0 _ _ _
      | exact LeO.none _
      | refine LeO.ite ?_ ?_
      | refine LeO.bind ?_ (fun _ => ?_)
theorem halyardlaw05_all.mono : ∀ a0 k, LeO (halyardlaw05_all.f k a0) (halyardlaw05_all.f (k + 1) a0) := by
  intro a0 k
  have ih0 := halyardlaw05_all.mono_l k
  unfold halyardlaw05_all.f
  repeat' first
      | (with_reducible exact ih0 _ _ _)
      | (with_reducible exact LeO.refl _)
      | (with_reducible exact LeO.none _)
      | (with_reducible refine LeO.ite ?_ ?_)
      | (with_reducible refine LeO.bind ?_ (fun _ => ?_))
      | exact ih0 _ _ _
      | exact LeO.none _
      | refine LeO.ite ?_ ?_
      | refine LeO.bind ?_ (fun _ => ?_)
set_option maxHeartbeats 8000000 in
set_option maxRecDepth 100000 in
theorem halyardlaw05_all.calls (k : Nat) (A0 : Option Addr) (c0 : Nat) (l0 : List ByteArray) (r : ByteArray) (w : World) (hr0 : Kd.C Kd.string w A0 l0.length l0) (hc0 : l0.length ≤ c0) (h : halyardlaw05_all.f k l0 = some r) :
    Calls Tryd.prog 16 #[.slice A0 l0.length c0] w fun e w' => e = .returned (.string r) ∧ Drawn0 w w' := by
  have HR0 := Aside0.mk hr0
  have HC0 := Aside0.mk hc0
  clear hr0 hc0
  have H : (halyardlaw05_all.l0 k l0 (⟨#[]⟩ : ByteArray) 0) = some r := h
  clear h
  have H' := Aside0.mk H
  clear H
  go_enter Tryd.func16, Tryd.ntmps16
  go_wp2
  go_loopg [3, 4] k (fun kq v3 v4 w' => ∃ (x3_1 : ByteArray) (x4_1 : Int), v3 = .string x3_1 ∧ v4 = .int .i64 x4_1 ∧ Aside0 (halyardlaw05_all.l0 kq l0 x3_1 x4_1 = some r) ∧ Aside0 (kq ≤ k) ∧ Drawn0 w w')
  case atStart => exact ⟨((⟨#[]⟩ : ByteArray)), (0), (by first | rfl | (simp; done) | (simp [*]; done)), (by first | rfl | (simp; done) | (simp [*]; done)), H', ⟨Nat.le_refl _⟩, by repeat (first | exact Drawn0.refl _ | apply Drawn0.step)⟩
  case round =>
    clear H'
    try clear c1
    obtain ⟨x3_1, x4_1, rfl, rfl, HA, HK1, ⟨m1, rfl⟩⟩ := hrel
    cases gk with
    | zero => exact absurd HA.out (by simp [halyardlaw05_all.l0])
    | succ k1 =>
      have H := HA.out
      clear HA
      simp only [halyardlaw05_all.l0] at H
      by_cases c2 : x4_1 < (l0.length : Int)
      · rw [if_pos c2] at H
        have c2b0 : decide (x4_1 < (l0.length : Int)) = true := decide_eq_true c2
        clear c2
        by_cases c3 : 0 ≤ x4_1
        · rw [if_pos c3] at H
          have c3b0 : decide (0 ≤ x4_1) = true := decide_eq_true c3
          clear c3
          by_cases c4 : x3_1.size + (rdOf ByteArray.empty l0 x4_1).size ≤ 9223372036854775807
          · rw [if_pos c4] at H
            have c4b0 := eq_true c4
            have c4b1 : decide (x3_1.size + (rdOf ByteArray.empty l0 x4_1).size ≤ 9223372036854775807) = true := decide_eq_true c4
            try have c4b2 : (9223372036854775807 < x3_1.size + (rdOf ByteArray.empty l0 x4_1).size) = False := eq_false (Nat.not_lt.2 c4)
            have H' := Aside0.mk H
            clear H
            have p135 : 0 ≤ (x4_1 : Int) := of_decide_eq_true (by first | (with_reducible assumption) | assumption)
            have q135 : x4_1 < (l0.length : Int) := of_decide_eq_true (by first | (with_reducible assumption) | assumption)
            obtain ⟨ad135, e135, hx135_0⟩ := Kd.at_string HR0.out x4_1 p135 q135
            cases e135
            replace p135 := eq_true p135
            replace q135 := eq_true q135
            go_wp2
            go_roundg k1
            case measure => have := HK1.out; omega
            case rel => exact ⟨(x3_1 ++ (rdOf ByteArray.empty l0 x4_1)), (wrap64 (x4_1 + 1)), (by first | rfl | (simp; done) | (simp [*]; done)), (by first | rfl | (simp; done) | (simp [*]; done)), H', ⟨by have := HK1.out; omega⟩, by repeat (first | exact Drawn0.refl _ | apply Drawn0.step)⟩
          · rw [if_neg c4] at H
            exact absurd H (by simp)
        · rw [if_neg c3] at H
          exact absurd H (by simp)
      · rw [if_neg c2] at H
        have c2b0 : decide (x4_1 < (l0.length : Int)) = false := decide_eq_false c2
        clear c2
        obtain rfl := Option.some.inj H
        go_wp2
        go_ret
        exact ⟨by first | rfl | (simp; done) | (simp [*]; done), by repeat (first | exact Drawn0.refl _ | apply Drawn0.step)⟩

end Go.Proofs.YtmhlebnomagekaaDoor.PM
