/- The contracts of package record over this seat's translation, by hand. -/
import Derived.Test.YtmhlebnomagekaaOctet
import Derived.Test.YtmhlebnomagekaaKit
import Derived.Test.YtmhlebnomagekaaPAx2
import Derived.Laws.ResultCell
set_option linter.unusedVariables false
set_option linter.unusedSimpArgs false
namespace Go.Proofs.Ytmhlebnomagekaa
open Go.RowKit Go.Proofs.YtmhlebnomagekaaW.PrintWords Go.Proofs.Ytmhlebnomagekaa.PA
attribute [local go_sem] alloc_drewN setCell_drewN size_more cell_more frozen_more setCell_more drewN_more drew_more more_drewN more_drew more_more

def okSub (a b c : ByteArray) (n : Int) : Bool := decide (1 ≤ a.size ∧ a.size ≤ 32 ∧ 1 ≤ c.size ∧ c.size ≤ 32 ∧ b.size ≤ 32 ∧ n ≠ 0)
theorem okSub_iff {a b c : ByteArray} {n : Int} : okSub a b c n = true ↔ 1 ≤ a.size ∧ a.size ≤ 32 ∧ 1 ≤ c.size ∧ c.size ≤ 32 ∧ b.size ≤ 32 ∧ n ≠ 0 := by simp [okSub]

set_option maxHeartbeats 4000000 in
set_option maxRecDepth 100000 in
theorem read_bad1 (s a b c r1 r2 r3 : ByteArray) (w : World) (h1 : octet_Read8.f s = some (⟨#[]⟩, ⟨#[]⟩, 6))  :
    Calls Try.prog 14 #[.string s] w fun e w' => e = .returned (.tuple #[.agg #[.string ⟨#[]⟩, .string ⟨#[]⟩, .string ⟨#[]⟩, .int .u32 0, .bool false], .int .i64 7]) ∧ Below w.heap.size w w' := by
  have H1 := Aside0.mk h1
  clear h1
  go_enter Try.func14, Try.ntmps14
  go_wp2
  go_step3
  go_wp2
  go_step3
  go_wp2
  refine wp_loop_rounds 4 ?_
  rw [rounds_succ]
  go_wp2_with (first | (go_at_call 61; refine (octet_Read8.calls _ _ _ _ _ H1.out).mono ?_; rintro e w' ⟨rfl, ⟨⟨nd, rfl⟩⟩⟩))
  rw [Exit.noGoto_ret]
  exact bodyPost_ret (v := .tuple #[.agg #[.string ⟨#[]⟩, .string ⟨#[]⟩, .string ⟨#[]⟩, .int .u32 0, .bool false], .int .i64 7]) (by simp [results, Try.results14, go_sem]) rfl ⟨rfl, by
    repeat (with_reducible first | exact Below.refl _ _ | apply below_drewN' | apply Below.drew | refine below_of_more ?_ (by simp <;> omega) _ _ | refine Below.alloc ?_ (by simp <;> omega) _ | refine Below.setCell ?_ (Nat.le_refl _) _ | refine Below.setCell ?_ (by simp <;> omega) _)⟩

set_option maxHeartbeats 4000000 in
set_option maxRecDepth 100000 in
theorem read_bad2 (s a b c r1 r2 r3 : ByteArray) (w : World) (h1 : octet_Read8.f s = some (a, r1, 0)) (h2 : octet_Read8.f r1 = some (⟨#[]⟩, ⟨#[]⟩, 6))  :
    Calls Try.prog 14 #[.string s] w fun e w' => e = .returned (.tuple #[.agg #[.string ⟨#[]⟩, .string ⟨#[]⟩, .string ⟨#[]⟩, .int .u32 0, .bool false], .int .i64 7]) ∧ Below w.heap.size w w' := by
  have H1 := Aside0.mk h1
  clear h1
  have H2 := Aside0.mk h2
  clear h2
  go_enter Try.func14, Try.ntmps14
  go_wp2
  go_step3
  go_wp2
  go_step3
  go_wp2
  refine wp_loop_rounds 4 ?_
  rw [rounds_succ]
  go_wp2_with (first | (go_at_call 61; refine (octet_Read8.calls _ _ _ _ _ H1.out).mono ?_; rintro e w' ⟨rfl, ⟨⟨nd, rfl⟩⟩⟩))
  rw [rounds_succ]
  go_wp2_with (first | (go_at_call 61; refine (octet_Read8.calls _ _ _ _ _ H2.out).mono ?_; rintro e w' ⟨rfl, ⟨⟨nd, rfl⟩⟩⟩))
  rw [Exit.noGoto_ret]
  exact bodyPost_ret (v := .tuple #[.agg #[.string ⟨#[]⟩, .string ⟨#[]⟩, .string ⟨#[]⟩, .int .u32 0, .bool false], .int .i64 7]) (by simp [results, Try.results14, go_sem]) rfl ⟨rfl, by
    repeat (with_reducible first | exact Below.refl _ _ | apply below_drewN' | apply Below.drew | refine below_of_more ?_ (by simp <;> omega) _ _ | refine Below.alloc ?_ (by simp <;> omega) _ | refine Below.setCell ?_ (Nat.le_refl _) _ | refine Below.setCell ?_ (by simp <;> omega) _)⟩

set_option maxHeartbeats 4000000 in
set_option maxRecDepth 100000 in
theorem read_bad3 (s a b c r1 r2 r3 : ByteArray) (w : World) (h1 : octet_Read8.f s = some (a, r1, 0)) (h2 : octet_Read8.f r1 = some (b, r2, 0)) (h3 : octet_Read8.f r2 = some (⟨#[]⟩, ⟨#[]⟩, 6))  :
    Calls Try.prog 14 #[.string s] w fun e w' => e = .returned (.tuple #[.agg #[.string ⟨#[]⟩, .string ⟨#[]⟩, .string ⟨#[]⟩, .int .u32 0, .bool false], .int .i64 7]) ∧ Below w.heap.size w w' := by
  have H1 := Aside0.mk h1
  clear h1
  have H2 := Aside0.mk h2
  clear h2
  have H3 := Aside0.mk h3
  clear h3
  go_enter Try.func14, Try.ntmps14
  go_wp2
  go_step3
  go_wp2
  go_step3
  go_wp2
  refine wp_loop_rounds 4 ?_
  rw [rounds_succ]
  go_wp2_with (first | (go_at_call 61; refine (octet_Read8.calls _ _ _ _ _ H1.out).mono ?_; rintro e w' ⟨rfl, ⟨⟨nd, rfl⟩⟩⟩))
  rw [rounds_succ]
  go_wp2_with (first | (go_at_call 61; refine (octet_Read8.calls _ _ _ _ _ H2.out).mono ?_; rintro e w' ⟨rfl, ⟨⟨nd, rfl⟩⟩⟩))
  rw [rounds_succ]
  go_wp2_with (first | (go_at_call 61; refine (octet_Read8.calls _ _ _ _ _ H3.out).mono ?_; rintro e w' ⟨rfl, ⟨⟨nd, rfl⟩⟩⟩))
  rw [Exit.noGoto_ret]
  exact bodyPost_ret (v := .tuple #[.agg #[.string ⟨#[]⟩, .string ⟨#[]⟩, .string ⟨#[]⟩, .int .u32 0, .bool false], .int .i64 7]) (by simp [results, Try.results14, go_sem]) rfl ⟨rfl, by
    repeat (with_reducible first | exact Below.refl _ _ | apply below_drewN' | apply Below.drew | refine below_of_more ?_ (by simp <;> omega) _ _ | refine Below.alloc ?_ (by simp <;> omega) _ | refine Below.setCell ?_ (Nat.le_refl _) _ | refine Below.setCell ?_ (by simp <;> omega) _)⟩

set_option maxHeartbeats 4000000 in
set_option maxRecDepth 100000 in
theorem read_size (s a b c r1 r2 r3 : ByteArray) (w : World) (h1 : octet_Read8.f s = some (a, r1, 0)) (h2 : octet_Read8.f r1 = some (b, r2, 0)) (h3 : octet_Read8.f r2 = some (c, r3, 0)) (hz : ¬ r3.size = 5) :
    Calls Try.prog 14 #[.string s] w fun e w' => e = .returned (.tuple #[.agg #[.string ⟨#[]⟩, .string ⟨#[]⟩, .string ⟨#[]⟩, .int .u32 0, .bool false], .int .i64 7]) ∧ Below w.heap.size w w' := by
  have H1 := Aside0.mk h1
  clear h1
  have H2 := Aside0.mk h2
  clear h2
  have H3 := Aside0.mk h3
  clear h3
  have z0 : ((r3.size : Int) == 5) = false := by simp; omega
  have z1 : ((r3.size : Int) != 5) = true := by simp; omega
  clear hz
  go_enter Try.func14, Try.ntmps14
  go_wp2
  go_step3
  go_wp2
  go_step3
  go_wp2
  refine wp_loop_rounds 4 ?_
  rw [rounds_succ]
  go_wp2_with (first | (go_at_call 61; refine (octet_Read8.calls _ _ _ _ _ H1.out).mono ?_; rintro e w' ⟨rfl, ⟨⟨nd, rfl⟩⟩⟩))
  rw [rounds_succ]
  go_wp2_with (first | (go_at_call 61; refine (octet_Read8.calls _ _ _ _ _ H2.out).mono ?_; rintro e w' ⟨rfl, ⟨⟨nd, rfl⟩⟩⟩))
  rw [rounds_succ]
  go_wp2_with (first | (go_at_call 61; refine (octet_Read8.calls _ _ _ _ _ H3.out).mono ?_; rintro e w' ⟨rfl, ⟨⟨nd, rfl⟩⟩⟩))
  rw [rounds_succ]
  go_wp2_with (first | fail)
  rw [Exit.noGoto_ret]
  exact bodyPost_ret (v := .tuple #[.agg #[.string ⟨#[]⟩, .string ⟨#[]⟩, .string ⟨#[]⟩, .int .u32 0, .bool false], .int .i64 7]) (by simp [results, Try.results14, go_sem]) rfl ⟨rfl, by
    repeat (with_reducible first | exact Below.refl _ _ | apply below_drewN' | apply Below.drew | refine below_of_more ?_ (by simp <;> omega) _ _ | refine Below.alloc ?_ (by simp <;> omega) _ | refine Below.setCell ?_ (Nat.le_refl _) _ | refine Below.setCell ?_ (by simp <;> omega) _)⟩

set_option maxHeartbeats 4000000 in
set_option maxRecDepth 100000 in
theorem read_big (s a b c r1 r2 r3 : ByteArray) (w : World) (h1 : octet_Read8.f s = some (a, r1, 0)) (h2 : octet_Read8.f r1 = some (b, r2, 0)) (h3 : octet_Read8.f r2 = some (c, r3, 0)) (hz : r3.size = 5) (hb : 1 < bt r3 4) :
    Calls Try.prog 14 #[.string s] w fun e w' => e = .returned (.tuple #[.agg #[.string ⟨#[]⟩, .string ⟨#[]⟩, .string ⟨#[]⟩, .int .u32 0, .bool false], .int .i64 7]) ∧ Below w.heap.size w w' := by
  have H1 := Aside0.mk h1
  clear h1
  have H2 := Aside0.mk h2
  clear h2
  have H3 := Aside0.mk h3
  clear h3
  have zz : (r3.size : Int) = 5 := by omega
  have z0 : ((r3.size : Int) == 5) = true := by simp [zz]
  have z1 : ((r3.size : Int) != 5) = false := by simp [zz]
  have z2 : (4 : Nat) < r3.size := by omega
  have z3 := eq_true z2
  have z4 : (4 : Int) < (r3.size : Int) := by omega
  have z5 := eq_true z4
  have hx : ∀ h : 4 < r3.size, ((r3[4]'h).toNat : Int) = bt r3 4 := bt_at r3 4
  have b0 : decide (1 < bt r3 4) = true := decide_eq_true hb
  clear hz zz z2 z4 hb
  go_enter Try.func14, Try.ntmps14
  go_wp2
  go_step3
  go_wp2
  go_step3
  go_wp2
  refine wp_loop_rounds 4 ?_
  rw [rounds_succ]
  go_wp2_with (first | (go_at_call 61; refine (octet_Read8.calls _ _ _ _ _ H1.out).mono ?_; rintro e w' ⟨rfl, ⟨⟨nd, rfl⟩⟩⟩))
  rw [rounds_succ]
  go_wp2_with (first | (go_at_call 61; refine (octet_Read8.calls _ _ _ _ _ H2.out).mono ?_; rintro e w' ⟨rfl, ⟨⟨nd, rfl⟩⟩⟩))
  rw [rounds_succ]
  go_wp2_with (first | (go_at_call 61; refine (octet_Read8.calls _ _ _ _ _ H3.out).mono ?_; rintro e w' ⟨rfl, ⟨⟨nd, rfl⟩⟩⟩))
  rw [rounds_succ]
  go_wp2_with (first | fail)
  rw [Exit.noGoto_ret]
  exact bodyPost_ret (v := .tuple #[.agg #[.string ⟨#[]⟩, .string ⟨#[]⟩, .string ⟨#[]⟩, .int .u32 0, .bool false], .int .i64 7]) (by simp [results, Try.results14, go_sem]) rfl ⟨rfl, by
    repeat (with_reducible first | exact Below.refl _ _ | apply below_drewN' | apply Below.drew | refine below_of_more ?_ (by simp <;> omega) _ _ | refine Below.alloc ?_ (by simp <;> omega) _ | refine Below.setCell ?_ (Nat.le_refl _) _ | refine Below.setCell ?_ (by simp <;> omega) _)⟩

theorem val32_extract (s : ByteArray) (h : 4 ≤ s.size) : val32 (s.extract 0 4) = val32 s := by
  unfold val32
  have e0 := bt_extract s 0 4 0 (by omega)
  have e1 := bt_extract s 0 4 1 (by omega)
  have e2 := bt_extract s 0 4 2 (by omega)
  have e3 := bt_extract s 0 4 3 (by omega)
  simp at e0 e1 e2 e3
  rw [e0, e1, e2, e3]
theorem record_in_f (a : ByteArray) (x y : Int) : record_in.f a x y = some (decide (x ≤ (a.size : Int) ∧ (a.size : Int) ≤ y)) := by
  unfold record_in.f
  by_cases h : (a.size : Int) ≥ x
  · rw [if_pos h]; congr 1; simp [show x ≤ (a.size : Int) from h]
  · rw [if_neg h]; congr 1; simp; intro h2; omega
theorem record_Check_f (a b c : ByteArray) (n : Int) (t : Bool) : record_Check.f a b c n t = some (if okSub a b c n then 0 else 2) := by
  unfold record_Check.f
  simp only [record_in_f, Option.bind_some, decide_eq_true_eq]
  by_cases h1 : (1 : Int) ≤ a.size ∧ (a.size : Int) ≤ 32
  · by_cases h2 : (1 : Int) ≤ c.size ∧ (c.size : Int) ≤ 32
    · by_cases h3 : (0 : Int) ≤ b.size ∧ (b.size : Int) ≤ 32
      · by_cases h4 : n = 0
        · rw [if_pos h1, if_pos h2, if_pos h3, if_pos h4, if_neg (fun h => by rw [okSub_iff] at h; omega)]
        · rw [if_pos h1, if_pos h2, if_pos h3, if_neg h4, if_pos (okSub_iff.2 (by omega))]
      · rw [if_pos h1, if_pos h2, if_neg h3, if_neg (fun h => by rw [okSub_iff] at h; omega)]
    · rw [if_pos h1, if_neg h2, if_neg (fun h => by rw [okSub_iff] at h; omega)]
  · rw [if_neg h1, if_neg (fun h => by rw [okSub_iff] at h; omega)]

end Go.Proofs.Ytmhlebnomagekaa
