/- The contracts of package record over this seat's translation, by hand. -/
import Derived.Test.YtmhlebnomagekaaOctet
import Derived.Test.YtmhlebnomagekaaRecord
import Derived.Test.YtmhlebnomagekaaKit
import Derived.Test.YtmhlebnomagekaaPAx2
import Derived.Laws.ResultCell
set_option linter.unusedVariables false
set_option linter.unusedSimpArgs false
namespace Go.Proofs.Ytmhlebnomagekaa
open Go.RowKit Go.Proofs.YtmhlebnomagekaaW.PrintWords Go.Proofs.Ytmhlebnomagekaa.PA
attribute [local go_sem] alloc_drewN setCell_drewN size_more cell_more frozen_more setCell_more drewN_more drew_more more_drewN more_drew more_more

set_option maxHeartbeats 4000000 in
set_option maxRecDepth 100000 in
theorem read_check (s a b c r1 r2 r3 : ByteArray) (w : World) (h1 : octet_Read8.f s = some (a, r1, 0)) (h2 : octet_Read8.f r1 = some (b, r2, 0)) (h3 : octet_Read8.f r2 = some (c, r3, 0)) (hz : r3.size = 5) (hb : ¬ 1 < bt r3 4) (hok : ¬ okSub a b c (val32 r3) = true) :
    Calls Try.prog 14 #[.string s] w fun e w' => e = .returned (.tuple #[.agg #[.string ⟨#[]⟩, .string ⟨#[]⟩, .string ⟨#[]⟩, .int .u32 0, .bool false], .int .i64 7]) ∧ Below w.heap.size w w' := by
  have H1 := Aside0.mk h1
  clear h1
  have H2 := Aside0.mk h2
  clear h2
  have H3 := Aside0.mk h3
  clear h3
  have zz : (r3.size : Int) = 5 := by omega
  have z0 : ((r3.size : Int) == 5) = true := by simp [zz]
  have z1 : ((r3.size : Int) != 5) = false := by simp [zz]
  have z2 : (4 : Nat) < r3.size := by omega
  have z3 := eq_true z2
  have z4 : (4 : Int) < (r3.size : Int) := by omega
  have z5 := eq_true z4
  have hx : ∀ h : 4 < r3.size, ((r3[4]'h).toNat : Int) = bt r3 4 := bt_at r3 4
  have b0 : decide (1 < bt r3 4) = false := decide_eq_false hb
  have hg : octet_Get32.f 5 (r3.extract 0 4) = some (val32 r3, 0) := by rw [octet_Get32_f _ (by simp; omega), val32_extract _ (by omega)]
  have HG := Aside0.mk hg
  have hc := record_Check_f a b c (val32 r3) (bt r3 4 == 1)
  rw [if_neg hok] at hc
  have HC := Aside0.mk hc
  have s0 := eq_true (show (4 : Nat) ≤ r3.size by omega)
  have s1 := eq_true (show (4 : Int) ≤ (r3.size : Int) by omega)
  clear hz zz z2 z4 hb hg hc hok
  go_enter Try.func14, Try.ntmps14
  go_wp2
  go_step3
  go_wp2
  go_step3
  go_wp2
  refine wp_loop_rounds 4 ?_
  rw [rounds_succ]
  go_wp2_with (first | (go_at_call 61; refine (octet_Read8.calls _ _ _ _ _ H1.out).mono ?_; rintro e w' ⟨rfl, ⟨⟨nd, rfl⟩⟩⟩))
  rw [rounds_succ]
  go_wp2_with (first | (go_at_call 61; refine (octet_Read8.calls _ _ _ _ _ H2.out).mono ?_; rintro e w' ⟨rfl, ⟨⟨nd, rfl⟩⟩⟩))
  rw [rounds_succ]
  go_wp2_with (first | (go_at_call 61; refine (octet_Read8.calls _ _ _ _ _ H3.out).mono ?_; rintro e w' ⟨rfl, ⟨⟨nd, rfl⟩⟩⟩))
  rw [rounds_succ]
  go_wp2_with (first | fail | (go_at_call 62; refine (octet_Get32.calls 5 _ _ _ _ HG.out).mono ?_; rintro e w' ⟨rfl, ⟨⟨nd, rfl⟩⟩⟩) | (go_at_call 55; refine (record_Check.calls _ _ _ _ _ _ _ HC.out).mono ?_; rintro e w' ⟨rfl, hbc⟩; obtain ⟨mos, md, rfl⟩ := below_more hbc; clear hbc))
  rw [Exit.noGoto_ret]
  exact bodyPost_ret (v := .tuple #[.agg #[.string ⟨#[]⟩, .string ⟨#[]⟩, .string ⟨#[]⟩, .int .u32 0, .bool false], .int .i64 7]) (by simp [results, Try.results14, go_sem]) rfl ⟨rfl, by
    repeat (with_reducible first | exact Below.refl _ _ | apply below_drewN' | apply Below.drew | refine below_of_more ?_ (by simp <;> omega) _ _ | refine Below.alloc ?_ (by simp <;> omega) _ | refine Below.setCell ?_ (Nat.le_refl _) _ | refine Below.setCell ?_ (by simp <;> omega) _)⟩

set_option maxHeartbeats 4000000 in
set_option maxRecDepth 100000 in
theorem read_good (s a b c r1 r2 r3 : ByteArray) (w : World) (h1 : octet_Read8.f s = some (a, r1, 0)) (h2 : octet_Read8.f r1 = some (b, r2, 0)) (h3 : octet_Read8.f r2 = some (c, r3, 0)) (hz : r3.size = 5) (hb : ¬ 1 < bt r3 4) (hok : okSub a b c (val32 r3) = true) :
    Calls Try.prog 14 #[.string s] w fun e w' => e = .returned (.tuple #[.agg #[.string a, .string b, .string c, .int .u32 (val32 r3), .bool (bt r3 4 == 1)], .int .i64 0]) ∧ Below w.heap.size w w' := by
  have H1 := Aside0.mk h1
  clear h1
  have H2 := Aside0.mk h2
  clear h2
  have H3 := Aside0.mk h3
  clear h3
  have zz : (r3.size : Int) = 5 := by omega
  have z0 : ((r3.size : Int) == 5) = true := by simp [zz]
  have z1 : ((r3.size : Int) != 5) = false := by simp [zz]
  have z2 : (4 : Nat) < r3.size := by omega
  have z3 := eq_true z2
  have z4 : (4 : Int) < (r3.size : Int) := by omega
  have z5 := eq_true z4
  have hx : ∀ h : 4 < r3.size, ((r3[4]'h).toNat : Int) = bt r3 4 := bt_at r3 4
  have b0 : decide (1 < bt r3 4) = false := decide_eq_false hb
  have hg : octet_Get32.f 5 (r3.extract 0 4) = some (val32 r3, 0) := by rw [octet_Get32_f _ (by simp; omega), val32_extract _ (by omega)]
  have HG := Aside0.mk hg
  have hc := record_Check_f a b c (val32 r3) (bt r3 4 == 1)
  rw [if_pos hok] at hc
  have HC := Aside0.mk hc
  have s0 := eq_true (show (4 : Nat) ≤ r3.size by omega)
  have s1 := eq_true (show (4 : Int) ≤ (r3.size : Int) by omega)
  clear hz zz z2 z4 hb hg hc hok
  go_enter Try.func14, Try.ntmps14
  go_wp2
  go_step3
  go_wp2
  go_step3
  go_wp2
  refine wp_loop_rounds 4 ?_
  rw [rounds_succ]
  go_wp2_with (first | (go_at_call 61; refine (octet_Read8.calls _ _ _ _ _ H1.out).mono ?_; rintro e w' ⟨rfl, ⟨⟨nd, rfl⟩⟩⟩))
  rw [rounds_succ]
  go_wp2_with (first | (go_at_call 61; refine (octet_Read8.calls _ _ _ _ _ H2.out).mono ?_; rintro e w' ⟨rfl, ⟨⟨nd, rfl⟩⟩⟩))
  rw [rounds_succ]
  go_wp2_with (first | (go_at_call 61; refine (octet_Read8.calls _ _ _ _ _ H3.out).mono ?_; rintro e w' ⟨rfl, ⟨⟨nd, rfl⟩⟩⟩))
  rw [rounds_succ]
  go_wp2_with (first | fail | (go_at_call 62; refine (octet_Get32.calls 5 _ _ _ _ HG.out).mono ?_; rintro e w' ⟨rfl, ⟨⟨nd, rfl⟩⟩⟩) | (go_at_call 55; refine (record_Check.calls _ _ _ _ _ _ _ HC.out).mono ?_; rintro e w' ⟨rfl, hbc⟩; obtain ⟨mos, md, rfl⟩ := below_more hbc; clear hbc))
  rw [Exit.noGoto_ret]
  exact bodyPost_ret (v := .tuple #[.agg #[.string a, .string b, .string c, .int .u32 (val32 r3), .bool (bt r3 4 == 1)], .int .i64 0]) (by simp [results, Try.results14, go_sem]) rfl ⟨rfl, by
    repeat (with_reducible first | exact Below.refl _ _ | apply below_drewN' | apply Below.drew | refine below_of_more ?_ (by simp <;> omega) _ _ | refine Below.alloc ?_ (by simp <;> omega) _ | refine Below.setCell ?_ (Nat.le_refl _) _ | refine Below.setCell ?_ (by simp <;> omega) _)⟩

end Go.Proofs.Ytmhlebnomagekaa
