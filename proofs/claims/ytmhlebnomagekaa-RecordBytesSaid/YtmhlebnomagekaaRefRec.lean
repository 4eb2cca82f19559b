/- halyardref28.Read over this seat's translation, by hand. -/
import Derived.Test.YtmhlebnomagekaaRecX
import Derived.Test.YtmhlebnomagekaaPAx2
import Derived.Test.YtmhlebnomagekaaPAx3
import Derived.Test.YtmhlebnomagekaaPAx4
import Derived.BigRegion
import Derived.Deep.RegionWith
set_option linter.unusedVariables false
set_option linter.unusedSimpArgs false
namespace Go.Proofs.Ytmhlebnomagekaa
open Go.RowKit Go.Proofs.YtmhlebnomagekaaW.PrintWords Go.Proofs.Ytmhlebnomagekaa.PA
attribute [local go_sem] alloc_drewN setCell_drewN size_more cell_more frozen_more setCell_more drewN_more drew_more more_drewN more_drew more_more

theorem halyardref01_Read8_f (s : ByteArray) (hs : s.size ≤ 140737488355328) : halyardref01_Read8.f s = some (read8 s) := by
  unfold halyardref01_Read8.f read8
  have hb := bt_range s 0
  by_cases h0 : s.size = 0
  · have e : bt s 0 = 0 := by unfold bt; rw [dif_neg (show ¬ (0 : Int).toNat < s.size by rw [h0]; decide)]
    rw [if_pos (toList_eq_nil.2 h0), if_pos (show (s.size : Int) ≤ bt s 0 by omega)]
  · rw [if_neg (fun h => h0 (toList_eq_nil.1 h)), if_pos (show (0 : Int) < (s.size : Int) by omega), wrap64_of (n := bt s 0) (by omega) (by omega)]
    by_cases h1 : (s.size : Int) ≤ bt s 0
    · rw [wrap64_of (n := 1 + bt s 0) (by omega) (by omega), if_pos (show (s.size : Int) < 1 + bt s 0 by omega), if_pos h1]
    · have e : (1 + bt s 0).toNat = 1 + (bt s 0).toNat := by omega
      have a0 : ¬ (s.size : Int) < 1 + bt s 0 := by omega
      have a1 : (1 : Int) ≤ 1 + bt s 0 := by omega
      have a2 : 1 + bt s 0 ≤ (s.size : Int) := by omega
      have a3 : (0 : Int) ≤ 1 + bt s 0 := by omega
      simp only [h1, if_false, wrap64_of (show -9223372036854775808 ≤ 1 + bt s 0 by omega) (by omega), a0, a1, a2, a3, if_true, e]

theorem value_l0 (s : ByteArray) (hs : s.size = 4) : halyardref01_Value.f 5 s = some (val32 s) := by
  have h0 := bt_range s 0
  have h1 := bt_range s 1
  have h2 := bt_range s 2
  have h3 := bt_range s 3
  have hz : (s.size : Int) = 4 := by omega
  unfold halyardref01_Value.f
  simp only [halyardref01_Value.l0, hz]
  simp only [show wrap64 (0 + 1) = 1 from wrap64_of (by omega) (by omega), show wrap64 (1 + 1) = 2 from wrap64_of (by omega) (by omega), show wrap64 (2 + 1) = 3 from wrap64_of (by omega) (by omega), show wrap64 (3 + 1) = 4 from wrap64_of (by omega) (by omega)]
  have st : ∀ v i : Int, 0 ≤ v → v < 16777216 → 0 ≤ bt s i ∧ bt s i ≤ 255 → IntKind.u64.wrap (IntKind.u64.wrap (v * 256) + IntKind.u64.wrap (bt s i)) = v * 256 + bt s i := by
    intro v i hv hv' hb
    rw [u64_of (n := v * 256) (by omega) (by omega), u64_of hb.1 (by omega), u64_of (by omega) (by omega)]
  rw [st 0 0 (by omega) (by omega) h0, st _ 1 (by omega) (by omega) h1, st _ 2 (by omega) (by omega) h2, st _ 3 (by omega) (by omega) h3]
  simp [val32]

def halyardref28_Read.f (a0 : ByteArray) : Option (ByteArray × ByteArray × ByteArray × Int × Bool × Int) :=
  if 140737488351232 < a0.size then none else
  let p1 := read8 a0; let p2 := read8 p1.2.1; let p3 := read8 p2.2.1; let r := p3.2.1
  if p1.2.2 = 0 ∧ p2.2.2 = 0 ∧ p3.2.2 = 0 ∧ r.size = 5 then
    (halyardref28_Bytes.f 300 p1.1 p2.1 p3.1 (val32 r) (bt r 4 == 1)).bind fun q => if q.2 = 0 ∧ q.1 = a0 then some (p1.1, p2.1, p3.1, val32 r, bt r 4 == 1, 0) else some (⟨#[]⟩, ⟨#[]⟩, ⟨#[]⟩, 0, false, 7)
  else some (⟨#[]⟩, ⟨#[]⟩, ⟨#[]⟩, 0, false, 7)

set_option maxHeartbeats 4000000 in
set_option maxRecDepth 100000 in
theorem ref_read_bad (s a r1 b r2 c r3 : ByteArray) (e1 e2 e3 : Int) (w : World) (h1 : halyardref01_Read8.f s = some (a, r1, e1)) (h2 : halyardref01_Read8.f r1 = some (b, r2, e2)) (h3 : halyardref01_Read8.f r2 = some (c, r3, e3))
    (hbad : ¬ (e1 = 0 ∧ e2 = 0 ∧ e3 = 0 ∧ r3.size = 5)) :
    Calls Try.prog 15 #[.string s] w fun e w' => e = .returned (.tuple #[.agg #[.string ⟨#[]⟩, .string ⟨#[]⟩, .string ⟨#[]⟩, .int .u32 0, .bool false], .int .i64 7]) ∧ Below w.heap.size w w' := by
  have H1 := Aside0.mk h1
  have H2 := Aside0.mk h2
  have H3 := Aside0.mk h3
  clear h1 h2 h3
  have cases4 : (e1 ≠ 0) ∨ (e1 = 0 ∧ e2 ≠ 0) ∨ (e1 = 0 ∧ e2 = 0 ∧ e3 ≠ 0) ∨ (e1 = 0 ∧ e2 = 0 ∧ e3 = 0 ∧ r3.size ≠ 5) := by omega
  clear hbad
  rcases cases4 with q1 | ⟨rfl, q2⟩ | ⟨rfl, rfl, q3⟩ | ⟨rfl, rfl, rfl, q4⟩
  · have b0 : (e1 == 0) = false := beq_eq_false_iff_ne.2 q1
    have b1 : (e1 != 0) = true := bne_iff_ne.2 q1
    clear q1
    go_enter Try.func15, Try.ntmps15
    go_wp2_with fail
    refine (halyardref01_Read8.calls _ _ _ _ _ H1.out).mono ?_
    rintro e w' ⟨rfl, ⟨⟨nd, rfl⟩⟩⟩
    go_wp2_with fail
    refine (halyardref01_Read8.calls _ _ _ _ _ H2.out).mono ?_
    rintro e w' ⟨rfl, ⟨⟨nd, rfl⟩⟩⟩
    go_wp2_with fail
    refine (halyardref01_Read8.calls _ _ _ _ _ H3.out).mono ?_
    rintro e w' ⟨rfl, ⟨⟨nd, rfl⟩⟩⟩
    go_wp2
    exact bodyPost_ret (v := .tuple #[.agg #[.string ⟨#[]⟩, .string ⟨#[]⟩, .string ⟨#[]⟩, .int .u32 0, .bool false], .int .i64 7]) (by simp [results, Try.results15, go_sem]) rfl ⟨rfl, by repeat (with_reducible first | exact Below.refl _ _ | apply below_drewN' | apply Below.drew | refine below_of_more ?_ (by simp <;> omega) _ _ | refine Below.alloc ?_ (by simp <;> omega) _ | refine Below.setCell ?_ (Nat.le_refl _) _ | refine Below.setCell ?_ (by simp <;> omega) _)⟩
  · have b0 : (e2 == 0) = false := beq_eq_false_iff_ne.2 q2
    have b1 : (e2 != 0) = true := bne_iff_ne.2 q2
    clear q2
    go_enter Try.func15, Try.ntmps15
    go_wp2_with fail
    refine (halyardref01_Read8.calls _ _ _ _ _ H1.out).mono ?_
    rintro e w' ⟨rfl, ⟨⟨nd, rfl⟩⟩⟩
    go_wp2_with fail
    refine (halyardref01_Read8.calls _ _ _ _ _ H2.out).mono ?_
    rintro e w' ⟨rfl, ⟨⟨nd, rfl⟩⟩⟩
    go_wp2_with fail
    refine (halyardref01_Read8.calls _ _ _ _ _ H3.out).mono ?_
    rintro e w' ⟨rfl, ⟨⟨nd, rfl⟩⟩⟩
    go_wp2
    exact bodyPost_ret (v := .tuple #[.agg #[.string ⟨#[]⟩, .string ⟨#[]⟩, .string ⟨#[]⟩, .int .u32 0, .bool false], .int .i64 7]) (by simp [results, Try.results15, go_sem]) rfl ⟨rfl, by repeat (with_reducible first | exact Below.refl _ _ | apply below_drewN' | apply Below.drew | refine below_of_more ?_ (by simp <;> omega) _ _ | refine Below.alloc ?_ (by simp <;> omega) _ | refine Below.setCell ?_ (Nat.le_refl _) _ | refine Below.setCell ?_ (by simp <;> omega) _)⟩
  · have b0 : (e3 == 0) = false := beq_eq_false_iff_ne.2 q3
    have b1 : (e3 != 0) = true := bne_iff_ne.2 q3
    clear q3
    go_enter Try.func15, Try.ntmps15
    go_wp2_with fail
    refine (halyardref01_Read8.calls _ _ _ _ _ H1.out).mono ?_
    rintro e w' ⟨rfl, ⟨⟨nd, rfl⟩⟩⟩
    go_wp2_with fail
    refine (halyardref01_Read8.calls _ _ _ _ _ H2.out).mono ?_
    rintro e w' ⟨rfl, ⟨⟨nd, rfl⟩⟩⟩
    go_wp2_with fail
    refine (halyardref01_Read8.calls _ _ _ _ _ H3.out).mono ?_
    rintro e w' ⟨rfl, ⟨⟨nd, rfl⟩⟩⟩
    go_wp2
    exact bodyPost_ret (v := .tuple #[.agg #[.string ⟨#[]⟩, .string ⟨#[]⟩, .string ⟨#[]⟩, .int .u32 0, .bool false], .int .i64 7]) (by simp [results, Try.results15, go_sem]) rfl ⟨rfl, by repeat (with_reducible first | exact Below.refl _ _ | apply below_drewN' | apply Below.drew | refine below_of_more ?_ (by simp <;> omega) _ _ | refine Below.alloc ?_ (by simp <;> omega) _ | refine Below.setCell ?_ (Nat.le_refl _) _ | refine Below.setCell ?_ (by simp <;> omega) _)⟩
  · have b0 : ((r3.size : Int) == 5) = false := beq_eq_false_iff_ne.2 (by omega)
    have b1 : ((r3.size : Int) != 5) = true := bne_iff_ne.2 (by omega)
    clear q4
    go_enter Try.func15, Try.ntmps15
    go_wp2_with fail
    refine (halyardref01_Read8.calls _ _ _ _ _ H1.out).mono ?_
    rintro e w' ⟨rfl, ⟨⟨nd, rfl⟩⟩⟩
    go_wp2_with fail
    refine (halyardref01_Read8.calls _ _ _ _ _ H2.out).mono ?_
    rintro e w' ⟨rfl, ⟨⟨nd, rfl⟩⟩⟩
    go_wp2_with fail
    refine (halyardref01_Read8.calls _ _ _ _ _ H3.out).mono ?_
    rintro e w' ⟨rfl, ⟨⟨nd, rfl⟩⟩⟩
    go_wp2
    exact bodyPost_ret (v := .tuple #[.agg #[.string ⟨#[]⟩, .string ⟨#[]⟩, .string ⟨#[]⟩, .int .u32 0, .bool false], .int .i64 7]) (by simp [results, Try.results15, go_sem]) rfl ⟨rfl, by repeat (with_reducible first | exact Below.refl _ _ | apply below_drewN' | apply Below.drew | refine below_of_more ?_ (by simp <;> omega) _ _ | refine Below.alloc ?_ (by simp <;> omega) _ | refine Below.setCell ?_ (Nat.le_refl _) _ | refine Below.setCell ?_ (by simp <;> omega) _)⟩

set_option maxHeartbeats 4000000 in
set_option maxRecDepth 100000 in
theorem ref_read_good (s a r1 b r2 c r3 t : ByteArray) (h : Int) (w : World) (h1 : halyardref01_Read8.f s = some (a, r1, 0)) (h2 : halyardref01_Read8.f r1 = some (b, r2, 0)) (h3 : halyardref01_Read8.f r2 = some (c, r3, 0))
    (hz : r3.size = 5) (hB : halyardref28_Bytes.f 300 a b c (val32 r3) (bt r3 4 == 1) = some (t, h)) (hok : h = 0 ∧ t = s) :
    Calls Try.prog 15 #[.string s] w fun e w' => e = .returned (.tuple #[.agg #[.string a, .string b, .string c, .int .u32 (val32 r3), .bool (bt r3 4 == 1)], .int .i64 0]) ∧ Below w.heap.size w w' := by
  have hr := val32_range r3
  have hv : halyardref01_Value.f 5 (r3.extract 0 4) = some (val32 r3) := by rw [value_l0 _ (by simp; omega), val32_extract _ (by omega)]
  have z0 : ((r3.size : Int) == 5) = true := beq_iff_eq.2 (by omega)
  have z1 : ((r3.size : Int) != 5) = false := bne_eq_false_iff_eq.2 (by omega)
  have z2 : (4 : Nat) < r3.size := by omega
  have z3 := eq_true z2
  have z4 : (4 : Int) < (r3.size : Int) := by omega
  have z5 := eq_true z4
  have hx : ∀ h : 4 < r3.size, ((r3[4]'h).toNat : Int) = bt r3 4 := bt_at r3 4
  have s0 := eq_true (show (4 : Nat) ≤ r3.size by omega)
  have s1 := eq_true (show (4 : Int) ≤ (r3.size : Int) by omega)
  have hm : val32 r3 % 4294967296 = val32 r3 := Int.emod_eq_of_lt hr.1 hr.2
  obtain ⟨rfl, rfl⟩ := hok
  have H1 := Aside0.mk h1
  have H2 := Aside0.mk h2
  have H3 := Aside0.mk h3
  have HV := Aside0.mk hv
  have HB := Aside0.mk hB
  have hss : (t.toList != t.toList) = false := by simp
  have hst : (!t.toList == t.toList) = false := by simp
  clear h1 h2 h3 hz z2 z4 hr hv hB
  go_enter Try.func15, Try.ntmps15
  go_wp2_with fail
  refine (halyardref01_Read8.calls _ _ _ _ _ H1.out).mono ?_
  rintro e w' ⟨rfl, ⟨⟨nd, rfl⟩⟩⟩
  go_wp2_with fail
  refine (halyardref01_Read8.calls _ _ _ _ _ H2.out).mono ?_
  rintro e w' ⟨rfl, ⟨⟨nd, rfl⟩⟩⟩
  go_wp2_with fail
  refine (halyardref01_Read8.calls _ _ _ _ _ H3.out).mono ?_
  rintro e w' ⟨rfl, ⟨⟨nd, rfl⟩⟩⟩
  go_wp2_with fail
  go_region_with (go_at_call 64; refine (halyardref01_Value.calls 5 _ _ _ HV.out).mono ?_; rintro e w' ⟨rfl, ⟨⟨nd, rfl⟩⟩⟩)
  all_goals
    go_wp2_with (go_at_call 13; refine (halyardref28_Bytes.calls 300 _ _ _ _ _ _ _ _ HB.out).mono ?_; rintro e w' ⟨rfl, hb⟩; obtain ⟨os, d, rfl⟩ := below_more hb; clear hb)
    exact bodyPost_ret (v := .tuple #[.agg #[.string a, .string b, .string c, .int .u32 (val32 r3), .bool (bt r3 4 == 1)], .int .i64 0]) (by simp [results, Try.results15, go_sem]) rfl ⟨rfl, by repeat (with_reducible first | exact Below.refl _ _ | apply below_drewN' | apply Below.drew | refine below_of_more ?_ (by simp <;> omega) _ _ | refine Below.alloc ?_ (by simp <;> omega) _ | refine Below.setCell ?_ (Nat.le_refl _) _ | refine Below.setCell ?_ (by simp <;> omega) _)⟩


set_option maxHeartbeats 4000000 in
set_option maxRecDepth 100000 in
theorem ref_read_err (s a r1 b r2 c r3 t : ByteArray) (h : Int) (w : World) (h1 : halyardref01_Read8.f s = some (a, r1, 0)) (h2 : halyardref01_Read8.f r1 = some (b, r2, 0)) (h3 : halyardref01_Read8.f r2 = some (c, r3, 0))
    (hz : r3.size = 5) (hB : halyardref28_Bytes.f 300 a b c (val32 r3) (bt r3 4 == 1) = some (t, h)) (hok : h ≠ 0) :
    Calls Try.prog 15 #[.string s] w fun e w' => e = .returned (.tuple #[.agg #[.string ⟨#[]⟩, .string ⟨#[]⟩, .string ⟨#[]⟩, .int .u32 0, .bool false], .int .i64 7]) ∧ Below w.heap.size w w' := by
  have hr := val32_range r3
  have hv : halyardref01_Value.f 5 (r3.extract 0 4) = some (val32 r3) := by rw [value_l0 _ (by simp; omega), val32_extract _ (by omega)]
  have z0 : ((r3.size : Int) == 5) = true := beq_iff_eq.2 (by omega)
  have z1 : ((r3.size : Int) != 5) = false := bne_eq_false_iff_eq.2 (by omega)
  have z2 : (4 : Nat) < r3.size := by omega
  have z3 := eq_true z2
  have z4 : (4 : Int) < (r3.size : Int) := by omega
  have z5 := eq_true z4
  have hx : ∀ h : 4 < r3.size, ((r3[4]'h).toNat : Int) = bt r3 4 := bt_at r3 4
  have s0 := eq_true (show (4 : Nat) ≤ r3.size by omega)
  have s1 := eq_true (show (4 : Int) ≤ (r3.size : Int) by omega)
  have hm : val32 r3 % 4294967296 = val32 r3 := Int.emod_eq_of_lt hr.1 hr.2
  have e0 : (h == 0) = false := beq_eq_false_iff_ne.2 hok
  have e1 : (h != 0) = true := bne_iff_ne.2 hok
  have H1 := Aside0.mk h1
  have H2 := Aside0.mk h2
  have H3 := Aside0.mk h3
  have HV := Aside0.mk hv
  have HB := Aside0.mk hB
  clear h1 h2 h3 hz z2 z4 hr hv hB hok
  go_enter Try.func15, Try.ntmps15
  go_wp2_with fail
  refine (halyardref01_Read8.calls _ _ _ _ _ H1.out).mono ?_
  rintro e w' ⟨rfl, ⟨⟨nd, rfl⟩⟩⟩
  go_wp2_with fail
  refine (halyardref01_Read8.calls _ _ _ _ _ H2.out).mono ?_
  rintro e w' ⟨rfl, ⟨⟨nd, rfl⟩⟩⟩
  go_wp2_with fail
  refine (halyardref01_Read8.calls _ _ _ _ _ H3.out).mono ?_
  rintro e w' ⟨rfl, ⟨⟨nd, rfl⟩⟩⟩
  go_wp2_with fail
  go_region_with (go_at_call 64; refine (halyardref01_Value.calls 5 _ _ _ HV.out).mono ?_; rintro e w' ⟨rfl, ⟨⟨nd, rfl⟩⟩⟩)
  all_goals
    go_wp2_with (go_at_call 13; refine (halyardref28_Bytes.calls 300 _ _ _ _ _ _ _ _ HB.out).mono ?_; rintro e w' ⟨rfl, hb⟩; obtain ⟨os, d, rfl⟩ := below_more hb; clear hb)
    exact bodyPost_ret (v := .tuple #[.agg #[.string ⟨#[]⟩, .string ⟨#[]⟩, .string ⟨#[]⟩, .int .u32 0, .bool false], .int .i64 7]) (by simp [results, Try.results15, go_sem]) rfl ⟨rfl, by repeat (with_reducible first | exact Below.refl _ _ | apply below_drewN' | apply Below.drew | refine below_of_more ?_ (by simp <;> omega) _ _ | refine Below.alloc ?_ (by simp <;> omega) _ | refine Below.setCell ?_ (Nat.le_refl _) _ | refine Below.setCell ?_ (by simp <;> omega) _)⟩


set_option maxHeartbeats 4000000 in
set_option maxRecDepth 100000 in
theorem ref_read_oth (s a r1 b r2 c r3 t : ByteArray) (w : World) (h1 : halyardref01_Read8.f s = some (a, r1, 0)) (h2 : halyardref01_Read8.f r1 = some (b, r2, 0)) (h3 : halyardref01_Read8.f r2 = some (c, r3, 0))
    (hz : r3.size = 5) (hB : halyardref28_Bytes.f 300 a b c (val32 r3) (bt r3 4 == 1) = some (t, 0)) (hok : t ≠ s) :
    Calls Try.prog 15 #[.string s] w fun e w' => e = .returned (.tuple #[.agg #[.string ⟨#[]⟩, .string ⟨#[]⟩, .string ⟨#[]⟩, .int .u32 0, .bool false], .int .i64 7]) ∧ Below w.heap.size w w' := by
  have hr := val32_range r3
  have hv : halyardref01_Value.f 5 (r3.extract 0 4) = some (val32 r3) := by rw [value_l0 _ (by simp; omega), val32_extract _ (by omega)]
  have z0 : ((r3.size : Int) == 5) = true := beq_iff_eq.2 (by omega)
  have z1 : ((r3.size : Int) != 5) = false := bne_eq_false_iff_eq.2 (by omega)
  have z2 : (4 : Nat) < r3.size := by omega
  have z3 := eq_true z2
  have z4 : (4 : Int) < (r3.size : Int) := by omega
  have z5 := eq_true z4
  have hx : ∀ h : 4 < r3.size, ((r3[4]'h).toNat : Int) = bt r3 4 := bt_at r3 4
  have s0 := eq_true (show (4 : Nat) ≤ r3.size by omega)
  have s1 := eq_true (show (4 : Int) ≤ (r3.size : Int) by omega)
  have hm : val32 r3 % 4294967296 = val32 r3 := Int.emod_eq_of_lt hr.1 hr.2
  have hzt : t.toList ≠ s.toList := fun e => hok (by rw [ByteArray.toList_eq, ByteArray.toList_eq] at e; exact ByteArray.ext (Array.toList_inj.1 e))
  have hzb : (t.toList != s.toList) = true := bne_iff_ne.2 hzt
  have hzc : (t.toList == s.toList) = false := beq_eq_false_iff_ne.2 hzt
  have hzd : (!t.toList == s.toList) = true := by rw [hzc]; rfl
  clear hzt
  have H1 := Aside0.mk h1
  have H2 := Aside0.mk h2
  have H3 := Aside0.mk h3
  have HV := Aside0.mk hv
  have HB := Aside0.mk hB
  clear h1 h2 h3 hz z2 z4 hr hv hB hok
  go_enter Try.func15, Try.ntmps15
  go_wp2_with fail
  refine (halyardref01_Read8.calls _ _ _ _ _ H1.out).mono ?_
  rintro e w' ⟨rfl, ⟨⟨nd, rfl⟩⟩⟩
  go_wp2_with fail
  refine (halyardref01_Read8.calls _ _ _ _ _ H2.out).mono ?_
  rintro e w' ⟨rfl, ⟨⟨nd, rfl⟩⟩⟩
  go_wp2_with fail
  refine (halyardref01_Read8.calls _ _ _ _ _ H3.out).mono ?_
  rintro e w' ⟨rfl, ⟨⟨nd, rfl⟩⟩⟩
  go_wp2_with fail
  go_region_with (go_at_call 64; refine (halyardref01_Value.calls 5 _ _ _ HV.out).mono ?_; rintro e w' ⟨rfl, ⟨⟨nd, rfl⟩⟩⟩)
  all_goals
    go_wp2_with (go_at_call 13; refine (halyardref28_Bytes.calls 300 _ _ _ _ _ _ _ _ HB.out).mono ?_; rintro e w' ⟨rfl, hb⟩; obtain ⟨os, d, rfl⟩ := below_more hb; clear hb)
    exact bodyPost_ret (v := .tuple #[.agg #[.string ⟨#[]⟩, .string ⟨#[]⟩, .string ⟨#[]⟩, .int .u32 0, .bool false], .int .i64 7]) (by simp [results, Try.results15, go_sem]) rfl ⟨rfl, by repeat (with_reducible first | exact Below.refl _ _ | apply below_drewN' | apply Below.drew | refine below_of_more ?_ (by simp <;> omega) _ _ | refine Below.alloc ?_ (by simp <;> omega) _ | refine Below.setCell ?_ (Nat.le_refl _) _ | refine Below.setCell ?_ (by simp <;> omega) _)⟩


theorem halyardref28_Read.calls (a0 : ByteArray) (r1 : ByteArray) (r2 : ByteArray) (r3 : ByteArray) (r4 : Int) (r5 : Bool) (r6 : Int) (w : World) (h : halyardref28_Read.f a0 = some (r1, r2, r3, r4, r5, r6)) :
    Calls Try.prog 15 #[.string a0] w fun e w' => e = .returned (.tuple #[.agg #[.string r1, .string r2, .string r3, .int .u32 r4, .bool r5], .int .i64 r6]) ∧ Below w.heap.size w w' := by
  unfold halyardref28_Read.f at h
  split at h
  · cases h
  rename_i hs
  have h1 := halyardref01_Read8_f a0 (by omega)
  have z1 := (read8_size a0).1
  have h2 := halyardref01_Read8_f (read8 a0).2.1 (by omega)
  have z2 := (read8_size (read8 a0).2.1).1
  have h3 := halyardref01_Read8_f (read8 (read8 a0).2.1).2.1 (by omega)
  dsimp only at h
  split at h
  · rename_i hc
    obtain ⟨⟨t, e⟩, hB, h⟩ := Option.bind_eq_some_iff.1 h
    obtain ⟨c1, c2, c3, c4⟩ := hc
    have e1 : read8 a0 = ((read8 a0).1, (read8 a0).2.1, 0) := by rw [← c1]
    have e2 : read8 (read8 a0).2.1 = ((read8 (read8 a0).2.1).1, (read8 (read8 a0).2.1).2.1, 0) := by rw [← c2]
    have e3 : read8 (read8 (read8 a0).2.1).2.1 = ((read8 (read8 (read8 a0).2.1).2.1).1, (read8 (read8 (read8 a0).2.1).2.1).2.1, 0) := by rw [← c3]
    have f1 := h1.trans (congrArg some e1)
    have f2 := h2.trans (congrArg some e2)
    have f3 := h3.trans (congrArg some e3)
    split at h
    · rename_i hq
      simp only [Option.some.injEq, Prod.mk.injEq] at h
      obtain ⟨rfl, rfl, rfl, rfl, rfl, rfl⟩ := h
      exact ref_read_good a0 _ _ _ _ _ _ t e w f1 f2 f3 c4 hB hq
    · rename_i hq
      simp only [Option.some.injEq, Prod.mk.injEq] at h
      obtain ⟨rfl, rfl, rfl, rfl, rfl, rfl⟩ := h
      by_cases he : e = 0
      · subst he
        exact ref_read_oth a0 _ _ _ _ _ _ t w f1 f2 f3 c4 hB (fun x => hq ⟨rfl, x⟩)
      · exact ref_read_err a0 _ _ _ _ _ _ t e w f1 f2 f3 c4 hB he
  · rename_i hc
    simp only [Option.some.injEq, Prod.mk.injEq] at h
    obtain ⟨rfl, rfl, rfl, rfl, rfl, rfl⟩ := h
    exact ref_read_bad a0 _ _ _ _ _ _ _ _ _ w h1 h2 h3 hc
end Go.Proofs.Ytmhlebnomagekaa
