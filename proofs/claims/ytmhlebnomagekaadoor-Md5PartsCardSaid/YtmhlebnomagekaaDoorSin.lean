/- math.Sin at a positive finite number below the reduction's threshold. -/
import Derived.Test.YtmhlebnomagekaaDoorFloat
set_option linter.unusedVariables false
set_option linter.unusedSimpArgs false
namespace Go.Proofs.YtmhlebnomagekaaDoor
open Go.RowKit Go.Proofs.YtmhlebnomagekaaDoorW.PrintWords

/-- what the tables of sin and cos hold -/
structure Trig (w : World) : Prop where
  c0 : w.cell? ⟨1, 0, none⟩ = some (.float .f64 13666448263388469915)
  c1 : w.cell? ⟨1, 1, none⟩ = some (.float .f64 4477121864728985349)
  c2 : w.cell? ⟨1, 2, none⟩ = some (.float .f64 13732177093698800582)
  c3 : w.cell? ⟨1, 3, none⟩ = some (.float .f64 4537941361668146421)
  c4 : w.cell? ⟨1, 4, none⟩ = some (.float .f64 13787419979223748497)
  c5 : w.cell? ⟨1, 5, none⟩ = some (.float .f64 4586165620538955083)
  s0 : w.cell? ⟨2, 0, none⟩ = some (.float .f64 4460209587652500685)
  s1 : w.cell? ⟨2, 1, none⟩ = some (.float .f64 13716528389658582877)
  s2 : w.cell? ⟨2, 2, none⟩ = some (.float .f64 4523617212962785441)
  s3 : w.cell? ⟨2, 3, none⟩ = some (.float .f64 13774824197404483331)
  s4 : w.cell? ⟨2, 4, none⟩ = some (.float .f64 4575957461383575504)
  s5 : w.cell? ⟨2, 5, none⟩ = some (.float .f64 13818544856648471880)
def fl (op : BinOp) (x y : Nat) : Option Nat := floatBits op .f64 x y
theorem run_fl {op : BinOp} {x y r : Nat} (h : fl op x y = some r) (t : TypeId) (w : World) : (binOp op t (.float .f64 x) (.float .f64 y)).run Tryd.prog w = .ok (.float .f64 r) w := run_float_arith (P := Tryd.prog) (w := w) op t .f64 x y r h
/-- a polynomial of six terms -/
structure Poly (a0 a1 a2 a3 a4 a5 zz : Nat) (r : Nat → Nat) : Prop where
  p0 : fl .mul a0 zz = some (r 0)
  p1 : fl .add (r 0) a1 = some (r 1)
  p2 : fl .mul (r 1) zz = some (r 2)
  p3 : fl .add (r 2) a2 = some (r 3)
  p4 : fl .mul (r 3) zz = some (r 4)
  p5 : fl .add (r 4) a3 = some (r 5)
  p6 : fl .mul (r 5) zz = some (r 6)
  p7 : fl .add (r 6) a4 = some (r 7)
  p8 : fl .mul (r 7) zz = some (r 8)
  p9 : fl .add (r 8) a5 = some (r 9)
set_option maxRecDepth 100000 in
set_option maxHeartbeats 4000000 in
theorem sin_00 (x y : Nat) (w : World) (T : Trig w) (ha : Go.bits .andNot .u64 x 9223372036854775808 = y) (hi : (FloatKind.f64.format.order y 9218868437227405311 == some .gt) = false)
    (hn : FloatKind.f64.format.order x x = some .eq) (h0 : (FloatKind.f64.format.order x 0 == some .eq) = false) (h1 : (FloatKind.f64.format.order x 0 == some .lt) = false)
    (h2 : (FloatKind.f64.format.order x 4737786807993761792 == some .gt) = false) (h2' : (FloatKind.f64.format.order x 4737786807993761792 == some .eq) = false)
    (t32 p1 q1 p2 q2 p3 z zz d1 d2 d3 : Nat) (r : Nat → Nat) (j : Int) (m1 : fl .mul x 4608412980311869571 = some t32) (cv : floatToIntVal .f64 t32 .u64 = some j)
    (hp : Go.bits .and .u64 j 1 = 0)
    (a1 : fl .mul (floatOfInt .f64 j) 4605249456957292544 = some p1) (b1 : fl .sub x p1 = some q1)
    (a2 : fl .mul (floatOfInt .f64 j) 4495793288086814720 = some p2) (b2 : fl .sub q1 p2 = some q2)
    (a3 : fl .mul (floatOfInt .f64 j) 4388835458085048688 = some p3) (b3 : fl .sub q2 p3 = some z) (c1 : fl .mul z z = some zz)
    (h7 : Go.bits .and .u64 j 7 = 0) (e1 : fl .mul z zz = some d1) (P : Poly 4460209587652500685 13716528389658582877 4523617212962785441 13774824197404483331 4575957461383575504 13818544856648471880 zz r)
    (e2 : fl .mul d1 (r 9) = some d2) (e3 : fl .add z d2 = some d3) :
    Calls Tryd.prog 102 #[.float .f64 x] w fun e w' => e = .returned (.float .f64 d3) ∧ w' = w := by
  obtain ⟨c0, c1', c2, c3, c4, c5, s0, s1, s2, s3, s4, s5⟩ := T
  obtain ⟨o0, o1, o2, o3, o4, o5, o6, o7, o8, o9⟩ := P
  have Rm1 := run_fl m1
  have Ra1 := run_fl a1
  have Rb1 := run_fl b1
  have Ra2 := run_fl a2
  have Rb2 := run_fl b2
  have Ra3 := run_fl a3
  have Rb3 := run_fl b3
  have Rc1 := run_fl c1
  have Re1 := run_fl e1
  have Re2 := run_fl e2
  have Re3 := run_fl e3
  have Ro0 := run_fl o0
  have Ro1 := run_fl o1
  have Ro2 := run_fl o2
  have Ro3 := run_fl o3
  have Ro4 := run_fl o4
  have Ro5 := run_fl o5
  have Ro6 := run_fl o6
  have Ro7 := run_fl o7
  have Ro8 := run_fl o8
  have Ro9 := run_fl o9
  have CV := fun (w : World) => run_convert_float_int (P := Tryd.prog) (w := w) 127 79 .f64 .u64 t32 j (by kernel_rfl) (by kernel_rfl) cv
  go_enter Tryd.func102, Tryd.ntmps102
  go_wp2_with fail
  refine (isNaN_calls x hn _).mono ?_
  rintro e w' ⟨rfl, rfl⟩
  go_wp2_with fail
  refine (isInf_calls x y ha hi _).mono ?_
  rintro e w' ⟨rfl, rfl⟩
  go_wp2_with fail
  go_ret
  exact ⟨rfl, rfl⟩
set_option maxRecDepth 100000 in
set_option maxHeartbeats 4000000 in
theorem sin_02 (x y : Nat) (w : World) (T : Trig w) (ha : Go.bits .andNot .u64 x 9223372036854775808 = y) (hi : (FloatKind.f64.format.order y 9218868437227405311 == some .gt) = false)
    (hn : FloatKind.f64.format.order x x = some .eq) (h0 : (FloatKind.f64.format.order x 0 == some .eq) = false) (h1 : (FloatKind.f64.format.order x 0 == some .lt) = false)
    (h2 : (FloatKind.f64.format.order x 4737786807993761792 == some .gt) = false) (h2' : (FloatKind.f64.format.order x 4737786807993761792 == some .eq) = false)
    (t32 p1 q1 p2 q2 p3 z zz d1 d2 d3 g1 g2 : Nat) (r : Nat → Nat) (j : Int) (m1 : fl .mul x 4608412980311869571 = some t32) (cv : floatToIntVal .f64 t32 .u64 = some j)
    (hp : Go.bits .and .u64 j 1 = 0)
    (a1 : fl .mul (floatOfInt .f64 j) 4605249456957292544 = some p1) (b1 : fl .sub x p1 = some q1)
    (a2 : fl .mul (floatOfInt .f64 j) 4495793288086814720 = some p2) (b2 : fl .sub q1 p2 = some q2)
    (a3 : fl .mul (floatOfInt .f64 j) 4388835458085048688 = some p3) (b3 : fl .sub q2 p3 = some z) (c1 : fl .mul z z = some zz)
    (h7 : Go.bits .and .u64 j 7 = 2) (f1 : fl .mul 4602678819172646912 zz = some g1) (f2 : fl .sub 4607182418800017408 g1 = some g2) (e1 : fl .mul zz zz = some d1) (P : Poly 13666448263388469915 4477121864728985349 13732177093698800582 4537941361668146421 13787419979223748497 4586165620538955083 zz r)
    (e2 : fl .mul d1 (r 9) = some d2) (e3 : fl .add g2 d2 = some d3) :
    Calls Tryd.prog 102 #[.float .f64 x] w fun e w' => e = .returned (.float .f64 d3) ∧ w' = w := by
  obtain ⟨c0, c1', c2, c3, c4, c5, s0, s1, s2, s3, s4, s5⟩ := T
  obtain ⟨o0, o1, o2, o3, o4, o5, o6, o7, o8, o9⟩ := P
  have Rm1 := run_fl m1
  have Ra1 := run_fl a1
  have Rb1 := run_fl b1
  have Ra2 := run_fl a2
  have Rb2 := run_fl b2
  have Ra3 := run_fl a3
  have Rb3 := run_fl b3
  have Rc1 := run_fl c1
  have Re1 := run_fl e1
  have Re2 := run_fl e2
  have Re3 := run_fl e3
  have Ro0 := run_fl o0
  have Ro1 := run_fl o1
  have Ro2 := run_fl o2
  have Ro3 := run_fl o3
  have Ro4 := run_fl o4
  have Ro5 := run_fl o5
  have Ro6 := run_fl o6
  have Ro7 := run_fl o7
  have Ro8 := run_fl o8
  have Ro9 := run_fl o9
  have Rf1 := run_fl f1
  have Rf2 := run_fl f2
  have CV := fun (w : World) => run_convert_float_int (P := Tryd.prog) (w := w) 127 79 .f64 .u64 t32 j (by kernel_rfl) (by kernel_rfl) cv
  go_enter Tryd.func102, Tryd.ntmps102
  go_wp2_with fail
  refine (isNaN_calls x hn _).mono ?_
  rintro e w' ⟨rfl, rfl⟩
  go_wp2_with fail
  refine (isInf_calls x y ha hi _).mono ?_
  rintro e w' ⟨rfl, rfl⟩
  go_wp2_with fail
  go_ret
  exact ⟨rfl, rfl⟩
set_option maxRecDepth 100000 in
set_option maxHeartbeats 4000000 in
theorem sin_04 (x y : Nat) (w : World) (T : Trig w) (ha : Go.bits .andNot .u64 x 9223372036854775808 = y) (hi : (FloatKind.f64.format.order y 9218868437227405311 == some .gt) = false)
    (hn : FloatKind.f64.format.order x x = some .eq) (h0 : (FloatKind.f64.format.order x 0 == some .eq) = false) (h1 : (FloatKind.f64.format.order x 0 == some .lt) = false)
    (h2 : (FloatKind.f64.format.order x 4737786807993761792 == some .gt) = false) (h2' : (FloatKind.f64.format.order x 4737786807993761792 == some .eq) = false)
    (t32 p1 q1 p2 q2 p3 z zz d1 d2 d3 : Nat) (r : Nat → Nat) (j : Int) (m1 : fl .mul x 4608412980311869571 = some t32) (cv : floatToIntVal .f64 t32 .u64 = some j)
    (hp : Go.bits .and .u64 j 1 = 0)
    (a1 : fl .mul (floatOfInt .f64 j) 4605249456957292544 = some p1) (b1 : fl .sub x p1 = some q1)
    (a2 : fl .mul (floatOfInt .f64 j) 4495793288086814720 = some p2) (b2 : fl .sub q1 p2 = some q2)
    (a3 : fl .mul (floatOfInt .f64 j) 4388835458085048688 = some p3) (b3 : fl .sub q2 p3 = some z) (c1 : fl .mul z z = some zz)
    (h7 : Go.bits .and .u64 j 7 = 4) (e1 : fl .mul z zz = some d1) (P : Poly 4460209587652500685 13716528389658582877 4523617212962785441 13774824197404483331 4575957461383575504 13818544856648471880 zz r)
    (e2 : fl .mul d1 (r 9) = some d2) (e3 : fl .add z d2 = some d3) :
    Calls Tryd.prog 102 #[.float .f64 x] w fun e w' => e = .returned (.float .f64 (Go.Op.negFloat .f64 d3)) ∧ w' = w := by
  obtain ⟨c0, c1', c2, c3, c4, c5, s0, s1, s2, s3, s4, s5⟩ := T
  obtain ⟨o0, o1, o2, o3, o4, o5, o6, o7, o8, o9⟩ := P
  have Rm1 := run_fl m1
  have Ra1 := run_fl a1
  have Rb1 := run_fl b1
  have Ra2 := run_fl a2
  have Rb2 := run_fl b2
  have Ra3 := run_fl a3
  have Rb3 := run_fl b3
  have Rc1 := run_fl c1
  have Re1 := run_fl e1
  have Re2 := run_fl e2
  have Re3 := run_fl e3
  have Ro0 := run_fl o0
  have Ro1 := run_fl o1
  have Ro2 := run_fl o2
  have Ro3 := run_fl o3
  have Ro4 := run_fl o4
  have Ro5 := run_fl o5
  have Ro6 := run_fl o6
  have Ro7 := run_fl o7
  have Ro8 := run_fl o8
  have Ro9 := run_fl o9
  have RN : ∀ w : World, (Op.unary .neg (.float .f64 d3)).run Tryd.prog w = .ok (.float .f64 (Go.Op.negFloat .f64 d3)) w := fun _ => rfl
  have CV := fun (w : World) => run_convert_float_int (P := Tryd.prog) (w := w) 127 79 .f64 .u64 t32 j (by kernel_rfl) (by kernel_rfl) cv
  go_enter Tryd.func102, Tryd.ntmps102
  go_wp2_with fail
  refine (isNaN_calls x hn _).mono ?_
  rintro e w' ⟨rfl, rfl⟩
  go_wp2_with fail
  refine (isInf_calls x y ha hi _).mono ?_
  rintro e w' ⟨rfl, rfl⟩
  go_wp2_with fail
  go_ret
  exact ⟨rfl, rfl⟩
set_option maxRecDepth 100000 in
set_option maxHeartbeats 4000000 in
theorem sin_06 (x y : Nat) (w : World) (T : Trig w) (ha : Go.bits .andNot .u64 x 9223372036854775808 = y) (hi : (FloatKind.f64.format.order y 9218868437227405311 == some .gt) = false)
    (hn : FloatKind.f64.format.order x x = some .eq) (h0 : (FloatKind.f64.format.order x 0 == some .eq) = false) (h1 : (FloatKind.f64.format.order x 0 == some .lt) = false)
    (h2 : (FloatKind.f64.format.order x 4737786807993761792 == some .gt) = false) (h2' : (FloatKind.f64.format.order x 4737786807993761792 == some .eq) = false)
    (t32 p1 q1 p2 q2 p3 z zz d1 d2 d3 g1 g2 : Nat) (r : Nat → Nat) (j : Int) (m1 : fl .mul x 4608412980311869571 = some t32) (cv : floatToIntVal .f64 t32 .u64 = some j)
    (hp : Go.bits .and .u64 j 1 = 0)
    (a1 : fl .mul (floatOfInt .f64 j) 4605249456957292544 = some p1) (b1 : fl .sub x p1 = some q1)
    (a2 : fl .mul (floatOfInt .f64 j) 4495793288086814720 = some p2) (b2 : fl .sub q1 p2 = some q2)
    (a3 : fl .mul (floatOfInt .f64 j) 4388835458085048688 = some p3) (b3 : fl .sub q2 p3 = some z) (c1 : fl .mul z z = some zz)
    (h7 : Go.bits .and .u64 j 7 = 6) (f1 : fl .mul 4602678819172646912 zz = some g1) (f2 : fl .sub 4607182418800017408 g1 = some g2) (e1 : fl .mul zz zz = some d1) (P : Poly 13666448263388469915 4477121864728985349 13732177093698800582 4537941361668146421 13787419979223748497 4586165620538955083 zz r)
    (e2 : fl .mul d1 (r 9) = some d2) (e3 : fl .add g2 d2 = some d3) :
    Calls Tryd.prog 102 #[.float .f64 x] w fun e w' => e = .returned (.float .f64 (Go.Op.negFloat .f64 d3)) ∧ w' = w := by
  obtain ⟨c0, c1', c2, c3, c4, c5, s0, s1, s2, s3, s4, s5⟩ := T
  obtain ⟨o0, o1, o2, o3, o4, o5, o6, o7, o8, o9⟩ := P
  have Rm1 := run_fl m1
  have Ra1 := run_fl a1
  have Rb1 := run_fl b1
  have Ra2 := run_fl a2
  have Rb2 := run_fl b2
  have Ra3 := run_fl a3
  have Rb3 := run_fl b3
  have Rc1 := run_fl c1
  have Re1 := run_fl e1
  have Re2 := run_fl e2
  have Re3 := run_fl e3
  have Ro0 := run_fl o0
  have Ro1 := run_fl o1
  have Ro2 := run_fl o2
  have Ro3 := run_fl o3
  have Ro4 := run_fl o4
  have Ro5 := run_fl o5
  have Ro6 := run_fl o6
  have Ro7 := run_fl o7
  have Ro8 := run_fl o8
  have Ro9 := run_fl o9
  have Rf1 := run_fl f1
  have Rf2 := run_fl f2
  have RN : ∀ w : World, (Op.unary .neg (.float .f64 d3)).run Tryd.prog w = .ok (.float .f64 (Go.Op.negFloat .f64 d3)) w := fun _ => rfl
  have CV := fun (w : World) => run_convert_float_int (P := Tryd.prog) (w := w) 127 79 .f64 .u64 t32 j (by kernel_rfl) (by kernel_rfl) cv
  go_enter Tryd.func102, Tryd.ntmps102
  go_wp2_with fail
  refine (isNaN_calls x hn _).mono ?_
  rintro e w' ⟨rfl, rfl⟩
  go_wp2_with fail
  refine (isInf_calls x y ha hi _).mono ?_
  rintro e w' ⟨rfl, rfl⟩
  go_wp2_with fail
  go_ret
  exact ⟨rfl, rfl⟩
set_option maxRecDepth 100000 in
set_option maxHeartbeats 4000000 in
theorem sin_10 (x y : Nat) (w : World) (T : Trig w) (ha : Go.bits .andNot .u64 x 9223372036854775808 = y) (hi : (FloatKind.f64.format.order y 9218868437227405311 == some .gt) = false)
    (hn : FloatKind.f64.format.order x x = some .eq) (h0 : (FloatKind.f64.format.order x 0 == some .eq) = false) (h1 : (FloatKind.f64.format.order x 0 == some .lt) = false)
    (h2 : (FloatKind.f64.format.order x 4737786807993761792 == some .gt) = false) (h2' : (FloatKind.f64.format.order x 4737786807993761792 == some .eq) = false)
    (t32 p1 q1 p2 q2 p3 z zz d1 d2 d3 y1 : Nat) (r : Nat → Nat) (j j1 : Int) (m1 : fl .mul x 4608412980311869571 = some t32) (cv : floatToIntVal .f64 t32 .u64 = some j)
    (hp : Go.bits .and .u64 j 1 = 1) (hw : IntKind.u64.wrap (j + 1) = j1) (hadd : fl .add (floatOfInt .f64 j) 4607182418800017408 = some y1)
    (a1 : fl .mul y1 4605249456957292544 = some p1) (b1 : fl .sub x p1 = some q1)
    (a2 : fl .mul y1 4495793288086814720 = some p2) (b2 : fl .sub q1 p2 = some q2)
    (a3 : fl .mul y1 4388835458085048688 = some p3) (b3 : fl .sub q2 p3 = some z) (c1 : fl .mul z z = some zz)
    (h7 : Go.bits .and .u64 j1 7 = 0) (e1 : fl .mul z zz = some d1) (P : Poly 4460209587652500685 13716528389658582877 4523617212962785441 13774824197404483331 4575957461383575504 13818544856648471880 zz r)
    (e2 : fl .mul d1 (r 9) = some d2) (e3 : fl .add z d2 = some d3) :
    Calls Tryd.prog 102 #[.float .f64 x] w fun e w' => e = .returned (.float .f64 d3) ∧ w' = w := by
  obtain ⟨c0, c1', c2, c3, c4, c5, s0, s1, s2, s3, s4, s5⟩ := T
  obtain ⟨o0, o1, o2, o3, o4, o5, o6, o7, o8, o9⟩ := P
  have Rm1 := run_fl m1
  have Ra1 := run_fl a1
  have Rb1 := run_fl b1
  have Ra2 := run_fl a2
  have Rb2 := run_fl b2
  have Ra3 := run_fl a3
  have Rb3 := run_fl b3
  have Rc1 := run_fl c1
  have Re1 := run_fl e1
  have Re2 := run_fl e2
  have Re3 := run_fl e3
  have Ro0 := run_fl o0
  have Ro1 := run_fl o1
  have Ro2 := run_fl o2
  have Ro3 := run_fl o3
  have Ro4 := run_fl o4
  have Ro5 := run_fl o5
  have Ro6 := run_fl o6
  have Ro7 := run_fl o7
  have Ro8 := run_fl o8
  have Ro9 := run_fl o9
  have Rhadd := run_fl hadd
  have CV := fun (w : World) => run_convert_float_int (P := Tryd.prog) (w := w) 127 79 .f64 .u64 t32 j (by kernel_rfl) (by kernel_rfl) cv
  go_enter Tryd.func102, Tryd.ntmps102
  go_wp2_with fail
  refine (isNaN_calls x hn _).mono ?_
  rintro e w' ⟨rfl, rfl⟩
  go_wp2_with fail
  refine (isInf_calls x y ha hi _).mono ?_
  rintro e w' ⟨rfl, rfl⟩
  go_wp2_with fail
  go_ret
  exact ⟨rfl, rfl⟩
set_option maxRecDepth 100000 in
set_option maxHeartbeats 4000000 in
theorem sin_12 (x y : Nat) (w : World) (T : Trig w) (ha : Go.bits .andNot .u64 x 9223372036854775808 = y) (hi : (FloatKind.f64.format.order y 9218868437227405311 == some .gt) = false)
    (hn : FloatKind.f64.format.order x x = some .eq) (h0 : (FloatKind.f64.format.order x 0 == some .eq) = false) (h1 : (FloatKind.f64.format.order x 0 == some .lt) = false)
    (h2 : (FloatKind.f64.format.order x 4737786807993761792 == some .gt) = false) (h2' : (FloatKind.f64.format.order x 4737786807993761792 == some .eq) = false)
    (t32 p1 q1 p2 q2 p3 z zz d1 d2 d3 y1 g1 g2 : Nat) (r : Nat → Nat) (j j1 : Int) (m1 : fl .mul x 4608412980311869571 = some t32) (cv : floatToIntVal .f64 t32 .u64 = some j)
    (hp : Go.bits .and .u64 j 1 = 1) (hw : IntKind.u64.wrap (j + 1) = j1) (hadd : fl .add (floatOfInt .f64 j) 4607182418800017408 = some y1)
    (a1 : fl .mul y1 4605249456957292544 = some p1) (b1 : fl .sub x p1 = some q1)
    (a2 : fl .mul y1 4495793288086814720 = some p2) (b2 : fl .sub q1 p2 = some q2)
    (a3 : fl .mul y1 4388835458085048688 = some p3) (b3 : fl .sub q2 p3 = some z) (c1 : fl .mul z z = some zz)
    (h7 : Go.bits .and .u64 j1 7 = 2) (f1 : fl .mul 4602678819172646912 zz = some g1) (f2 : fl .sub 4607182418800017408 g1 = some g2) (e1 : fl .mul zz zz = some d1) (P : Poly 13666448263388469915 4477121864728985349 13732177093698800582 4537941361668146421 13787419979223748497 4586165620538955083 zz r)
    (e2 : fl .mul d1 (r 9) = some d2) (e3 : fl .add g2 d2 = some d3) :
    Calls Tryd.prog 102 #[.float .f64 x] w fun e w' => e = .returned (.float .f64 d3) ∧ w' = w := by
  obtain ⟨c0, c1', c2, c3, c4, c5, s0, s1, s2, s3, s4, s5⟩ := T
  obtain ⟨o0, o1, o2, o3, o4, o5, o6, o7, o8, o9⟩ := P
  have Rm1 := run_fl m1
  have Ra1 := run_fl a1
  have Rb1 := run_fl b1
  have Ra2 := run_fl a2
  have Rb2 := run_fl b2
  have Ra3 := run_fl a3
  have Rb3 := run_fl b3
  have Rc1 := run_fl c1
  have Re1 := run_fl e1
  have Re2 := run_fl e2
  have Re3 := run_fl e3
  have Ro0 := run_fl o0
  have Ro1 := run_fl o1
  have Ro2 := run_fl o2
  have Ro3 := run_fl o3
  have Ro4 := run_fl o4
  have Ro5 := run_fl o5
  have Ro6 := run_fl o6
  have Ro7 := run_fl o7
  have Ro8 := run_fl o8
  have Ro9 := run_fl o9
  have Rhadd := run_fl hadd
  have Rf1 := run_fl f1
  have Rf2 := run_fl f2
  have CV := fun (w : World) => run_convert_float_int (P := Tryd.prog) (w := w) 127 79 .f64 .u64 t32 j (by kernel_rfl) (by kernel_rfl) cv
  go_enter Tryd.func102, Tryd.ntmps102
  go_wp2_with fail
  refine (isNaN_calls x hn _).mono ?_
  rintro e w' ⟨rfl, rfl⟩
  go_wp2_with fail
  refine (isInf_calls x y ha hi _).mono ?_
  rintro e w' ⟨rfl, rfl⟩
  go_wp2_with fail
  go_ret
  exact ⟨rfl, rfl⟩
set_option maxRecDepth 100000 in
set_option maxHeartbeats 4000000 in
theorem sin_14 (x y : Nat) (w : World) (T : Trig w) (ha : Go.bits .andNot .u64 x 9223372036854775808 = y) (hi : (FloatKind.f64.format.order y 9218868437227405311 == some .gt) = false)
    (hn : FloatKind.f64.format.order x x = some .eq) (h0 : (FloatKind.f64.format.order x 0 == some .eq) = false) (h1 : (FloatKind.f64.format.order x 0 == some .lt) = false)
    (h2 : (FloatKind.f64.format.order x 4737786807993761792 == some .gt) = false) (h2' : (FloatKind.f64.format.order x 4737786807993761792 == some .eq) = false)
    (t32 p1 q1 p2 q2 p3 z zz d1 d2 d3 y1 : Nat) (r : Nat → Nat) (j j1 : Int) (m1 : fl .mul x 4608412980311869571 = some t32) (cv : floatToIntVal .f64 t32 .u64 = some j)
    (hp : Go.bits .and .u64 j 1 = 1) (hw : IntKind.u64.wrap (j + 1) = j1) (hadd : fl .add (floatOfInt .f64 j) 4607182418800017408 = some y1)
    (a1 : fl .mul y1 4605249456957292544 = some p1) (b1 : fl .sub x p1 = some q1)
    (a2 : fl .mul y1 4495793288086814720 = some p2) (b2 : fl .sub q1 p2 = some q2)
    (a3 : fl .mul y1 4388835458085048688 = some p3) (b3 : fl .sub q2 p3 = some z) (c1 : fl .mul z z = some zz)
    (h7 : Go.bits .and .u64 j1 7 = 4) (e1 : fl .mul z zz = some d1) (P : Poly 4460209587652500685 13716528389658582877 4523617212962785441 13774824197404483331 4575957461383575504 13818544856648471880 zz r)
    (e2 : fl .mul d1 (r 9) = some d2) (e3 : fl .add z d2 = some d3) :
    Calls Tryd.prog 102 #[.float .f64 x] w fun e w' => e = .returned (.float .f64 (Go.Op.negFloat .f64 d3)) ∧ w' = w := by
  obtain ⟨c0, c1', c2, c3, c4, c5, s0, s1, s2, s3, s4, s5⟩ := T
  obtain ⟨o0, o1, o2, o3, o4, o5, o6, o7, o8, o9⟩ := P
  have Rm1 := run_fl m1
  have Ra1 := run_fl a1
  have Rb1 := run_fl b1
  have Ra2 := run_fl a2
  have Rb2 := run_fl b2
  have Ra3 := run_fl a3
  have Rb3 := run_fl b3
  have Rc1 := run_fl c1
  have Re1 := run_fl e1
  have Re2 := run_fl e2
  have Re3 := run_fl e3
  have Ro0 := run_fl o0
  have Ro1 := run_fl o1
  have Ro2 := run_fl o2
  have Ro3 := run_fl o3
  have Ro4 := run_fl o4
  have Ro5 := run_fl o5
  have Ro6 := run_fl o6
  have Ro7 := run_fl o7
  have Ro8 := run_fl o8
  have Ro9 := run_fl o9
  have Rhadd := run_fl hadd
  have RN : ∀ w : World, (Op.unary .neg (.float .f64 d3)).run Tryd.prog w = .ok (.float .f64 (Go.Op.negFloat .f64 d3)) w := fun _ => rfl
  have CV := fun (w : World) => run_convert_float_int (P := Tryd.prog) (w := w) 127 79 .f64 .u64 t32 j (by kernel_rfl) (by kernel_rfl) cv
  go_enter Tryd.func102, Tryd.ntmps102
  go_wp2_with fail
  refine (isNaN_calls x hn _).mono ?_
  rintro e w' ⟨rfl, rfl⟩
  go_wp2_with fail
  refine (isInf_calls x y ha hi _).mono ?_
  rintro e w' ⟨rfl, rfl⟩
  go_wp2_with fail
  go_ret
  exact ⟨rfl, rfl⟩
set_option maxRecDepth 100000 in
set_option maxHeartbeats 4000000 in
theorem sin_16 (x y : Nat) (w : World) (T : Trig w) (ha : Go.bits .andNot .u64 x 9223372036854775808 = y) (hi : (FloatKind.f64.format.order y 9218868437227405311 == some .gt) = false)
    (hn : FloatKind.f64.format.order x x = some .eq) (h0 : (FloatKind.f64.format.order x 0 == some .eq) = false) (h1 : (FloatKind.f64.format.order x 0 == some .lt) = false)
    (h2 : (FloatKind.f64.format.order x 4737786807993761792 == some .gt) = false) (h2' : (FloatKind.f64.format.order x 4737786807993761792 == some .eq) = false)
    (t32 p1 q1 p2 q2 p3 z zz d1 d2 d3 y1 g1 g2 : Nat) (r : Nat → Nat) (j j1 : Int) (m1 : fl .mul x 4608412980311869571 = some t32) (cv : floatToIntVal .f64 t32 .u64 = some j)
    (hp : Go.bits .and .u64 j 1 = 1) (hw : IntKind.u64.wrap (j + 1) = j1) (hadd : fl .add (floatOfInt .f64 j) 4607182418800017408 = some y1)
    (a1 : fl .mul y1 4605249456957292544 = some p1) (b1 : fl .sub x p1 = some q1)
    (a2 : fl .mul y1 4495793288086814720 = some p2) (b2 : fl .sub q1 p2 = some q2)
    (a3 : fl .mul y1 4388835458085048688 = some p3) (b3 : fl .sub q2 p3 = some z) (c1 : fl .mul z z = some zz)
    (h7 : Go.bits .and .u64 j1 7 = 6) (f1 : fl .mul 4602678819172646912 zz = some g1) (f2 : fl .sub 4607182418800017408 g1 = some g2) (e1 : fl .mul zz zz = some d1) (P : Poly 13666448263388469915 4477121864728985349 13732177093698800582 4537941361668146421 13787419979223748497 4586165620538955083 zz r)
    (e2 : fl .mul d1 (r 9) = some d2) (e3 : fl .add g2 d2 = some d3) :
    Calls Tryd.prog 102 #[.float .f64 x] w fun e w' => e = .returned (.float .f64 (Go.Op.negFloat .f64 d3)) ∧ w' = w := by
  obtain ⟨c0, c1', c2, c3, c4, c5, s0, s1, s2, s3, s4, s5⟩ := T
  obtain ⟨o0, o1, o2, o3, o4, o5, o6, o7, o8, o9⟩ := P
  have Rm1 := run_fl m1
  have Ra1 := run_fl a1
  have Rb1 := run_fl b1
  have Ra2 := run_fl a2
  have Rb2 := run_fl b2
  have Ra3 := run_fl a3
  have Rb3 := run_fl b3
  have Rc1 := run_fl c1
  have Re1 := run_fl e1
  have Re2 := run_fl e2
  have Re3 := run_fl e3
  have Ro0 := run_fl o0
  have Ro1 := run_fl o1
  have Ro2 := run_fl o2
  have Ro3 := run_fl o3
  have Ro4 := run_fl o4
  have Ro5 := run_fl o5
  have Ro6 := run_fl o6
  have Ro7 := run_fl o7
  have Ro8 := run_fl o8
  have Ro9 := run_fl o9
  have Rhadd := run_fl hadd
  have Rf1 := run_fl f1
  have Rf2 := run_fl f2
  have RN : ∀ w : World, (Op.unary .neg (.float .f64 d3)).run Tryd.prog w = .ok (.float .f64 (Go.Op.negFloat .f64 d3)) w := fun _ => rfl
  have CV := fun (w : World) => run_convert_float_int (P := Tryd.prog) (w := w) 127 79 .f64 .u64 t32 j (by kernel_rfl) (by kernel_rfl) cv
  go_enter Tryd.func102, Tryd.ntmps102
  go_wp2_with fail
  refine (isNaN_calls x hn _).mono ?_
  rintro e w' ⟨rfl, rfl⟩
  go_wp2_with fail
  refine (isInf_calls x y ha hi _).mono ?_
  rintro e w' ⟨rfl, rfl⟩
  go_wp2_with fail
  go_ret
  exact ⟨rfl, rfl⟩
end Go.Proofs.YtmhlebnomagekaaDoor
