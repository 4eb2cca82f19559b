/- md5's block: sixty-four steps over a state of four words. -/
import Derived.Test.YtmhlebnomagekaaDoorMd5K
import Derived.Deep.QuietTactic
import Derived.BigQuiet
import Derived.Laws.EntriesVeiled
set_option linter.unusedVariables false
set_option linter.unusedSimpArgs false
namespace Go.Proofs.YtmhlebnomagekaaDoor
open Go.RowKit Go.Proofs.YtmhlebnomagekaaDoorW.PrintWords

/-- four words -/
structure St where
  a : Int
  b : Int
  c : Int
  d : Int
/-- how far step i of round q turns -/
def byF (q j : Nat) : Nat := ([7, 12, 17, 22, 5, 9, 14, 20, 4, 11, 16, 23, 6, 10, 15, 21] : List Nat).getD (4 * q + j) 0
/-- the word of four bytes, the lowest first -/
def word4 (x0 x1 x2 x3 : Int) : Int := Go.bits .or .u32 (Go.bits .or .u32 (Go.bits .or .u32 (x0 % 4294967296) (x1 % 4294967296 * 256 % 4294967296)) (x2 % 4294967296 * 65536 % 4294967296)) (x3 % 4294967296 * 16777216 % 4294967296)
theorem word4_fold (x0 x1 x2 x3 : Int) : Go.bits .or .u32 (Go.bits .or .u32 (Go.bits .or .u32 (x0 % 4294967296) (x1 % 4294967296 * 256 % 4294967296)) (x2 % 4294967296 * 65536 % 4294967296)) (x3 % 4294967296 * 16777216 % 4294967296) = word4 x0 x1 x2 x3 := rfl
def wordF (t : ByteArray) (k : Nat) : Int := word4 (bt t k) (bt t (k + 1 : Nat)) (bt t (k + 2 : Nat)) (bt t (k + 3 : Nat))
theorem wordF_range (t : ByteArray) (k : Nat) : 0 ≤ wordF t k ∧ wordF t k < 4294967296 := by unfold wordF word4; exact bits_u32 _ _ _
def add32 (x y : Int) : Int := (x + y) % 4294967296
/-- one step -/
def stepF (t : ByteArray) (i : Nat) (s : St) : St :=
  ⟨s.d, (s.b + rot (byF (i / 16) (i % 4)) ((s.a + mixF (i / 16) s.b s.c s.d + wordF t (4 * placeF (i / 16) i) + konst i) % 4294967296)) % 4294967296, s.b, s.c⟩
def stepsF (t : ByteArray) (s : St) : Nat → St
  | 0 => s
  | k + 1 => stepF t k (stepsF t s k)
def St.wf (s : St) : Prop := (0 ≤ s.a ∧ s.a < 4294967296) ∧ (0 ≤ s.b ∧ s.b < 4294967296) ∧ (0 ≤ s.c ∧ s.c < 4294967296) ∧ (0 ≤ s.d ∧ s.d < 4294967296)
theorem add32_range (x y : Int) : 0 ≤ add32 x y ∧ add32 x y < 4294967296 := by unfold add32; omega
theorem stepF_wf {t : ByteArray} {i : Nat} {s : St} (h : s.wf) : (stepF t i s).wf := ⟨h.2.2.2, add32_range _ _, h.2.1, h.2.2.1⟩
theorem stepsF_succ (t : ByteArray) (s : St) (k : Nat) : stepsF t s (k + 1) = stepF t k (stepsF t s k) := rfl
theorem stepsF_wf {t : ByteArray} {s : St} (h : s.wf) (k : Nat) : (stepsF t s k).wf := by
  induction k with
  | zero => exact h
  | succ k ih => exact stepF_wf ih
/-- a block's end: the state behind it -/
def sumSt (s r : St) : St := ⟨add32 s.a r.a, add32 s.b r.b, add32 s.c r.c, add32 s.d r.d⟩
def blockF (s : St) (t : ByteArray) : St := sumSt s (stepsF t s 64)

theorem Trig.below {w w' : World} {B : Nat} (T : Trig w) (h : Below B w w') (hB : 3 ≤ B) : Trig w' := by
  have g : ∀ b o, b < 3 → w'.cell? ⟨b, o, none⟩ = w.cell? ⟨b, o, none⟩ := fun b o hb => h.cell (p := ⟨b, o, none⟩) (show b < B by omega)
  obtain ⟨c0, c1, c2, c3, c4, c5, s0, s1, s2, s3, s4, s5⟩ := T
  constructor <;> (rw [g _ _ (by decide)]; assumption)

/-- w' is w with new blocks and with four words at g's cells from o on. -/
def SetSt (w : World) (g o : Nat) (s : St) (w' : World) : Prop :=
  ∃ w1, Below w.heap.size w w1 ∧ w' = (((w1.setCell ⟨g, o, none⟩ (.int .u32 s.a)).setCell ⟨g, o + 1, none⟩ (.int .u32 s.b)).setCell ⟨g, o + 2, none⟩ (.int .u32 s.c)).setCell ⟨g, o + 3, none⟩ (.int .u32 s.d)
theorem quiet_add_same {P : Program} {f : FuncId} {args : Array Value} {w : World} {a n : Nat} {v : Value}
    (h : Calls P f args (w.drewN (a + n)) fun e w' => e = .returned v ∧ w' = w.drewN (a + n)) :
    Calls P f args (w.drewN (a + n)) fun e w'' => e = .returned v ∧ ∃ m, w'' = w.drewN (a + m) :=
  h.mono fun _ _ ⟨he, hm⟩ => ⟨he, n, hm⟩
theorem quiet_add_left {P : Program} {f : FuncId} {args : Array Value} {w : World} {a n : Nat} {v : Value}
    (h : Calls P f args (w.drewN (a + n)) fun e w' => e = .returned v ∧ w.drewN (a + n) = w') :
    Calls P f args (w.drewN (a + n)) fun e w'' => e = .returned v ∧ ∃ m, w'' = w.drewN (a + m) :=
  h.mono fun _ _ ⟨he, hm⟩ => ⟨he, n, hm.symm⟩
theorem word_at (t : ByteArray) (p : Nat) : ∃ x0 x1 x2 x3 : Int, (∀ h : 4 * p < t.size, ((t[4 * p]'h).toNat : Int) = x0) ∧ (∀ h : 4 * p + 1 < t.size, ((t[4 * p + 1]'h).toNat : Int) = x1) ∧
    (∀ h : 4 * p + 2 < t.size, ((t[4 * p + 2]'h).toNat : Int) = x2) ∧ (∀ h : 4 * p + 3 < t.size, ((t[4 * p + 3]'h).toNat : Int) = x3) ∧ word4 x0 x1 x2 x3 = wordF t (4 * p) :=
  ⟨_, _, _, _, fun h => bt_at t (4 * p : Nat) h, fun h => bt_at t (4 * p + 1 : Nat) h, fun h => bt_at t (4 * p + 2 : Nat) h, fun h => bt_at t (4 * p + 3 : Nat) h, rfl⟩

set_option maxHeartbeats 4000000 in
set_option maxRecDepth 100000 in
theorem block_c (g o : Nat) (s : St) (hs : s.wf) (t : ByteArray) (ht : t.size = 64) (w : World) (T : Trig w) (hB : 3 ≤ w.heap.size)
    (h0 : w.cell? ⟨g, o, none⟩ = some (.int .u32 s.a)) (h1 : w.cell? ⟨g, o + 1, none⟩ = some (.int .u32 s.b)) (h2 : w.cell? ⟨g, o + 2, none⟩ = some (.int .u32 s.c)) (h3 : w.cell? ⟨g, o + 3, none⟩ = some (.int .u32 s.d))
    (hf : ∀ j, w.frozen? ⟨g, j, none⟩ = false) (hg : g < w.heap.size) :
    Calls Tryd.prog 48 #[.pointer (some ⟨g, o, none⟩), .string t] w fun e w' => e = .returned (.tuple #[]) ∧ SetSt w g o (blockF s t) w' := by
  go_enter Tryd.func48, Tryd.ntmps48
  go_wp2
  go_quiet (fail)
  go_wp2_with (go_at_call 75; refine (rounds_c _).mono ?_; rintro e w' ⟨rfl, rfl⟩)
  have hB0 := Aside0.mk (show Below w.heap.size w (w.alloc (.cells roundsCells 126)) from (Below.refl _ _).alloc (Nat.le_refl _) _)
  go_loopw [4, 5, 6, 7, 32] (fun a b c d i wr => ∃ k : Nat, k ≤ 64 ∧ i = .int .i64 k ∧ a = .int .u32 (stepsF t s k).a ∧ b = .int .u32 (stepsF t s k).b ∧ c = .int .u32 (stepsF t s k).c ∧ d = .int .u32 (stepsF t s k).d ∧ Aside0 (Below (w.heap.size + 1) (w.alloc (.cells roundsCells 126)) wr)) (fun _ _ _ _ i _ => 64 - (intOf i).toNat)
  case atStart => exact ⟨0, by omega, rfl, rfl, rfl, rfl, rfl, ⟨below_drewN' (Below.refl _ _) _⟩⟩
  case round =>
    obtain ⟨k, hk, rfl, rfl, rfl, rfl, rfl, HW⟩ := hrel
    by_cases hlt : k < 64
    · have hcl : ∀ j, wr.cell? ⟨w.heap.size, j, none⟩ = roundsCells[j]? := fun j => (HW.out.cell (p := ⟨w.heap.size, j, none⟩) (Nat.lt_succ_self _)).trans (by simp)
      have hq4 : (k : Int) / 16 = 0 ∨ (k : Int) / 16 = 1 ∨ (k : Int) / 16 = 2 ∨ (k : Int) / 16 = 3 := by omega
      rcases hq4 with hq | hq | hq | hq
      · have c0 := hcl 0
        have c1 := hcl 1
        have c2 := hcl 2
        have c3 := hcl 3
        have c4 := hcl 4
        have c5 := hcl 5
        simp [roundsCells] at c0 c1 c2 c3 c4 c5
        clear hcl
        obtain ⟨p, hp⟩ : ∃ p, p = placeF 0 k := ⟨_, rfl⟩
        have hp16 : p < 16 := by rw [hp]; simp only [placeF]; omega
        have HP := Aside0.mk hp
        have hpl := Aside0.mk (fun W => hp ▸ place_0 k W hlt)
        clear hp
        have b0 : (0 : Int) ≤ 4 * (p : Int) := by omega
        have b1 : 4 * (p : Int) + 3 < 64 := by omega
        have b2 : 4 * (p : Int) + 2 < 64 := by omega
        have b3 : 4 * (p : Int) + 1 < 64 := by omega
        have b4 : 4 * (p : Int) < 64 := by omega
        have b5 : 4 * (p : Int) ≤ 9000 := by omega
        go_wp2_with (go_at_call 90; refine (hpl.out _).mono ?_; rintro e w' ⟨rfl, rfl⟩)
        obtain ⟨x0, x1, x2, x3, hx0, hx1, hx2, hx3, hX⟩ := word_at t p
        have e1 : IntKind.i64.wrap (4 * (p : Int) + 1) = 4 * (p : Int) + 1 := IntWalk.i64_in _ (by omega)
        have e2 : IntKind.i64.wrap (4 * (p : Int) + 2) = 4 * (p : Int) + 2 := IntWalk.i64_in _ (by omega)
        have e3 : IntKind.i64.wrap (4 * (p : Int) + 3) = 4 * (p : Int) + 3 := IntWalk.i64_in _ (by omega)
        have p1 : (0 : Int) ≤ 4 * (p : Int) + 1 := by omega
        have p2 : (0 : Int) ≤ 4 * (p : Int) + 2 := by omega
        have p3 : (0 : Int) ≤ 4 * (p : Int) + 3 := by omega
        have q0 : (4 * (p : Int)).toNat = 4 * p := by omega
        have q1 : (4 * (p : Int) + 1).toNat = 4 * p + 1 := by omega
        have q2 : (4 * (p : Int) + 2).toNat = 4 * p + 2 := by omega
        have q3 : (4 * (p : Int) + 3).toNat = 4 * p + 3 := by omega
        have HX := Aside0.mk hX
        clear hX
        go_quiet (fail)
        clear e1 e2 e3 p1 p2 p3 q0 q1 q2 q3 hx0 hx1 hx2 hx3
        rw [word4_fold, HX.out]
        clear HX
        generalize hwd : wordF t (4 * p) = wd
        have HWD := Aside0.mk hwd
        clear hwd
        have HM := run_fl (mulT_is k hlt) 127
        have HI : ∀ w, (convert 3 127 (.int .i64 ((k : Int) + 1))).run Tryd.prog w = .ok (.float .f64 (xT k)) w := fun w => by
          rw [← xT_is k hlt]; exact run_convert_int_float (P := Tryd.prog) (w := w) _ _ _ _ _ (by kernel_rfl) (by kernel_rfl)
        have HU : ∀ w, (convert 127 63 (.float .f64 (floT k))).run Tryd.prog w = .ok (.int .u32 (konst k)) w := fun w => run_convert_float_int (P := Tryd.prog) (w := w) _ _ .f64 .u32 _ _ (by kernel_rfl) (by kernel_rfl) (konst_is k hlt)
        have HT : Trig wr := ((T.below hB0.out hB).below HW.out (by omega))
        have hZ : 3 ≤ wr.heap.size := by have := HW.out.size; simp at this; omega
        have HT := Aside0.mk HT
        go_wp2_with fail
        refine (sin_any k hlt _ (Trig.below (B := wr.heap.size) HT.out (below_drewN' ((Below.refl _ _).alloc (Nat.le_refl _) _) _) hZ)).mono ?_
        rintro e w' ⟨rfl, rfl⟩
        go_wp2_with fail
        refine (abs_calls _ _ (absT_is k hlt) _).mono ?_
        rintro e w' ⟨rfl, rfl⟩
        go_wp2_with fail
        refine (floor_any k hlt _).mono ?_
        rintro e w' ⟨rfl, rfl⟩
        go_wp2_with fail
        obtain ⟨m, hm⟩ : ∃ m : Nat, m = k % 4 := ⟨_, rfl⟩
        have hm4 : m < 4 := by omega
        have hki : (k : Int) % 4 = (m : Int) := by omega
        have m0 : (0 : Int) ≤ (m : Int) := by omega
        have m1 : (m : Int) < 4 := by omega
        have HM0 := Aside0.mk hm
        clear hm
        have hc0 : (wr.alloc (.cells #[.func (.func 89) #[] #[], .func (.func 90) #[] #[], .int .i64 7, .int .i64 12, .int .i64 17, .int .i64 22] 126)).cell? ⟨wr.heap.size, 0, none⟩ = some (.func (.func 89) #[] #[]) := by simp
        have hcm : (wr.alloc (.cells #[.func (.func 89) #[] #[], .func (.func 90) #[] #[], .int .i64 7, .int .i64 12, .int .i64 17, .int .i64 22] 126)).cell? ⟨wr.heap.size, 2 + m, none⟩ = some (.int .i64 (byF 0 m : Nat)) := by
          rcases (by omega : m = 0 ∨ m = 1 ∨ m = 2 ∨ m = 3) with rfl | rfl | rfl | rfl <;> simp [byF]
        have hbn : Below wr.heap.size wr (wr.alloc (.cells #[.func (.func 89) #[] #[], .func (.func 90) #[] #[], .int .i64 7, .int .i64 12, .int .i64 17, .int .i64 22] 126)) := (Below.refl _ _).alloc (Nat.le_refl _) _
        generalize wr.alloc (.cells #[.func (.func 89) #[] #[], .func (.func 90) #[] #[], .int .i64 7, .int .i64 12, .int .i64 17, .int .i64 22] 126) = wn at hc0 hcm hbn ⊢
        have hbm : byF 0 m ∈ [7, 12, 17, 22, 5, 9, 14, 20, 4, 11, 16, 23, 6, 10, 15, 21] := by
          rcases (by omega : m = 0 ∨ m = 1 ∨ m = 2 ∨ m = 3) with rfl | rfl | rfl | rfl <;> simp [byF]
        generalize hby : byF 0 m = by_ at hcm hbm
        have HBY := Aside0.mk hby
        have HBM := Aside0.mk hbm
        clear hby hbm
        generalize hkn : (konst k : Int) = kn
        have HKN := Aside0.mk hkn
        clear hkn
        generalize hS : stepsF t s k = S
        have HS := Aside0.mk hS
        clear hS
        go_quiet ((first | (go_at_call 89; exact quiet_add_left (mix_0 _ _ _ _)) | (go_at_call 79; exact quiet_add_same (rotl_any _ HBM.out _ _ (by omega) (by omega)))))
        go_wp2
        go_roundw
        case rel =>
          refine ⟨k + 1, by omega, by go_num, ?_, ?_, ?_, ?_, ⟨?_⟩⟩
          · rw [stepsF_succ, HS.out]; rfl
          · rw [stepsF_succ, HS.out]
            show Value.int _ _ = Value.int _ _
            congr 1
            simp only [stepF]
            rw [show k / 16 = 0 by omega, ← HM0.out, HBY.out, ← HP.out, HWD.out, HKN.out]
          · rw [stepsF_succ, HS.out]; rfl
          · rw [stepsF_succ, HS.out]; rfl
          · exact below_drewN' (below_then hbn HW.out (by have := HW.out.size; simpa using this)) _
        case measure => simp [intOf]; omega
      · have c0 := hcl 6
        have c1 := hcl 7
        have c2 := hcl 8
        have c3 := hcl 9
        have c4 := hcl 10
        have c5 := hcl 11
        simp [roundsCells] at c0 c1 c2 c3 c4 c5
        clear hcl
        obtain ⟨p, hp⟩ : ∃ p, p = placeF 1 k := ⟨_, rfl⟩
        have hp16 : p < 16 := by rw [hp]; simp only [placeF]; omega
        have HP := Aside0.mk hp
        have hpl := Aside0.mk (fun W => hp ▸ place_1 k W hlt)
        clear hp
        have b0 : (0 : Int) ≤ 4 * (p : Int) := by omega
        have b1 : 4 * (p : Int) + 3 < 64 := by omega
        have b2 : 4 * (p : Int) + 2 < 64 := by omega
        have b3 : 4 * (p : Int) + 1 < 64 := by omega
        have b4 : 4 * (p : Int) < 64 := by omega
        have b5 : 4 * (p : Int) ≤ 9000 := by omega
        go_wp2_with (go_at_call 92; refine (hpl.out _).mono ?_; rintro e w' ⟨rfl, rfl⟩)
        obtain ⟨x0, x1, x2, x3, hx0, hx1, hx2, hx3, hX⟩ := word_at t p
        have e1 : IntKind.i64.wrap (4 * (p : Int) + 1) = 4 * (p : Int) + 1 := IntWalk.i64_in _ (by omega)
        have e2 : IntKind.i64.wrap (4 * (p : Int) + 2) = 4 * (p : Int) + 2 := IntWalk.i64_in _ (by omega)
        have e3 : IntKind.i64.wrap (4 * (p : Int) + 3) = 4 * (p : Int) + 3 := IntWalk.i64_in _ (by omega)
        have p1 : (0 : Int) ≤ 4 * (p : Int) + 1 := by omega
        have p2 : (0 : Int) ≤ 4 * (p : Int) + 2 := by omega
        have p3 : (0 : Int) ≤ 4 * (p : Int) + 3 := by omega
        have q0 : (4 * (p : Int)).toNat = 4 * p := by omega
        have q1 : (4 * (p : Int) + 1).toNat = 4 * p + 1 := by omega
        have q2 : (4 * (p : Int) + 2).toNat = 4 * p + 2 := by omega
        have q3 : (4 * (p : Int) + 3).toNat = 4 * p + 3 := by omega
        have HX := Aside0.mk hX
        clear hX
        go_quiet (fail)
        clear e1 e2 e3 p1 p2 p3 q0 q1 q2 q3 hx0 hx1 hx2 hx3
        rw [word4_fold, HX.out]
        clear HX
        generalize hwd : wordF t (4 * p) = wd
        have HWD := Aside0.mk hwd
        clear hwd
        have HM := run_fl (mulT_is k hlt) 127
        have HI : ∀ w, (convert 3 127 (.int .i64 ((k : Int) + 1))).run Tryd.prog w = .ok (.float .f64 (xT k)) w := fun w => by
          rw [← xT_is k hlt]; exact run_convert_int_float (P := Tryd.prog) (w := w) _ _ _ _ _ (by kernel_rfl) (by kernel_rfl)
        have HU : ∀ w, (convert 127 63 (.float .f64 (floT k))).run Tryd.prog w = .ok (.int .u32 (konst k)) w := fun w => run_convert_float_int (P := Tryd.prog) (w := w) _ _ .f64 .u32 _ _ (by kernel_rfl) (by kernel_rfl) (konst_is k hlt)
        have HT : Trig wr := ((T.below hB0.out hB).below HW.out (by omega))
        have hZ : 3 ≤ wr.heap.size := by have := HW.out.size; simp at this; omega
        have HT := Aside0.mk HT
        go_wp2_with fail
        refine (sin_any k hlt _ (Trig.below (B := wr.heap.size) HT.out (below_drewN' ((Below.refl _ _).alloc (Nat.le_refl _) _) _) hZ)).mono ?_
        rintro e w' ⟨rfl, rfl⟩
        go_wp2_with fail
        refine (abs_calls _ _ (absT_is k hlt) _).mono ?_
        rintro e w' ⟨rfl, rfl⟩
        go_wp2_with fail
        refine (floor_any k hlt _).mono ?_
        rintro e w' ⟨rfl, rfl⟩
        go_wp2_with fail
        obtain ⟨m, hm⟩ : ∃ m : Nat, m = k % 4 := ⟨_, rfl⟩
        have hm4 : m < 4 := by omega
        have hki : (k : Int) % 4 = (m : Int) := by omega
        have m0 : (0 : Int) ≤ (m : Int) := by omega
        have m1 : (m : Int) < 4 := by omega
        have HM0 := Aside0.mk hm
        clear hm
        have hc0 : (wr.alloc (.cells #[.func (.func 91) #[] #[], .func (.func 92) #[] #[], .int .i64 5, .int .i64 9, .int .i64 14, .int .i64 20] 126)).cell? ⟨wr.heap.size, 0, none⟩ = some (.func (.func 91) #[] #[]) := by simp
        have hcm : (wr.alloc (.cells #[.func (.func 91) #[] #[], .func (.func 92) #[] #[], .int .i64 5, .int .i64 9, .int .i64 14, .int .i64 20] 126)).cell? ⟨wr.heap.size, 2 + m, none⟩ = some (.int .i64 (byF 1 m : Nat)) := by
          rcases (by omega : m = 0 ∨ m = 1 ∨ m = 2 ∨ m = 3) with rfl | rfl | rfl | rfl <;> simp [byF]
        have hbn : Below wr.heap.size wr (wr.alloc (.cells #[.func (.func 91) #[] #[], .func (.func 92) #[] #[], .int .i64 5, .int .i64 9, .int .i64 14, .int .i64 20] 126)) := (Below.refl _ _).alloc (Nat.le_refl _) _
        generalize wr.alloc (.cells #[.func (.func 91) #[] #[], .func (.func 92) #[] #[], .int .i64 5, .int .i64 9, .int .i64 14, .int .i64 20] 126) = wn at hc0 hcm hbn ⊢
        have hbm : byF 1 m ∈ [7, 12, 17, 22, 5, 9, 14, 20, 4, 11, 16, 23, 6, 10, 15, 21] := by
          rcases (by omega : m = 0 ∨ m = 1 ∨ m = 2 ∨ m = 3) with rfl | rfl | rfl | rfl <;> simp [byF]
        generalize hby : byF 1 m = by_ at hcm hbm
        have HBY := Aside0.mk hby
        have HBM := Aside0.mk hbm
        clear hby hbm
        generalize hkn : (konst k : Int) = kn
        have HKN := Aside0.mk hkn
        clear hkn
        generalize hS : stepsF t s k = S
        have HS := Aside0.mk hS
        clear hS
        go_quiet ((first | (go_at_call 91; exact quiet_add_left (mix_1 _ _ _ _)) | (go_at_call 79; exact quiet_add_same (rotl_any _ HBM.out _ _ (by omega) (by omega)))))
        go_wp2
        go_roundw
        case rel =>
          refine ⟨k + 1, by omega, by go_num, ?_, ?_, ?_, ?_, ⟨?_⟩⟩
          · rw [stepsF_succ, HS.out]; rfl
          · rw [stepsF_succ, HS.out]
            show Value.int _ _ = Value.int _ _
            congr 1
            simp only [stepF]
            rw [show k / 16 = 1 by omega, ← HM0.out, HBY.out, ← HP.out, HWD.out, HKN.out]
          · rw [stepsF_succ, HS.out]; rfl
          · rw [stepsF_succ, HS.out]; rfl
          · exact below_drewN' (below_then hbn HW.out (by have := HW.out.size; simpa using this)) _
        case measure => simp [intOf]; omega
      · have c0 := hcl 12
        have c1 := hcl 13
        have c2 := hcl 14
        have c3 := hcl 15
        have c4 := hcl 16
        have c5 := hcl 17
        simp [roundsCells] at c0 c1 c2 c3 c4 c5
        clear hcl
        obtain ⟨p, hp⟩ : ∃ p, p = placeF 2 k := ⟨_, rfl⟩
        have hp16 : p < 16 := by rw [hp]; simp only [placeF]; omega
        have HP := Aside0.mk hp
        have hpl := Aside0.mk (fun W => hp ▸ place_2 k W hlt)
        clear hp
        have b0 : (0 : Int) ≤ 4 * (p : Int) := by omega
        have b1 : 4 * (p : Int) + 3 < 64 := by omega
        have b2 : 4 * (p : Int) + 2 < 64 := by omega
        have b3 : 4 * (p : Int) + 1 < 64 := by omega
        have b4 : 4 * (p : Int) < 64 := by omega
        have b5 : 4 * (p : Int) ≤ 9000 := by omega
        go_wp2_with (go_at_call 94; refine (hpl.out _).mono ?_; rintro e w' ⟨rfl, rfl⟩)
        obtain ⟨x0, x1, x2, x3, hx0, hx1, hx2, hx3, hX⟩ := word_at t p
        have e1 : IntKind.i64.wrap (4 * (p : Int) + 1) = 4 * (p : Int) + 1 := IntWalk.i64_in _ (by omega)
        have e2 : IntKind.i64.wrap (4 * (p : Int) + 2) = 4 * (p : Int) + 2 := IntWalk.i64_in _ (by omega)
        have e3 : IntKind.i64.wrap (4 * (p : Int) + 3) = 4 * (p : Int) + 3 := IntWalk.i64_in _ (by omega)
        have p1 : (0 : Int) ≤ 4 * (p : Int) + 1 := by omega
        have p2 : (0 : Int) ≤ 4 * (p : Int) + 2 := by omega
        have p3 : (0 : Int) ≤ 4 * (p : Int) + 3 := by omega
        have q0 : (4 * (p : Int)).toNat = 4 * p := by omega
        have q1 : (4 * (p : Int) + 1).toNat = 4 * p + 1 := by omega
        have q2 : (4 * (p : Int) + 2).toNat = 4 * p + 2 := by omega
        have q3 : (4 * (p : Int) + 3).toNat = 4 * p + 3 := by omega
        have HX := Aside0.mk hX
        clear hX
        go_quiet (fail)
        clear e1 e2 e3 p1 p2 p3 q0 q1 q2 q3 hx0 hx1 hx2 hx3
        rw [word4_fold, HX.out]
        clear HX
        generalize hwd : wordF t (4 * p) = wd
        have HWD := Aside0.mk hwd
        clear hwd
        have HM := run_fl (mulT_is k hlt) 127
        have HI : ∀ w, (convert 3 127 (.int .i64 ((k : Int) + 1))).run Tryd.prog w = .ok (.float .f64 (xT k)) w := fun w => by
          rw [← xT_is k hlt]; exact run_convert_int_float (P := Tryd.prog) (w := w) _ _ _ _ _ (by kernel_rfl) (by kernel_rfl)
        have HU : ∀ w, (convert 127 63 (.float .f64 (floT k))).run Tryd.prog w = .ok (.int .u32 (konst k)) w := fun w => run_convert_float_int (P := Tryd.prog) (w := w) _ _ .f64 .u32 _ _ (by kernel_rfl) (by kernel_rfl) (konst_is k hlt)
        have HT : Trig wr := ((T.below hB0.out hB).below HW.out (by omega))
        have hZ : 3 ≤ wr.heap.size := by have := HW.out.size; simp at this; omega
        have HT := Aside0.mk HT
        go_wp2_with fail
        refine (sin_any k hlt _ (Trig.below (B := wr.heap.size) HT.out (below_drewN' ((Below.refl _ _).alloc (Nat.le_refl _) _) _) hZ)).mono ?_
        rintro e w' ⟨rfl, rfl⟩
        go_wp2_with fail
        refine (abs_calls _ _ (absT_is k hlt) _).mono ?_
        rintro e w' ⟨rfl, rfl⟩
        go_wp2_with fail
        refine (floor_any k hlt _).mono ?_
        rintro e w' ⟨rfl, rfl⟩
        go_wp2_with fail
        obtain ⟨m, hm⟩ : ∃ m : Nat, m = k % 4 := ⟨_, rfl⟩
        have hm4 : m < 4 := by omega
        have hki : (k : Int) % 4 = (m : Int) := by omega
        have m0 : (0 : Int) ≤ (m : Int) := by omega
        have m1 : (m : Int) < 4 := by omega
        have HM0 := Aside0.mk hm
        clear hm
        have hc0 : (wr.alloc (.cells #[.func (.func 93) #[] #[], .func (.func 94) #[] #[], .int .i64 4, .int .i64 11, .int .i64 16, .int .i64 23] 126)).cell? ⟨wr.heap.size, 0, none⟩ = some (.func (.func 93) #[] #[]) := by simp
        have hcm : (wr.alloc (.cells #[.func (.func 93) #[] #[], .func (.func 94) #[] #[], .int .i64 4, .int .i64 11, .int .i64 16, .int .i64 23] 126)).cell? ⟨wr.heap.size, 2 + m, none⟩ = some (.int .i64 (byF 2 m : Nat)) := by
          rcases (by omega : m = 0 ∨ m = 1 ∨ m = 2 ∨ m = 3) with rfl | rfl | rfl | rfl <;> simp [byF]
        have hbn : Below wr.heap.size wr (wr.alloc (.cells #[.func (.func 93) #[] #[], .func (.func 94) #[] #[], .int .i64 4, .int .i64 11, .int .i64 16, .int .i64 23] 126)) := (Below.refl _ _).alloc (Nat.le_refl _) _
        generalize wr.alloc (.cells #[.func (.func 93) #[] #[], .func (.func 94) #[] #[], .int .i64 4, .int .i64 11, .int .i64 16, .int .i64 23] 126) = wn at hc0 hcm hbn ⊢
        have hbm : byF 2 m ∈ [7, 12, 17, 22, 5, 9, 14, 20, 4, 11, 16, 23, 6, 10, 15, 21] := by
          rcases (by omega : m = 0 ∨ m = 1 ∨ m = 2 ∨ m = 3) with rfl | rfl | rfl | rfl <;> simp [byF]
        generalize hby : byF 2 m = by_ at hcm hbm
        have HBY := Aside0.mk hby
        have HBM := Aside0.mk hbm
        clear hby hbm
        generalize hkn : (konst k : Int) = kn
        have HKN := Aside0.mk hkn
        clear hkn
        generalize hS : stepsF t s k = S
        have HS := Aside0.mk hS
        clear hS
        go_quiet ((first | (go_at_call 93; exact quiet_add_left (mix_2 _ _ _ _)) | (go_at_call 79; exact quiet_add_same (rotl_any _ HBM.out _ _ (by omega) (by omega)))))
        go_wp2
        go_roundw
        case rel =>
          refine ⟨k + 1, by omega, by go_num, ?_, ?_, ?_, ?_, ⟨?_⟩⟩
          · rw [stepsF_succ, HS.out]; rfl
          · rw [stepsF_succ, HS.out]
            show Value.int _ _ = Value.int _ _
            congr 1
            simp only [stepF]
            rw [show k / 16 = 2 by omega, ← HM0.out, HBY.out, ← HP.out, HWD.out, HKN.out]
          · rw [stepsF_succ, HS.out]; rfl
          · rw [stepsF_succ, HS.out]; rfl
          · exact below_drewN' (below_then hbn HW.out (by have := HW.out.size; simpa using this)) _
        case measure => simp [intOf]; omega
      · have c0 := hcl 18
        have c1 := hcl 19
        have c2 := hcl 20
        have c3 := hcl 21
        have c4 := hcl 22
        have c5 := hcl 23
        simp [roundsCells] at c0 c1 c2 c3 c4 c5
        clear hcl
        obtain ⟨p, hp⟩ : ∃ p, p = placeF 3 k := ⟨_, rfl⟩
        have hp16 : p < 16 := by rw [hp]; simp only [placeF]; omega
        have HP := Aside0.mk hp
        have hpl := Aside0.mk (fun W => hp ▸ place_3 k W hlt)
        clear hp
        have b0 : (0 : Int) ≤ 4 * (p : Int) := by omega
        have b1 : 4 * (p : Int) + 3 < 64 := by omega
        have b2 : 4 * (p : Int) + 2 < 64 := by omega
        have b3 : 4 * (p : Int) + 1 < 64 := by omega
        have b4 : 4 * (p : Int) < 64 := by omega
        have b5 : 4 * (p : Int) ≤ 9000 := by omega
        go_wp2_with (go_at_call 96; refine (hpl.out _).mono ?_; rintro e w' ⟨rfl, rfl⟩)
        obtain ⟨x0, x1, x2, x3, hx0, hx1, hx2, hx3, hX⟩ := word_at t p
        have e1 : IntKind.i64.wrap (4 * (p : Int) + 1) = 4 * (p : Int) + 1 := IntWalk.i64_in _ (by omega)
        have e2 : IntKind.i64.wrap (4 * (p : Int) + 2) = 4 * (p : Int) + 2 := IntWalk.i64_in _ (by omega)
        have e3 : IntKind.i64.wrap (4 * (p : Int) + 3) = 4 * (p : Int) + 3 := IntWalk.i64_in _ (by omega)
        have p1 : (0 : Int) ≤ 4 * (p : Int) + 1 := by omega
        have p2 : (0 : Int) ≤ 4 * (p : Int) + 2 := by omega
        have p3 : (0 : Int) ≤ 4 * (p : Int) + 3 := by omega
        have q0 : (4 * (p : Int)).toNat = 4 * p := by omega
        have q1 : (4 * (p : Int) + 1).toNat = 4 * p + 1 := by omega
        have q2 : (4 * (p : Int) + 2).toNat = 4 * p + 2 := by omega
        have q3 : (4 * (p : Int) + 3).toNat = 4 * p + 3 := by omega
        have HX := Aside0.mk hX
        clear hX
        go_quiet (fail)
        clear e1 e2 e3 p1 p2 p3 q0 q1 q2 q3 hx0 hx1 hx2 hx3
        rw [word4_fold, HX.out]
        clear HX
        generalize hwd : wordF t (4 * p) = wd
        have HWD := Aside0.mk hwd
        clear hwd
        have HM := run_fl (mulT_is k hlt) 127
        have HI : ∀ w, (convert 3 127 (.int .i64 ((k : Int) + 1))).run Tryd.prog w = .ok (.float .f64 (xT k)) w := fun w => by
          rw [← xT_is k hlt]; exact run_convert_int_float (P := Tryd.prog) (w := w) _ _ _ _ _ (by kernel_rfl) (by kernel_rfl)
        have HU : ∀ w, (convert 127 63 (.float .f64 (floT k))).run Tryd.prog w = .ok (.int .u32 (konst k)) w := fun w => run_convert_float_int (P := Tryd.prog) (w := w) _ _ .f64 .u32 _ _ (by kernel_rfl) (by kernel_rfl) (konst_is k hlt)
        have HT : Trig wr := ((T.below hB0.out hB).below HW.out (by omega))
        have hZ : 3 ≤ wr.heap.size := by have := HW.out.size; simp at this; omega
        have HT := Aside0.mk HT
        go_wp2_with fail
        refine (sin_any k hlt _ (Trig.below (B := wr.heap.size) HT.out (below_drewN' ((Below.refl _ _).alloc (Nat.le_refl _) _) _) hZ)).mono ?_
        rintro e w' ⟨rfl, rfl⟩
        go_wp2_with fail
        refine (abs_calls _ _ (absT_is k hlt) _).mono ?_
        rintro e w' ⟨rfl, rfl⟩
        go_wp2_with fail
        refine (floor_any k hlt _).mono ?_
        rintro e w' ⟨rfl, rfl⟩
        go_wp2_with fail
        obtain ⟨m, hm⟩ : ∃ m : Nat, m = k % 4 := ⟨_, rfl⟩
        have hm4 : m < 4 := by omega
        have hki : (k : Int) % 4 = (m : Int) := by omega
        have m0 : (0 : Int) ≤ (m : Int) := by omega
        have m1 : (m : Int) < 4 := by omega
        have HM0 := Aside0.mk hm
        clear hm
        have hc0 : (wr.alloc (.cells #[.func (.func 95) #[] #[], .func (.func 96) #[] #[], .int .i64 6, .int .i64 10, .int .i64 15, .int .i64 21] 126)).cell? ⟨wr.heap.size, 0, none⟩ = some (.func (.func 95) #[] #[]) := by simp
        have hcm : (wr.alloc (.cells #[.func (.func 95) #[] #[], .func (.func 96) #[] #[], .int .i64 6, .int .i64 10, .int .i64 15, .int .i64 21] 126)).cell? ⟨wr.heap.size, 2 + m, none⟩ = some (.int .i64 (byF 3 m : Nat)) := by
          rcases (by omega : m = 0 ∨ m = 1 ∨ m = 2 ∨ m = 3) with rfl | rfl | rfl | rfl <;> simp [byF]
        have hbn : Below wr.heap.size wr (wr.alloc (.cells #[.func (.func 95) #[] #[], .func (.func 96) #[] #[], .int .i64 6, .int .i64 10, .int .i64 15, .int .i64 21] 126)) := (Below.refl _ _).alloc (Nat.le_refl _) _
        generalize wr.alloc (.cells #[.func (.func 95) #[] #[], .func (.func 96) #[] #[], .int .i64 6, .int .i64 10, .int .i64 15, .int .i64 21] 126) = wn at hc0 hcm hbn ⊢
        have hbm : byF 3 m ∈ [7, 12, 17, 22, 5, 9, 14, 20, 4, 11, 16, 23, 6, 10, 15, 21] := by
          rcases (by omega : m = 0 ∨ m = 1 ∨ m = 2 ∨ m = 3) with rfl | rfl | rfl | rfl <;> simp [byF]
        generalize hby : byF 3 m = by_ at hcm hbm
        have HBY := Aside0.mk hby
        have HBM := Aside0.mk hbm
        clear hby hbm
        generalize hkn : (konst k : Int) = kn
        have HKN := Aside0.mk hkn
        clear hkn
        generalize hS : stepsF t s k = S
        have HS := Aside0.mk hS
        clear hS
        go_quiet ((first | (go_at_call 95; exact quiet_add_left (mix_3 _ _ _ _)) | (go_at_call 79; exact quiet_add_same (rotl_any _ HBM.out _ _ (by omega) (by omega)))))
        go_wp2
        go_roundw
        case rel =>
          refine ⟨k + 1, by omega, by go_num, ?_, ?_, ?_, ?_, ⟨?_⟩⟩
          · rw [stepsF_succ, HS.out]; rfl
          · rw [stepsF_succ, HS.out]
            show Value.int _ _ = Value.int _ _
            congr 1
            simp only [stepF]
            rw [show k / 16 = 3 by omega, ← HM0.out, HBY.out, ← HP.out, HWD.out, HKN.out]
          · rw [stepsF_succ, HS.out]; rfl
          · rw [stepsF_succ, HS.out]; rfl
          · exact below_drewN' (below_then hbn HW.out (by have := HW.out.size; simpa using this)) _
        case measure => simp [intOf]; omega
    · have HK := Aside0.mk (show k = 64 by omega)
      have p1 : ((k : Int) < 64) = False := eq_false (by omega)
      have hz : w.heap.size + 1 ≤ wr.heap.size := by have := HW.out.size; simpa using this
      have hcg : ∀ j, wr.cell? ⟨g, j, none⟩ = w.cell? ⟨g, j, none⟩ := fun j => (HW.out.cell (p := ⟨g, j, none⟩) (Nat.lt_succ_of_lt hg)).trans (((Below.refl w.heap.size w).alloc (Nat.le_refl _) _).cell (p := ⟨g, j, none⟩) hg)
      have hfg : ∀ j, wr.frozen? ⟨g, j, none⟩ = false := fun j => ((HW.out.frozen (p := ⟨g, j, none⟩) (Nat.lt_succ_of_lt hg)).trans (((Below.refl w.heap.size w).alloc (Nat.le_refl _) _).frozen (p := ⟨g, j, none⟩) hg)).trans (hf j)
      have g0 := (hcg o).trans h0
      have g1 := (hcg (o + 1)).trans h1
      have g2 := (hcg (o + 2)).trans h2
      have g3 := (hcg (o + 3)).trans h3
      have f0 := hfg o
      have f1 := hfg (o + 1)
      have f2 := hfg (o + 2)
      have f3 := hfg (o + 3)
      have HWB : Aside0 (Below w.heap.size w wr) := ⟨below_then (HW.out.mono (by simp)) hB0.out (by simp)⟩
      clear hcg hfg h0 h1 h2 h3 hf HW hB0
      generalize hS : stepsF t s k = S
      have HS := Aside0.mk hS
      clear hS
      go_wp2
      go_region
      go_wp2
      go_region
      go_wp2
      go_region
      go_wp2
      go_region
      go_wp2
      go_end0
      refine ⟨rfl, wr.drewN 4, below_drewN' HWB.out 4, ?_⟩
      have e : blockF s t = sumSt s S := by
        rw [← HS.out, HK.out, blockF]
      rw [e]
      rfl
end Go.Proofs.YtmhlebnomagekaaDoor
