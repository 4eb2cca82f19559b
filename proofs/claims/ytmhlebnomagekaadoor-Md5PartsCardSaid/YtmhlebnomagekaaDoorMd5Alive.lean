/- alive of layer 5: it answers true. -/
import Derived.Test.YtmhlebnomagekaaDoorMd5Dig
import Derived.Deep.RegionHeld3
import Derived.Deep.DrawnRows
set_option linter.unusedVariables false
set_option linter.unusedSimpArgs false
namespace Go.Proofs.YtmhlebnomagekaaDoor
open Go.RowKit Go.Proofs.YtmhlebnomagekaaDoorW.PrintWords
attribute [local go_sem ↓] Go.wp_at_zero Go.wp_at_succ

theorem str1 {w : World} {A : Addr} (x : ByteArray) (h : w.cell? (A.add 0) = some (.string x)) : ∀ j y, [x][j]? = some y → w.cell? (A.add j) = some (.string y) := by
  intro j y hy
  match j, hy with
  | 0, hy => simp at hy; subst hy; exact h
  | j + 1, hy => simp at hy
theorem texts7_some (k : Nat) (hk : k < 7) : ∃ x y, texts7[k]? = some x ∧ digs7[k]? = some y ∧ hexF (digest (joinA [x])) = y ∧ (joinA [x]).size ≤ 1000 := by
  have h := digest_texts7 k hk
  have h1 : texts7[k]? = some (texts7.getD k ⟨#[]⟩) := by rw [List.getD_eq_getElem?_getD, List.getElem?_eq_getElem (show k < texts7.length from hk)]; rfl
  have h2 : digs7[k]? = some (digs7.getD k ⟨#[]⟩) := by rw [List.getD_eq_getElem?_getD, List.getElem?_eq_getElem (show k < digs7.length from hk)]; rfl
  exact ⟨_, _, h1, h2, h, (of_decide_eq_true (by kernel_rfl) : ∀ k, k < 7 → (joinA [texts7.getD k ⟨#[]⟩]).size ≤ 1000) k hk⟩
set_option maxRecDepth 100000 in
set_option maxHeartbeats 4000000 in
theorem alive05 (w : World) (T : Trig w) (hB : 3 ≤ w.heap.size) :
    Calls Tryd.prog 10 #[] w fun e w' => e = .returned (.bool true) ∧ Below w.heap.size w w' := by
  have H0 := Aside0.mk hex_00ff
  have HC : ∀ W : World, (∀ k x, texts7[k]? = some x → ((W.alloc (.cells (texts7.map Value.string).toArray 9)).alloc (.cells (digs7.map Value.string).toArray 9)).cell? ⟨W.heap.size, k, none⟩ = some (.string x)) ∧
      (∀ k x, digs7[k]? = some x → ((W.alloc (.cells (texts7.map Value.string).toArray 9)).alloc (.cells (digs7.map Value.string).toArray 9)).cell? ⟨W.heap.size + 1, k, none⟩ = some (.string x)) := by
    intro W
    have g1 : (W.alloc (.cells (texts7.map Value.string).toArray 9)).heap[W.heap.size]? = some (.cells (texts7.map Value.string).toArray 9) := heap_new rfl
    have g2 : ((W.alloc (.cells (texts7.map Value.string).toArray 9)).alloc (.cells (digs7.map Value.string).toArray 9)).heap[W.heap.size]? = some (.cells (texts7.map Value.string).toArray 9) :=
      (((Below.refl (W.heap.size + 1) (W.alloc (.cells (texts7.map Value.string).toArray 9))).alloc (by simp) (.cells (digs7.map Value.string).toArray 9)).block W.heap.size (Nat.lt_succ_self _)).trans g1
    have g3 : ((W.alloc (.cells (texts7.map Value.string).toArray 9)).alloc (.cells (digs7.map Value.string).toArray 9)).heap[W.heap.size + 1]? = some (.cells (digs7.map Value.string).toArray 9) := heap_new (by simp)
    constructor
    · intro k x hx
      rw [Lib.cell_of_heap g2 k]
      simp [hx]
    · intro k x hx
      rw [Lib.cell_of_heap g3 k]
      simp [hx]
  have HC := Aside0.mk HC
  go_enter Tryd.func10, Tryd.ntmps10
  go_wp2
  have hb0 : Below w.heap.size w ((w.alloc (.cells (texts7.map Value.string).toArray 9)).alloc (.cells (digs7.map Value.string).toArray 9)) := ((Below.refl _ _).alloc (Nat.le_refl _) _).alloc (by simp) _
  have HB0 := Aside0.mk hb0
  clear hb0
  go_loopw [3] (fun i wr => ∃ k : Nat, k ≤ 7 ∧ i = .int .i64 k ∧ Aside0 (Below (w.heap.size + 2) ((w.alloc (.cells (texts7.map Value.string).toArray 9)).alloc (.cells (digs7.map Value.string).toArray 9)) wr)) (fun i _ => 7 - (intOf i).toNat)
  case atStart => exact ⟨0, by omega, rfl, ⟨Below.refl _ _⟩⟩
  case round =>
    obtain ⟨k, hk, rfl, HW⟩ := hrel
    have hwz : w.heap.size + 2 ≤ wr.heap.size := by have := HW.out.size; simp at this; omega
    by_cases hlt : k < 7
    · obtain ⟨x, y, hx, hy, hxy, hj⟩ := texts7_some k hlt
      have cx := (HW.out.cell (p := ⟨w.heap.size, k, none⟩) (by show w.heap.size < _; omega)).trans ((HC.out w).1 k x hx)
      have cy := (HW.out.cell (p := ⟨w.heap.size + 1, k, none⟩) (by show w.heap.size + 1 < _; omega)).trans ((HC.out w).2 k y hy)
      have HXY := Aside0.mk (And.intro hxy hj)
      have p0 : (0 : Int) ≤ (k : Int) := by omega
      have p1 : (k : Int) < 7 := by omega
      have HT : Aside0 (Trig wr) := ⟨(T.below HB0.out hB).below HW.out (by omega)⟩
      clear hx hy hxy hj
      go_wp2
      go_region_held3 (fun w' => w'.cell? ⟨w.heap.size, k, none⟩ = some (.string x) ∧ w'.cell? ⟨w.heap.size + 1, k, none⟩ = some (.string y)) (go_keep)
        (first | (go_at_call 11; refine (md5_Sum_c (some ⟨wr.heap.size, 0, none⟩) 1 [x] _ (HT.out.below (B := wr.heap.size) (by (repeat (with_reducible first | exact Below.refl _ _ | apply below_drewN' | apply Below.drew | refine below_of_more ?_ (by simp <;> omega) _ _ | refine Below.alloc ?_ (by simp <;> omega) _ | refine Below.setCell ?_ (Nat.le_refl _) _ | refine Below.setCell ?_ (by simp <;> omega) _))) (by omega)) (by simp; omega) (strC _ _ [x] (by simp) (str1 _ (by simp [Addr.add]))) (by have := HXY.out.2; omega) (by simp)).mono ?_; rintro e w1 ⟨rfl, hb1⟩; have cx1 := (hb1.cell (p := ⟨w.heap.size, k, none⟩) (by simp; omega)); have cy1 := (hb1.cell (p := ⟨w.heap.size + 1, k, none⟩) (by simp; omega)); have hz1 := hb1.size; simp at hz1; have HB1 := Aside0.mk hb1; clear hb1) | (go_at_call 13; refine (hex_c _ _ (by rw [digest_size]; decide)).mono ?_; rintro e w2 ⟨rfl, hb2⟩; have cx2 := (hb2.cell (p := ⟨w.heap.size, k, none⟩) (by show w.heap.size < w1.heap.size; omega)); have cy2 := (hb2.cell (p := ⟨w.heap.size + 1, k, none⟩) (by show w.heap.size + 1 < w1.heap.size; omega)); have hz2 := hb2.size; have HB2 := Aside0.mk hb2; clear hb2; rw [HXY.out.1]))
      all_goals
        go_wp2
        go_roundw
        case rel =>
          refine ⟨k + 1, by omega, by go_num, ⟨?_⟩⟩
          have h1 := below_then HB1.out (B := w.heap.size + 2) (a := ((w.alloc (.cells (texts7.map Value.string).toArray 9)).alloc (.cells (digs7.map Value.string).toArray 9))) (by first | exact below_drewN' (HW.out.alloc (by omega) _) _ | exact HW.out.alloc (by omega) _) (by simp; omega)
          exact below_then HB2.out h1 (by omega)
        case measure => simp [intOf]; omega
    · have p1 : ((k : Int) < 7) = False := eq_false (by omega)
      go_wp2_with (go_at_call 13; refine (hex_c _ _ (by decide)).mono ?_; rintro e w2 ⟨rfl, hb2⟩; rw [H0.out])
      go_ret
      exact ⟨by simp, below_then hb2 (below_then (HW.out.mono (by simp)) HB0.out (by simp; omega)) (by omega)⟩
end Go.Proofs.YtmhlebnomagekaaDoor
