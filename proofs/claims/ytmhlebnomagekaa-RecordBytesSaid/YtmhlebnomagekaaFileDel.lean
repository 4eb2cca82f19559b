/- The contract of record.File's Del over this seat's translation, by hand. -/
import Derived.Test.YtmhlebnomagekaaFilePut
set_option linter.unusedVariables false
set_option linter.unusedSimpArgs false
namespace Go.Proofs.Ytmhlebnomagekaa
open Go.RowKit Go.Proofs.YtmhlebnomagekaaW.PrintWords Go.Proofs.YtmhlebnomagekaaW.PrintLast Go.Proofs.Ytmhlebnomagekaa.PA
attribute [local go_sem] alloc_drewN setCell_drewN size_more cell_more frozen_more setCell_more drewN_more drew_more more_drewN more_drew more_more setMap_cell setMap_frozen setMap_setCell setMap_drewN setMap_drew setMap_size mapAt_alloc mapAt_drew mapAt_drewN mapAt_more mapAt_setCell mapAt_setMap_ne

def delSub (F : List S24) (n : ByteArray) : List S24 := F.filter (fun z => !(decide (z.f0 = n)))
theorem delSub_kv (F : List S24) (n : ByteArray) : (delSub F n).map (fun y => (y.f0, y)) = kvDel (F.map fun y => (y.f0, y)) n := by
  unfold delSub kvDel
  rw [List.filter_map]
  congr 1
theorem at_del {F : List S24} {l2 : List (Int × ByteArray)} (hn : (F.map (·.f0)).Nodup) (hat : ∀ a n, kvGet l2 a = some n ↔ ∃ x ∈ F, x.f3 = a ∧ x.f0 = n) {y : S24} (hy : y ∈ F) (a : Int) (n : ByteArray) :
    kvGet (kvDel l2 y.f3) a = some n ↔ ∃ z ∈ delSub F y.f0, z.f3 = a ∧ z.f0 = n := by
  rw [kvGet_del]
  unfold delSub
  simp only [List.mem_filter, Bool.not_eq_true', decide_eq_false_iff_not]
  constructor
  · intro h
    by_cases h1 : a = y.f3
    · rw [if_pos h1] at h; cases h
    · rw [if_neg h1, hat] at h
      obtain ⟨z, hz, hza, hzn⟩ := h
      refine ⟨z, ⟨hz, fun e => ?_⟩, hza, hzn⟩
      have h2 := getSub_of hn hy
      have h3 := getSub_of hn hz
      rw [e, h2] at h3
      have := Option.some.inj h3
      subst this; exact h1 hza.symm
  · rintro ⟨z, ⟨hz, hne⟩, hza, hzn⟩
    have h4 : a ≠ y.f3 := by
      rintro rfl
      have e1 := (hat y.f3 z.f0).2 ⟨z, hz, hza, rfl⟩
      have e2 := (hat y.f3 y.f0).2 ⟨y, hy, rfl, rfl⟩
      rw [e1] at e2
      exact hne (Option.some.inj e2)
    rw [if_neg h4, hat]
    exact ⟨z, hz, hza, hzn⟩

set_option maxHeartbeats 4000000 in
set_option maxRecDepth 100000 in
theorem file_Del_hit (b m1 m2 : Nat) (most : Int) (F : List S24) (n : ByteArray) (y : S24) (w : World) (h : FileAt w b m1 m2 most F) (hx : getSub F n = some y) :
    Calls Try.prog 54 #[.pointer (some ⟨b, 0, none⟩), .string n] w fun e w' => e = .returned (.int .i64 0) ∧ FileAt w' b m1 m2 most (delSub F n) ∧ Frame (fun k => k = m1 ∨ k = m2) w w' := by
  have c0 := h.cell0
  have c1 := h.cell1
  obtain ⟨l2, hl2, hat⟩ := h.at_
  have lt_b_0 : (b < w.heap.size) = True := eq_true (by have := h.lt; omega); have lt_b_1 : (b < w.heap.size + 1) = True := eq_true (by have := h.lt; omega); have lt_b_2 : (b < w.heap.size + 2) = True := eq_true (by have := h.lt; omega); have lt_b_3 : (b < w.heap.size + 3) = True := eq_true (by have := h.lt; omega); have lt_b_4 : (b < w.heap.size + 4) = True := eq_true (by have := h.lt; omega); have lt_b_5 : (b < w.heap.size + 5) = True := eq_true (by have := h.lt; omega); have lt_b_6 : (b < w.heap.size + 6) = True := eq_true (by have := h.lt; omega)
  have hm1 := holds_iff.2 h.by_
  have hm2 := holds_iff.2 hl2
  have lt_m1_0 : (m1 < w.heap.size) = True := eq_true (by have := h.by_.lt; omega); have lt_m1_1 : (m1 < w.heap.size + 1) = True := eq_true (by have := h.by_.lt; omega); have lt_m1_2 : (m1 < w.heap.size + 2) = True := eq_true (by have := h.by_.lt; omega); have lt_m1_3 : (m1 < w.heap.size + 3) = True := eq_true (by have := h.by_.lt; omega); have lt_m1_4 : (m1 < w.heap.size + 4) = True := eq_true (by have := h.by_.lt; omega); have lt_m1_5 : (m1 < w.heap.size + 5) = True := eq_true (by have := h.by_.lt; omega); have lt_m1_6 : (m1 < w.heap.size + 6) = True := eq_true (by have := h.by_.lt; omega)
  have lt_m2_0 : (m2 < w.heap.size) = True := eq_true (by have := hl2.lt; omega); have lt_m2_1 : (m2 < w.heap.size + 1) = True := eq_true (by have := hl2.lt; omega); have lt_m2_2 : (m2 < w.heap.size + 2) = True := eq_true (by have := hl2.lt; omega); have lt_m2_3 : (m2 < w.heap.size + 3) = True := eq_true (by have := hl2.lt; omega); have lt_m2_4 : (m2 < w.heap.size + 4) = True := eq_true (by have := hl2.lt; omega); have lt_m2_5 : (m2 < w.heap.size + 5) = True := eq_true (by have := hl2.lt; omega); have lt_m2_6 : (m2 < w.heap.size + 6) = True := eq_true (by have := hl2.lt; omega)
  have hL1 := fun W => look_by_hit (m := m1) hx W
  have H1M := Aside0.mk (show ∀ W, Holds Value.string encSub (mapAt W m1) (F.map fun x => (x.f0, x)) → MapOf Value.string encSub W m1 (F.map fun x => (x.f0, x)) from fun W hh => holds_iff.1 hh)
  have H2M := Aside0.mk (show ∀ W, Holds (Value.int .u32) encName (mapAt W m2) l2 → MapOf (Value.int .u32) encName W m2 l2 from fun W hh => holds_iff.1 hh)
  have hne := h.ne
  have hne' := h.ne.symm
  have HX := Aside0.mk hx
  have HF := Aside0.mk h
  have HAT := Aside0.mk hat
  clear h hx hat
  go_enter Try.func54, Try.ntmps54
  go_wp2_with (at_delete; refine wpList_kv_del string_law Try.underlying185 rfl _ _ _ rfl rfl (H1M.out _ (by go_simp)) n rfl ?_; intro es1 ec1 hM1)
  refine start_same (n := 8) #[false, false, false, false, false, false, false, false] (by kernel_rfl) rfl rfl (fun hHeld => ?_)
  refine pure_ (i := 0) (N := some 27) (v := ?_) (a' := ?_) #[true, false, false, false, false, false, false, false] rfl rfl (by kernel_rfl) (fun _ _ _ h => h) (Or.inl ⟨by rfl, ?_⟩) ?_ ?_
  rotate_left
  · intro w'
    go_simp
    with_reducible rfl
  rotate_left
  · simp only [Act.put, List.setIfInBounds_toArray, List.set_cons_zero, List.set_cons_succ, i64_w, i32_w]
    rfl
  refine pure_ (i := 1) (N := some 28) (v := ?_) (a' := ?_) #[true, true, false, false, false, false, false, false] rfl rfl (by kernel_rfl) (fun _ _ _ h => h) (Or.inl ⟨by rfl, ?_⟩) ?_ ?_
  rotate_left
  · intro w'
    go_simp
    with_reducible rfl
  rotate_left
  · simp only [Act.put, List.setIfInBounds_toArray, List.set_cons_zero, List.set_cons_succ, i64_w, i32_w]
    rfl
  refine pure_ (i := 2) (N := some 29) (v := ?_) (a' := ?_) #[true, true, true, false, false, false, false, false] rfl rfl (by kernel_rfl) (fun _ _ _ h => h) (Or.inl ⟨by rfl, ?_⟩) ?_ ?_
  rotate_left
  · intro w'
    go_simp
    with_reducible rfl
  rotate_left
  · simp only [Act.put, List.setIfInBounds_toArray, List.set_cons_zero, List.set_cons_succ, i64_w, i32_w]
    rfl
  refine pure_ (i := 3) (N := some 30) (v := ?_) (a' := ?_) #[true, true, true, true, false, false, false, false] rfl rfl (by kernel_rfl) (fun _ _ _ h => h) (Or.inl ⟨by rfl, ?_⟩) ?_ ?_
  rotate_left
  · intro w'
    go_simp
    with_reducible rfl
  rotate_left
  · simp only [Act.put, List.setIfInBounds_toArray, List.set_cons_zero, List.set_cons_succ, i64_w, i32_w]
    rfl
  refine take_ (i := 4) (N := some 31) (v := ?_) (a' := ?_) #[true, true, true, true, true, false, false, false] rfl rfl (by kernel_rfl) (fun _ _ _ h => h) (Or.inl ⟨by rfl, ?_⟩) hHeld ?_ ?_
  rotate_left
  · intro w' hS
    go_simp
    with_reducible rfl
  rotate_left
  · simp only [Act.put, List.setIfInBounds_toArray, List.set_cons_zero, List.set_cons_succ, i64_w, i32_w]
    rfl
  refine pure_ (i := 5) (N := some 32) (v := ?_) (a' := ?_) #[true, true, true, true, true, true, false, false] rfl rfl (by kernel_rfl) (fun _ _ _ h => h) (Or.inl ⟨by rfl, ?_⟩) ?_ ?_
  rotate_left
  · intro w'
    go_simp
    with_reducible rfl
  rotate_left
  · simp only [Act.put, List.setIfInBounds_toArray, List.set_cons_zero, List.set_cons_succ, i64_w, i32_w]
    rfl
  refine take_ (i := 6) (N := some 33) (v := ?_) (a' := ?_) #[true, true, true, true, true, true, true, false] rfl rfl (by kernel_rfl) (fun _ _ _ h => h) (Or.inl ⟨by rfl, ?_⟩) hHeld ?_ ?_
  rotate_left
  · intro w' hS
    go_simp
    with_reducible rfl
  rotate_left
  · simp only [Act.put, List.setIfInBounds_toArray, List.set_cons_zero, List.set_cons_succ, i64_w, i32_w]
    rfl
  refine one_ (i := 7) (N := none) #[true, true, true, true, true, true, true, true] rfl rfl (by kernel_rfl) (by decide) (fun K hK => ?_)
  refine step_del u32_law Try.underlying186 rfl rfl _ _ _ rfl rfl (H2M.out _ (by go_simp)) y.f3 rfl (fun es2 ec2 hM2 => ?_)
  refine hK.out _ _ (fun q => by simpa only [setMap_cell] using hHeld q) (fun hHeld => ?_)
  clear hK K
  refine norm_ (a' := ?_) ?_ ?_
  rotate_left
  · show Act.put _ none _ = _
    simp only [Act.put, List.setIfInBounds_toArray, List.set_cons_zero, List.set_cons_succ, i64_w, i32_w]
    rfl
  refine done_ (by kernel_rfl) ?_
  go_wp2
  go_ret
  refine put_end rfl (by repeat (with_reducible first | exact Frame.refl _ _ | apply Frame.drew | apply Frame.drewN | apply Frame.more | apply Frame.alloc | refine Frame.setMap ?_ (Or.inl rfl) _ _ | refine Frame.setMap ?_ (Or.inr rfl) _ _ | refine Frame.setNew ?_ (by simp <;> omega) _)) (fun hF => HF.out.turned hF ?_ hM2 ?_)
  · rw [delSub_kv]
    exact hM1.setMap_ne _ _ hne
  · intro a m
    have hm := getSub_mem HX.out
    rw [← hm.2]
    exact at_del HF.out.names HAT.out hm.1 a m

set_option maxHeartbeats 4000000 in
set_option maxRecDepth 100000 in
theorem file_Del_miss (b m1 m2 : Nat) (most : Int) (F : List S24) (n : ByteArray) (w : World) (h : FileAt w b m1 m2 most F) (hx : getSub F n = none) :
    Calls Try.prog 54 #[.pointer (some ⟨b, 0, none⟩), .string n] w fun e w' => e = .returned (.int .i64 3) ∧ Below w.heap.size w w' := by
  have c0 := h.cell0
  have lt_b_0 : (b < w.heap.size) = True := eq_true (by have := h.lt; omega); have lt_b_1 : (b < w.heap.size + 1) = True := eq_true (by have := h.lt; omega); have lt_b_2 : (b < w.heap.size + 2) = True := eq_true (by have := h.lt; omega); have lt_b_3 : (b < w.heap.size + 3) = True := eq_true (by have := h.lt; omega); have lt_b_4 : (b < w.heap.size + 4) = True := eq_true (by have := h.lt; omega); have lt_b_5 : (b < w.heap.size + 5) = True := eq_true (by have := h.lt; omega); have lt_b_6 : (b < w.heap.size + 6) = True := eq_true (by have := h.lt; omega)
  have hm1 := holds_iff.2 h.by_
  have lt_m1_0 : (m1 < w.heap.size) = True := eq_true (by have := h.by_.lt; omega); have lt_m1_1 : (m1 < w.heap.size + 1) = True := eq_true (by have := h.by_.lt; omega); have lt_m1_2 : (m1 < w.heap.size + 2) = True := eq_true (by have := h.by_.lt; omega); have lt_m1_3 : (m1 < w.heap.size + 3) = True := eq_true (by have := h.by_.lt; omega); have lt_m1_4 : (m1 < w.heap.size + 4) = True := eq_true (by have := h.by_.lt; omega); have lt_m1_5 : (m1 < w.heap.size + 5) = True := eq_true (by have := h.by_.lt; omega); have lt_m1_6 : (m1 < w.heap.size + 6) = True := eq_true (by have := h.by_.lt; omega)
  have hL1 := fun W => look_by_miss (m := m1) hx W
  clear h hx
  go_enter Try.func54, Try.ntmps54
  go_wp2
  go_ret
  exact ⟨rfl, by repeat (with_reducible first | exact Below.refl _ _ | apply below_drewN' | apply Below.drew | refine below_of_more ?_ (by simp <;> omega) _ _ | refine Below.alloc ?_ (by simp <;> omega) _ | refine Below.setCell ?_ (Nat.le_refl _) _ | refine Below.setCell ?_ (by simp <;> omega) _)⟩
end Go.Proofs.Ytmhlebnomagekaa
