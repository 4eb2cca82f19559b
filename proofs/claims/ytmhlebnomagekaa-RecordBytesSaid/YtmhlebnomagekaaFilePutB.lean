/- More contracts of record.File's Put and Del over this seat's translation, by hand. -/
import Derived.Test.YtmhlebnomagekaaFilePut
set_option linter.unusedVariables false
set_option linter.unusedSimpArgs false
namespace Go.Proofs.Ytmhlebnomagekaa
open Go.RowKit Go.Proofs.YtmhlebnomagekaaW.PrintWords Go.Proofs.YtmhlebnomagekaaW.PrintLast Go.Proofs.Ytmhlebnomagekaa.PA
attribute [local go_sem] alloc_drewN setCell_drewN size_more cell_more frozen_more setCell_more drewN_more drew_more more_drewN more_drew more_more setMap_cell setMap_frozen setMap_setCell setMap_drewN setMap_drew setMap_size mapAt_alloc mapAt_drew mapAt_drewN mapAt_more mapAt_setCell mapAt_setMap_ne

theorem eq_of_name {F : List S24} (hn : (F.map (·.f0)).Nodup) {y z : S24} (hy : y ∈ F) (hz : z ∈ F) (h : y.f0 = z.f0) : y = z := by
  have h1 := getSub_of hn hy
  have h2 := getSub_of hn hz
  rw [h, h2] at h1
  exact (Option.some.inj h1).symm
theorem at_put_had {F : List S24} {l2 : List (Int × ByteArray)} (hn : (F.map (·.f0)).Nodup) (hat : ∀ a n, kvGet l2 a = some n ↔ ∃ x ∈ F, x.f3 = a ∧ x.f0 = n) {x y : S24} (hy : y ∈ F) (hyx : y.f0 = x.f0)
    (hfree : ∀ z ∈ F, z.f3 = x.f3 → z.f0 = x.f0) (a : Int) (n : ByteArray) : kvGet (kvPut (kvDel l2 y.f3) x.f3 x.f0) a = some n ↔ ∃ z ∈ F.map (fun z => if z.f0 = x.f0 then x else z), z.f3 = a ∧ z.f0 = n := by
  rw [kvGet_put, kvGet_del]
  constructor
  · intro h
    by_cases h1 : a = x.f3
    · rw [if_pos h1] at h
      refine ⟨x, List.mem_map.2 ⟨y, hy, by rw [if_pos hyx]⟩, h1.symm, by simpa using h⟩
    · rw [if_neg h1] at h
      by_cases h2 : a = y.f3
      · rw [if_pos h2] at h; cases h
      · rw [if_neg h2, hat] at h
        obtain ⟨z, hz, hza, hzn⟩ := h
        refine ⟨z, List.mem_map.2 ⟨z, hz, ?_⟩, hza, hzn⟩
        rw [if_neg]
        intro e
        have := eq_of_name hn hz hy (by rw [e, hyx])
        subst this; exact h2 hza.symm
  · rintro ⟨z, hz, hza, hzn⟩
    obtain ⟨u, hu, rfl⟩ := List.mem_map.1 hz
    by_cases h1 : u.f0 = x.f0
    · rw [if_pos h1] at hza hzn
      rw [if_pos hza.symm, hzn]
    · rw [if_neg h1] at hza hzn
      have h3 : a ≠ x.f3 := by rintro rfl; exact h1 (hfree u hu hza)
      rw [if_neg h3]
      have h4 : a ≠ y.f3 := by
        rintro rfl
        have e1 := (hat y.f3 u.f0).2 ⟨u, hu, hza, rfl⟩
        have e2 := (hat y.f3 y.f0).2 ⟨y, hy, rfl, rfl⟩
        rw [e1] at e2
        have := Option.some.inj e2
        exact h1 (this.trans hyx)
      rw [if_neg h4, hat]
      exact ⟨u, hu, hza, hzn⟩

set_option maxHeartbeats 4000000 in
set_option maxRecDepth 100000 in
theorem file_Put_had_miss (b m1 m2 : Nat) (most : Int) (F : List S24) (x : S24) (w : World) (h : FileAt w b m1 m2 most F) (y : S24) (hx : getSub F x.f0 = some y) (ha : ∀ y ∈ F, y.f3 ≠ x.f3) (hok : okSub x.f0 x.f1 x.f2 x.f3 = true) :
    Calls Try.prog 51 #[.pointer (some ⟨b, 0, none⟩), encSub x] w fun e w' => e = .returned (.int .i64 0) ∧ FileAt w' b m1 m2 most (putSub F x) ∧ Frame (fun k => k = m1 ∨ k = m2) w w' := by
  have c0 := h.cell0
  have c1 := h.cell1
  have c2 := h.cell2
  obtain ⟨l2, hl2, hat⟩ := h.at_
  have hg : kvGet l2 x.f3 = none := by
    cases hk : kvGet l2 x.f3 with
    | none => rfl
    | some n => obtain ⟨y, hx1, hx2, _⟩ := (hat x.f3 n).1 hk; exact absurd hx2 (ha y hx1)
  have lt_b_0 : (b < w.heap.size) = True := eq_true (by have := h.lt; omega); have lt_b_1 : (b < w.heap.size + 1) = True := eq_true (by have := h.lt; omega); have lt_b_2 : (b < w.heap.size + 2) = True := eq_true (by have := h.lt; omega); have lt_b_3 : (b < w.heap.size + 3) = True := eq_true (by have := h.lt; omega); have lt_b_4 : (b < w.heap.size + 4) = True := eq_true (by have := h.lt; omega); have lt_b_5 : (b < w.heap.size + 5) = True := eq_true (by have := h.lt; omega); have lt_b_6 : (b < w.heap.size + 6) = True := eq_true (by have := h.lt; omega)
  have hm1 := holds_iff.2 h.by_
  have hm2 := holds_iff.2 hl2
  have lt_m1_0 : (m1 < w.heap.size) = True := eq_true (by have := h.by_.lt; omega); have lt_m1_1 : (m1 < w.heap.size + 1) = True := eq_true (by have := h.by_.lt; omega); have lt_m1_2 : (m1 < w.heap.size + 2) = True := eq_true (by have := h.by_.lt; omega); have lt_m1_3 : (m1 < w.heap.size + 3) = True := eq_true (by have := h.by_.lt; omega); have lt_m1_4 : (m1 < w.heap.size + 4) = True := eq_true (by have := h.by_.lt; omega); have lt_m1_5 : (m1 < w.heap.size + 5) = True := eq_true (by have := h.by_.lt; omega); have lt_m1_6 : (m1 < w.heap.size + 6) = True := eq_true (by have := h.by_.lt; omega)
  have lt_m2_0 : (m2 < w.heap.size) = True := eq_true (by have := hl2.lt; omega); have lt_m2_1 : (m2 < w.heap.size + 1) = True := eq_true (by have := hl2.lt; omega); have lt_m2_2 : (m2 < w.heap.size + 2) = True := eq_true (by have := hl2.lt; omega); have lt_m2_3 : (m2 < w.heap.size + 3) = True := eq_true (by have := hl2.lt; omega); have lt_m2_4 : (m2 < w.heap.size + 4) = True := eq_true (by have := hl2.lt; omega); have lt_m2_5 : (m2 < w.heap.size + 5) = True := eq_true (by have := hl2.lt; omega); have lt_m2_6 : (m2 < w.heap.size + 6) = True := eq_true (by have := hl2.lt; omega)
  have hL1 := fun W => look_by_hit (m := m1) hx W
  have hL2 := fun W => look_at_miss (m := m2) hg W
  have hN := fun W (hh : Holds Value.string encSub (mapAt W m1) (F.map fun x => (x.f0, x))) ty => len_by W hh ty
  simp only [List.length_map] at hN
  have hC := record_Check_f x.f0 x.f1 x.f2 x.f3 x.f4
  rw [if_pos hok] at hC
  have HC := Aside0.mk hC
  have H1M := Aside0.mk (show ∀ W, Holds Value.string encSub (mapAt W m1) (F.map fun x => (x.f0, x)) → MapOf Value.string encSub W m1 (F.map fun x => (x.f0, x)) from fun W hh => holds_iff.1 hh)
  have H2M := Aside0.mk (show ∀ W, Holds (Value.int .u32) encName (mapAt W m2) l2 → MapOf (Value.int .u32) encName W m2 l2 from fun W hh => holds_iff.1 hh)
  have hne := h.ne
  have hne' := h.ne.symm
  have HX := Aside0.mk hx
  have HF := Aside0.mk h
  have HAT := Aside0.mk hat
  have hfree : ∀ z ∈ F, z.f3 = x.f3 → z.f0 = x.f0 := fun z hz e => absurd e (ha z hz)
  have HFR := Aside0.mk hfree
  clear h hx ha hC hok hat hg hfree
  unfold encSub
  go_enter Try.func51, Try.ntmps51
  go_wp2
  go_region
  go_wp2
  go_region
  go_wp2_with (go_at_call 55; refine (record_Check.calls _ _ _ _ _ _ _ HC.out).mono ?_; rintro e w' ⟨rfl, hb⟩; obtain ⟨os, d, rfl⟩ := below_more hb; clear hb)
  go_region
  go_wp2
  refine start_same (n := 8) #[false, false, false, false, false, false, false, false] (by kernel_rfl) rfl rfl (fun hHeld => ?_)
  refine pure_ (i := 0) (N := some 63) (v := ?_) (a' := ?_) #[true, false, false, false, false, false, false, false] rfl rfl (by kernel_rfl) (fun _ _ _ h => h) (Or.inl ⟨by rfl, ?_⟩) ?_ ?_
  rotate_left
  · intro w'
    go_simp
    with_reducible rfl
  rotate_left
  · simp only [Act.put, List.setIfInBounds_toArray, List.set_cons_zero, List.set_cons_succ, i64_w, i32_w]
    rfl
  refine pure_ (i := 1) (N := some 64) (v := ?_) (a' := ?_) #[true, true, false, false, false, false, false, false] rfl rfl (by kernel_rfl) (fun _ _ _ h => h) (Or.inl ⟨by rfl, ?_⟩) ?_ ?_
  rotate_left
  · intro w'
    go_simp
    with_reducible rfl
  rotate_left
  · simp only [Act.put, List.setIfInBounds_toArray, List.set_cons_zero, List.set_cons_succ, i64_w, i32_w]
    rfl
  refine pure_ (i := 2) (N := some 65) (v := ?_) (a' := ?_) #[true, true, true, false, false, false, false, false] rfl rfl (by kernel_rfl) (fun _ _ _ h => h) (Or.inl ⟨by rfl, ?_⟩) ?_ ?_
  rotate_left
  · intro w'
    go_simp
    with_reducible rfl
  rotate_left
  · simp only [Act.put, List.setIfInBounds_toArray, List.set_cons_zero, List.set_cons_succ, i64_w, i32_w]
    rfl
  refine pure_ (i := 3) (N := some 66) (v := ?_) (a' := ?_) #[true, true, true, true, false, false, false, false] rfl rfl (by kernel_rfl) (fun _ _ _ h => h) (Or.inl ⟨by rfl, ?_⟩) ?_ ?_
  rotate_left
  · intro w'
    go_simp
    with_reducible rfl
  rotate_left
  · simp only [Act.put, List.setIfInBounds_toArray, List.set_cons_zero, List.set_cons_succ, i64_w, i32_w]
    rfl
  refine take_ (i := 4) (N := some 67) (v := ?_) (a' := ?_) #[true, true, true, true, true, false, false, false] rfl rfl (by kernel_rfl) (fun _ _ _ h => h) (Or.inl ⟨by rfl, ?_⟩) hHeld ?_ ?_
  rotate_left
  · intro w' hS
    go_simp
    with_reducible rfl
  rotate_left
  · simp only [Act.put, List.setIfInBounds_toArray, List.set_cons_zero, List.set_cons_succ, i64_w, i32_w]
    rfl
  refine pure_ (i := 5) (N := some 68) (v := ?_) (a' := ?_) #[true, true, true, true, true, true, false, false] rfl rfl (by kernel_rfl) (fun _ _ _ h => h) (Or.inl ⟨by rfl, ?_⟩) ?_ ?_
  rotate_left
  · intro w'
    go_simp
    with_reducible rfl
  rotate_left
  · simp only [Act.put, List.setIfInBounds_toArray, List.set_cons_zero, List.set_cons_succ, i64_w, i32_w]
    rfl
  refine take_ (i := 6) (N := some 69) (v := ?_) (a' := ?_) #[true, true, true, true, true, true, true, false] rfl rfl (by kernel_rfl) (fun _ _ _ h => h) (Or.inl ⟨by rfl, ?_⟩) hHeld ?_ ?_
  rotate_left
  · intro w' hS
    go_simp
    with_reducible rfl
  rotate_left
  · simp only [Act.put, List.setIfInBounds_toArray, List.set_cons_zero, List.set_cons_succ, i64_w, i32_w]
    rfl
  refine one_ (i := 7) (N := none) #[true, true, true, true, true, true, true, true] rfl rfl (by kernel_rfl) (by decide) (fun K hK => ?_)
  refine step_del u32_law Try.underlying186 rfl rfl _ _ _ rfl rfl (H2M.out _ (by go_simp)) y.f3 rfl (fun es0 ec0 hD => ?_)
  refine hK.out _ _ (fun q => by simpa only [setMap_cell] using hHeld q) (fun hHeld => ?_)
  clear hK K
  refine norm_ (a' := ?_) ?_ ?_
  rotate_left
  · show Act.put _ none _ = _
    simp only [Act.put, List.setIfInBounds_toArray, List.set_cons_zero, List.set_cons_succ, i64_w, i32_w]
    rfl
  refine done_ (by kernel_rfl) ?_
  have hm3 := holds_iff.2 hD
  obtain ⟨l3, hl3⟩ : ∃ l3, l3 = kvDel l2 y.f3 := ⟨_, rfl⟩
  rw [← hl3] at hm3
  simp only [drew_more, drewN_more] at hm3
  have HL3 := Aside0.mk hl3
  have H3M := Aside0.mk (show ∀ W, Holds (Value.int .u32) encName (mapAt W m2) l3 → MapOf (Value.int .u32) encName W m2 l3 from fun W hh => holds_iff.1 hh)
  clear hD hl3 hHeld
  go_wp2
  refine start_same (n := 24) #[false, false, false, false, false, false, false, false, false, false, false, false, false, false, false, false, false, false, false, false, false, false, false, false] (by kernel_rfl) rfl rfl (fun hHeld => ?_)
  refine pure_ (i := 0) (N := some 70) (v := ?_) (a' := ?_) #[true, false, false, false, false, false, false, false, false, false, false, false, false, false, false, false, false, false, false, false, false, false, false, false] rfl rfl (by kernel_rfl) (fun _ _ _ h => h) (Or.inl ⟨by rfl, ?_⟩) ?_ ?_
  rotate_left
  · intro w'
    go_simp
    with_reducible rfl
  rotate_left
  · simp only [Act.put, List.setIfInBounds_toArray, List.set_cons_zero, List.set_cons_succ, i64_w, i32_w]
    rfl
  refine pure_ (i := 1) (N := some 71) (v := ?_) (a' := ?_) #[true, true, false, false, false, false, false, false, false, false, false, false, false, false, false, false, false, false, false, false, false, false, false, false] rfl rfl (by kernel_rfl) (fun _ _ _ h => h) (Or.inl ⟨by rfl, ?_⟩) ?_ ?_
  rotate_left
  · intro w'
    go_simp
    with_reducible rfl
  rotate_left
  · simp only [Act.put, List.setIfInBounds_toArray, List.set_cons_zero, List.set_cons_succ, i64_w, i32_w]
    rfl
  refine pure_ (i := 2) (N := some 72) (v := ?_) (a' := ?_) #[true, true, true, false, false, false, false, false, false, false, false, false, false, false, false, false, false, false, false, false, false, false, false, false] rfl rfl (by kernel_rfl) (fun _ _ _ h => h) (Or.inl ⟨by rfl, ?_⟩) ?_ ?_
  rotate_left
  · intro w'
    go_simp
    with_reducible rfl
  rotate_left
  · simp only [Act.put, List.setIfInBounds_toArray, List.set_cons_zero, List.set_cons_succ, i64_w, i32_w]
    rfl
  refine pure_ (i := 3) (N := some 73) (v := ?_) (a' := ?_) #[true, true, true, true, false, false, false, false, false, false, false, false, false, false, false, false, false, false, false, false, false, false, false, false] rfl rfl (by kernel_rfl) (fun _ _ _ h => h) (Or.inl ⟨by rfl, ?_⟩) ?_ ?_
  rotate_left
  · intro w'
    go_simp
    with_reducible rfl
  rotate_left
  · simp only [Act.put, List.setIfInBounds_toArray, List.set_cons_zero, List.set_cons_succ, i64_w, i32_w]
    rfl
  refine take_ (i := 4) (N := some 74) (v := ?_) (a' := ?_) #[true, true, true, true, true, false, false, false, false, false, false, false, false, false, false, false, false, false, false, false, false, false, false, false] rfl rfl (by kernel_rfl) (fun _ _ _ h => h) (Or.inl ⟨by rfl, ?_⟩) hHeld ?_ ?_
  rotate_left
  · intro w' hS
    go_simp
    with_reducible rfl
  rotate_left
  · simp only [Act.put, List.setIfInBounds_toArray, List.set_cons_zero, List.set_cons_succ, i64_w, i32_w]
    rfl
  refine pure_ (i := 5) (N := some 75) (v := ?_) (a' := ?_) #[true, true, true, true, true, true, false, false, false, false, false, false, false, false, false, false, false, false, false, false, false, false, false, false] rfl rfl (by kernel_rfl) (fun _ _ _ h => h) (Or.inl ⟨by rfl, ?_⟩) ?_ ?_
  rotate_left
  · intro w'
    go_simp
    with_reducible rfl
  rotate_left
  · simp only [Act.put, List.setIfInBounds_toArray, List.set_cons_zero, List.set_cons_succ, i64_w, i32_w]
    rfl
  refine take_ (i := 6) (N := some 76) (v := ?_) (a' := ?_) #[true, true, true, true, true, true, true, false, false, false, false, false, false, false, false, false, false, false, false, false, false, false, false, false] rfl rfl (by kernel_rfl) (fun _ _ _ h => h) (Or.inl ⟨by rfl, ?_⟩) hHeld ?_ ?_
  rotate_left
  · intro w' hS
    go_simp
    with_reducible rfl
  rotate_left
  · simp only [Act.put, List.setIfInBounds_toArray, List.set_cons_zero, List.set_cons_succ, i64_w, i32_w]
    rfl
  refine pure_ (i := 7) (N := some 77) (v := ?_) (a' := ?_) #[true, true, true, true, true, true, true, true, false, false, false, false, false, false, false, false, false, false, false, false, false, false, false, false] rfl rfl (by kernel_rfl) (fun _ _ _ h => h) (Or.inl ⟨by rfl, ?_⟩) ?_ ?_
  rotate_left
  · intro w'
    go_simp
    with_reducible rfl
  rotate_left
  · simp only [Act.put, List.setIfInBounds_toArray, List.set_cons_zero, List.set_cons_succ, i64_w, i32_w]
    rfl
  refine pure_ (i := 8) (N := some 78) (v := ?_) (a' := ?_) #[true, true, true, true, true, true, true, true, true, false, false, false, false, false, false, false, false, false, false, false, false, false, false, false] rfl rfl (by kernel_rfl) (fun _ _ _ h => h) (Or.inl ⟨by rfl, ?_⟩) ?_ ?_
  rotate_left
  · intro w'
    go_simp
    with_reducible rfl
  rotate_left
  · simp only [Act.put, List.setIfInBounds_toArray, List.set_cons_zero, List.set_cons_succ, i64_w, i32_w]
    rfl
  refine pure_ (i := 9) (N := some 79) (v := ?_) (a' := ?_) #[true, true, true, true, true, true, true, true, true, true, false, false, false, false, false, false, false, false, false, false, false, false, false, false] rfl rfl (by kernel_rfl) (fun _ _ _ h => h) (Or.inl ⟨by rfl, ?_⟩) ?_ ?_
  rotate_left
  · intro w'
    go_simp
    with_reducible rfl
  rotate_left
  · simp only [Act.put, List.setIfInBounds_toArray, List.set_cons_zero, List.set_cons_succ, i64_w, i32_w]
    rfl
  refine pure_ (i := 10) (N := some 80) (v := ?_) (a' := ?_) #[true, true, true, true, true, true, true, true, true, true, true, false, false, false, false, false, false, false, false, false, false, false, false, false] rfl rfl (by kernel_rfl) (fun _ _ _ h => h) (Or.inl ⟨by rfl, ?_⟩) ?_ ?_
  rotate_left
  · intro w'
    go_simp
    with_reducible rfl
  rotate_left
  · simp only [Act.put, List.setIfInBounds_toArray, List.set_cons_zero, List.set_cons_succ, i64_w, i32_w]
    rfl
  refine take_ (i := 11) (N := some 81) (v := ?_) (a' := ?_) #[true, true, true, true, true, true, true, true, true, true, true, true, false, false, false, false, false, false, false, false, false, false, false, false] rfl rfl (by kernel_rfl) (fun _ _ _ h => h) (Or.inl ⟨by rfl, ?_⟩) hHeld ?_ ?_
  rotate_left
  · intro w' hS
    go_simp
    with_reducible rfl
  rotate_left
  · simp only [Act.put, List.setIfInBounds_toArray, List.set_cons_zero, List.set_cons_succ, i64_w, i32_w]
    rfl
  refine pure_ (i := 12) (N := some 82) (v := ?_) (a' := ?_) #[true, true, true, true, true, true, true, true, true, true, true, true, true, false, false, false, false, false, false, false, false, false, false, false] rfl rfl (by kernel_rfl) (fun _ _ _ h => h) (Or.inl ⟨by rfl, ?_⟩) ?_ ?_
  rotate_left
  · intro w'
    go_simp
    with_reducible rfl
  rotate_left
  · simp only [Act.put, List.setIfInBounds_toArray, List.set_cons_zero, List.set_cons_succ, i64_w, i32_w]
    rfl
  refine take_ (i := 13) (N := some 83) (v := ?_) (a' := ?_) #[true, true, true, true, true, true, true, true, true, true, true, true, true, true, false, false, false, false, false, false, false, false, false, false] rfl rfl (by kernel_rfl) (fun _ _ _ h => h) (Or.inl ⟨by rfl, ?_⟩) hHeld ?_ ?_
  rotate_left
  · intro w' hS
    go_simp
    with_reducible rfl
  rotate_left
  · simp only [Act.put, List.setIfInBounds_toArray, List.set_cons_zero, List.set_cons_succ, i64_w, i32_w]
    rfl
  refine take_ (i := 14) (N := some 84) (v := ?_) (a' := ?_) #[true, true, true, true, true, true, true, true, true, true, true, true, true, true, true, false, false, false, false, false, false, false, false, false] rfl rfl (by kernel_rfl) (fun _ _ _ h => h) (Or.inl ⟨by rfl, ?_⟩) hHeld ?_ ?_
  rotate_left
  · intro w' hS
    go_simp
    with_reducible rfl
  rotate_left
  · simp only [Act.put, List.setIfInBounds_toArray, List.set_cons_zero, List.set_cons_succ, i64_w, i32_w]
    rfl
  refine pure_ (i := 15) (N := some 85) (v := ?_) (a' := ?_) #[true, true, true, true, true, true, true, true, true, true, true, true, true, true, true, true, false, false, false, false, false, false, false, false] rfl rfl (by kernel_rfl) (fun _ _ _ h => h) (Or.inl ⟨by rfl, ?_⟩) ?_ ?_
  rotate_left
  · intro w'
    go_simp
    with_reducible rfl
  rotate_left
  · simp only [Act.put, List.setIfInBounds_toArray, List.set_cons_zero, List.set_cons_succ, i64_w, i32_w]
    rfl
  refine take_ (i := 16) (N := some 86) (v := ?_) (a' := ?_) #[true, true, true, true, true, true, true, true, true, true, true, true, true, true, true, true, true, false, false, false, false, false, false, false] rfl rfl (by kernel_rfl) (fun _ _ _ h => h) (Or.inl ⟨by rfl, ?_⟩) hHeld ?_ ?_
  rotate_left
  · intro w' hS
    go_simp
    with_reducible rfl
  rotate_left
  · simp only [Act.put, List.setIfInBounds_toArray, List.set_cons_zero, List.set_cons_succ, i64_w, i32_w]
    rfl
  refine pure_ (i := 17) (N := some 87) (v := ?_) (a' := ?_) #[true, true, true, true, true, true, true, true, true, true, true, true, true, true, true, true, true, true, false, false, false, false, false, false] rfl rfl (by kernel_rfl) (fun _ _ _ h => h) (Or.inl ⟨by rfl, ?_⟩) ?_ ?_
  rotate_left
  · intro w'
    go_simp
    with_reducible rfl
  rotate_left
  · simp only [Act.put, List.setIfInBounds_toArray, List.set_cons_zero, List.set_cons_succ, i64_w, i32_w]
    rfl
  refine one_ (i := 18) (N := some 88) #[true, true, true, true, true, true, true, true, true, true, true, true, true, true, true, true, true, true, true, false, false, false, false, false] rfl rfl (by kernel_rfl) (by decide) (fun K hK => ?_)
  refine step_entry string_law Try.underlying185 rfl rfl _ _ rfl rfl (H1M.out _ (by go_simp)) zeroSub zero_sub x.f0 rfl (fun es1 ec1 u1 n1 hE1 => ?_)
  refine hK.out _ _ (fun q => by simpa only [setMap_cell] using hHeld q) (fun hHeld => ?_)
  clear hK K
  refine norm_ (a' := ?_) ?_ ?_
  rotate_left
  · show Act.put _ (some 88) _ = _
    simp only [Act.put, List.setIfInBounds_toArray, List.set_cons_zero, List.set_cons_succ, i64_w, i32_w]
    rfl
  refine pure_ (i := 19) (N := some 89) (v := ?_) (a' := ?_) #[true, true, true, true, true, true, true, true, true, true, true, true, true, true, true, true, true, true, true, true, false, false, false, false] rfl rfl (by kernel_rfl) (fun _ _ _ h => h) (Or.inl ⟨by rfl, ?_⟩) ?_ ?_
  rotate_left
  · intro w'
    go_simp
    with_reducible rfl
  rotate_left
  · simp only [Act.put, List.setIfInBounds_toArray, List.set_cons_zero, List.set_cons_succ, i64_w, i32_w]
    rfl
  refine one_ (i := 20) (N := none) #[true, true, true, true, true, true, true, true, true, true, true, true, true, true, true, true, true, true, true, true, true, false, false, false] rfl rfl (by kernel_rfl) (by decide) (fun K hK => ?_)
  refine step_store rfl rfl _ _ _ rfl rfl x.f0 n1 hE1 rfl x rfl (fun es2 ec2 hM1 => ?_); clear hE1
  refine hK.out _ _ (fun q => by simpa only [setMap_cell] using hHeld q) (fun hHeld => ?_)
  clear hK K
  refine norm_ (a' := ?_) ?_ ?_
  rotate_left
  · show Act.put _ none _ = _
    simp only [Act.put, List.setIfInBounds_toArray, List.set_cons_zero, List.set_cons_succ, i64_w, i32_w]
    rfl
  refine one_ (i := 21) (N := some 90) #[true, true, true, true, true, true, true, true, true, true, true, true, true, true, true, true, true, true, true, true, true, true, false, false] rfl rfl (by kernel_rfl) (by decide) (fun K hK => ?_)
  refine step_entry u32_law Try.underlying186 rfl rfl _ _ rfl rfl (H3M.out _ (by go_simp)) (encName ⟨#[]⟩) zero_name x.f3 rfl (fun es3 ec3 u3 n3 hE3 => ?_)
  refine hK.out _ _ (fun q => by simpa only [setMap_cell] using hHeld q) (fun hHeld => ?_)
  clear hK K
  refine norm_ (a' := ?_) ?_ ?_
  rotate_left
  · show Act.put _ (some 90) _ = _
    simp only [Act.put, List.setIfInBounds_toArray, List.set_cons_zero, List.set_cons_succ, i64_w, i32_w]
    rfl
  refine pure_ (i := 22) (N := some 91) (v := ?_) (a' := ?_) #[true, true, true, true, true, true, true, true, true, true, true, true, true, true, true, true, true, true, true, true, true, true, true, false] rfl rfl (by kernel_rfl) (fun _ _ _ h => h) (Or.inl ⟨by rfl, ?_⟩) ?_ ?_
  rotate_left
  · intro w'
    go_simp
    with_reducible rfl
  rotate_left
  · simp only [Act.put, List.setIfInBounds_toArray, List.set_cons_zero, List.set_cons_succ, i64_w, i32_w]
    rfl
  refine one_ (i := 23) (N := none) #[true, true, true, true, true, true, true, true, true, true, true, true, true, true, true, true, true, true, true, true, true, true, true, true] rfl rfl (by kernel_rfl) (by decide) (fun K hK => ?_)
  refine step_store rfl rfl _ _ _ rfl rfl x.f3 n3 hE3 rfl x.f0 rfl (fun es4 ec4 hM2 => ?_); clear hE3
  refine hK.out _ _ (fun q => by simpa only [setMap_cell] using hHeld q) (fun hHeld => ?_)
  clear hK K
  refine norm_ (a' := ?_) ?_ ?_
  rotate_left
  · show Act.put _ none _ = _
    simp only [Act.put, List.setIfInBounds_toArray, List.set_cons_zero, List.set_cons_succ, i64_w, i32_w]
    rfl
  refine done_ (by kernel_rfl) ?_
  go_wp2
  go_ret
  refine put_end rfl (by repeat (with_reducible first | exact Frame.refl _ _ | apply Frame.drew | apply Frame.drewN | apply Frame.more | apply Frame.alloc | refine Frame.setMap ?_ (Or.inl rfl) _ _ | refine Frame.setMap ?_ (Or.inr rfl) _ _ | refine Frame.setNew ?_ (by simp <;> omega) _)) (fun hF => HF.out.turned hF ?_ hM2 ?_)
  · rw [putSub_kv]
    exact (hM1.setMap_ne _ _ hne).setMap_ne _ _ hne
  · intro a n
    have hps : putSub F x = F.map (fun z => if z.f0 = x.f0 then x else z) := by unfold putSub; rw [if_pos (by rw [HX.out]; rfl)]
    rw [hps, HL3.out]
    exact at_put_had HF.out.names HAT.out (getSub_mem HX.out).1 (getSub_mem HX.out).2 HFR.out a n

set_option maxHeartbeats 4000000 in
set_option maxRecDepth 100000 in
theorem file_Put_had_same (b m1 m2 : Nat) (most : Int) (F : List S24) (x : S24) (w : World) (h : FileAt w b m1 m2 most F) (y : S24) (hx : getSub F x.f0 = some y) (ha : y.f3 = x.f3) (hok : okSub x.f0 x.f1 x.f2 x.f3 = true) :
    Calls Try.prog 51 #[.pointer (some ⟨b, 0, none⟩), encSub x] w fun e w' => e = .returned (.int .i64 0) ∧ FileAt w' b m1 m2 most (putSub F x) ∧ Frame (fun k => k = m1 ∨ k = m2) w w' := by
  have c0 := h.cell0
  have c1 := h.cell1
  have c2 := h.cell2
  obtain ⟨l2, hl2, hat⟩ := h.at_
  have hg : kvGet l2 x.f3 = some x.f0 := (hat _ _).2 ⟨y, (getSub_mem hx).1, ha, (getSub_mem hx).2⟩
  have hss : (x.f0.toList != x.f0.toList) = false := by simp
  have hst : (!x.f0.toList == x.f0.toList) = false := by simp
  have lt_b_0 : (b < w.heap.size) = True := eq_true (by have := h.lt; omega); have lt_b_1 : (b < w.heap.size + 1) = True := eq_true (by have := h.lt; omega); have lt_b_2 : (b < w.heap.size + 2) = True := eq_true (by have := h.lt; omega); have lt_b_3 : (b < w.heap.size + 3) = True := eq_true (by have := h.lt; omega); have lt_b_4 : (b < w.heap.size + 4) = True := eq_true (by have := h.lt; omega); have lt_b_5 : (b < w.heap.size + 5) = True := eq_true (by have := h.lt; omega); have lt_b_6 : (b < w.heap.size + 6) = True := eq_true (by have := h.lt; omega)
  have hm1 := holds_iff.2 h.by_
  have hm2 := holds_iff.2 hl2
  have lt_m1_0 : (m1 < w.heap.size) = True := eq_true (by have := h.by_.lt; omega); have lt_m1_1 : (m1 < w.heap.size + 1) = True := eq_true (by have := h.by_.lt; omega); have lt_m1_2 : (m1 < w.heap.size + 2) = True := eq_true (by have := h.by_.lt; omega); have lt_m1_3 : (m1 < w.heap.size + 3) = True := eq_true (by have := h.by_.lt; omega); have lt_m1_4 : (m1 < w.heap.size + 4) = True := eq_true (by have := h.by_.lt; omega); have lt_m1_5 : (m1 < w.heap.size + 5) = True := eq_true (by have := h.by_.lt; omega); have lt_m1_6 : (m1 < w.heap.size + 6) = True := eq_true (by have := h.by_.lt; omega)
  have lt_m2_0 : (m2 < w.heap.size) = True := eq_true (by have := hl2.lt; omega); have lt_m2_1 : (m2 < w.heap.size + 1) = True := eq_true (by have := hl2.lt; omega); have lt_m2_2 : (m2 < w.heap.size + 2) = True := eq_true (by have := hl2.lt; omega); have lt_m2_3 : (m2 < w.heap.size + 3) = True := eq_true (by have := hl2.lt; omega); have lt_m2_4 : (m2 < w.heap.size + 4) = True := eq_true (by have := hl2.lt; omega); have lt_m2_5 : (m2 < w.heap.size + 5) = True := eq_true (by have := hl2.lt; omega); have lt_m2_6 : (m2 < w.heap.size + 6) = True := eq_true (by have := hl2.lt; omega)
  have hL1 := fun W => look_by_hit (m := m1) hx W
  have hL2 := fun W => look_at_hit (m := m2) hg W
  have hN := fun W (hh : Holds Value.string encSub (mapAt W m1) (F.map fun x => (x.f0, x))) ty => len_by W hh ty
  simp only [List.length_map] at hN
  have hC := record_Check_f x.f0 x.f1 x.f2 x.f3 x.f4
  rw [if_pos hok] at hC
  have HC := Aside0.mk hC
  have H1M := Aside0.mk (show ∀ W, Holds Value.string encSub (mapAt W m1) (F.map fun x => (x.f0, x)) → MapOf Value.string encSub W m1 (F.map fun x => (x.f0, x)) from fun W hh => holds_iff.1 hh)
  have H2M := Aside0.mk (show ∀ W, Holds (Value.int .u32) encName (mapAt W m2) l2 → MapOf (Value.int .u32) encName W m2 l2 from fun W hh => holds_iff.1 hh)
  have hne := h.ne
  have hne' := h.ne.symm
  have HX := Aside0.mk hx
  have HF := Aside0.mk h
  have HAT := Aside0.mk hat
  have hfree : ∀ z ∈ F, z.f3 = x.f3 → z.f0 = x.f0 := fun z hz e => by
    have e1 := (hat x.f3 z.f0).2 ⟨z, hz, e, rfl⟩
    rw [hg] at e1; exact (Option.some.inj e1).symm
  have HFR := Aside0.mk hfree
  clear h hx ha hC hok hat hg hfree
  unfold encSub
  go_enter Try.func51, Try.ntmps51
  go_wp2
  go_region
  go_wp2
  go_region
  go_wp2_with (go_at_call 55; refine (record_Check.calls _ _ _ _ _ _ _ HC.out).mono ?_; rintro e w' ⟨rfl, hb⟩; obtain ⟨os, d, rfl⟩ := below_more hb; clear hb)
  go_region
  go_wp2
  refine start_same (n := 8) #[false, false, false, false, false, false, false, false] (by kernel_rfl) rfl rfl (fun hHeld => ?_)
  refine pure_ (i := 0) (N := some 63) (v := ?_) (a' := ?_) #[true, false, false, false, false, false, false, false] rfl rfl (by kernel_rfl) (fun _ _ _ h => h) (Or.inl ⟨by rfl, ?_⟩) ?_ ?_
  rotate_left
  · intro w'
    go_simp
    with_reducible rfl
  rotate_left
  · simp only [Act.put, List.setIfInBounds_toArray, List.set_cons_zero, List.set_cons_succ, i64_w, i32_w]
    rfl
  refine pure_ (i := 1) (N := some 64) (v := ?_) (a' := ?_) #[true, true, false, false, false, false, false, false] rfl rfl (by kernel_rfl) (fun _ _ _ h => h) (Or.inl ⟨by rfl, ?_⟩) ?_ ?_
  rotate_left
  · intro w'
    go_simp
    with_reducible rfl
  rotate_left
  · simp only [Act.put, List.setIfInBounds_toArray, List.set_cons_zero, List.set_cons_succ, i64_w, i32_w]
    rfl
  refine pure_ (i := 2) (N := some 65) (v := ?_) (a' := ?_) #[true, true, true, false, false, false, false, false] rfl rfl (by kernel_rfl) (fun _ _ _ h => h) (Or.inl ⟨by rfl, ?_⟩) ?_ ?_
  rotate_left
  · intro w'
    go_simp
    with_reducible rfl
  rotate_left
  · simp only [Act.put, List.setIfInBounds_toArray, List.set_cons_zero, List.set_cons_succ, i64_w, i32_w]
    rfl
  refine pure_ (i := 3) (N := some 66) (v := ?_) (a' := ?_) #[true, true, true, true, false, false, false, false] rfl rfl (by kernel_rfl) (fun _ _ _ h => h) (Or.inl ⟨by rfl, ?_⟩) ?_ ?_
  rotate_left
  · intro w'
    go_simp
    with_reducible rfl
  rotate_left
  · simp only [Act.put, List.setIfInBounds_toArray, List.set_cons_zero, List.set_cons_succ, i64_w, i32_w]
    rfl
  refine take_ (i := 4) (N := some 67) (v := ?_) (a' := ?_) #[true, true, true, true, true, false, false, false] rfl rfl (by kernel_rfl) (fun _ _ _ h => h) (Or.inl ⟨by rfl, ?_⟩) hHeld ?_ ?_
  rotate_left
  · intro w' hS
    go_simp
    with_reducible rfl
  rotate_left
  · simp only [Act.put, List.setIfInBounds_toArray, List.set_cons_zero, List.set_cons_succ, i64_w, i32_w]
    rfl
  refine pure_ (i := 5) (N := some 68) (v := ?_) (a' := ?_) #[true, true, true, true, true, true, false, false] rfl rfl (by kernel_rfl) (fun _ _ _ h => h) (Or.inl ⟨by rfl, ?_⟩) ?_ ?_
  rotate_left
  · intro w'
    go_simp
    with_reducible rfl
  rotate_left
  · simp only [Act.put, List.setIfInBounds_toArray, List.set_cons_zero, List.set_cons_succ, i64_w, i32_w]
    rfl
  refine take_ (i := 6) (N := some 69) (v := ?_) (a' := ?_) #[true, true, true, true, true, true, true, false] rfl rfl (by kernel_rfl) (fun _ _ _ h => h) (Or.inl ⟨by rfl, ?_⟩) hHeld ?_ ?_
  rotate_left
  · intro w' hS
    go_simp
    with_reducible rfl
  rotate_left
  · simp only [Act.put, List.setIfInBounds_toArray, List.set_cons_zero, List.set_cons_succ, i64_w, i32_w]
    rfl
  refine one_ (i := 7) (N := none) #[true, true, true, true, true, true, true, true] rfl rfl (by kernel_rfl) (by decide) (fun K hK => ?_)
  refine step_del u32_law Try.underlying186 rfl rfl _ _ _ rfl rfl (H2M.out _ (by go_simp)) y.f3 rfl (fun es0 ec0 hD => ?_)
  refine hK.out _ _ (fun q => by simpa only [setMap_cell] using hHeld q) (fun hHeld => ?_)
  clear hK K
  refine norm_ (a' := ?_) ?_ ?_
  rotate_left
  · show Act.put _ none _ = _
    simp only [Act.put, List.setIfInBounds_toArray, List.set_cons_zero, List.set_cons_succ, i64_w, i32_w]
    rfl
  refine done_ (by kernel_rfl) ?_
  have hm3 := holds_iff.2 hD
  obtain ⟨l3, hl3⟩ : ∃ l3, l3 = kvDel l2 y.f3 := ⟨_, rfl⟩
  rw [← hl3] at hm3
  simp only [drew_more, drewN_more] at hm3
  have HL3 := Aside0.mk hl3
  have H3M := Aside0.mk (show ∀ W, Holds (Value.int .u32) encName (mapAt W m2) l3 → MapOf (Value.int .u32) encName W m2 l3 from fun W hh => holds_iff.1 hh)
  clear hD hl3 hHeld
  go_wp2
  refine start_same (n := 24) #[false, false, false, false, false, false, false, false, false, false, false, false, false, false, false, false, false, false, false, false, false, false, false, false] (by kernel_rfl) rfl rfl (fun hHeld => ?_)
  refine pure_ (i := 0) (N := some 70) (v := ?_) (a' := ?_) #[true, false, false, false, false, false, false, false, false, false, false, false, false, false, false, false, false, false, false, false, false, false, false, false] rfl rfl (by kernel_rfl) (fun _ _ _ h => h) (Or.inl ⟨by rfl, ?_⟩) ?_ ?_
  rotate_left
  · intro w'
    go_simp
    with_reducible rfl
  rotate_left
  · simp only [Act.put, List.setIfInBounds_toArray, List.set_cons_zero, List.set_cons_succ, i64_w, i32_w]
    rfl
  refine pure_ (i := 1) (N := some 71) (v := ?_) (a' := ?_) #[true, true, false, false, false, false, false, false, false, false, false, false, false, false, false, false, false, false, false, false, false, false, false, false] rfl rfl (by kernel_rfl) (fun _ _ _ h => h) (Or.inl ⟨by rfl, ?_⟩) ?_ ?_
  rotate_left
  · intro w'
    go_simp
    with_reducible rfl
  rotate_left
  · simp only [Act.put, List.setIfInBounds_toArray, List.set_cons_zero, List.set_cons_succ, i64_w, i32_w]
    rfl
  refine pure_ (i := 2) (N := some 72) (v := ?_) (a' := ?_) #[true, true, true, false, false, false, false, false, false, false, false, false, false, false, false, false, false, false, false, false, false, false, false, false] rfl rfl (by kernel_rfl) (fun _ _ _ h => h) (Or.inl ⟨by rfl, ?_⟩) ?_ ?_
  rotate_left
  · intro w'
    go_simp
    with_reducible rfl
  rotate_left
  · simp only [Act.put, List.setIfInBounds_toArray, List.set_cons_zero, List.set_cons_succ, i64_w, i32_w]
    rfl
  refine pure_ (i := 3) (N := some 73) (v := ?_) (a' := ?_) #[true, true, true, true, false, false, false, false, false, false, false, false, false, false, false, false, false, false, false, false, false, false, false, false] rfl rfl (by kernel_rfl) (fun _ _ _ h => h) (Or.inl ⟨by rfl, ?_⟩) ?_ ?_
  rotate_left
  · intro w'
    go_simp
    with_reducible rfl
  rotate_left
  · simp only [Act.put, List.setIfInBounds_toArray, List.set_cons_zero, List.set_cons_succ, i64_w, i32_w]
    rfl
  refine take_ (i := 4) (N := some 74) (v := ?_) (a' := ?_) #[true, true, true, true, true, false, false, false, false, false, false, false, false, false, false, false, false, false, false, false, false, false, false, false] rfl rfl (by kernel_rfl) (fun _ _ _ h => h) (Or.inl ⟨by rfl, ?_⟩) hHeld ?_ ?_
  rotate_left
  · intro w' hS
    go_simp
    with_reducible rfl
  rotate_left
  · simp only [Act.put, List.setIfInBounds_toArray, List.set_cons_zero, List.set_cons_succ, i64_w, i32_w]
    rfl
  refine pure_ (i := 5) (N := some 75) (v := ?_) (a' := ?_) #[true, true, true, true, true, true, false, false, false, false, false, false, false, false, false, false, false, false, false, false, false, false, false, false] rfl rfl (by kernel_rfl) (fun _ _ _ h => h) (Or.inl ⟨by rfl, ?_⟩) ?_ ?_
  rotate_left
  · intro w'
    go_simp
    with_reducible rfl
  rotate_left
  · simp only [Act.put, List.setIfInBounds_toArray, List.set_cons_zero, List.set_cons_succ, i64_w, i32_w]
    rfl
  refine take_ (i := 6) (N := some 76) (v := ?_) (a' := ?_) #[true, true, true, true, true, true, true, false, false, false, false, false, false, false, false, false, false, false, false, false, false, false, false, false] rfl rfl (by kernel_rfl) (fun _ _ _ h => h) (Or.inl ⟨by rfl, ?_⟩) hHeld ?_ ?_
  rotate_left
  · intro w' hS
    go_simp
    with_reducible rfl
  rotate_left
  · simp only [Act.put, List.setIfInBounds_toArray, List.set_cons_zero, List.set_cons_succ, i64_w, i32_w]
    rfl
  refine pure_ (i := 7) (N := some 77) (v := ?_) (a' := ?_) #[true, true, true, true, true, true, true, true, false, false, false, false, false, false, false, false, false, false, false, false, false, false, false, false] rfl rfl (by kernel_rfl) (fun _ _ _ h => h) (Or.inl ⟨by rfl, ?_⟩) ?_ ?_
  rotate_left
  · intro w'
    go_simp
    with_reducible rfl
  rotate_left
  · simp only [Act.put, List.setIfInBounds_toArray, List.set_cons_zero, List.set_cons_succ, i64_w, i32_w]
    rfl
  refine pure_ (i := 8) (N := some 78) (v := ?_) (a' := ?_) #[true, true, true, true, true, true, true, true, true, false, false, false, false, false, false, false, false, false, false, false, false, false, false, false] rfl rfl (by kernel_rfl) (fun _ _ _ h => h) (Or.inl ⟨by rfl, ?_⟩) ?_ ?_
  rotate_left
  · intro w'
    go_simp
    with_reducible rfl
  rotate_left
  · simp only [Act.put, List.setIfInBounds_toArray, List.set_cons_zero, List.set_cons_succ, i64_w, i32_w]
    rfl
  refine pure_ (i := 9) (N := some 79) (v := ?_) (a' := ?_) #[true, true, true, true, true, true, true, true, true, true, false, false, false, false, false, false, false, false, false, false, false, false, false, false] rfl rfl (by kernel_rfl) (fun _ _ _ h => h) (Or.inl ⟨by rfl, ?_⟩) ?_ ?_
  rotate_left
  · intro w'
    go_simp
    with_reducible rfl
  rotate_left
  · simp only [Act.put, List.setIfInBounds_toArray, List.set_cons_zero, List.set_cons_succ, i64_w, i32_w]
    rfl
  refine pure_ (i := 10) (N := some 80) (v := ?_) (a' := ?_) #[true, true, true, true, true, true, true, true, true, true, true, false, false, false, false, false, false, false, false, false, false, false, false, false] rfl rfl (by kernel_rfl) (fun _ _ _ h => h) (Or.inl ⟨by rfl, ?_⟩) ?_ ?_
  rotate_left
  · intro w'
    go_simp
    with_reducible rfl
  rotate_left
  · simp only [Act.put, List.setIfInBounds_toArray, List.set_cons_zero, List.set_cons_succ, i64_w, i32_w]
    rfl
  refine take_ (i := 11) (N := some 81) (v := ?_) (a' := ?_) #[true, true, true, true, true, true, true, true, true, true, true, true, false, false, false, false, false, false, false, false, false, false, false, false] rfl rfl (by kernel_rfl) (fun _ _ _ h => h) (Or.inl ⟨by rfl, ?_⟩) hHeld ?_ ?_
  rotate_left
  · intro w' hS
    go_simp
    with_reducible rfl
  rotate_left
  · simp only [Act.put, List.setIfInBounds_toArray, List.set_cons_zero, List.set_cons_succ, i64_w, i32_w]
    rfl
  refine pure_ (i := 12) (N := some 82) (v := ?_) (a' := ?_) #[true, true, true, true, true, true, true, true, true, true, true, true, true, false, false, false, false, false, false, false, false, false, false, false] rfl rfl (by kernel_rfl) (fun _ _ _ h => h) (Or.inl ⟨by rfl, ?_⟩) ?_ ?_
  rotate_left
  · intro w'
    go_simp
    with_reducible rfl
  rotate_left
  · simp only [Act.put, List.setIfInBounds_toArray, List.set_cons_zero, List.set_cons_succ, i64_w, i32_w]
    rfl
  refine take_ (i := 13) (N := some 83) (v := ?_) (a' := ?_) #[true, true, true, true, true, true, true, true, true, true, true, true, true, true, false, false, false, false, false, false, false, false, false, false] rfl rfl (by kernel_rfl) (fun _ _ _ h => h) (Or.inl ⟨by rfl, ?_⟩) hHeld ?_ ?_
  rotate_left
  · intro w' hS
    go_simp
    with_reducible rfl
  rotate_left
  · simp only [Act.put, List.setIfInBounds_toArray, List.set_cons_zero, List.set_cons_succ, i64_w, i32_w]
    rfl
  refine take_ (i := 14) (N := some 84) (v := ?_) (a' := ?_) #[true, true, true, true, true, true, true, true, true, true, true, true, true, true, true, false, false, false, false, false, false, false, false, false] rfl rfl (by kernel_rfl) (fun _ _ _ h => h) (Or.inl ⟨by rfl, ?_⟩) hHeld ?_ ?_
  rotate_left
  · intro w' hS
    go_simp
    with_reducible rfl
  rotate_left
  · simp only [Act.put, List.setIfInBounds_toArray, List.set_cons_zero, List.set_cons_succ, i64_w, i32_w]
    rfl
  refine pure_ (i := 15) (N := some 85) (v := ?_) (a' := ?_) #[true, true, true, true, true, true, true, true, true, true, true, true, true, true, true, true, false, false, false, false, false, false, false, false] rfl rfl (by kernel_rfl) (fun _ _ _ h => h) (Or.inl ⟨by rfl, ?_⟩) ?_ ?_
  rotate_left
  · intro w'
    go_simp
    with_reducible rfl
  rotate_left
  · simp only [Act.put, List.setIfInBounds_toArray, List.set_cons_zero, List.set_cons_succ, i64_w, i32_w]
    rfl
  refine take_ (i := 16) (N := some 86) (v := ?_) (a' := ?_) #[true, true, true, true, true, true, true, true, true, true, true, true, true, true, true, true, true, false, false, false, false, false, false, false] rfl rfl (by kernel_rfl) (fun _ _ _ h => h) (Or.inl ⟨by rfl, ?_⟩) hHeld ?_ ?_
  rotate_left
  · intro w' hS
    go_simp
    with_reducible rfl
  rotate_left
  · simp only [Act.put, List.setIfInBounds_toArray, List.set_cons_zero, List.set_cons_succ, i64_w, i32_w]
    rfl
  refine pure_ (i := 17) (N := some 87) (v := ?_) (a' := ?_) #[true, true, true, true, true, true, true, true, true, true, true, true, true, true, true, true, true, true, false, false, false, false, false, false] rfl rfl (by kernel_rfl) (fun _ _ _ h => h) (Or.inl ⟨by rfl, ?_⟩) ?_ ?_
  rotate_left
  · intro w'
    go_simp
    with_reducible rfl
  rotate_left
  · simp only [Act.put, List.setIfInBounds_toArray, List.set_cons_zero, List.set_cons_succ, i64_w, i32_w]
    rfl
  refine one_ (i := 18) (N := some 88) #[true, true, true, true, true, true, true, true, true, true, true, true, true, true, true, true, true, true, true, false, false, false, false, false] rfl rfl (by kernel_rfl) (by decide) (fun K hK => ?_)
  refine step_entry string_law Try.underlying185 rfl rfl _ _ rfl rfl (H1M.out _ (by go_simp)) zeroSub zero_sub x.f0 rfl (fun es1 ec1 u1 n1 hE1 => ?_)
  refine hK.out _ _ (fun q => by simpa only [setMap_cell] using hHeld q) (fun hHeld => ?_)
  clear hK K
  refine norm_ (a' := ?_) ?_ ?_
  rotate_left
  · show Act.put _ (some 88) _ = _
    simp only [Act.put, List.setIfInBounds_toArray, List.set_cons_zero, List.set_cons_succ, i64_w, i32_w]
    rfl
  refine pure_ (i := 19) (N := some 89) (v := ?_) (a' := ?_) #[true, true, true, true, true, true, true, true, true, true, true, true, true, true, true, true, true, true, true, true, false, false, false, false] rfl rfl (by kernel_rfl) (fun _ _ _ h => h) (Or.inl ⟨by rfl, ?_⟩) ?_ ?_
  rotate_left
  · intro w'
    go_simp
    with_reducible rfl
  rotate_left
  · simp only [Act.put, List.setIfInBounds_toArray, List.set_cons_zero, List.set_cons_succ, i64_w, i32_w]
    rfl
  refine one_ (i := 20) (N := none) #[true, true, true, true, true, true, true, true, true, true, true, true, true, true, true, true, true, true, true, true, true, false, false, false] rfl rfl (by kernel_rfl) (by decide) (fun K hK => ?_)
  refine step_store rfl rfl _ _ _ rfl rfl x.f0 n1 hE1 rfl x rfl (fun es2 ec2 hM1 => ?_); clear hE1
  refine hK.out _ _ (fun q => by simpa only [setMap_cell] using hHeld q) (fun hHeld => ?_)
  clear hK K
  refine norm_ (a' := ?_) ?_ ?_
  rotate_left
  · show Act.put _ none _ = _
    simp only [Act.put, List.setIfInBounds_toArray, List.set_cons_zero, List.set_cons_succ, i64_w, i32_w]
    rfl
  refine one_ (i := 21) (N := some 90) #[true, true, true, true, true, true, true, true, true, true, true, true, true, true, true, true, true, true, true, true, true, true, false, false] rfl rfl (by kernel_rfl) (by decide) (fun K hK => ?_)
  refine step_entry u32_law Try.underlying186 rfl rfl _ _ rfl rfl (H3M.out _ (by go_simp)) (encName ⟨#[]⟩) zero_name x.f3 rfl (fun es3 ec3 u3 n3 hE3 => ?_)
  refine hK.out _ _ (fun q => by simpa only [setMap_cell] using hHeld q) (fun hHeld => ?_)
  clear hK K
  refine norm_ (a' := ?_) ?_ ?_
  rotate_left
  · show Act.put _ (some 90) _ = _
    simp only [Act.put, List.setIfInBounds_toArray, List.set_cons_zero, List.set_cons_succ, i64_w, i32_w]
    rfl
  refine pure_ (i := 22) (N := some 91) (v := ?_) (a' := ?_) #[true, true, true, true, true, true, true, true, true, true, true, true, true, true, true, true, true, true, true, true, true, true, true, false] rfl rfl (by kernel_rfl) (fun _ _ _ h => h) (Or.inl ⟨by rfl, ?_⟩) ?_ ?_
  rotate_left
  · intro w'
    go_simp
    with_reducible rfl
  rotate_left
  · simp only [Act.put, List.setIfInBounds_toArray, List.set_cons_zero, List.set_cons_succ, i64_w, i32_w]
    rfl
  refine one_ (i := 23) (N := none) #[true, true, true, true, true, true, true, true, true, true, true, true, true, true, true, true, true, true, true, true, true, true, true, true] rfl rfl (by kernel_rfl) (by decide) (fun K hK => ?_)
  refine step_store rfl rfl _ _ _ rfl rfl x.f3 n3 hE3 rfl x.f0 rfl (fun es4 ec4 hM2 => ?_); clear hE3
  refine hK.out _ _ (fun q => by simpa only [setMap_cell] using hHeld q) (fun hHeld => ?_)
  clear hK K
  refine norm_ (a' := ?_) ?_ ?_
  rotate_left
  · show Act.put _ none _ = _
    simp only [Act.put, List.setIfInBounds_toArray, List.set_cons_zero, List.set_cons_succ, i64_w, i32_w]
    rfl
  refine done_ (by kernel_rfl) ?_
  go_wp2
  go_ret
  refine put_end rfl (by repeat (with_reducible first | exact Frame.refl _ _ | apply Frame.drew | apply Frame.drewN | apply Frame.more | apply Frame.alloc | refine Frame.setMap ?_ (Or.inl rfl) _ _ | refine Frame.setMap ?_ (Or.inr rfl) _ _ | refine Frame.setNew ?_ (by simp <;> omega) _)) (fun hF => HF.out.turned hF ?_ hM2 ?_)
  · rw [putSub_kv]
    exact (hM1.setMap_ne _ _ hne).setMap_ne _ _ hne
  · intro a n
    have hps : putSub F x = F.map (fun z => if z.f0 = x.f0 then x else z) := by unfold putSub; rw [if_pos (by rw [HX.out]; rfl)]
    rw [hps, HL3.out]
    exact at_put_had HF.out.names HAT.out (getSub_mem HX.out).1 (getSub_mem HX.out).2 HFR.out a n

set_option maxHeartbeats 4000000 in
set_option maxRecDepth 100000 in
theorem file_Put_have_old (b m1 m2 : Nat) (most : Int) (F : List S24) (x : S24) (w : World) (h : FileAt w b m1 m2 most F) (y : S24) (hx : getSub F x.f0 = some y) (z : S24) (hz : z ∈ F) (hza : z.f3 = x.f3) (hzn : z.f0 ≠ x.f0) (hok : okSub x.f0 x.f1 x.f2 x.f3 = true) :
    Calls Try.prog 51 #[.pointer (some ⟨b, 0, none⟩), encSub x] w fun e w' => e = .returned (.int .i64 9) ∧ Below w.heap.size w w' := by
  have c0 := h.cell0
  have c1 := h.cell1
  have c2 := h.cell2
  obtain ⟨l2, hl2, hat⟩ := h.at_
  have hg : kvGet l2 x.f3 = some z.f0 := (hat _ _).2 ⟨z, hz, hza, rfl⟩
  have hzt : z.f0.toList ≠ x.f0.toList := fun e => hzn (by
    rw [ByteArray.toList_eq, ByteArray.toList_eq] at e
    exact ByteArray.ext (Array.toList_inj.1 e))
  have hzb : (z.f0.toList != x.f0.toList) = true := bne_iff_ne.2 hzt
  have hzc : (z.f0.toList == x.f0.toList) = false := beq_eq_false_iff_ne.2 hzt
  have hzd : (!z.f0.toList == x.f0.toList) = true := by rw [hzc]; rfl
  have lt_b_0 : (b < w.heap.size) = True := eq_true (by have := h.lt; omega); have lt_b_1 : (b < w.heap.size + 1) = True := eq_true (by have := h.lt; omega); have lt_b_2 : (b < w.heap.size + 2) = True := eq_true (by have := h.lt; omega); have lt_b_3 : (b < w.heap.size + 3) = True := eq_true (by have := h.lt; omega); have lt_b_4 : (b < w.heap.size + 4) = True := eq_true (by have := h.lt; omega); have lt_b_5 : (b < w.heap.size + 5) = True := eq_true (by have := h.lt; omega); have lt_b_6 : (b < w.heap.size + 6) = True := eq_true (by have := h.lt; omega)
  have hm1 := holds_iff.2 h.by_
  have hm2 := holds_iff.2 hl2
  have lt_m1_0 : (m1 < w.heap.size) = True := eq_true (by have := h.by_.lt; omega); have lt_m1_1 : (m1 < w.heap.size + 1) = True := eq_true (by have := h.by_.lt; omega); have lt_m1_2 : (m1 < w.heap.size + 2) = True := eq_true (by have := h.by_.lt; omega); have lt_m1_3 : (m1 < w.heap.size + 3) = True := eq_true (by have := h.by_.lt; omega); have lt_m1_4 : (m1 < w.heap.size + 4) = True := eq_true (by have := h.by_.lt; omega); have lt_m1_5 : (m1 < w.heap.size + 5) = True := eq_true (by have := h.by_.lt; omega); have lt_m1_6 : (m1 < w.heap.size + 6) = True := eq_true (by have := h.by_.lt; omega)
  have lt_m2_0 : (m2 < w.heap.size) = True := eq_true (by have := hl2.lt; omega); have lt_m2_1 : (m2 < w.heap.size + 1) = True := eq_true (by have := hl2.lt; omega); have lt_m2_2 : (m2 < w.heap.size + 2) = True := eq_true (by have := hl2.lt; omega); have lt_m2_3 : (m2 < w.heap.size + 3) = True := eq_true (by have := hl2.lt; omega); have lt_m2_4 : (m2 < w.heap.size + 4) = True := eq_true (by have := hl2.lt; omega); have lt_m2_5 : (m2 < w.heap.size + 5) = True := eq_true (by have := hl2.lt; omega); have lt_m2_6 : (m2 < w.heap.size + 6) = True := eq_true (by have := hl2.lt; omega)
  have hL1 := fun W => look_by_hit (m := m1) hx W
  have hL2 := fun W => look_at_hit (m := m2) hg W
  have hN := fun W (hh : Holds Value.string encSub (mapAt W m1) (F.map fun x => (x.f0, x))) ty => len_by W hh ty
  simp only [List.length_map] at hN
  have hC := record_Check_f x.f0 x.f1 x.f2 x.f3 x.f4
  rw [if_pos hok] at hC
  have HC := Aside0.mk hC
  have H1M := Aside0.mk (show ∀ W, Holds Value.string encSub (mapAt W m1) (F.map fun x => (x.f0, x)) → MapOf Value.string encSub W m1 (F.map fun x => (x.f0, x)) from fun W hh => holds_iff.1 hh)
  have H2M := Aside0.mk (show ∀ W, Holds (Value.int .u32) encName (mapAt W m2) l2 → MapOf (Value.int .u32) encName W m2 l2 from fun W hh => holds_iff.1 hh)
  have hne := h.ne
  have hne' := h.ne.symm
  have HX := Aside0.mk hx
  have HF := Aside0.mk h
  have HAT := Aside0.mk hat
  clear h hx hC hok hat hg hza hzn hz hzt
  unfold encSub
  go_enter Try.func51, Try.ntmps51
  go_wp2
  go_region
  go_wp2
  go_region
  go_wp2_with (go_at_call 55; refine (record_Check.calls _ _ _ _ _ _ _ HC.out).mono ?_; rintro e w' ⟨rfl, hb⟩; obtain ⟨os, d, rfl⟩ := below_more hb; clear hb)
  go_ret
  exact ⟨rfl, by repeat (with_reducible first | exact Below.refl _ _ | apply below_drewN' | apply Below.drew | refine below_of_more ?_ (by simp <;> omega) _ _ | refine Below.alloc ?_ (by simp <;> omega) _ | refine Below.setCell ?_ (Nat.le_refl _) _ | refine Below.setCell ?_ (by simp <;> omega) _)⟩

set_option maxHeartbeats 4000000 in
set_option maxRecDepth 100000 in
theorem file_Put_have_new (b m1 m2 : Nat) (most : Int) (F : List S24) (x : S24) (w : World) (h : FileAt w b m1 m2 most F) (hx : getSub F x.f0 = none) (z : S24) (hz : z ∈ F) (hza : z.f3 = x.f3) (hzn : z.f0 ≠ x.f0) (hok : okSub x.f0 x.f1 x.f2 x.f3 = true) :
    Calls Try.prog 51 #[.pointer (some ⟨b, 0, none⟩), encSub x] w fun e w' => e = .returned (.int .i64 9) ∧ Below w.heap.size w w' := by
  have c0 := h.cell0
  have c1 := h.cell1
  have c2 := h.cell2
  obtain ⟨l2, hl2, hat⟩ := h.at_
  have hg : kvGet l2 x.f3 = some z.f0 := (hat _ _).2 ⟨z, hz, hza, rfl⟩
  have hzt : z.f0.toList ≠ x.f0.toList := fun e => hzn (by
    rw [ByteArray.toList_eq, ByteArray.toList_eq] at e
    exact ByteArray.ext (Array.toList_inj.1 e))
  have hzb : (z.f0.toList != x.f0.toList) = true := bne_iff_ne.2 hzt
  have hzc : (z.f0.toList == x.f0.toList) = false := beq_eq_false_iff_ne.2 hzt
  have hzd : (!z.f0.toList == x.f0.toList) = true := by rw [hzc]; rfl
  have lt_b_0 : (b < w.heap.size) = True := eq_true (by have := h.lt; omega); have lt_b_1 : (b < w.heap.size + 1) = True := eq_true (by have := h.lt; omega); have lt_b_2 : (b < w.heap.size + 2) = True := eq_true (by have := h.lt; omega); have lt_b_3 : (b < w.heap.size + 3) = True := eq_true (by have := h.lt; omega); have lt_b_4 : (b < w.heap.size + 4) = True := eq_true (by have := h.lt; omega); have lt_b_5 : (b < w.heap.size + 5) = True := eq_true (by have := h.lt; omega); have lt_b_6 : (b < w.heap.size + 6) = True := eq_true (by have := h.lt; omega)
  have hm1 := holds_iff.2 h.by_
  have hm2 := holds_iff.2 hl2
  have lt_m1_0 : (m1 < w.heap.size) = True := eq_true (by have := h.by_.lt; omega); have lt_m1_1 : (m1 < w.heap.size + 1) = True := eq_true (by have := h.by_.lt; omega); have lt_m1_2 : (m1 < w.heap.size + 2) = True := eq_true (by have := h.by_.lt; omega); have lt_m1_3 : (m1 < w.heap.size + 3) = True := eq_true (by have := h.by_.lt; omega); have lt_m1_4 : (m1 < w.heap.size + 4) = True := eq_true (by have := h.by_.lt; omega); have lt_m1_5 : (m1 < w.heap.size + 5) = True := eq_true (by have := h.by_.lt; omega); have lt_m1_6 : (m1 < w.heap.size + 6) = True := eq_true (by have := h.by_.lt; omega)
  have lt_m2_0 : (m2 < w.heap.size) = True := eq_true (by have := hl2.lt; omega); have lt_m2_1 : (m2 < w.heap.size + 1) = True := eq_true (by have := hl2.lt; omega); have lt_m2_2 : (m2 < w.heap.size + 2) = True := eq_true (by have := hl2.lt; omega); have lt_m2_3 : (m2 < w.heap.size + 3) = True := eq_true (by have := hl2.lt; omega); have lt_m2_4 : (m2 < w.heap.size + 4) = True := eq_true (by have := hl2.lt; omega); have lt_m2_5 : (m2 < w.heap.size + 5) = True := eq_true (by have := hl2.lt; omega); have lt_m2_6 : (m2 < w.heap.size + 6) = True := eq_true (by have := hl2.lt; omega)
  have hL1 := fun W => look_by_miss (m := m1) hx W
  have hL2 := fun W => look_at_hit (m := m2) hg W
  have hN := fun W (hh : Holds Value.string encSub (mapAt W m1) (F.map fun x => (x.f0, x))) ty => len_by W hh ty
  simp only [List.length_map] at hN
  have hC := record_Check_f x.f0 x.f1 x.f2 x.f3 x.f4
  rw [if_pos hok] at hC
  have HC := Aside0.mk hC
  have H1M := Aside0.mk (show ∀ W, Holds Value.string encSub (mapAt W m1) (F.map fun x => (x.f0, x)) → MapOf Value.string encSub W m1 (F.map fun x => (x.f0, x)) from fun W hh => holds_iff.1 hh)
  have H2M := Aside0.mk (show ∀ W, Holds (Value.int .u32) encName (mapAt W m2) l2 → MapOf (Value.int .u32) encName W m2 l2 from fun W hh => holds_iff.1 hh)
  have hne := h.ne
  have hne' := h.ne.symm
  have HX := Aside0.mk hx
  have HF := Aside0.mk h
  have HAT := Aside0.mk hat
  clear h hx hC hok hat hg hza hzn hz hzt
  unfold encSub
  go_enter Try.func51, Try.ntmps51
  go_wp2
  go_region
  go_wp2
  go_region
  go_wp2_with (go_at_call 55; refine (record_Check.calls _ _ _ _ _ _ _ HC.out).mono ?_; rintro e w' ⟨rfl, hb⟩; obtain ⟨os, d, rfl⟩ := below_more hb; clear hb)
  go_ret
  exact ⟨rfl, by repeat (with_reducible first | exact Below.refl _ _ | apply below_drewN' | apply Below.drew | refine below_of_more ?_ (by simp <;> omega) _ _ | refine Below.alloc ?_ (by simp <;> omega) _ | refine Below.setCell ?_ (Nat.le_refl _) _ | refine Below.setCell ?_ (by simp <;> omega) _)⟩

end Go.Proofs.Ytmhlebnomagekaa
