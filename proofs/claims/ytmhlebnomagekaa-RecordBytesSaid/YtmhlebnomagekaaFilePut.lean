/- The contracts of record.File's Put and Del over this seat's translation, by hand. -/
import Derived.Test.YtmhlebnomagekaaFile
import Derived.BigRegion
import Derived.StillTailTactics
import Derived.Deep.QuietTactic
import Derived.BigQuiet
set_option linter.unusedVariables false
set_option linter.unusedSimpArgs false
namespace Go.Proofs.Ytmhlebnomagekaa
open Go.RowKit Go.Proofs.YtmhlebnomagekaaW.PrintWords Go.Proofs.YtmhlebnomagekaaW.PrintLast Go.Proofs.Ytmhlebnomagekaa.PA
attribute [local go_sem] alloc_drewN setCell_drewN size_more cell_more frozen_more setCell_more drewN_more drew_more more_drewN more_drew more_more setMap_cell setMap_frozen setMap_setCell setMap_drewN setMap_drew setMap_size mapAt_alloc mapAt_drew mapAt_drewN mapAt_more mapAt_setCell mapAt_setMap_ne

/-- the look-ups, with 'ok', as equations -/
theorem look_by_miss {n : ByteArray} {l : List (ByteArray × S24)} (hn : kvGet l n = none) {m : Nat} (W : World) (h : Holds Value.string encSub (mapAt W m) l) :
    (Instr.lookup 185 (.map (some m)) (.string n) true).run Try.prog W = .ok (.tuple #[.agg #[.string ⟨#[]⟩, .string ⟨#[]⟩, .string ⟨#[]⟩, .int .u32 0, .bool false], .bool false]) W := by
  have := run_lookup string_law Try.underlying185 (holds_iff.1 h) (zero_sub W) n true
  rw [hn] at this; exact this
theorem look_by_hit {n : ByteArray} {l : List (ByteArray × S24)} {x : S24} (hn : kvGet l n = some x) {m : Nat} (W : World) (h : Holds Value.string encSub (mapAt W m) l) :
    (Instr.lookup 185 (.map (some m)) (.string n) true).run Try.prog W = .ok (.tuple #[.agg #[.string x.f0, .string x.f1, .string x.f2, .int .u32 x.f3, .bool x.f4], .bool true]) W := by
  have := run_lookup string_law Try.underlying185 (holds_iff.1 h) (zero_sub W) n true
  rw [hn] at this; exact this
theorem look_at_miss {a : Int} {l : List (Int × ByteArray)} (hn : kvGet l a = none) {m : Nat} (W : World) (h : Holds (Value.int .u32) encName (mapAt W m) l) :
    (Instr.lookup 186 (.map (some m)) (.int .u32 a) true).run Try.prog W = .ok (.tuple #[.agg #[.string ⟨#[]⟩], .bool false]) W := by
  have := run_lookup u32_law Try.underlying186 (holds_iff.1 h) (zero_name W) a true
  rw [hn] at this; exact this
theorem look_at_hit {a : Int} {l : List (Int × ByteArray)} {n : ByteArray} (hn : kvGet l a = some n) {m : Nat} (W : World) (h : Holds (Value.int .u32) encName (mapAt W m) l) :
    (Instr.lookup 186 (.map (some m)) (.int .u32 a) true).run Try.prog W = .ok (.tuple #[.agg #[.string n], .bool true]) W := by
  have := run_lookup u32_law Try.underlying186 (holds_iff.1 h) (zero_name W) a true
  rw [hn] at this; exact this
theorem len_by {l : List (ByteArray × S24)} {m : Nat} (W : World) (h : Holds Value.string encSub (mapAt W m) l) (ty : TypeId) :
    (Builtin.len_ #[185] ty #[.map (some m)]).run Try.prog W = .ok (.int .i64 l.length) W := run_len Try.underlying185 (holds_iff.1 h) ty

theorem put_end {e e' : Ending} {S : Nat → Prop} {w w' : World} {A : Prop} (h : e = e') (hF : Frame S w w') (hA : Frame S w w' → A) : e = e' ∧ A ∧ Frame S w w' := ⟨h, hA hF, hF⟩
/-- F with x put -/
def putSub (F : List S24) (x : S24) : List S24 := if (getSub F x.f0).isSome then F.map (fun y => if y.f0 = x.f0 then x else y) else F ++ [x]
theorem putSub_kv (F : List S24) (x : S24) : (putSub F x).map (fun y => (y.f0, y)) = kvPut (F.map fun y => (y.f0, y)) x.f0 x := by
  unfold putSub kvPut getSub
  split
  · rw [List.map_map, List.map_map]
    apply List.map_congr_left
    intro y _
    simp only [Function.comp_def]
    by_cases hy : y.f0 = x.f0
    · simp [hy]
    · simp [hy]
  · simp
theorem FileAt.turned {w w' : World} {b m1 m2 : Nat} {most : Int} {F F' : List S24} (h : FileAt w b m1 m2 most F) (hf : Frame (fun k => k = m1 ∨ k = m2) w w') (h1 : MapOf Value.string encSub w' m1 (F'.map fun x => (x.f0, x)))
    {l2 : List (Int × ByteArray)} (h2 : MapOf (Value.int .u32) encName w' m2 l2) (hat : ∀ a n, kvGet l2 a = some n ↔ ∃ x ∈ F', x.f3 = a ∧ x.f0 = n) : FileAt w' b m1 m2 most F' := by
  have hb1 : b ≠ m1 := by
    rintro rfl
    obtain ⟨⟨es, c, hb, _⟩, _⟩ := h.by_
    rw [h.cells] at hb; cases hb
  have hb2 : b ≠ m2 := by
    rintro rfl
    obtain ⟨l, ⟨⟨es, c, hb, _⟩, _⟩, _⟩ := h.at_
    rw [h.cells] at hb; cases hb
  exact ⟨(hf.block b h.lt (fun e => e.elim hb1 hb2)).trans h.cells, h.ne, h1, l2, h2, hat⟩

set_option maxHeartbeats 1000000 in
set_option maxRecDepth 100000 in
theorem file_Put_new (b m1 m2 : Nat) (most : Int) (F : List S24) (x : S24) (w : World) (h : FileAt w b m1 m2 most F) (hx : getSub F x.f0 = none) (ha : ∀ y ∈ F, y.f3 ≠ x.f3) (hok : okSub x.f0 x.f1 x.f2 x.f3 = true) (hm : (F.length : Int) < most) :
    Calls Try.prog 51 #[.pointer (some ⟨b, 0, none⟩), encSub x] w fun e w' => e = .returned (.int .i64 0) ∧ FileAt w' b m1 m2 most (putSub F x) ∧ Frame (fun k => k = m1 ∨ k = m2) w w' := by
  have c0 := h.cell0
  have c1 := h.cell1
  have c2 := h.cell2
  obtain ⟨l2, hl2, hat⟩ := h.at_
  have hg : kvGet l2 x.f3 = none := by
    cases hk : kvGet l2 x.f3 with
    | none => rfl
    | some n => obtain ⟨y, hx1, hx2, _⟩ := (hat x.f3 n).1 hk; exact absurd hx2 (ha y hx1)
  have lt_b_0 : (b < w.heap.size) = True := eq_true (by have := h.lt; omega); have lt_b_1 : (b < w.heap.size + 1) = True := eq_true (by have := h.lt; omega); have lt_b_2 : (b < w.heap.size + 2) = True := eq_true (by have := h.lt; omega); have lt_b_3 : (b < w.heap.size + 3) = True := eq_true (by have := h.lt; omega); have lt_b_4 : (b < w.heap.size + 4) = True := eq_true (by have := h.lt; omega); have lt_b_5 : (b < w.heap.size + 5) = True := eq_true (by have := h.lt; omega); have lt_b_6 : (b < w.heap.size + 6) = True := eq_true (by have := h.lt; omega)
  have hm1 := holds_iff.2 h.by_
  have hm2 := holds_iff.2 hl2
  have lt_m1_0 : (m1 < w.heap.size) = True := eq_true (by have := h.by_.lt; omega); have lt_m1_1 : (m1 < w.heap.size + 1) = True := eq_true (by have := h.by_.lt; omega); have lt_m1_2 : (m1 < w.heap.size + 2) = True := eq_true (by have := h.by_.lt; omega); have lt_m1_3 : (m1 < w.heap.size + 3) = True := eq_true (by have := h.by_.lt; omega); have lt_m1_4 : (m1 < w.heap.size + 4) = True := eq_true (by have := h.by_.lt; omega); have lt_m1_5 : (m1 < w.heap.size + 5) = True := eq_true (by have := h.by_.lt; omega); have lt_m1_6 : (m1 < w.heap.size + 6) = True := eq_true (by have := h.by_.lt; omega)
  have lt_m2_0 : (m2 < w.heap.size) = True := eq_true (by have := hl2.lt; omega); have lt_m2_1 : (m2 < w.heap.size + 1) = True := eq_true (by have := hl2.lt; omega); have lt_m2_2 : (m2 < w.heap.size + 2) = True := eq_true (by have := hl2.lt; omega); have lt_m2_3 : (m2 < w.heap.size + 3) = True := eq_true (by have := hl2.lt; omega); have lt_m2_4 : (m2 < w.heap.size + 4) = True := eq_true (by have := hl2.lt; omega); have lt_m2_5 : (m2 < w.heap.size + 5) = True := eq_true (by have := hl2.lt; omega); have lt_m2_6 : (m2 < w.heap.size + 6) = True := eq_true (by have := hl2.lt; omega)
  have hL1 := fun W => look_by_miss (m := m1) hx W
  have hL2 := fun W => look_at_miss (m := m2) hg W
  have hN := fun W (hh : Holds Value.string encSub (mapAt W m1) (F.map fun x => (x.f0, x))) ty => len_by W hh ty
  simp only [List.length_map] at hN
  have hmz : decide (most ≤ (F.length : Int)) = false := decide_eq_false (by omega)
  have hC := record_Check_f x.f0 x.f1 x.f2 x.f3 x.f4
  rw [if_pos hok] at hC
  have HC := Aside0.mk hC
  have H1M := Aside0.mk (show ∀ W, Holds Value.string encSub (mapAt W m1) (F.map fun x => (x.f0, x)) → MapOf Value.string encSub W m1 (F.map fun x => (x.f0, x)) from fun W hh => holds_iff.1 hh)
  have H2M := Aside0.mk (show ∀ W, Holds (Value.int .u32) encName (mapAt W m2) l2 → MapOf (Value.int .u32) encName W m2 l2 from fun W hh => holds_iff.1 hh)
  have hne := h.ne
  have hne' := h.ne.symm
  have HX := Aside0.mk hx
  have HA := Aside0.mk ha
  have HF := Aside0.mk h
  have HM := Aside0.mk hm
  have HAT := Aside0.mk hat
  have HG := Aside0.mk hg
  clear h hx ha hC hok hm hat hg
  unfold encSub
  go_enter Try.func51, Try.ntmps51
  go_wp2
  go_region
  go_wp2
  go_region
  go_wp2_with (go_at_call 55; refine (record_Check.calls _ _ _ _ _ _ _ HC.out).mono ?_; rintro e w' ⟨rfl, hb⟩; obtain ⟨os, d, rfl⟩ := below_more hb; clear hb)
  go_region
  go_wp2
  refine start_same (n := 24) #[false, false, false, false, false, false, false, false, false, false, false, false, false, false, false, false, false, false, false, false, false, false, false, false] (by kernel_rfl) rfl rfl (fun hHeld => ?_)
  refine pure_ (i := 0) (N := some 70) (v := ?_) (a' := ?_) #[true, false, false, false, false, false, false, false, false, false, false, false, false, false, false, false, false, false, false, false, false, false, false, false] rfl rfl (by kernel_rfl) (fun _ _ _ h => h) (Or.inl ⟨by rfl, ?_⟩) ?_ ?_
  rotate_left
  · intro w'
    go_simp
    with_reducible rfl
  rotate_left
  · simp only [Act.put, List.setIfInBounds_toArray, List.set_cons_zero, List.set_cons_succ, i64_w, i32_w]
    rfl
  refine pure_ (i := 1) (N := some 71) (v := ?_) (a' := ?_) #[true, true, false, false, false, false, false, false, false, false, false, false, false, false, false, false, false, false, false, false, false, false, false, false] rfl rfl (by kernel_rfl) (fun _ _ _ h => h) (Or.inl ⟨by rfl, ?_⟩) ?_ ?_
  rotate_left
  · intro w'
    go_simp
    with_reducible rfl
  rotate_left
  · simp only [Act.put, List.setIfInBounds_toArray, List.set_cons_zero, List.set_cons_succ, i64_w, i32_w]
    rfl
  refine pure_ (i := 2) (N := some 72) (v := ?_) (a' := ?_) #[true, true, true, false, false, false, false, false, false, false, false, false, false, false, false, false, false, false, false, false, false, false, false, false] rfl rfl (by kernel_rfl) (fun _ _ _ h => h) (Or.inl ⟨by rfl, ?_⟩) ?_ ?_
  rotate_left
  · intro w'
    go_simp
    with_reducible rfl
  rotate_left
  · simp only [Act.put, List.setIfInBounds_toArray, List.set_cons_zero, List.set_cons_succ, i64_w, i32_w]
    rfl
  refine pure_ (i := 3) (N := some 73) (v := ?_) (a' := ?_) #[true, true, true, true, false, false, false, false, false, false, false, false, false, false, false, false, false, false, false, false, false, false, false, false] rfl rfl (by kernel_rfl) (fun _ _ _ h => h) (Or.inl ⟨by rfl, ?_⟩) ?_ ?_
  rotate_left
  · intro w'
    go_simp
    with_reducible rfl
  rotate_left
  · simp only [Act.put, List.setIfInBounds_toArray, List.set_cons_zero, List.set_cons_succ, i64_w, i32_w]
    rfl
  refine take_ (i := 4) (N := some 74) (v := ?_) (a' := ?_) #[true, true, true, true, true, false, false, false, false, false, false, false, false, false, false, false, false, false, false, false, false, false, false, false] rfl rfl (by kernel_rfl) (fun _ _ _ h => h) (Or.inl ⟨by rfl, ?_⟩) hHeld ?_ ?_
  rotate_left
  · intro w' hS
    go_simp
    with_reducible rfl
  rotate_left
  · simp only [Act.put, List.setIfInBounds_toArray, List.set_cons_zero, List.set_cons_succ, i64_w, i32_w]
    rfl
  refine pure_ (i := 5) (N := some 75) (v := ?_) (a' := ?_) #[true, true, true, true, true, true, false, false, false, false, false, false, false, false, false, false, false, false, false, false, false, false, false, false] rfl rfl (by kernel_rfl) (fun _ _ _ h => h) (Or.inl ⟨by rfl, ?_⟩) ?_ ?_
  rotate_left
  · intro w'
    go_simp
    with_reducible rfl
  rotate_left
  · simp only [Act.put, List.setIfInBounds_toArray, List.set_cons_zero, List.set_cons_succ, i64_w, i32_w]
    rfl
  refine take_ (i := 6) (N := some 76) (v := ?_) (a' := ?_) #[true, true, true, true, true, true, true, false, false, false, false, false, false, false, false, false, false, false, false, false, false, false, false, false] rfl rfl (by kernel_rfl) (fun _ _ _ h => h) (Or.inl ⟨by rfl, ?_⟩) hHeld ?_ ?_
  rotate_left
  · intro w' hS
    go_simp
    with_reducible rfl
  rotate_left
  · simp only [Act.put, List.setIfInBounds_toArray, List.set_cons_zero, List.set_cons_succ, i64_w, i32_w]
    rfl
  refine pure_ (i := 7) (N := some 77) (v := ?_) (a' := ?_) #[true, true, true, true, true, true, true, true, false, false, false, false, false, false, false, false, false, false, false, false, false, false, false, false] rfl rfl (by kernel_rfl) (fun _ _ _ h => h) (Or.inl ⟨by rfl, ?_⟩) ?_ ?_
  rotate_left
  · intro w'
    go_simp
    with_reducible rfl
  rotate_left
  · simp only [Act.put, List.setIfInBounds_toArray, List.set_cons_zero, List.set_cons_succ, i64_w, i32_w]
    rfl
  refine pure_ (i := 8) (N := some 78) (v := ?_) (a' := ?_) #[true, true, true, true, true, true, true, true, true, false, false, false, false, false, false, false, false, false, false, false, false, false, false, false] rfl rfl (by kernel_rfl) (fun _ _ _ h => h) (Or.inl ⟨by rfl, ?_⟩) ?_ ?_
  rotate_left
  · intro w'
    go_simp
    with_reducible rfl
  rotate_left
  · simp only [Act.put, List.setIfInBounds_toArray, List.set_cons_zero, List.set_cons_succ, i64_w, i32_w]
    rfl
  refine pure_ (i := 9) (N := some 79) (v := ?_) (a' := ?_) #[true, true, true, true, true, true, true, true, true, true, false, false, false, false, false, false, false, false, false, false, false, false, false, false] rfl rfl (by kernel_rfl) (fun _ _ _ h => h) (Or.inl ⟨by rfl, ?_⟩) ?_ ?_
  rotate_left
  · intro w'
    go_simp
    with_reducible rfl
  rotate_left
  · simp only [Act.put, List.setIfInBounds_toArray, List.set_cons_zero, List.set_cons_succ, i64_w, i32_w]
    rfl
  refine pure_ (i := 10) (N := some 80) (v := ?_) (a' := ?_) #[true, true, true, true, true, true, true, true, true, true, true, false, false, false, false, false, false, false, false, false, false, false, false, false] rfl rfl (by kernel_rfl) (fun _ _ _ h => h) (Or.inl ⟨by rfl, ?_⟩) ?_ ?_
  rotate_left
  · intro w'
    go_simp
    with_reducible rfl
  rotate_left
  · simp only [Act.put, List.setIfInBounds_toArray, List.set_cons_zero, List.set_cons_succ, i64_w, i32_w]
    rfl
  refine take_ (i := 11) (N := some 81) (v := ?_) (a' := ?_) #[true, true, true, true, true, true, true, true, true, true, true, true, false, false, false, false, false, false, false, false, false, false, false, false] rfl rfl (by kernel_rfl) (fun _ _ _ h => h) (Or.inl ⟨by rfl, ?_⟩) hHeld ?_ ?_
  rotate_left
  · intro w' hS
    go_simp
    with_reducible rfl
  rotate_left
  · simp only [Act.put, List.setIfInBounds_toArray, List.set_cons_zero, List.set_cons_succ, i64_w, i32_w]
    rfl
  refine pure_ (i := 12) (N := some 82) (v := ?_) (a' := ?_) #[true, true, true, true, true, true, true, true, true, true, true, true, true, false, false, false, false, false, false, false, false, false, false, false] rfl rfl (by kernel_rfl) (fun _ _ _ h => h) (Or.inl ⟨by rfl, ?_⟩) ?_ ?_
  rotate_left
  · intro w'
    go_simp
    with_reducible rfl
  rotate_left
  · simp only [Act.put, List.setIfInBounds_toArray, List.set_cons_zero, List.set_cons_succ, i64_w, i32_w]
    rfl
  refine take_ (i := 13) (N := some 83) (v := ?_) (a' := ?_) #[true, true, true, true, true, true, true, true, true, true, true, true, true, true, false, false, false, false, false, false, false, false, false, false] rfl rfl (by kernel_rfl) (fun _ _ _ h => h) (Or.inl ⟨by rfl, ?_⟩) hHeld ?_ ?_
  rotate_left
  · intro w' hS
    go_simp
    with_reducible rfl
  rotate_left
  · simp only [Act.put, List.setIfInBounds_toArray, List.set_cons_zero, List.set_cons_succ, i64_w, i32_w]
    rfl
  refine take_ (i := 14) (N := some 84) (v := ?_) (a' := ?_) #[true, true, true, true, true, true, true, true, true, true, true, true, true, true, true, false, false, false, false, false, false, false, false, false] rfl rfl (by kernel_rfl) (fun _ _ _ h => h) (Or.inl ⟨by rfl, ?_⟩) hHeld ?_ ?_
  rotate_left
  · intro w' hS
    go_simp
    with_reducible rfl
  rotate_left
  · simp only [Act.put, List.setIfInBounds_toArray, List.set_cons_zero, List.set_cons_succ, i64_w, i32_w]
    rfl
  refine pure_ (i := 15) (N := some 85) (v := ?_) (a' := ?_) #[true, true, true, true, true, true, true, true, true, true, true, true, true, true, true, true, false, false, false, false, false, false, false, false] rfl rfl (by kernel_rfl) (fun _ _ _ h => h) (Or.inl ⟨by rfl, ?_⟩) ?_ ?_
  rotate_left
  · intro w'
    go_simp
    with_reducible rfl
  rotate_left
  · simp only [Act.put, List.setIfInBounds_toArray, List.set_cons_zero, List.set_cons_succ, i64_w, i32_w]
    rfl
  refine take_ (i := 16) (N := some 86) (v := ?_) (a' := ?_) #[true, true, true, true, true, true, true, true, true, true, true, true, true, true, true, true, true, false, false, false, false, false, false, false] rfl rfl (by kernel_rfl) (fun _ _ _ h => h) (Or.inl ⟨by rfl, ?_⟩) hHeld ?_ ?_
  rotate_left
  · intro w' hS
    go_simp
    with_reducible rfl
  rotate_left
  · simp only [Act.put, List.setIfInBounds_toArray, List.set_cons_zero, List.set_cons_succ, i64_w, i32_w]
    rfl
  refine pure_ (i := 17) (N := some 87) (v := ?_) (a' := ?_) #[true, true, true, true, true, true, true, true, true, true, true, true, true, true, true, true, true, true, false, false, false, false, false, false] rfl rfl (by kernel_rfl) (fun _ _ _ h => h) (Or.inl ⟨by rfl, ?_⟩) ?_ ?_
  rotate_left
  · intro w'
    go_simp
    with_reducible rfl
  rotate_left
  · simp only [Act.put, List.setIfInBounds_toArray, List.set_cons_zero, List.set_cons_succ, i64_w, i32_w]
    rfl
  refine one_ (i := 18) (N := some 88) #[true, true, true, true, true, true, true, true, true, true, true, true, true, true, true, true, true, true, true, false, false, false, false, false] rfl rfl (by kernel_rfl) (by decide) (fun K hK => ?_)
  refine step_entry string_law Try.underlying185 rfl rfl _ _ rfl rfl (H1M.out _ (by go_simp)) zeroSub zero_sub x.f0 rfl (fun es1 ec1 u1 n1 hE1 => ?_)
  refine hK.out _ _ (fun q => by simpa only [setMap_cell] using hHeld q) (fun hHeld => ?_)
  clear hK K
  refine norm_ (a' := ?_) ?_ ?_
  rotate_left
  · show Act.put _ (some 88) _ = _
    simp only [Act.put, List.setIfInBounds_toArray, List.set_cons_zero, List.set_cons_succ, i64_w, i32_w]
    rfl
  refine pure_ (i := 19) (N := some 89) (v := ?_) (a' := ?_) #[true, true, true, true, true, true, true, true, true, true, true, true, true, true, true, true, true, true, true, true, false, false, false, false] rfl rfl (by kernel_rfl) (fun _ _ _ h => h) (Or.inl ⟨by rfl, ?_⟩) ?_ ?_
  rotate_left
  · intro w'
    go_simp
    with_reducible rfl
  rotate_left
  · simp only [Act.put, List.setIfInBounds_toArray, List.set_cons_zero, List.set_cons_succ, i64_w, i32_w]
    rfl
  refine one_ (i := 20) (N := none) #[true, true, true, true, true, true, true, true, true, true, true, true, true, true, true, true, true, true, true, true, true, false, false, false] rfl rfl (by kernel_rfl) (by decide) (fun K hK => ?_)
  refine step_store rfl rfl _ _ _ rfl rfl x.f0 n1 hE1 rfl x rfl (fun es2 ec2 hM1 => ?_); clear hE1
  refine hK.out _ _ (fun q => by simpa only [setMap_cell] using hHeld q) (fun hHeld => ?_)
  clear hK K
  refine norm_ (a' := ?_) ?_ ?_
  rotate_left
  · show Act.put _ none _ = _
    simp only [Act.put, List.setIfInBounds_toArray, List.set_cons_zero, List.set_cons_succ, i64_w, i32_w]
    rfl
  refine one_ (i := 21) (N := some 90) #[true, true, true, true, true, true, true, true, true, true, true, true, true, true, true, true, true, true, true, true, true, true, false, false] rfl rfl (by kernel_rfl) (by decide) (fun K hK => ?_)
  refine step_entry u32_law Try.underlying186 rfl rfl _ _ rfl rfl (H2M.out _ (by go_simp)) (encName ⟨#[]⟩) zero_name x.f3 rfl (fun es3 ec3 u3 n3 hE3 => ?_)
  refine hK.out _ _ (fun q => by simpa only [setMap_cell] using hHeld q) (fun hHeld => ?_)
  clear hK K
  refine norm_ (a' := ?_) ?_ ?_
  rotate_left
  · show Act.put _ (some 90) _ = _
    simp only [Act.put, List.setIfInBounds_toArray, List.set_cons_zero, List.set_cons_succ, i64_w, i32_w]
    rfl
  refine pure_ (i := 22) (N := some 91) (v := ?_) (a' := ?_) #[true, true, true, true, true, true, true, true, true, true, true, true, true, true, true, true, true, true, true, true, true, true, true, false] rfl rfl (by kernel_rfl) (fun _ _ _ h => h) (Or.inl ⟨by rfl, ?_⟩) ?_ ?_
  rotate_left
  · intro w'
    go_simp
    with_reducible rfl
  rotate_left
  · simp only [Act.put, List.setIfInBounds_toArray, List.set_cons_zero, List.set_cons_succ, i64_w, i32_w]
    rfl
  refine one_ (i := 23) (N := none) #[true, true, true, true, true, true, true, true, true, true, true, true, true, true, true, true, true, true, true, true, true, true, true, true] rfl rfl (by kernel_rfl) (by decide) (fun K hK => ?_)
  refine step_store rfl rfl _ _ _ rfl rfl x.f3 n3 hE3 rfl x.f0 rfl (fun es4 ec4 hM2 => ?_); clear hE3
  refine hK.out _ _ (fun q => by simpa only [setMap_cell] using hHeld q) (fun hHeld => ?_)
  clear hK K
  refine norm_ (a' := ?_) ?_ ?_
  rotate_left
  · show Act.put _ none _ = _
    simp only [Act.put, List.setIfInBounds_toArray, List.set_cons_zero, List.set_cons_succ, i64_w, i32_w]
    rfl
  refine done_ (by kernel_rfl) ?_
  go_wp2
  go_ret
  refine put_end rfl (by repeat (with_reducible first | exact Frame.refl _ _ | apply Frame.drew | apply Frame.drewN | apply Frame.more | apply Frame.alloc | refine Frame.setMap ?_ (Or.inl rfl) _ _ | refine Frame.setMap ?_ (Or.inr rfl) _ _ | refine Frame.setNew ?_ (by simp <;> omega) _)) (fun hF => HF.out.turned hF ?_ hM2 ?_)
  · rw [putSub_kv]
    exact (hM1.setMap_ne _ _ hne).setMap_ne _ _ hne
  · intro a n
    rw [kvGet_put]
    have hps : putSub F x = F ++ [x] := by unfold putSub; rw [if_neg (by rw [HX.out]; simp)]
    rw [hps]
    by_cases ha : a = x.f3
    · subst ha
      rw [if_pos rfl]
      constructor
      · intro e; cases e; exact ⟨x, by simp, rfl, rfl⟩
      · rintro ⟨y, hy, h1, h2⟩
        rcases List.mem_append.1 hy with hy | hy
        · exact absurd h1 (HA.out y hy)
        · rw [List.mem_singleton] at hy; subst hy; rw [h2]
    · rw [if_neg ha, HAT.out]
      constructor
      · rintro ⟨y, hy, h⟩; exact ⟨y, by simp [hy], h⟩
      · rintro ⟨y, hy, h1, h2⟩
        rcases List.mem_append.1 hy with hy | hy
        · exact ⟨y, hy, h1, h2⟩
        · rw [List.mem_singleton] at hy; subst hy; exact absurd h1.symm ha
end Go.Proofs.Ytmhlebnomagekaa
