/- The contracts of record.File over this seat's translation, by hand: a file is a list of subscribers. -/
import Derived.Test.YtmhlebnomagekaaMap
import Derived.Test.YtmhlebnomagekaaRecordB
import Derived.Test.YtmhlebnomagekaaPAx0
set_option linter.unusedVariables false
set_option linter.unusedSimpArgs false
namespace Go.Proofs.Ytmhlebnomagekaa
open Go.RowKit Go.Proofs.YtmhlebnomagekaaW.PrintWords Go.Proofs.Ytmhlebnomagekaa.PA
attribute [local go_sem] alloc_drewN setCell_drewN size_more cell_more frozen_more setCell_more drewN_more drew_more more_drewN more_drew more_more setMap_cell setMap_frozen setMap_setCell setMap_drewN setMap_size

def encSub (x : S24) : Value := .agg #[.string x.f0, .string x.f1, .string x.f2, .int .u32 x.f3, .bool x.f4]
def encName (s : ByteArray) : Value := .agg #[.string s]

/-- block b of w is a file of at most 'most', by the maps m1 (by names) and m2 (by addresses), that has the subscribers F -/
structure FileAt (w : World) (b m1 m2 : Nat) (most : Int) (F : List S24) : Prop where
  cells : w.heap[b]? = some (.cells #[.map (some m1), .map (some m2), .int .i64 most] 190 (0, 0))
  ne : m1 ≠ m2
  by_ : MapOf Value.string encSub w m1 (F.map fun x => (x.f0, x))
  at_ : ∃ l2, MapOf (Value.int .u32) encName w m2 l2 ∧ ∀ a n, kvGet l2 a = some n ↔ ∃ x ∈ F, x.f3 = a ∧ x.f0 = n

set_option maxHeartbeats 1000000 in
set_option maxRecDepth 100000 in
theorem rec_New_bad (n : Int) (w : World) (h : n < 1 ∨ 256 < n) :
    Calls Try.prog 50 #[.int .i64 n] w fun e w' => e = .returned (.tuple #[.pointer none, .int .i64 2]) ∧ w' = w := by
  rcases h with h | h
  · have h1 : decide (n < 1) = true := decide_eq_true h
    go_enter Try.func50, Try.ntmps50
    go_wp2
    go_ret2
    exact ⟨rfl, rfl⟩
  · have h1 : decide (n < 1) = false := decide_eq_false (by omega)
    have h2 : decide (256 < n) = true := decide_eq_true h
    go_enter Try.func50, Try.ntmps50
    go_wp2
    go_ret2
    exact ⟨rfl, rfl⟩

set_option maxHeartbeats 1000000 in
set_option maxRecDepth 100000 in
theorem rec_New_good (n : Int) (w : World) (h1 : 1 ≤ n) (h2 : n ≤ 256) :
    Calls Try.prog 50 #[.int .i64 n] w fun e w' => e = .returned (.tuple #[.pointer (some ⟨w.heap.size + 2, 0, none⟩), .int .i64 0]) ∧ w' = ((w.alloc (.map #[] 0)).alloc (.map #[] 0)).alloc (.cells #[.map (some w.heap.size), .map (some (w.heap.size + 1)), .int .i64 n] 190) := by
  have hmm := @run_makeMap Try.prog
  have c1 : decide (n < 1) = false := decide_eq_false (by omega)
  have c2 : decide (256 < n) = false := decide_eq_false (by omega)
  go_enter Try.func50, Try.ntmps50
  go_wp2
  go_ret2
  exact ⟨rfl, rfl⟩
theorem FileAt.new (w : World) (n : Int) : FileAt (((w.alloc (.map #[] 0)).alloc (.map #[] 0)).alloc (.cells #[.map (some w.heap.size), .map (some (w.heap.size + 1)), .int .i64 n] 190)) (w.heap.size + 2) w.heap.size (w.heap.size + 1) n [] where
  cells := heap_new (by simp)
  ne := by omega
  by_ := ((MapOf.made w).alloc _).alloc _
  at_ := ⟨[], (by have := MapOf.made (ek := Value.int .u32) (ev := encName) (w.alloc (.map #[] 0)); simp at this; exact this.alloc _), by intro a n; simp [kvGet]⟩

theorem string_law : PlainKey Try.prog 9 ByteArray Value.string := string_key Try.underlying9
theorem u32_law : PlainKey Try.prog 22 Int (Value.int .u32) := int_key Try.underlying22
def zeroSub : Value := .agg #[.string ⟨#[]⟩, .string ⟨#[]⟩, .string ⟨#[]⟩, .int .u32 0, .bool false]
theorem zero_sub (w : World) : (zeroValue 24).run Try.prog w = .ok zeroSub w := by kernel_rfl
theorem zero_name (w : World) : (zeroValue 192).run Try.prog w = .ok (encName ⟨#[]⟩) w := by kernel_rfl

theorem FileAt.cell0 {w : World} {b m1 m2 : Nat} {most : Int} {F : List S24} (h : FileAt w b m1 m2 most F) : w.cell? ⟨b, 0, none⟩ = some (.map (some m1)) := by rw [Lib.cell_of_heap h.cells]; rfl
theorem FileAt.cell1 {w : World} {b m1 m2 : Nat} {most : Int} {F : List S24} (h : FileAt w b m1 m2 most F) : w.cell? ⟨b, 1, none⟩ = some (.map (some m2)) := by rw [Lib.cell_of_heap h.cells]; rfl
theorem FileAt.cell2 {w : World} {b m1 m2 : Nat} {most : Int} {F : List S24} (h : FileAt w b m1 m2 most F) : w.cell? ⟨b, 2, none⟩ = some (.int .i64 most) := by rw [Lib.cell_of_heap h.cells]; rfl
theorem FileAt.lt {w : World} {b m1 m2 : Nat} {most : Int} {F : List S24} (h : FileAt w b m1 m2 most F) : b < w.heap.size := (Array.getElem?_eq_some_iff.1 h.cells).1
theorem field_name (s : ByteArray) (w : World) : (Instr.field 192 (.agg #[.string s]) 0).run Try.prog w = .ok (.string s) w := by kernel_rfl
def getSub (F : List S24) (n : ByteArray) : Option S24 := kvGet (F.map fun x => (x.f0, x)) n

set_option maxHeartbeats 1000000 in
set_option maxRecDepth 100000 in
theorem file_Of_hit (b m1 m2 : Nat) (most : Int) (F : List S24) (n : ByteArray) (x : S24) (w : World) (h : FileAt w b m1 m2 most F) (hx : getSub F n = some x) :
    Calls Try.prog 96 #[.pointer (some ⟨b, 0, none⟩), .string n] w fun e w' => e = .returned (.tuple #[encSub x, .bool true]) ∧ Below w.heap.size w w' := by
  have c0 := h.cell0
  have lt_b_0 : (b < w.heap.size) = True := eq_true (by have := h.lt; omega); have lt_b_1 : (b < w.heap.size + 1) = True := eq_true (by have := h.lt; omega); have lt_b_2 : (b < w.heap.size + 2) = True := eq_true (by have := h.lt; omega); have lt_b_3 : (b < w.heap.size + 3) = True := eq_true (by have := h.lt; omega); have lt_b_4 : (b < w.heap.size + 4) = True := eq_true (by have := h.lt; omega); have lt_b_5 : (b < w.heap.size + 5) = True := eq_true (by have := h.lt; omega); have lt_b_6 : (b < w.heap.size + 6) = True := eq_true (by have := h.lt; omega)
  have HF := Aside0.mk h
  have HX := Aside0.mk hx
  clear h hx
  go_enter Try.func96, Try.ntmps96
  go_wp2_with (at_lookup; refine wpList_kv_hit2 string_law Try.underlying185 rfl _ _ rfl rfl (HF.out.by_.alloc _) zeroSub (zero_sub _) n rfl x HX.out ?_; unfold encSub)
  exact bodyPost_ret (v := .tuple #[.agg #[.string x.f0, .string x.f1, .string x.f2, .int .u32 x.f3, .bool x.f4], .bool true]) (by simp [results, Try.results96, go_sem]) rfl ⟨rfl, by repeat (with_reducible first | exact Below.refl _ _ | apply below_drewN' | apply Below.drew | refine below_of_more ?_ (by simp <;> omega) _ _ | refine Below.alloc ?_ (by simp <;> omega) _ | refine Below.setCell ?_ (Nat.le_refl _) _ | refine Below.setCell ?_ (by simp <;> omega) _)⟩

set_option maxHeartbeats 1000000 in
set_option maxRecDepth 100000 in
theorem file_Of_miss (b m1 m2 : Nat) (most : Int) (F : List S24) (n : ByteArray) (w : World) (h : FileAt w b m1 m2 most F) (hx : getSub F n = none) :
    Calls Try.prog 96 #[.pointer (some ⟨b, 0, none⟩), .string n] w fun e w' => e = .returned (.tuple #[zeroSub, .bool false]) ∧ Below w.heap.size w w' := by
  have c0 := h.cell0
  have lt_b_0 : (b < w.heap.size) = True := eq_true (by have := h.lt; omega); have lt_b_1 : (b < w.heap.size + 1) = True := eq_true (by have := h.lt; omega); have lt_b_2 : (b < w.heap.size + 2) = True := eq_true (by have := h.lt; omega); have lt_b_3 : (b < w.heap.size + 3) = True := eq_true (by have := h.lt; omega); have lt_b_4 : (b < w.heap.size + 4) = True := eq_true (by have := h.lt; omega); have lt_b_5 : (b < w.heap.size + 5) = True := eq_true (by have := h.lt; omega); have lt_b_6 : (b < w.heap.size + 6) = True := eq_true (by have := h.lt; omega)
  have HF := Aside0.mk h
  have HX := Aside0.mk hx
  clear h hx
  go_enter Try.func96, Try.ntmps96
  go_wp2_with (at_lookup; refine wpList_kv_miss2 string_law Try.underlying185 rfl _ _ rfl rfl (HF.out.by_.alloc _) zeroSub (zero_sub _) n rfl HX.out ?_; unfold zeroSub)
  exact bodyPost_ret (v := .tuple #[.agg #[.string ⟨#[]⟩, .string ⟨#[]⟩, .string ⟨#[]⟩, .int .u32 0, .bool false], .bool false]) (by simp [results, Try.results96, go_sem]) rfl ⟨rfl, by repeat (with_reducible first | exact Below.refl _ _ | apply below_drewN' | apply Below.drew | refine below_of_more ?_ (by simp <;> omega) _ _ | refine Below.alloc ?_ (by simp <;> omega) _ | refine Below.setCell ?_ (Nat.le_refl _) _ | refine Below.setCell ?_ (by simp <;> omega) _)⟩

/-- the subscriber of an address -/
def atSub (F : List S24) (a : Int) : Option S24 := F.find? (fun x => x.f3 == a)
theorem getSub_mem {F : List S24} {n : ByteArray} {x : S24} (h : getSub F n = some x) : x ∈ F ∧ x.f0 = n := by
  have := kvGet_mem h
  simp only [List.mem_map, Prod.mk.injEq] at this
  obtain ⟨y, hy, h1, h2⟩ := this
  subst h2; exact ⟨hy, h1⟩
theorem FileAt.names {w : World} {b m1 m2 : Nat} {most : Int} {F : List S24} (h : FileAt w b m1 m2 most F) : (F.map (·.f0)).Nodup := by
  have := h.by_.2
  simpa [List.map_map, Function.comp_def] using this
theorem getSub_of {F : List S24} (hn : (F.map (·.f0)).Nodup) {x : S24} (hx : x ∈ F) : getSub F x.f0 = some x := by
  refine kvGet_of_mem ?_ ?_
  · simpa [List.map_map, Function.comp_def] using hn
  · exact List.mem_map.2 ⟨x, hx, rfl⟩

set_option maxHeartbeats 1000000 in
set_option maxRecDepth 100000 in
theorem file_At_hit (b m1 m2 : Nat) (most : Int) (F : List S24) (a : Int) (x : S24) (w : World) (h : FileAt w b m1 m2 most F) (hx : x ∈ F) (hxa : x.f3 = a) :
    Calls Try.prog 53 #[.pointer (some ⟨b, 0, none⟩), .int .u32 a] w fun e w' => e = .returned (.tuple #[encSub x, .bool true]) ∧ Below w.heap.size w w' := by
  have c1 := h.cell1
  obtain ⟨l2, hl2, hat⟩ := h.at_
  have hg : kvGet l2 a = some x.f0 := (hat a x.f0).2 ⟨x, hx, hxa, rfl⟩
  have hgs := getSub_of h.names hx
  have hO : ∀ o : Obj, Calls Try.prog 96 #[.pointer (some ⟨b, 0, none⟩), .string x.f0] (w.alloc o) fun e w' => e = .returned (.tuple #[encSub x, .bool true]) ∧ Below (w.alloc o).heap.size (w.alloc o) w' := fun o => file_Of_hit b m1 m2 most F x.f0 x _ ⟨(Below.heap_alloc w o b h.lt).trans h.cells, h.ne, h.by_.alloc _, ⟨l2, hl2.alloc _, hat⟩⟩ hgs
  have lt_b_0 : (b < w.heap.size) = True := eq_true (by have := h.lt; omega); have lt_b_1 : (b < w.heap.size + 1) = True := eq_true (by have := h.lt; omega); have lt_b_2 : (b < w.heap.size + 2) = True := eq_true (by have := h.lt; omega); have lt_b_3 : (b < w.heap.size + 3) = True := eq_true (by have := h.lt; omega); have lt_b_4 : (b < w.heap.size + 4) = True := eq_true (by have := h.lt; omega); have lt_b_5 : (b < w.heap.size + 5) = True := eq_true (by have := h.lt; omega); have lt_b_6 : (b < w.heap.size + 6) = True := eq_true (by have := h.lt; omega)
  have hfn := field_name
  have HL := Aside0.mk hl2
  have HG := Aside0.mk hg
  have HO := Aside0.mk hO
  clear h hx hxa hl2 hat hg hgs hO
  go_enter Try.func53, Try.ntmps53
  go_wp2_with (first | (at_lookup; refine wpList_kv_hit1 u32_law Try.underlying186 rfl _ _ rfl rfl (HL.out.alloc _) (encName ⟨#[]⟩) (zero_name _) a rfl x.f0 HG.out ?_; unfold encName) | (go_at_call 96; refine (HO.out _).mono ?_; rintro e w' ⟨rfl, hb⟩; obtain ⟨os, d, rfl⟩ := below_more hb; clear hb; unfold encSub))
  exact bodyPost_ret (v := .tuple #[.agg #[.string x.f0, .string x.f1, .string x.f2, .int .u32 x.f3, .bool x.f4], .bool true]) (by simp [results, Try.results53, go_sem]) rfl ⟨rfl, by repeat (with_reducible first | exact Below.refl _ _ | apply below_drewN' | apply Below.drew | refine below_of_more ?_ (by simp <;> omega) _ _ | refine Below.alloc ?_ (by simp <;> omega) _ | refine Below.setCell ?_ (Nat.le_refl _) _ | refine Below.setCell ?_ (by simp <;> omega) _)⟩

set_option maxHeartbeats 1000000 in
set_option maxRecDepth 100000 in
theorem file_At_miss (b m1 m2 : Nat) (most : Int) (F : List S24) (a : Int) (w : World) (h : FileAt w b m1 m2 most F) (hx : ∀ x ∈ F, x.f3 ≠ a) (h0 : getSub F ⟨#[]⟩ = none) :
    Calls Try.prog 53 #[.pointer (some ⟨b, 0, none⟩), .int .u32 a] w fun e w' => e = .returned (.tuple #[zeroSub, .bool false]) ∧ Below w.heap.size w w' := by
  have c1 := h.cell1
  obtain ⟨l2, hl2, hat⟩ := h.at_
  have hg : kvGet l2 a = none := by
    cases hk : kvGet l2 a with
    | none => rfl
    | some n => obtain ⟨x, hx1, hx2, _⟩ := (hat a n).1 hk; exact absurd hx2 (hx x hx1)
  have hO : ∀ o : Obj, Calls Try.prog 96 #[.pointer (some ⟨b, 0, none⟩), .string ⟨#[]⟩] (w.alloc o) fun e w' => e = .returned (.tuple #[zeroSub, .bool false]) ∧ Below (w.alloc o).heap.size (w.alloc o) w' := fun o => file_Of_miss b m1 m2 most F ⟨#[]⟩ _ ⟨(Below.heap_alloc w o b h.lt).trans h.cells, h.ne, h.by_.alloc _, ⟨l2, hl2.alloc _, hat⟩⟩ h0
  have lt_b_0 : (b < w.heap.size) = True := eq_true (by have := h.lt; omega); have lt_b_1 : (b < w.heap.size + 1) = True := eq_true (by have := h.lt; omega); have lt_b_2 : (b < w.heap.size + 2) = True := eq_true (by have := h.lt; omega); have lt_b_3 : (b < w.heap.size + 3) = True := eq_true (by have := h.lt; omega); have lt_b_4 : (b < w.heap.size + 4) = True := eq_true (by have := h.lt; omega); have lt_b_5 : (b < w.heap.size + 5) = True := eq_true (by have := h.lt; omega); have lt_b_6 : (b < w.heap.size + 6) = True := eq_true (by have := h.lt; omega)
  have hfn := field_name
  have HL := Aside0.mk hl2
  have HG := Aside0.mk hg
  have HO := Aside0.mk hO
  clear h hx hl2 hat hg h0 hO
  go_enter Try.func53, Try.ntmps53
  go_wp2_with (first | (at_lookup; refine wpList_kv_miss1 u32_law Try.underlying186 rfl _ _ rfl rfl (HL.out.alloc _) (encName ⟨#[]⟩) (zero_name _) a rfl HG.out ?_; unfold encName) | (go_at_call 96; refine (HO.out _).mono ?_; rintro e w' ⟨rfl, hb⟩; obtain ⟨os, d, rfl⟩ := below_more hb; clear hb; unfold zeroSub))
  exact bodyPost_ret (v := .tuple #[.agg #[.string ⟨#[]⟩, .string ⟨#[]⟩, .string ⟨#[]⟩, .int .u32 0, .bool false], .bool false]) (by simp [results, Try.results53, go_sem]) rfl ⟨rfl, by repeat (with_reducible first | exact Below.refl _ _ | apply below_drewN' | apply Below.drew | refine below_of_more ?_ (by simp <;> omega) _ _ | refine Below.alloc ?_ (by simp <;> omega) _ | refine Below.setCell ?_ (Nat.le_refl _) _ | refine Below.setCell ?_ (by simp <;> omega) _)⟩

end Go.Proofs.Ytmhlebnomagekaa
