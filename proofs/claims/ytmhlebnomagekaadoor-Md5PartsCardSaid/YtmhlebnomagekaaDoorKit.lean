/- Small words of the session's own: draws are moved outward; what the walk is told of tests. -/
import Derived.WalkKit
import Derived.Lib.Strings
import Derived.Deep.Draws
import Derived.Test.YtmhlebnomagekaaDoorWMore
set_option linter.unusedVariables false
set_option linter.unusedSimpArgs false
namespace Go.Proofs.YtmhlebnomagekaaDoor
open Go.RowKit Go.Proofs.YtmhlebnomagekaaDoorW.PrintWords

theorem alloc_drewN (w : World) (n : Nat) (o : Obj) : (w.drewN n).alloc o = (w.alloc o).drewN n := rfl
theorem setCell_drewN (w : World) (n : Nat) (a : Addr) (v : Value) : (w.drewN n).setCell a v = (w.setCell a v).drewN n := rfl
theorem below_drewN' {B : Nat} {a w : World} (h : Below B a w) (n : Nat) : Below B a (w.drewN n) := h.trans ⟨rfl, rfl, rfl, Nat.le_refl _, fun _ _ => rfl⟩

/-- What a walk is told behind a call that only makes memory. -/
theorem bcell {W w1 : World} (hb : Below W.heap.size W w1) : (∀ b o, b < W.heap.size → w1.cell? ⟨b, o, none⟩ = W.cell? ⟨b, o, none⟩) ∧ (∀ b o, b < W.heap.size → w1.frozen? ⟨b, o, none⟩ = W.frozen? ⟨b, o, none⟩) :=
  ⟨fun b o h => hb.cell (p := ⟨b, o, none⟩) h, fun b o h => hb.frozen (p := ⟨b, o, none⟩) h⟩
theorem below_then {B : Nat} {a W w1 : World} (h1 : Below W.heap.size W w1) (h : Below B a W) (hB : B ≤ W.heap.size) : Below B a w1 := h.trans (h1.mono hB)
/-! ### a world with more blocks behind it -/
/-- W with the blocks os behind its own, and d draws made. -/
def more (W : World) (os : Array Obj) (d : Nat) : World := { W with heap := W.heap ++ os, drawn := d }
theorem below_more {W w1 : World} (h : Below W.heap.size W w1) : ∃ os d, w1 = more W os d := by
  refine ⟨w1.heap.extract W.heap.size w1.heap.size, w1.drawn, ?_⟩
  obtain ⟨h1, h2, h3, h4, h5⟩ := h
  rcases w1 with ⟨hp, tp, dr, o, ou⟩
  simp only at *
  unfold more
  subst h1 h2 h3
  congr 1
  apply Array.ext_getElem?
  intro i
  rw [Array.getElem?_append]
  split
  · rename_i hi; exact h5 i hi
  · rename_i hi
    rw [Array.getElem?_extract]
    by_cases hz : i < hp.size
    · rw [if_pos (by omega)]; congr 1; omega
    · rw [if_neg (by omega)]; exact Array.getElem?_eq_none (by omega)
theorem more_below (W : World) (os : Array Obj) (d : Nat) : Below W.heap.size W (more W os d) :=
  ⟨rfl, rfl, rfl, by simp [more], fun k hk => by simp [more, Array.getElem?_append, hk]⟩
theorem size_more (W : World) (os : Array Obj) (d : Nat) : (more W os d).heap.size = W.heap.size + os.size := by simp [more]
theorem cell_more (W : World) (os : Array Obj) (d : Nat) (b o : Nat) (h : b < W.heap.size) : (more W os d).cell? ⟨b, o, none⟩ = W.cell? ⟨b, o, none⟩ := (more_below W os d).cell (p := ⟨b, o, none⟩) h
theorem frozen_more (W : World) (os : Array Obj) (d : Nat) (b o : Nat) (h : b < W.heap.size) : (more W os d).frozen? ⟨b, o, none⟩ = W.frozen? ⟨b, o, none⟩ := (more_below W os d).frozen (p := ⟨b, o, none⟩) h
theorem setCell_more (W : World) (os : Array Obj) (d : Nat) (b o : Nat) (v : Value) (h : b < W.heap.size) : (more W os d).setCell ⟨b, o, none⟩ v = more (W.setCell ⟨b, o, none⟩ v) os d := by
  unfold more World.setCell
  congr 1
  apply Array.ext_getElem?
  intro i
  simp only [Array.getElem?_modify, Array.getElem?_append, Array.size_modify]
  by_cases hi : i < W.heap.size
  · simp [hi]
  · have : b ≠ i := by omega
    simp [hi, this]
theorem drewN_more (W : World) (os : Array Obj) (d n : Nat) : (more W os d).drewN n = more W os (d + n) := rfl
theorem drew_more (W : World) (os : Array Obj) (d : Nat) : (more W os d).drew = more W os (d + 1) := rfl
theorem more_drewN (W : World) (os : Array Obj) (d n : Nat) : more (W.drewN n) os d = more W os d := rfl
theorem more_drew (W : World) (os : Array Obj) (d : Nat) : more W.drew os d = more W os d := rfl
theorem more_more (W : World) (os os' : Array Obj) (d d' : Nat) : more (more W os d) os' d' = more W (os ++ os') d' := by simp [more, Array.append_assoc]
theorem below_of_more {B : Nat} {a W : World} (h : Below B a W) (hB : B ≤ W.heap.size) (os : Array Obj) (d : Nat) : Below B a (more W os d) := h.trans ((more_below W os d).mono hB)
theorem heap_new {w : World} {o : Obj} {n : Nat} (h : n = w.heap.size) : (w.alloc o).heap[n]? = some o := by
  subst h; show (w.heap.push o)[w.heap.size]? = some o; simp
theorem _root_.Go.RowKit.Below.wide {B : Nat} {a W w1 : World} (h1 : Below W.heap.size W w1) (h : Below B a W) (hB : B ≤ W.heap.size) : Below B a w1 := below_then h1 h hB
theorem wrap64_of {n : Int} (h0 : -9223372036854775808 ≤ n) (h1 : n ≤ 9223372036854775807) : wrap64 n = n := by
  unfold wrap64; omega
theorem u64_of {n : Int} (h0 : 0 ≤ n) (h1 : n ≤ 18446744073709551615) : IntKind.u64.wrap n = n := by
  simp [IntKind.wrap, IntKind.bits, IntKind.signed]; omega
theorem u32_of {n : Int} (h0 : 0 ≤ n) (h1 : n ≤ 4294967295) : IntKind.u32.wrap n = n := by
  simp [IntKind.wrap, IntKind.bits, IntKind.signed]; omega
theorem strOfNums_size (l : List Int) : (strOfNums l).size = l.length := by simp [strOfNums, ByteArray.size]
theorem strOfNums_append (a b : List Int) : strOfNums a ++ strOfNums b = strOfNums (a ++ b) := by
  apply ByteArray.ext; simp [strOfNums, ByteArray.data_append]

theorem eq_empty {s : ByteArray} (h0 : s.size = 0) : s = ⟨#[]⟩ := by
  rcases s with ⟨⟨l⟩⟩
  cases l with
  | nil => rfl
  | cons a l => simp [ByteArray.size] at h0
theorem toList_eq_nil {s : ByteArray} : s.toList = [] ↔ s.size = 0 := by
  rw [ByteArray.toList_eq, ← data_length]
  exact ⟨fun h => by rw [h]; rfl, fun h => List.eq_nil_of_length_eq_zero h⟩
theorem bytesOf_extract (s : ByteArray) (a b : Nat) : bytesOf (s.extract a b) = ((bytesOf s).drop a).take (b - a) := by
  unfold bytesOf; rw [Lib.extract_data, List.map_take, List.map_drop]
theorem bt_extract (s : ByteArray) (a b i : Nat) (h : i < b - a) : bt (s.extract a b) i = bt s (a + i : Nat) := by
  rw [← rd_bytesOf, ← rd_bytesOf, bytesOf_extract]
  unfold rd
  simp only [Int.toNat_natCast, List.getD_eq_getElem?_getD]
  rw [List.getElem?_take_of_lt h, List.getElem?_drop]
end Go.Proofs.YtmhlebnomagekaaDoor
