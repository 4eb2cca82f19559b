/- Bytes as lists of numbers: a text with its length ahead, four bytes of a number, and what reads them back. -/
import Derived.Test.YtmhlebnomagekaaRecX
import Derived.Test.YtmhlebnomagekaaRefRec
set_option linter.unusedVariables false
set_option linter.unusedSimpArgs false
namespace Go.Proofs.Ytmhlebnomagekaa
open Go.RowKit Go.Proofs.YtmhlebnomagekaaW.PrintWords Go.Proofs.Ytmhlebnomagekaa.PA

theorem bo_back (s : ByteArray) : strOfNums (bytesOf s) = s := by
  apply ByteArray.ext; apply Array.toList_inj.1; simp only [strOfNums, bytesOf, List.map_map]
  conv => rhs; rw [← List.map_id s.data.toList]
  apply List.map_congr_left
  intro x _
  simp
theorem bo_inj {s t : ByteArray} (h : bytesOf s = bytesOf t) : s = t := by rw [← bo_back s, ← bo_back t, h]
theorem bo_str {l : List Int} (h : ∀ x ∈ l, 0 ≤ x ∧ x < 256) : bytesOf (strOfNums l) = l := by
  unfold strOfNums bytesOf
  simp only [List.map_map]
  conv => rhs; rw [← List.map_id l]
  apply List.map_congr_left
  intro x hx
  have := h x hx
  simp only [Function.comp, id, UInt8.toNat_ofNat']
  omega
theorem bo_append (s t : ByteArray) : bytesOf (s ++ t) = bytesOf s ++ bytesOf t := by
  simp [bytesOf, ByteArray.data_append]
theorem bo_range {s : ByteArray} {x : Int} (h : x ∈ bytesOf s) : 0 ≤ x ∧ x < 256 := by
  unfold bytesOf at h
  obtain ⟨b, -, rfl⟩ := List.mem_map.1 h
  have := b.toNat_lt
  omega
theorem bo_empty : bytesOf ⟨#[]⟩ = [] := rfl
theorem bo_text8 {s : ByteArray} (h : s.size ≤ 255) : bytesOf (text8 s) = (s.size : Int) :: bytesOf s := by
  unfold text8
  rw [bo_append, bo_str (by intro x hx; simp at hx; subst hx; omega)]
  rfl
theorem bo_size {s : ByteArray} {l : List Int} (h : bytesOf s = l) : s.size = l.length := by rw [← h, bytesOf_length]
theorem bo_bt {s : ByteArray} {l : List Int} (h : bytesOf s = l) (i : Nat) : bt s i = rd l i := by rw [← rd_bytesOf, h]
theorem read8_text8 {a : ByteArray} (rest : ByteArray) (h : a.size ≤ 255) : read8 (text8 a ++ rest) = (a, rest, 0) := by
  have hl : bytesOf (text8 a ++ rest) = (a.size : Int) :: (bytesOf a ++ bytesOf rest) := by rw [bo_append, bo_text8 h]; rfl
  have h0 : bt (text8 a ++ rest) 0 = a.size := (bo_bt hl 0).trans (by simp [rd])
  have hs := bo_size hl
  simp only [List.length_cons, List.length_append, bytesOf_length] at hs
  unfold read8
  rw [h0, if_neg (by omega)]
  congr 1
  · apply bo_inj
    rw [bytesOf_extract, hl]
    simp [bytesOf_length]
  congr 1
  · apply bo_inj
    rw [bytesOf_extract, hl, hs]
    simp only [Int.toNat_natCast]
    rw [show 1 + a.size = a.size + 1 by omega, List.drop_succ_cons, show a.size = (bytesOf a).length by rw [bytesOf_length], List.drop_left]
    rw [List.take_of_length_le (by rw [bytesOf_length]; omega)]
theorem read8_split {s a r : ByteArray} (h : read8 s = (a, r, 0)) : s = text8 a ++ r ∧ a.size ≤ 255 := by
  unfold read8 at h
  split at h
  · simp at h
  rename_i hn
  simp only [Prod.mk.injEq, and_true] at h
  obtain ⟨rfl, rfl⟩ := h
  have hpos : 0 < s.size := by
    rcases Nat.eq_zero_or_pos s.size with h | h
    · exfalso; apply hn; rw [h, eq_empty h]; decide
    · exact h
  obtain ⟨x, l, hl⟩ : ∃ x l, bytesOf s = x :: l := by
    cases hb : bytesOf s with
    | nil => have := bo_size hb; simp only [List.length_nil] at this; omega
    | cons x l => exact ⟨x, l, rfl⟩
  have hx : bt s 0 = x := (bo_bt hl 0).trans (by simp [rd])
  have hr := bo_range (s := s) (x := x) (by rw [hl]; simp)
  have hs := bo_size hl
  simp only [List.length_cons] at hs
  rw [hx] at hn ⊢
  have hz : (s.extract 1 (1 + x.toNat)).size = x.toNat := by simp; omega
  refine ⟨bo_inj ?_, by rw [hz]; omega⟩
  rw [bo_append, bo_text8 (by rw [hz]; omega), hz, bytesOf_extract, bytesOf_extract, hl, hs]
  have e : ((x.toNat : Nat) : Int) = x := by omega
  rw [e, show 1 + x.toNat - 1 = x.toNat by omega, List.drop_succ_cons, List.drop_zero, show 1 + x.toNat = x.toNat + 1 by omega, List.drop_succ_cons, List.cons_append]
  rw [List.take_of_length_le (l := l.drop x.toNat) (by rw [List.length_drop]; omega), List.take_append_drop]
theorem be32_range {n : Int} (h0 : 0 ≤ n) (h1 : n < 4294967296) : ∀ x ∈ be32 n, 0 ≤ x ∧ x < 256 := by
  intro x hx
  simp only [be32, List.mem_cons, List.not_mem_nil, or_false] at hx
  rcases hx with rfl | rfl | rfl | rfl <;> omega
theorem val32_be32 {n : Int} (t : ByteArray) (h0 : 0 ≤ n) (h1 : n < 4294967296) : val32 (strOfNums (be32 n) ++ t) = n := by
  have hl : bytesOf (strOfNums (be32 n) ++ t) = be32 n ++ bytesOf t := by rw [bo_append, bo_str (be32_range h0 h1)]
  unfold val32
  have e0 := (bo_bt hl 0).trans (show _ = n / 16777216 by simp [rd, be32])
  have e1 := (bo_bt hl 1).trans (show _ = n / 65536 % 256 by simp [rd, be32])
  have e2 := (bo_bt hl 2).trans (show _ = n / 256 % 256 by simp [rd, be32])
  have e3 := (bo_bt hl 3).trans (show _ = n % 256 by simp [rd, be32])
  have f0 : bt (strOfNums (be32 n) ++ t) 0 = n / 16777216 := e0
  have f1 : bt (strOfNums (be32 n) ++ t) 1 = n / 65536 % 256 := e1
  have f2 : bt (strOfNums (be32 n) ++ t) 2 = n / 256 % 256 := e2
  have f3 : bt (strOfNums (be32 n) ++ t) 3 = n % 256 := e3
  rw [f0, f1, f2, f3]
  omega
theorem beN_four {n : Int} (h0 : 0 ≤ n) (h1 : n < 4294967296) : beN n 4 = be32 n := by
  simp only [beN, be32, List.nil_append, List.cons_append, List.cons.injEq, and_true]
  refine ⟨?_, ?_⟩ <;> omega
theorem five {r : ByteArray} (h : r.size = 5) : r = strOfNums (be32 (val32 r)) ++ strOfNums [bt r 4] := by
  obtain ⟨a, b, c, d, e, hl⟩ : ∃ a b c d e, bytesOf r = [a, b, c, d, e] := by
    have := bytesOf_length r
    rw [h] at this
    match hb : bytesOf r, this with
    | [a, b, c, d, e], _ => exact ⟨a, b, c, d, e, rfl⟩
  have ra := bo_range (s := r) (x := a) (by rw [hl]; simp)
  have rb := bo_range (s := r) (x := b) (by rw [hl]; simp)
  have rc := bo_range (s := r) (x := c) (by rw [hl]; simp)
  have rd' := bo_range (s := r) (x := d) (by rw [hl]; simp)
  have re := bo_range (s := r) (x := e) (by rw [hl]; simp)
  have e0 := bo_bt hl 0; have e1 := bo_bt hl 1; have e2 := bo_bt hl 2; have e3 := bo_bt hl 3; have e4 := bo_bt hl 4
  simp [rd] at e0 e1 e2 e3 e4
  have hv := val32_range r
  apply bo_inj
  rw [bo_append, bo_str (be32_range hv.1 hv.2), e4, bo_str (by intro x hx; simp at hx; subst hx; exact re), hl]
  unfold val32
  rw [e0, e1, e2, e3]
  simp only [be32, List.cons_append, List.nil_append, List.cons.injEq, and_true]
  refine ⟨?_, ?_, ?_, ?_⟩ <;> omega
end Go.Proofs.Ytmhlebnomagekaa
