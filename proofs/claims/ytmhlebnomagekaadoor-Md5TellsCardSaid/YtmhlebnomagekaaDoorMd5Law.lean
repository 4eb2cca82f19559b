/- Layer 5's long and all in plain words; parts that are appended. -/
import Derived.Test.YtmhlebnomagekaaDoorMd5All
import Derived.Test.YtmhlebnomagekaaDoorMd5Dig
import Derived.Test.YtmhlebnomagekaaDoorPMx1
set_option linter.unusedVariables false
set_option linter.unusedSimpArgs false
namespace Go.Proofs.YtmhlebnomagekaaDoor
open Go.RowKit Go.Proofs.YtmhlebnomagekaaDoorW.PrintWords Go.Proofs.YtmhlebnomagekaaDoor.PM

theorem joinA_single (x : ByteArray) : joinA [x] = x := by apply ba_ext; simp [joinA]
theorem joinA_two (x y : ByteArray) : joinA [x, y] = x ++ y := by apply ba_ext; simp [joinA, ba_app]
theorem joinA_take_succ (l : List ByteArray) (k : Nat) (x : ByteArray) (h : l[k]? = some x) : joinA (l.take (k + 1)) = joinA (l.take k) ++ x := by
  rw [List.take_add_one, h, ← joinA_snoc]; rfl
theorem rdOf_at (l : List ByteArray) (i : Nat) (h : i < l.length) : l[i]? = some (rdOf ByteArray.empty l i) := by
  rw [List.getElem?_eq_getElem h]; unfold rdOf; rw [Int.toNat_natCast, List.getD_eq_getElem?_getD, List.getElem?_eq_getElem h]; rfl
theorem joinA_take_bound (l : List ByteArray) (hb : ∀ x ∈ l, x.size ≤ 140737488351232) (k : Nat) : (joinA (l.take k)).size ≤ k * 140737488351232 := by
  induction k with
  | zero => exact Nat.zero_le _
  | succ k ih =>
    rcases Nat.lt_or_ge k l.length with h | h
    · have hx := rdOf_at l k h
      rw [joinA_take_succ l k _ hx, ByteArray.size_append]
      have := hb _ (List.mem_of_getElem? hx)
      omega
    · have e1 : l.take (k + 1) = l := List.take_of_length_le (by omega)
      have e2 : l.take k = l := List.take_of_length_le (by omega)
      rw [e1]
      rw [e2] at ih
      exact Nat.le_trans ih (Nat.mul_le_mul_right _ (Nat.le_succ k))

/-- more than a statement digests -/
def longB (l : List ByteArray) : Bool := decide (60 < l.length) || decide (8192 < (joinA (l.take 100)).size)
theorem long_l0 (l : List ByteArray) (hb : ∀ x ∈ l, x.size ≤ 140737488351232) (hl : l.length ≤ 140737488351232) (d : Nat) : ∀ (k i : Nat), i + d = min l.length 100 → d < k →
    halyardlaw05_long.l0 k l ((joinA (l.take i)).size : Nat) i = some (longB l) := by
  induction d with
  | zero =>
    intro k i h hk
    obtain ⟨k, rfl⟩ : ∃ q, k = q + 1 := ⟨k - 1, by omega⟩
    have e : l.take 100 = l.take i := by
      rcases Nat.lt_or_ge l.length 100 with h1 | h1
      · rw [List.take_of_length_le (by omega), List.take_of_length_le (by omega)]
      · rw [show i = 100 by omega]
    have hv : (if (l.length : Int) > 60 then some true else some (decide ((((joinA (l.take i)).size : Nat) : Int) > 8192))) = some (longB l) := by
      unfold longB
      rw [e]
      by_cases h60 : 60 < l.length
      · rw [if_pos (by omega)]; simp [h60]
      · rw [if_neg (by omega)]
        congr 1
        simp [h60]
        omega
    simp only [halyardlaw05_long.l0]
    by_cases h1 : (i : Int) < (l.length : Int)
    · rw [if_pos h1, if_neg (by omega)]; exact hv
    · rw [if_neg h1]; exact hv
  | succ d ih =>
    intro k i h hk
    obtain ⟨k, rfl⟩ : ∃ q, k = q + 1 := ⟨k - 1, by omega⟩
    have hx := rdOf_at l i (by omega)
    have hb1 := hb _ (List.mem_of_getElem? hx)
    have hb2 := joinA_take_bound l hb i
    have e := joinA_take_succ l i _ hx
    simp only [halyardlaw05_long.l0]
    rw [if_pos (by omega), if_pos (by omega), if_pos (by omega), wrap64_of (by omega) (by omega), wrap64_of (by omega) (by omega)]
    have := ih k (i + 1) (by omega) (by omega)
    rw [e, ByteArray.size_append] at this
    simpa using this
theorem long_f (l : List ByteArray) (hb : ∀ x ∈ l, x.size ≤ 140737488351232) (hl : l.length ≤ 140737488351232) : halyardlaw05_long.f 101 l = some (longB l) := by
  have := long_l0 l hb hl (min l.length 100) 101 0 (by omega) (by omega)
  have e : (((joinA (l.take 0)).size : Nat) : Int) = 0 := rfl
  rw [e] at this
  simpa [halyardlaw05_long.f] using this
theorem longB_false {l : List ByteArray} (h : longB l = false) : l.length ≤ 60 ∧ (joinA l).size ≤ 8192 := by
  unfold longB at h
  simp only [Bool.or_eq_false_iff, decide_eq_false_iff_not, Nat.not_lt] at h
  rw [List.take_of_length_le (by omega)] at h
  exact h
theorem all_l0 (l : List ByteArray) (hl : l.length ≤ 1000) (hs : (joinA l).size ≤ 1000000) (d : Nat) : ∀ (k i : Nat), i + d = l.length → d < k → halyardlaw05_all.l0 k l (joinA (l.take i)) i = some (joinA l) := by
  induction d with
  | zero =>
    intro k i h hk
    obtain ⟨k, rfl⟩ : ∃ q, k = q + 1 := ⟨k - 1, by omega⟩
    simp only [halyardlaw05_all.l0]
    rw [if_neg (by omega), List.take_of_length_le (by omega)]
  | succ d ih =>
    intro k i h hk
    obtain ⟨k, rfl⟩ : ∃ q, k = q + 1 := ⟨k - 1, by omega⟩
    have hx := rdOf_at l i (by omega)
    have e := joinA_take_succ l i _ hx
    have hb := joinA_take_le l (i + 1)
    rw [e, ByteArray.size_append] at hb
    simp only [halyardlaw05_all.l0]
    rw [if_pos (by omega), if_pos (by omega), if_pos (by omega), wrap64_of (by omega) (by omega), ← e]
    have := ih k (i + 1) (by omega) (by omega)
    simpa using this
theorem all_f (l : List ByteArray) (hl : l.length ≤ 1000) (hs : (joinA l).size ≤ 1000000) : halyardlaw05_all.f 1001 l = some (joinA l) := by
  have := all_l0 l hl hs l.length 1001 0 (by omega) (by omega)
  simpa [halyardlaw05_all.f, joinA] using this

theorem own_strC {w : World} {B n : Nat} {v : Value} {xs : List ByteArray} (h : w.ownsRow B 9 1 v n (xs.map Value.string)) (hn : n = xs.length) (h0 : 0 < n) : ∃ A cap, v = .slice (some A) xs.length cap ∧ Kd.C Kd.string w (some A) xs.length xs := by
  subst hn
  obtain ⟨q, cap, hcm, rfl⟩ : ∃ q cap, xs.length ≤ maxLen ∧ v = .slice (some ⟨q, 0, none⟩) xs.length cap := by
    rcases h.2 with ⟨hv, hz⟩ | ⟨q, cap, cur, hv, _, _, h1, h2, _⟩
    · omega
    · exact ⟨q, cap, Nat.le_trans h1 h2, hv⟩
  refine ⟨_, cap, rfl, strC w _ xs (by unfold maxLen at hcm; omega) (fun j x hj => ?_)⟩
  have hj' : j < xs.length := (List.getElem?_eq_some_iff.1 hj).1
  have := h.cellAt j (by omega)
  rw [show (⟨q, 0, none⟩ : Addr).add j = ⟨q, j, none⟩ by unfold Addr.add; split <;> simp_all, this]
  simp [hj]
theorem strC_at {w : World} {A0 : Option Addr} {n : Nat} {xs : List ByteArray} (h : Kd.C Kd.string w A0 n xs) {ad : Addr} (hA : A0 = some ad) (h0 : 0 < n) : ∀ j u, (xs.map Value.string)[j]? = some u → w.cell? (ad.add j) = some u := by
  intro j u hj
  obtain ⟨ad', he, hc⟩ := h.2.2 h0
  rw [hA] at he
  injection he with he
  subst he
  rw [List.getElem?_map] at hj
  cases hx : xs[j]? with
  | none => rw [hx] at hj; cases hj
  | some x =>
    rw [hx] at hj
    simp at hj
    subst hj
    obtain ⟨c, _, hr, hcell⟩ := hc j x hx
    have hc2 : c = [.string x] := hr
    subst hc2
    have := hcell 0 (.string x) rfl
    simpa [Kd.string, Kd.scalar] using this
end Go.Proofs.YtmhlebnomagekaaDoor
