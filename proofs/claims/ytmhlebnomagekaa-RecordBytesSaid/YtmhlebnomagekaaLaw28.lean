/- RecordBytes in plain words: what the two writers and the two readers of a subscriber tell is one and the same, and each undoes the other. -/
import Derived.Test.YtmhlebnomagekaaBytes
import Derived.Test.YtmhlebnomagekaaPAx5
set_option linter.unusedVariables false
set_option linter.unusedSimpArgs false
namespace Go.Proofs.Ytmhlebnomagekaa
open Go.RowKit Go.Proofs.YtmhlebnomagekaaW.PrintWords Go.Proofs.Ytmhlebnomagekaa.PA

/-- the bytes of a subscriber -/
def subB (a b c : ByteArray) (n : Int) (t : Bool) : ByteArray := text8 a ++ (text8 b ++ (text8 c ++ (strOfNums (be32 n) ++ strOfNums [if t then 1 else 0])))
def recB (a b c : ByteArray) (n : Int) (t : Bool) : ByteArray × Int := if okSub a b c n then (subB a b c n t, 0) else (⟨#[]⟩, 2)
theorem ba_assoc (a b c : ByteArray) : a ++ b ++ c = a ++ (b ++ c) := by apply ByteArray.ext; simp [ByteArray.data_append]
theorem one_str : (⟨#[1]⟩ : ByteArray) = strOfNums [1] := rfl
theorem zero_str : (⟨#[0]⟩ : ByteArray) = strOfNums [0] := rfl
theorem empty_app (a : ByteArray) : (⟨#[]⟩ : ByteArray) ++ a = a := by apply ByteArray.ext; simp [ByteArray.data_append]
theorem ba_size (a b : ByteArray) : (a ++ b).size = a.size + b.size := ByteArray.size_append
theorem join3 {a b c : ByteArray} (h1 : a.size ≤ 255) (h2 : b.size ≤ 255) (h3 : c.size ≤ 255) : join8 [a, b, c] = (text8 a ++ (text8 b ++ text8 c), 0) := by
  unfold join8
  rw [if_pos (by intro s hs; simp at hs; rcases hs with rfl | rfl | rfl <;> assumption)]
  congr 1
  apply ByteArray.ext
  simp [joinB, ByteArray.data_append]
theorem record_Bytes_f (a b c : ByteArray) (n : Int) (t : Bool) (h0 : 0 ≤ n) (h1 : n < 4294967296) : record_Bytes.f a b c n t = some (recB a b c n t) := by
  unfold record_Bytes.f recB
  rw [record_Check_f]
  by_cases hk : okSub a b c n = true
  · have hh := okSub_iff.1 hk
    have hp : octet_Put32.f n = some (strOfNums (be32 n)) := by unfold octet_Put32.f; rw [if_pos ⟨h0, h1⟩]
    have hj : octet_Join8.f [a, b, c] = some (text8 a ++ (text8 b ++ text8 c), 0) := by unfold octet_Join8.f; rw [if_pos (by simp), join3 (by omega) (by omega) (by omega)]
    have z1 : (text8 a ++ (text8 b ++ text8 c)).size + (strOfNums (be32 n)).size ≤ 9223372036854775807 := by simp only [ba_size, text8_size, strOfNums_size, be32, List.length]; omega
    have z2 : (text8 a ++ (text8 b ++ text8 c) ++ strOfNums (be32 n)).size + 1 ≤ 9223372036854775807 := by simp only [ba_size, text8_size, strOfNums_size, be32, List.length]; omega
    simp only [hk, if_true, Option.bind_some, hj, hp, if_pos z1, if_pos z2]
    cases t <;> simp [subB, ba_assoc, one_str, zero_str]
  · have hf : okSub a b c n = false := by simpa using hk
    simp only [hf, Option.bind_some]
    simp
theorem ref28_Check_f (a b c : ByteArray) (n : Int) (t : Bool) : halyardref28_Check.f a b c n t = some (if okSub a b c n then 0 else 2) := by
  unfold halyardref28_Check.f
  by_cases hk : okSub a b c n = true
  · have hh := okSub_iff.1 hk
    rw [if_neg (by omega), if_neg (by omega), if_neg (by omega), if_neg (by omega), if_neg (by omega), if_neg (by omega), if_pos hk]
  · have hh := fun x => hk (okSub_iff.2 x)
    rw [if_neg hk]
    repeat' split
    all_goals first | rfl | (exfalso; apply hh; omega)
theorem ref01_Join8_f {a b c : ByteArray} (h1 : a.size ≤ 255) (h2 : b.size ≤ 255) (h3 : c.size ≤ 255) (k : Nat) : halyardref01_Join8.f (k + 4) [a, b, c] = some (text8 a ++ (text8 b ++ text8 c), 0) := by
  have t8 : ∀ s : ByteArray, s.size ≤ 255 → halyardref01_Text8.f s = some (text8 s, 0) := fun s h => by unfold halyardref01_Text8.f; rw [if_neg (by omega)]
  have s0 : (⟨#[]⟩ : ByteArray).size + (text8 a).size ≤ 9223372036854775807 := by rw [text8_size, show (⟨#[]⟩ : ByteArray).size = 0 from rfl]; omega
  have s1 : (text8 a).size + (text8 b).size ≤ 9223372036854775807 := by rw [text8_size, text8_size]; omega
  have s2 : (text8 a ++ text8 b).size + (text8 c).size ≤ 9223372036854775807 := by rw [ba_size, text8_size, text8_size, text8_size]; omega
  have r0 : rdOf ByteArray.empty [a, b, c] 0 = a := rfl
  have r1 : rdOf ByteArray.empty [a, b, c] 1 = b := rfl
  have r2 : rdOf ByteArray.empty [a, b, c] 2 = c := rfl
  have w1 : wrap64 (0 + 1) = 1 := wrap64_of (by decide) (by decide)
  have w2 : wrap64 (1 + 1) = 2 := wrap64_of (by decide) (by decide)
  have w3 : wrap64 (2 + 1) = 3 := wrap64_of (by decide) (by decide)
  unfold halyardref01_Join8.f
  simp only [halyardref01_Join8.l0, r0, r1, r2, w1, w2, w3, t8 a h1, t8 b h2, t8 c h3, Option.bind_some, List.length_cons, List.length_nil, empty_app, if_pos s0, if_pos s1, if_pos s2]
  simp [ba_assoc]
theorem ref28_Bytes_f (a b c : ByteArray) (n : Int) (t : Bool) (h0 : 0 ≤ n) (h1 : n < 4294967296) (k : Nat) : halyardref28_Bytes.f (k + 6) a b c n t = some (recB a b c n t) := by
  unfold halyardref28_Bytes.f recB
  rw [ref28_Check_f]
  by_cases hk : okSub a b c n = true
  · have hh := okSub_iff.1 hk
    have hp : halyardref01_Num.f (k + 6) (IntKind.u64.wrap n) 4 = some (strOfNums (be32 n)) := by
      rw [u64_of h0 (by omega), ← beN_four h0 h1]; exact num_f n 4 h0 (by omega) (by omega) _ (by omega)
    have hj := ref01_Join8_f (a := a) (b := b) (c := c) (by omega) (by omega) (by omega) (k + 2)
    have z1 : (text8 a ++ (text8 b ++ text8 c)).size + (strOfNums (be32 n)).size ≤ 9223372036854775807 := by simp only [ba_size, text8_size, strOfNums_size, be32, List.length]; omega
    have z2 : (text8 a ++ (text8 b ++ text8 c) ++ strOfNums (be32 n)).size + 1 ≤ 9223372036854775807 := by simp only [ba_size, text8_size, strOfNums_size, be32, List.length]; omega
    simp only [hk, if_true, Option.bind_some, hj, hp, if_pos z1, if_pos z2]
    cases t <;> simp [subB, ba_assoc, one_str, zero_str]
  · have hf : okSub a b c n = false := by simpa using hk
    simp only [hf, Option.bind_some]
    simp
/-- the reader undoes the writer -/
theorem read_sub {a b c : ByteArray} {n : Int} (t : Bool) (h : okSub a b c n = true) (h0 : 0 ≤ n) (h1 : n < 4294967296) : recRead (subB a b c n t) = (a, b, c, n, t, 0) := by
  have hh := okSub_iff.1 h
  have p1 : read8 (subB a b c n t) = (a, _, 0) := read8_text8 _ (by omega)
  have p2 : read8 (text8 b ++ (text8 c ++ (strOfNums (be32 n) ++ strOfNums [if t then 1 else 0]))) = (b, _, 0) := read8_text8 _ (by omega)
  have p3 : read8 (text8 c ++ (strOfNums (be32 n) ++ strOfNums [if t then 1 else 0])) = (c, _, 0) := read8_text8 _ (by omega)
  have hl : bytesOf (strOfNums (be32 n) ++ strOfNums [if t then 1 else 0]) = be32 n ++ [if t then 1 else 0] := by
    rw [bo_append, bo_str (be32_range h0 h1), bo_str (by intro x hx; simp at hx; subst hx; cases t <;> simp)]
  have hv : val32 (strOfNums (be32 n) ++ strOfNums [if t then 1 else 0]) = n := val32_be32 _ h0 h1
  have hb : bt (strOfNums (be32 n) ++ strOfNums [if t then 1 else 0]) 4 = if t then 1 else 0 := (bo_bt hl 4).trans (by simp [rd, be32])
  have hz : (strOfNums (be32 n) ++ strOfNums [if t then 1 else 0]).size = 5 := (bo_size hl).trans (by simp [be32])
  unfold recRead
  simp only [p1, p2, p3, hv, hb, hz, h]
  cases t <;> simp
/-- the writer undoes the reader -/
theorem sub_read {s a b c : ByteArray} {n : Int} {t : Bool} (h : recRead s = (a, b, c, n, t, 0)) : okSub a b c n = true ∧ subB a b c n t = s ∧ 0 ≤ n ∧ n < 4294967296 := by
  unfold recRead at h
  dsimp only at h
  split at h
  · rename_i hc
    obtain ⟨c1, c2, c3, c4, c5, c6⟩ := hc
    simp only [Prod.mk.injEq, and_true] at h
    obtain ⟨rfl, rfl, rfl, rfl, rfl⟩ := h
    obtain ⟨q1, -⟩ := read8_split (s := s) (a := (read8 s).1) (r := (read8 s).2.1) (by rw [← c1])
    obtain ⟨q2, -⟩ := read8_split (s := (read8 s).2.1) (a := (read8 (read8 s).2.1).1) (r := (read8 (read8 s).2.1).2.1) (by rw [← c2])
    obtain ⟨q3, -⟩ := read8_split (s := (read8 (read8 s).2.1).2.1) (a := (read8 (read8 (read8 s).2.1).2.1).1) (r := (read8 (read8 (read8 s).2.1).2.1).2.1) (by rw [← c3])
    have hv := val32_range (read8 (read8 (read8 s).2.1).2.1).2.1
    refine ⟨c6, ?_, hv⟩
    have q4 := five c4
    have hbr := bt_range (read8 (read8 (read8 s).2.1).2.1).2.1 4
    have q5 : (if (bt (read8 (read8 (read8 s).2.1).2.1).2.1 4 == 1) = true then (1 : Int) else 0) = bt (read8 (read8 (read8 s).2.1).2.1).2.1 4 := by
      split
      · rename_i h
        have h' : bt (read8 (read8 (read8 s).2.1).2.1).2.1 4 = 1 := by simpa using h
        exact h'.symm
      · rename_i h; simp at h; omega
    unfold subB
    rw [q5, ← q4, ← q3, ← q2, ← q1]
  · simp at h
theorem read_bad {s : ByteArray} (h : ¬ (recRead s).2.2.2.2.2 = 0) : recRead s = (⟨#[]⟩, ⟨#[]⟩, ⟨#[]⟩, 0, false, 7) := by
  unfold recRead at h ⊢
  dsimp only at h ⊢
  split
  · rename_i hc; rw [if_pos hc] at h; exact absurd rfl h
  · rfl
theorem ref28_Read_f (s : ByteArray) (hs : s.size ≤ 140737488351232) : halyardref28_Read.f s = some (recRead s) := by
  unfold halyardref28_Read.f
  rw [if_neg (by omega)]
  dsimp only
  have hv := val32_range (read8 (read8 (read8 s).2.1).2.1).2.1
  rw [show 300 = 294 + 6 by rfl, ref28_Bytes_f _ _ _ _ _ hv.1 hv.2]
  simp only [Option.bind_some]
  by_cases hr : (recRead s).2.2.2.2.2 = 0
  · obtain ⟨g1, g2, -⟩ := sub_read (s := s) (a := (recRead s).1) (b := (recRead s).2.1) (c := (recRead s).2.2.1) (n := (recRead s).2.2.2.1) (t := (recRead s).2.2.2.2.1) (by rw [← hr])
    unfold recRead at g1 g2 hr ⊢
    dsimp only at g1 g2 hr ⊢
    split at hr
    · rename_i hc
      simp only [if_pos hc] at g1 g2 ⊢
      rw [if_pos ⟨hc.1, hc.2.1, hc.2.2.1, hc.2.2.2.1⟩]
      unfold recB
      rw [if_pos g1]
      simp only [g2, and_self, if_true]
    · simp at hr
  · rw [read_bad hr]
    split
    · rename_i hc
      rw [if_neg]
      rintro ⟨e1, e2⟩
      unfold recB at e1 e2
      split at e1
      · rename_i hk
        rw [if_pos hk] at e2
        apply hr
        have := read_sub (bt (read8 (read8 (read8 s).2.1).2.1).2.1 4 == 1) hk hv.1 hv.2
        rw [show subB _ _ _ _ _ = s from e2] at this
        rw [this]
      · simp at e1
    · rfl
theorem toList_inj {a b : ByteArray} : a.toList = b.toList ↔ a = b := ⟨fun h => by rw [ByteArray.toList_eq, ByteArray.toList_eq] at h; exact ByteArray.ext (Array.toList_inj.1 h), fun h => by rw [h]⟩
theorem wrap_len {x : Int} (h0 : 0 ≤ x) (h1 : x ≤ 9223372036854775807) : wrap64 x = x := wrap64_of (by omega) h1
theorem long2 (x y : S24) (hx : x.f0.size ≤ 140737488351232 ∧ x.f1.size ≤ 140737488351232 ∧ x.f2.size ≤ 140737488351232) (hy : y.f0.size ≤ 140737488351232 ∧ y.f1.size ≤ 140737488351232 ∧ y.f2.size ≤ 140737488351232) (k : Nat) : ∃ b, halyardlaw28_Long.f (k + 3) [x, y] = some b := by
  have r0 : rd_T24 [x, y] 0 = x := rfl
  have r1 : rd_T24 [x, y] 1 = y := rfl
  have w1 : wrap64 (0 + 1) = 1 := wrap64_of (by decide) (by decide)
  have w2 : wrap64 (1 + 1) = 2 := wrap64_of (by decide) (by decide)
  unfold halyardlaw28_Long.f
  simp only [halyardlaw28_Long.l0, r0, r1, w1, w2, List.length_cons, List.length_nil]
  simp
theorem eq5 {a1 a2 a3 b1 b2 b3 : ByteArray} {n m : Int} {t u : Bool} : (a1.toList == b1.toList && (a2.toList == b2.toList && (a3.toList == b3.toList && (n == m && (t == u))))) = true ↔ a1 = b1 ∧ a2 = b2 ∧ a3 = b3 ∧ n = m ∧ t = u := by
  simp only [Bool.and_eq_true, beq_iff_eq, toList_inj]
theorem ne5 {a1 a2 a3 b1 b2 b3 : ByteArray} {n m : Int} {t u : Bool} : (!(a1.toList == b1.toList) || (!(a2.toList == b2.toList) || (!(a3.toList == b3.toList) || (!(n == m) || (!(t == u)))))) = true ↔ ¬ (a1 = b1 ∧ a2 = b2 ∧ a3 = b3 ∧ n = m ∧ t = u) := by
  rw [← eq5]; simp only [← Bool.not_and, Bool.not_eq_true']; simp
/-- the whole law -/
theorem law28 (a b c d e f s : ByteArray) (n m : Int) (t u : Bool) (n0 : 0 ≤ n) (n1 : n < 4294967296) (m0 : 0 ≤ m) (m1 : m < 4294967296) (ha : a.size ≤ 140737488351232) (hb : b.size ≤ 140737488351232) (hc : c.size ≤ 140737488351232)
    (hd : d.size ≤ 140737488351232) (he : e.size ≤ 140737488351232) (hf : f.size ≤ 140737488351232) (hs : s.size ≤ 140737488351232) : halyardlaw28_RecordBytes.f 20 a b c n t d e f m u s = some true := by
  have hal : halyardlaw28_alive.f = some true := rfl
  have hr : ∀ z : ByteArray, z.size ≤ 140737488351232 → record_Read.f z = some (recRead z) := fun z hz => by unfold record_Read.f; rw [if_pos hz]
  have hj2 : ∀ k, ∀ e9 : Int, recRead s = ((recRead s).1, (recRead s).2.1, (recRead s).2.2.1, (recRead s).2.2.2.1, (recRead s).2.2.2.2.1, e9) → halyardlaw28_RecordBytes.j2 (k + 1) s e9 (recRead s).1 (recRead s).2.1 (recRead s).2.2.1 (recRead s).2.2.2.1 (recRead s).2.2.2.2.1 = some true := by
    intro k e9 h9
    simp only [halyardlaw28_RecordBytes.j2, hal, Option.bind_some]
    split
    · rename_i h; subst h
      obtain ⟨g1, g2, g3, g4⟩ := sub_read h9
      rw [record_Bytes_f _ _ _ _ _ g3 g4]
      simp only [recB, g1, g2, Option.bind_some, if_true]
    · rfl
  have hj1 : ∀ k, halyardlaw28_RecordBytes.j1 (k + 2) s (recB a b c n t).1 (recB a b c n t).2 (recRead s).2.2.2.2.2 (recB d e f m u).1 (recB d e f m u).2 false a b c n t d e f m u (recRead s).1 (recRead s).2.1 (recRead s).2.2.1 (recRead s).2.2.2.1 (recRead s).2.2.2.2.1 = some true := by
    intro k
    simp only [halyardlaw28_RecordBytes.j1]
    rw [if_neg (by decide)]
    by_cases hk : okSub a b c n = true
    · have hh := okSub_iff.1 hk
      have e1 : recB a b c n t = (subB a b c n t, 0) := by unfold recB; rw [if_pos hk]
      have hz : (subB a b c n t).size ≤ 140737488351232 := by simp only [subB, ba_size, text8_size, strOfNums_size, be32, List.length]; omega
      rw [e1]; dsimp only
      rw [if_pos rfl, hr _ hz, read_sub t hk n0 n1]
      simp only [Option.bind_some]
      rw [if_pos trivial, if_neg (by rw [ne5]; simp)]
      by_cases hk2 : okSub d e f m = true
      · have e2 : recB d e f m u = (subB d e f m u, 0) := by unfold recB; rw [if_pos hk2]
        rw [e2]; dsimp only
        rw [if_pos (rfl : (0 : Int) = 0), if_neg, hj2 k (recRead s).2.2.2.2.2 rfl]
        intro hne
        have key : (subB a b c n t).toList = (subB d e f m u).toList ↔ (a = d ∧ b = e ∧ c = f ∧ n = m ∧ t = u) := by
          rw [toList_inj]
          constructor
          · intro h
            have r1 := read_sub t hk n0 n1
            rw [h, read_sub u hk2 m0 m1] at r1
            simp only [Prod.mk.injEq, and_true] at r1
            obtain ⟨rfl, rfl, rfl, rfl, rfl⟩ := r1
            exact ⟨rfl, rfl, rfl, rfl, rfl⟩
          · rintro ⟨rfl, rfl, rfl, rfl, rfl⟩; rfl
        rw [← eq5] at key
        have k2 : ((subB a b c n t).toList == (subB d e f m u).toList) = (a.toList == d.toList && (b.toList == e.toList && (c.toList == f.toList && (n == m && (t == u))))) := by
          rw [Bool.eq_iff_iff, beq_iff_eq]; exact key
        rw [k2] at hne
        simp at hne
      · have e2 : recB d e f m u = (⟨#[]⟩, 2) := by unfold recB; rw [if_neg hk2]
        rw [e2]; dsimp only
        rw [if_neg (by decide)]; exact hj2 _ (recRead s).2.2.2.2.2 rfl
    · have e1 : recB a b c n t = (⟨#[]⟩, 2) := by unfold recB; rw [if_neg hk]
      rw [e1]; dsimp only
      rw [if_neg (by decide)]; exact hj2 _ (recRead s).2.2.2.2.2 rfl
  obtain ⟨bl, hbl⟩ := long2 ⟨a, b, c, n, t⟩ ⟨d, e, f, m, u⟩ ⟨ha, hb, hc⟩ ⟨hd, he, hf⟩ 17
  have hj0 : ∀ q : Bool, halyardlaw28_RecordBytes.j0 20 s q a b c n t d e f m u = some true := by
    intro q
    simp only [halyardlaw28_RecordBytes.j0, hal, Option.bind_some]
    split
    · rfl
    · rw [record_Bytes_f _ _ _ _ _ n0 n1, record_Bytes_f _ _ _ _ _ m0 m1, ref28_Bytes_f _ _ _ _ _ n0 n1 13, hr s hs, ref28_Read_f s hs]
      simp only [Option.bind_some, if_true]
      rw [if_neg (by rw [ne5]; simp)]
      have : ((recRead s).2.2.2.2.2 != (recRead s).2.2.2.2.2) = false := by simp
      rw [this]
      exact hj1 17
  unfold halyardlaw28_RecordBytes.f
  rw [hbl]
  simp only [Option.bind_some]
  split
  · exact hj0 _
  · exact hj0 _
end Go.Proofs.Ytmhlebnomagekaa
