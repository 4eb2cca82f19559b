/- The reference's digest is the program's, in plain words. -/
import Derived.Test.YtmhlebnomagekaaDoorMd5Plain
import Derived.Test.YtmhlebnomagekaaDoorMd5K
import Derived.Test.YtmhlebnomagekaaDoorPMx2
import Derived.Laws.BitsLemmas
set_option linter.unusedVariables false
set_option linter.unusedSimpArgs false
namespace Go.Proofs.YtmhlebnomagekaaDoor
open Go.RowKit Go.Proofs.YtmhlebnomagekaaDoorW.PrintWords Go.Proofs.YtmhlebnomagekaaDoor.PM

theorem or_comm32 (a b : Int) : Go.bits .or .u32 a b = Go.bits .or .u32 b a := by
  unfold Go.bits
  simp only [BitVec.or_comm]
theorem or_add (i : Nat) (x y : Int) (h0 : 0 ≤ x) (h1 : x % 2 ^ i = 0) (h2 : x < 4294967296) (h3 : 0 ≤ y) (h4 : y < 2 ^ i) (h5 : y < 4294967296) : Go.bits .or .u32 x y = x + y :=
  bits_join .u32 32 (by decide) (fun n h0 h1 => by rw [IntKind.wrap_u32]; omega) i x y h0 h1 (by omega) h3 h4 (by omega)
theorem word4_sum (x0 x1 x2 x3 : Int) (h0 : 0 ≤ x0 ∧ x0 ≤ 255) (h1 : 0 ≤ x1 ∧ x1 ≤ 255) (h2 : 0 ≤ x2 ∧ x2 ≤ 255) (h3 : 0 ≤ x3 ∧ x3 ≤ 255) : word4 x0 x1 x2 x3 = x0 + x1 * 256 + x2 * 65536 + x3 * 16777216 := by
  unfold word4
  have e0 : x0 % 4294967296 = x0 := by omega
  have e1 : x1 % 4294967296 * 256 % 4294967296 = x1 * 256 := by omega
  have e2 : x2 % 4294967296 * 65536 % 4294967296 = x2 * 65536 := by omega
  have e3 : x3 % 4294967296 * 16777216 % 4294967296 = x3 * 16777216 := by omega
  rw [e0, e1, e2, e3]
  rw [or_comm32 x0, or_add 8 (x1 * 256) x0 (by omega) (by omega) (by omega) (by omega) (by omega) (by omega)]
  rw [or_comm32 _ (x2 * 65536), or_add 16 (x2 * 65536) _ (by omega) (by omega) (by omega) (by omega) (by omega) (by omega)]
  rw [or_comm32 _ (x3 * 16777216), or_add 24 (x3 * 16777216) _ (by omega) (by omega) (by omega) (by omega) (by omega) (by omega)]
  omega
theorem word_printed (y0 y1 y2 y3 : Int) (h0 : 0 ≤ y0 ∧ y0 ≤ 255) (h1 : 0 ≤ y1 ∧ y1 ≤ 255) (h2 : 0 ≤ y2 ∧ y2 ≤ 255) (h3 : 0 ≤ y3 ∧ y3 ≤ 255) :
    (((y0 % 4294967296 + y1 % 4294967296 * 256 % 4294967296) % 4294967296 + y2 % 4294967296 * 65536 % 4294967296) % 4294967296 + y3 % 4294967296 * 16777216 % 4294967296) % 4294967296 = word4 y0 y1 y2 y3 := by
  rw [word4_sum y0 y1 y2 y3 h0 h1 h2 h3]
  have e0 : y0 % 4294967296 = y0 := by omega
  have e1 : y1 % 4294967296 * 256 % 4294967296 = y1 * 256 := by omega
  have e2 : y2 % 4294967296 * 65536 % 4294967296 = y2 * 65536 := by omega
  have e3 : y3 % 4294967296 * 16777216 % 4294967296 = y3 * 16777216 := by omega
  rw [e0, e1, e2, e3]
  rw [Int.emod_eq_of_lt (a := y0 + y1 * 256) (by omega) (by omega), Int.emod_eq_of_lt (a := y0 + y1 * 256 + y2 * 65536) (by omega) (by omega), Int.emod_eq_of_lt (by omega) (by omega)]
theorem sum_mod (a m w c : Int) : (((a + m) % 4294967296 + w) % 4294967296 + c) % 4294967296 = (a + m + w + c) % 4294967296 := by
  omega
theorem place_f : ∀ i : Nat, i < 64 → halyardref05_place.f (i : Int) = some ((placeF (i / 16) i : Nat) : Int) := of_decide_eq_true (by kernel_rfl)
theorem by_f : ∀ i : Nat, i < 64 → halyardref05_by.f (i : Int) = some ((byF (i / 16) (i % 4) : Nat) : Int) := of_decide_eq_true (by kernel_rfl)
theorem place_lt : ∀ i : Nat, i < 64 → placeF (i / 16) i < 16 := of_decide_eq_true (by kernel_rfl)
theorem by_in : ∀ i : Nat, i < 64 → byF (i / 16) (i % 4) ∈ [7, 12, 17, 22, 5, 9, 14, 20, 4, 11, 16, 23, 6, 10, 15, 21] := of_decide_eq_true (by kernel_rfl)
def konstL : List Int := (List.range 64).map fun i => (konst i : Int)
theorem constants_f : halyardref05_constants.f = some konstL := by kernel_rfl
theorem konst_rd : ∀ i : Nat, i < 64 → rd konstL (i : Int) = (konst i : Int) := of_decide_eq_true (by kernel_rfl)
theorem konstL_len : konstL.length = 64 := by kernel_rfl
theorem gap_lt' (n : Nat) : gap n < 64 := Nat.mod_lt _ (by decide)
theorem turned_one (n : Nat) (x : Int) (h0 : 0 ≤ x) (h1 : x < 4294967296) (hn : n ≤ 32)
    (hs : Go.bits .or .u32 (x * 2 ^ n % 4294967296) (x / 2 ^ (32 - n)) = x * 2 ^ n % 4294967296 + x / 2 ^ (32 - n)) (hlt : x * 2 ^ n % 4294967296 + x / 2 ^ (32 - n) < 4294967296) (hge : 0 ≤ x / 2 ^ (32 - n)) : halyardref05_turned.f x n = some (rot n x) := by
  have e1 : IntKind.u64.wrap (n : Int) = n := u64_of (by omega) (by omega)
  have e2 : IntKind.u64.wrap (wrap64 (32 - (n : Int))) = ((32 - n : Nat) : Int) := by rw [wrap64_of (by omega) (by omega), u64_of (by omega) (by omega)]; omega
  unfold halyardref05_turned.f
  rw [e1, e2, if_pos (by omega), if_pos (by omega)]
  have a1 : shl .u32 x (n : Int) = x * 2 ^ n % 4294967296 := by
    unfold shl
    rw [Int.toNat_natCast, Nat.min_eq_left (show n ≤ IntKind.u32.bits from hn), IntKind.wrap_u32]
  have a2 : shr .u32 x ((32 - n : Nat) : Int) = x / 2 ^ (32 - n) := by
    unfold shr
    rw [Int.toNat_natCast, Nat.min_eq_left (show 32 - n ≤ IntKind.u32.bits from Nat.sub_le _ _)]
  rw [a1, a2]
  unfold rot
  rw [hs]
  congr 1
  have := Int.emod_nonneg (x * 2 ^ n) (show (4294967296 : Int) ≠ 0 by decide)
  omega
theorem turned_f (n : Nat) (hn : n ∈ [7, 12, 17, 22, 5, 9, 14, 20, 4, 11, 16, 23, 6, 10, 15, 21]) (x : Int) (h0 : 0 ≤ x) (h1 : x < 4294967296) : halyardref05_turned.f x n = some (rot n x) := by
  simp only [List.mem_cons, List.not_mem_nil, or_false] at hn
  rcases hn with rfl | rfl | rfl | rfl | rfl | rfl | rfl | rfl | rfl | rfl | rfl | rfl | rfl | rfl | rfl | rfl
  · exact turned_one 7 x h0 h1 (by decide) (or_add 7 _ _ (by omega) (by omega) (by omega) (by omega) (by omega) (by omega)) (by omega) (by omega)
  · exact turned_one 12 x h0 h1 (by decide) (or_add 12 _ _ (by omega) (by omega) (by omega) (by omega) (by omega) (by omega)) (by omega) (by omega)
  · exact turned_one 17 x h0 h1 (by decide) (or_add 17 _ _ (by omega) (by omega) (by omega) (by omega) (by omega) (by omega)) (by omega) (by omega)
  · exact turned_one 22 x h0 h1 (by decide) (or_add 22 _ _ (by omega) (by omega) (by omega) (by omega) (by omega) (by omega)) (by omega) (by omega)
  · exact turned_one 5 x h0 h1 (by decide) (or_add 5 _ _ (by omega) (by omega) (by omega) (by omega) (by omega) (by omega)) (by omega) (by omega)
  · exact turned_one 9 x h0 h1 (by decide) (or_add 9 _ _ (by omega) (by omega) (by omega) (by omega) (by omega) (by omega)) (by omega) (by omega)
  · exact turned_one 14 x h0 h1 (by decide) (or_add 14 _ _ (by omega) (by omega) (by omega) (by omega) (by omega) (by omega)) (by omega) (by omega)
  · exact turned_one 20 x h0 h1 (by decide) (or_add 20 _ _ (by omega) (by omega) (by omega) (by omega) (by omega) (by omega)) (by omega) (by omega)
  · exact turned_one 4 x h0 h1 (by decide) (or_add 4 _ _ (by omega) (by omega) (by omega) (by omega) (by omega) (by omega)) (by omega) (by omega)
  · exact turned_one 11 x h0 h1 (by decide) (or_add 11 _ _ (by omega) (by omega) (by omega) (by omega) (by omega) (by omega)) (by omega) (by omega)
  · exact turned_one 16 x h0 h1 (by decide) (or_add 16 _ _ (by omega) (by omega) (by omega) (by omega) (by omega) (by omega)) (by omega) (by omega)
  · exact turned_one 23 x h0 h1 (by decide) (or_add 23 _ _ (by omega) (by omega) (by omega) (by omega) (by omega) (by omega)) (by omega) (by omega)
  · exact turned_one 6 x h0 h1 (by decide) (or_add 6 _ _ (by omega) (by omega) (by omega) (by omega) (by omega) (by omega)) (by omega) (by omega)
  · exact turned_one 10 x h0 h1 (by decide) (or_add 10 _ _ (by omega) (by omega) (by omega) (by omega) (by omega) (by omega)) (by omega) (by omega)
  · exact turned_one 15 x h0 h1 (by decide) (or_add 15 _ _ (by omega) (by omega) (by omega) (by omega) (by omega) (by omega)) (by omega) (by omega)
  · exact turned_one 21 x h0 h1 (by decide) (or_add 21 _ _ (by omega) (by omega) (by omega) (by omega) (by omega) (by omega)) (by omega) (by omega)
theorem rot_range (n : Nat) (x : Int) : 0 ≤ rot n x ∧ rot n x < 4294967296 := bits_u32 _ _ _
theorem block_l0 (N : Nat) (hN : N = 64) (t : ByteArray) (ht : t.size = 64) (s0 : St) (s : St) (hs : s.wf) (d : Nat) : ∀ (k i : Nat), i + d = N → d < k →
    halyardref05_block.l0 k s0.a s0.b s0.c s0.d t konstL (stepsF t s i).a (stepsF t s i).b (stepsF t s i).c (stepsF t s i).d i = some ((s0.a + (stepsF t s N).a) % 4294967296, (s0.b + (stepsF t s N).b) % 4294967296, (s0.c + (stepsF t s N).c) % 4294967296, (s0.d + (stepsF t s N).d) % 4294967296) := by
  induction d with
  | zero =>
    intro k i h hk
    obtain ⟨k, rfl⟩ : ∃ q, k = q + 1 := ⟨k - 1, by omega⟩
    obtain rfl : i = N := by omega
    simp only [halyardref05_block.l0]
    rw [if_neg (by omega)]
  | succ d ih =>
    intro k i h hk
    obtain ⟨k, rfl⟩ : ∃ q, k = q + 1 := ⟨k - 1, by omega⟩
    have hi : i < 64 := by omega
    have hp := place_lt i hi
    have hwf := stepsF_wf (t := t) hs i
    have e := ih k (i + 1) (by omega) (by omega)
    rw [stepsF_succ] at e
    generalize stepsF t s i = S at *
    have hz : (t.size : Int) = 64 := by omega
    simp only [halyardref05_block.l0]
    rw [if_pos (by omega), place_f i hi]
    rw [Option.bind_some]
    generalize hP : placeF (i / 16) i = p at *
    rw [hz, wrap64_of (n := 4 * (p : Int)) (by omega) (by omega), wrap64_of (n := 4 * (p : Int) + 1) (by omega) (by omega), wrap64_of (n := 4 * (p : Int) + 2) (by omega) (by omega), wrap64_of (n := 4 * (p : Int) + 3) (by omega) (by omega)]
    rw [if_pos (by omega), if_pos (by omega), if_pos (by omega), if_pos (by omega), if_pos (by omega), if_pos (by omega), if_pos (by omega), if_pos (by omega)]
    have hm : halyardref05_mix.f (wrap64 (Int.tdiv (i : Int) 16)) S.b S.c S.d = some (mixF (i / 16) S.b S.c S.d) := by
      have e1 : wrap64 (Int.tdiv (i : Int) 16) = ((i / 16 : Nat) : Int) := by rw [Int.tdiv_eq_ediv_of_nonneg (by omega)]; rw [wrap64_of (by omega) (by omega)]; omega
      unfold halyardref05_mix.f
      rw [e1, if_pos (by omega), Int.toNat_natCast]
    rw [hm]
    rw [Option.bind_some]
    rw [if_pos (by omega), konstL_len, if_pos (by omega), by_f i hi]
    rw [Option.bind_some]
    rw [konst_rd i hi]
    have c1 : 4 * (p : Int) + 1 = ((4 * p + 1 : Nat) : Int) := by omega
    have c2 : 4 * (p : Int) + 2 = ((4 * p + 2 : Nat) : Int) := by omega
    have c3 : 4 * (p : Int) + 3 = ((4 * p + 3 : Nat) : Int) := by omega
    have c0 : 4 * (p : Int) = ((4 * p : Nat) : Int) := by omega
    rw [c1, c2, c3, c0, word_printed _ _ _ _ (bt_range t _) (bt_range t _) (bt_range t _) (bt_range t _)]
    rw [show word4 (bt t ((4 * p : Nat) : Int)) (bt t ((4 * p + 1 : Nat) : Int)) (bt t ((4 * p + 2 : Nat) : Int)) (bt t ((4 * p + 3 : Nat) : Int)) = wordF t (4 * p) from rfl, sum_mod]
    rw [turned_f _ (by_in i hi) _ (Int.emod_nonneg _ (by decide)) (Int.emod_lt_of_pos _ (by decide))]
    rw [Option.bind_some]
    have hwr : wrap64 ((i : Int) + 1) = ((i + 1 : Nat) : Int) := by rw [wrap64_of (by omega) (by omega)]; omega
    rw [hwr, ← e]
    simp only [stepF]
    rw [hP]
theorem block_f (t : ByteArray) (ht : t.size = 64) (s : St) (hs : s.wf) (k : Nat) (hk : 64 < k) : halyardref05_block.f k s.a s.b s.c s.d t = some ((blockF s t).a, (blockF s t).b, (blockF s t).c, (blockF s t).d) := by
  unfold halyardref05_block.f
  rw [constants_f]
  rw [Option.bind_some]
  exact block_l0 64 rfl t ht s s hs 64 k 0 (by omega) (by omega)
theorem four_f (x : Int) (h0 : 0 ≤ x) (h1 : x < 4294967296) : halyardref05_four.f x = some (four x) := by
  unfold halyardref05_four.f four
  rw [Int.tdiv_eq_ediv_of_nonneg h0, Int.tdiv_eq_ediv_of_nonneg h0, Int.tdiv_eq_ediv_of_nonneg h0]
  have e1 : x / 256 % 4294967296 = x / 256 := by omega
  have e2 : x / 65536 % 4294967296 = x / 65536 := by omega
  have e3 : x / 16777216 % 4294967296 % 256 = x / 16777216 := by omega
  rw [e1, e2, e3]
theorem sum_l0 (P : ByteArray) (hP : P.size % 64 = 0) (hb : P.size ≤ 1099511628000) (d : Nat) : ∀ (k j : Nat), j + d = P.size / 64 → d + 64 < k →
    halyardref05_Sum.l0 k P (foldF P j).a (foldF P j).b (foldF P j).c (foldF P j).d ((64 * j : Nat) : Int) = some (bytesF (foldF P (P.size / 64))) := by
  induction d with
  | zero =>
    intro k j h hk
    obtain ⟨k, rfl⟩ : ∃ q, k = q + 1 := ⟨k - 1, by omega⟩
    obtain rfl : j = P.size / 64 := by omega
    obtain ⟨⟨a0, a1⟩, ⟨b0, b1⟩, ⟨c0, c1⟩, ⟨d0, d1⟩⟩ := foldF_wf P (P.size / 64)
    simp only [halyardref05_Sum.l0]
    rw [if_neg (by omega), four_f _ a0 a1, four_f _ b0 b1, four_f _ c0 c1, four_f _ d0 d1]
    simp only [Option.bind_some]
    have z := four_size
    rw [if_pos (by rw [z, z]; decide), if_pos (by rw [ByteArray.size_append, z, z, z]; decide), if_pos (by rw [ByteArray.size_append, ByteArray.size_append, z, z, z, z]; decide)]
    rfl
  | succ d ih =>
    intro k j h hk
    obtain ⟨k, rfl⟩ : ∃ q, k = q + 1 := ⟨k - 1, by omega⟩
    have e := ih k (j + 1) (by omega) (by omega)
    have hw : wrap64 (((64 * j : Nat) : Int) + 64) = ((64 * (j + 1) : Nat) : Int) := by rw [wrap64_of (by omega) (by omega)]; omega
    simp only [halyardref05_Sum.l0]
    rw [hw, if_pos (by omega), if_pos (by omega), if_pos (by omega), if_pos (by omega)]
    have hx : P.extract (((64 * j : Nat) : Int)).toNat (((64 * (j + 1) : Nat) : Int)).toNat = P.extract (64 * j) (64 * j + 64) := by
      rw [Int.toNat_natCast, Int.toNat_natCast]; congr 1
    rw [hx, block_f _ (by rw [extract_size' _ _ _ (by omega) (by omega)]; omega) _ (foldF_wf P j) k (by omega)]
    simp only [Option.bind_some]
    rw [← foldF_succ]
    exact e
theorem sum_f (s : ByteArray) (hs : s.size ≤ 1099511627776) : ∃ k, halyardref05_Sum.f k s = some (digest s) := by
  refine ⟨(padF s).size / 64 + 65, ?_⟩
  have h := sum_l0 (padF s) (padF_dvd s) (by rw [padF_size]; have := gap_lt' s.size; omega) ((padF s).size / 64) ((padF s).size / 64 + 65) 0 (by omega) (by omega)
  unfold halyardref05_Sum.f halyardref05_Padded.f
  rw [if_pos hs]
  simp only [Option.bind_some]
  exact h
end Go.Proofs.YtmhlebnomagekaaDoor
