/- md5 on whole texts, in plain words: blocks at the front of a text, what stands behind it, the digest. -/
import Derived.Test.YtmhlebnomagekaaDoorMd5Block
set_option linter.unusedVariables false
set_option linter.unusedSimpArgs false
namespace Go.Proofs.YtmhlebnomagekaaDoor
open Go.RowKit Go.Proofs.YtmhlebnomagekaaDoorW.PrintWords

theorem ba_ext {a b : ByteArray} (h : a.data.toList = b.data.toList) : a = b := by
  rcases a with ⟨⟨a⟩⟩; rcases b with ⟨⟨b⟩⟩; simp only at h; subst h; rfl
theorem ba_app (a b : ByteArray) : (a ++ b).data.toList = a.data.toList ++ b.data.toList := by simp [ByteArray.data_append]
theorem ba_len (a : ByteArray) : a.data.toList.length = a.size := data_length a
theorem ba_ext' (s : ByteArray) (a b : Nat) : (s.extract a b).data.toList = (s.data.toList.drop a).take (b - a) := Lib.extract_data s a b
theorem extract_size' (s : ByteArray) (a b : Nat) (h1 : a ≤ b) (h2 : b ≤ s.size) : (s.extract a b).size = b - a := by
  rw [← ba_len, ba_ext', List.length_take, List.length_drop, ba_len]; omega
theorem extract_snoc (x y : ByteArray) (a : Nat) (h : a ≤ x.size) : x.extract a x.size ++ y = (x ++ y).extract a (x ++ y).size := by
  apply ba_ext
  rw [ba_app, ba_ext', ba_ext', ba_app, ByteArray.size_append, List.drop_append_of_le_length (by rw [ba_len]; exact h)]
  rw [List.take_of_length_le (by rw [List.length_drop, ba_len]; omega), List.take_of_length_le (by rw [List.length_append, List.length_drop, ba_len, ba_len]; omega)]
theorem extract_front (x y : ByteArray) (a b : Nat) (h : b ≤ x.size) : (x ++ y).extract a b = x.extract a b := by
  apply ba_ext
  rw [ba_ext', ba_ext', ba_app]
  by_cases hab : a ≤ b
  · rw [List.drop_append_of_le_length (by rw [ba_len]; omega), List.take_append_of_le_length (by rw [List.length_drop, ba_len]; omega)]
  · have : b - a = 0 := by omega
    rw [this]; rfl
theorem extract_head (x : ByteArray) (a n : Nat) (h : a + n ≤ x.size) : (x.extract a x.size).extract 0 n = x.extract a (a + n) := by
  apply ba_ext
  rw [ba_ext', ba_ext', ba_ext', List.drop_zero, List.take_take]
  congr 1
  omega
theorem extract_tail (x : ByteArray) (a n : Nat) (h : a + n ≤ x.size) : (x.extract a x.size).extract n (x.extract a x.size).size = x.extract (a + n) x.size := by
  apply ba_ext
  rw [extract_size' x a x.size (by omega) (Nat.le_refl _)]
  rw [ba_ext', ba_ext', ba_ext', List.drop_take, List.drop_drop, List.take_take]
  congr 1
  omega
theorem extract_all (x : ByteArray) : x.extract 0 x.size = x := by
  apply ba_ext; rw [ba_ext', List.drop_zero, List.take_of_length_le (by rw [ba_len]; omega)]
theorem extract_none (x : ByteArray) : x.extract x.size x.size = ⟨#[]⟩ := by
  apply ba_ext; rw [ba_ext']; simp

/-- the state of nothing -/
def firstSt : St := ⟨1732584193, 4023233417, 2562383102, 271733878⟩
/-- the state behind n blocks of t -/
def foldF (t : ByteArray) : Nat → St
  | 0 => firstSt
  | n + 1 => blockF (foldF t n) (t.extract (64 * n) (64 * n + 64))
theorem foldF_succ (t : ByteArray) (n : Nat) : foldF t (n + 1) = blockF (foldF t n) (t.extract (64 * n) (64 * n + 64)) := rfl
theorem foldF_wf (t : ByteArray) (n : Nat) : (foldF t n).wf := by
  induction n with
  | zero => unfold foldF firstSt St.wf; decide
  | succ n ih => exact ⟨add32_range _ _, add32_range _ _, add32_range _ _, add32_range _ _⟩
theorem foldF_front (x y : ByteArray) (n : Nat) (h : 64 * n ≤ x.size) : foldF (x ++ y) n = foldF x n := by
  induction n with
  | zero => rfl
  | succ n ih => rw [foldF_succ, foldF_succ, ih (by omega), extract_front x y _ _ (by omega)]

/-- n zeros -/
def zeros (n : Nat) : ByteArray := ⟨⟨List.replicate n 0⟩⟩
theorem zeros_size (n : Nat) : (zeros n).size = n := by simp [zeros, ByteArray.size]
theorem zeros_snoc (n : Nat) : zeros n ++ ⟨#[0]⟩ = zeros (n + 1) := by
  apply ba_ext; rw [ba_app]; simp [zeros, List.replicate_succ']
/-- the lowest k bytes of a number, the lowest first -/
def le (m : Nat) (k : Nat) : ByteArray := ⟨⟨(List.range k).map fun j => UInt8.ofNat (m / 2 ^ (8 * j))⟩⟩
theorem le_size (m k : Nat) : (le m k).size = k := by simp [le, ByteArray.size]
theorem le_snoc (m k : Nat) : le m k ++ ⟨#[UInt8.ofNat (m / 2 ^ (8 * k))]⟩ = le m (k + 1) := by
  apply ba_ext; rw [ba_app]; simp [le, List.range_succ]
/-- how many zeros stand behind a text of n bytes -/
def gap (n : Nat) : Nat := (119 - n % 64) % 64
def mark : ByteArray := ⟨#[128]⟩
/-- a text, with what stands behind it -/
def padF (l : ByteArray) : ByteArray := l ++ mark ++ zeros (gap l.size) ++ le (8 * l.size) 8
theorem padF_size (l : ByteArray) : (padF l).size = l.size + 1 + gap l.size + 8 := by
  simp only [padF, ByteArray.size_append, zeros_size, le_size]; rfl
theorem padF_dvd (l : ByteArray) : (padF l).size % 64 = 0 := by rw [padF_size]; unfold gap; omega
/-- a word's bytes, the lowest first -/
def four (x : Int) : ByteArray := strOfNums [x % 256, x / 256 % 256, x / 65536 % 256, x / 16777216]
def bytesF (s : St) : ByteArray := four s.a ++ four s.b ++ four s.c ++ four s.d
/-- the digest of a text -/
def digest (l : ByteArray) : ByteArray := bytesF (foldF (padF l) ((padF l).size / 64))
theorem four_size (x : Int) : (four x).size = 4 := by simp [four, strOfNums_size]
theorem digest_size (l : ByteArray) : (digest l).size = 16 := by simp [digest, bytesF, ByteArray.size_append, four_size]

/-- the hexadecimal digits of a text -/
def hexD (n : Nat) : UInt8 := (⟨#[48, 49, 50, 51, 52, 53, 54, 55, 56, 57, 97, 98, 99, 100, 101, 102]⟩ : ByteArray).data.toList.getD n 0
def hexL (l : List UInt8) : List UInt8 := l.flatMap fun c => [hexD (c.toNat / 16), hexD (c.toNat % 16)]
def hexF (s : ByteArray) : ByteArray := ⟨⟨hexL s.data.toList⟩⟩
theorem hexL_length (l : List UInt8) : (hexL l).length = 2 * l.length := by
  induction l with
  | nil => rfl
  | cons c l ih => simp only [hexL, List.flatMap_cons, List.length_append, List.length_cons, List.length_nil] at ih ⊢; omega
theorem hexL_append (a b : List UInt8) : hexL (a ++ b) = hexL a ++ hexL b := by simp [hexL]
theorem hexL_snoc (l : List UInt8) (c : UInt8) : hexL (l ++ [c]) = hexL l ++ [hexD (c.toNat / 16)] ++ [hexD (c.toNat % 16)] := by simp [hexL]
theorem hexF_size (s : ByteArray) : (hexF s).size = 2 * s.size := by
  rw [← ba_len, ← ba_len]; exact hexL_length _
theorem hexF_append (a b : ByteArray) : hexF (a ++ b) = hexF a ++ hexF b := by
  apply ba_ext; rw [ba_app]; show hexL _ = hexL _ ++ hexL _; rw [ba_app, hexL_append]
theorem hexD_inj : ∀ i, i < 16 → ∀ j, j < 16 → hexD i = hexD j → i = j := by decide
theorem hexL_inj : ∀ (a b : List UInt8), hexL a = hexL b → a = b := by
  intro a
  induction a with
  | nil => intro b h; cases b with
    | nil => rfl
    | cons c b => simp [hexL] at h
  | cons c a ih =>
    intro b h
    cases b with
    | nil => simp [hexL] at h
    | cons d b =>
      simp only [hexL, List.flatMap_cons, List.cons_append, List.nil_append, List.cons.injEq] at h
      obtain ⟨h1, h2, h3⟩ := h
      have hc : c.toNat < 256 := c.toNat_lt
      have hd : d.toNat < 256 := d.toNat_lt
      have e1 := hexD_inj _ (by omega) _ (by omega) h1
      have e2 := hexD_inj _ (by omega) _ (by omega) h2
      have e : c = d := UInt8.toNat_inj.1 (by omega)
      rw [e, ih b h3]
theorem hexF_inj {a b : ByteArray} (h : hexF a = hexF b) : a = b := by
  apply ba_ext
  apply hexL_inj
  have := congrArg (fun x : ByteArray => x.data.toList) h
  exact this
end Go.Proofs.YtmhlebnomagekaaDoor
