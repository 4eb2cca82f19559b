/- The contracts of package octet over this seat's translation, by hand: what each call hands back, in plain words on byte strings. -/
import Derived.Test.YtmhlebnomagekaaBld
import Derived.Test.YtmhlebnomagekaaShelf
import Derived.Test.YtmhlebnomagekaaKit
import Derived.Test.YtmhlebnomagekaaPAx2
import Derived.Test.YtmhlebnomagekaaWMore
import Derived.Deep.QuietTactic
import Derived.BigQuiet
set_option linter.unusedVariables false
set_option linter.unusedSimpArgs false
namespace Go.Proofs.Ytmhlebnomagekaa
open Go.RowKit Go.Proofs.YtmhlebnomagekaaW.PrintWords

theorem ret1 {v u : Value} (h : v = u) : Ending.returned v = .returned u := by rw [h]

/-- the value of a u32's shift and mask, as the walk spells it -/
def be32 (n : Int) : List Int := [n / 16777216, n / 65536 % 256, n / 256 % 256, n % 256]
def be16 (n : Int) : List Int := [n / 256, n % 256]

set_option maxHeartbeats 1000000 in
set_option maxRecDepth 100000 in
theorem put32_any (n : Int) (w : World) (h0 : 0 ≤ n) (h1 : n < 4294967296) :
    Calls Try.prog 57 #[.int .u32 n] w fun e w' => e = .returned (.string (strOfNums (be32 n))) ∧ Below w.heap.size w w' := by
  have hcv : (convert 161 9 (.slice (some ⟨w.heap.size, 0, none⟩) 4 4)).run Try.prog (w.alloc (.cells #[.int .u8 (n / 16777216), .int .u8 (n / 65536 % 256), .int .u8 (n / 256 % 256), .int .u8 (n % 256)] 197)) = .ok (.string (strOfNums (be32 n))) (w.alloc (.cells #[.int .u8 (n / 16777216), .int .u8 (n / 65536 % 256), .int .u8 (n / 256 % 256), .int .u8 (n % 256)] 197)) := by
    rw [run_convert_bytes_string _ _ _ _ _ _ _ Try.underlying161 Try.underlying5 Try.underlying9]
    rw [run_bytesToString _ _ 4 4 (be32 n)]
    · rfl
    · simp [loadCells, loadCellsFrom, Addr.add, go_sem, be32]
  go_enter Try.func57, Try.ntmps57
  go_wp2
  refine wp_loop_rounds 5 ?_
  iterate 5 (rw [rounds_succ]; go_wp2)
  go_ret
  exact ⟨rfl, (Below.refl _ _).alloc (Nat.le_refl _) _⟩

/-! ### what the printed functions say, in plain words -/
open Go.Proofs.Ytmhlebnomagekaa.PA

/-- n bytes of a number, the highest first -/
def beN (v : Int) : Nat → List Int
  | 0 => []
  | n + 1 => beN (v / 256) n ++ [v % 256]
theorem beN_length (v : Int) (n : Nat) : (beN v n).length = n := by
  induction n generalizing v with
  | zero => rfl
  | succ n ih => simp [beN, ih]

theorem num_l0 (d : Nat) : ∀ (k : Nat) (v : Int) (m i : Int) (s : List Int), 0 ≤ v → v ≤ 18446744073709551615 → 0 ≤ i → i + d = m → m ≤ 1000 → s.length + d ≤ 1000 → d < k →
    halyardref01_Num.l0 k v m (strOfNums s) i = some (strOfNums (beN v d ++ s)) := by
  induction d with
  | zero =>
    intro k v m i s h0 h1 h2 h3 h4 h5 hk
    obtain ⟨k, rfl⟩ : ∃ q, k = q + 1 := ⟨k - 1, by omega⟩
    simp only [halyardref01_Num.l0]
    rw [if_neg (by omega)]
    simp [beN]
  | succ d ih =>
    intro k v m i s h0 h1 h2 h3 h4 h5 hk
    obtain ⟨k, rfl⟩ : ∃ q, k = q + 1 := ⟨k - 1, by omega⟩
    have e1 : Int.tmod v 256 % 256 = v % 256 := by rw [Int.tmod_eq_emod_of_nonneg h0]; omega
    have e2 : IntKind.u64.wrap (Int.tdiv v 256) = v / 256 := by rw [Int.tdiv_eq_ediv_of_nonneg h0]; exact u64_of (by omega) (by omega)
    simp only [halyardref01_Num.l0]
    rw [if_pos (by omega), e1, e2, wrap64_of (by omega) (by omega)]
    simp only [Option.bind_some]
    rw [if_pos (by rw [strOfNums_size, strOfNums_size]; simp; omega), strOfNums_append, ih k (v / 256) m (i + 1) _ (by omega) (by omega) (by omega) (by omega) h4 (by simp; omega) (by omega)]
    simp [beN]

theorem num_f (v : Int) (m : Nat) (h0 : 0 ≤ v) (h1 : v ≤ 18446744073709551615) (hm : m ≤ 1000) (k : Nat) (hk : m < k) : halyardref01_Num.f k v m = some (strOfNums (beN v m)) := by
  unfold halyardref01_Num.f
  have := num_l0 m k v m 0 [] h0 h1 (by omega) (by omega) (by omega) (by simp; omega) hk
  simpa [strOfNums] using this

def text8 (s : ByteArray) : ByteArray := strOfNums [(s.size : Int)] ++ s
theorem text8_size (s : ByteArray) : (text8 s).size = s.size + 1 := by simp [text8, ByteArray.size_append, strOfNums_size]; omega

theorem octet_Text8_long {s : ByteArray} (h : 255 < s.size) : octet_Text8.f s = some (⟨#[]⟩, 5) := by
  unfold octet_Text8.f; rw [if_pos (by omega)]
theorem octet_Text8_short {s : ByteArray} (h : s.size ≤ 255) : octet_Text8.f s = some (text8 s, 0) := by
  unfold octet_Text8.f
  rw [if_neg (by omega)]
  simp only [Option.bind_some]
  rw [if_pos (by rw [strOfNums_size]; simp; omega)]
  have : ((s.size : Int)) % 256 = s.size := by omega
  rw [this]; rfl

def halyardref01_Text8.f (a0 : ByteArray) : Option (ByteArray × Int) := if 255 < a0.size then some (⟨#[]⟩, 5) else some (text8 a0, 0)
set_option maxHeartbeats 1000000 in
set_option maxRecDepth 100000 in
theorem halyardref01_Text8.calls (a0 : ByteArray) (r1 : ByteArray) (r2 : Int) (w : World) (h : halyardref01_Text8.f a0 = some (r1, r2)) :
    Calls Try.prog 99 #[.string a0] w fun e w' => e = .returned (.tuple #[.string r1, .int .i64 r2]) ∧ Below w.heap.size w w' := by
  unfold halyardref01_Text8.f at h
  by_cases hs : 255 < a0.size
  · rw [if_pos hs] at h
    simp only [Option.some.injEq, Prod.mk.injEq] at h
    obtain ⟨rfl, rfl⟩ := h
    go_enter Try.func99, Try.ntmps99
    go_wp2
    go_ret2
    exact ⟨rfl, Below.refl _ _⟩
  · rw [if_neg hs] at h
    simp only [Option.some.injEq, Prod.mk.injEq] at h
    obtain ⟨rfl, rfl⟩ := h
    have hn := num_f a0.size 1 (by omega) (by omega) (by omega) 2 (by omega)
    have e1 : beN (a0.size : Int) 1 = [(a0.size : Int)] := by simp [beN]; omega
    rw [e1] at hn
    have hz : (strOfNums [(a0.size : Int)]).size = 1 := by rw [strOfNums_size]; rfl
    have HZ := Aside0.mk hz
    have hb : (strOfNums [(a0.size : Int)]).size + a0.size ≤ 9223372036854775807 := by omega
    clear hz
    have HN := Aside0.mk hn
    clear hn
    go_enter Try.func99, Try.ntmps99
    go_wp2_with (go_at_call 60; refine (halyardref01_Num.calls 2 a0.size 1 _ _ HN.out).mono ?_; rintro e w' ⟨rfl, hb1⟩)
    go_ret2
    exact ⟨rfl, ‹_›⟩

/-! ### Join8 -/
def joinB (l : List ByteArray) : List UInt8 := l.flatMap fun s => (text8 s).data.toList
theorem joinB_snoc (l : List ByteArray) (s : ByteArray) : joinB (l ++ [s]) = joinB l ++ (text8 s).data.toList := by simp [joinB]
def join8 (l : List ByteArray) : ByteArray × Int := if ∀ s ∈ l, s.size ≤ 255 then (⟨(joinB l).toArray⟩, 0) else (⟨#[]⟩, 5)
def octet_Join8.f (l0 : List ByteArray) : Option (ByteArray × Int) := if l0.length ≤ 1000 then some (join8 l0) else none

theorem joinB_length (l : List ByteArray) (h : ∀ s ∈ l, s.size ≤ 255) : (joinB l).length ≤ 256 * l.length := by
  induction l with
  | nil => simp [joinB]
  | cons s l ih =>
    have h1 := ih (fun t ht => h t (List.mem_cons_of_mem _ ht))
    have h2 := h s List.mem_cons_self
    have h3 := text8_size s
    have h4 : (text8 s).data.toList.length = (text8 s).size := data_length _
    have h5 : (joinB (s :: l)).length = (text8 s).data.toList.length + (joinB l).length := by simp [joinB]
    have h6 : (s :: l).length = l.length + 1 := rfl
    omega

set_option maxHeartbeats 1000000 in
set_option maxRecDepth 100000 in
theorem octet_Join8.calls (A0 : Option Addr) (c0 : Nat) (l0 : List ByteArray) (r1 : ByteArray) (r2 : Int) (w : World) (hr0 : Kd.C Kd.string w A0 l0.length l0) (hc0 : l0.length ≤ c0) (h : octet_Join8.f l0 = some (r1, r2)) :
    Calls Try.prog 56 #[.slice A0 l0.length c0] w fun e w' => e = .returned (.tuple #[.string r1, .int .i64 r2]) ∧ Below w.heap.size w w' := by
  unfold octet_Join8.f at h
  rcases Nat.lt_or_ge 1000 l0.length with hl | hl
  · rw [if_neg (by omega)] at h; cases h
  rw [if_pos hl] at h
  simp only [Option.some.injEq] at h
  have HR := Aside0.mk hr0
  have H := Aside0.mk h
  clear h hr0
  have hnew := Aside0.mk (Bld.new w w.heap.size (Nat.le_refl _))
  go_enter Try.func56, Try.ntmps56
  go_wp2
  go_loopw [11] (fun i wr => ∃ k : Nat, k ≤ l0.length ∧ i = .int .i64 k ∧ Aside0 (∀ s ∈ l0.take k, s.size ≤ 255) ∧ Aside0 (Bld w.heap.size w.heap.size (joinB (l0.take k)) wr) ∧ Aside0 (Below w.heap.size w wr)) (fun i _ => l0.length - (intOf i).toNat)
  case atStart => exact ⟨0, Nat.zero_le _, rfl, ⟨by simp⟩, ⟨by simpa [joinB] using hnew.out⟩, ⟨(Below.refl _ _).alloc (Nat.le_refl _) _⟩⟩
  case round =>
    obtain ⟨k, hk, rfl, HS, HB, HW⟩ := hrel
    by_cases hlt : k < l0.length
    · obtain ⟨ad, e0, hx⟩ := Kd.at_string HR.out k (by omega) (by omega)
      cases e0
      replace hx := (HW.out.cell (World.block_lt_of_cell? w _ hx)).trans hx
      have p0 := eq_true (show (0 : Int) ≤ (k : Int) by omega)
      have p1 := eq_true (show (k : Int) < (l0.length : Int) by omega)
      obtain ⟨s, hs⟩ : ∃ s, s = rdOf ByteArray.empty l0 k := ⟨_, rfl⟩
      rw [← hs, Int.toNat_natCast] at hx
      have hs' : l0[k]? = some s := by simp [hs, rdOf, List.getElem?_eq_getElem hlt]
      have HS1 := Aside0.mk hs'
      clear hs hs'
      have hsz := HB.out
      by_cases h255 : 255 < s.size
      · have ht := Aside0.mk (octet_Text8_long h255)
        have H255 := Aside0.mk h255
        clear h255
        go_wp2_with (go_at_call 98; refine (octet_Text8.calls _ _ _ _ ht.out).mono ?_; rintro e w' ⟨rfl, hb1⟩)
        go_ret2
        refine ⟨?_, HW.out.trans (hb1.mono HW.out.size)⟩
        have h2 := H.out
        unfold join8 at h2
        rw [if_neg (fun hh => absurd (hh s (List.mem_of_getElem? HS1.out)) (by have := H255.out; omega))] at h2
        simp only [Prod.mk.injEq] at h2
        obtain ⟨rfl, rfl⟩ := h2
        rfl
      · have ht := Aside0.mk (octet_Text8_short (Nat.le_of_not_lt h255))
        have H255 := Aside0.mk h255
        clear h255
        have hjl := joinB_length _ HS.out
        have hjl' : (joinB (l0.take k)).length + (text8 s).size ≤ 140737488355328 := by
          rw [text8_size]; have := List.length_take_le k l0; have := H255.out; omega
        clear hjl
        go_wp2_with (first | (go_at_call 98; refine (octet_Text8.calls _ _ _ _ ht.out).mono ?_; rintro e w' ⟨rfl, hb1⟩) | (go_at_call 86; refine (bld_WriteString w.heap.size w.heap.size _ _ _ (HB.out.below hb1) hjl').mono ?_; rintro e w'' ⟨rfl, h1, h2, h3⟩))
        go_roundw
        case rel =>
          have e1 : l0.take (k + 1) = l0.take k ++ [s] := by rw [List.take_add_one, HS1.out]; rfl
          refine ⟨k + 1, by omega, by go_num, ⟨?_⟩, ⟨?_⟩, ⟨?_⟩⟩
          · rw [e1]; intro t ht
            rcases List.mem_append.1 ht with ht | ht
            · exact HS.out t ht
            · rw [List.mem_singleton.1 ht]; have := H255.out; omega
          · rw [e1, joinB_snoc]; exact h1
          · exact (HW.out.trans (hb1.mono HW.out.size)).trans h2
        case measure => simp [intOf]; omega
    · have hk2 : k = l0.length := by omega
      have HK := Aside0.mk hk2
      clear hk2
      have p1 : ((k : Int) < (l0.length : Int)) = False := eq_false (by omega)
      go_wp2_with (first | (go_at_call 88; refine (Try.Builder_String_any_k w.heap.size w.heap.size _ _ HB.out (by have := HB.out.lt; omega)).mono ?_; rintro e w' ⟨rfl, hb1⟩))
      go_ret2
      have h2 := H.out
      have h3 := HS.out
      rw [HK.out, List.take_length] at h3 ⊢
      unfold join8 at h2
      rw [if_pos h3] at h2
      simp only [Prod.mk.injEq] at h2
      obtain ⟨rfl, rfl⟩ := h2
      exact ⟨rfl, HW.out.trans (by first | exact hb1.2.1 | exact hb1.1 | exact hb1)⟩
/-! ### Read8, Get32 in plain words -/
def read8 (s : ByteArray) : ByteArray × ByteArray × Int :=
  if (s.size : Int) ≤ bt s 0 then (⟨#[]⟩, ⟨#[]⟩, 6) else (s.extract 1 (1 + (bt s 0).toNat), s.extract (1 + (bt s 0).toNat) s.size, 0)
theorem octet_Read8_f (s : ByteArray) (hs : s.size ≤ 140737488355328) : octet_Read8.f s = some (read8 s) := by
  unfold octet_Read8.f read8
  have hb := bt_range s 0
  by_cases h0 : s.size = 0
  · have e : bt s 0 = 0 := by unfold bt; rw [dif_neg (show ¬ (0 : Int).toNat < s.size by rw [h0]; decide)]
    rw [if_pos (toList_eq_nil.2 h0), if_pos (show (s.size : Int) ≤ bt s 0 by omega)]
  · rw [if_neg (fun h => h0 (toList_eq_nil.1 h)), if_pos (show (0 : Int) < (s.size : Int) by omega), wrap64_of (n := bt s 0) (by omega) (by omega)]
    by_cases h1 : (s.size : Int) ≤ bt s 0
    · rw [if_pos h1, if_pos h1]
    · have e : (1 + bt s 0).toNat = 1 + (bt s 0).toNat := by omega
      have a1 : (1 : Int) ≤ 1 + bt s 0 := by omega
      have a2 : 1 + bt s 0 ≤ (s.size : Int) := by omega
      have a3 : (0 : Int) ≤ 1 + bt s 0 := by omega
      simp only [h1, if_false, wrap64_of (show -9223372036854775808 ≤ 1 + bt s 0 by omega) (by omega), a1, a2, a3, if_true, e]

/-- the number of bytes, the highest first -/
def val (l : List Int) : Int := l.foldl (fun v b => v * 256 + b) 0
theorem or_byte {v b : Int} (h0 : 0 ≤ v) (h1 : v < 16777216) (h2 : 0 ≤ b) (h3 : b ≤ 255) : Go.bits .or .u32 ((v * 256) % 4294967296) (b % 4294967296) = v * 256 + b := by
  rw [Int.emod_eq_of_lt (by omega) (by omega), Int.emod_eq_of_lt (by omega) (by omega)]
  exact bits_join .u32 32 (by decide) (fun n h0 h1 => by rw [IntKind.wrap_u32]; omega) 8 _ _ (by omega) (by omega) (by omega) h2 (by omega) (by omega)
/-- four bytes as a number -/
def val32 (s : ByteArray) : Int := ((bt s 0 * 256 + bt s 1) * 256 + bt s 2) * 256 + bt s 3
theorem val32_range (s : ByteArray) : 0 ≤ val32 s ∧ val32 s < 4294967296 := by
  unfold val32
  have h0 := bt_range s 0
  have h1 := bt_range s 1
  have h2 := bt_range s 2
  have h3 := bt_range s 3
  omega
theorem octet_Get32_f (s : ByteArray) (hs : s.size = 4) : octet_Get32.f 5 s = some (val32 s, 0) := by
  have h0 := bt_range s 0
  have h1 := bt_range s 1
  have h2 := bt_range s 2
  have h3 := bt_range s 3
  have hz : (s.size : Int) = 4 := by omega
  unfold octet_Get32.f octet_number.f
  rw [hz]
  have o0 := or_byte (v := 0) (b := bt s 0) (by omega) (by omega) h0.1 h0.2
  have o1 := or_byte (v := bt s 0) (b := bt s 1) (by omega) (by omega) h1.1 h1.2
  have o2 := or_byte (v := bt s 0 * 256 + bt s 1) (b := bt s 2) (by omega) (by omega) h2.1 h2.2
  have o3 := or_byte (v := (bt s 0 * 256 + bt s 1) * 256 + bt s 2) (b := bt s 3) (by omega) (by omega) h3.1 h3.2
  simp only [octet_number.l0, hz]
  simp only [show wrap64 (0 + 1) = 1 from wrap64_of (by omega) (by omega), show wrap64 (1 + 1) = 2 from wrap64_of (by omega) (by omega), show wrap64 (2 + 1) = 3 from wrap64_of (by omega) (by omega), show wrap64 (3 + 1) = 4 from wrap64_of (by omega) (by omega)]
  have o0' : Go.bits .or .u32 0 (bt s 0 % 4294967296) = bt s 0 := by simpa using o0
  simp only [Int.zero_mul, show (0 : Int) % 4294967296 = 0 from rfl, o0', o1, o2, o3]
  simp [val32]

theorem bytesOf_getElem? (s : ByteArray) (i : Nat) (h : i < s.size) : (bytesOf s)[i]? = some (bt s i) := by
  have := rd_bytesOf s i
  unfold rd at this
  rw [← this, List.getD_eq_getElem?_getD, Int.toNat_natCast, List.getElem?_eq_getElem (by rw [bytesOf_length]; exact h)]
  rfl
def octet_Put32.f (a0 : Int) : Option ByteArray := if 0 ≤ a0 ∧ a0 < 4294967296 then some (strOfNums (be32 a0)) else none
theorem octet_Put32.calls (a0 : Int) (r : ByteArray) (w : World) (h : octet_Put32.f a0 = some r) :
    Calls Try.prog 57 #[.int .u32 a0] w fun e w' => e = .returned (.string r) ∧ Below w.heap.size w w' := by
  unfold octet_Put32.f at h
  split at h
  · rename_i hs
    simp only [Option.some.injEq] at h
    subst h
    exact put32_any a0 w hs.1 hs.2
  · cases h
end Go.Proofs.Ytmhlebnomagekaa
