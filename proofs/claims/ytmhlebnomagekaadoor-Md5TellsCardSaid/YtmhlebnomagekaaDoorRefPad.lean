/- The reference's padding and digits: the same texts as the program's. -/
import Derived.Test.YtmhlebnomagekaaDoorMd5HSum
import Derived.Test.YtmhlebnomagekaaDoorPMx1
import Derived.Deep.QuietTactic
import Derived.BigQuiet
set_option linter.unusedVariables false
set_option linter.unusedSimpArgs false
namespace Go.Proofs.YtmhlebnomagekaaDoor
open Go.RowKit Go.Proofs.YtmhlebnomagekaaDoorW.PrintWords Go.Proofs.YtmhlebnomagekaaDoor.PM

def halyardref05_Padded.f (a0 : ByteArray) : Option ByteArray := if a0.size ≤ 1099511627776 then some (padF a0) else none
def halyardref05_Hex.f (a0 : ByteArray) : Option ByteArray := if a0.size ≤ 1099511627776 then some (hexF a0) else none

def padZ (l : ByteArray) (i : Nat) : ByteArray := l ++ mark ++ zeros i
theorem padZ_size (l : ByteArray) (i : Nat) : (padZ l i).size = l.size + 1 + i := by simp only [padZ, ByteArray.size_append, zeros_size]; rfl
theorem padZ_succ (l : ByteArray) (i : Nat) : padZ l i ++ ⟨#[0]⟩ = padZ l (i + 1) := by
  unfold padZ; rw [ByteArray.append_assoc (c := ⟨#[0]⟩), zeros_snoc]
theorem padZ_zero (l : ByteArray) : l ++ ⟨#[128]⟩ = padZ l 0 := by apply ba_ext; simp [padZ, ba_app, zeros, mark]
theorem le8 (m : Nat) (h : m ≤ 8796093022208) : ∃ r1 r2, halyardref05_four.f ((m : Int) % 4294967296) = some r1 ∧ halyardref05_four.f ((m : Int) / 4294967296) = some r2 ∧ r1 ++ r2 = le m 8 ∧ r1.size = 4 ∧ r2.size = 4 := by
  refine ⟨_, _, rfl, rfl, ?_, strOfNums_size _, strOfNums_size _⟩
  rw [strOfNums_append]
  apply ba_ext
  have t1 : ∀ x : Int, 0 ≤ x → ∀ d : Int, Int.tdiv x d = x / d := fun x hx d => Int.tdiv_eq_ediv_of_nonneg hx
  rw [t1 _ (by omega), t1 _ (by omega), t1 _ (by omega), t1 _ (by omega), t1 _ (by omega), t1 _ (by omega)]
  simp only [strOfNums, le, List.cons_append, List.nil_append, List.map_cons, List.map_nil, List.range, List.range.loop]
  have e : ∀ (x : Int) (y : Nat), 0 ≤ x → x % 256 = ((y % 256 : Nat) : Int) → UInt8.ofNat (x % 256).toNat = UInt8.ofNat y := by
    intro x y h0 hxy
    apply UInt8.toNat_inj.1
    simp
    omega
  congr 1
  · exact e _ _ (by omega) (by simp <;> omega)
  congr 1
  · exact e _ _ (by omega) (by simp <;> omega)
  congr 1
  · exact e _ _ (by omega) (by simp <;> omega)
  congr 1
  · exact e _ _ (by omega) (by simp <;> omega)
  congr 1
  · exact e _ _ (by omega) (by simp <;> omega)
  congr 1
  · exact e _ _ (by omega) (by simp <;> omega)
  congr 1
  · exact e _ _ (by omega) (by simp <;> omega)
  congr 1
  · exact e _ _ (by omega) (by simp <;> omega)
set_option maxRecDepth 100000 in
set_option maxHeartbeats 2000000 in
theorem halyardref05_Padded.calls (a0 : ByteArray) (r : ByteArray) (w : World) (h : halyardref05_Padded.f a0 = some r) :
    Calls Tryd.prog 43 #[.string a0] w fun e w' => e = .returned (.string r) ∧ Below w.heap.size w w' := by
  unfold halyardref05_Padded.f at h
  split at h
  · rename_i hl
    simp only [Option.some.injEq] at h
    have H := Aside0.mk h
    clear h
    have HZ0 := Aside0.mk (padZ_zero a0)
    go_enter Tryd.func43, Tryd.ntmps43
    go_wp2
    rw [HZ0.out]
    go_loop [4] (fun v => ∃ i, i ≤ gap a0.size ∧ v = .string (padZ a0 i)) (fun v => match v with | .string x => (padZ a0 (gap a0.size)).size - x.size | _ => 0)
    case atStart => exact ⟨0, Nat.zero_le _, rfl⟩
    case round =>
      obtain ⟨i, hi, rfl⟩ := hrel
      have hz := padZ_size a0 i
      have hzz := padZ_size a0 (gap a0.size)
      have hg := gap_lt a0.size
      have hzb : (padZ a0 i).size ≤ 1099511628000 := by omega
      by_cases hlt : i < gap a0.size
      · have hne : ¬ ((padZ a0 i).size : Int) % 64 = 56 := by
          have := gap_at a0.size i hlt
          rw [hz]; omega
        have HN := Aside0.mk (padZ_succ a0 i)
        have hz1 := padZ_size a0 (i + 1)
        have HZ := Aside0.mk (And.intro hz (And.intro hz1 hzz))
        have HG := Aside0.mk hlt
        clear hz hz1 hzz
        generalize hZ : padZ a0 i = Z at *
        have HZ' := Aside0.mk hZ
        clear hZ
        go_wp2
        go_round
        case rel => exact ⟨i + 1, HG.out, by rw [HN.out]⟩
        case measure =>
          rw [HN.out]
          show (padZ a0 (gap a0.size)).size - (padZ a0 (i + 1)).size < (padZ a0 (gap a0.size)).size - Z.size
          have := HZ.out
          have := HG.out
          omega
      · have HI := Aside0.mk (show i = gap a0.size by omega)
        have heq : ((padZ a0 i).size : Int) % 64 = 56 := by
          have := gap_end a0.size
          rw [hz, HI.out]; omega
        clear hz hzz hlt
        obtain ⟨r1, r2, h1, h2, h3, h4, h5⟩ := le8 (8 * a0.size) (by omega)
        have hm : ((8 * a0.size : Nat) : Int) = (a0.size : Int) * 8 := by omega
        rw [hm] at h1 h2
        have HE := Aside0.mk (show padZ a0 i ++ r1 ++ r2 = r by rw [HI.out, ByteArray.append_assoc, h3]; exact H.out)
        generalize hZ : padZ a0 i = Z at *
        have HZ' := Aside0.mk hZ
        have H1 := Aside0.mk h1
        have H2 := Aside0.mk h2
        have s1 : (Z ++ r1).size + r2.size ≤ 9223372036854775807 := by rw [ByteArray.size_append]; omega
        have s2 : Z.size + r1.size ≤ 9223372036854775807 := by omega
        have s3 : (9223372036854775807 < Z.size + r1.size + r2.size) = False := eq_false (by omega)
        clear hZ h1 h2 h3 h4 h5 hm
        go_wp2_with fail
        refine (halyardref05_four.calls _ _ _ H1.out).mono ?_
        rintro e w1 ⟨rfl, hb1⟩
        go_wp2_with fail
        refine (halyardref05_four.calls _ _ _ H2.out).mono ?_
        rintro e w2 ⟨rfl, hb2⟩
        go_wp2
        go_ret
        exact ⟨ret_s HE.out, below_then hb2 hb1 hb1.size⟩
  · cases h
theorem hexD_cut (n : Nat) (h : n < 16) : (⟨#[48, 49, 50, 51, 52, 53, 54, 55, 56, 57, 97, 98, 99, 100, 101, 102]⟩ : ByteArray).extract n (n + 1) = ⟨#[hexD n]⟩ := by
  match n, h with
  | 0, _ => rfl
  | 1, _ => rfl
  | 2, _ => rfl
  | 3, _ => rfl
  | 4, _ => rfl
  | 5, _ => rfl
  | 6, _ => rfl
  | 7, _ => rfl
  | 8, _ => rfl
  | 9, _ => rfl
  | 10, _ => rfl
  | 11, _ => rfl
  | 12, _ => rfl
  | 13, _ => rfl
  | 14, _ => rfl
  | 15, _ => rfl
  | n + 16, h => omega
set_option maxRecDepth 100000 in
set_option maxHeartbeats 2000000 in
theorem halyardref05_Hex.calls (a0 : ByteArray) (r : ByteArray) (w : World) (h : halyardref05_Hex.f a0 = some r) :
    Calls Tryd.prog 14 #[.string a0] w fun e w' => e = .returned (.string r) ∧ Below w.heap.size w w' := by
  unfold halyardref05_Hex.f at h
  split at h
  · rename_i hl
    simp only [Option.some.injEq] at h
    have H := Aside0.mk h
    clear h
    go_enter Tryd.func14, Tryd.ntmps14
    go_wp2
    go_loopw [3, 4] (fun v i wr => ∃ k : Nat, k ≤ a0.size ∧ i = .int .i64 k ∧ v = .string ⟨⟨hexL (a0.data.toList.take k)⟩⟩ ∧ Aside0 (Below w.heap.size w wr)) (fun _ i _ => a0.size - (intOf i).toNat)
    case atStart => exact ⟨0, Nat.zero_le _, rfl, rfl, ⟨Below.refl _ _⟩⟩
    case round =>
      obtain ⟨k, hk, rfl, rfl, HW⟩ := hrel
      by_cases hlt : k < a0.size
      · have p0 : (0 : Int) ≤ (k : Int) := by omega
        have p1 : (k : Int) < (a0.size : Int) := by omega
        obtain ⟨c, hc⟩ : ∃ c : UInt8, c = a0[k] := ⟨_, rfl⟩
        have hcl : c.toNat < 256 := c.toNat_lt
        have hb : ∀ h : k < a0.size, ((a0[k]'h).toNat : Int) = (c.toNat : Int) := fun h => by rw [hc]
        have e1 : a0.data.toList.take (k + 1) = a0.data.toList.take k ++ [c] := by
          rw [List.take_succ_eq_append_getElem (by simpa using hlt), hc]; rfl
        have E1 := Aside0.mk e1
        have hl0 : (hexL (a0.data.toList.take k)).length ≤ 2199023255552 := by rw [hexL_length]; have := List.length_take_le k a0.data.toList; omega
        have hsn := hexL_snoc (a0.data.toList.take k) c
        rw [← e1] at hsn
        obtain ⟨m0, hm0⟩ : ∃ m, m = c.toNat / 16 := ⟨_, rfl⟩
        obtain ⟨m1, hm1⟩ : ∃ m, m = c.toNat % 16 := ⟨_, rfl⟩
        have hq : (c.toNat : Int) / 16 = (m0 : Int) := by omega
        have hr : (c.toNat : Int) % 16 = (m1 : Int) := by omega
        rw [← hm0, ← hm1] at hsn
        have l0 : m0 < 16 := by omega
        have l1 : m1 < 16 := by omega
        have x0 := hexD_cut m0 l0
        have x1 := hexD_cut m1 l1
        have a1 : (0 : Int) ≤ (m0 : Int) := by omega
        have a2 : (m0 : Int) ≤ (m0 : Int) + 1 := by omega
        have a3 : (m0 : Int) + 1 ≤ 16 := by omega
        have a4 : (0 : Int) ≤ (m0 : Int) + 1 := by omega
        have b1 : (0 : Int) ≤ (m1 : Int) := by omega
        have b2 : (m1 : Int) ≤ (m1 : Int) + 1 := by omega
        have b3 : (m1 : Int) + 1 ≤ 16 := by omega
        have b4 : (0 : Int) ≤ (m1 : Int) + 1 := by omega
        have hV : (⟨⟨hexL (a0.data.toList.take k)⟩⟩ : ByteArray).size ≤ 2199023255552 := by simpa [ByteArray.size] using hl0
        have HSN := Aside0.mk (show (⟨⟨hexL (a0.data.toList.take k)⟩⟩ : ByteArray) ++ ⟨#[hexD m0]⟩ ++ ⟨#[hexD m1]⟩ = ⟨⟨hexL (a0.data.toList.take (k + 1))⟩⟩ by
          apply ba_ext; rw [ba_app, ba_app]; exact hsn.symm)
        have o1 : ∀ d : UInt8, (⟨#[d]⟩ : ByteArray).size = 1 := fun d => rfl
        have O1 := Aside0.mk o1
        clear hm0 hm1 hsn hl0 E1 o1 hcl
        generalize hVd : (⟨⟨hexL (a0.data.toList.take k)⟩⟩ : ByteArray) = V at *
        have HVd := Aside0.mk hVd
        clear hVd
        have s1 : (9223372036854775807 < V.size + (⟨#[hexD m0]⟩ : ByteArray).size) = False := by rw [O1.out]; exact eq_false (by omega)
        have s2 : (9223372036854775807 < (V ++ ⟨#[hexD m0]⟩).size + (⟨#[hexD m1]⟩ : ByteArray).size) = False := by rw [ByteArray.size_append, O1.out, O1.out]; exact eq_false (by omega)
        have t1 : IntKind.u8.wrap ((m0 : Int) + 1) = (m0 : Int) + 1 := by simp [IntKind.wrap, IntKind.bits, IntKind.signed]; omega
        have t2 : IntKind.u8.wrap ((m1 : Int) + 1) = (m1 : Int) + 1 := by simp [IntKind.wrap, IntKind.bits, IntKind.signed]; omega
        have u1 : ((m0 : Int) + 1).toNat = m0 + 1 := by omega
        have u2 : ((m1 : Int) + 1).toNat = m1 + 1 := by omega
        go_wp2
        go_quiet (fail)
        clear t1 t2 u1 u2
        go_wp2
        go_roundw
        case rel => exact ⟨k + 1, by omega, by go_num, by rw [HSN.out], ⟨below_drewN' HW.out _⟩⟩
        case measure => simp [intOf]; omega
      · have HK := Aside0.mk (show k = a0.size by omega)
        have p1 : ((k : Int) < (a0.size : Int)) = False := eq_false (by omega)
        go_wp2
        go_ret
        refine ⟨ret_s ?_, HW.out⟩
        rw [← H.out, HK.out, List.take_of_length_le (by rw [ba_len]; omega)]
        rfl
  · cases h
end Go.Proofs.YtmhlebnomagekaaDoor
