/- (*Hash).Sum: the digest of what was written. -/
import Derived.Test.YtmhlebnomagekaaDoorMd5Sum
import Derived.Deep.LoopGhost
set_option linter.unusedVariables false
set_option linter.unusedSimpArgs false
namespace Go.Proofs.YtmhlebnomagekaaDoor
open Go.RowKit Go.Proofs.YtmhlebnomagekaaDoorW.PrintWords

/-- what stands behind the blocks of a text and its padding so far -/
def tailZ (l : ByteArray) (i : Nat) : ByteArray := (l ++ mark ++ zeros i).extract (64 * (l.size / 64)) (l ++ mark ++ zeros i).size
theorem tailZ_size (l : ByteArray) (i : Nat) : (tailZ l i).size = l.size - 64 * (l.size / 64) + 1 + i := by
  have e : (l ++ mark ++ zeros i).size = l.size + 1 + i := by simp only [ByteArray.size_append, zeros_size]; rfl
  unfold tailZ
  rw [extract_size' _ _ _ (by omega) (Nat.le_refl _), e]; omega
theorem tailZ_succ (l : ByteArray) (i : Nat) : tailZ l i ++ ⟨#[0]⟩ = tailZ l (i + 1) := by
  have e : (l ++ mark ++ zeros i).size = l.size + 1 + i := by simp only [ByteArray.size_append, zeros_size]; rfl
  unfold tailZ
  rw [extract_snoc _ _ _ (by omega), ByteArray.append_assoc (c := ⟨#[0]⟩), zeros_snoc]
theorem tailZ_zero (l : ByteArray) : l.extract (64 * (l.size / 64)) l.size ++ ⟨#[128]⟩ = tailZ l 0 := by
  unfold tailZ
  rw [extract_snoc _ _ _ (by omega)]
  have : l ++ mark ++ zeros 0 = l ++ ⟨#[128]⟩ := by apply ba_ext; simp [ba_app, zeros, mark]
  rw [this]
def tailN (l : ByteArray) (k : Nat) : ByteArray := (l ++ mark ++ zeros (gap l.size) ++ le (8 * l.size) k).extract (64 * (l.size / 64)) (l ++ mark ++ zeros (gap l.size) ++ le (8 * l.size) k).size
theorem tailN_size (l : ByteArray) (k : Nat) : (tailN l k).size = l.size - 64 * (l.size / 64) + 1 + gap l.size + k := by
  have e : (l ++ mark ++ zeros (gap l.size) ++ le (8 * l.size) k).size = l.size + 1 + gap l.size + k := by simp only [ByteArray.size_append, zeros_size, le_size]; rfl
  unfold tailN
  rw [extract_size' _ _ _ (by omega) (Nat.le_refl _), e]; omega
theorem tailN_zero (l : ByteArray) : tailZ l (gap l.size) = tailN l 0 := by
  unfold tailZ tailN
  have : l ++ mark ++ zeros (gap l.size) ++ le (8 * l.size) 0 = l ++ mark ++ zeros (gap l.size) := by apply ba_ext; simp [ba_app, le]
  rw [this]
theorem tailN_succ (l : ByteArray) (k : Nat) : tailN l k ++ ⟨#[UInt8.ofNat (8 * l.size / 2 ^ (8 * k))]⟩ = tailN l (k + 1) := by
  have e : (l ++ mark ++ zeros (gap l.size) ++ le (8 * l.size) k).size = l.size + 1 + gap l.size + k := by simp only [ByteArray.size_append, zeros_size, le_size]; rfl
  unfold tailN
  rw [extract_snoc _ _ _ (by omega), ByteArray.append_assoc (c := ⟨#[UInt8.ofNat (8 * l.size / 2 ^ (8 * k))]⟩), le_snoc]
theorem tailN_all (l : ByteArray) : tailN l 8 = (padF l).extract (64 * (l.size / 64)) (padF l).size := rfl
theorem one_byte (m k : Nat) : strOfNums [(m : Int) / 2 ^ (8 * k) % 256] = ⟨#[UInt8.ofNat (m / 2 ^ (8 * k))]⟩ := by
  have e : ((m : Int) / 2 ^ (8 * k) % 256).toNat = m / 2 ^ (8 * k) % 256 := by
    have h1 : (2 : Int) ^ (8 * k) = ((2 ^ (8 * k) : Nat) : Int) := by simp
    rw [h1]
    omega
  apply ba_ext
  simp only [strOfNums, List.map_cons, List.map_nil, e]
  show [UInt8.ofNat _] = [UInt8.ofNat _]
  congr 1
  apply UInt8.toNat_inj.1
  simp
theorem gap_lt (n : Nat) : gap n < 64 := Nat.mod_lt _ (by decide)
theorem gap_at (n i : Nat) (hi : i < gap n) : (n - 64 * (n / 64) + 1 + i) % 64 ≠ 56 := by unfold gap at hi; omega
theorem gap_end (n : Nat) : (n - 64 * (n / 64) + 1 + gap n) % 64 = 56 := by unfold gap; omega

set_option maxRecDepth 100000 in
set_option maxHeartbeats 2000000 in
theorem hsum_c (g : Nat) (l : ByteArray) (w : World) (T : Trig w) (hB : 3 ≤ w.heap.size) (h : HashOf w g l) (hl : l.size ≤ 1099511627776) :
    Calls Tryd.prog 18 #[.pointer (some ⟨g, 0, none⟩)] w fun e w' => e = .returned (.string (digest l)) ∧ Below w.heap.size w w' := by
  have hgl := h.lt
  have c0 : w.cell? ⟨g, 0, none⟩ = some (.int .u32 (foldF l (l.size / 64)).a) := h.cell 0
  have c1 : w.cell? ⟨g, 1, none⟩ = some (.int .u32 (foldF l (l.size / 64)).b) := h.cell 1
  have c2 : w.cell? ⟨g, 2, none⟩ = some (.int .u32 (foldF l (l.size / 64)).c) := h.cell 2
  have c3 : w.cell? ⟨g, 3, none⟩ = some (.int .u32 (foldF l (l.size / 64)).d) := h.cell 3
  have c4 : w.cell? ⟨g, 4, none⟩ = some (.string (l.extract (64 * (l.size / 64)) l.size)) := h.cell 4
  have c5 : w.cell? ⟨g, 5, none⟩ = some (.int .i64 l.size) := h.cell 5
  have hrs : (l.extract (64 * (l.size / 64)) l.size).size = l.size - 64 * (l.size / 64) := extract_size' _ _ _ (by omega) (Nat.le_refl _)
  have hrb : (l.extract (64 * (l.size / 64)) l.size).size ≤ 1099511627776 := by omega
  have hz0 := tailZ_zero l
  clear hrs h
  generalize hr : l.extract (64 * (l.size / 64)) l.size = r0 at c4 hrb hz0
  have HR := Aside0.mk hr
  have HZ0 := Aside0.mk hz0
  clear hr hz0
  generalize hs : foldF l (l.size / 64) = S at c0 c1 c2 c3
  have HS := Aside0.mk hs
  clear hs
  go_enter Tryd.func18, Tryd.ntmps18
  go_wp2
  rw [HZ0.out]
  have HH0 : Aside0 (HashAt (w.alloc (.cells #[.int .u32 S.a, .int .u32 S.b, .int .u32 S.c, .int .u32 S.d, .string r0, .int .i64 l.size] 77)) w.heap.size S r0 l.size) := ⟨heap_new rfl⟩
  have hb0 : Below w.heap.size w (w.alloc (.cells #[.int .u32 S.a, .int .u32 S.b, .int .u32 S.c, .int .u32 S.d, .string r0, .int .i64 l.size] 77)) := (Below.refl _ _).alloc (Nat.le_refl _) _
  have z0 : (w.alloc (.cells #[.int .u32 S.a, .int .u32 S.b, .int .u32 S.c, .int .u32 S.d, .string r0, .int .i64 l.size] 77)).heap.size = w.heap.size + 1 := by simp
  generalize w.alloc (.cells #[.int .u32 S.a, .int .u32 S.b, .int .u32 S.c, .int .u32 S.d, .string r0, .int .i64 l.size] 77) = wc at HH0 hb0 z0 ⊢
  replace c5 : wc.cell? ⟨g, 5, none⟩ = some (.int .i64 l.size) := (hb0.cell (p := ⟨g, 5, none⟩) hgl).trans c5
  have Z0 := Aside0.mk z0
  have HB0 := Aside0.mk hb0
  clear z0 hb0 c0 c1 c2 c3 c4
  go_loop [4] (fun v => ∃ i, i ≤ gap l.size ∧ v = .string (tailZ l i)) (fun v => match v with | .string x => (tailZ l (gap l.size)).size - x.size | _ => 0)
  case atStart => exact ⟨0, Nat.zero_le _, rfl⟩
  case round =>
    obtain ⟨i, hi, rfl⟩ := hrel
    have hz := tailZ_size l i
    have hzz := tailZ_size l (gap l.size)
    have hg := gap_lt l.size
    have hzb : (tailZ l i).size ≤ 1099511628000 := by omega
    by_cases hlt : i < gap l.size
    · have hne : ¬ ((tailZ l i).size : Int) % 64 = 56 := by
        have := gap_at l.size i hlt
        rw [hz]; omega
      have HN := Aside0.mk (tailZ_succ l i)
      have hz1 := tailZ_size l (i + 1)
      have HZ := Aside0.mk (And.intro hz (And.intro hz1 hzz))
      have HG := Aside0.mk hlt
      clear hz hz1 hzz
      generalize hZ : tailZ l i = Z at *
      have HZ' := Aside0.mk hZ
      clear hZ
      go_wp2
      go_round
      case rel => exact ⟨i + 1, HG.out, by rw [HN.out]⟩
      case measure =>
        rw [HN.out]
        show (tailZ l (gap l.size)).size - (tailZ l (i + 1)).size < (tailZ l (gap l.size)).size - Z.size
        have := HZ.out
        have := HG.out
        omega
    · have HI := Aside0.mk (show i = gap l.size by omega)
      have heq : ((tailZ l i).size : Int) % 64 = 56 := by
        have := gap_end l.size
        rw [hz, HI.out]; omega
      clear hz hzz hlt
      have HZ := Aside0.mk (show tailZ l i = tailN l 0 by rw [HI.out, tailN_zero])
      generalize hZ : tailZ l i = Z at *
      have HZ' := Aside0.mk hZ
      clear hZ
      go_wp2
      rw [show (l.size : Int) * 8 = ((8 * l.size : Nat) : Int) by omega]
      have hm : 8 * l.size ≤ 8796093022208 := by omega
      have HM := Aside0.mk (show ∀ k, tailN l k ++ ⟨#[UInt8.ofNat (8 * l.size / 2 ^ (8 * k))]⟩ = tailN l (k + 1) from tailN_succ l)
      generalize 8 * l.size = m at hm HM ⊢
      have HMB := Aside0.mk hm
      rw [show Z = tailN l 0 from HZ.out]
      clear HZ HZ' heq hzb HI
      go_loopw [4, 27] (fun v i wr => ∃ k : Nat, k ≤ 8 ∧ i = .int .i64 k ∧ v = .string (tailN l k) ∧ Aside0 (Below (w.heap.size + 1) wc wr)) (fun _ i _ => 8 - (intOf i).toNat)
      case atStart => exact ⟨0, by omega, rfl, rfl, ⟨Below.refl _ _⟩⟩
      case round =>
        obtain ⟨k, hk, rfl, rfl, HW⟩ := hrel
        have hz := tailN_size l k
        have hzb : (tailN l k).size ≤ 1099511628000 := by omega
        by_cases hlt : k < 8
        · have hcv : ∀ b : Int, (convert 57 9 (.slice (some ⟨wr.heap.size, 0, none⟩) 1 1)).run Tryd.prog (wr.alloc (.cells #[.int .u8 b] 5)) = .ok (.string (strOfNums [b])) (wr.alloc (.cells #[.int .u8 b] 5)) := fun b =>
            run_convert_bytes_arg (P := Tryd.prog) _ 57 5 Tryd.underlying57 Tryd.underlying5 wr.heap.size 0 1 1 [b] rfl (fun i hi => by
              obtain rfl : i = 0 := by omega
              simp) 9 Tryd.underlying9
          have hs1 : ∀ b : Int, (strOfNums [b]).size = 1 := fun b => strOfNums_size _
          have HS1 := Aside0.mk hs1
          have HN := HM.out k
          have HN := Aside0.mk HN
          clear hz hs1
          generalize hY : tailN l k = Y at *
          have HY := Aside0.mk hY
          clear hY
          have hadd : (9223372036854775807 < Y.size + (strOfNums [(m : Int) / 2 ^ (8 * k) % 256]).size) = False := by rw [HS1.out]; exact eq_false (by omega)
          go_wp2
          go_roundw
          case rel => exact ⟨k + 1, by omega, by go_num, by rw [one_byte, HN.out], ⟨HW.out.alloc (by have := HW.out.size; have := Z0.out; omega) _⟩⟩
          case measure => simp [intOf]; omega
        · obtain rfl : k = 8 := by omega
          have p1 : (((8 : Nat) : Int) < 8) = False := eq_false (by omega)
          have HT8 := Aside0.mk (tailN_all l)
          generalize hY : tailN l 8 = Y at *
          have HY := Aside0.mk hY
          clear hY hz
          go_wp2
          rw [show Y = (padF l).extract (64 * (l.size / 64)) (padF l).size from HT8.out]
          have hP : (padF l).size % 64 = 0 := padF_dvd l
          have hPs := padF_size l
          have hPb : (padF l).size ≤ 1099511628000 := by omega
          have hq : l.size / 64 ≤ (padF l).size / 64 := by omega
          have HE : Aside0 (foldF (padF l) (l.size / 64) = foldF l (l.size / 64)) := ⟨by
            have e : padF l = l ++ (mark ++ (zeros (gap l.size) ++ le (8 * l.size) 8)) := by unfold padF; rw [ByteArray.append_assoc, ByteArray.append_assoc]
            rw [e]; exact foldF_front l _ _ (by omega)⟩
          have HD : Aside0 (digest l = bytesF (foldF (padF l) ((padF l).size / 64))) := ⟨rfl⟩
          clear hPs HT8 HM HY hzb
          generalize padF l = P at *
          have HP := Aside0.mk hP
          clear hP
          go_loopg [4] (P.size / 64 - l.size / 64) (fun gk v wr => ∃ j, gk = P.size / 64 - j ∧ j ≤ P.size / 64 ∧ v = .string (P.extract (64 * j) P.size) ∧ Aside0 (HashAt wr w.heap.size (foldF P j) r0 l.size) ∧ Aside0 (Below w.heap.size w wr))
          case atStart =>
            refine ⟨l.size / 64, rfl, hq, rfl, ⟨?_⟩, ⟨?_⟩⟩
            · rw [HE.out, HS.out]
              exact (HW.out.block w.heap.size (Nat.lt_succ_self _)).trans HH0.out
            · exact below_then (HW.out.mono (by rw [Z0.out]; exact Nat.le_refl _)) HB0.out (by rw [Z0.out]; omega)
          case round =>
            obtain ⟨j, hgk, hj, rfl, HH, HWr⟩ := hrel
            have HG := Aside0.mk hgk
            clear hgk
            by_cases hlt : j < P.size / 64
            · have hsz : (P.extract (64 * j) P.size).size = P.size - 64 * j := extract_size' _ _ _ (by omega) (Nat.le_refl _)
              have e1 := extract_head P (64 * j) 64 (by omega)
              have e2 := extract_tail P (64 * j) 64 (by omega)
              have hge : (64 : Int) ≤ ((P.extract (64 * j) P.size).size : Int) := by omega
              have hz64 : (P.extract (64 * j) (64 * j + 64)).size = 64 := by rw [extract_size' _ _ _ (by omega) (by omega)]; omega
              have hne : (P.extract (64 * j) P.size).toList.isEmpty = false := by
                have : ¬ (P.extract (64 * j) P.size).toList = [] := fun h => by rw [toList_eq_nil] at h; omega
                cases hh : (P.extract (64 * j) P.size).toList with
                | nil => exact absurd hh this
                | cons a b => rfl
              have E12 := Aside0.mk (And.intro e1 e2)
              have HZ := Aside0.mk hz64
              clear hsz e1 e2 hz64
              generalize hR : P.extract (64 * j) P.size = R at *
              have HR' := Aside0.mk hR
              clear hR
              go_wp2_with (go_at_call 48; refine (block_hash w.heap.size _ (foldF_wf P j) _ _ _ (by rw [E12.out.1]; exact HZ.out) _ (T.below HWr.out hB) hB HH.out).mono ?_; rintro e w' ⟨rfl, hH, hO⟩)
              have HH' := Aside0.mk hH
              clear hH
              go_roundg (P.size / 64 - (j + 1))
              case rel =>
                refine ⟨j + 1, rfl, by omega, ?_, ⟨?_⟩, ⟨?_⟩⟩
                · have e := E12.out.2
                  rw [show 64 * j + 64 = 64 * (j + 1) by omega] at e
                  rw [e]
                · have h1 := HH'.out
                  rw [E12.out.1] at h1
                  rw [foldF_succ]
                  exact h1
                · exact only_new HWr.out hO (Nat.le_refl _) HWr.out.size
              case measure => have := HG.out; omega
            · obtain rfl : j = P.size / 64 := by omega
              have he : P.extract (64 * (P.size / 64)) P.size = ⟨#[]⟩ := by
                have : 64 * (P.size / 64) = P.size := by have := HP.out; omega
                rw [this]; exact extract_none P
              rw [he]
              have HWF := Aside0.mk (foldF_wf P (P.size / 64))
              clear he
              generalize hF : foldF P (P.size / 64) = F at *
              have HF := Aside0.mk hF
              clear hF
              go_wp2_with (go_at_call 49; refine (bytes_c w.heap.size F HWF.out _ _ _ HH.out).mono ?_; rintro e w' ⟨rfl, hb⟩)
              go_ret
              exact ⟨ret_s HD.out.symm, below_then hb HWr.out HWr.out.size⟩
end Go.Proofs.YtmhlebnomagekaaDoor
