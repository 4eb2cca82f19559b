/- md5's exported functions: Sum of parts, Copy, what no Hash answers, Hex. -/
import Derived.Test.YtmhlebnomagekaaDoorMd5HSum
import Derived.Test.YtmhlebnomagekaaDoorShelf

set_option linter.unusedVariables false
set_option linter.unusedSimpArgs false
namespace Go.Proofs.YtmhlebnomagekaaDoor
open Go.RowKit Go.Proofs.YtmhlebnomagekaaDoorW.PrintWords

/-- texts, one behind the other -/
def joinA (l : List ByteArray) : ByteArray := ⟨⟨l.flatMap fun s => s.data.toList⟩⟩
theorem joinA_nil : joinA [] = ⟨#[]⟩ := rfl
theorem joinA_snoc (l : List ByteArray) (s : ByteArray) : joinA (l ++ [s]) = joinA l ++ s := by
  apply ba_ext; rw [ba_app]; simp [joinA]
theorem joinA_append (l m : List ByteArray) : joinA (l ++ m) = joinA l ++ joinA m := by
  apply ba_ext; rw [ba_app]; simp [joinA]
theorem joinA_take_le (l : List ByteArray) (k : Nat) : (joinA (l.take k)).size ≤ (joinA l).size := by
  have : joinA l = joinA (l.take k) ++ joinA (l.drop k) := by rw [← joinA_append, List.take_append_drop]
  rw [this, ByteArray.size_append]; omega
set_option maxRecDepth 100000 in
set_option maxHeartbeats 1000000 in
theorem md5_Sum_c (A0 : Option Addr) (c0 : Nat) (ls : List ByteArray) (w : World) (T : Trig w) (hB : 3 ≤ w.heap.size) (hr0 : Kd.C Kd.string w A0 ls.length ls) (hl : (joinA ls).size ≤ 1099511627776) (hn : ls.length ≤ 1099511627776) :
    Calls Tryd.prog 11 #[.slice A0 ls.length c0] w fun e w' => e = .returned (.string (digest (joinA ls))) ∧ Below w.heap.size w w' := by
  have HR := Aside0.mk hr0
  clear hr0
  go_enter Tryd.func11, Tryd.ntmps11
  go_wp2_with (go_at_call 21; refine (new_c _).mono ?_; rintro e w1 ⟨g, hg, rfl, hH, hb1⟩)
  have HH1 := Aside0.mk hH
  have HB1 := Aside0.mk hb1
  clear hH hb1
  go_loopw [9] (fun i wr => ∃ k : Nat, k ≤ ls.length ∧ i = .int .i64 k ∧ Aside0 (HashOf wr g (joinA (ls.take k))) ∧ Aside0 (Below w.heap.size w wr)) (fun i _ => ls.length - (intOf i).toNat)
  case atStart => exact ⟨0, Nat.zero_le _, rfl, ⟨HH1.out⟩, ⟨HB1.out⟩⟩
  case round =>
    obtain ⟨k, hk, rfl, HH, HW⟩ := hrel
    by_cases hlt : k < ls.length
    · obtain ⟨ad, e0, hx⟩ := Kd.at_string HR.out k (by omega) (by omega)
      cases e0
      replace hx := (HW.out.cell (World.block_lt_of_cell? w _ hx)).trans hx
      have p0 := eq_true (show (0 : Int) ≤ (k : Int) by omega)
      have p1 := eq_true (show (k : Int) < (ls.length : Int) by omega)
      obtain ⟨s, hs⟩ : ∃ s, s = rdOf ByteArray.empty ls k := ⟨_, rfl⟩
      rw [← hs, Int.toNat_natCast] at hx
      have hs' : ls[k]? = some s := by simp [hs, rdOf, List.getElem?_eq_getElem hlt]
      have e1 : joinA (ls.take (k + 1)) = joinA (ls.take k) ++ s := by rw [List.take_add_one, hs', ← joinA_snoc]; rfl
      have hsz : (joinA (ls.take k)).size + s.size ≤ 1099511627776 := by
        have := joinA_take_le ls (k + 1); rw [e1, ByteArray.size_append] at this; omega
      have E1 := Aside0.mk e1
      clear hs hs' e1
      go_wp2_with (go_at_call 17; refine (write_c g _ _ _ (T.below HW.out hB) (by omega) HH.out hsz).mono ?_; rintro e w' ⟨rfl, hH, hO⟩)
      have HH' := Aside0.mk hH
      clear hH
      go_roundw
      case rel => exact ⟨k + 1, by omega, by go_num, ⟨by rw [E1.out]; exact HH'.out⟩, ⟨only_new HW.out hO hg HW.out.size⟩⟩
      case measure => simp [intOf]; omega
    · have HK := Aside0.mk (show k = ls.length by omega)
      have p1 : ((k : Int) < (ls.length : Int)) = False := eq_false (by omega)
      have hsz : (joinA (ls.take k)).size ≤ 1099511627776 := Nat.le_trans (joinA_take_le ls k) hl
      have hBr : 3 ≤ wr.heap.size := Nat.le_trans hB HW.out.size
      go_wp2_with (go_at_call 18; refine (hsum_c g _ _ (T.below HW.out hB) hBr HH.out hsz).mono ?_; rintro e w' ⟨rfl, hb⟩)
      go_ret
      exact ⟨ret_s (by rw [HK.out, List.take_length]), below_then hb HW.out HW.out.size⟩

set_option maxRecDepth 100000 in
theorem write_nil (s : ByteArray) (w : World) : Calls Tryd.prog 17 #[.pointer none, .string s] w fun e w' => e = .returned (.int .i64 1) ∧ w = w' := by
  go_enter Tryd.func17, Tryd.ntmps17
  go_wp2
  go_ret
  exact ⟨rfl, rfl⟩
set_option maxRecDepth 100000 in
theorem hsum_nil (w : World) : Calls Tryd.prog 18 #[.pointer none] w fun e w' => e = .returned (.string ⟨#[]⟩) ∧ w = w' := by
  go_enter Tryd.func18, Tryd.ntmps18
  go_wp2
  go_ret
  exact ⟨rfl, rfl⟩
set_option maxRecDepth 100000 in
theorem len_nil (w : World) : Calls Tryd.prog 19 #[.pointer none] w fun e w' => e = .returned (.int .i64 0) ∧ w = w' := by
  go_enter Tryd.func19, Tryd.ntmps19
  go_wp2
  go_ret
  exact ⟨rfl, rfl⟩
set_option maxRecDepth 100000 in
theorem copy_nil (w : World) : Calls Tryd.prog 20 #[.pointer none] w fun e w' => e = .returned (.pointer none) ∧ w = w' := by
  go_enter Tryd.func20, Tryd.ntmps20
  go_wp2
  go_ret
  exact ⟨rfl, rfl⟩
set_option maxRecDepth 100000 in
set_option maxHeartbeats 1000000 in
theorem copy_c (g : Nat) (l : ByteArray) (w : World) (h : HashOf w g l) :
    Calls Tryd.prog 20 #[.pointer (some ⟨g, 0, none⟩)] w fun e w' => ∃ g', w.heap.size ≤ g' ∧ e = .returned (.pointer (some ⟨g', 0, none⟩)) ∧ HashOf w' g' l ∧ Below w.heap.size w w' := by
  have hgl := h.lt
  unfold HashOf at h ⊢
  generalize foldF l (l.size / 64) = S at h ⊢
  generalize l.extract (64 * (l.size / 64)) l.size = r0 at h ⊢
  have c0 : w.cell? ⟨g, 0, none⟩ = some (.int .u32 S.a) := h.cell 0
  have c1 : w.cell? ⟨g, 1, none⟩ = some (.int .u32 S.b) := h.cell 1
  have c2 : w.cell? ⟨g, 2, none⟩ = some (.int .u32 S.c) := h.cell 2
  have c3 : w.cell? ⟨g, 3, none⟩ = some (.int .u32 S.d) := h.cell 3
  have c4 : w.cell? ⟨g, 4, none⟩ = some (.string r0) := h.cell 4
  have c5 : w.cell? ⟨g, 5, none⟩ = some (.int .i64 l.size) := h.cell 5
  clear h
  go_enter Tryd.func20, Tryd.ntmps20
  go_wp2
  go_region
  go_wp2
  go_ret
  refine ⟨w.heap.size, Nat.le_refl _, rfl, heap_new rfl, ?_⟩
  · repeat (with_reducible first | exact Below.refl _ _ | apply below_drewN' | apply Below.drew | refine below_of_more ?_ (by simp <;> omega) _ _ | refine Below.alloc ?_ (by simp <;> omega) _ | refine Below.setCell ?_ (Nat.le_refl _) _ | refine Below.setCell ?_ (by simp <;> omega) _)
theorem hexD_at (n : Nat) (h : n < (⟨#[48, 49, 50, 51, 52, 53, 54, 55, 56, 57, 97, 98, 99, 100, 101, 102]⟩ : ByteArray).size) : ((⟨#[48, 49, 50, 51, 52, 53, 54, 55, 56, 57, 97, 98, 99, 100, 101, 102]⟩ : ByteArray)[n]'h) = hexD n := by
  have h' : n < 16 := h
  match n, h' with
  | 0, _ => rfl
  | 1, _ => rfl
  | 2, _ => rfl
  | 3, _ => rfl
  | 4, _ => rfl
  | 5, _ => rfl
  | 6, _ => rfl
  | 7, _ => rfl
  | 8, _ => rfl
  | 9, _ => rfl
  | 10, _ => rfl
  | 11, _ => rfl
  | 12, _ => rfl
  | 13, _ => rfl
  | 14, _ => rfl
  | 15, _ => rfl
  | n + 16, h => omega
theorem and15 : ∀ n : Nat, n < 256 → Go.bits .and .u8 (n : Int) 15 = ((n % 16 : Nat) : Int) := of_decide_eq_true (by kernel_rfl)
theorem hexD_lt (n : Nat) : (hexD n).toNat < 256 := UInt8.toNat_lt _
set_option maxRecDepth 100000 in
set_option maxHeartbeats 1000000 in
theorem hex_c (s : ByteArray) (w : World) (hs : s.size ≤ 1099511627776) :
    Calls Tryd.prog 13 #[.string s] w fun e w' => e = .returned (.string (hexF s)) ∧ Below w.heap.size w w' := by
  have hnew := Aside0.mk (Bld.new w w.heap.size (Nat.le_refl _))
  go_enter Tryd.func13, Tryd.ntmps13
  go_wp2
  go_loopw [7] (fun i wr => ∃ k : Nat, k ≤ s.size ∧ i = .int .i64 k ∧ Aside0 (Bld w.heap.size w.heap.size (hexL (s.data.toList.take k)) wr) ∧ Aside0 (Below w.heap.size w wr)) (fun i _ => s.size - (intOf i).toNat)
  case atStart => exact ⟨0, Nat.zero_le _, rfl, ⟨by simpa [hexL] using hnew.out⟩, ⟨(Below.refl _ _).alloc (Nat.le_refl _) _⟩⟩
  case round =>
    obtain ⟨k, hk, rfl, HB, HW⟩ := hrel
    by_cases hlt : k < s.size
    · have p0 : (0 : Int) ≤ (k : Int) := by omega
      have p1 : (k : Int) < (s.size : Int) := by omega
      obtain ⟨c, hc⟩ : ∃ c : UInt8, c = s[k] := ⟨_, rfl⟩
      have hcl : c.toNat < 256 := c.toNat_lt
      have hb : ∀ h : k < s.size, ((s[k]'h).toNat : Int) = (c.toNat : Int) := fun h => by rw [hc]
      have e1 : s.data.toList.take (k + 1) = s.data.toList.take k ++ [c] := by
        rw [List.take_succ_eq_append_getElem (by simpa using hlt), hc]; rfl
      have E1 := Aside0.mk e1
      clear hc e1
      have q0 : (0 : Int) ≤ (c.toNat : Int) / 16 := by omega
      have q1 : (c.toNat : Int) / 16 < 16 := by omega
      have q2 : (c.toNat : Int) ≤ 255 := by omega
      have q3 : (0 : Int) ≤ (c.toNat : Int) % 16 := by omega
      have q4 : (c.toNat : Int) % 16 < 16 := by omega
      have hd0 : ∀ h, (((⟨#[48, 49, 50, 51, 52, 53, 54, 55, 56, 57, 97, 98, 99, 100, 101, 102]⟩ : ByteArray)[c.toNat / 16]'h).toNat : Int) = ((hexD (c.toNat / 16)).toNat : Int) := fun h => congrArg (fun x : UInt8 => (x.toNat : Int)) (hexD_at (c.toNat / 16) h)
      have hd1 : ∀ h, (((⟨#[48, 49, 50, 51, 52, 53, 54, 55, 56, 57, 97, 98, 99, 100, 101, 102]⟩ : ByteArray)[c.toNat % 16]'h).toNat : Int) = ((hexD (c.toNat % 16)).toNat : Int) := fun h => congrArg (fun x : UInt8 => (x.toNat : Int)) (hexD_at (c.toNat % 16) h)
      have ha := and15 c.toNat hcl
      have hl0 : (hexL (s.data.toList.take k)).length ≤ 2199023255552 := by rw [hexL_length]; have := List.length_take_le k s.data.toList; omega
      have HL := Aside0.mk hl0
      clear hl0
      go_wp2_with fail
      refine (bld_WriteByte w.heap.size w.heap.size _ _ _ HB.out (by have := HL.out; omega) (hexD_lt _)).mono ?_
      rintro e w1 ⟨rfl, hB1, hb1, _⟩
      have HB1 := Aside0.mk hB1
      have HW1 := Aside0.mk (HW.out.trans hb1)
      clear hB1 hb1
      go_wp2_with fail
      refine (bld_WriteByte w.heap.size w.heap.size _ _ _ HB1.out (by have := HL.out; rw [List.length_append, List.length_singleton]; omega) (hexD_lt _)).mono ?_
      rintro e w2 ⟨rfl, hB2, hb2, _⟩
      have HB2 := Aside0.mk hB2
      have HW2 := Aside0.mk (HW1.out.trans hb2)
      clear hB2 hb2
      go_wp2
      go_roundw
      case rel =>
        refine ⟨k + 1, by omega, by go_num, ⟨?_⟩, ⟨HW2.out⟩⟩
        have := HB2.out
        rw [E1.out, hexL_snoc]
        simpa using this
      case measure => simp [intOf]; omega
    · have HK := Aside0.mk (show k = s.size by omega)
      have p1 : ((k : Int) < (s.size : Int)) = False := eq_false (by omega)
      go_wp2_with (first | (go_at_call 47; refine (Tryd.Builder_String_any_k w.heap.size w.heap.size _ _ HB.out (by have := HB.out.lt; omega)).mono ?_; rintro e w' ⟨rfl, hb1⟩))
      go_ret
      refine ⟨ret_s ?_, HW.out.trans (by first | exact hb1.2.1 | exact hb1.1 | exact hb1)⟩
      rw [HK.out, List.take_of_length_le (by rw [ba_len]; omega)]
      rfl
end Go.Proofs.YtmhlebnomagekaaDoor
