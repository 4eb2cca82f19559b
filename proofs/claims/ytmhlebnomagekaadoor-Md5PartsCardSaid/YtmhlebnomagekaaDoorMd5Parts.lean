/- Md5Parts: in whatever parts a text is written its digest is the same, whatever was asked between; and so of copies: the walk. -/
import Derived.Test.YtmhlebnomagekaaDoorMd5Law
import Derived.Test.YtmhlebnomagekaaDoorMd5Alive
import Derived.Test.YtmhlebnomagekaaDoorMd5Joins
set_option linter.unusedVariables false
set_option linter.unusedSimpArgs false
namespace Go.Proofs.YtmhlebnomagekaaDoor
open Go.RowKit Go.Proofs.YtmhlebnomagekaaDoorW.PrintWords Go.Proofs.YtmhlebnomagekaaDoor.PM
theorem HashOf.below {w w' : World} {g : Nat} {l : ByteArray} (h : HashOf w g l) (hb : Below w.heap.size w w') : HashOf w' g l := HashAt.below h hb
theorem HashOf.lt {w : World} {g : Nat} {l : ByteArray} (h : HashOf w g l) : g < w.heap.size := HashAt.lt h
theorem HashOf.other {w w' : World} {g g' : Nat} {l : ByteArray} (h : HashOf w g l) (ho : w.grownBy w' (some g')) (hne : g ≠ g') : HashOf w' g l :=
  (ho.block g h.lt (by intro e; injection e with e; exact hne e)).trans h
set_option maxRecDepth 100000 in
set_option maxHeartbeats 4000000 in
theorem parts_long (A0 : Option Addr) (c0 : Nat) (l : List ByteArray) (n : Int) (w : World) (T : Trig w) (hB : 3 ≤ w.heap.size) (hr0 : Kd.C Kd.string w A0 l.length l) (hc0 : l.length ≤ c0)
    (hlb : ∀ x ∈ l, x.size ≤ 140737488351232) (hln : l.length ≤ 140737488351232) (hL : longB l = true) :
    Calls Tryd.prog 5 #[.slice A0 l.length c0, .int .u8 n] w fun e w' => e = .returned (.bool true) ∧ Below w.heap.size w w' := by
  have HLf := Aside0.mk (show halyardlaw05_long.f 101 l = some true by rw [long_f l hlb hln, hL])
  have HR := Aside0.mk hr0
  clear hr0 hlb hL
  go_enter Tryd.func5, Tryd.ntmps5
  go_wp2_with fail
  refine (halyardlaw05_long.calls 101 A0 c0 l true _ HR.out hc0 HLf.out).mono ?_
  rintro e w1 ⟨rfl, hd⟩
  have HB1 := Aside0.mk hd.below
  clear hd
  go_wp2_with fail
  refine (alive05 _ (T.below HB1.out hB) (Nat.le_trans hB HB1.out.size)).mono ?_
  rintro e w2 ⟨rfl, hb⟩
  go_wp2
  go_ret
  exact ⟨rfl, below_then hb HB1.out HB1.out.size⟩
set_option maxRecDepth 100000 in
set_option maxHeartbeats 8000000 in
theorem parts_main (A0 : Option Addr) (c0 : Nat) (l : List ByteArray) (n : Int) (w : World) (T : Trig w) (hB : 3 ≤ w.heap.size) (hr0 : Kd.C Kd.string w A0 l.length l) (hc0 : l.length ≤ c0)
    (hlb : ∀ x ∈ l, x.size ≤ 140737488351232) (hln : l.length ≤ 140737488351232) (hL : longB l = false) (hn0 : 0 ≤ n) (hn1 : n ≤ 255) :
    Calls Tryd.prog 5 #[.slice A0 l.length c0, .int .u8 n] w fun e w' => e = .returned (.bool true) ∧ Below w.heap.size w w' := by
  have HLf := Aside0.mk (show halyardlaw05_long.f 101 l = some false by rw [long_f l hlb hln, hL])
  obtain ⟨hl60, hj⟩ := longB_false hL
  have HR := Aside0.mk hr0
  clear hr0 hlb hL
  have HJ := Aside0.mk hj
  clear hj
  have hB' : ∀ {W : World}, Aside0 (Below w.heap.size w W) → 3 ≤ W.heap.size := fun h => Nat.le_trans hB h.out.size
  have HB' := Aside0.mk @hB'
  clear hB'
  go_enter Tryd.func5, Tryd.ntmps5
  go_wp2_with fail
  refine (halyardlaw05_long.calls 101 A0 c0 l false _ HR.out hc0 HLf.out).mono ?_
  rintro e w1 ⟨rfl, hd⟩
  have HB1 := Aside0.mk hd.below
  clear hd
  go_wp2_with fail
  refine (write_nil _ _).mono ?_
  rintro e w2 ⟨rfl, rfl⟩
  go_wp2_with fail
  refine (hsum_nil _).mono ?_
  rintro e w2 ⟨rfl, rfl⟩
  go_wp2_with fail
  refine (len_nil _).mono ?_
  rintro e w2 ⟨rfl, rfl⟩
  go_wp2_with fail
  refine (copy_nil _).mono ?_
  rintro e w2 ⟨rfl, rfl⟩
  go_wp2_with fail
  refine (new_c _).mono ?_
  rintro e w2 ⟨g, hg, rfl, hH, hb⟩
  have HH2 := Aside0.mk hH
  have HB2 := Aside0.mk (below_then hb HB1.out HB1.out.size)
  have HG := Aside0.mk (show w.heap.size ≤ g from Nat.le_trans HB1.out.size hg)
  clear hH hb hg HB1
  go_wp2_with fail
  refine (len_c g _ _ HH2.out).mono ?_
  rintro e w3 ⟨rfl, rfl⟩
  rw [show ((⟨#[]⟩ : ByteArray).size : Int) = 0 from rfl]
  go_wp2_with fail
  refine (hsum_c g _ _ (T.below HB2.out hB) (HB'.out HB2) HH2.out (by decide)).mono ?_
  rintro e w4 ⟨rfl, hb⟩
  have HB4 := Aside0.mk (below_then hb HB2.out HB2.out.size)
  have HH4 := Aside0.mk (HH2.out.below hb)
  clear hb HB2 HH2
  go_wp2_with fail
  refine (md5_Sum_c none 0 [] _ (T.below HB4.out hB) (HB'.out HB4) ⟨rfl, by simp, fun h0 => absurd h0 (by simp)⟩ (by decide) (by decide)).mono ?_
  rintro e w5 ⟨rfl, hb⟩
  rw [show joinA ([] : List ByteArray) = ⟨#[]⟩ from rfl]
  have HB5 := Aside0.mk (below_then hb HB4.out HB4.out.size)
  have HH5 := Aside0.mk (HH4.out.below hb)
  clear hb HB4 HH4
  go_wp2
  go_loopw [6, 7, 8] (fun hv sv iv wr => ∃ (k g : Nat), k ≤ l.length ∧ iv = .int .i64 k ∧ sv = .string (joinA (l.take k)) ∧ hv = .pointer (some ⟨g, 0, none⟩) ∧ Aside0 (w.heap.size ≤ g) ∧ Aside0 (HashOf wr g (joinA (l.take k))) ∧ Aside0 (Below w.heap.size w wr)) (fun _ _ iv _ => l.length - (intOf iv).toNat)
  case atStart => exact ⟨0, g, Nat.zero_le _, rfl, rfl, rfl, HG, HH5, HB5⟩
  case round =>
    obtain ⟨k, g', hk, rfl, rfl, rfl, HG', HH, HW⟩ := hrel
    have hJk := joinA_take_le l k
    have hJb : (joinA (l.take k)).size ≤ 8192 := Nat.le_trans hJk HJ.out
    clear hJk
    by_cases hlt : k < l.length
    · obtain ⟨ad, e0, hx⟩ := Kd.at_string HR.out k (by omega) (by omega)
      cases e0
      have HXc := Aside0.mk hx
      clear hx
      have p0 := eq_true (show (0 : Int) ≤ (k : Int) by omega)
      have p1 := eq_true (show (k : Int) < (l.length : Int) by omega)
      obtain ⟨x, hx⟩ : ∃ x, x = rdOf ByteArray.empty l k := ⟨_, rfl⟩
      have HXe := Aside0.mk hx
      have e1 := joinA_take_succ l k x (by rw [hx]; exact rdOf_at l k hlt)
      have hsz : (joinA (l.take k)).size + x.size ≤ 8192 := by have := joinA_take_le l (k + 1); have := HJ.out; rw [e1, ByteArray.size_append] at *; omega
      have E1 := Aside0.mk e1
      clear hx e1
      generalize hJ' : joinA (l.take k) = J at *
      have HJ' := Aside0.mk hJ'
      clear hJ'
      have cellx : ∀ {W : World}, Aside0 (Below w.heap.size w W) → W.cell? (ad.add k) = some (.string x) := fun {W} hb => by
        have h1 := HXc.out
        rw [← HXe.out, Int.toNat_natCast] at h1
        exact (hb.out.cell (World.block_lt_of_cell? w _ h1)).trans h1
      have HC := Aside0.mk @cellx
      clear cellx
      by_cases hc : (k : Int) = n
      · have HCe := Aside0.mk hc
        have hc1 : ((k : Int) == n) = true := by simpa using hc
        clear hc
        go_wp2_with fail
        refine (copy_c g' J _ HH.out).mono ?_
        rintro e w6 ⟨g2, hg2, rfl, hH2, hb⟩
        have HG2 := Aside0.mk (And.intro (show w.heap.size ≤ g2 from Nat.le_trans HW.out.size hg2) (show g2 ≠ g' by have := HH.out.lt; omega))
        have HH2 := Aside0.mk hH2
        have HHo := Aside0.mk (HH.out.below hb)
        have HW6 := Aside0.mk (below_then hb HW.out HW.out.size)
        clear hb hH2 hg2 hc1
        go_wp2_with fail
        refine (write_c g' J _ _ (T.below HW6.out hB) (by have := HG'.out; omega) HHo.out (by have : (⟨#[115, 112, 111, 105, 108, 116]⟩ : ByteArray).size = 6 := rfl; omega)).mono ?_
        rintro e w7 ⟨rfl, _, hO⟩
        have HH7 := Aside0.mk (HH2.out.other hO HG2.out.2)
        have HW7 := Aside0.mk (only_new HW6.out hO HG'.out HW6.out.size)
        have hcx := HC.out HW7
        clear hO HHo HW6 HH2
        go_wp2_with fail
        refine (write_c g2 J x _ (T.below HW7.out hB) (by have := HG2.out; omega) HH7.out (by omega)).mono ?_
        rintro e w8 ⟨rfl, hH8, hO⟩
        have HH8 := Aside0.mk hH8
        have HW8 := Aside0.mk (only_new HW7.out hO HG2.out.1 HW7.out.size)
        clear hO hH8 HW7 HH7 hcx
        have hcx := HC.out HW8
        go_wp2_with fail
        clear hcx
        refine (hsum_c g2 (J ++ x) _ (T.below HW8.out hB) (HB'.out HW8) HH8.out (by rw [ByteArray.size_append]; omega)).mono ?_
        rintro e w9 ⟨rfl, hb⟩
        have HH9 := Aside0.mk (HH8.out.below hb)
        have HW9 := Aside0.mk (below_then hb HW8.out HW8.out.size)
        clear hb HW8 HH8
        go_wp2_with fail
        have HW9' := Aside0.mk (HW9.out.alloc HW9.out.size (.cells #[.string (J ++ x)] 9))
        refine (md5_Sum_c (some ⟨w9.heap.size, 0, none⟩) 1 [J ++ x] _ (T.below HW9'.out hB) (HB'.out HW9') (strC _ _ [J ++ x] (by simp) (str1 _ (by simp [Addr.add]))) (by rw [joinA_single, ByteArray.size_append]; omega) (by simp)).mono ?_
        rintro e w10 ⟨rfl, hb⟩
        rw [joinA_single]
        have HH10 := Aside0.mk ((HH9.out.below ((Below.refl _ _).alloc (Nat.le_refl _) (.cells #[.string (J ++ x)] 9))).below hb)
        have HW10 := Aside0.mk (below_then hb HW9'.out HW9'.out.size)
        clear hb HW9 HW9' HH9
        go_wp2_with fail
        refine (len_c g2 _ _ HH10.out).mono ?_
        rintro e w11 ⟨rfl, rfl⟩
        go_wp2
        go_roundw
        case rel => exact ⟨k + 1, g2, by omega, by go_num, by rw [E1.out], rfl, ⟨HG2.out.1⟩, ⟨by rw [E1.out]; exact HH10.out⟩, HW10⟩
        case measure => simp [intOf]; omega
      · have hc1 : ((k : Int) == n) = false := by simpa using hc
        have hcx := HC.out HW
        go_wp2_with fail
        refine (write_c g' J x _ (T.below HW.out hB) (by have := HG'.out; omega) HH.out (by omega)).mono ?_
        rintro e w8 ⟨rfl, hH8, hO⟩
        have HH8 := Aside0.mk hH8
        have HW8 := Aside0.mk (only_new HW.out hO HG'.out HW.out.size)
        clear hO hH8 hcx hc1
        have hcx := HC.out HW8
        go_wp2_with fail
        clear hcx
        refine (hsum_c g' (J ++ x) _ (T.below HW8.out hB) (HB'.out HW8) HH8.out (by rw [ByteArray.size_append]; omega)).mono ?_
        rintro e w9 ⟨rfl, hb⟩
        have HH9 := Aside0.mk (HH8.out.below hb)
        have HW9 := Aside0.mk (below_then hb HW8.out HW8.out.size)
        clear hb HW8 HH8
        go_wp2_with fail
        have HW9' := Aside0.mk (HW9.out.alloc HW9.out.size (.cells #[.string (J ++ x)] 9))
        refine (md5_Sum_c (some ⟨w9.heap.size, 0, none⟩) 1 [J ++ x] _ (T.below HW9'.out hB) (HB'.out HW9') (strC _ _ [J ++ x] (by simp) (str1 _ (by simp [Addr.add]))) (by rw [joinA_single, ByteArray.size_append]; omega) (by simp)).mono ?_
        rintro e w10 ⟨rfl, hb⟩
        rw [joinA_single]
        have HH10 := Aside0.mk ((HH9.out.below ((Below.refl _ _).alloc (Nat.le_refl _) (.cells #[.string (J ++ x)] 9))).below hb)
        have HW10 := Aside0.mk (below_then hb HW9'.out HW9'.out.size)
        clear hb HW9 HW9' HH9
        go_wp2_with fail
        refine (len_c g' _ _ HH10.out).mono ?_
        rintro e w11 ⟨rfl, rfl⟩
        go_wp2
        go_roundw
        case rel => exact ⟨k + 1, g', by omega, by go_num, by rw [E1.out], rfl, HG', ⟨by rw [E1.out]; exact HH10.out⟩, HW10⟩
        case measure => simp [intOf]; omega
    · have HK := Aside0.mk (show l.take k = l from List.take_of_length_le (by omega))
      have p1 : ((k : Int) < (l.length : Int)) = False := eq_false (by omega)
      rw [HK.out] at HH
      rw [HK.out]
      clear hJb
      generalize hX : joinA l = X at *
      have HX := Aside0.mk hX
      clear hX
      go_wp2_with fail
      refine (md5_Sum_c A0 c0 l _ (T.below HW.out hB) (HB'.out HW) (Kd.C_below HR.out HW.out) (by rw [HX.out]; have := HJ.out; omega) (by omega)).mono ?_
      rintro e w6 ⟨rfl, hb⟩
      rw [HX.out]
      have HH6 := Aside0.mk (HH.out.below hb)
      have HW6 := Aside0.mk (below_then hb HW.out HW.out.size)
      clear hb
      go_wp2_with fail
      have HW6' := Aside0.mk (HW6.out.alloc HW6.out.size (.cells #[.string X] 9))
      refine (md5_Sum_c (some ⟨w6.heap.size, 0, none⟩) 1 [X] _ (T.below HW6'.out hB) (HB'.out HW6') (strC _ _ [X] (by simp) (str1 _ (by simp [Addr.add]))) (by rw [joinA_single]; have := HJ.out; omega) (by simp)).mono ?_
      rintro e w7 ⟨rfl, hb⟩
      rw [joinA_single]
      have HH7 := Aside0.mk ((HH6.out.below ((Below.refl _ _).alloc (Nat.le_refl _) (.cells #[.string X] 9))).below hb)
      have HW7 := Aside0.mk (below_then hb HW6'.out HW6'.out.size)
      clear hb HW6 HW6' HH6
      go_wp2_with fail
      refine (hsum_c g' X _ (T.below HW7.out hB) (HB'.out HW7) HH7.out (by have := HJ.out; omega)).mono ?_
      rintro e w8 ⟨rfl, hb⟩
      have HH8 := Aside0.mk (HH7.out.below hb)
      have HW8 := Aside0.mk (below_then hb HW7.out HW7.out.size)
      clear hb HW7 HH7
      go_wp2_with fail
      refine (hsum_c g' X _ (T.below HW8.out hB) (HB'.out HW8) HH8.out (by have := HJ.out; omega)).mono ?_
      rintro e w9 ⟨rfl, hb⟩
      have HW9 := Aside0.mk (below_then hb HW8.out HW8.out.size)
      clear hb HW8 HH8
      go_wp2_with fail
      refine (alive05 _ (T.below HW9.out hB) (HB'.out HW9)).mono ?_
      rintro e w10 ⟨rfl, hb⟩
      go_wp2
      go_ret
      exact ⟨rfl, below_then hb HW9.out HW9.out.size⟩
end Go.Proofs.YtmhlebnomagekaaDoor
