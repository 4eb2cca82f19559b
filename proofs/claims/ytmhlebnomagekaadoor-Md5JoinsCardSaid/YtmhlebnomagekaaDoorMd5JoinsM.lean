/- Md5Joins: parts are digested as they are one behind the other; digits are two a byte, and tell bytes apart: the walk. -/
import Derived.Test.YtmhlebnomagekaaDoorMd5Joins
import Derived.Test.YtmhlebnomagekaaDoorOwn
set_option linter.unusedVariables false
set_option linter.unusedSimpArgs false
namespace Go.Proofs.YtmhlebnomagekaaDoor
open Go.RowKit Go.Proofs.YtmhlebnomagekaaDoorW.PrintWords Go.Proofs.YtmhlebnomagekaaDoor.PM
theorem hex_beq (s t : ByteArray) : ((hexF s).toList == (hexF t).toList) = (s.toList == t.toList) := by
  rw [Bool.eq_iff_iff, beq_iff_eq, beq_iff_eq, ByteArray.toList_eq, ByteArray.toList_eq, ByteArray.toList_eq, ByteArray.toList_eq]
  exact ⟨fun h => hexL_inj _ _ h, fun h => by show hexL _ = hexL _; rw [h]⟩
theorem str2 {w : World} {A : Addr} (x y : ByteArray) (h : w.cell? (A.add 0) = some (.string x)) (h' : w.cell? (A.add 1) = some (.string y)) : ∀ j z, [x, y][j]? = some z → w.cell? (A.add j) = some (.string z) := by
  intro j z hz
  match j, hz with
  | 0, hz => simp at hz; subst hz; exact h
  | 1, hz => simp at hz; subst hz; exact h'
  | j + 2, hz => simp at hz
set_option maxRecDepth 100000 in
set_option maxHeartbeats 8000000 in
theorem joins_main (A0 : Option Addr) (c0 : Nat) (l : List ByteArray) (s t : ByteArray) (w : World) (T : Trig w) (hB : 3 ≤ w.heap.size) (hr0 : Kd.C Kd.string w A0 l.length l) (hc0 : l.length ≤ c0)
    (hlb : ∀ x ∈ l, x.size ≤ 140737488351232) (hln : l.length ≤ 140737488351232) (hL : longB l = false) (hbig : s.size + t.size ≤ 4096) (ad : Addr) (hA : A0 = some ad) :
    Calls Tryd.prog 4 #[.slice A0 l.length c0, .string s, .string t] w fun e w' => e = .returned (.bool true) ∧ Below w.heap.size w w' := by
  have HLf := Aside0.mk (show halyardlaw05_long.f 101 l = some false by rw [long_f l hlb hln, hL])
  obtain ⟨hl60, hj⟩ := longB_false hL
  have HAf := Aside0.mk (all_f l (by omega) (by omega))
  have HR := Aside0.mk hr0
  clear hr0 hlb hL
  have hbig1 : (s.size : Int) + (t.size : Int) ≤ 4096 := by omega
  have hbig2 : s.size + t.size ≤ 9223372036854775807 := by omega
  have HJ2 := Aside0.mk (show joinA (l ++ [s, t]) = joinA l ++ (s ++ t) by rw [joinA_append, joinA_two])
  have HXs := Aside0.mk hj
  have hl64 : l.length ≤ 60 := hl60
  generalize hX : joinA l = X at HAf HJ2 HXs hj ⊢
  have HX := Aside0.mk hX
  clear hX
  have HD := Aside0.mk (digest_size X)
  have hB' : ∀ {W : World}, Aside0 (Below w.heap.size w W) → 3 ≤ W.heap.size := fun h => Nat.le_trans hB h.out.size
  have HB' := Aside0.mk @hB'
  clear hB'
  obtain ⟨i0, hi, hz0, hz1, hz2⟩ := info_parts infoString
  subst hA
  go_enter Tryd.func4, Tryd.ntmps4
  go_wp2_with fail
  refine (halyardlaw05_long.calls 101 (some ad) c0 l false _ HR.out hc0 HLf.out).mono ?_
  rintro e w1 ⟨rfl, hd⟩
  have HB1 := Aside0.mk hd.below
  clear hd
  go_wp2_with fail
  refine (halyardlaw05_all.calls 1001 (some ad) c0 l X _ (Kd.C_below HR.out HB1.out) hc0 HAf.out).mono ?_
  rintro e w2 ⟨rfl, hd⟩
  have HB2 := Aside0.mk (below_then hd.below HB1.out HB1.out.size)
  clear hd HB1
  go_wp2_with fail
  refine (md5_Sum_c (some ad) c0 l _ (T.below HB2.out hB) (HB'.out HB2) (Kd.C_below HR.out HB2.out) (by rw [HX.out]; have := HXs.out; omega) (by omega)).mono ?_
  rintro e w3 ⟨rfl, hb⟩
  rw [HX.out]
  have HB3 := Aside0.mk (below_then hb HB2.out HB2.out.size)
  clear hb HB2
  go_wp2_with fail
  have HB3' := Aside0.mk (HB3.out.alloc HB3.out.size (.cells #[.string X] 9))
  refine (md5_Sum_c (some ⟨w3.heap.size, 0, none⟩) 1 [X] _ (T.below HB3'.out hB) (HB'.out HB3') (strC _ _ [X] (by simp) (str1 _ (by simp [Addr.add]))) (by rw [joinA_single]; have := HXs.out; omega) (by simp)).mono ?_
  rintro e w4 ⟨rfl, hb⟩
  rw [joinA_single]
  have HB4 := Aside0.mk (below_then hb HB3'.out HB3'.out.size)
  clear hb HB3 HB3'
  go_wp2_with fail
  have HB4' := Aside0.mk (HB4.out.alloc HB4.out.size (.cells #[.string X] 9))
  refine (md5_Sum_c (some ⟨w4.heap.size, 0, none⟩) 1 [X] _ (T.below HB4'.out hB) (HB'.out HB4') (strC _ _ [X] (by simp) (str1 _ (by simp [Addr.add]))) (by rw [joinA_single]; have := HXs.out; omega) (by simp)).mono ?_
  rintro e w5 ⟨rfl, hb⟩
  rw [joinA_single]
  have HB5 := Aside0.mk (below_then hb HB4'.out HB4'.out.size)
  clear hb HB4 HB4'
  have hd16 := HD.out
  have HMap : Aside0 (∀ {W : World}, Below w.heap.size w W → ∀ j u, (l.map Value.string)[j]? = some u → W.cell? (ad.add j) = some u) := ⟨fun {W} hb j u hj => strC_at (Kd.C_below HR.out hb) rfl (by have := (List.getElem?_eq_some_iff.1 hj).1; simp at this; omega) j u hj⟩
  go_simp
  iterate 11 (go_step)
  change wpList _ _ _ (_ :: _) _ _
  refine wpList_append_want (by rfl) (.const (.slice none 0 0)) (.tmp 35) 26 rfl w.heap.size 9 i0 (.string ByteArray.empty) 1 16 Tryd.underlying26 hi hz0 hz1 hz2 rfl (by decide) _ 0 [] rfl ⟨rfl, .inl ⟨rfl, rfl⟩⟩ ad l.length c0 (l.map Value.string) rfl ?c1 ?c2 ?c3 ?c4 ?c5 ?c6 ?_
  case c1 => simp
  case c2 => exact HMap.out HB5.out
  case c3 => intro u hu; obtain ⟨x, _, rfl⟩ := List.mem_map.1 hu; rfl
  case c4 => unfold maxLen; omega
  case c5 => omega
  case c6 => exact HB5.out.size
  intro v6 w6 hown6 hgrow6 _
  have HO6 := Aside0.mk hown6
  have HB6 := Aside0.mk (HB5.out.grown hgrow6 HB5.out.size (fun k hk => by cases hk))
  clear hown6 hgrow6 HB5
  go_simp
  iterate 6 (go_step)
  change wpList _ _ _ (_ :: _) _ _
  refine wpList_append_want (by rfl) (.tmp 36) (.tmp 39) 26 rfl w.heap.size 9 i0 (.string ByteArray.empty) 1 16 Tryd.underlying26 hi hz0 hz1 hz2 rfl (by decide) _ _ _ rfl (HO6.out.alloc _) ⟨w6.heap.size, 0, none⟩ 2 2 [.string s, .string t] rfl ?d1 ?d2 ?d3 ?d4 ?d5 ?d6 ?_
  case d1 => rfl
  case d2 =>
    intro j u hj
    match j, hj with
    | 0, hj => simp at hj; subst hj; simp [Addr.add]
    | 1, hj => simp at hj; subst hj; simp [Addr.add]
    | j + 2, hj => simp at hj
  case d3 => intro u hu; simp only [List.mem_cons, List.not_mem_nil, or_false] at hu; rcases hu with rfl | rfl <;> rfl
  case d4 => unfold maxLen; omega
  case d5 => omega
  case d6 => have := HB6.out.size; simp; omega
  intro v7 w7 hown7 hgrow7 _
  have HB7 := Aside0.mk ((HB6.out.alloc HB6.out.size (.cells #[.string s, .string t] 9)).grown hgrow7 (by have := HB6.out.size; simp; omega) (fun k hk => (HO6.out.lt k hk).1))
  obtain ⟨A7, cap7, rfl, hC7⟩ := own_strC (xs := l ++ [s, t]) (by simpa using hown7) (by simp) (by omega)
  have HC7 := Aside0.mk hC7
  have HLn := Aside0.mk (show (l ++ [s, t]).length ≤ 1099511627776 by simp; omega)
  clear hown7 hgrow7 HB6 HO6 hC7 hi hz0 hz1 hz2
  generalize l ++ [s, t] = LL at *
  go_simp
  go_step
  refine (md5_Sum_c (some A7) cap7 LL _ (T.below HB7.out hB) (HB'.out HB7) HC7.out (by rw [HJ2.out, ByteArray.size_append, ByteArray.size_append]; omega) HLn.out).mono ?_
  rintro e w8 ⟨rfl, hb⟩
  rw [HJ2.out]
  have HB8 := Aside0.mk (below_then hb HB7.out HB7.out.size)
  clear hb HB7 HC7
  go_wp2_with fail
  have HB8' := Aside0.mk (HB8.out.alloc HB8.out.size (.cells #[.string X, .string (s ++ t)] 9))
  refine (md5_Sum_c (some ⟨w8.heap.size, 0, none⟩) 2 [X, s ++ t] _ (T.below HB8'.out hB) (HB'.out HB8') (strC _ _ [X, s ++ t] (by simp) (str2 _ _ (by simp [Addr.add]) (by simp [Addr.add]))) (by rw [joinA_two, ByteArray.size_append, ByteArray.size_append]; omega) (by simp)).mono ?_
  rintro e w9 ⟨rfl, hb⟩
  rw [joinA_two]
  have HB9 := Aside0.mk (below_then hb HB8'.out HB8'.out.size)
  clear hb HB8 HB8'
  have hhs := hexF_size s
  go_wp2_with fail
  refine (hex_c s _ (by omega)).mono ?_
  rintro e w10 ⟨rfl, hb⟩
  have HB10 := Aside0.mk (below_then hb HB9.out HB9.out.size)
  clear hb HB9
  go_wp2_with fail
  refine (hex_c s _ (by omega)).mono ?_
  rintro e w11 ⟨rfl, hb⟩
  have HB11 := Aside0.mk (below_then hb HB10.out HB10.out.size)
  clear hb HB10 hhs
  go_wp2_with fail
  refine (hex_c t _ (by omega)).mono ?_
  rintro e w12 ⟨rfl, hb⟩
  have HB12 := Aside0.mk (below_then hb HB11.out HB11.out.size)
  clear hb HB11
  have hbe := hex_beq s t
  go_wp2_with fail
  clear hbe
  refine (hex_c (s ++ t) _ (by rw [ByteArray.size_append]; omega)).mono ?_
  rintro e w13 ⟨rfl, hb⟩
  rw [hexF_append]
  have HB13 := Aside0.mk (below_then hb HB12.out HB12.out.size)
  clear hb HB12
  go_wp2_with fail
  refine (hex_c s _ (by omega)).mono ?_
  rintro e w14 ⟨rfl, hb⟩
  have HB14 := Aside0.mk (below_then hb HB13.out HB13.out.size)
  clear hb HB13
  go_wp2_with fail
  refine (hex_c t _ (by omega)).mono ?_
  rintro e w15 ⟨rfl, hb⟩
  have HB15 := Aside0.mk (below_then hb HB14.out HB14.out.size)
  have hss : (9223372036854775807 < (hexF s).size + (hexF t).size) = False := by rw [hexF_size, hexF_size]; exact eq_false (by omega)
  clear hb HB14
  go_wp2_with fail
  refine (alive05 _ (T.below HB15.out hB) (HB'.out HB15)).mono ?_
  rintro e w16 ⟨rfl, hb⟩
  go_wp2
  go_ret
  exact ⟨rfl, below_then hb HB15.out HB15.out.size⟩
end Go.Proofs.YtmhlebnomagekaaDoor
