/- md5's Sum: the digest of what was written; of parts; its digits. -/
import Derived.Test.YtmhlebnomagekaaDoorMd5Hash
import Derived.Test.YtmhlebnomagekaaDoorBld
import Derived.Laws.BytesArg
import Derived.Laws.OwnMore
set_option linter.unusedVariables false
set_option linter.unusedSimpArgs false
namespace Go.Proofs.YtmhlebnomagekaaDoor
open Go.RowKit Go.Proofs.YtmhlebnomagekaaDoorW.PrintWords

theorem ret_s {a b : ByteArray} (h : a = b) : Ending.returned (.string a) = .returned (.string b) := by rw [h]
def fourV (x : Int) : List Value := [.int .u8 (x % 256), .int .u8 (x / 256 % 256), .int .u8 (x / 65536 % 256), .int .u8 (x / 16777216)]
def words (s : St) : List Int := [s.a, s.b, s.c, s.d]
def rowV (s : St) (k : Nat) : List Value := ((words s).take k).flatMap fourV
theorem rowV_snoc (s : St) (k : Nat) (x : Int) (h : (words s)[k]? = some x) : rowV s (k + 1) = rowV s k ++ fourV x := by
  unfold rowV; rw [List.take_add_one, h]; simp
theorem word_wf {s : St} (h : s.wf) {k : Nat} {x : Int} (hx : (words s)[k]? = some x) : 0 ≤ x ∧ x < 4294967296 := by
  obtain ⟨h0, h1, h2, h3⟩ := h
  have := List.mem_of_getElem? hx
  simp only [words, List.mem_cons, List.not_mem_nil, or_false] at this
  rcases this with rfl | rfl | rfl | rfl <;> assumption
theorem words_some (s : St) (k : Nat) (hk : k < 4) : ∃ x, (words s)[k]? = some x := ⟨_, List.getElem?_eq_getElem (by simpa [words] using hk)⟩
theorem HashAt.word {w : World} {g : Nat} {s : St} {rest : ByteArray} {n : Nat} (h : HashAt w g s rest n) {k : Nat} {x : Int} (hx : (words s)[k]? = some x) : w.cell? ⟨g, k, none⟩ = some (.int .u32 x) := by
  rw [h.cell k]
  match k, hx with
  | 0, hx => simp [words] at hx; subst hx; rfl
  | 1, hx => simp [words] at hx; subst hx; rfl
  | 2, hx => simp [words] at hx; subst hx; rfl
  | 3, hx => simp [words] at hx; subst hx; rfl
  | k + 4, hx => simp [words] at hx
theorem rowV_all (s : St) : ∃ xs : List Int, rowV s 4 = xs.map (Value.int .u8) ∧ xs.length = 16 ∧ strOfNums xs = bytesF s := by
  refine ⟨(words s).flatMap fun x => [x % 256, x / 256 % 256, x / 65536 % 256, x / 16777216], rfl, rfl, ?_⟩
  unfold bytesF four
  rw [strOfNums_append, strOfNums_append, strOfNums_append]
  rfl
set_option maxRecDepth 100000 in
set_option maxHeartbeats 2000000 in
theorem bytes_c (g : Nat) (s : St) (hs : s.wf) (rest : ByteArray) (n : Nat) (w : World) (h : HashAt w g s rest n) :
    Calls Tryd.prog 49 #[.pointer (some ⟨g, 0, none⟩)] w fun e w' => e = .returned (.string (bytesF s)) ∧ Below w.heap.size w w' := by
  obtain ⟨i0, hi, hz0, hz1, hz2⟩ := info_parts infoByte
  have hgl := h.lt
  have H := Aside0.mk h
  have HS := Aside0.mk hs
  clear h hs
  go_enter Tryd.func49, Tryd.ntmps49
  go_wp2
  go_loopw [3, 7] (fun v i wr => ∃ k : Nat, k ≤ 4 ∧ i = .int .i64 k ∧ Aside0 (wr.ownsRow w.heap.size 5 1 v (4 * k) (rowV s k)) ∧ Aside0 (Below w.heap.size w wr)) (fun _ i _ => 4 - (intOf i).toNat)
  case atStart => exact ⟨0, by omega, rfl, ⟨⟨rfl, .inl ⟨rfl, rfl⟩⟩⟩, ⟨Below.refl _ _⟩⟩
  case round =>
    obtain ⟨k, hk, rfl, HR, HW⟩ := hrel
    by_cases hlt : k < 4
    · obtain ⟨x, hx⟩ := words_some s k hlt
      have hc := (HW.out.cell (p := ⟨g, k, none⟩) hgl).trans (H.out.word hx)
      obtain ⟨x0, x1⟩ := word_wf HS.out hx
      have HX := Aside0.mk hx
      have p0 : (0 : Int) ≤ (k : Int) := by omega
      clear hx
      go_wp2_with (at_builtin; refine wpList_append_own _ rfl _ _ 57 rfl w.heap.size 5 i0 (.int .u8 0) 1 1 Tryd.underlying57 hi hz0 hz1 hz2 rfl (by decide) _ _ _ rfl (HR.out.alloc _) ⟨wr.heap.size, 0, none⟩ 4 4 (fourV x) rfl rfl ?c1 ?c2 ?c3 ?c4 ?c5 ?_)
      case c1 =>
        intro j u hj
        match j, hj with
        | 0, hj => simp [fourV] at hj; subst hj; simp [Addr.add]
        | 1, hj => simp [fourV] at hj; subst hj; simp [Addr.add]
        | 2, hj => simp [fourV] at hj; subst hj; simp [Addr.add]
        | 3, hj => simp [fourV] at hj; subst hj; simp [Addr.add]
        | j + 4, hj => simp [fourV] at hj
      case c2 => intro u hu; simp only [fourV, List.mem_cons, List.not_mem_nil, or_false] at hu; rcases hu with rfl | rfl | rfl | rfl <;> rfl
      case c3 => unfold maxLen; omega
      case c4 => omega
      case c5 => have := HW.out.size; simp; omega
      intro v' w' hown' hgrow _
      have HO := Aside0.mk hown'
      have HG := Aside0.mk hgrow
      clear hown' hgrow
      go_wp2
      go_roundw
      case rel =>
        refine ⟨k + 1, by omega, by go_num, ⟨?_⟩, ⟨?_⟩⟩
        · rw [rowV_snoc s k x HX.out]; exact HO.out
        · exact ((HW.out.alloc HW.out.size _).grown HG.out (by have := HW.out.size; simp; omega) (fun q hq => (HR.out.lt q hq).1))
      case measure => simp [intOf]; omega
    · obtain ⟨xs, hx1, hx2, hx3⟩ := rowV_all s
      obtain rfl : k = 4 := by omega
      have HX3 := Aside0.mk hx3
      have ho := HR.out
      rw [hx1] at ho
      obtain ⟨q, cap, rfl⟩ : ∃ q cap, u3 = .slice (some ⟨q, 0, none⟩) 16 cap := by
        rcases ho.2 with ⟨hv, h0⟩ | ⟨q, cap, cur, hv, _⟩
        · omega
        · exact ⟨q, cap, hv⟩
      have hcv := run_convert_bytes_arg (P := Tryd.prog) wr 57 5 Tryd.underlying57 Tryd.underlying5 q 0 16 cap xs hx2 (fun i hi => by
        rw [Nat.zero_add, ho.cellAt i (by omega)]
        simp [List.getElem?_map, List.getElem?_eq_getElem (show i < xs.length by omega)]) 9 Tryd.underlying9
      clear ho hx1 hx2 hx3 HR
      go_wp2
      go_ret
      exact ⟨ret_s HX3.out, HW.out⟩
end Go.Proofs.YtmhlebnomagekaaDoor
