/- md5's Hash: New, Write, Len, Copy over one that holds the bytes of a text. -/
import Derived.Test.YtmhlebnomagekaaDoorMd5Plain
import Derived.Laws.AppendOwn
import Derived.Below
import Derived.Deep.LoopGhost
import Derived.Deep.RegionWith
set_option linter.unusedVariables false
set_option linter.unusedSimpArgs false
namespace Go.Proofs.YtmhlebnomagekaaDoor
open Go.RowKit Go.Proofs.YtmhlebnomagekaaDoorW.PrintWords

theorem only_refl (w : World) (g : Nat) : w.grownBy w (some g) := ⟨rfl, rfl, rfl, Nat.le_refl _, fun _ _ _ => rfl⟩
theorem only_drewN {a w : World} {row : Option Nat} (h : a.grownBy w row) (n : Nat) : a.grownBy (w.drewN n) row := ⟨h.os, h.tape, h.output, h.size, h.block⟩
theorem only_drew {a w : World} {row : Option Nat} (h : a.grownBy w row) : a.grownBy w.drew row := ⟨h.os, h.tape, h.output, h.size, h.block⟩
theorem only_setCell {a w : World} {g : Nat} (h : a.grownBy w (some g)) {p : Addr} (hp : p.block = g ∨ a.heap.size ≤ p.block) (u : Value) : a.grownBy (w.setCell p u) (some g) :=
  ⟨h.os, h.tape, h.output, by simpa [World.setCell] using h.size, fun i hi hne => (Below.heap_setCell w p u i (by
    rintro rfl
    rcases hp with hp | hp
    · exact hne (by rw [hp])
    · omega)).trans (h.block i hi hne)⟩
theorem only_below {a b w : World} {g : Nat} (h : a.grownBy b (some g)) (hb : Below b.heap.size b w) : a.grownBy w (some g) :=
  ⟨hb.os.trans h.os, hb.tape.trans h.tape, hb.output.trans h.output, Nat.le_trans h.size hb.size, fun i hi hne => (hb.block i (Nat.lt_of_lt_of_le hi h.size)).trans (h.block i hi hne)⟩
theorem only_trans {a b w : World} {g : Nat} (h : a.grownBy b (some g)) (hb : b.grownBy w (some g)) : a.grownBy w (some g) :=
  ⟨hb.os.trans h.os, hb.tape.trans h.tape, hb.output.trans h.output, Nat.le_trans h.size hb.size, fun i hi hne => (hb.block i (Nat.lt_of_lt_of_le hi h.size) hne).trans (h.block i hi hne)⟩
/-- what writes a block that is new alone is seen by nobody -/
theorem only_new {a b w : World} {g B : Nat} (h : Below B a b) (hb : b.grownBy w (some g)) (hg : B ≤ g) (hB : B ≤ b.heap.size) : Below B a w :=
  ⟨hb.os.trans h.os, hb.tape.trans h.tape, hb.output.trans h.output, Nat.le_trans h.size hb.size, fun i hi => (hb.block i (by omega) (by intro e; injection e with e; omega)).trans (h.block i hi)⟩
theorem Trig.only {w w' : World} {g : Nat} (T : Trig w) (h : w.grownBy w' (some g)) (hg : 3 ≤ g) (hB : 3 ≤ w.heap.size) : Trig w' := by
  have f : ∀ b o, b < 3 → w'.cell? ⟨b, o, none⟩ = w.cell? ⟨b, o, none⟩ := fun b o hb => World.cell?_of_block (h.block b (by omega) (by intro e; injection e with e; omega))
  obtain ⟨c0, c1, c2, c3, c4, c5, s0, s1, s2, s3, s4, s5⟩ := T
  constructor <;> (rw [f _ _ (by decide)]; assumption)

/-- block g is a Hash of a state, of what is no block yet, of how many bytes were written. -/
def HashAt (w : World) (g : Nat) (s : St) (rest : ByteArray) (n : Nat) : Prop :=
  w.heap[g]? = some (.cells #[.int .u32 s.a, .int .u32 s.b, .int .u32 s.c, .int .u32 s.d, .string rest, .int .i64 n] 77 (0, 0))
/-- block g is the Hash to which the bytes l were written. -/
def HashOf (w : World) (g : Nat) (l : ByteArray) : Prop := HashAt w g (foldF l (l.size / 64)) (l.extract (64 * (l.size / 64)) l.size) l.size
theorem HashAt.lt {w : World} {g : Nat} {s : St} {rest : ByteArray} {n : Nat} (h : HashAt w g s rest n) : g < w.heap.size := (Array.getElem?_eq_some_iff.1 h).1
theorem HashAt.cell {w : World} {g : Nat} {s : St} {rest : ByteArray} {n : Nat} (h : HashAt w g s rest n) (j : Nat) : w.cell? ⟨g, j, none⟩ = (#[.int .u32 s.a, .int .u32 s.b, .int .u32 s.c, .int .u32 s.d, .string rest, .int .i64 n] : Array Value)[j]? := Lib.cell_of_heap h j
theorem HashAt.frozen {w : World} {g : Nat} {s : St} {rest : ByteArray} {n : Nat} (h : HashAt w g s rest n) (j : Nat) : w.frozen? ⟨g, j, none⟩ = false := Lib.frozen_of_heap h j
theorem HashAt.below {w w' : World} {g : Nat} {s : St} {rest : ByteArray} {n : Nat} (h : HashAt w g s rest n) (hb : Below w.heap.size w w') : HashAt w' g s rest n := (hb.block g h.lt).trans h
theorem heap_set {w : World} {g j : Nat} {cs : Array Value} {T : TypeId} {u : Value} (h : w.heap[g]? = some (.cells cs T (0, 0))) : (w.setCell ⟨g, j, none⟩ u).heap[g]? = some (.cells (cs.setIfInBounds j u) T (0, 0)) :=
  heap_setCell_same w g j cs T u h

/-- a Hash's words are set -/
theorem HashAt.setSt {w w' : World} {g : Nat} {s s' : St} {rest : ByteArray} {n : Nat} (h : HashAt w g s rest n) (hs : SetSt w g 0 s' w') : HashAt w' g s' rest n ∧ w.grownBy w' (some g) := by
  obtain ⟨w1, hb, rfl⟩ := hs
  have h1 : HashAt w1 g s rest n := h.below hb
  refine ⟨?_, ?_⟩
  · have := heap_set (j := 3) (u := .int .u32 s'.d) (heap_set (j := 2) (u := .int .u32 s'.c) (heap_set (j := 1) (u := .int .u32 s'.b) (heap_set (j := 0) (u := .int .u32 s'.a) h1)))
    exact this
  · have h2 : w.grownBy w1 (some g) := only_below (only_refl w g) hb
    exact only_setCell (p := ⟨g, 3, none⟩) (only_setCell (p := ⟨g, 2, none⟩) (only_setCell (p := ⟨g, 1, none⟩) (only_setCell (p := ⟨g, 0, none⟩) h2 (.inl rfl) _) (.inl rfl) _) (.inl rfl) _) (.inl rfl) _

/-- block, on a Hash -/
theorem block_hash (g : Nat) (s : St) (hs : s.wf) (rest : ByteArray) (n : Nat) (t : ByteArray) (ht : t.size = 64) (w : World) (T : Trig w) (hg : 3 ≤ g) (h : HashAt w g s rest n) :
    Calls Tryd.prog 48 #[.pointer (some ⟨g, 0, none⟩), .string t] w fun e w' => e = .returned (.tuple #[]) ∧ HashAt w' g (blockF s t) rest n ∧ w.grownBy w' (some g) := by
  have hl := h.lt
  refine (block_c g 0 s hs t ht w T (by omega) (h.cell 0) (h.cell 1) (h.cell 2) (h.cell 3) h.frozen hl).mono ?_
  rintro e w' ⟨rfl, h1⟩
  exact ⟨rfl, h.setSt h1⟩

set_option maxRecDepth 100000 in
theorem first_c (w : World) : Calls Tryd.prog 50 #[] w fun e w' => e = .returned (.agg #[.int .u32 1732584193, .int .u32 4023233417, .int .u32 2562383102, .int .u32 271733878]) ∧ Below w.heap.size w w' ∧ w'.heap.size = w.heap.size + 1 := by
  go_enter Tryd.func50, Tryd.ntmps50
  go_wp2
  exact bodyPost_ret (v := .agg #[.int .u32 1732584193, .int .u32 4023233417, .int .u32 2562383102, .int .u32 271733878]) (by simp [results, Tryd.results50, go_sem]) rfl ⟨rfl, (Below.refl _ _).alloc (Nat.le_refl _) _, by simp⟩
set_option maxRecDepth 100000 in
theorem new_c (w : World) : Calls Tryd.prog 21 #[] w fun e w' => ∃ g, w.heap.size ≤ g ∧ e = .returned (.pointer (some ⟨g, 0, none⟩)) ∧ HashOf w' g ⟨#[]⟩ ∧ Below w.heap.size w w' := by
  go_enter Tryd.func21, Tryd.ntmps21
  go_wp2_with fail
  refine (first_c _).mono ?_
  rintro e w1 ⟨rfl, hb, hz⟩
  have HZ := Aside0.mk hz
  clear hz
  go_wp2
  go_ret
  refine ⟨w1.heap.size, hb.size, rfl, ?_, hb.alloc hb.size _⟩
  show (World.alloc _ _).heap[_]? = _
  rw [heap_new rfl]
  rfl
set_option maxRecDepth 100000 in
theorem len_c (g : Nat) (l : ByteArray) (w : World) (h : HashOf w g l) : Calls Tryd.prog 19 #[.pointer (some ⟨g, 0, none⟩)] w fun e w' => e = .returned (.int .i64 l.size) ∧ w = w' := by
  have h5 : w.cell? ⟨g, 5, none⟩ = some (.int .i64 l.size) := h.cell 5
  go_enter Tryd.func19, Tryd.ntmps19
  go_wp2
  go_ret
  exact ⟨rfl, rfl⟩
set_option maxRecDepth 100000 in
set_option maxHeartbeats 1000000 in
theorem write_c (g : Nat) (l s : ByteArray) (w : World) (T : Trig w) (hg : 3 ≤ g) (h : HashOf w g l) (hl : l.size + s.size ≤ 1099511627776) :
    Calls Tryd.prog 17 #[.pointer (some ⟨g, 0, none⟩), .string s] w fun e w' => e = .returned (.int .i64 0) ∧ HashOf w' g (l ++ s) ∧ w.grownBy w' (some g) := by
  have h4 : w.cell? ⟨g, 4, none⟩ = some (.string (l.extract (64 * (l.size / 64)) l.size)) := h.cell 4
  have h5 : w.cell? ⟨g, 5, none⟩ = some (.int .i64 l.size) := h.cell 5
  have f4 := h.frozen 4
  have f5 := h.frozen 5
  have hsz : (l.extract (64 * (l.size / 64)) l.size).size = l.size - 64 * (l.size / 64) := extract_size' _ _ _ (by omega) (Nat.le_refl _)
  have hszb : (l.extract (64 * (l.size / 64)) l.size).size + s.size ≤ 9223372036854775807 := by omega
  have H := Aside0.mk h
  clear hsz h
  generalize hr : l.extract (64 * (l.size / 64)) l.size = r0 at h4 hszb
  have HR := Aside0.mk hr
  clear hr
  have HRS := Aside0.mk (show r0 ++ s = (l ++ s).extract (64 * (l.size / 64)) (l ++ s).size by rw [← HR.out]; exact extract_snoc l s _ (by omega))
  have hL : (l ++ s).size = l.size + s.size := ByteArray.size_append
  generalize hLs : l ++ s = L at HRS hL ⊢
  have HLS := Aside0.mk hLs
  clear hLs
  have HL := Aside0.mk hL
  have hq : l.size / 64 ≤ L.size / 64 := by omega
  have hL2 : L.size ≤ 1099511627776 := by omega
  clear hL
  go_enter Tryd.func17, Tryd.ntmps17
  go_wp2
  go_loopg [24] (L.size / 64 - l.size / 64) (fun gk v wr => ∃ j, gk = L.size / 64 - j ∧ j ≤ L.size / 64 ∧ Aside0 (HashAt wr g (foldF L j) (L.extract (64 * j) L.size) L.size) ∧ Aside0 (w.grownBy wr (some g)))
  case atStart =>
    refine ⟨l.size / 64, rfl, hq, ⟨?_⟩, ⟨?_⟩⟩
    · have h1 := heap_set (j := 4) (u := .string (r0 ++ s)) (heap_set (j := 5) (u := .int .i64 ((l.size : Int) + s.size)) H.out)
      have e1 : foldF L (l.size / 64) = foldF l (l.size / 64) := by rw [← HLS.out]; exact foldF_front l s _ (by omega)
      have e2 : ((L.size : Nat) : Int) = (l.size : Int) + s.size := by have := HL.out; omega
      unfold HashAt
      rw [e1, e2, ← HRS.out]
      exact h1
    · exact only_setCell (p := ⟨g, 4, none⟩) (only_setCell (p := ⟨g, 5, none⟩) (only_refl w g) (.inl rfl) _) (.inl rfl) _
  case round =>
    obtain ⟨j, hgk, hj, HH, HO⟩ := hrel
    have hsz : (L.extract (64 * j) L.size).size = L.size - 64 * j := extract_size' _ _ _ (by omega) (Nat.le_refl _)
    have c4 : wr.cell? ⟨g, 4, none⟩ = some (.string (L.extract (64 * j) L.size)) := HH.out.cell 4
    have hfr := Aside0.mk (show wr.frozen? ⟨g, 4, none⟩ = false from HH.out.frozen 4)
    by_cases hlt : j < L.size / 64
    · have e1 := extract_head L (64 * j) 64 (by omega)
      have e2 := extract_tail L (64 * j) 64 (by omega)
      have hge : (64 : Int) ≤ ((L.extract (64 * j) L.size).size : Int) := by omega
      have hz64 : (L.extract (64 * j) (64 * j + 64)).size = 64 := by rw [extract_size' _ _ _ (by omega) (by omega)]; omega
      have E12 := Aside0.mk (And.intro e1 e2)
      have HZ := Aside0.mk hz64
      have HG := Aside0.mk hgk
      clear hsz hgk e1 e2 hz64
      generalize hR : L.extract (64 * j) L.size = R at *
      have HR' := Aside0.mk hR
      clear hR
      go_wp2
      go_region_with (go_at_call 48; refine (block_hash g _ (foldF_wf L j) _ _ _ (by rw [E12.out.1]; exact HZ.out) _ (T.only (only_drewN HO.out _) hg (by have := H.out.lt; omega)) hg HH.out).mono ?_; rintro e w' ⟨rfl, hH, hO⟩)
      have d4 : w'.cell? ⟨g, 4, none⟩ = some (.string R) := hH.cell 4
      have k4 : w'.frozen? ⟨g, 4, none⟩ = false := hH.frozen 4
      have HH' := Aside0.mk hH
      clear hH
      go_wp2
      go_roundg (L.size / 64 - (j + 1))
      case rel =>
        refine ⟨j + 1, rfl, by omega, ⟨?_⟩, ⟨?_⟩⟩
        · have h1 := heap_set (j := 4) (u := .string (R.extract 64 R.size)) HH'.out
          rw [E12.out.1] at h1
          have e := E12.out.2
          rw [show 64 * j + 64 = 64 * (j + 1) by omega] at e
          unfold HashAt
          rw [← e, foldF_succ]
          exact h1
        · exact only_setCell (p := ⟨g, 4, none⟩) (only_trans (only_drewN HO.out _) hO) (.inl rfl) _
      case measure => have := HG.out; omega
    · have hge : ¬ (64 : Int) ≤ ((L.extract (64 * j) L.size).size : Int) := by omega
      have HJ := Aside0.mk (show j = L.size / 64 by omega)
      clear hsz
      generalize hR : L.extract (64 * j) L.size = R at *
      have HR' := Aside0.mk hR
      clear hR
      go_wp2
      go_ret
      refine ⟨rfl, ?_, HO.out⟩
      have := HH.out
      unfold HashOf
      rw [← HJ.out, HR'.out]
      exact this
end Go.Proofs.YtmhlebnomagekaaDoor
