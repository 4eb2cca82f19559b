/- What the rows of this seat share: the tables of sin and cos out of the row's condition; slices of strings that come in; the witness's world. -/
import Derived.Test.YtmhlebnomagekaaDoorRows
import Derived.Test.YtmhlebnomagekaaDoorMd5Law
import Derived.WalkKit
import Derived.ProofKit
import Derived.OpenShut
import Derived.ShutString
import Derived.SliceStrings
import Derived.SizedLaws
import Derived.LaidMore
import Derived.MakeChecks
import Derived.Lib.LaidTab
import Derived.Deep.DeepHandedRow
set_option linter.unusedVariables false
set_option linter.unusedSimpArgs false
namespace Go.Proofs.YtmhlebnomagekaaDoor
open Go.RowKit Go.ChangeShapes Go.WideShapes Go.ChangeAt Go.Proofs.YtmhlebnomagekaaDoorW.PrintWords

theorem trod_float {H : Type} {enc : TypeId × Value → H} {P : Program} {w : World} {base : Nat} {sp : Nat → Bool} {held : Bool} {fuel : Nat} {t : TypeId} {k : FloatKind} {cs : List Value} {x : DataW H × List MemPlace}
    (ht : P.underlying t = some (.float k)) (h : DataW.trod enc P w base sp held fuel t cs = some x) : ∃ b, cs = [.float k b] ∧ x = (.lit (.float k b), []) := by
  cases fuel with
  | zero => simp [DataW.trod] at h
  | succ n =>
    unfold DataW.trod at h
    rw [ht] at h
    split at h <;> simp_all
def floData {H : Type} (zs : List Nat) : DataW H := .agg (zs.map fun z => .lit (.float .f64 z))
theorem cells_of_flo {H : Type} {enc : TypeId × Value → H} {P : Program} {w : World} {base : Nat} {sp : Nat → Bool} {held : Bool} {fuel : Nat} {t e : TypeId} {n : Nat} {cs : List Value} {zs : List Nat} {p : List MemPlace}
    (ht : P.underlying t = some (.array n e)) (he : P.underlying e = some (.float .f64)) (hce : P.cellsOf e = 1) (hct : P.cellsOf t = n)
    (h : DataW.trod enc P w base sp held fuel t cs = some (floData zs, p)) : cs = zs.map fun z => Value.float .f64 z := by
  cases fuel with
  | zero => simp [DataW.trod] at h
  | succ fuel =>
    simp only [DataW.trod, ht, hce, hct, Nat.mul_one] at h
    split at h
    · rename_i hl
      obtain ⟨xs, hm, hx⟩ := Option.map_eq_some_iff.1 h
      have hxs : xs.map (·.1) = zs.map fun z => (DataW.lit (.float .f64 z) : DataW H) := by
        have := congrArg Prod.fst hx
        simpa [floData] using this
      have hxl : xs.length = n := by simpa using Lib.mapM_length hm
      have hzl : zs.length = n := by
        have := congrArg List.length hxs
        simp at this
        omega
      apply List.ext_getElem?
      intro i
      by_cases hi : i < n
      · obtain ⟨b, hb, hf⟩ := Lib.mapM_at hm i i (by simp [hi])
        obtain ⟨z, hc, rfl⟩ := trod_float he hf
        have h1 : cs[i]? = some (.float .f64 z) := by
          have := congrArg (·[0]?) hc
          simpa [List.getElem?_take, List.getElem?_drop] using this
        have h2 : (xs.map (·.1))[i]? = some (DataW.lit (.float .f64 z) : DataW H) := by simp [hb]
        rw [hxs] at h2
        simp only [List.getElem?_map, Option.map_eq_some_iff, DataW.lit.injEq, Lit.float.injEq, true_and] at h2
        obtain ⟨z', hz', rfl⟩ := h2
        simp [h1, hz']
      · rw [List.getElem?_eq_none (by omega), List.getElem?_eq_none (by simp; omega)]
    · cases h
theorem gSin : Tryd.prog.globalNamed "math._sin" = some 2 := by kernel_rfl
theorem gCos : Tryd.prog.globalNamed "math._cos" = some 1 := by kernel_rfl
theorem tSin : (Tryd.prog.globals[2]?).map (·.type) = some 154 := by kernel_rfl
theorem tCos : (Tryd.prog.globals[1]?).map (·.type) = some 154 := by kernel_rfl
/-- What the row's condition gives: the tables of sin and cos. -/
theorem trig_of_laid {W : World} (h : laidMetH Tryd.prog [("math._sin", Rows.laid_math_sin), ("math._cos", Rows.laid_math_cos), ("math.mPi4", Rows.laid_math_mPi4)] W) : Trig W ∧ 3 ≤ W.heap.size := by
  rw [MakeChecks.laidMetH_plain _ _ _ (by kernel_rfl)] at h
  obtain ⟨ps, ⟨g0, t0, cs0, f0, p0, q0, hg0, ht0, hv0, hd0, ⟨g1, t1, cs1, f1, p1, q1, hg1, ht1, hv1, hd1, _⟩, _⟩, _⟩ := h
  obtain rfl := Option.some.inj (gSin.symm.trans hg0)
  obtain rfl := Option.some.inj (gCos.symm.trans hg1)
  obtain rfl := Option.some.inj (tSin.symm.trans ht0)
  obtain rfl := Option.some.inj (tCos.symm.trans ht1)
  have e0 := cells_of_flo (zs := [4460209587652500685, 13716528389658582877, 4523617212962785441, 13774824197404483331, 4575957461383575504, 13818544856648471880]) Tryd.underlying154 Tryd.underlying127 (by kernel_rfl) (by kernel_rfl) hd0
  have e1 := cells_of_flo (zs := [13666448263388469915, 4477121864728985349, 13732177093698800582, 4537941361668146421, 13787419979223748497, 4586165620538955083]) Tryd.underlying154 Tryd.underlying127 (by kernel_rfl) (by kernel_rfl) hd1
  have s := fun i => World.var?_cell hg0 hv0 i
  have c := fun i => World.var?_cell hg1 hv1 i
  rcases cs0 with ⟨cs0⟩
  rcases cs1 with ⟨cs1⟩
  simp only at e0 e1
  subst e0 e1
  have T : Trig W := ⟨c 0, c 1, c 2, c 3, c 4, c 5, s 0, s 1, s 2, s 3, s 4, s 5⟩
  exact ⟨T, World.block_lt_of_cell? W _ T.s0⟩
theorem laidOut : laidOutB Tryd.prog = true := by kernel_rfl

/-- A slice of strings that comes in: its strings, as the walks take them. -/
theorem open_strs {H : Type} {enc : TypeId × Value → H} {W : World} {base : Nat} {spare : Nat → Bool} {held : Bool} {a : Option Addr} {len cap : Nat} {d : DataW H} {p : List MemPlace}
    (h : DataW.Trod enc Tryd.prog W base spare held 26 (.slice a len cap) d p) (hb : ∀ b, spare b = true) :
    (a = none ∧ len = 0 ∧ cap = 0) ∨ ∃ (x : Addr) (ss : List ByteArray), a = some x ∧ len = ss.length ∧ len ≤ cap ∧ Kd.C Kd.string W (some x) ss.length ss ∧ ∃ sp, d = .slice (strs ss) sp := by
  obtain ⟨fuel, hf⟩ := h
  rcases open_strings Tryd.underlying26 Tryd.underlying9 (by kernel_rfl) hf with ⟨hcs, _⟩ | ⟨x, l, c, ss, hcs, _, hl, hm, hz, hx, hcell, hwz⟩
  · simp [Value.cells] at hcs
    exact .inl hcs
  · simp [Value.cells] at hcs
    obtain ⟨rfl, rfl, rfl⟩ := hcs
    rw [hb, if_pos rfl] at hz
    have hlen : (ss.take len).length = len := by rw [List.length_take]; omega
    refine .inr ⟨x, ss.take len, rfl, hlen.symm, hl, ?_, _, (congrArg Prod.fst hx)⟩
    refine strC W x _ (by rw [hlen]; unfold maxLen at hm; omega) (fun j y hj => ?_)
    have hj' : j < len := by have := (List.getElem?_eq_some_iff.1 hj).1; omega
    rw [List.getElem?_take_of_lt hj'] at hj
    rw [hcell j (by omega), List.getD_eq_getElem?_getD, hj]; rfl
theorem weightsAll_strs {H : Type} {P : Program} {e : TypeId} : ∀ (ss : List ByteArray), ∀ s ∈ ss, s.size ∈ DataW.weightsAll P e (strs (H := H) ss)
  | [], _, h => by cases h
  | x :: ss, s, h => by
    rcases List.mem_cons.1 h with rfl | h
    · show s.size ∈ DataW.weights P e (.lit (.string s.data.toList)) ++ _
      simp [DataW.weights]
    · exact List.mem_append_right _ (weightsAll_strs ss s h)
/-- .. each no longer than what can be handed in; how many there are. -/
theorem sized_strs {H : Type} {ts : List TypeId} {ds : List (DataW H)} (h : (DataW.weightsEach Tryd.prog ts ds).all (· ≤ reachBytes) = true) {j : Nat} {ss : List ByteArray} {sp : List (DataW H)} (ht : ts[j]? = some 26) (hd : ds[j]? = some (.slice (strs ss) sp)) :
    (∀ s ∈ ss, s.size ≤ 140737488351232) ∧ ss.length ≤ 140737488351232 := by
  have hw := DataW.weights_mem_each (P := Tryd.prog) ht hd
  simp only [DataW.weights, Tryd.underlying26] at hw
  have all := fun n hn => of_decide_eq_true (List.all_eq_true.1 h n (hw n hn))
  have hby : Tryd.prog.bytesOf 9 = 16 := by kernel_rfl
  refine ⟨fun s hs => all _ (List.mem_cons_of_mem _ (List.mem_append_left _ (weightsAll_strs ss s hs))), ?_⟩
  have h1 := all _ List.mem_cons_self
  have hl : (strs (H := H) ss).length = ss.length := by simp [strs]
  rw [hby, hl] at h1
  unfold reachBytes at h1
  omega
end Go.Proofs.YtmhlebnomagekaaDoor
