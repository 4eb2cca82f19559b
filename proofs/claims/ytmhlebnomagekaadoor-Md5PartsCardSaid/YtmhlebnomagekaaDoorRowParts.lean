/- The row and the card of Md5Parts: whatever parts come in, and whichever is copied (each no longer than what can be handed in; the tables of sin and cos as the program lays them), the law answers true and what came in reads as it did. -/
import Derived.Test.YtmhlebnomagekaaDoorRowT
import Derived.Test.YtmhlebnomagekaaDoorMd5Parts
import Derived.Test.YtmhlebnomagekaaDoorCards
import Derived.Test.YtmhlebnomagekaaDoorTie
import Derived.SevenTiedAt
set_option linter.unusedVariables false
set_option linter.unusedSimpArgs false
namespace Go.Proofs.YtmhlebnomagekaaDoor.md5Parts
open Go.RowKit Go.ChangeShapes Go.WideShapes Go.ChangeAt Go.Proofs.YtmhlebnomagekaaDoorW.PrintWords
open Go.ChangeMaps (open_string shut_string)

abbrev F : FuncId := 5
def laid3 : List (String × DataW Unit) := [("math._sin", Rows.laid_math_sin), ("math._cos", Rows.laid_math_cos), ("math.mPi4", Rows.laid_math_mPi4)]
theorem own : ownKnob Tryd.prog.godebug = none := by kernel_rfl
/-- The walk, for whatever comes in. -/
theorem walk (a : Option Addr) (cap : Nat) (l : List ByteArray) (n : Int) (w : World) (T : Trig w) (hB : 3 ≤ w.heap.size) (h : (a = none ∧ l = [] ∧ cap = 0) ∨ ∃ x, a = some x ∧ l.length ≤ cap ∧ Kd.C Kd.string w (some x) l.length l)
    (hlb : ∀ x ∈ l, x.size ≤ 140737488351232) (hln : l.length ≤ 140737488351232) (hn : 0 ≤ n ∧ n ≤ 255) :
    Calls Tryd.prog F #[.slice a l.length cap, .int .u8 n] w fun e w' => e = .returned (.bool true) ∧ Below w.heap.size w w' := by
  have hC : Kd.C Kd.string w a l.length l ∧ l.length ≤ cap := by
    rcases h with ⟨rfl, rfl, rfl⟩ | ⟨x, rfl, hc, hr⟩
    · exact ⟨⟨rfl, by simp, fun h0 => absurd h0 (by simp)⟩, Nat.le_refl _⟩
    · exact ⟨hr, hc⟩
  cases hL : longB l with
  | true => exact parts_long a cap l n w T hB hC.1 hC.2 hlb hln hL
  | false => exact parts_main a cap l n w T hB hC.1 hC.2 hlb hln hL hn.1 hn.2
theorem door_met (os : Os) (args : Array Value) : laidMetH Tryd.prog laid3 ((World.doorLaid Tryd.prog 400 os).forCall (fun _ _ => 0) ⟨#[], args, []⟩).memory :=
  laidMetH_of_parts3 (fuel := 8) (laidMet_of_run' 8 (by kernel_rfl) (by kernel_rfl)) (by kernel_rfl) (by kernel_rfl)
set_option maxRecDepth 100000 in
theorem lifted (os : Os) (started : os.Started) (H : Type) (enc : TypeId × Value → H) :
    ReturnsInHanded {} Tryd.checked os F .any (fun w args => (Rows.md5PartsSpec.pre enc Tryd.prog Tryd.f5 [] false w args ∧ laidMetH Tryd.prog laid3 w) ∧ sizedMet enc Tryd.prog Tryd.f5 (OpenSpec.ofChange Rows.md5PartsSpec) false w args)
      (Rows.md5PartsSpec.post enc Tryd.prog Tryd.f5 false true false false) := by
  refine returnsInHanded_of_change_and (C := Tryd.checked) (X := fun w _ => laidMetH Tryd.prog laid3 w) (fun _ _ _ hh h => h.of_heap hh) own started (by kernel_rfl) Tryd.func5
    (ChangeSpec.witness_shaped (enc := enc) (C := Tryd.checked) (os := os) (X := fun w _ => laidMetH Tryd.prog laid3 w) false (World.doorLaid Tryd.prog 400 os) #[.slice none 0 0, .int .u8 0] 8 rfl (World.shaped_of_RefB (by kernel_rfl) (by kernel_rfl)) (by kernel_rfl) (by kernel_rfl) (by kernel_rfl) (door_met os _)) ?_
  intro W base args ds gs before hval0 hW _ hsz0 hL _
  have hsz : (DataW.weightsEach Tryd.prog (Tryd.f5.params.toList ++ Rows.md5PartsSpec.plain.varTypes Tryd.prog) (ds ++ gs)).all (· ≤ reachBytes) = true := hsz0
  have hval : ∀ (j : Nat) t v, Tryd.f5.params[j]? = some t → args[j]? = some v → Value.okWide Tryd.prog W .any base t v := hval0
  have hW' := hW
  obtain ⟨p, q, hA0, hV, rfl, hfz, hnd⟩ := hW
  have hA : DataW.TrodAll enc Tryd.prog W 0 (fun _ => true) true Tryd.f5.params.toList args.toList ds p := hA0
  rw [Tryd.params5] at hA hval hsz
  obtain ⟨v0, vs0, d0, ds0, p0, q0, hargs, rfl, rfl, h0, r0⟩ := trodAll_cons hA
  obtain ⟨v1, vs1, d1, ds1, p1, q1, rfl, rfl, rfl, h1, r1⟩ := trodAll_cons r0
  obtain ⟨rfl, rfl, rfl⟩ := trodAll_nil r1
  obtain rfl : args = #[v0, v1] := by cases args; simp_all
  obtain ⟨rfl, rfl⟩ := trodVars_none hV
  obtain ⟨a, len, cap, rfl⟩ := okWide_slice Tryd.underlying26 (hval 0 26 v0 rfl rfl)
  have k0 := h0
  have lt0 : ∀ x ∈ p0, x.block < W.heap.size := by obtain ⟨m, hm⟩ := k0; exact DataW.trod_lt m _ _ _ hm
  obtain ⟨n, rfl, rfl, rfl, y1⟩ := open_int Tryd.underlying5 (hval 1 5 v1 rfl rfl) h1
  have w1 : 0 ≤ n ∧ n ≤ 255 := by
    have z := y1
    simp [Lit.wf, IntKind.min, IntKind.max, IntKind.signed, IntKind.bits] at z
    omega
  obtain ⟨l, rfl, hcs, hlb, hln⟩ : ∃ l : List ByteArray, len = l.length ∧ ((a = none ∧ l = [] ∧ cap = 0) ∨ ∃ x, a = some x ∧ l.length ≤ cap ∧ Kd.C Kd.string W (some x) l.length l) ∧ (∀ x ∈ l, x.size ≤ 140737488351232) ∧ l.length ≤ 140737488351232 := by
    rcases open_strs h0 (fun _ => rfl) with ⟨rfl, rfl, rfl⟩ | ⟨x, ss, rfl, rfl, hc, hr, sp, hd⟩
    · exact ⟨[], rfl, .inl ⟨rfl, rfl, rfl⟩, fun x h => by (cases h), by simp⟩
    · obtain ⟨z1, z2⟩ := sized_strs hsz (j := 0) rfl (by rw [hd]; rfl)
      exact ⟨ss, rfl, .inr ⟨x, rfl, hc, hr⟩, z1, z2⟩
  obtain ⟨T, hB⟩ := trig_of_laid hL
  clear hA0 hval0 hsz0 hsz
  refine (walk a cap l n W T hB hcs hlb hln w1).mono fun e W' ⟨he, bel⟩ => ?_
  subst he
  exact ⟨_, rfl, _, _, _, [], _, [], hW', trodAll_mk1 (shut_bool Tryd.underlying4 _), (trodAll_cons_mk (Below.trod laidOut (by kernel_rfl) (of_decide_eq_true (by kernel_rfl)) k0 bel lt0) (trodAll_cons_mk (shut_int Tryd.underlying5 y1) trodAll_mk0)), rfl, bel.frame _, fun h => by cases h⟩
theorem said : Rows.Md5PartsSaid :=
  OpenClaim.holds_of_wide F Tryd.f5 rfl rfl rfl rfl rfl rfl rfl ⟨rfl, rfl, rfl, rfl, rfl⟩ rfl rfl rfl rfl rfl (by kernel_rfl) Tryd.func5 (by kernel_rfl)
    (of_decide_eq_true (by kernel_rfl)) (by unfold Func.isWrapper; first | (rw [if_pos (by decide +kernel)]; kernel_rfl) | (rw [if_neg (by decide +kernel)]; exact ⟨rfl, rfl⟩))
    (fun os started H enc _ => lifted os started H enc)
theorem plain (f : FuncId) (fn : Func) (hf : Tryd.pinned.checked.prog.funcNamed "halyard/halyardlaw05.Md5Parts" = some f) (hfn : Tryd.pinned.checked.prog.funcs[f]? = some fn) :
    false = Tryd.pinned.checked.prog.looks [] ∧ ∀ (j : Nat) t, fn.params[j]? = some t → Tryd.pinned.checked.prog.wantsStandIn t = false := by
  obtain rfl : f = F := Option.some.inj ((show Tryd.prog.funcNamed "halyard/halyardlaw05.Md5Parts" = some F by kernel_rfl).symm.trans hf) |>.symm
  obtain rfl : fn = Tryd.f5 := (Option.some.inj (Tryd.func5.symm.trans hfn)).symm
  refine ⟨by kernel_rfl, fun j t ht => ?_⟩
  rw [Tryd.params5] at ht
  have hm := Array.mem_of_getElem? ht
  simp only [List.mem_toArray, List.mem_cons, List.not_mem_nil, or_false] at hm
  rcases hm with rfl | rfl
  · exact (show Tryd.prog.wantsStandIn 26 = false by kernel_rfl)
  · exact (show Tryd.prog.wantsStandIn 5 = false by kernel_rfl)
theorem card : Rows.Md5PartsCardSaid :=
  Claim7.holds_tied_plain_at .later [] _ _ _ _ said (fun _ h => by cases h) (by kernel_rfl) (fun _ h => by cases h) md5Parts_row_tie rfl ⟨rfl, rfl⟩ (by kernel_rfl) rfl plain (by kernel_rfl)
end Go.Proofs.YtmhlebnomagekaaDoor.md5Parts
namespace Go.Proofs.YtmhlebnomagekaaDoor
/-- The card, under a short name, for the claim. -/
theorem md5Parts_holds : Rows.Md5PartsCardSaid := md5Parts.card
end Go.Proofs.YtmhlebnomagekaaDoor
