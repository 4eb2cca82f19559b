/- The row of RecordBytes: out of the walk that the print wrote and the plain law. -/
import Derived.Test.YtmhlebnomagekaaRows
import Derived.Test.YtmhlebnomagekaaLaw28
import Derived.WalkKit
import Derived.ProofKit
import Derived.OpenShut
import Derived.ShutString
import Derived.ChangeOld
import Derived.Below
import Derived.SizedLaws
set_option linter.unusedVariables false
set_option linter.unusedSimpArgs false
namespace Go.Proofs.Ytmhlebnomagekaa
open Go.RowKit Go.ChangeShapes Go.WideShapes Go.ChangeAt

/-- A subscriber that is handed in by value, opened. -/
theorem open_sub {H : Type} {enc : TypeId × Value → H} {w : World} {base : Nat} {spare : Nat → Bool} {held : Bool} {v : Value} {d : DataW H} {p : List MemPlace}
    (hag : ∃ cs, v = .agg cs ∧ cs.size = Try.prog.cellsOf 24) (h : DataW.Trod enc Try.prog w base spare held 24 v d p) :
    ∃ (a b c : ByteArray) (n : Int) (u : Bool), v = .agg #[.string a, .string b, .string c, .int .u32 n, .bool u] ∧
      d = .agg [.lit (.string a.data.toList), .lit (.string b.data.toList), .lit (.string c.data.toList), .lit (.int .u32 n), .lit (.bool u)] ∧ p = [] ∧
      a.size ≤ maxLen ∧ b.size ≤ maxLen ∧ c.size ≤ maxLen ∧ (Lit.int .u32 n).wf = true := by
  obtain ⟨cs, rfl, hcs⟩ := hag
  obtain ⟨fuel, hf⟩ := h
  have hC : Try.prog.cellsOf 24 = 5 := by kernel_rfl
  have hS : Try.prog.cellsOf 9 = 1 := by kernel_rfl
  have hI : Try.prog.cellsOf 22 = 1 := by kernel_rfl
  have hB : Try.prog.cellsOf 4 = 1 := by kernel_rfl
  rw [hC] at hcs
  obtain ⟨x1, x2, x3, x4, x5, rfl⟩ : ∃ x1 x2 x3 x4 x5, cs = #[x1, x2, x3, x4, x5] := by
    rcases cs with ⟨l⟩
    match l, hcs with
    | [a, b, c, d, e], _ => exact ⟨a, b, c, d, e, rfl⟩
  obtain ⟨xs, m, rfl, hx, -, hxl, hfs⟩ := DataW.trod_struct Try.underlying24 hf
  obtain ⟨y0, y1, y2, y3, y4, rfl⟩ : ∃ y0 y1 y2 y3 y4, xs = [y0, y1, y2, y3, y4] := by
    match xs, hxl with
    | [a, b, c, d, e], _ => exact ⟨a, b, c, d, e, rfl⟩
  have g0 : DataW.trod enc Try.prog w base spare held m 9 (([x1, x2, x3, x4, x5].drop 0).take (Try.prog.cellsOf 9)) = some y0 := hfs 0 _ rfl
  have g1 : DataW.trod enc Try.prog w base spare held m 9 (([x1, x2, x3, x4, x5].drop 1).take (Try.prog.cellsOf 9)) = some y1 := hfs 1 _ rfl
  have g2 : DataW.trod enc Try.prog w base spare held m 9 (([x1, x2, x3, x4, x5].drop 2).take (Try.prog.cellsOf 9)) = some y2 := hfs 2 _ rfl
  have g3 : DataW.trod enc Try.prog w base spare held m 22 (([x1, x2, x3, x4, x5].drop 3).take (Try.prog.cellsOf 22)) = some y3 := hfs 3 _ rfl
  have g4 : DataW.trod enc Try.prog w base spare held m 4 (([x1, x2, x3, x4, x5].drop 4).take (Try.prog.cellsOf 4)) = some y4 := hfs 4 _ rfl
  simp only [hS, hI, hB, List.drop_zero, List.drop_succ_cons, List.take_succ_cons, List.take_zero] at g0 g1 g2 g3 g4
  obtain ⟨a, ha, ha', za⟩ := DataW.trod_string Try.underlying9 g0
  obtain ⟨b, hb, hb', zb⟩ := DataW.trod_string Try.underlying9 g1
  obtain ⟨c, hc, hc', zc⟩ := DataW.trod_string Try.underlying9 g2
  obtain ⟨n, hn, hn', zn⟩ := DataW.trod_int Try.underlying22 g3
  obtain ⟨u, hu, hu'⟩ := DataW.trod_bool Try.underlying4 g4
  subst ha' hb' hc' hn' hu'
  obtain ⟨ha, -⟩ := List.cons.inj ha; obtain ⟨hb, -⟩ := List.cons.inj hb; obtain ⟨hc, -⟩ := List.cons.inj hc; obtain ⟨hn, -⟩ := List.cons.inj hn; obtain ⟨hu, -⟩ := List.cons.inj hu
  subst ha hb hc hn hu
  simp only [List.map_cons, List.map_nil, List.flatMap_cons, List.flatMap_nil, List.append_nil, Prod.mk.injEq] at hx
  obtain ⟨rfl, rfl⟩ := hx
  exact ⟨a, b, c, n, u, rfl, rfl, rfl, za, zb, zc, zn⟩
/-- .. and shut. -/
theorem shut_sub {H : Type} {enc : TypeId × Value → H} {w : World} {base : Nat} {spare : Nat → Bool} {held : Bool} {a b c : ByteArray} {n : Int} {u : Bool} (za : a.size ≤ maxLen) (zb : b.size ≤ maxLen) (zc : c.size ≤ maxLen) (zn : (Lit.int .u32 n).wf = true) :
    DataW.Trod enc Try.prog w base spare held 24 (.agg #[.string a, .string b, .string c, .int .u32 n, .bool u]) (.agg [.lit (.string a.data.toList), .lit (.string b.data.toList), .lit (.string c.data.toList), .lit (.int .u32 n), .lit (.bool u)]) [] := by
  have hC : Try.prog.cellsOf 24 = 5 := by kernel_rfl
  have hS : Try.prog.cellsOf 9 = 1 := by kernel_rfl
  have hI : Try.prog.cellsOf 22 = 1 := by kernel_rfl
  have hB : Try.prog.cellsOf 4 = 1 := by kernel_rfl
  have s1 : ∀ s : ByteArray, s.size ≤ maxLen → DataW.trod enc Try.prog w base spare held 1 9 [.string s] = some (.lit (.string s.data.toList), []) := fun s h => by simp [DataW.trod, Try.underlying9, h]
  have s2 : DataW.trod enc Try.prog w base spare held 1 22 [.int .u32 n] = some (.lit (.int .u32 n), []) := by simp [DataW.trod, Try.underlying22, zn]
  have s3 : DataW.trod enc Try.prog w base spare held 1 4 [.bool u] = some (.lit (.bool u), []) := by simp [DataW.trod, Try.underlying4]
  refine ⟨2, ?_⟩
  unfold DataW.trod
  simp [Try.underlying24, hC, hS, hI, hB, Value.cells, s1 _ za, s1 _ zb, s1 _ zc, s2, s3]
/-- a subscriber's texts are no longer than what is handed in -/
theorem sized_sub {H : Type} {ts : List TypeId} {ds : List (DataW H)} (h : (DataW.weightsEach Try.prog ts ds).all (· ≤ reachBytes) = true) {j : Nat} {a b c : ByteArray} {n : Int} {u : Bool} (ht : ts[j]? = some 24)
    (hd : ds[j]? = some (.agg [.lit (.string a.data.toList), .lit (.string b.data.toList), .lit (.string c.data.toList), .lit (.int .u32 n), .lit (.bool u)])) : a.size ≤ 140737488351232 ∧ b.size ≤ 140737488351232 ∧ c.size ≤ 140737488351232 := by
  have hw := DataW.weights_mem_each (P := Try.prog) ht hd
  simp only [DataW.weights, DataW.weightsEach, Try.underlying24, List.map_cons, List.map_nil, List.append_nil, List.cons_append, List.nil_append, List.mem_cons, List.not_mem_nil, or_false] at hw
  have all := fun n hn => of_decide_eq_true (List.all_eq_true.1 h n (hw n hn))
  have h1 := all a.data.toList.length (by simp)
  have h2 := all b.data.toList.length (by simp)
  have h3 := all c.data.toList.length (by simp)
  rw [Array.length_toList] at h1 h2 h3
  exact ⟨h1, h2, h3⟩

namespace recordBytes
open Go.ChangeMaps (open_string shut_string)
theorem own : ownKnob Try.prog.godebug = none := by kernel_rfl
set_option maxRecDepth 100000 in
theorem lifted (os : Os) (started : os.Started) (H : Type) (enc : TypeId × Value → H) :
    ReturnsInHanded {} Try.checked os 3 .any (Rows.recordBytesSpec.pre6 enc Try.prog Try.f3 Rows.recordBytesRow.domain false) (Rows.recordBytesSpec.post enc Try.prog Try.f3 false true false false) := by
  refine returnsInHanded_of_change_sized (C := Try.checked) own started (by kernel_rfl) Try.func3
    (ChangeSpec.witness6 (enc := enc) (C := Try.checked) false ⟨#[], #[.agg #[.string ByteArray.empty, .string ByteArray.empty, .string ByteArray.empty, .int .u32 0, .bool false], .agg #[.string ByteArray.empty, .string ByteArray.empty, .string ByteArray.empty, .int .u32 0, .bool false], .string ByteArray.empty], []⟩ 8 (by kernel_rfl) (by kernel_rfl) (by kernel_rfl) (by kernel_rfl)) ?_
  intro W base args ds gs before hval0 hW hcnd hsz0 _
  have hsz : (DataW.weightsEach Try.prog (Try.f3.params.toList ++ Rows.recordBytesSpec.plain.varTypes Try.prog) (ds ++ gs)).all (· ≤ reachBytes) = true := hsz0
  have hval : ∀ (j : Nat) t v, Try.f3.params[j]? = some t → args[j]? = some v → Value.okWide Try.prog W .any base t v := hval0
  have hW' := hW
  obtain ⟨p, q, hA0, hV, rfl, hfz, hnd⟩ := hW
  have hA : DataW.TrodAll enc Try.prog W 0 (fun _ => true) true Try.f3.params.toList args.toList ds p := hA0
  rw [Try.params3] at hA hval hsz
  obtain ⟨v0, vs0, d0, ds0, p0, q0, hargs, rfl, rfl, h0, r0⟩ := trodAll_cons hA
  obtain ⟨v1, vs1, d1, ds1, p1, q1, rfl, rfl, rfl, h1, r1⟩ := trodAll_cons r0
  obtain ⟨v2, vs2, d2, ds2, p2, q2, rfl, rfl, rfl, h2, r2⟩ := trodAll_cons r1
  obtain ⟨rfl, rfl, rfl⟩ := trodAll_nil r2
  obtain rfl : args = #[v0, v1, v2] := by cases args; simp_all
  obtain ⟨rfl, rfl⟩ := trodVars_none hV
  obtain ⟨a, b, c, n, t, rfl, rfl, rfl, za, zb, zc, zn⟩ := open_sub (okWide_struct Try.underlying24 (hval 0 24 v0 rfl rfl)) h0
  obtain ⟨d, e, f, m, u, rfl, rfl, rfl, zd, ze, zf, zm⟩ := open_sub (okWide_struct Try.underlying24 (hval 1 24 v1 rfl rfl)) h1
  obtain ⟨s, rfl, rfl, rfl, zs⟩ := open_string Try.underlying9 (hval 2 9 v2 rfl rfl) h2
  obtain ⟨wa, wb, wc⟩ := sized_sub hsz (j := 0) rfl rfl
  obtain ⟨wd, we, wf⟩ := sized_sub hsz (j := 1) rfl rfl
  have ws : s.size ≤ 140737488351232 := by
    have z := sized_string hsz (j := 2) (t := 9) rfl rfl
    rw [Array.length_toList] at z
    exact z
  have bn : 0 ≤ n ∧ n < 4294967296 := by
    simp [Lit.wf, IntKind.min, IntKind.max, IntKind.signed, IntKind.bits] at zn
    omega
  have bm : 0 ≤ m ∧ m < 4294967296 := by
    simp [Lit.wf, IntKind.min, IntKind.max, IntKind.signed, IntKind.bits] at zm
    omega
  clear hA0 hval0 hsz0 hsz
  refine (PA.halyardlaw28_RecordBytes.calls 20 a b c n t d e f m u s true W (law28 a b c d e f s n m t u bn.1 bn.2 bm.1 bm.2 wa wb wc wd we wf ws)).mono fun e W' ⟨he, bel⟩ => ?_
  subst he
  exact ⟨_, rfl, _, _, _, [], _, [], hW', trodAll_mk1 (shut_bool Try.underlying4 _), trodAll_cons_mk (shut_sub za zb zc zn) (trodAll_cons_mk (shut_sub zd ze zf zm) (trodAll_cons_mk (shut_string Try.underlying9 zs) trodAll_mk0)), rfl, bel.frame _, fun h => by cases h⟩
theorem over : Rows.recordBytesRow.holds Try.pinned (OpenSpec.ofChange Rows.recordBytesSpec) :=
  OpenClaim.holds_of_wide 3 Try.f3 rfl rfl rfl rfl rfl rfl rfl ⟨rfl, rfl, rfl, rfl, rfl⟩ rfl rfl rfl rfl rfl (by kernel_rfl) Try.func3 (by kernel_rfl)
    (of_decide_eq_true (by kernel_rfl)) (by unfold Func.isWrapper; first | (rw [if_pos (by decide +kernel)]; kernel_rfl) | (rw [if_neg (by decide +kernel)]; exact ⟨rfl, rfl⟩))
    (fun os started H enc _ => lifted os started H enc)
theorem proved : Rows.RecordBytesSaid := over
end recordBytes
/-- The row, under a short name, for the claim. -/
theorem recordBytes_holds : Rows.RecordBytesSaid := recordBytes.proved
end Go.Proofs.Ytmhlebnomagekaa
