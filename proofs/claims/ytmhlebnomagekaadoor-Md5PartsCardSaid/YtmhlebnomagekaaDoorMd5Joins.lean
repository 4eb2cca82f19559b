/- Md5Joins: parts are digested as they are one behind the other; digits are two a byte, and tell bytes apart: the walk. -/
import Derived.Test.YtmhlebnomagekaaDoorMd5Law
import Derived.Test.YtmhlebnomagekaaDoorMd5Alive
import Derived.Test.YtmhlebnomagekaaDoorPMx1
import Derived.Laws.AppendOwnNone
set_option linter.unusedVariables false
set_option linter.unusedSimpArgs false
namespace Go.Proofs.YtmhlebnomagekaaDoor
open Go.RowKit Go.Proofs.YtmhlebnomagekaaDoorW.PrintWords Go.Proofs.YtmhlebnomagekaaDoor.PM
theorem infoString : (Tryd.prog.info? 9).map (fun i => (i.zero, i.size, i.bytes)) = some (some (.string ByteArray.empty), 1, 16) := by kernel_rfl
theorem hexF_eq (s t : ByteArray) : (hexF s = hexF t) = (s = t) := propext ⟨hexF_inj, fun h => by rw [h]⟩
set_option maxRecDepth 100000 in
set_option maxHeartbeats 4000000 in
theorem joins_long (A0 : Option Addr) (c0 : Nat) (l : List ByteArray) (s t : ByteArray) (w : World) (T : Trig w) (hB : 3 ≤ w.heap.size) (hr0 : Kd.C Kd.string w A0 l.length l) (hc0 : l.length ≤ c0)
    (hlb : ∀ x ∈ l, x.size ≤ 140737488351232) (hln : l.length ≤ 140737488351232) (hs : s.size ≤ 140737488351232) (ht : t.size ≤ 140737488351232) (hL : longB l = true) :
    Calls Tryd.prog 4 #[.slice A0 l.length c0, .string s, .string t] w fun e w' => e = .returned (.bool true) ∧ Below w.heap.size w w' := by
  have HLf := Aside0.mk (show halyardlaw05_long.f 101 l = some true by rw [long_f l hlb hln, hL])
  have HR := Aside0.mk hr0
  clear hr0 hlb hL
  go_enter Tryd.func4, Tryd.ntmps4
  go_wp2_with fail
  refine (halyardlaw05_long.calls 101 A0 c0 l true _ HR.out hc0 HLf.out).mono ?_
  rintro e w1 ⟨rfl, hd⟩
  have HB1 := Aside0.mk hd.below
  clear hd
  go_wp2_with fail
  refine (alive05 _ (T.below HB1.out hB) (Nat.le_trans hB HB1.out.size)).mono ?_
  rintro e w2 ⟨rfl, hb⟩
  go_wp2
  go_ret
  exact ⟨rfl, below_then hb HB1.out HB1.out.size⟩
set_option maxRecDepth 100000 in
set_option maxHeartbeats 4000000 in
theorem joins_big (A0 : Option Addr) (c0 : Nat) (l : List ByteArray) (s t : ByteArray) (w : World) (T : Trig w) (hB : 3 ≤ w.heap.size) (hr0 : Kd.C Kd.string w A0 l.length l) (hc0 : l.length ≤ c0)
    (hlb : ∀ x ∈ l, x.size ≤ 140737488351232) (hln : l.length ≤ 140737488351232) (hs : s.size ≤ 140737488351232) (ht : t.size ≤ 140737488351232) (hL : longB l = false) (hbig : 4096 < s.size + t.size) :
    Calls Tryd.prog 4 #[.slice A0 l.length c0, .string s, .string t] w fun e w' => e = .returned (.bool true) ∧ Below w.heap.size w w' := by
  have HLf := Aside0.mk (show halyardlaw05_long.f 101 l = some false by rw [long_f l hlb hln, hL])
  have HR := Aside0.mk hr0
  clear hr0 hlb hL
  have hbig' : (4096 : Int) < (s.size : Int) + (t.size : Int) := by omega
  go_enter Tryd.func4, Tryd.ntmps4
  go_wp2_with fail
  refine (halyardlaw05_long.calls 101 A0 c0 l false _ HR.out hc0 HLf.out).mono ?_
  rintro e w1 ⟨rfl, hd⟩
  have HB1 := Aside0.mk hd.below
  clear hd
  go_wp2_with fail
  refine (alive05 _ (T.below HB1.out hB) (Nat.le_trans hB HB1.out.size)).mono ?_
  rintro e w2 ⟨rfl, hb⟩
  go_wp2
  go_ret
  exact ⟨rfl, below_then hb HB1.out HB1.out.size⟩
end Go.Proofs.YtmhlebnomagekaaDoor
