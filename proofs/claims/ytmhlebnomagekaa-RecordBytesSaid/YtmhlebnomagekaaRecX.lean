/- record.Read and the chapter's example of layer 28, as the printed texts ask for them. -/
import Derived.Test.YtmhlebnomagekaaRecordB
set_option linter.unusedVariables false
set_option linter.unusedSimpArgs false
namespace Go.Proofs.Ytmhlebnomagekaa
open Go.RowKit Go.Proofs.YtmhlebnomagekaaW.PrintWords Go.Proofs.Ytmhlebnomagekaa.PA

theorem read8_ok (s : ByteArray) : (read8 s).2.2 = 0 ∨ read8 s = (⟨#[]⟩, ⟨#[]⟩, 6) := by
  unfold read8; split
  · exact .inr rfl
  · exact .inl rfl
theorem read8_size (s : ByteArray) : (read8 s).2.1.size ≤ s.size ∧ (read8 s).1.size ≤ s.size := by
  unfold read8; split
  · exact ⟨Nat.zero_le _, Nat.zero_le _⟩
  · simp; omega

/-- the subscriber of bytes: name, secret, plan, address, whether it is suspended, an error -/
def recRead (s : ByteArray) : ByteArray × ByteArray × ByteArray × Int × Bool × Int :=
  let p1 := read8 s; let p2 := read8 p1.2.1; let p3 := read8 p2.2.1; let r := p3.2.1
  if p1.2.2 = 0 ∧ p2.2.2 = 0 ∧ p3.2.2 = 0 ∧ r.size = 5 ∧ ¬ 1 < bt r 4 ∧ okSub p1.1 p2.1 p3.1 (val32 r) = true then (p1.1, p2.1, p3.1, val32 r, bt r 4 == 1, 0) else (⟨#[]⟩, ⟨#[]⟩, ⟨#[]⟩, 0, false, 7)

theorem recRead_calls (s : ByteArray) (w : World) (hs : s.size ≤ 140737488351232) :
    Calls Try.prog 14 #[.string s] w fun e w' => e = .returned (.tuple #[.agg #[.string (recRead s).1, .string (recRead s).2.1, .string (recRead s).2.2.1, .int .u32 (recRead s).2.2.2.1, .bool (recRead s).2.2.2.2.1], .int .i64 (recRead s).2.2.2.2.2]) ∧ Below w.heap.size w w' := by
  have h1 := octet_Read8_f s (by omega)
  have z1 := (read8_size s).1
  have h2 := octet_Read8_f (read8 s).2.1 (by omega)
  have z2 := (read8_size (read8 s).2.1).1
  have h3 := octet_Read8_f (read8 (read8 s).2.1).2.1 (by omega)
  unfold recRead
  dsimp only
  rcases read8_ok s with g1 | g1
  · have e1 : read8 s = ((read8 s).1, (read8 s).2.1, 0) := by rw [← g1]
    rcases read8_ok (read8 s).2.1 with g2 | g2
    · have e2 : read8 (read8 s).2.1 = ((read8 (read8 s).2.1).1, (read8 (read8 s).2.1).2.1, 0) := by rw [← g2]
      rcases read8_ok (read8 (read8 s).2.1).2.1 with g3 | g3
      · have e3 : read8 (read8 (read8 s).2.1).2.1 = ((read8 (read8 (read8 s).2.1).2.1).1, (read8 (read8 (read8 s).2.1).2.1).2.1, 0) := by rw [← g3]
        have f1 : octet_Read8.f s = some ((read8 s).1, (read8 s).2.1, 0) := h1.trans (congrArg some e1)
        have f2 := h2.trans (congrArg some e2)
        have f3 := h3.trans (congrArg some e3)
        by_cases c1 : (read8 (read8 (read8 s).2.1).2.1).2.1.size = 5
        · by_cases c2 : 1 < bt (read8 (read8 (read8 s).2.1).2.1).2.1 4
          · rw [if_neg (fun h => h.2.2.2.2.1 c2)]
            exact read_big s _ _ _ _ _ _ w f1 f2 f3 c1 c2
          · by_cases c3 : okSub (read8 s).1 (read8 (read8 s).2.1).1 (read8 (read8 (read8 s).2.1).2.1).1 (val32 (read8 (read8 (read8 s).2.1).2.1).2.1) = true
            · rw [if_pos ⟨g1, g2, g3, c1, c2, c3⟩]
              exact read_good s _ _ _ _ _ _ w f1 f2 f3 c1 c2 c3
            · rw [if_neg (fun h => c3 h.2.2.2.2.2)]
              exact read_check s _ _ _ _ _ _ w f1 f2 f3 c1 c2 c3
        · rw [if_neg (fun h => c1 h.2.2.2.1)]
          exact read_size s _ _ _ _ _ _ w f1 f2 f3 c1
      · rw [if_neg (fun h => by rw [g3] at h; exact absurd h.2.2.1 (by decide))]
        exact read_bad3 s _ _ ⟨#[]⟩ _ _ ⟨#[]⟩ w (h1.trans (congrArg some e1)) (h2.trans (congrArg some e2)) (h3.trans (congrArg some g3))
    · rw [if_neg (fun h => by rw [g2] at h; exact absurd h.2.1 (by decide))]
      exact read_bad2 s _ ⟨#[]⟩ ⟨#[]⟩ _ ⟨#[]⟩ ⟨#[]⟩ w (h1.trans (congrArg some e1)) (h2.trans (congrArg some g2))
  · rw [if_neg (fun h => by rw [g1] at h; exact absurd h.1 (by decide))]
    exact read_bad1 s ⟨#[]⟩ ⟨#[]⟩ ⟨#[]⟩ ⟨#[]⟩ ⟨#[]⟩ ⟨#[]⟩ w (h1.trans (congrArg some g1))

def record_Read.f (a0 : ByteArray) : Option (ByteArray × ByteArray × ByteArray × Int × Bool × Int) := if a0.size ≤ 140737488351232 then some (recRead a0) else none
theorem record_Read.calls (a0 : ByteArray) (r1 : ByteArray) (r2 : ByteArray) (r3 : ByteArray) (r4 : Int) (r5 : Bool) (r6 : Int) (w : World) (h : record_Read.f a0 = some (r1, r2, r3, r4, r5, r6)) :
    Calls Try.prog 14 #[.string a0] w fun e w' => e = .returned (.tuple #[.agg #[.string r1, .string r2, .string r3, .int .u32 r4, .bool r5], .int .i64 r6]) ∧ Below w.heap.size w w' := by
  unfold record_Read.f at h
  split at h
  · rename_i hs
    have := recRead_calls a0 w hs
    simp only [Option.some.injEq] at h
    rw [h] at this
    exact this
  · cases h
end Go.Proofs.Ytmhlebnomagekaa
