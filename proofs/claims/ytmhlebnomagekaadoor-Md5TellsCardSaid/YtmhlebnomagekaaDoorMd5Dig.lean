/- The published digests of RFC 1321, reckoned by the kernel. -/
import Derived.Test.YtmhlebnomagekaaDoorMd5All
set_option linter.unusedVariables false
set_option linter.unusedSimpArgs false
namespace Go.Proofs.YtmhlebnomagekaaDoor
open Go.RowKit Go.Proofs.YtmhlebnomagekaaDoorW.PrintWords

theorem strC (w : World) (A : Addr) (xs : List ByteArray) (hl : xs.length ≤ 9223372036854775807) (h : ∀ j x, xs[j]? = some x → w.cell? (A.add j) = some (.string x)) : Kd.C Kd.string w (some A) xs.length xs :=
  ⟨rfl, hl, fun _ => ⟨A, rfl, fun j p hj => ⟨[.string p], rfl, rfl, fun i u hu => by
    match i, hu with
    | 0, hu =>
      simp at hu
      subst hu
      show w.cell? (A.add (j * 1 + 0)) = _
      rw [Nat.mul_one, Nat.add_zero]
      exact h j p hj
    | i + 1, hu => simp at hu⟩⟩⟩
def texts7 : List ByteArray := [⟨#[]⟩, ⟨#[97]⟩, ⟨#[97, 98, 99]⟩, ⟨#[109, 101, 115, 115, 97, 103, 101, 32, 100, 105, 103, 101, 115, 116]⟩, ⟨#[97, 98, 99, 100, 101, 102, 103, 104, 105, 106, 107, 108, 109, 110, 111, 112, 113, 114, 115, 116, 117, 118, 119, 120, 121, 122]⟩, ⟨#[65, 66, 67, 68, 69, 70, 71, 72, 73, 74, 75, 76, 77, 78, 79, 80, 81, 82, 83, 84, 85, 86, 87, 88, 89, 90, 97, 98, 99, 100, 101, 102, 103, 104, 105, 106, 107, 108, 109, 110, 111, 112, 113, 114, 115, 116, 117, 118, 119, 120, 121, 122, 48, 49, 50, 51, 52, 53, 54, 55, 56, 57]⟩, ⟨#[49, 50, 51, 52, 53, 54, 55, 56, 57, 48, 49, 50, 51, 52, 53, 54, 55, 56, 57, 48, 49, 50, 51, 52, 53, 54, 55, 56, 57, 48, 49, 50, 51, 52, 53, 54, 55, 56, 57, 48, 49, 50, 51, 52, 53, 54, 55, 56, 57, 48, 49, 50, 51, 52, 53, 54, 55, 56, 57, 48, 49, 50, 51, 52, 53, 54, 55, 56, 57, 48, 49, 50, 51, 52, 53, 54, 55, 56, 57, 48]⟩]
def digs7 : List ByteArray := [⟨#[100, 52, 49, 100, 56, 99, 100, 57, 56, 102, 48, 48, 98, 50, 48, 52, 101, 57, 56, 48, 48, 57, 57, 56, 101, 99, 102, 56, 52, 50, 55, 101]⟩, ⟨#[48, 99, 99, 49, 55, 53, 98, 57, 99, 48, 102, 49, 98, 54, 97, 56, 51, 49, 99, 51, 57, 57, 101, 50, 54, 57, 55, 55, 50, 54, 54, 49]⟩, ⟨#[57, 48, 48, 49, 53, 48, 57, 56, 51, 99, 100, 50, 52, 102, 98, 48, 100, 54, 57, 54, 51, 102, 55, 100, 50, 56, 101, 49, 55, 102, 55, 50]⟩, ⟨#[102, 57, 54, 98, 54, 57, 55, 100, 55, 99, 98, 55, 57, 51, 56, 100, 53, 50, 53, 97, 50, 102, 51, 49, 97, 97, 102, 49, 54, 49, 100, 48]⟩, ⟨#[99, 51, 102, 99, 100, 51, 100, 55, 54, 49, 57, 50, 101, 52, 48, 48, 55, 100, 102, 98, 52, 57, 54, 99, 99, 97, 54, 55, 101, 49, 51, 98]⟩, ⟨#[100, 49, 55, 52, 97, 98, 57, 56, 100, 50, 55, 55, 100, 57, 102, 53, 97, 53, 54, 49, 49, 99, 50, 99, 57, 102, 52, 49, 57, 100, 57, 102]⟩, ⟨#[53, 55, 101, 100, 102, 52, 97, 50, 50, 98, 101, 51, 99, 57, 53, 53, 97, 99, 52, 57, 100, 97, 50, 101, 50, 49, 48, 55, 98, 54, 55, 97]⟩]
theorem dt_0 : hexF (digest (joinA [texts7.getD 0 ⟨#[]⟩])) = digs7.getD 0 ⟨#[]⟩ := by kernel_rfl
theorem dt_1 : hexF (digest (joinA [texts7.getD 1 ⟨#[]⟩])) = digs7.getD 1 ⟨#[]⟩ := by kernel_rfl
theorem dt_2 : hexF (digest (joinA [texts7.getD 2 ⟨#[]⟩])) = digs7.getD 2 ⟨#[]⟩ := by kernel_rfl
theorem dt_3 : hexF (digest (joinA [texts7.getD 3 ⟨#[]⟩])) = digs7.getD 3 ⟨#[]⟩ := by kernel_rfl
theorem dt_4 : hexF (digest (joinA [texts7.getD 4 ⟨#[]⟩])) = digs7.getD 4 ⟨#[]⟩ := by kernel_rfl
theorem dt_5 : hexF (digest (joinA [texts7.getD 5 ⟨#[]⟩])) = digs7.getD 5 ⟨#[]⟩ := by kernel_rfl
theorem dt_6 : hexF (digest (joinA [texts7.getD 6 ⟨#[]⟩])) = digs7.getD 6 ⟨#[]⟩ := by kernel_rfl
theorem digest_texts7 : ∀ k, k < 7 → hexF (digest (joinA [texts7.getD k ⟨#[]⟩])) = digs7.getD k ⟨#[]⟩ := by
  intro k hk
  match k, hk with
  | 0, _ => exact dt_0
  | 1, _ => exact dt_1
  | 2, _ => exact dt_2
  | 3, _ => exact dt_3
  | 4, _ => exact dt_4
  | 5, _ => exact dt_5
  | 6, _ => exact dt_6
  | k + 7, h => omega
theorem hex_00ff : hexF ⟨#[0, 255]⟩ = ⟨#[48, 48, 102, 102]⟩ := by kernel_rfl
end Go.Proofs.YtmhlebnomagekaaDoor
