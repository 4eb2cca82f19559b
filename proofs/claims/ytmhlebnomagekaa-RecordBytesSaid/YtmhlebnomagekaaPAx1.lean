-- written by a program of this session over the kit's print, with functions proved by hand beside it
import Derived.Test.YtmhlebnomagekaaPAx0
namespace Go.Proofs.Ytmhlebnomagekaa.PA
open Go.RowKit Go.Proofs.YtmhlebnomagekaaW.PrintWords Go.Proofs.YtmhlebnomagekaaW.PrintLast Go.Proofs.YtmhlebnomagekaaW.PrintMore
attribute [local go_sem] max2_int min2_int max_two min_two max_three min_three max_four min_four   -- for this text's walks alone
set_option linter.unusedVariables false
set_option linter.unusedSimpArgs false

theorem eqA24 (d : Nat) (w : World) (x0 y0 : ByteArray) (x1 y1 : ByteArray) (x2 y2 : ByteArray) (x3 y3 : Int) (x4 y4 : Bool) :
    (Op.equalIn (d + 2) 24 (.agg #[.string x0, .string x1, .string x2, .int .u32 x3, .bool x4]) (.agg #[.string y0, .string y1, .string y2, .int .u32 y3, .bool y4])).run Try.prog w = .ok (x0.toList == y0.toList && (x1.toList == y1.toList && (x2.toList == y2.toList && (x3 == y3 && (x4 == y4))))) w := by
  refine eqA_of Try.underlying24 (by kernel_rfl) ?_
  refine eqf_cons (by rfl) (by go_simp; rfl) (by go_simp; rfl) (by go_simp) ?_
  refine eqf_cons (by rfl) (by go_simp; rfl) (by go_simp; rfl) (by go_simp) ?_
  refine eqf_cons (by rfl) (by go_simp; rfl) (by go_simp; rfl) (by go_simp) ?_
  refine eqf_cons (by rfl) (by go_simp; rfl) (by go_simp; rfl) (by go_simp) ?_
  exact eqf_last (by rfl) (by go_simp; rfl) (by go_simp; rfl) (by go_simp)
end Go.Proofs.Ytmhlebnomagekaa.PA
