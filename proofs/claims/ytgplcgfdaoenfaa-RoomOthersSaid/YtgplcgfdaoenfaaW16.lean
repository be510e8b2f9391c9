/- The walks. No condition. -/
import Derived.Test.YtgplcgfdaoenfaaChecked
import Derived.Test.YtgplcgfdaoenfaaGwCut
import Derived.Test.YtgplcgfdaoenfaaFacts
import Derived.Test.YtgplcgfdaoenfaaPlain
import Derived.Test.YtgplcgfdaoenfaaW11
import Derived.Test.YtgplcgfdaoenfaaW13
import Derived.Test.YtgplcgfdaoenfaaW14
import Derived.Test.YtgplcgfdaoenfaaW15
namespace Go.Proofs.Ytgplcgfdaoenfaa
open Go Go.Gw
set_option linter.unusedVariables false
set_option linter.unusedSimpArgs false

theorem law1 (v1 v2 : Value) (order : List Int) (width span from_ : Int) (l : List Op) (w0 : World) (hv1 : IsSl w0 v1 1 encI order) (hv2 : IsSl w0 v2 3 Op.enc l) :
    Ret Try.prog 3 #[v1, .int .i64 width, .int .i64 span, .int .i64 from_, v2] w0 (fun v w => v = .bool true ∧ Ext w0 w) := by
  cases h : newOK order width span from_ with
  | true => exact law1_ok v1 v2 order width span from_ l w0 hv1 hv2  h
  | false => exact law1_bad v1 v2 order width span from_ l w0 hv1 hv2  h

theorem law2 (v1 v2 : Value) (order : List Int) (width span from_ : Int) (l : List Op) (w0 : World) (hv1 : IsSl w0 v1 1 encI order) (hv2 : IsSl w0 v2 3 Op.enc l) (now later : Int) :
    Ret Try.prog 4 #[v1, .int .i64 width, .int .i64 span, .int .i64 from_, v2, .int .i64 now, .int .i64 later] w0 (fun v w => v = .bool true ∧ Ext w0 w) := by
  by_cases h : order.length ≤ 60 ∧ l.length ≤ 40 ∧ newOK order width span from_ = true
  · exact law2_ok v1 v2 order width span from_ l w0 hv1 hv2 now later h.2.2 h.1 h.2.1
  · exact law2_no v1 v2 order width span from_ l w0 hv1 hv2 now later h

theorem law3 (v1 v2 : Value) (order : List Int) (width span from_ : Int) (l : List Op) (w0 : World) (hv1 : IsSl w0 v1 1 encI order) (hv2 : IsSl w0 v2 3 Op.enc l) (i now : Int) :
    Ret Try.prog 5 #[v1, .int .i64 width, .int .i64 span, .int .i64 from_, v2, .int .i64 i, .int .i64 now] w0 (fun v w => v = .bool true ∧ Ext w0 w) := by
  by_cases h : order.length ≤ 60 ∧ l.length ≤ 40 ∧ newOK order width span from_ = true
  · exact law3_ok v1 v2 order width span from_ l w0 hv1 hv2 i now h.2.2 h.1 h.2.1
  · exact law3_no v1 v2 order width span from_ l w0 hv1 hv2 i now h

theorem law4 (v1 : Value) (order : List Int) (width span from_ now : Int) (w0 : World) (hv1 : IsSl w0 v1 1 encI order) :
    Ret Try.prog 6 #[v1, .int .i64 width, .int .i64 span, .int .i64 from_, .int .i64 now] w0 (fun v w => v = .bool true ∧ Ext w0 w) := by
  by_cases h : order.length ≤ 60 ∧ newOK order width span from_ = true
  · exact law4_ok v1 order width span from_ now w0 hv1 h.2 h.1
  · exact law4_no v1 order width span from_ now w0 hv1 h

theorem law5 (v1 v2 : Value) (order : List Int) (width span from_ : Int) (l : List Op) (w0 : World) (hv1 : IsSl w0 v1 1 encI order) (hv2 : IsSl w0 v2 3 Op.enc l) :
    Ret Try.prog 7 #[v1, .int .i64 width, .int .i64 span, .int .i64 from_, v2] w0 (fun v w => v = .bool true ∧ Ext w0 w) := by
  by_cases h : order.length ≤ 60 ∧ l.length ≤ 40 ∧ newOK order width span from_ = true
  · exact law5_ok v1 v2 order width span from_ l w0 hv1 hv2  h.2.2 h.1 h.2.1
  · exact law5_no v1 v2 order width span from_ l w0 hv1 hv2  h

theorem law6 (v1 v2 : Value) (order : List Int) (width span from_ : Int) (l : List Op) (w0 : World) (hv1 : IsSl w0 v1 1 encI order) (hv2 : IsSl w0 v2 3 Op.enc l) (now : Int) :
    Ret Try.prog 8 #[v1, .int .i64 width, .int .i64 span, .int .i64 from_, v2, .int .i64 now] w0 (fun v w => v = .bool true ∧ Ext w0 w) := by
  by_cases h : order.length ≤ 60 ∧ l.length ≤ 40 ∧ newOK order width span from_ = true
  · exact law6_ok v1 v2 order width span from_ l w0 hv1 hv2 now h.2.2 h.1 h.2.1
  · exact law6_no v1 v2 order width span from_ l w0 hv1 hv2 now h

end Go.Proofs.Ytgplcgfdaoenfaa
