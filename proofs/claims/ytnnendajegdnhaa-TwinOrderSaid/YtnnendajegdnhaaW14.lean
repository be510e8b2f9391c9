/- The walks. No condition. -/
import Derived.Test.YtnnendajegdnhaaChecked
import Derived.Test.YtnnendajegdnhaaGwBits
import Derived.Test.YtnnendajegdnhaaFacts
import Derived.Test.YtnnendajegdnhaaPlain
import Derived.Test.YtnnendajegdnhaaPlainV
import Derived.Test.YtnnendajegdnhaaPlainU
import Derived.Test.YtnnendajegdnhaaW8
import Derived.Test.YtnnendajegdnhaaPlainW
namespace Go.Proofs.Ytnnendajegdnhaa
open Go Go.Gw
set_option linter.unusedVariables false
set_option linter.unusedSimpArgs false
theorem plan_any (v1 v2 : Value) (old next : List Pl) (v3 : Value) (ts : List Ow) (w0 : World) (hv1 : IsSl w0 v1 9 Pl.enc old) (hv2 : IsSl w0 v2 9 Pl.enc next) (hv3 : IsSl w0 v3 11 Ow.enc ts) (hok : ∀ o ∈ ts, o.ok) (hl1 : ts.length ≤ 100000) : Ret Try.prog 28 #[v1, v2, v3] w0 (fun u w => ∃ mv vl vr, ∃ ms : List Mv, u = .tuple #[.agg #[mv, vl, vr], .int .i64 (errP old next ts)] ∧ ms.map Mv.say = sayP old next ts ∧ HSat No w0 [OSl 91 mv 3 Mv.enc ms, RowsA 3 1 encI (rowsOf ms), OSl 3 vl 1 encI (clP old next ts), OSl 3 vr 1 encI (crP old next ts)] w) := by
  by_cases herr : errP old next ts = 0
  · refine Ret.mono (plan_ok v1 v2 old next v3 ts w0 hv1 hv2 hv3 hok hl1 herr) ?_
    rintro _ w ⟨mv, vl, vr, ms, rfl, hms, H⟩
    refine ⟨mv, vl, vr, ms, by rw [herr], by unfold sayP; rw [if_pos herr]; exact hms, ?_⟩
    unfold clP crP
    rw [if_pos herr, if_pos herr]; exact H
  · refine Ret.mono (plan_err v1 v2 old next v3 ts w0 hv1 hv2 hv3 hok hl1 herr) ?_
    rintro _ w ⟨rfl, he⟩
    refine ⟨.slice none 0 0, .slice none 0 0, .slice none 0 0, [], rfl, by unfold sayP; rw [if_neg herr]; rfl, ?_⟩
    unfold clP crP
    rw [if_neg herr, if_neg herr]
    exact ((((HSat.start w0).ext he).nilO 3 1 encI).nilO 3 1 encI |>.rowsZ 3 1 encI).nilO 91 3 Mv.enc
end Go.Proofs.Ytnnendajegdnhaa
