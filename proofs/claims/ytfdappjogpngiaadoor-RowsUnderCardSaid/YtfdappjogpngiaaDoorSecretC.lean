/- secret: the contracts of its functions, by their walks. No condition. -/
import Derived.Test.YtfdappjogpngiaaDoorSecretA
namespace AL.Secret
open Go Go.Proofs AL AL.Fnv
set_option linter.unusedVariables false
set_option linter.unusedSimpArgs false

theorem f37_body : Tryd.f37.body = some (.seq (.region 0 (rg Tryd.f37 0) false) (.seq (.region 1 (rg Tryd.f37 1) false) (.ret))) := by kernel_rfl

set_option maxRecDepth 100000 in
set_option maxHeartbeats 8000000 in
theorem RLoose_c  : Pure Tryd.prog 37 [] (AV.t (TV.agg [.s (i6 loose.1), .s (bo loose.2)])) := by
  refine Pure.of_body Tryd.func37 f37_body (by kernel_rfl) Tryd.ntmps37 (by kernel_rfl) (by kernel_rfl) ?_
  refine AMx.seq ?_
  refine AMx.region (ces := []) (ks := [0]) (hs := [0]) (cs := []) (s' := AS.lst 2 [(0, vp 0 0)] [(0, AObj.row [.s (i6 0), .s (bo false)])]) (by kernel_rfl) ?_ ?_
  · exact trivial
  refine AMx.seq ?_
  refine AMx.region (ces := []) (ks := [0]) (hs := [0]) (cs := []) (s' := AS.lst 2 [(0, vp 0 0)] [(0, AObj.row [.s (i6 6), .s (bo false)])]) (by kernel_rfl) ?_ ?_
  · exact trivial
  refine AMx.ret ?_
  exact RetP.mk (r := AV.t (TV.agg [.s (i6 6), .s (bo false)])) (by kernel_rfl) rfl

end AL.Secret
