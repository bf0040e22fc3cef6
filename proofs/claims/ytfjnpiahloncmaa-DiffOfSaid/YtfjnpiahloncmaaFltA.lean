import Derived.Test.YtfjnpiahloncmaaFltR2
namespace Go.Proofs.Ytfjnpiahloncmaa
open Go.RowKit
theorem mid_01 : midF 0 4607182418800017408 = (2303591209400008704, true) := by decide +kernel
theorem key_0 : keyF 0 = 9223372036854775808 := by decide +kernel
theorem cls_m1 : clsF 13830554455654793216 = 2 := by decide +kernel
end Go.Proofs.Ytfjnpiahloncmaa
