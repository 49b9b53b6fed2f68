/- What is said at the head of the laws on positions. -/
import Derived.Test.YtlpeklhejjidfaaPLx5
import Derived.Test.YtlpeklhejjidfaaPosLib
namespace Go.Proofs.Ytlpeklhejjidfaa.Pure
open Go.RowKit Go.Proofs.Ytlpeklhejjidfaa.PL Go.Proofs.YtlpeklhejjidfaaW.PrintWords Go.Proofs.YtlpeklhejjidfaaW.PrintLast Go.Proofs.YtlpeklhejjidfaaW.PrintMore
theorem awake1 : sakialaw01_awake.f 1 = some true := by decide +kernel
end Go.Proofs.Ytlpeklhejjidfaa.Pure
