/- What may be has as much as its ends are apart, and is full just if it has as much as there is room (the plain part). -/
import Derived.Test.YtlpeklhejjidfaaPosAwake
import Derived.Test.YtlpeklhejjidfaaPLx10
import Derived.OpenShut
namespace Go.Proofs.Ytlpeklhejjidfaa.Pure
open Go.RowKit Go.Proofs.Ytlpeklhejjidfaa.PL Go.Proofs.YtlpeklhejjidfaaW.PrintWords Go.Proofs.YtlpeklhejjidfaaW.PrintLast Go.Proofs.YtlpeklhejjidfaaW.PrintMore
theorem lenv_ok {h t : Int} (h0 : 0 ≤ h) (h1 : h ≤ t) : lenv h t = t - h := by
  unfold lenv
  by_cases hx : t ≤ h
  · rw [if_pos hx]; omega
  · rw [if_neg hx, if_neg (by omega)]
theorem PosLen : sakialaw01_PosLen.Pure := by
  intro h t m r hg hr
  obtain ⟨hh, ht, hm⟩ := hg
  have hh := bounds_i64 hh
  have ht := bounds_i64 ht
  refine ⟨1, ?_⟩
  unfold sakialaw01_PosLen.f
  rw [awake1, check_eq hh ht]; simp only [Option.bind_some]
  by_cases hk : okw h t m r
  · have hk' := hk
    unfold okw at hk'
    rw [if_pos (by simpa using hk), if_pos trivial, len_eq hh ht, w64 (x := t - h) (by omega) (by omega), w64 (x := t + 1) (by omega) (by omega), len_eq (t := t + 1) hh (by omega), full_eq hh ht, check_eq (t := t + 1) hh (by omega), lenv_ok hk'.1 hk'.2.1, lenv_ok hk'.1 (by omega)]
    simp only [Option.bind_some]
    rw [if_pos trivial, w64 (x := t - h + 1) (by omega) (by omega), if_pos (by omega), if_pos]
    · by_cases he : t = 1099511627776
      · rw [if_pos he]
      · rw [if_neg he]
        congr 1
        by_cases hf : r ≤ t - h
        · have : ¬ okw h (t + 1) m r := by unfold okw; omega
          simp [this, hf]
        · have : okw h (t + 1) m r := by unfold okw; omega
          simp [this, hf]
    · by_cases hf : r ≤ t - h
      · have : t - h = r := by omega
        simp [this]
      · have : ¬ t - h = r := by omega
        simp [this, hf]
  · rw [if_neg (by simpa using hk)]
end Go.Proofs.Ytlpeklhejjidfaa.Pure
