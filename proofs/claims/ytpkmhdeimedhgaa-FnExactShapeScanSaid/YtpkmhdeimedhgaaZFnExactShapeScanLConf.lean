/- Part of the proof of the law FnExactShapeScan: what it uses of the texts that this session and the kit's print wrote. -/
import Derived.Test.YtpkmhdeimedhgaaZFnExactShapeScanLShapes
import Derived.Test.YtpkmhdeimedhgaaZFnExactShapeScanQAx5
import Derived.Test.YtpkmhdeimedhgaaZFnExactShapeScanQAx6
namespace Go.Proofs.Ytpkmhdeimedhgaa.L
open Go.RowKit Go.Proofs.Ytpkmhdeimedhgaa.QA Go.Proofs.YtpkmhdeimedhgaaW.PrintWords Go.Proofs.YtpkmhdeimedhgaaW.PrintLast Go.Proofs.YtpkmhdeimedhgaaW.PrintMore
set_option linter.unusedVariables false
set_option linter.unusedSimpArgs false
def confB (a b c d : Int) : Bool := decide (0 ≤ a ∧ a ≤ 4294967295) && (decide (2 ≤ b ∧ b ≤ 6) && (decide (0 ≤ c ∧ c ≤ 64) && decide (1 ≤ d ∧ d ≤ 64)))
theorem isConf_eq (a b c d : Int) : impl_isConf.f a b c d = some (confB a b c d) := by
  unfold impl_isConf.f impl_isDeepLog.f confB
  simp only [within_eq, Option.bind_some]
  by_cases h1 : 0 ≤ a ∧ a ≤ 4294967295 <;> by_cases h2 : 2 ≤ b ∧ b ≤ 6 <;> by_cases h3 : 0 ≤ c ∧ c ≤ 64 <;> simp [h1, h2, h3]
theorem confOk_eq (a b c d : Int) : spec_ConfOk.f a b c d = some (confB a b c d) := by
  unfold spec_ConfOk.f spec_l16Log.f confB
  by_cases h1 : 0 ≤ a <;> by_cases h1' : a ≤ 4294967295 <;> by_cases h2 : 2 ≤ b <;> by_cases h2' : b ≤ 6 <;> by_cases h3 : 0 ≤ c <;> by_cases h3' : c ≤ 64 <;> by_cases h4 : 1 ≤ d <;> by_cases h4' : d ≤ 64 <;>
    simp [h1, h1', h2, h2', h3, h3', h4, h4']
theorem confB_log {a b c d : Int} (h : confB a b c d = true) : 0 ≤ a ∧ a ≤ 4294967295 ∧ 2 ≤ b ∧ b ≤ 6 ∧ 0 ≤ c ∧ c ≤ 64 ∧ 1 ≤ d ∧ d ≤ 64 := by
  unfold confB at h
  simp only [Bool.and_eq_true, decide_eq_true_eq] at h
  omega
end Go.Proofs.Ytpkmhdeimedhgaa.L
