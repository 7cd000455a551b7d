/- RuleLoads in plain words. -/
import Derived.Test.YtjjlicancbmjiaaGreatDoorCore7L
import Derived.Test.YtjjlicancbmjiaaGreatDoorLRuleLoads
import Derived.Test.YtjjlicancbmjiaaGreatDoorOpen7
namespace Go.Proofs.YtjjlicancbmjiaaGreatDoor.Pure
open Go.RowKit Go.Proofs.YtjjlicancbmjiaaGreatDoorW.PrintWords Go.Proofs.YtjjlicancbmjiaaGreatDoorW.PrintMore Go.Proofs.YtjjlicancbmjiaaGreatDoor.PBeg Go.Proofs.YtjjlicancbmjiaaGreatDoor.On
set_option linter.unusedVariables false
theorem RuleLoads (a : Int) (ha : I64 a) (b : Int) (hb : I64 b) (c : Int) (hc : I64 c) : hortatorlaw7_RuleLoads.f a b c = some true := by
  unfold hortatorlaw7_RuleLoads.f
  rw [show begun7.f = some true from rfl, Option.bind_some, if_pos rfl, load_f, Option.bind_some]
  unfold loadOk7 inB
  by_cases h1 : a ≥ 1
  · rw [if_pos h1]
    by_cases h2 : a ≤ 20000
    · rw [if_pos h2]
      by_cases h3 : b ≥ 1
      · rw [if_pos h3]
        by_cases h4 : b ≤ c
        · rw [if_pos h4]; simp [show 1 ≤ a from h1, h2, show 1 ≤ b from h3, h4]
        · rw [if_neg h4]; simp [h4]
      · rw [if_neg h3]; simp [show ¬ 1 ≤ b by omega]
    · rw [if_neg h2]; simp [h2]
  · rw [if_neg h1]; simp [show ¬ 1 ≤ a by omega]
end Go.Proofs.YtjjlicancbmjiaaGreatDoor.Pure
