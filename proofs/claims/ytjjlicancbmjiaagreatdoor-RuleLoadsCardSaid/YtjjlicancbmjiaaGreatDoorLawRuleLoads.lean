/- The row of RuleLoads, and its tied card. (printed by wip/genrow3.py) -/
import Derived.Test.YtjjlicancbmjiaaGreatDoorLaid
import Derived.Test.YtjjlicancbmjiaaGreatDoorOpen7
import Derived.Test.YtjjlicancbmjiaaGreatDoorTie
import Derived.Test.YtjjlicancbmjiaaGreatDoorCards
import Derived.Test.YtjjlicancbmjiaaGreatDoorFactsA
import Derived.Test.YtjjlicancbmjiaaGreatDoorFactsB
import Derived.Test.YtjjlicancbmjiaaGreatDoorFactsC
import Derived.Test.YtjjlicancbmjiaaGreatDoorPuRuleLoads
import Derived.WalkKit
import Derived.ProofKit
import Derived.OpenShut
import Derived.ShutString
import Derived.ChangeOld
import Derived.Below
import Derived.SizedLaws
import Derived.SevenTiedAt
import Derived.Lib.SmallJoins
namespace Go.Proofs.YtjjlicancbmjiaaGreatDoor.ruleLoads
open Go.ChangeShapes Go.WideShapes Go.ChangeAt Go.RowKit
set_option linter.unusedVariables false
set_option linter.unnecessarySimpa false
set_option maxRecDepth 100000 in
theorem lifted (os : Os) (started : os.Started) (H : Type) (enc : TypeId × Value → H) :
    ReturnsInHanded {} Tryz.checked os 9 .any (fun w args => (Rows.ruleLoadsSpec.pre enc Tryz.prog Tryz.f9 Rows.ruleLoadsRow.domain false w args ∧ laidMet Tryz.prog Rows.ruleLoadsRow.laid w) ∧ sizedMet enc Tryz.prog Tryz.f9 (OpenSpec.ofChange Rows.ruleLoadsSpec) false w args)
      (Rows.ruleLoadsSpec.post enc Tryz.prog Tryz.f9 false true false false) := by
  refine returnsInHanded_of_change_and (C := Tryz.checked) (X := fun w _ => laidMet Tryz.prog Rows.ruleLoadsRow.laid w) (fun _ _ _ hh h => h.of_heap hh) Laid.own started (by kernel_rfl) Tryz.func9
    (ChangeSpec.witness_at (enc := enc) (C := Tryz.checked) (os := os) (X := fun w _ => laidMet Tryz.prog Rows.ruleLoadsRow.laid w) false (Laid.world os) #[.int .i64 0, .int .i64 0, .int .i64 0] 8 rfl (by kernel_rfl) (by kernel_rfl) (by kernel_rfl) (by kernel_rfl) (by kernel_rfl) (Laid.met os _)) ?_
  intro W base args ds gs before hval0 hW _ hsz0 hL _
  clear hL
  have hval : ∀ (j : Nat) t v, Tryz.f9.params[j]? = some t → args[j]? = some v → Value.okWide Tryz.prog W .any base t v := hval0
  have hW' := hW
  obtain ⟨p, q, hA0, hV, rfl, hfz, hnd⟩ := hW
  have hA : DataW.TrodAll enc Tryz.prog W 0 (fun _ => true) true Tryz.f9.params.toList args.toList ds p := hA0
  rw [Tryz.params9] at hA hval
  obtain ⟨v0, vs0, d0, ds0, p0, q0, hargs, rfl, rfl, h0, r0⟩ := trodAll_cons hA
  obtain ⟨v1, vs1, d1, ds1, p1, q1, rfl, rfl, rfl, h1, r1⟩ := trodAll_cons r0
  obtain ⟨v2, vs2, d2, ds2, p2, q2, rfl, rfl, rfl, h2, r2⟩ := trodAll_cons r1
  obtain ⟨rfl, rfl, rfl⟩ := trodAll_nil r2
  obtain rfl : args = #[v0, v1, v2] := by cases args; simp_all
  obtain ⟨rfl, rfl⟩ := trodVars_none hV
  obtain ⟨a0, rfl, rfl, rfl, w0⟩ := open_int Tryz.underlying2 (hval 0 2 v0 rfl rfl) h0
  obtain ⟨a1, rfl, rfl, rfl, w1⟩ := open_int Tryz.underlying2 (hval 1 2 v1 rfl rfl) h1
  obtain ⟨a2, rfl, rfl, rfl, w2⟩ := open_int Tryz.underlying2 (hval 2 2 v2 rfl rfl) h2
  clear hA0 hval0 hsz0
  have hf := Pure.RuleLoads a0 (On.wf64 w0) a1 (On.wf64 w1) a2 (On.wf64 w2)
  refine (PBeg.hortatorlaw7_RuleLoads.calls a0 a1 a2 true W  hf).mono fun e W' ⟨he, bel⟩ => ?_
  subst he
  exact ⟨_, rfl, _, _, _, [], _, [], hW', trodAll_mk1 (shut_bool Tryz.underlying4 _), (trodAll_cons_mk (shut_int Tryz.underlying2 w0) (trodAll_cons_mk (shut_int Tryz.underlying2 w1) (trodAll_cons_mk (shut_int Tryz.underlying2 w2) trodAll_mk0))), rfl, bel.frame _, fun h => by cases h⟩
theorem k10 : (Rows.ruleLoadsRow.inPlace == Tryz.pinned.checked.prog.inPlace 9) = true := by kernel_rfl
theorem k11 : (Rows.ruleLoadsRow.unfollowed == Tryz.pinned.checked.prog.unfollowed 9) = true := by kernel_rfl
theorem k12 : (Rows.ruleLoadsRow.recurses == Tryz.pinned.checked.prog.recurses 9) = true := by kernel_rfl
theorem k13 : (Rows.ruleLoadsRow.named == Tryz.pinned.checked.prog.varsNamed 9) = true := by kernel_rfl
theorem kPlain : (Rows.ruleLoadsRow.plainKeys == Tryz.pinned.checked.prog.plainKeys) = true := Facts.plainKeys
theorem kLift : (Rows.ruleLoadsRow.lifted == Tryz.pinned.checked.prog.liftsFinal) = true := Facts.lifted
theorem closed : joinedFacts Tryz.pinned.checked.prog 9 Tryz.f9 Rows.ruleLoadsSpec Rows.ruleLoadsRow = true := by
  unfold joinedFacts
  rw [Facts.laidOut, Facts.maps, k10, k11, k12, k13, kPlain, Facts.heard, Facts.enter, kLift]
  kernel_rfl
theorem over : Rows.ruleLoadsRow.holds Tryz.pinned (OpenSpec.ofChange Rows.ruleLoadsSpec) :=
  OpenClaim.holds_of_wide 9 Tryz.f9 rfl rfl rfl rfl rfl rfl rfl ⟨rfl, rfl, rfl, rfl, rfl⟩ rfl rfl rfl rfl rfl (by kernel_rfl) Tryz.func9 closed
    (of_decide_eq_true (by kernel_rfl)) (by unfold Func.isWrapper; first | (rw [if_pos (by decide +kernel)]; kernel_rfl) | (rw [if_neg (by decide +kernel)]; exact ⟨rfl, rfl⟩))
    (fun os started H enc _ => lifted os started H enc)
theorem goes : false = Rows.ruleLoadsRow.goesBy Tryz.pinned.checked.prog := by kernel_rfl
theorem card : Claim7.holds Tryz.pinned (.plain (OpenSpec.ofChange Rows.ruleLoadsSpec)) Rows.ruleLoadsCard :=
  Claim7.holds_tied_plain_at .later [] [.data, .data, .data, .data, .sentinel, .sentinel, .pinned] true (true, "94fc2c4dbd37983a9d658cb90746bf400cbf89e5d760bfac9aa64c75ede9194e") true
    over (fun _ h => by cases h) (by kernel_rfl) (fun _ h => by cases h) ruleLoads_row_tie rfl ⟨rfl, rfl⟩ Facts.mainIs rfl
    (fun f fn hf hfn => by
      obtain rfl : f = 9 := Option.some.inj ((show Tryz.prog.funcNamed "hortator/hortatorlaw7.RuleLoads" = some 9 by kernel_rfl).symm.trans hf) |>.symm
      obtain rfl : fn = Tryz.f9 := (Option.some.inj (Tryz.func9.symm.trans hfn)).symm
      exact ⟨Facts.looks, fun j t ht => by
        rw [Tryz.params9] at ht
        have hm : t ∈ [2, 2, 2] := by
          obtain ⟨hj, he⟩ := Array.getElem?_eq_some_iff.mp ht
          rw [← he]
          have := Array.getElem_mem hj
          simpa using this
        show Tryz.prog.wantsStandIn t = false
        simp only [List.mem_cons, List.mem_nil_iff, or_false] at hm
        rcases hm with rfl | rfl | rfl
        · exact Facts.stand2
        · exact Facts.stand2
        · exact Facts.stand2⟩)
    goes
#print axioms card
end Go.Proofs.YtjjlicancbmjiaaGreatDoor.ruleLoads
namespace Go.Proofs.YtjjlicancbmjiaaGreatDoor
/-- The card, under a short name, for the claim. -/
theorem ruleLoads_holds : Rows.RuleLoadsCardSaid := ruleLoads.card
end Go.Proofs.YtjjlicancbmjiaaGreatDoor
