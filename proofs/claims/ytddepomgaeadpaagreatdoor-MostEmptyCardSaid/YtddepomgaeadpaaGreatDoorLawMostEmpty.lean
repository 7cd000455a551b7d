/- The row of MostEmpty, and its tied card. (printed by wip/genrow3.py) -/
import Derived.Test.YtddepomgaeadpaaGreatDoorLaid
import Derived.Test.YtddepomgaeadpaaGreatDoorOpen
import Derived.Test.YtddepomgaeadpaaGreatDoorTie
import Derived.Test.YtddepomgaeadpaaGreatDoorCards
import Derived.Test.YtddepomgaeadpaaGreatDoorFactsA
import Derived.Test.YtddepomgaeadpaaGreatDoorFactsB
import Derived.Test.YtddepomgaeadpaaGreatDoorFactsC
import Derived.Test.YtddepomgaeadpaaGreatDoorPuMostEmpty
import Derived.WalkKit
import Derived.ProofKit
import Derived.OpenShut
import Derived.ShutString
import Derived.ChangeOld
import Derived.Below
import Derived.SizedLaws
import Derived.SevenTiedAt
import Derived.Lib.SmallJoins
namespace Go.Proofs.YtddepomgaeadpaaGreatDoor.mostEmpty
open Go.ChangeShapes Go.WideShapes Go.ChangeAt Go.RowKit
set_option linter.unusedVariables false
set_option linter.unnecessarySimpa false
set_option maxRecDepth 100000 in
theorem lifted (os : Os) (started : os.Started) (H : Type) (enc : TypeId × Value → H) :
    ReturnsInHanded {} Tryz.checked os 17 .any (fun w args => (Rows.mostEmptySpec.pre enc Tryz.prog Tryz.f17 Rows.mostEmptyRow.domain false w args ∧ laidMet Tryz.prog Rows.mostEmptyRow.laid w) ∧ sizedMet enc Tryz.prog Tryz.f17 (OpenSpec.ofChange Rows.mostEmptySpec) false w args)
      (Rows.mostEmptySpec.post enc Tryz.prog Tryz.f17 false true false false) := by
  refine returnsInHanded_of_change_and (C := Tryz.checked) (X := fun w _ => laidMet Tryz.prog Rows.mostEmptyRow.laid w) (fun _ _ _ hh h => h.of_heap hh) Laid.own started (by kernel_rfl) Tryz.func17
    (ChangeSpec.witness_at (enc := enc) (C := Tryz.checked) (os := os) (X := fun w _ => laidMet Tryz.prog Rows.mostEmptyRow.laid w) false (Laid.world os) #[.int .i64 0, .int .i64 0, .int .i64 0] 8 rfl (by kernel_rfl) (by kernel_rfl) (by kernel_rfl) (by kernel_rfl) (by kernel_rfl) (Laid.met os _)) ?_
  intro W base args ds gs before hval0 hW _ hsz0 hL _
  clear hL
  have hval : ∀ (j : Nat) t v, Tryz.f17.params[j]? = some t → args[j]? = some v → Value.okWide Tryz.prog W .any base t v := hval0
  have hW' := hW
  obtain ⟨p, q, hA0, hV, rfl, hfz, hnd⟩ := hW
  have hA : DataW.TrodAll enc Tryz.prog W 0 (fun _ => true) true Tryz.f17.params.toList args.toList ds p := hA0
  rw [Tryz.params17] at hA hval
  obtain ⟨v0, vs0, d0, ds0, p0, q0, hargs, rfl, rfl, h0, r0⟩ := trodAll_cons hA
  obtain ⟨v1, vs1, d1, ds1, p1, q1, rfl, rfl, rfl, h1, r1⟩ := trodAll_cons r0
  obtain ⟨v2, vs2, d2, ds2, p2, q2, rfl, rfl, rfl, h2, r2⟩ := trodAll_cons r1
  obtain ⟨rfl, rfl, rfl⟩ := trodAll_nil r2
  obtain rfl : args = #[v0, v1, v2] := by cases args; simp_all
  obtain ⟨rfl, rfl⟩ := trodVars_none hV
  obtain ⟨a0, rfl, rfl, rfl, w0⟩ := open_int Tryz.underlying2 (hval 0 2 v0 rfl rfl) h0
  obtain ⟨a1, rfl, rfl, rfl, w1⟩ := open_int Tryz.underlying2 (hval 1 2 v1 rfl rfl) h1
  obtain ⟨a2, rfl, rfl, rfl, w2⟩ := open_int Tryz.underlying2 (hval 2 2 v2 rfl rfl) h2
  clear hA0 hval0 hsz0
  obtain ⟨k, hf⟩ := Pure.MostEmpty a0 (On.wf64 w0) a1 (On.wf64 w1) a2 (On.wf64 w2)
  refine (PAll.hortatorlaw9_MostEmpty.calls k a0 a1 a2 true W  hf).mono fun e W' ⟨he, bel⟩ => ?_
  subst he
  exact ⟨_, rfl, _, _, _, [], _, [], hW', trodAll_mk1 (shut_bool Tryz.underlying4 _), (trodAll_cons_mk (shut_int Tryz.underlying2 w0) (trodAll_cons_mk (shut_int Tryz.underlying2 w1) (trodAll_cons_mk (shut_int Tryz.underlying2 w2) trodAll_mk0))), rfl, bel.frame _, fun h => by cases h⟩
theorem k10 : (Rows.mostEmptyRow.inPlace == Tryz.pinned.checked.prog.inPlace 17) = true := by kernel_rfl
theorem k11 : (Rows.mostEmptyRow.unfollowed == Tryz.pinned.checked.prog.unfollowed 17) = true := by kernel_rfl
theorem k12 : (Rows.mostEmptyRow.recurses == Tryz.pinned.checked.prog.recurses 17) = true := by kernel_rfl
theorem k13 : (Rows.mostEmptyRow.named == Tryz.pinned.checked.prog.varsNamed 17) = true := by kernel_rfl
theorem kPlain : (Rows.mostEmptyRow.plainKeys == Tryz.pinned.checked.prog.plainKeys) = true := Facts.plainKeys
theorem kLift : (Rows.mostEmptyRow.lifted == Tryz.pinned.checked.prog.liftsFinal) = true := Facts.lifted
theorem closed : joinedFacts Tryz.pinned.checked.prog 17 Tryz.f17 Rows.mostEmptySpec Rows.mostEmptyRow = true := by
  unfold joinedFacts
  rw [Facts.laidOut, Facts.maps, k10, k11, k12, k13, kPlain, Facts.heard, Facts.enter, kLift]
  kernel_rfl
theorem over : Rows.mostEmptyRow.holds Tryz.pinned (OpenSpec.ofChange Rows.mostEmptySpec) :=
  OpenClaim.holds_of_wide 17 Tryz.f17 rfl rfl rfl rfl rfl rfl rfl ⟨rfl, rfl, rfl, rfl, rfl⟩ rfl rfl rfl rfl rfl (by kernel_rfl) Tryz.func17 closed
    (of_decide_eq_true (by kernel_rfl)) (by unfold Func.isWrapper; first | (rw [if_pos (by decide +kernel)]; kernel_rfl) | (rw [if_neg (by decide +kernel)]; exact ⟨rfl, rfl⟩))
    (fun os started H enc _ => lifted os started H enc)
theorem goes : false = Rows.mostEmptyRow.goesBy Tryz.pinned.checked.prog := by kernel_rfl
theorem card : Claim7.holds Tryz.pinned (.plain (OpenSpec.ofChange Rows.mostEmptySpec)) Rows.mostEmptyCard :=
  Claim7.holds_tied_plain_at .later [] [.data, .data, .data, .data, .sentinel, .sentinel, .pinned] true (true, "5593ad2a5a772f8be195e0fe692033ff87e224b9e1f3bacf87f13d01f91435b9") true
    over (fun _ h => by cases h) (by kernel_rfl) (fun _ h => by cases h) mostEmpty_row_tie rfl ⟨rfl, rfl⟩ Facts.mainIs rfl
    (fun f fn hf hfn => by
      obtain rfl : f = 17 := Option.some.inj ((show Tryz.prog.funcNamed "hortator/hortatorlaw9.MostEmpty" = some 17 by kernel_rfl).symm.trans hf) |>.symm
      obtain rfl : fn = Tryz.f17 := (Option.some.inj (Tryz.func17.symm.trans hfn)).symm
      exact ⟨Facts.looks, fun j t ht => by
        rw [Tryz.params17] at ht
        have hm : t ∈ [2, 2, 2] := by
          obtain ⟨hj, he⟩ := Array.getElem?_eq_some_iff.mp ht
          rw [← he]
          have := Array.getElem_mem hj
          simpa using this
        show Tryz.prog.wantsStandIn t = false
        simp only [List.mem_cons, List.mem_nil_iff, or_false] at hm
        rcases hm with rfl | rfl | rfl
        · exact Facts.stand2
        · exact Facts.stand2
        · exact Facts.stand2⟩)
    goes
#print axioms card
end Go.Proofs.YtddepomgaeadpaaGreatDoor.mostEmpty
namespace Go.Proofs.YtddepomgaeadpaaGreatDoor
/-- The card, under a short name, for the claim. -/
theorem mostEmpty_holds : Rows.MostEmptyCardSaid := mostEmpty.card
end Go.Proofs.YtddepomgaeadpaaGreatDoor
