/- The row of DemandNone, and its tied card. (printed by wip/genrow3.py) -/
import Derived.Test.YtddepomgaeadpaaGreatDoorLaid
import Derived.Test.YtddepomgaeadpaaGreatDoorOpen
import Derived.Test.YtddepomgaeadpaaGreatDoorTie
import Derived.Test.YtddepomgaeadpaaGreatDoorCards
import Derived.Test.YtddepomgaeadpaaGreatDoorFactsA
import Derived.Test.YtddepomgaeadpaaGreatDoorFactsB
import Derived.Test.YtddepomgaeadpaaGreatDoorFactsC
import Derived.Test.YtddepomgaeadpaaGreatDoorPuDemandNone
import Derived.WalkKit
import Derived.ProofKit
import Derived.OpenShut
import Derived.ShutString
import Derived.ChangeOld
import Derived.Below
import Derived.SizedLaws
import Derived.SevenTiedAt
import Derived.Lib.SmallJoins
namespace Go.Proofs.YtddepomgaeadpaaGreatDoor.demandNone
open Go.ChangeShapes Go.WideShapes Go.ChangeAt Go.RowKit
set_option linter.unusedVariables false
set_option linter.unnecessarySimpa false
set_option maxRecDepth 100000 in
theorem lifted (os : Os) (started : os.Started) (H : Type) (enc : TypeId × Value → H) :
    ReturnsInHanded {} Tryz.checked os 16 .any (fun w args => (Rows.demandNoneSpec.pre enc Tryz.prog Tryz.f16 Rows.demandNoneRow.domain false w args ∧ laidMet Tryz.prog Rows.demandNoneRow.laid w) ∧ sizedMet enc Tryz.prog Tryz.f16 (OpenSpec.ofChange Rows.demandNoneSpec) false w args)
      (Rows.demandNoneSpec.post enc Tryz.prog Tryz.f16 false true false false) := by
  refine returnsInHanded_of_change_and (C := Tryz.checked) (X := fun w _ => laidMet Tryz.prog Rows.demandNoneRow.laid w) (fun _ _ _ hh h => h.of_heap hh) Laid.own started (by kernel_rfl) Tryz.func16
    (ChangeSpec.witness_at (enc := enc) (C := Tryz.checked) (os := os) (X := fun w _ => laidMet Tryz.prog Rows.demandNoneRow.laid w) false (Laid.world os) #[.agg #[.int .i64 0, .int .i64 0, .int .i64 0], .int .i64 0] 8 rfl (by kernel_rfl) (by kernel_rfl) (by kernel_rfl) (by kernel_rfl) (by kernel_rfl) (Laid.met os _)) ?_
  intro W base args ds gs before hval0 hW _ hsz0 hL _
  clear hL
  have hval : ∀ (j : Nat) t v, Tryz.f16.params[j]? = some t → args[j]? = some v → Value.okWide Tryz.prog W .any base t v := hval0
  have hW' := hW
  obtain ⟨p, q, hA0, hV, rfl, hfz, hnd⟩ := hW
  have hA : DataW.TrodAll enc Tryz.prog W 0 (fun _ => true) true Tryz.f16.params.toList args.toList ds p := hA0
  rw [Tryz.params16] at hA hval
  obtain ⟨v0, vs0, d0, ds0, p0, q0, hargs, rfl, rfl, h0, r0⟩ := trodAll_cons hA
  obtain ⟨v1, vs1, d1, ds1, p1, q1, rfl, rfl, rfl, h1, r1⟩ := trodAll_cons r0
  obtain ⟨rfl, rfl, rfl⟩ := trodAll_nil r1
  obtain rfl : args = #[v0, v1] := by cases args; simp_all
  obtain ⟨rfl, rfl⟩ := trodVars_none hV
  obtain ⟨x00, x01, x02, y00, y01, y02, n0, rfl, rfl, rfl, h00, h01, h02⟩ := Joins.open_agg3 Tryz.underlying31 (by kernel_rfl) (by kernel_rfl) (hval 0 31 v0 rfl rfl) h0
  obtain ⟨a00, e00, f00, w00⟩ := DataW.trod_int Tryz.underlying2 h00
  obtain ⟨a01, e01, f01, w01⟩ := DataW.trod_int Tryz.underlying2 h01
  obtain ⟨a02, e02, f02, w02⟩ := DataW.trod_int Tryz.underlying2 h02
  obtain rfl : x00 = .int .i64 a00 := by simpa using e00
  obtain rfl : x01 = .int .i64 a01 := by simpa using e01
  obtain rfl : x02 = .int .i64 a02 := by simpa using e02
  subst f00 f01 f02
  obtain ⟨a1, rfl, rfl, rfl, w1⟩ := open_int Tryz.underlying3 (hval 1 3 v1 rfl rfl) h1
  clear hA0 hval0 hsz0
  obtain ⟨k, hf⟩ := Pure.DemandNone a00 (On.wf64 w00) a01 (On.wf64 w01) a02 (On.wf64 w02)  a1 (On.wf64 w1)
  refine (PAll.hortatorlaw9_DemandNone.calls k a00 a01 a02 a1 true W  hf).mono fun e W' ⟨he, bel⟩ => ?_
  subst he
  exact ⟨_, rfl, _, _, _, [], _, [], hW', trodAll_mk1 (shut_bool Tryz.underlying4 _), (trodAll_cons_mk (Joins.shut_agg3 Tryz.underlying31 (by kernel_rfl) (by kernel_rfl) ⟨1, trod_int_mk 0 Tryz.underlying2 w00⟩ ⟨1, trod_int_mk 0 Tryz.underlying2 w01⟩ ⟨1, trod_int_mk 0 Tryz.underlying2 w02⟩) (trodAll_cons_mk (shut_int Tryz.underlying3 w1) trodAll_mk0)), rfl, bel.frame _, fun h => by cases h⟩
theorem k10 : (Rows.demandNoneRow.inPlace == Tryz.pinned.checked.prog.inPlace 16) = true := by kernel_rfl
theorem k11 : (Rows.demandNoneRow.unfollowed == Tryz.pinned.checked.prog.unfollowed 16) = true := by kernel_rfl
theorem k12 : (Rows.demandNoneRow.recurses == Tryz.pinned.checked.prog.recurses 16) = true := by kernel_rfl
theorem k13 : (Rows.demandNoneRow.named == Tryz.pinned.checked.prog.varsNamed 16) = true := by kernel_rfl
theorem kPlain : (Rows.demandNoneRow.plainKeys == Tryz.pinned.checked.prog.plainKeys) = true := Facts.plainKeys
theorem kLift : (Rows.demandNoneRow.lifted == Tryz.pinned.checked.prog.liftsFinal) = true := Facts.lifted
theorem closed : joinedFacts Tryz.pinned.checked.prog 16 Tryz.f16 Rows.demandNoneSpec Rows.demandNoneRow = true := by
  unfold joinedFacts
  rw [Facts.laidOut, Facts.maps, k10, k11, k12, k13, kPlain, Facts.heard, Facts.enter, kLift]
  kernel_rfl
theorem over : Rows.demandNoneRow.holds Tryz.pinned (OpenSpec.ofChange Rows.demandNoneSpec) :=
  OpenClaim.holds_of_wide 16 Tryz.f16 rfl rfl rfl rfl rfl rfl rfl ⟨rfl, rfl, rfl, rfl, rfl⟩ rfl rfl rfl rfl rfl (by kernel_rfl) Tryz.func16 closed
    (of_decide_eq_true (by kernel_rfl)) (by unfold Func.isWrapper; first | (rw [if_pos (by decide +kernel)]; kernel_rfl) | (rw [if_neg (by decide +kernel)]; exact ⟨rfl, rfl⟩))
    (fun os started H enc _ => lifted os started H enc)
theorem goes : false = Rows.demandNoneRow.goesBy Tryz.pinned.checked.prog := by kernel_rfl
theorem card : Claim7.holds Tryz.pinned (.plain (OpenSpec.ofChange Rows.demandNoneSpec)) Rows.demandNoneCard :=
  Claim7.holds_tied_plain_at .later [] [.data, .data, .data, .data, .sentinel, .sentinel, .pinned] true (true, "5593ad2a5a772f8be195e0fe692033ff87e224b9e1f3bacf87f13d01f91435b9") true
    over (fun _ h => by cases h) (by kernel_rfl) (fun _ h => by cases h) demandNone_row_tie rfl ⟨rfl, rfl⟩ Facts.mainIs rfl
    (fun f fn hf hfn => by
      obtain rfl : f = 16 := Option.some.inj ((show Tryz.prog.funcNamed "hortator/hortatorlaw9.DemandNone" = some 16 by kernel_rfl).symm.trans hf) |>.symm
      obtain rfl : fn = Tryz.f16 := (Option.some.inj (Tryz.func16.symm.trans hfn)).symm
      exact ⟨Facts.looks, fun j t ht => by
        rw [Tryz.params16] at ht
        have hm : t ∈ [31, 3] := by
          obtain ⟨hj, he⟩ := Array.getElem?_eq_some_iff.mp ht
          rw [← he]
          have := Array.getElem_mem hj
          simpa using this
        show Tryz.prog.wantsStandIn t = false
        simp only [List.mem_cons, List.mem_nil_iff, or_false] at hm
        rcases hm with rfl | rfl
        · exact Facts.stand31
        · exact Facts.stand3⟩)
    goes
#print axioms card
end Go.Proofs.YtddepomgaeadpaaGreatDoor.demandNone
namespace Go.Proofs.YtddepomgaeadpaaGreatDoor
/-- The card, under a short name, for the claim. -/
theorem demandNone_holds : Rows.DemandNoneCardSaid := demandNone.card
end Go.Proofs.YtddepomgaeadpaaGreatDoor
