/- The row of DemandBound, and its tied card. (printed by wip/genrow3.py) -/
import Derived.Test.YtddepomgaeadpaaGreatDoorLaid
import Derived.Test.YtddepomgaeadpaaGreatDoorOpen
import Derived.Test.YtddepomgaeadpaaGreatDoorTie
import Derived.Test.YtddepomgaeadpaaGreatDoorCards
import Derived.Test.YtddepomgaeadpaaGreatDoorFactsA
import Derived.Test.YtddepomgaeadpaaGreatDoorFactsB
import Derived.Test.YtddepomgaeadpaaGreatDoorFactsC
import Derived.Test.YtddepomgaeadpaaGreatDoorPuDemandBound
import Derived.WalkKit
import Derived.ProofKit
import Derived.OpenShut
import Derived.ShutString
import Derived.ChangeOld
import Derived.Below
import Derived.SizedLaws
import Derived.SevenTiedAt
import Derived.Lib.SmallJoins
namespace Go.Proofs.YtddepomgaeadpaaGreatDoor.demandBound
open Go.ChangeShapes Go.WideShapes Go.ChangeAt Go.RowKit
set_option linter.unusedVariables false
set_option linter.unnecessarySimpa false
set_option maxRecDepth 100000 in
theorem lifted (os : Os) (started : os.Started) (H : Type) (enc : TypeId × Value → H) :
    ReturnsInHanded {} Tryz.checked os 15 .any (fun w args => (Rows.demandBoundSpec.pre enc Tryz.prog Tryz.f15 Rows.demandBoundRow.domain false w args ∧ laidMet Tryz.prog Rows.demandBoundRow.laid w) ∧ sizedMet enc Tryz.prog Tryz.f15 (OpenSpec.ofChange Rows.demandBoundSpec) false w args)
      (Rows.demandBoundSpec.post enc Tryz.prog Tryz.f15 false true false false) := by
  refine returnsInHanded_of_change_and (C := Tryz.checked) (X := fun w _ => laidMet Tryz.prog Rows.demandBoundRow.laid w) (fun _ _ _ hh h => h.of_heap hh) Laid.own started (by kernel_rfl) Tryz.func15
    (ChangeSpec.witness_at (enc := enc) (C := Tryz.checked) (os := os) (X := fun w _ => laidMet Tryz.prog Rows.demandBoundRow.laid w) false (Laid.world os) #[.slice none 0 0, .int .i64 0] 8 rfl (by kernel_rfl) (by kernel_rfl) (by kernel_rfl) (by kernel_rfl) (by kernel_rfl) (Laid.met os _)) ?_
  intro W base args ds gs before hval0 hW _ hsz0 hL _
  clear hL
  have hval : ∀ (j : Nat) t v, Tryz.f15.params[j]? = some t → args[j]? = some v → Value.okWide Tryz.prog W .any base t v := hval0
  have hW' := hW
  obtain ⟨p, q, hA0, hV, rfl, hfz, hnd⟩ := hW
  have hA : DataW.TrodAll enc Tryz.prog W 0 (fun _ => true) true Tryz.f15.params.toList args.toList ds p := hA0
  rw [Tryz.params15] at hA hval
  obtain ⟨v0, vs0, d0, ds0, p0, q0, hargs, rfl, rfl, h0, r0⟩ := trodAll_cons hA
  obtain ⟨v1, vs1, d1, ds1, p1, q1, rfl, rfl, rfl, h1, r1⟩ := trodAll_cons r0
  obtain ⟨rfl, rfl, rfl⟩ := trodAll_nil r1
  obtain rfl : args = #[v0, v1] := by cases args; simp_all
  obtain ⟨rfl, rfl⟩ := trodVars_none hV
  obtain ⟨a0, len0, cap0, rfl⟩ := okWide_slice Tryz.underlying22 (hval 0 22 v0 rfl rfl)
  have k0 := h0
  have lt0 : ∀ x ∈ p0, x.block < W.heap.size := by obtain ⟨m, hm⟩ := k0; exact DataW.trod_lt m _ _ _ hm
  obtain ⟨z0, w0⟩ : ∃ F, On.IsRec 3 W a0 len0 cap0 F := by
    obtain ⟨fuel, hf⟩ := h0
    rcases On.open_recs Tryz.underlying22 Tryz.underlying31 (by kernel_rfl) (by kernel_rfl) (by
      intro j f hf
      match j, hf with
      | 0, hf => cases hf; exact Tryz.underlying2
      | 1, hf => cases hf; exact Tryz.underlying2
      | 2, hf => cases hf; exact Tryz.underlying2
      | j + 3, hf => simp at hf) hf with hcs | ⟨x, l, c, F, hcs, hF⟩
    · simp [Value.cells] at hcs
      obtain ⟨rfl, rfl, rfl⟩ := hcs
      exact ⟨fun _ _ => 0, .inl ⟨rfl, rfl, rfl⟩⟩
    · simp [Value.cells] at hcs
      obtain ⟨rfl, rfl, rfl⟩ := hcs
      exact ⟨F, hF⟩
  obtain ⟨l0, rfl, g0, u0⟩ := PAll.recsC w0
  have c0 := w0.len_le.2.1
  obtain ⟨a1, rfl, rfl, rfl, w1⟩ := open_int Tryz.underlying2 (hval 1 2 v1 rfl rfl) h1
  clear hA0 hval0 hsz0
  obtain ⟨k, hf⟩ := Pure.DemandBound l0 u0 a1 (On.wf64 w1)
  refine (PAll.hortatorlaw9_DemandBound.calls k a0 cap0 l0 a1 true W g0 c0 hf).mono fun e W' ⟨he, bel⟩ => ?_
  subst he
  exact ⟨_, rfl, _, _, _, [], _, [], hW', trodAll_mk1 (shut_bool Tryz.underlying4 _), (trodAll_cons_mk (Below.trod Laid.laidOut (by kernel_rfl) (of_decide_eq_true (by kernel_rfl)) k0 bel lt0) (trodAll_cons_mk (shut_int Tryz.underlying2 w1) trodAll_mk0)), rfl, bel.frame _, fun h => by cases h⟩
theorem k10 : (Rows.demandBoundRow.inPlace == Tryz.pinned.checked.prog.inPlace 15) = true := by kernel_rfl
theorem k11 : (Rows.demandBoundRow.unfollowed == Tryz.pinned.checked.prog.unfollowed 15) = true := by kernel_rfl
theorem k12 : (Rows.demandBoundRow.recurses == Tryz.pinned.checked.prog.recurses 15) = true := by kernel_rfl
theorem k13 : (Rows.demandBoundRow.named == Tryz.pinned.checked.prog.varsNamed 15) = true := by kernel_rfl
theorem kPlain : (Rows.demandBoundRow.plainKeys == Tryz.pinned.checked.prog.plainKeys) = true := Facts.plainKeys
theorem kLift : (Rows.demandBoundRow.lifted == Tryz.pinned.checked.prog.liftsFinal) = true := Facts.lifted
theorem closed : joinedFacts Tryz.pinned.checked.prog 15 Tryz.f15 Rows.demandBoundSpec Rows.demandBoundRow = true := by
  unfold joinedFacts
  rw [Facts.laidOut, Facts.maps, k10, k11, k12, k13, kPlain, Facts.heard, Facts.enter, kLift]
  kernel_rfl
theorem over : Rows.demandBoundRow.holds Tryz.pinned (OpenSpec.ofChange Rows.demandBoundSpec) :=
  OpenClaim.holds_of_wide 15 Tryz.f15 rfl rfl rfl rfl rfl rfl rfl ⟨rfl, rfl, rfl, rfl, rfl⟩ rfl rfl rfl rfl rfl (by kernel_rfl) Tryz.func15 closed
    (of_decide_eq_true (by kernel_rfl)) (by unfold Func.isWrapper; first | (rw [if_pos (by decide +kernel)]; kernel_rfl) | (rw [if_neg (by decide +kernel)]; exact ⟨rfl, rfl⟩))
    (fun os started H enc _ => lifted os started H enc)
theorem goes : false = Rows.demandBoundRow.goesBy Tryz.pinned.checked.prog := by kernel_rfl
theorem card : Claim7.holds Tryz.pinned (.plain (OpenSpec.ofChange Rows.demandBoundSpec)) Rows.demandBoundCard :=
  Claim7.holds_tied_plain_at .later [] [.data, .data, .data, .data, .sentinel, .sentinel, .pinned] true (true, "5593ad2a5a772f8be195e0fe692033ff87e224b9e1f3bacf87f13d01f91435b9") true
    over (fun _ h => by cases h) (by kernel_rfl) (fun _ h => by cases h) demandBound_row_tie rfl ⟨rfl, rfl⟩ Facts.mainIs rfl
    (fun f fn hf hfn => by
      obtain rfl : f = 15 := Option.some.inj ((show Tryz.prog.funcNamed "hortator/hortatorlaw9.DemandBound" = some 15 by kernel_rfl).symm.trans hf) |>.symm
      obtain rfl : fn = Tryz.f15 := (Option.some.inj (Tryz.func15.symm.trans hfn)).symm
      exact ⟨Facts.looks, fun j t ht => by
        rw [Tryz.params15] at ht
        have hm : t ∈ [22, 2] := by
          obtain ⟨hj, he⟩ := Array.getElem?_eq_some_iff.mp ht
          rw [← he]
          have := Array.getElem_mem hj
          simpa using this
        show Tryz.prog.wantsStandIn t = false
        simp only [List.mem_cons, List.mem_nil_iff, or_false] at hm
        rcases hm with rfl | rfl
        · exact Facts.stand22
        · exact Facts.stand2⟩)
    goes
#print axioms card
end Go.Proofs.YtddepomgaeadpaaGreatDoor.demandBound
namespace Go.Proofs.YtddepomgaeadpaaGreatDoor
/-- The card, under a short name, for the claim. -/
theorem demandBound_holds : Rows.DemandBoundCardSaid := demandBound.card
end Go.Proofs.YtddepomgaeadpaaGreatDoor
