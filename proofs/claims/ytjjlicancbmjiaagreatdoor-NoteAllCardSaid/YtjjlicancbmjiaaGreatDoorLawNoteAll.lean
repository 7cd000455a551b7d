/- The row of NoteAll, and its tied card. (printed by wip/genrow3.py) -/
import Derived.Test.YtjjlicancbmjiaaGreatDoorLaid
import Derived.Test.YtjjlicancbmjiaaGreatDoorOpen7
import Derived.Test.YtjjlicancbmjiaaGreatDoorTie
import Derived.Test.YtjjlicancbmjiaaGreatDoorCards
import Derived.Test.YtjjlicancbmjiaaGreatDoorFactsA
import Derived.Test.YtjjlicancbmjiaaGreatDoorFactsB
import Derived.Test.YtjjlicancbmjiaaGreatDoorFactsC
import Derived.Test.YtjjlicancbmjiaaGreatDoorPuNoteAll
import Derived.WalkKit
import Derived.ProofKit
import Derived.OpenShut
import Derived.ShutString
import Derived.ChangeOld
import Derived.Below
import Derived.SizedLaws
import Derived.SevenTiedAt
import Derived.Lib.SmallJoins
import Derived.ChangeMaps5
import Derived.Test.YtjjlicancbmjiaaGreatDoorLwLaid
namespace Go.Proofs.YtjjlicancbmjiaaGreatDoor.noteAll
open Go.ChangeShapes Go.WideShapes Go.ChangeAt Go.RowKit
set_option linter.unusedVariables false
set_option linter.unnecessarySimpa false
set_option maxRecDepth 100000 in
theorem lifted (os : Os) (started : os.Started) (H : Type) (enc : TypeId × Value → H) :
    ReturnsInHanded {} Tryz.checked os 5 .any (fun w args => (Rows.noteAllSpec.pre enc Tryz.prog Tryz.f5 Rows.noteAllRow.domain false w args ∧ laidMet Tryz.prog Rows.noteAllRow.laid w) ∧ sizedMet enc Tryz.prog Tryz.f5 (OpenSpec.ofChange Rows.noteAllSpec) false w args)
      (Rows.noteAllSpec.post enc Tryz.prog Tryz.f5 false true false false) := by
  refine returnsInHanded_of_change_and (C := Tryz.checked) (X := fun w _ => laidMet Tryz.prog Rows.noteAllRow.laid w) (fun _ _ _ hh h => h.of_heap hh) Laid.own started (by kernel_rfl) Tryz.func5
    (ChangeSpec.witness_at (enc := enc) (C := Tryz.checked) (os := os) (X := fun w _ => laidMet Tryz.prog Rows.noteAllRow.laid w) false (Laid.world os) #[.agg #[.int .i64 0, .int .i64 0, .int .i64 0, .int .i64 0, .slice none 0 0], .agg #[.int .i64 0, .int .i64 0, .int .i64 0, .int .i64 0, .slice none 0 0], .agg #[.int .i64 0, .int .i64 0, .int .i64 0, .slice none 0 0], .agg #[.int .i64 0, .int .i64 0, .int .i64 0, .slice none 0 0]] 8 rfl (by kernel_rfl) (by kernel_rfl) (by kernel_rfl) (by kernel_rfl) (by kernel_rfl) (Laid.met os _)) ?_
  intro W base args ds gs before hval0 hW _ hsz0 hL _
  have hLW : PNeg.LW W := PNeg.lw_of hL
  clear hL
  have hval : ∀ (j : Nat) t v, Tryz.f5.params[j]? = some t → args[j]? = some v → Value.okWide Tryz.prog W .any base t v := hval0
  have hW' := hW
  obtain ⟨p, q, hA0, hV, rfl, hfz, hnd⟩ := hW
  have hA : DataW.TrodAll enc Tryz.prog W 0 (fun _ => true) true Tryz.f5.params.toList args.toList ds p := hA0
  rw [Tryz.params5] at hA hval
  obtain ⟨v0, vs0, d0, ds0, p0, q0, hargs, rfl, rfl, h0, r0⟩ := trodAll_cons hA
  obtain ⟨v1, vs1, d1, ds1, p1, q1, rfl, rfl, rfl, h1, r1⟩ := trodAll_cons r0
  obtain ⟨v2, vs2, d2, ds2, p2, q2, rfl, rfl, rfl, h2, r2⟩ := trodAll_cons r1
  obtain ⟨v3, vs3, d3, ds3, p3, q3, rfl, rfl, rfl, h3, r3⟩ := trodAll_cons r2
  obtain ⟨rfl, rfl, rfl⟩ := trodAll_nil r3
  obtain rfl : args = #[v0, v1, v2, v3] := by cases args; simp_all
  obtain ⟨rfl, rfl⟩ := trodVars_none hV
  have k0 := h0
  have lt0 : ∀ x ∈ p0, x.block < W.heap.size := by obtain ⟨m, hm⟩ := k0; exact DataW.trod_lt m _ _ _ hm
  obtain ⟨a00, a01, a02, a03, A0, cap0, l0, rfl, u0, g0, c0⟩ := PBeg.open_config (hval 0 24 v0 rfl rfl) h0
  have k1 := h1
  have lt1 : ∀ x ∈ p1, x.block < W.heap.size := by obtain ⟨m, hm⟩ := k1; exact DataW.trod_lt m _ _ _ hm
  obtain ⟨a10, a11, a12, a13, A1, cap1, l1, rfl, u1, g1, c1⟩ := PBeg.open_config (hval 1 24 v1 rfl rfl) h1
  have k2 := h2
  have lt2 : ∀ x ∈ p2, x.block < W.heap.size := by obtain ⟨m, hm⟩ := k2; exact DataW.trod_lt m _ _ _ hm
  obtain ⟨a20, a21, a22, A2, cap2, l2, rfl, u2, g2, c2⟩ := PBeg.open_task (hval 2 27 v2 rfl rfl) h2
  have k3 := h3
  have lt3 : ∀ x ∈ p3, x.block < W.heap.size := by obtain ⟨m, hm⟩ := k3; exact DataW.trod_lt m _ _ _ hm
  obtain ⟨a30, a31, a32, A3, cap3, l3, rfl, u3, g3, c3⟩ := PBeg.open_task (hval 3 27 v3 rfl rfl) h3
  clear hA0 hval0 hsz0
  obtain ⟨k, hf⟩ := Pure.NoteAll a00 a01 a02 a03 l0 u0 a10 a11 a12 a13 l1 u1 a20 a21 a22 l2 u2 a30 a31 a32 l3 u3
  refine (PNeg.hortatorlaw7_NoteAll.calls k a00 a01 a02 a03 A0 cap0 l0 a10 a11 a12 a13 A1 cap1 l1 a20 a21 a22 A2 cap2 l2 a30 a31 a32 A3 cap3 l3 true W g0 c0 g1 c1 g2 c2 g3 c3 hLW hf).mono fun e W' ⟨he, bel⟩ => ?_
  subst he
  exact ⟨_, rfl, _, _, _, [], _, [], hW', trodAll_mk1 (shut_bool Tryz.underlying4 _), (trodAll_cons_mk (Below.trod Laid.laidOut (by kernel_rfl) (of_decide_eq_true (by kernel_rfl)) k0 bel lt0) (trodAll_cons_mk (Below.trod Laid.laidOut (by kernel_rfl) (of_decide_eq_true (by kernel_rfl)) k1 bel lt1) (trodAll_cons_mk (Below.trod Laid.laidOut (by kernel_rfl) (of_decide_eq_true (by kernel_rfl)) k2 bel lt2) (trodAll_cons_mk (Below.trod Laid.laidOut (by kernel_rfl) (of_decide_eq_true (by kernel_rfl)) k3 bel lt3) trodAll_mk0)))), rfl, bel.frame _, fun h => by cases h⟩
theorem k10 : (Rows.noteAllRow.inPlace == Tryz.pinned.checked.prog.inPlace 5) = true := by kernel_rfl
theorem k11 : (Rows.noteAllRow.unfollowed == Tryz.pinned.checked.prog.unfollowed 5) = true := by kernel_rfl
theorem k12 : (Rows.noteAllRow.recurses == Tryz.pinned.checked.prog.recurses 5) = true := by kernel_rfl
theorem k13 : (Rows.noteAllRow.named == Tryz.pinned.checked.prog.varsNamed 5) = true := by kernel_rfl
theorem kPlain : (Rows.noteAllRow.plainKeys == Tryz.pinned.checked.prog.plainKeys) = true := Facts.plainKeys
theorem kLift : (Rows.noteAllRow.lifted == Tryz.pinned.checked.prog.liftsFinal) = true := Facts.lifted
theorem closed : joinedFacts Tryz.pinned.checked.prog 5 Tryz.f5 Rows.noteAllSpec Rows.noteAllRow = true := by
  unfold joinedFacts
  rw [Facts.laidOut, Facts.maps, k10, k11, k12, k13, kPlain, Facts.heard, Facts.enter, kLift]
  kernel_rfl
theorem over : Rows.noteAllRow.holds Tryz.pinned (OpenSpec.ofChange Rows.noteAllSpec) :=
  OpenClaim.holds_of_wide 5 Tryz.f5 rfl rfl rfl rfl rfl rfl rfl ⟨rfl, rfl, rfl, rfl, rfl⟩ rfl rfl rfl rfl rfl (by kernel_rfl) Tryz.func5 closed
    (of_decide_eq_true (by kernel_rfl)) (by unfold Func.isWrapper; first | (rw [if_pos (by decide +kernel)]; kernel_rfl) | (rw [if_neg (by decide +kernel)]; exact ⟨rfl, rfl⟩))
    (fun os started H enc _ => lifted os started H enc)
theorem goes : false = Rows.noteAllRow.goesBy Tryz.pinned.checked.prog := by kernel_rfl
theorem card : Claim7.holds Tryz.pinned (.plain (OpenSpec.ofChange Rows.noteAllSpec)) Rows.noteAllCard :=
  Claim7.holds_tied_plain_at .later [] [.data, .data, .data, .data, .sentinel, .sentinel, .pinned] true (true, "94fc2c4dbd37983a9d658cb90746bf400cbf89e5d760bfac9aa64c75ede9194e") true
    over (fun _ h => by cases h) (by kernel_rfl) (fun _ h => by cases h) noteAll_row_tie rfl ⟨rfl, rfl⟩ Facts.mainIs rfl
    (fun f fn hf hfn => by
      obtain rfl : f = 5 := Option.some.inj ((show Tryz.prog.funcNamed "hortator/hortatorlaw7.NoteAll" = some 5 by kernel_rfl).symm.trans hf) |>.symm
      obtain rfl : fn = Tryz.f5 := (Option.some.inj (Tryz.func5.symm.trans hfn)).symm
      exact ⟨Facts.looks, fun j t ht => by
        rw [Tryz.params5] at ht
        have hm : t ∈ [24, 24, 27, 27] := by
          obtain ⟨hj, he⟩ := Array.getElem?_eq_some_iff.mp ht
          rw [← he]
          have := Array.getElem_mem hj
          simpa using this
        show Tryz.prog.wantsStandIn t = false
        simp only [List.mem_cons, List.mem_nil_iff, or_false] at hm
        rcases hm with rfl | rfl | rfl | rfl
        · exact Facts.stand24
        · exact Facts.stand24
        · exact Facts.stand27
        · exact Facts.stand27⟩)
    goes
#print axioms card
end Go.Proofs.YtjjlicancbmjiaaGreatDoor.noteAll
namespace Go.Proofs.YtjjlicancbmjiaaGreatDoor
/-- The card, under a short name, for the claim. -/
theorem noteAll_holds : Rows.NoteAllCardSaid := noteAll.card
end Go.Proofs.YtjjlicancbmjiaaGreatDoor
