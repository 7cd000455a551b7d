/- The row of NoteAny, and its tied card. (printed by wip/genrow3.py) -/
import Derived.Test.YtjjlicancbmjiaaGreatDoorLaid
import Derived.Test.YtjjlicancbmjiaaGreatDoorOpen7
import Derived.Test.YtjjlicancbmjiaaGreatDoorTie
import Derived.Test.YtjjlicancbmjiaaGreatDoorCards
import Derived.Test.YtjjlicancbmjiaaGreatDoorFactsA
import Derived.Test.YtjjlicancbmjiaaGreatDoorFactsB
import Derived.Test.YtjjlicancbmjiaaGreatDoorFactsC
import Derived.Test.YtjjlicancbmjiaaGreatDoorPuNoteAny
import Derived.WalkKit
import Derived.ProofKit
import Derived.OpenShut
import Derived.ShutString
import Derived.ChangeOld
import Derived.Below
import Derived.SizedLaws
import Derived.SevenTiedAt
import Derived.Lib.SmallJoins
import Derived.ChangeMaps5
import Derived.Test.YtjjlicancbmjiaaGreatDoorLwLaid
namespace Go.Proofs.YtjjlicancbmjiaaGreatDoor.noteAny
open Go.ChangeShapes Go.WideShapes Go.ChangeAt Go.RowKit
set_option linter.unusedVariables false
set_option linter.unnecessarySimpa false
set_option maxRecDepth 100000 in
theorem lifted (os : Os) (started : os.Started) (H : Type) (enc : TypeId × Value → H) :
    ReturnsInHanded {} Tryz.checked os 6 .any (fun w args => (Rows.noteAnySpec.pre enc Tryz.prog Tryz.f6 Rows.noteAnyRow.domain false w args ∧ laidMet Tryz.prog Rows.noteAnyRow.laid w) ∧ sizedMet enc Tryz.prog Tryz.f6 (OpenSpec.ofChange Rows.noteAnySpec) false w args)
      (Rows.noteAnySpec.post enc Tryz.prog Tryz.f6 false true false false) := by
  refine returnsInHanded_of_change_and (C := Tryz.checked) (X := fun w _ => laidMet Tryz.prog Rows.noteAnyRow.laid w) (fun _ _ _ hh h => h.of_heap hh) Laid.own started (by kernel_rfl) Tryz.func6
    (ChangeSpec.witness_at (enc := enc) (C := Tryz.checked) (os := os) (X := fun w _ => laidMet Tryz.prog Rows.noteAnyRow.laid w) false (Laid.world os) #[.string ⟨#[]⟩, .agg #[.int .i64 0, .int .i64 0, .int .i64 0, .int .i64 0, .slice none 0 0], .agg #[.int .i64 0, .int .i64 0, .int .i64 0, .slice none 0 0], .int .i64 0, .int .u8 0] 8 rfl (by kernel_rfl) (by kernel_rfl) (by kernel_rfl) (by kernel_rfl) (by kernel_rfl) (Laid.met os _)) ?_
  intro W base args ds gs before hval0 hW _ hsz0 hL _
  have hLW : PNeg.LW W := PNeg.lw_of hL
  clear hL
  have hval : ∀ (j : Nat) t v, Tryz.f6.params[j]? = some t → args[j]? = some v → Value.okWide Tryz.prog W .any base t v := hval0
  have hW' := hW
  obtain ⟨p, q, hA0, hV, rfl, hfz, hnd⟩ := hW
  have hA : DataW.TrodAll enc Tryz.prog W 0 (fun _ => true) true Tryz.f6.params.toList args.toList ds p := hA0
  rw [Tryz.params6] at hA hval
  obtain ⟨v0, vs0, d0, ds0, p0, q0, hargs, rfl, rfl, h0, r0⟩ := trodAll_cons hA
  obtain ⟨v1, vs1, d1, ds1, p1, q1, rfl, rfl, rfl, h1, r1⟩ := trodAll_cons r0
  obtain ⟨v2, vs2, d2, ds2, p2, q2, rfl, rfl, rfl, h2, r2⟩ := trodAll_cons r1
  obtain ⟨v3, vs3, d3, ds3, p3, q3, rfl, rfl, rfl, h3, r3⟩ := trodAll_cons r2
  obtain ⟨v4, vs4, d4, ds4, p4, q4, rfl, rfl, rfl, h4, r4⟩ := trodAll_cons r3
  obtain ⟨rfl, rfl, rfl⟩ := trodAll_nil r4
  obtain rfl : args = #[v0, v1, v2, v3, v4] := by cases args; simp_all
  obtain ⟨rfl, rfl⟩ := trodVars_none hV
  obtain ⟨a0, rfl, rfl, rfl, w0⟩ := ChangeMaps.open_string Tryz.underlying9 (hval 0 9 v0 rfl rfl) h0
  have k1 := h1
  have lt1 : ∀ x ∈ p1, x.block < W.heap.size := by obtain ⟨m, hm⟩ := k1; exact DataW.trod_lt m _ _ _ hm
  obtain ⟨a10, a11, a12, a13, A1, cap1, l1, rfl, u1, g1, c1⟩ := PBeg.open_config (hval 1 24 v1 rfl rfl) h1
  have k2 := h2
  have lt2 : ∀ x ∈ p2, x.block < W.heap.size := by obtain ⟨m, hm⟩ := k2; exact DataW.trod_lt m _ _ _ hm
  obtain ⟨a20, a21, a22, A2, cap2, l2, rfl, u2, g2, c2⟩ := PBeg.open_task (hval 2 27 v2 rfl rfl) h2
  obtain ⟨a3, rfl, rfl, rfl, w3⟩ := open_int Tryz.underlying3 (hval 3 3 v3 rfl rfl) h3
  obtain ⟨a4, rfl, rfl, rfl, w4⟩ := open_int Tryz.underlying5 (hval 4 5 v4 rfl rfl) h4
  clear hA0 hval0 hsz0
  obtain ⟨k, hf⟩ := Pure.NoteAny a0  a10 a11 a12 a13 l1 u1 a20 a21 a22 l2 u2 a3 (On.wf64 w3) a4 (bounds_u8 w4)
  refine (PNeg.hortatorlaw7_NoteAny.calls k a0 a10 a11 a12 a13 A1 cap1 l1 a20 a21 a22 A2 cap2 l2 a3 a4 true W g1 c1 g2 c2 hLW hf).mono fun e W' ⟨he, bel⟩ => ?_
  subst he
  exact ⟨_, rfl, _, _, _, [], _, [], hW', trodAll_mk1 (shut_bool Tryz.underlying4 _), (trodAll_cons_mk (ChangeMaps.shut_string Tryz.underlying9 w0) (trodAll_cons_mk (Below.trod Laid.laidOut (by kernel_rfl) (of_decide_eq_true (by kernel_rfl)) k1 bel lt1) (trodAll_cons_mk (Below.trod Laid.laidOut (by kernel_rfl) (of_decide_eq_true (by kernel_rfl)) k2 bel lt2) (trodAll_cons_mk (shut_int Tryz.underlying3 w3) (trodAll_cons_mk (shut_int Tryz.underlying5 w4) trodAll_mk0))))), rfl, bel.frame _, fun h => by cases h⟩
theorem k10 : (Rows.noteAnyRow.inPlace == Tryz.pinned.checked.prog.inPlace 6) = true := by kernel_rfl
theorem k11 : (Rows.noteAnyRow.unfollowed == Tryz.pinned.checked.prog.unfollowed 6) = true := by kernel_rfl
theorem k12 : (Rows.noteAnyRow.recurses == Tryz.pinned.checked.prog.recurses 6) = true := by kernel_rfl
theorem k13 : (Rows.noteAnyRow.named == Tryz.pinned.checked.prog.varsNamed 6) = true := by kernel_rfl
theorem kPlain : (Rows.noteAnyRow.plainKeys == Tryz.pinned.checked.prog.plainKeys) = true := Facts.plainKeys
theorem kLift : (Rows.noteAnyRow.lifted == Tryz.pinned.checked.prog.liftsFinal) = true := Facts.lifted
theorem closed : joinedFacts Tryz.pinned.checked.prog 6 Tryz.f6 Rows.noteAnySpec Rows.noteAnyRow = true := by
  unfold joinedFacts
  rw [Facts.laidOut, Facts.maps, k10, k11, k12, k13, kPlain, Facts.heard, Facts.enter, kLift]
  kernel_rfl
theorem over : Rows.noteAnyRow.holds Tryz.pinned (OpenSpec.ofChange Rows.noteAnySpec) :=
  OpenClaim.holds_of_wide 6 Tryz.f6 rfl rfl rfl rfl rfl rfl rfl ⟨rfl, rfl, rfl, rfl, rfl⟩ rfl rfl rfl rfl rfl (by kernel_rfl) Tryz.func6 closed
    (of_decide_eq_true (by kernel_rfl)) (by unfold Func.isWrapper; first | (rw [if_pos (by decide +kernel)]; kernel_rfl) | (rw [if_neg (by decide +kernel)]; exact ⟨rfl, rfl⟩))
    (fun os started H enc _ => lifted os started H enc)
theorem goes : false = Rows.noteAnyRow.goesBy Tryz.pinned.checked.prog := by kernel_rfl
theorem card : Claim7.holds Tryz.pinned (.plain (OpenSpec.ofChange Rows.noteAnySpec)) Rows.noteAnyCard :=
  Claim7.holds_tied_plain_at .later [] [.data, .data, .data, .data, .sentinel, .sentinel, .pinned] true (true, "94fc2c4dbd37983a9d658cb90746bf400cbf89e5d760bfac9aa64c75ede9194e") true
    over (fun _ h => by cases h) (by kernel_rfl) (fun _ h => by cases h) noteAny_row_tie rfl ⟨rfl, rfl⟩ Facts.mainIs rfl
    (fun f fn hf hfn => by
      obtain rfl : f = 6 := Option.some.inj ((show Tryz.prog.funcNamed "hortator/hortatorlaw7.NoteAny" = some 6 by kernel_rfl).symm.trans hf) |>.symm
      obtain rfl : fn = Tryz.f6 := (Option.some.inj (Tryz.func6.symm.trans hfn)).symm
      exact ⟨Facts.looks, fun j t ht => by
        rw [Tryz.params6] at ht
        have hm : t ∈ [9, 24, 27, 3, 5] := by
          obtain ⟨hj, he⟩ := Array.getElem?_eq_some_iff.mp ht
          rw [← he]
          have := Array.getElem_mem hj
          simpa using this
        show Tryz.prog.wantsStandIn t = false
        simp only [List.mem_cons, List.mem_nil_iff, or_false] at hm
        rcases hm with rfl | rfl | rfl | rfl | rfl
        · exact Facts.stand9
        · exact Facts.stand24
        · exact Facts.stand27
        · exact Facts.stand3
        · exact Facts.stand5⟩)
    goes
#print axioms card
end Go.Proofs.YtjjlicancbmjiaaGreatDoor.noteAny
namespace Go.Proofs.YtjjlicancbmjiaaGreatDoor
/-- The card, under a short name, for the claim. -/
theorem noteAny_holds : Rows.NoteAnyCardSaid := noteAny.card
end Go.Proofs.YtjjlicancbmjiaaGreatDoor
