-- Written by a program of this session (wip/pp.py) over the kit's print, with hand-proved contracts beside it.
import Derived.Test.YtjjlicancbmjiaaGreatDoorPBegx0
import Derived.Test.YtjjlicancbmjiaaGreatDoorPBegx1
import Derived.Test.YtjjlicancbmjiaaGreatDoorPBegx3
import Derived.Test.YtjjlicancbmjiaaGreatDoorPBegx5
import Derived.Test.YtjjlicancbmjiaaGreatDoorPBegx13
import Derived.Test.YtjjlicancbmjiaaGreatDoorPBegx14
import Derived.Test.YtjjlicancbmjiaaGreatDoorWn
import Derived.Test.YtjjlicancbmjiaaGreatDoorL2a
import Derived.Test.YtjjlicancbmjiaaGreatDoorL3
import Derived.Test.YtjjlicancbmjiaaGreatDoorL6
import Derived.Test.YtjjlicancbmjiaaGreatDoorPNegx4
import Derived.Test.YtjjlicancbmjiaaGreatDoorPNegx6
import Derived.Test.YtjjlicancbmjiaaGreatDoorPNegx8
import Derived.Test.YtjjlicancbmjiaaGreatDoorPNegx10
import Derived.Test.YtjjlicancbmjiaaGreatDoorNB
import Derived.Test.YtjjlicancbmjiaaGreatDoorNN6
import Derived.Test.YtjjlicancbmjiaaGreatDoorNN7
import Derived.Test.YtjjlicancbmjiaaGreatDoorNN8
namespace Go.Proofs.YtjjlicancbmjiaaGreatDoor.PNeg
open Go.Proofs.YtjjlicancbmjiaaGreatDoor.PBeg
open Go.Shelf Go.Lib Go.RowKit Go.Proofs.YtjjlicancbmjiaaGreatDoorW.PrintWords Go.Proofs.YtjjlicancbmjiaaGreatDoorW.PrintLast Go.Proofs.YtjjlicancbmjiaaGreatDoorW.PrintMore
attribute [local go_sem] max2_int min2_int max_two min_two max_three min_three max_four min_four   -- for this text's walks alone
set_option linter.unusedVariables false
set_option linter.unusedSimpArgs false

/-! ### hortatorlaw7_tells: function 35 -/
def hortatorlaw7_tells.j0 : Nat → ByteArray → Int → Int → Bool → Int → Int → Int → Int → List Int → Int → Int → Int → Int → List Int → Int → Int → Int → List (S43) → Option (Bool)
 | 0, _, _, _, _, _, _, _, _, _, _, _, _, _, _, _, _, _, _ => none
 | k + 1, x1, x6, x8, x45, x328000, x328001, x328002, x328003, x328004, x337000, x337001, x337002, x337003, x337004, x345000, x345001, x345002, x345003 => if x45 = true then (some false) else (if x6 = 0 then ((hortatorref7_PutConfig.f k x337000 x337001 x337002 x337003 x337004).bind fun t348 => (if t348.toList = x1.toList then (if x1.toList = ([] : List UInt8) then (some false) else (if x8 = 0 then ((hortatorref7_PutTask.f k x345000 x345001 x345002 x345003).bind fun t349 => (if t349.toList = x1.toList then ((hortatorref7_Task.f x328000 x328001 x328002 x328003 x328004 x345000 x345001 x345002 x345003).bind fun t350 => (some t350)) else (some false))) else (some true))) else (some false))) else (if x8 = 0 then ((hortatorref7_PutTask.f k x345000 x345001 x345002 x345003).bind fun t351 => (if t351.toList = x1.toList then ((hortatorref7_Task.f x328000 x328001 x328002 x328003 x328004 x345000 x345001 x345002 x345003).bind fun t352 => (some t352)) else (some false))) else (some true)))
def hortatorlaw7_tells.f (k : Nat) (a0_0 : Int) (a0_1 : Int) (a0_2 : Int) (a0_3 : Int) (l0_4 : List Int) (a1 : ByteArray) : Option (Bool) := (note_GetConfig.f k a1).bind fun bt328 => ((note_GetTask.f k a0_0 a0_1 a0_2 a0_3 l0_4 a1).bind fun bt337 => (if bt328.2.2.2.2.2 = 0 then (if bt337.2.2.2.2 = 0 then (hortatorlaw7_tells.j0 k a1 bt328.2.2.2.2.2 bt337.2.2.2.2 false a0_0 a0_1 a0_2 a0_3 l0_4 bt328.1 bt328.2.1 bt328.2.2.1 bt328.2.2.2.1 bt328.2.2.2.2.1 bt337.1 bt337.2.1 bt337.2.2.1 bt337.2.2.2.1) else (if bt337.2.2.2.2 = 1 then ((rule_Same.f k bt337.1 bt337.2.1 bt337.2.2.1 bt337.2.2.2.1 0 0 0 ([] : List (S43))).bind fun t345 => (hortatorlaw7_tells.j0 k a1 bt328.2.2.2.2.2 bt337.2.2.2.2 (!t345) a0_0 a0_1 a0_2 a0_3 l0_4 bt328.1 bt328.2.1 bt328.2.2.1 bt328.2.2.2.1 bt328.2.2.2.2.1 bt337.1 bt337.2.1 bt337.2.2.1 bt337.2.2.2.1)) else (hortatorlaw7_tells.j0 k a1 bt328.2.2.2.2.2 bt337.2.2.2.2 true a0_0 a0_1 a0_2 a0_3 l0_4 bt328.1 bt328.2.1 bt328.2.2.1 bt328.2.2.2.1 bt328.2.2.2.2.1 bt337.1 bt337.2.1 bt337.2.2.1 bt337.2.2.2.1))) else (if bt328.2.2.2.2.2 = 1 then ((hortatorlaw7_sameConfig.f k bt328.1 bt328.2.1 bt328.2.2.1 bt328.2.2.2.1 bt328.2.2.2.2.1 0 0 0 0 ([] : List Int)).bind fun t346 => (if t346 = true then (if bt337.2.2.2.2 = 0 then (hortatorlaw7_tells.j0 k a1 bt328.2.2.2.2.2 bt337.2.2.2.2 false a0_0 a0_1 a0_2 a0_3 l0_4 bt328.1 bt328.2.1 bt328.2.2.1 bt328.2.2.2.1 bt328.2.2.2.2.1 bt337.1 bt337.2.1 bt337.2.2.1 bt337.2.2.2.1) else (if bt337.2.2.2.2 = 1 then ((rule_Same.f k bt337.1 bt337.2.1 bt337.2.2.1 bt337.2.2.2.1 0 0 0 ([] : List (S43))).bind fun t347 => (hortatorlaw7_tells.j0 k a1 bt328.2.2.2.2.2 bt337.2.2.2.2 (!t347) a0_0 a0_1 a0_2 a0_3 l0_4 bt328.1 bt328.2.1 bt328.2.2.1 bt328.2.2.2.1 bt328.2.2.2.2.1 bt337.1 bt337.2.1 bt337.2.2.1 bt337.2.2.2.1)) else (hortatorlaw7_tells.j0 k a1 bt328.2.2.2.2.2 bt337.2.2.2.2 true a0_0 a0_1 a0_2 a0_3 l0_4 bt328.1 bt328.2.1 bt328.2.2.1 bt328.2.2.2.1 bt328.2.2.2.2.1 bt337.1 bt337.2.1 bt337.2.2.1 bt337.2.2.2.1))) else (hortatorlaw7_tells.j0 k a1 bt328.2.2.2.2.2 bt337.2.2.2.2 true a0_0 a0_1 a0_2 a0_3 l0_4 bt328.1 bt328.2.1 bt328.2.2.1 bt328.2.2.2.1 bt328.2.2.2.2.1 bt337.1 bt337.2.1 bt337.2.2.1 bt337.2.2.2.1))) else (hortatorlaw7_tells.j0 k a1 bt328.2.2.2.2.2 bt337.2.2.2.2 true a0_0 a0_1 a0_2 a0_3 l0_4 bt328.1 bt328.2.1 bt328.2.2.1 bt328.2.2.2.1 bt328.2.2.2.2.1 bt337.1 bt337.2.1 bt337.2.2.1 bt337.2.2.2.1))))
set_option maxHeartbeats 8000000 in
set_option maxRecDepth 100000 in
theorem hortatorlaw7_tells.calls (k : Nat) (a0_0 : Int) (a0_1 : Int) (a0_2 : Int) (a0_3 : Int) (A0_4 : Option Addr) (c0_4 : Nat) (l0_4 : List Int) (a1 : ByteArray) (r : Bool) (w : World) (hr0_4 : Kd.C (Kd.int .i64) w A0_4 l0_4.length l0_4) (hc0_4 : l0_4.length ≤ c0_4) (hL : LW w) (h : hortatorlaw7_tells.f k a0_0 a0_1 a0_2 a0_3 l0_4 a1 = some r) :
  Calls Tryz.prog 35 #[.agg #[.int .i64 a0_0, .int .i64 a0_1, .int .i64 a0_2, .int .i64 a0_3, .slice A0_4 l0_4.length c0_4], .string a1] w fun e w' => e = .returned (.bool r) ∧ Below w.heap.size w w' := by
 have hu24 := Tryz.underlying24
 have hu27 := Tryz.underlying27
 have HR0_4 := Aside0.mk hr0_4
 have HC0_4 := Aside0.mk hc0_4
 clear hr0_4 hc0_4
 have HB := Aside0.mk (Below.refl w.heap.size w)
 have HL := Aside0.mk hL
 clear hL
 have H : ((note_GetConfig.f k a1).bind fun bt328 => ((note_GetTask.f k a0_0 a0_1 a0_2 a0_3 l0_4 a1).bind fun bt337 => (if bt328.2.2.2.2.2 = 0 then (if bt337.2.2.2.2 = 0 then (hortatorlaw7_tells.j0 k a1 bt328.2.2.2.2.2 bt337.2.2.2.2 false a0_0 a0_1 a0_2 a0_3 l0_4 bt328.1 bt328.2.1 bt328.2.2.1 bt328.2.2.2.1 bt328.2.2.2.2.1 bt337.1 bt337.2.1 bt337.2.2.1 bt337.2.2.2.1) else (if bt337.2.2.2.2 = 1 then ((rule_Same.f k bt337.1 bt337.2.1 bt337.2.2.1 bt337.2.2.2.1 0 0 0 ([] : List (S43))).bind fun t345 => (hortatorlaw7_tells.j0 k a1 bt328.2.2.2.2.2 bt337.2.2.2.2 (!t345) a0_0 a0_1 a0_2 a0_3 l0_4 bt328.1 bt328.2.1 bt328.2.2.1 bt328.2.2.2.1 bt328.2.2.2.2.1 bt337.1 bt337.2.1 bt337.2.2.1 bt337.2.2.2.1)) else (hortatorlaw7_tells.j0 k a1 bt328.2.2.2.2.2 bt337.2.2.2.2 true a0_0 a0_1 a0_2 a0_3 l0_4 bt328.1 bt328.2.1 bt328.2.2.1 bt328.2.2.2.1 bt328.2.2.2.2.1 bt337.1 bt337.2.1 bt337.2.2.1 bt337.2.2.2.1))) else (if bt328.2.2.2.2.2 = 1 then ((hortatorlaw7_sameConfig.f k bt328.1 bt328.2.1 bt328.2.2.1 bt328.2.2.2.1 bt328.2.2.2.2.1 0 0 0 0 ([] : List Int)).bind fun t346 => (if t346 = true then (if bt337.2.2.2.2 = 0 then (hortatorlaw7_tells.j0 k a1 bt328.2.2.2.2.2 bt337.2.2.2.2 false a0_0 a0_1 a0_2 a0_3 l0_4 bt328.1 bt328.2.1 bt328.2.2.1 bt328.2.2.2.1 bt328.2.2.2.2.1 bt337.1 bt337.2.1 bt337.2.2.1 bt337.2.2.2.1) else (if bt337.2.2.2.2 = 1 then ((rule_Same.f k bt337.1 bt337.2.1 bt337.2.2.1 bt337.2.2.2.1 0 0 0 ([] : List (S43))).bind fun t347 => (hortatorlaw7_tells.j0 k a1 bt328.2.2.2.2.2 bt337.2.2.2.2 (!t347) a0_0 a0_1 a0_2 a0_3 l0_4 bt328.1 bt328.2.1 bt328.2.2.1 bt328.2.2.2.1 bt328.2.2.2.2.1 bt337.1 bt337.2.1 bt337.2.2.1 bt337.2.2.2.1)) else (hortatorlaw7_tells.j0 k a1 bt328.2.2.2.2.2 bt337.2.2.2.2 true a0_0 a0_1 a0_2 a0_3 l0_4 bt328.1 bt328.2.1 bt328.2.2.1 bt328.2.2.2.1 bt328.2.2.2.2.1 bt337.1 bt337.2.1 bt337.2.2.1 bt337.2.2.2.1))) else (hortatorlaw7_tells.j0 k a1 bt328.2.2.2.2.2 bt337.2.2.2.2 true a0_0 a0_1 a0_2 a0_3 l0_4 bt328.1 bt328.2.1 bt328.2.2.1 bt328.2.2.2.1 bt328.2.2.2.2.1 bt337.1 bt337.2.1 bt337.2.2.1 bt337.2.2.2.1))) else (hortatorlaw7_tells.j0 k a1 bt328.2.2.2.2.2 bt337.2.2.2.2 true a0_0 a0_1 a0_2 a0_3 l0_4 bt328.1 bt328.2.1 bt328.2.2.1 bt328.2.2.2.1 bt328.2.2.2.2.1 bt337.1 bt337.2.1 bt337.2.2.1 bt337.2.2.2.1))))) = some r := h
 clear h
 replace H := Option.bind_eq_some_iff.mp H
 obtain ⟨⟨t328, t329, t330, t331, t332, t335⟩, A30, H⟩ := H
 have A3 := Aside0.mk A30
 clear A30
 replace H := Option.bind_eq_some_iff.mp H
 obtain ⟨⟨t337, t338, t339, t340, t343⟩, A40, H⟩ := H
 have A4 := Aside0.mk A40
 clear A40
 have HC5 := Aside0.mk H
 clear H
 go_enter Tryz.func35, Tryz.ntmps35
 go_upto_region 3 with (first | ((with_reducible refine gate_dst (N := 2) rfl ?_); refine box_event ?hg (N := 2) ?hd (cs := #[.int .i64 a0_0, .int .i64 a0_1, .int .i64 a0_2, .int .i64 a0_3, .slice A0_4 l0_4.length c0_4]) (t := 24) ?hr ?_; (case hd => rfl); (case hg => rfl); (case hr => (go_simp; done)); intro gb327 hg w6 hbox hb; have BK327 := Aside0.mk (hbox); have GW327 := Aside0.mk ((by rw [hg]; exact below_size HB.out : w.heap.size ≤ gb327)); have GE327 := Aside0.mk ((by rw [hg]; exact below_size HB.out : w.heap.size ≤ gb327)); replace HB := Aside0.mk (below_step HB.out hb); clear hb hbox hg) | ((with_reducible refine gate_callee (f := 33) rfl ?_); refine goesL_ (some 11) rfl rfl Tryz.func33 (by kernel_rfl) rfl #[.string a1] rfl (by (try simp only [List.map_toArray, List.map_cons, List.map_nil]); (rfl)) ?_; (with_reducible refine (note_GetConfig.calls k a1 t328 t329 t330 t331 t332 t335 _ (HL.out.below HB.out) A3.out).mono ?_); rintro e w7 ⟨v333, rfl, ho0, hb⟩; refine ⟨_, rfl, ?_⟩; have HO334 := Aside0.mk (Kd.R_lower ho0 (below_size HB.out)); replace BK327 := Aside0.mk (blk_below BK327.out hb); replace HB := Aside0.mk (below_step HB.out hb); (try clear hb); (try clear hb2); (try clear hk); (try clear hi); (try clear ho0)) | ((with_reducible refine gate_dst (N := 5) rfl ?_); refine box_event ?hg (N := 5) ?hd (cs := #[.int .i64 0, .int .i64 0, .int .i64 0, .int .i64 0, .slice none 0 0]) (t := 24) ?hr ?_; (case hd => rfl); (case hg => rfl); (case hr => (go_simp; done)); intro gb336 hg w8 hbox hb; have BK336 := Aside0.mk (hbox); have GW336 := Aside0.mk ((by rw [hg]; exact below_size HB.out : w.heap.size ≤ gb336)); have GE336 := Aside0.mk ((by rw [hg]; exact below_size HB.out : w.heap.size ≤ gb336)); have NB327_336 := Aside0.mk ((by rw [hg]; exact Nat.ne_of_lt (blk_lt BK327.out) : gb327 ≠ gb336)); have NB336_327 := Aside0.mk ((by rw [hg]; exact Nat.ne_of_gt (blk_lt BK327.out) : gb336 ≠ gb327)); replace HO334 := Aside0.mk (Kd.R_below HO334.out hb); replace BK327 := Aside0.mk (blk_below BK327.out hb); replace HB := Aside0.mk (below_step HB.out hb); clear hb hbox hg; have hnb9 := NB336_327.out; have hnc9 := NB327_336.out; have hcz10_0 : w8.cell? ⟨gb336, 0, none⟩ = some (.int .i64 0) := (blk_cell BK336.out 0).trans rfl; have hcz10_1 : w8.cell? ⟨gb336, 1, none⟩ = some (.int .i64 0) := (blk_cell BK336.out 1).trans rfl; have hcz10_2 : w8.cell? ⟨gb336, 2, none⟩ = some (.int .i64 0) := (blk_cell BK336.out 2).trans rfl; have hcz10_3 : w8.cell? ⟨gb336, 3, none⟩ = some (.int .i64 0) := (blk_cell BK336.out 3).trans rfl; have hcz10_4 : w8.cell? ⟨gb336, 4, none⟩ = some (.slice none 0 0) := (blk_cell BK336.out 4).trans rfl; have hfz10_0 := blk_frozen BK336.out 0; have hfz10_1 := blk_frozen BK336.out 1; have hfz10_2 := blk_frozen BK336.out 2; have hfz10_3 := blk_frozen BK336.out 3; have hfz10_4 := blk_frozen BK336.out 4; obtain ⟨Ao11, co11, eo11⟩ := Kd.R_slice HO334.out; subst eo11; have hcz12_0 : w8.cell? ⟨gb327, 0, none⟩ = some (.int .i64 a0_0) := (blk_cell BK327.out 0).trans rfl; have hcz12_1 : w8.cell? ⟨gb327, 1, none⟩ = some (.int .i64 a0_1) := (blk_cell BK327.out 1).trans rfl; have hcz12_2 : w8.cell? ⟨gb327, 2, none⟩ = some (.int .i64 a0_2) := (blk_cell BK327.out 2).trans rfl; have hcz12_3 : w8.cell? ⟨gb327, 3, none⟩ = some (.int .i64 a0_3) := (blk_cell BK327.out 3).trans rfl; have hcz12_4 : w8.cell? ⟨gb327, 4, none⟩ = some (.slice A0_4 l0_4.length c0_4) := (blk_cell BK327.out 4).trans rfl; have hfz12_0 := blk_frozen BK327.out 0; have hfz12_1 := blk_frozen BK327.out 1; have hfz12_2 := blk_frozen BK327.out 2; have hfz12_3 := blk_frozen BK327.out 3; have hfz12_4 := blk_frozen BK327.out 4) | ((with_reducible refine gate_callee (f := 34) rfl ?_); refine goesL_ (some 17) rfl rfl Tryz.func34 (by kernel_rfl) rfl #[.agg #[.int .i64 a0_0, .int .i64 a0_1, .int .i64 a0_2, .int .i64 a0_3, .slice A0_4 l0_4.length c0_4], .string a1] rfl (by (try simp only [List.map_toArray, List.map_cons, List.map_nil]); (rfl)) ?_; (with_reducible refine (note_GetTask.calls k a0_0 a0_1 a0_2 a0_3 _ _ l0_4 a1 t337 t338 t339 t340 t343 _ ?side1 ?side2 (HL.out.below (by repeat ((with_reducible first | exact HB.out | refine below_set ?_ GE336.out)))) A4.out).mono ?_); (case side1 => exact Kd.C_below HR0_4.out (by repeat ((with_reducible first | exact HB.out | refine below_set ?_ GE336.out)))); (case side2 => exact HC0_4.out); rintro e w13 ⟨v341, rfl, ho0, hb⟩; refine ⟨_, rfl, ?_⟩; have HO342 := Aside0.mk (Kd.R_lower ho0 (below_size (by repeat ((with_reducible first | exact HB.out | refine below_set ?_ GE336.out))))); replace HO334 := Aside0.mk (Kd.R_below (by exact (Kd.R_mono (Kd.R_far (p := ⟨gb336, 4, none⟩) (Kd.R_far (p := ⟨gb336, 3, none⟩) (Kd.R_far (p := ⟨gb336, 2, none⟩) (Kd.R_far (p := ⟨gb336, 1, none⟩) (Kd.R_far (p := ⟨gb336, 0, none⟩) (Kd.R_types HO334.out BK336.out (by decide)) (fun _ hk => hk.2) (.int .i64 t328)) (fun _ hk => hk.2) (.int .i64 t329)) (fun _ hk => hk.2) (.int .i64 t330)) (fun _ hk => hk.2) (.int .i64 t331)) (fun _ hk => hk.2) (.slice Ao11 t332.length co11)) (fun _ h_ => h_.1))) hb); replace BK327 := Aside0.mk (blk_below (g := gb327) (o := .cells #[.int .i64 a0_0, .int .i64 a0_1, .int .i64 a0_2, .int .i64 a0_3, .slice A0_4 l0_4.length c0_4] 24 (0, 0)) (by refine blk_far ?_ NB327_336.out _; refine blk_far ?_ NB327_336.out _; refine blk_far ?_ NB327_336.out _; refine blk_far ?_ NB327_336.out _; refine blk_far ?_ NB327_336.out _; exact BK327.out) hb); replace BK336 := Aside0.mk (blk_below (g := gb336) (o := .cells #[.int .i64 t328, .int .i64 t329, .int .i64 t330, .int .i64 t331, .slice Ao11 t332.length co11] 24 (0, 0)) (by refine blk_put (cs := #[.int .i64 t328, .int .i64 t329, .int .i64 t330, .int .i64 t331, .slice none 0 0]) ?_ 4 _ rfl; refine blk_put (cs := #[.int .i64 t328, .int .i64 t329, .int .i64 t330, .int .i64 0, .slice none 0 0]) ?_ 3 _ rfl; refine blk_put (cs := #[.int .i64 t328, .int .i64 t329, .int .i64 0, .int .i64 0, .slice none 0 0]) ?_ 2 _ rfl; refine blk_put (cs := #[.int .i64 t328, .int .i64 0, .int .i64 0, .int .i64 0, .slice none 0 0]) ?_ 1 _ rfl; refine blk_put (cs := #[.int .i64 0, .int .i64 0, .int .i64 0, .int .i64 0, .slice none 0 0]) ?_ 0 _ rfl; exact BK336.out) hb); replace HB := Aside0.mk (below_step (by repeat ((with_reducible first | exact HB.out | refine below_set ?_ GE336.out))) hb); (try clear hb); (try clear hb2); (try clear hk); (try clear hi); (try clear ho0)) | ((with_reducible refine gate_dst (N := 7) rfl ?_); refine box_event ?hg (N := 7) ?hd (cs := #[.int .i64 0, .int .i64 0, .int .i64 0, .slice none 0 0]) (t := 27) ?hr ?_; (case hd => rfl); (case hg => rfl); (case hr => (go_simp; done)); intro gb344 hg w14 hbox hb; have BK344 := Aside0.mk (hbox); have GW344 := Aside0.mk ((by rw [hg]; exact below_size HB.out : w.heap.size ≤ gb344)); have GE344 := Aside0.mk ((by rw [hg]; exact below_size HB.out : w.heap.size ≤ gb344)); have NB327_344 := Aside0.mk ((by rw [hg]; exact Nat.ne_of_lt (blk_lt BK327.out) : gb327 ≠ gb344)); have NB344_327 := Aside0.mk ((by rw [hg]; exact Nat.ne_of_gt (blk_lt BK327.out) : gb344 ≠ gb327)); have NB336_344 := Aside0.mk ((by rw [hg]; exact Nat.ne_of_lt (blk_lt BK336.out) : gb336 ≠ gb344)); have NB344_336 := Aside0.mk ((by rw [hg]; exact Nat.ne_of_gt (blk_lt BK336.out) : gb344 ≠ gb336)); replace HO334 := Aside0.mk (Kd.R_below HO334.out hb); replace HO342 := Aside0.mk (Kd.R_below HO342.out hb); replace BK327 := Aside0.mk (blk_below BK327.out hb); replace BK336 := Aside0.mk (blk_below BK336.out hb); replace HB := Aside0.mk (below_step HB.out hb); clear hb hbox hg; have hnb15 := NB344_327.out; have hnc15 := NB327_344.out; have hnb16 := NB344_336.out; have hnc16 := NB336_344.out; have hcz17_0 : w14.cell? ⟨gb344, 0, none⟩ = some (.int .i64 0) := (blk_cell BK344.out 0).trans rfl; have hcz17_1 : w14.cell? ⟨gb344, 1, none⟩ = some (.int .i64 0) := (blk_cell BK344.out 1).trans rfl; have hcz17_2 : w14.cell? ⟨gb344, 2, none⟩ = some (.int .i64 0) := (blk_cell BK344.out 2).trans rfl; have hcz17_3 : w14.cell? ⟨gb344, 3, none⟩ = some (.slice none 0 0) := (blk_cell BK344.out 3).trans rfl; have hfz17_0 := blk_frozen BK344.out 0; have hfz17_1 := blk_frozen BK344.out 1; have hfz17_2 := blk_frozen BK344.out 2; have hfz17_3 := blk_frozen BK344.out 3; obtain ⟨Ao18, co18, eo18⟩ := Kd.R_slice HO342.out; subst eo18))
 (try simp only [Act.put, List.setIfInBounds_toArray, List.set_cons_zero, List.set_cons_succ])
 go_cut [45] (fun v45 wc => ∃ (kq : Nat) (x45_4 : Bool), v45 = .bool x45_4 ∧ Aside0 (hortatorlaw7_tells.j0 kq a1 t335 t343 x45_4 a0_0 a0_1 a0_2 a0_3 l0_4 t328 t329 t330 t331 t332 t337 t338 t339 t340 = some r) ∧ Aside0 (kq ≤ k) ∧ Aside0 (Kd.R (Kd.int .i64) 3 wc w.heap.size (fun _ => True) (.slice Ao11 t332.length co11) t332) ∧ Aside0 (Kd.R k43 43 wc w.heap.size (fun _ => True) (.slice Ao18 t340.length co18) t340) ∧ Aside0 (wc.heap[gb327]? = some (.cells #[.int .i64 a0_0, .int .i64 a0_1, .int .i64 a0_2, .int .i64 a0_3, (.slice A0_4 l0_4.length c0_4)] 24 (0, 0))) ∧ Aside0 (wc.heap[gb336]? = some (.cells #[.int .i64 t328, .int .i64 t329, .int .i64 t330, .int .i64 t331, (.slice Ao11 t332.length co11)] 24 (0, 0))) ∧ Aside0 (wc.heap[gb344]? = some (.cells #[.int .i64 t337, .int .i64 t338, .int .i64 t339, (.slice Ao18 t340.length co18)] 27 (0, 0))) ∧ Aside0 (Below w.heap.size w wc))
 case first =>
  have H := HC5.out
  clear HC5
  by_cases c19 : t335 = 0
  ·rw [if_pos c19] at H
   have c19b0 : (t335 == 0) = true := beq_iff_eq.mpr c19
   have c19b1 : (t335 != 0) = false := bne_eq_false_iff_eq.mpr c19
   clear c19
   ((skip))
   by_cases c20 : t343 = 0
   ·rw [if_pos c20] at H
    have c20b0 : (t343 == 0) = true := beq_iff_eq.mpr c20
    have c20b1 : (t343 != 0) = false := bne_eq_false_iff_eq.mpr c20
    clear c20
    have H' := Aside0.mk H
    clear H
    go_wp2
    go_meet
    case rel => exact ⟨_, (false), (by (rfl)), H', ⟨by (omega)⟩, ⟨by exact Kd.R_mono (Kd.R_far (p := ⟨gb344, 3, none⟩) (Kd.R_far (p := ⟨gb344, 2, none⟩) (Kd.R_far (p := ⟨gb344, 1, none⟩) (Kd.R_far (p := ⟨gb344, 0, none⟩) (Kd.R_types HO334.out BK344.out (by decide)) (fun _ hk => hk.2) (.int .i64 t337)) (fun _ hk => hk.2) (.int .i64 t338)) (fun _ hk => hk.2) (.int .i64 t339)) (fun _ hk => hk.2) (.slice Ao18 t340.length co18)) (fun _ hk => trivial)⟩, ⟨by exact Kd.R_mono (Kd.R_far (p := ⟨gb344, 3, none⟩) (Kd.R_far (p := ⟨gb344, 2, none⟩) (Kd.R_far (p := ⟨gb344, 1, none⟩) (Kd.R_far (p := ⟨gb344, 0, none⟩) (Kd.R_types HO342.out BK344.out (by decide)) (fun _ hk => hk.2) (.int .i64 t337)) (fun _ hk => hk.2) (.int .i64 t338)) (fun _ hk => hk.2) (.int .i64 t339)) (fun _ hk => hk.2) (.slice Ao18 t340.length co18)) (fun _ hk => trivial)⟩, ⟨by refine blk_far ?_ NB327_344.out _; refine blk_far ?_ NB327_344.out _; refine blk_far ?_ NB327_344.out _; refine blk_far ?_ NB327_344.out _; exact BK327.out⟩, ⟨by refine blk_far ?_ NB336_344.out _; refine blk_far ?_ NB336_344.out _; refine blk_far ?_ NB336_344.out _; refine blk_far ?_ NB336_344.out _; exact BK336.out⟩, ⟨by refine blk_put (cs := #[.int .i64 t337, .int .i64 t338, .int .i64 t339, .slice none 0 0]) ?_ 3 _ rfl; refine blk_put (cs := #[.int .i64 t337, .int .i64 t338, .int .i64 0, .slice none 0 0]) ?_ 2 _ rfl; refine blk_put (cs := #[.int .i64 t337, .int .i64 0, .int .i64 0, .slice none 0 0]) ?_ 1 _ rfl; refine blk_put (cs := #[.int .i64 0, .int .i64 0, .int .i64 0, .slice none 0 0]) ?_ 0 _ rfl; exact BK344.out⟩, ⟨by repeat ((with_reducible first | exact HB.out | refine below_set ?_ GE344.out))⟩⟩
   ·rw [if_neg c20] at H
    have c20b0 : (t343 == 0) = false := beq_eq_false_iff_ne.mpr c20
    have c20b1 : (t343 != 0) = true := bne_iff_ne.mpr c20
    by_cases c21 : t343 = 1
    ·rw [if_pos c21] at H
     have c21b0 : (t343 == 1) = true := beq_iff_eq.mpr c21
     have c21b1 : (t343 != 1) = false := bne_eq_false_iff_eq.mpr c21
     clear c21
     replace H := Option.bind_eq_some_iff.mp H
     obtain ⟨t345, A220, H⟩ := H
     have A22 := Aside0.mk A220
     clear A220
     have H' := Aside0.mk H
     clear H
     have hnb23 := NB344_327.out
     have hnc23 := NB327_344.out
     have hnb24 := NB344_336.out
     have hnc24 := NB336_344.out
     have hcz25_0 : w14.cell? ⟨gb344, 0, none⟩ = some (.int .i64 0) := (blk_cell BK344.out 0).trans rfl
     have hcz25_1 : w14.cell? ⟨gb344, 1, none⟩ = some (.int .i64 0) := (blk_cell BK344.out 1).trans rfl
     have hcz25_2 : w14.cell? ⟨gb344, 2, none⟩ = some (.int .i64 0) := (blk_cell BK344.out 2).trans rfl
     have hcz25_3 : w14.cell? ⟨gb344, 3, none⟩ = some (.slice none 0 0) := (blk_cell BK344.out 3).trans rfl
     have hfz25_0 := blk_frozen BK344.out 0
     have hfz25_1 := blk_frozen BK344.out 1
     have hfz25_2 := blk_frozen BK344.out 2
     have hfz25_3 := blk_frozen BK344.out 3
     go_wp2_with ((go_at_call 18; (refine (rule_Same.calls k t337 t338 t339 _ _ t340 0 0 0 _ _ ([] : List (S43)) t345 _ ?side1 ?side2 ?side3 ?side4 A22.out).mono ?_); (case side1 => refine (Kd.R_reads' (e := 43) (base := w.heap.size) (ok := fun k_ => True) (n := t340.length) (c := co18) ?_).2.2; exact (by exact (Kd.R_mono (Kd.R_far (p := ⟨gb344, 3, none⟩) (Kd.R_far (p := ⟨gb344, 2, none⟩) (Kd.R_far (p := ⟨gb344, 1, none⟩) (Kd.R_far (p := ⟨gb344, 0, none⟩) (Kd.R_types HO342.out BK344.out (by decide)) (fun _ hk => hk.2) (.int .i64 t337)) (fun _ hk => hk.2) (.int .i64 t338)) (fun _ hk => hk.2) (.int .i64 t339)) (fun _ hk => hk.2) (.slice Ao18 t340.length co18)) (fun _ h_ => h_.1)))); (case side2 => exact (Kd.R_reads' HO342.out).2.1); (case side3 => exact Kd.C_nil _ _); (case side4 => exact Nat.le_refl _); rintro e w26 ⟨rfl, hb⟩; replace HO334 := Aside0.mk (Kd.R_below (by exact (Kd.R_mono (Kd.R_far (p := ⟨gb344, 3, none⟩) (Kd.R_far (p := ⟨gb344, 2, none⟩) (Kd.R_far (p := ⟨gb344, 1, none⟩) (Kd.R_far (p := ⟨gb344, 0, none⟩) (Kd.R_types HO334.out BK344.out (by decide)) (fun _ hk => hk.2) (.int .i64 t337)) (fun _ hk => hk.2) (.int .i64 t338)) (fun _ hk => hk.2) (.int .i64 t339)) (fun _ hk => hk.2) (.slice Ao18 t340.length co18)) (fun _ h_ => h_.1))) hb); replace HO342 := Aside0.mk (Kd.R_below (by exact (Kd.R_mono (Kd.R_far (p := ⟨gb344, 3, none⟩) (Kd.R_far (p := ⟨gb344, 2, none⟩) (Kd.R_far (p := ⟨gb344, 1, none⟩) (Kd.R_far (p := ⟨gb344, 0, none⟩) (Kd.R_types HO342.out BK344.out (by decide)) (fun _ hk => hk.2) (.int .i64 t337)) (fun _ hk => hk.2) (.int .i64 t338)) (fun _ hk => hk.2) (.int .i64 t339)) (fun _ hk => hk.2) (.slice Ao18 t340.length co18)) (fun _ h_ => h_.1))) hb); replace BK327 := Aside0.mk (blk_below (g := gb327) (o := .cells #[.int .i64 a0_0, .int .i64 a0_1, .int .i64 a0_2, .int .i64 a0_3, .slice A0_4 l0_4.length c0_4] 24 (0, 0)) (by refine blk_far ?_ NB327_344.out _; refine blk_far ?_ NB327_344.out _; refine blk_far ?_ NB327_344.out _; refine blk_far ?_ NB327_344.out _; exact BK327.out) hb); replace BK336 := Aside0.mk (blk_below (g := gb336) (o := .cells #[.int .i64 t328, .int .i64 t329, .int .i64 t330, .int .i64 t331, .slice Ao11 t332.length co11] 24 (0, 0)) (by refine blk_far ?_ NB336_344.out _; refine blk_far ?_ NB336_344.out _; refine blk_far ?_ NB336_344.out _; refine blk_far ?_ NB336_344.out _; exact BK336.out) hb); replace BK344 := Aside0.mk (blk_below (g := gb344) (o := .cells #[.int .i64 t337, .int .i64 t338, .int .i64 t339, .slice Ao18 t340.length co18] 27 (0, 0)) (by refine blk_put (cs := #[.int .i64 t337, .int .i64 t338, .int .i64 t339, .slice none 0 0]) ?_ 3 _ rfl; refine blk_put (cs := #[.int .i64 t337, .int .i64 t338, .int .i64 0, .slice none 0 0]) ?_ 2 _ rfl; refine blk_put (cs := #[.int .i64 t337, .int .i64 0, .int .i64 0, .slice none 0 0]) ?_ 1 _ rfl; refine blk_put (cs := #[.int .i64 0, .int .i64 0, .int .i64 0, .slice none 0 0]) ?_ 0 _ rfl; exact BK344.out) hb); replace HB := Aside0.mk (below_step (by repeat ((with_reducible first | exact HB.out | refine below_set ?_ GE344.out))) hb); (try clear hb); (try clear hb2); (try clear hk); (try clear hi)))
     go_meet
     case rel => exact ⟨_, (!t345), (by (rfl)), H', ⟨by (omega)⟩, ⟨HO334.out⟩, ⟨HO342.out⟩, ⟨BK327.out⟩, ⟨BK336.out⟩, ⟨BK344.out⟩, ⟨HB.out⟩⟩
    ·rw [if_neg c21] at H
     have c21b0 : (t343 == 1) = false := beq_eq_false_iff_ne.mpr c21
     have c21b1 : (t343 != 1) = true := bne_iff_ne.mpr c21
     have H' := Aside0.mk H
     clear H
     go_wp2
     go_meet
     case rel => exact ⟨_, (true), (by (rfl)), H', ⟨by (omega)⟩, ⟨by exact Kd.R_mono (Kd.R_far (p := ⟨gb344, 3, none⟩) (Kd.R_far (p := ⟨gb344, 2, none⟩) (Kd.R_far (p := ⟨gb344, 1, none⟩) (Kd.R_far (p := ⟨gb344, 0, none⟩) (Kd.R_types HO334.out BK344.out (by decide)) (fun _ hk => hk.2) (.int .i64 t337)) (fun _ hk => hk.2) (.int .i64 t338)) (fun _ hk => hk.2) (.int .i64 t339)) (fun _ hk => hk.2) (.slice Ao18 t340.length co18)) (fun _ hk => trivial)⟩, ⟨by exact Kd.R_mono (Kd.R_far (p := ⟨gb344, 3, none⟩) (Kd.R_far (p := ⟨gb344, 2, none⟩) (Kd.R_far (p := ⟨gb344, 1, none⟩) (Kd.R_far (p := ⟨gb344, 0, none⟩) (Kd.R_types HO342.out BK344.out (by decide)) (fun _ hk => hk.2) (.int .i64 t337)) (fun _ hk => hk.2) (.int .i64 t338)) (fun _ hk => hk.2) (.int .i64 t339)) (fun _ hk => hk.2) (.slice Ao18 t340.length co18)) (fun _ hk => trivial)⟩, ⟨by refine blk_far ?_ NB327_344.out _; refine blk_far ?_ NB327_344.out _; refine blk_far ?_ NB327_344.out _; refine blk_far ?_ NB327_344.out _; exact BK327.out⟩, ⟨by refine blk_far ?_ NB336_344.out _; refine blk_far ?_ NB336_344.out _; refine blk_far ?_ NB336_344.out _; refine blk_far ?_ NB336_344.out _; exact BK336.out⟩, ⟨by refine blk_put (cs := #[.int .i64 t337, .int .i64 t338, .int .i64 t339, .slice none 0 0]) ?_ 3 _ rfl; refine blk_put (cs := #[.int .i64 t337, .int .i64 t338, .int .i64 0, .slice none 0 0]) ?_ 2 _ rfl; refine blk_put (cs := #[.int .i64 t337, .int .i64 0, .int .i64 0, .slice none 0 0]) ?_ 1 _ rfl; refine blk_put (cs := #[.int .i64 0, .int .i64 0, .int .i64 0, .slice none 0 0]) ?_ 0 _ rfl; exact BK344.out⟩, ⟨by repeat ((with_reducible first | exact HB.out | refine below_set ?_ GE344.out))⟩⟩
  ·rw [if_neg c19] at H
   have c19b0 : (t335 == 0) = false := beq_eq_false_iff_ne.mpr c19
   have c19b1 : (t335 != 0) = true := bne_iff_ne.mpr c19
   ((skip))
   by_cases c27 : t335 = 1
   ·rw [if_pos c27] at H
    have c27b0 : (t335 == 1) = true := beq_iff_eq.mpr c27
    have c27b1 : (t335 != 1) = false := bne_eq_false_iff_eq.mpr c27
    clear c27
    replace H := Option.bind_eq_some_iff.mp H
    obtain ⟨t346, A280, H⟩ := H
    have A28 := Aside0.mk A280
    clear A280
    by_cases c29 : t346 = true
    ·subst c29
     have H1 : (if t343 = 0 then (hortatorlaw7_tells.j0 k a1 t335 t343 false a0_0 a0_1 a0_2 a0_3 l0_4 t328 t329 t330 t331 t332 t337 t338 t339 t340) else (if t343 = 1 then ((rule_Same.f k t337 t338 t339 t340 0 0 0 ([] : List (S43))).bind fun t347 => (hortatorlaw7_tells.j0 k a1 t335 t343 (!t347) a0_0 a0_1 a0_2 a0_3 l0_4 t328 t329 t330 t331 t332 t337 t338 t339 t340)) else (hortatorlaw7_tells.j0 k a1 t335 t343 true a0_0 a0_1 a0_2 a0_3 l0_4 t328 t329 t330 t331 t332 t337 t338 t339 t340))) = some r := by rw [if_pos rfl] at H; exact H
     clear H
     have H := H1
     clear H1
     by_cases c30 : t343 = 0
     ·rw [if_pos c30] at H
      have c30b0 : (t343 == 0) = true := beq_iff_eq.mpr c30
      have c30b1 : (t343 != 0) = false := bne_eq_false_iff_eq.mpr c30
      clear c30
      have H' := Aside0.mk H
      clear H
      have hnb31 := NB336_327.out
      have hnc31 := NB327_336.out
      have hnb32 := NB336_344.out
      have hnc32 := NB344_336.out
      have hcz33_0 : w14.cell? ⟨gb336, 0, none⟩ = some (.int .i64 t328) := (blk_cell BK336.out 0).trans rfl
      have hcz33_1 : w14.cell? ⟨gb336, 1, none⟩ = some (.int .i64 t329) := (blk_cell BK336.out 1).trans rfl
      have hcz33_2 : w14.cell? ⟨gb336, 2, none⟩ = some (.int .i64 t330) := (blk_cell BK336.out 2).trans rfl
      have hcz33_3 : w14.cell? ⟨gb336, 3, none⟩ = some (.int .i64 t331) := (blk_cell BK336.out 3).trans rfl
      have hcz33_4 : w14.cell? ⟨gb336, 4, none⟩ = some (.slice Ao11 t332.length co11) := (blk_cell BK336.out 4).trans rfl
      have hfz33_0 := blk_frozen BK336.out 0
      have hfz33_1 := blk_frozen BK336.out 1
      have hfz33_2 := blk_frozen BK336.out 2
      have hfz33_3 := blk_frozen BK336.out 3
      have hfz33_4 := blk_frozen BK336.out 4
      go_wp2_with ((go_at_call 32; (refine (hortatorlaw7_sameConfig.calls k t328 t329 t330 t331 _ _ t332 0 0 0 0 _ _ ([] : List Int) true _ ?side1 ?side2 ?side3 ?side4 A28.out).mono ?_); (case side1 => refine (Kd.R_reads' (e := 3) (base := w.heap.size) (ok := fun k_ => True) (n := t332.length) (c := co11) ?_).2.2; exact (by exact (Kd.R_mono (Kd.R_far (p := ⟨gb344, 3, none⟩) (Kd.R_far (p := ⟨gb344, 2, none⟩) (Kd.R_far (p := ⟨gb344, 1, none⟩) (Kd.R_far (p := ⟨gb344, 0, none⟩) (Kd.R_types HO334.out BK344.out (by decide)) (fun _ hk => hk.2) (.int .i64 t337)) (fun _ hk => hk.2) (.int .i64 t338)) (fun _ hk => hk.2) (.int .i64 t339)) (fun _ hk => hk.2) (.slice Ao18 t340.length co18)) (fun _ h_ => h_.1)))); (case side2 => exact (Kd.R_reads' HO334.out).2.1); (case side3 => exact Kd.C_nil _ _); (case side4 => exact Nat.le_refl _); rintro e w34 ⟨rfl, hb⟩; replace HO334 := Aside0.mk (Kd.R_below (by exact (Kd.R_mono (Kd.R_far (p := ⟨gb344, 3, none⟩) (Kd.R_far (p := ⟨gb344, 2, none⟩) (Kd.R_far (p := ⟨gb344, 1, none⟩) (Kd.R_far (p := ⟨gb344, 0, none⟩) (Kd.R_types HO334.out BK344.out (by decide)) (fun _ hk => hk.2) (.int .i64 t337)) (fun _ hk => hk.2) (.int .i64 t338)) (fun _ hk => hk.2) (.int .i64 t339)) (fun _ hk => hk.2) (.slice Ao18 t340.length co18)) (fun _ h_ => h_.1))) hb); replace HO342 := Aside0.mk (Kd.R_below (by exact (Kd.R_mono (Kd.R_far (p := ⟨gb344, 3, none⟩) (Kd.R_far (p := ⟨gb344, 2, none⟩) (Kd.R_far (p := ⟨gb344, 1, none⟩) (Kd.R_far (p := ⟨gb344, 0, none⟩) (Kd.R_types HO342.out BK344.out (by decide)) (fun _ hk => hk.2) (.int .i64 t337)) (fun _ hk => hk.2) (.int .i64 t338)) (fun _ hk => hk.2) (.int .i64 t339)) (fun _ hk => hk.2) (.slice Ao18 t340.length co18)) (fun _ h_ => h_.1))) hb); replace BK327 := Aside0.mk (blk_below (g := gb327) (o := .cells #[.int .i64 a0_0, .int .i64 a0_1, .int .i64 a0_2, .int .i64 a0_3, .slice A0_4 l0_4.length c0_4] 24 (0, 0)) (by refine blk_far ?_ NB327_344.out _; refine blk_far ?_ NB327_344.out _; refine blk_far ?_ NB327_344.out _; refine blk_far ?_ NB327_344.out _; exact BK327.out) hb); replace BK336 := Aside0.mk (blk_below (g := gb336) (o := .cells #[.int .i64 t328, .int .i64 t329, .int .i64 t330, .int .i64 t331, .slice Ao11 t332.length co11] 24 (0, 0)) (by refine blk_far ?_ NB336_344.out _; refine blk_far ?_ NB336_344.out _; refine blk_far ?_ NB336_344.out _; refine blk_far ?_ NB336_344.out _; exact BK336.out) hb); replace BK344 := Aside0.mk (blk_below (g := gb344) (o := .cells #[.int .i64 t337, .int .i64 t338, .int .i64 t339, .slice Ao18 t340.length co18] 27 (0, 0)) (by refine blk_put (cs := #[.int .i64 t337, .int .i64 t338, .int .i64 t339, .slice none 0 0]) ?_ 3 _ rfl; refine blk_put (cs := #[.int .i64 t337, .int .i64 t338, .int .i64 0, .slice none 0 0]) ?_ 2 _ rfl; refine blk_put (cs := #[.int .i64 t337, .int .i64 0, .int .i64 0, .slice none 0 0]) ?_ 1 _ rfl; refine blk_put (cs := #[.int .i64 0, .int .i64 0, .int .i64 0, .slice none 0 0]) ?_ 0 _ rfl; exact BK344.out) hb); replace HB := Aside0.mk (below_step (by repeat ((with_reducible first | exact HB.out | refine below_set ?_ GE344.out))) hb); (try clear hb); (try clear hb2); (try clear hk); (try clear hi)))
      go_meet
      case rel => exact ⟨_, (false), (by (rfl)), H', ⟨by (omega)⟩, ⟨HO334.out⟩, ⟨HO342.out⟩, ⟨BK327.out⟩, ⟨BK336.out⟩, ⟨BK344.out⟩, ⟨HB.out⟩⟩
     ·rw [if_neg c30] at H
      have c30b0 : (t343 == 0) = false := beq_eq_false_iff_ne.mpr c30
      have c30b1 : (t343 != 0) = true := bne_iff_ne.mpr c30
      by_cases c35 : t343 = 1
      ·rw [if_pos c35] at H
       have c35b0 : (t343 == 1) = true := beq_iff_eq.mpr c35
       have c35b1 : (t343 != 1) = false := bne_eq_false_iff_eq.mpr c35
       clear c35
       replace H := Option.bind_eq_some_iff.mp H
       obtain ⟨t347, A360, H⟩ := H
       have A36 := Aside0.mk A360
       clear A360
       have H' := Aside0.mk H
       clear H
       have hnb37 := NB336_327.out
       have hnc37 := NB327_336.out
       have hnb38 := NB336_344.out
       have hnc38 := NB344_336.out
       have hcz39_0 : w14.cell? ⟨gb336, 0, none⟩ = some (.int .i64 t328) := (blk_cell BK336.out 0).trans rfl
       have hcz39_1 : w14.cell? ⟨gb336, 1, none⟩ = some (.int .i64 t329) := (blk_cell BK336.out 1).trans rfl
       have hcz39_2 : w14.cell? ⟨gb336, 2, none⟩ = some (.int .i64 t330) := (blk_cell BK336.out 2).trans rfl
       have hcz39_3 : w14.cell? ⟨gb336, 3, none⟩ = some (.int .i64 t331) := (blk_cell BK336.out 3).trans rfl
       have hcz39_4 : w14.cell? ⟨gb336, 4, none⟩ = some (.slice Ao11 t332.length co11) := (blk_cell BK336.out 4).trans rfl
       have hfz39_0 := blk_frozen BK336.out 0
       have hfz39_1 := blk_frozen BK336.out 1
       have hfz39_2 := blk_frozen BK336.out 2
       have hfz39_3 := blk_frozen BK336.out 3
       have hfz39_4 := blk_frozen BK336.out 4
       go_wp2_with (first | (go_at_call 32; (refine (hortatorlaw7_sameConfig.calls k t328 t329 t330 t331 _ _ t332 0 0 0 0 _ _ ([] : List Int) true _ ?side1 ?side2 ?side3 ?side4 A28.out).mono ?_); (case side1 => refine (Kd.R_reads' (e := 3) (base := w.heap.size) (ok := fun k_ => True) (n := t332.length) (c := co11) ?_).2.2; exact (by exact (Kd.R_mono (Kd.R_far (p := ⟨gb344, 3, none⟩) (Kd.R_far (p := ⟨gb344, 2, none⟩) (Kd.R_far (p := ⟨gb344, 1, none⟩) (Kd.R_far (p := ⟨gb344, 0, none⟩) (Kd.R_types HO334.out BK344.out (by decide)) (fun _ hk => hk.2) (.int .i64 t337)) (fun _ hk => hk.2) (.int .i64 t338)) (fun _ hk => hk.2) (.int .i64 t339)) (fun _ hk => hk.2) (.slice Ao18 t340.length co18)) (fun _ h_ => h_.1)))); (case side2 => exact (Kd.R_reads' HO334.out).2.1); (case side3 => exact Kd.C_nil _ _); (case side4 => exact Nat.le_refl _); rintro e w40 ⟨rfl, hb⟩; replace HO334 := Aside0.mk (Kd.R_below (by exact (Kd.R_mono (Kd.R_far (p := ⟨gb344, 3, none⟩) (Kd.R_far (p := ⟨gb344, 2, none⟩) (Kd.R_far (p := ⟨gb344, 1, none⟩) (Kd.R_far (p := ⟨gb344, 0, none⟩) (Kd.R_types HO334.out BK344.out (by decide)) (fun _ hk => hk.2) (.int .i64 t337)) (fun _ hk => hk.2) (.int .i64 t338)) (fun _ hk => hk.2) (.int .i64 t339)) (fun _ hk => hk.2) (.slice Ao18 t340.length co18)) (fun _ h_ => h_.1))) hb); replace HO342 := Aside0.mk (Kd.R_below (by exact (Kd.R_mono (Kd.R_far (p := ⟨gb344, 3, none⟩) (Kd.R_far (p := ⟨gb344, 2, none⟩) (Kd.R_far (p := ⟨gb344, 1, none⟩) (Kd.R_far (p := ⟨gb344, 0, none⟩) (Kd.R_types HO342.out BK344.out (by decide)) (fun _ hk => hk.2) (.int .i64 t337)) (fun _ hk => hk.2) (.int .i64 t338)) (fun _ hk => hk.2) (.int .i64 t339)) (fun _ hk => hk.2) (.slice Ao18 t340.length co18)) (fun _ h_ => h_.1))) hb); replace BK327 := Aside0.mk (blk_below (g := gb327) (o := .cells #[.int .i64 a0_0, .int .i64 a0_1, .int .i64 a0_2, .int .i64 a0_3, .slice A0_4 l0_4.length c0_4] 24 (0, 0)) (by refine blk_far ?_ NB327_344.out _; refine blk_far ?_ NB327_344.out _; refine blk_far ?_ NB327_344.out _; refine blk_far ?_ NB327_344.out _; exact BK327.out) hb); replace BK336 := Aside0.mk (blk_below (g := gb336) (o := .cells #[.int .i64 t328, .int .i64 t329, .int .i64 t330, .int .i64 t331, .slice Ao11 t332.length co11] 24 (0, 0)) (by refine blk_far ?_ NB336_344.out _; refine blk_far ?_ NB336_344.out _; refine blk_far ?_ NB336_344.out _; refine blk_far ?_ NB336_344.out _; exact BK336.out) hb); replace BK344 := Aside0.mk (blk_below (g := gb344) (o := .cells #[.int .i64 t337, .int .i64 t338, .int .i64 t339, .slice Ao18 t340.length co18] 27 (0, 0)) (by refine blk_put (cs := #[.int .i64 t337, .int .i64 t338, .int .i64 t339, .slice none 0 0]) ?_ 3 _ rfl; refine blk_put (cs := #[.int .i64 t337, .int .i64 t338, .int .i64 0, .slice none 0 0]) ?_ 2 _ rfl; refine blk_put (cs := #[.int .i64 t337, .int .i64 0, .int .i64 0, .slice none 0 0]) ?_ 1 _ rfl; refine blk_put (cs := #[.int .i64 0, .int .i64 0, .int .i64 0, .slice none 0 0]) ?_ 0 _ rfl; exact BK344.out) hb); replace HB := Aside0.mk (below_step (by repeat ((with_reducible first | exact HB.out | refine below_set ?_ GE344.out))) hb); (try clear hb); (try clear hb2); (try clear hk); (try clear hi); have hnb41 := NB344_327.out; have hnc41 := NB327_344.out; have hcz42_0 : w40.cell? ⟨gb344, 0, none⟩ = some (.int .i64 t337) := (blk_cell BK344.out 0).trans rfl; have hcz42_1 : w40.cell? ⟨gb344, 1, none⟩ = some (.int .i64 t338) := (blk_cell BK344.out 1).trans rfl; have hcz42_2 : w40.cell? ⟨gb344, 2, none⟩ = some (.int .i64 t339) := (blk_cell BK344.out 2).trans rfl; have hcz42_3 : w40.cell? ⟨gb344, 3, none⟩ = some (.slice Ao18 t340.length co18) := (blk_cell BK344.out 3).trans rfl; have hfz42_0 := blk_frozen BK344.out 0; have hfz42_1 := blk_frozen BK344.out 1; have hfz42_2 := blk_frozen BK344.out 2; have hfz42_3 := blk_frozen BK344.out 3) | (go_at_call 18; (refine (rule_Same.calls k t337 t338 t339 _ _ t340 0 0 0 _ _ ([] : List (S43)) t347 _ ?side1 ?side2 ?side3 ?side4 A36.out).mono ?_); (case side1 => repeat ((exact (Kd.R_reads' HO342.out).2.2))); (case side2 => exact (Kd.R_reads' HO342.out).2.1); (case side3 => exact Kd.C_nil _ _); (case side4 => exact Nat.le_refl _); rintro e w43 ⟨rfl, hb⟩; replace HO334 := Aside0.mk (Kd.R_below HO334.out hb); replace HO342 := Aside0.mk (Kd.R_below HO342.out hb); replace BK327 := Aside0.mk (blk_below BK327.out hb); replace BK336 := Aside0.mk (blk_below BK336.out hb); replace BK344 := Aside0.mk (blk_below BK344.out hb); replace HB := Aside0.mk (below_step HB.out hb); (try clear hb); (try clear hb2); (try clear hk); (try clear hi)))
       go_meet
       case rel => exact ⟨_, (!t347), (by (rfl)), H', ⟨by (omega)⟩, ⟨HO334.out⟩, ⟨HO342.out⟩, ⟨BK327.out⟩, ⟨BK336.out⟩, ⟨BK344.out⟩, ⟨HB.out⟩⟩
      ·rw [if_neg c35] at H
       have c35b0 : (t343 == 1) = false := beq_eq_false_iff_ne.mpr c35
       have c35b1 : (t343 != 1) = true := bne_iff_ne.mpr c35
       have H' := Aside0.mk H
       clear H
       have hnb44 := NB336_327.out
       have hnc44 := NB327_336.out
       have hnb45 := NB336_344.out
       have hnc45 := NB344_336.out
       have hcz46_0 : w14.cell? ⟨gb336, 0, none⟩ = some (.int .i64 t328) := (blk_cell BK336.out 0).trans rfl
       have hcz46_1 : w14.cell? ⟨gb336, 1, none⟩ = some (.int .i64 t329) := (blk_cell BK336.out 1).trans rfl
       have hcz46_2 : w14.cell? ⟨gb336, 2, none⟩ = some (.int .i64 t330) := (blk_cell BK336.out 2).trans rfl
       have hcz46_3 : w14.cell? ⟨gb336, 3, none⟩ = some (.int .i64 t331) := (blk_cell BK336.out 3).trans rfl
       have hcz46_4 : w14.cell? ⟨gb336, 4, none⟩ = some (.slice Ao11 t332.length co11) := (blk_cell BK336.out 4).trans rfl
       have hfz46_0 := blk_frozen BK336.out 0
       have hfz46_1 := blk_frozen BK336.out 1
       have hfz46_2 := blk_frozen BK336.out 2
       have hfz46_3 := blk_frozen BK336.out 3
       have hfz46_4 := blk_frozen BK336.out 4
       go_wp2_with ((go_at_call 32; (refine (hortatorlaw7_sameConfig.calls k t328 t329 t330 t331 _ _ t332 0 0 0 0 _ _ ([] : List Int) true _ ?side1 ?side2 ?side3 ?side4 A28.out).mono ?_); (case side1 => refine (Kd.R_reads' (e := 3) (base := w.heap.size) (ok := fun k_ => True) (n := t332.length) (c := co11) ?_).2.2; exact (by exact (Kd.R_mono (Kd.R_far (p := ⟨gb344, 3, none⟩) (Kd.R_far (p := ⟨gb344, 2, none⟩) (Kd.R_far (p := ⟨gb344, 1, none⟩) (Kd.R_far (p := ⟨gb344, 0, none⟩) (Kd.R_types HO334.out BK344.out (by decide)) (fun _ hk => hk.2) (.int .i64 t337)) (fun _ hk => hk.2) (.int .i64 t338)) (fun _ hk => hk.2) (.int .i64 t339)) (fun _ hk => hk.2) (.slice Ao18 t340.length co18)) (fun _ h_ => h_.1)))); (case side2 => exact (Kd.R_reads' HO334.out).2.1); (case side3 => exact Kd.C_nil _ _); (case side4 => exact Nat.le_refl _); rintro e w47 ⟨rfl, hb⟩; replace HO334 := Aside0.mk (Kd.R_below (by exact (Kd.R_mono (Kd.R_far (p := ⟨gb344, 3, none⟩) (Kd.R_far (p := ⟨gb344, 2, none⟩) (Kd.R_far (p := ⟨gb344, 1, none⟩) (Kd.R_far (p := ⟨gb344, 0, none⟩) (Kd.R_types HO334.out BK344.out (by decide)) (fun _ hk => hk.2) (.int .i64 t337)) (fun _ hk => hk.2) (.int .i64 t338)) (fun _ hk => hk.2) (.int .i64 t339)) (fun _ hk => hk.2) (.slice Ao18 t340.length co18)) (fun _ h_ => h_.1))) hb); replace HO342 := Aside0.mk (Kd.R_below (by exact (Kd.R_mono (Kd.R_far (p := ⟨gb344, 3, none⟩) (Kd.R_far (p := ⟨gb344, 2, none⟩) (Kd.R_far (p := ⟨gb344, 1, none⟩) (Kd.R_far (p := ⟨gb344, 0, none⟩) (Kd.R_types HO342.out BK344.out (by decide)) (fun _ hk => hk.2) (.int .i64 t337)) (fun _ hk => hk.2) (.int .i64 t338)) (fun _ hk => hk.2) (.int .i64 t339)) (fun _ hk => hk.2) (.slice Ao18 t340.length co18)) (fun _ h_ => h_.1))) hb); replace BK327 := Aside0.mk (blk_below (g := gb327) (o := .cells #[.int .i64 a0_0, .int .i64 a0_1, .int .i64 a0_2, .int .i64 a0_3, .slice A0_4 l0_4.length c0_4] 24 (0, 0)) (by refine blk_far ?_ NB327_344.out _; refine blk_far ?_ NB327_344.out _; refine blk_far ?_ NB327_344.out _; refine blk_far ?_ NB327_344.out _; exact BK327.out) hb); replace BK336 := Aside0.mk (blk_below (g := gb336) (o := .cells #[.int .i64 t328, .int .i64 t329, .int .i64 t330, .int .i64 t331, .slice Ao11 t332.length co11] 24 (0, 0)) (by refine blk_far ?_ NB336_344.out _; refine blk_far ?_ NB336_344.out _; refine blk_far ?_ NB336_344.out _; refine blk_far ?_ NB336_344.out _; exact BK336.out) hb); replace BK344 := Aside0.mk (blk_below (g := gb344) (o := .cells #[.int .i64 t337, .int .i64 t338, .int .i64 t339, .slice Ao18 t340.length co18] 27 (0, 0)) (by refine blk_put (cs := #[.int .i64 t337, .int .i64 t338, .int .i64 t339, .slice none 0 0]) ?_ 3 _ rfl; refine blk_put (cs := #[.int .i64 t337, .int .i64 t338, .int .i64 0, .slice none 0 0]) ?_ 2 _ rfl; refine blk_put (cs := #[.int .i64 t337, .int .i64 0, .int .i64 0, .slice none 0 0]) ?_ 1 _ rfl; refine blk_put (cs := #[.int .i64 0, .int .i64 0, .int .i64 0, .slice none 0 0]) ?_ 0 _ rfl; exact BK344.out) hb); replace HB := Aside0.mk (below_step (by repeat ((with_reducible first | exact HB.out | refine below_set ?_ GE344.out))) hb); (try clear hb); (try clear hb2); (try clear hk); (try clear hi)))
       go_meet
       case rel => exact ⟨_, (true), (by (rfl)), H', ⟨by (omega)⟩, ⟨HO334.out⟩, ⟨HO342.out⟩, ⟨BK327.out⟩, ⟨BK336.out⟩, ⟨BK344.out⟩, ⟨HB.out⟩⟩
    ·replace c29 := Bool.eq_false_iff.mpr c29
     subst c29
     have H1 : (hortatorlaw7_tells.j0 k a1 t335 t343 true a0_0 a0_1 a0_2 a0_3 l0_4 t328 t329 t330 t331 t332 t337 t338 t339 t340) = some r := by rw [if_neg (show ¬ (false = true) by decide)] at H; exact H
     clear H
     have H := H1
     clear H1
     have H' := Aside0.mk H
     clear H
     have hnb48 := NB336_327.out
     have hnc48 := NB327_336.out
     have hnb49 := NB336_344.out
     have hnc49 := NB344_336.out
     have hcz50_0 : w14.cell? ⟨gb336, 0, none⟩ = some (.int .i64 t328) := (blk_cell BK336.out 0).trans rfl
     have hcz50_1 : w14.cell? ⟨gb336, 1, none⟩ = some (.int .i64 t329) := (blk_cell BK336.out 1).trans rfl
     have hcz50_2 : w14.cell? ⟨gb336, 2, none⟩ = some (.int .i64 t330) := (blk_cell BK336.out 2).trans rfl
     have hcz50_3 : w14.cell? ⟨gb336, 3, none⟩ = some (.int .i64 t331) := (blk_cell BK336.out 3).trans rfl
     have hcz50_4 : w14.cell? ⟨gb336, 4, none⟩ = some (.slice Ao11 t332.length co11) := (blk_cell BK336.out 4).trans rfl
     have hfz50_0 := blk_frozen BK336.out 0
     have hfz50_1 := blk_frozen BK336.out 1
     have hfz50_2 := blk_frozen BK336.out 2
     have hfz50_3 := blk_frozen BK336.out 3
     have hfz50_4 := blk_frozen BK336.out 4
     go_wp2_with ((go_at_call 32; (refine (hortatorlaw7_sameConfig.calls k t328 t329 t330 t331 _ _ t332 0 0 0 0 _ _ ([] : List Int) false _ ?side1 ?side2 ?side3 ?side4 A28.out).mono ?_); (case side1 => refine (Kd.R_reads' (e := 3) (base := w.heap.size) (ok := fun k_ => True) (n := t332.length) (c := co11) ?_).2.2; exact (by exact (Kd.R_mono (Kd.R_far (p := ⟨gb344, 3, none⟩) (Kd.R_far (p := ⟨gb344, 2, none⟩) (Kd.R_far (p := ⟨gb344, 1, none⟩) (Kd.R_far (p := ⟨gb344, 0, none⟩) (Kd.R_types HO334.out BK344.out (by decide)) (fun _ hk => hk.2) (.int .i64 t337)) (fun _ hk => hk.2) (.int .i64 t338)) (fun _ hk => hk.2) (.int .i64 t339)) (fun _ hk => hk.2) (.slice Ao18 t340.length co18)) (fun _ h_ => h_.1)))); (case side2 => exact (Kd.R_reads' HO334.out).2.1); (case side3 => exact Kd.C_nil _ _); (case side4 => exact Nat.le_refl _); rintro e w51 ⟨rfl, hb⟩; replace HO334 := Aside0.mk (Kd.R_below (by exact (Kd.R_mono (Kd.R_far (p := ⟨gb344, 3, none⟩) (Kd.R_far (p := ⟨gb344, 2, none⟩) (Kd.R_far (p := ⟨gb344, 1, none⟩) (Kd.R_far (p := ⟨gb344, 0, none⟩) (Kd.R_types HO334.out BK344.out (by decide)) (fun _ hk => hk.2) (.int .i64 t337)) (fun _ hk => hk.2) (.int .i64 t338)) (fun _ hk => hk.2) (.int .i64 t339)) (fun _ hk => hk.2) (.slice Ao18 t340.length co18)) (fun _ h_ => h_.1))) hb); replace HO342 := Aside0.mk (Kd.R_below (by exact (Kd.R_mono (Kd.R_far (p := ⟨gb344, 3, none⟩) (Kd.R_far (p := ⟨gb344, 2, none⟩) (Kd.R_far (p := ⟨gb344, 1, none⟩) (Kd.R_far (p := ⟨gb344, 0, none⟩) (Kd.R_types HO342.out BK344.out (by decide)) (fun _ hk => hk.2) (.int .i64 t337)) (fun _ hk => hk.2) (.int .i64 t338)) (fun _ hk => hk.2) (.int .i64 t339)) (fun _ hk => hk.2) (.slice Ao18 t340.length co18)) (fun _ h_ => h_.1))) hb); replace BK327 := Aside0.mk (blk_below (g := gb327) (o := .cells #[.int .i64 a0_0, .int .i64 a0_1, .int .i64 a0_2, .int .i64 a0_3, .slice A0_4 l0_4.length c0_4] 24 (0, 0)) (by refine blk_far ?_ NB327_344.out _; refine blk_far ?_ NB327_344.out _; refine blk_far ?_ NB327_344.out _; refine blk_far ?_ NB327_344.out _; exact BK327.out) hb); replace BK336 := Aside0.mk (blk_below (g := gb336) (o := .cells #[.int .i64 t328, .int .i64 t329, .int .i64 t330, .int .i64 t331, .slice Ao11 t332.length co11] 24 (0, 0)) (by refine blk_far ?_ NB336_344.out _; refine blk_far ?_ NB336_344.out _; refine blk_far ?_ NB336_344.out _; refine blk_far ?_ NB336_344.out _; exact BK336.out) hb); replace BK344 := Aside0.mk (blk_below (g := gb344) (o := .cells #[.int .i64 t337, .int .i64 t338, .int .i64 t339, .slice Ao18 t340.length co18] 27 (0, 0)) (by refine blk_put (cs := #[.int .i64 t337, .int .i64 t338, .int .i64 t339, .slice none 0 0]) ?_ 3 _ rfl; refine blk_put (cs := #[.int .i64 t337, .int .i64 t338, .int .i64 0, .slice none 0 0]) ?_ 2 _ rfl; refine blk_put (cs := #[.int .i64 t337, .int .i64 0, .int .i64 0, .slice none 0 0]) ?_ 1 _ rfl; refine blk_put (cs := #[.int .i64 0, .int .i64 0, .int .i64 0, .slice none 0 0]) ?_ 0 _ rfl; exact BK344.out) hb); replace HB := Aside0.mk (below_step (by repeat ((with_reducible first | exact HB.out | refine below_set ?_ GE344.out))) hb); (try clear hb); (try clear hb2); (try clear hk); (try clear hi)))
     go_meet
     case rel => exact ⟨_, (true), (by (rfl)), H', ⟨by (omega)⟩, ⟨HO334.out⟩, ⟨HO342.out⟩, ⟨BK327.out⟩, ⟨BK336.out⟩, ⟨BK344.out⟩, ⟨HB.out⟩⟩
   ·rw [if_neg c27] at H
    have c27b0 : (t335 == 1) = false := beq_eq_false_iff_ne.mpr c27
    have c27b1 : (t335 != 1) = true := bne_iff_ne.mpr c27
    have H' := Aside0.mk H
    clear H
    go_wp2
    go_meet
    case rel => exact ⟨_, (true), (by (rfl)), H', ⟨by (omega)⟩, ⟨by exact Kd.R_mono (Kd.R_far (p := ⟨gb344, 3, none⟩) (Kd.R_far (p := ⟨gb344, 2, none⟩) (Kd.R_far (p := ⟨gb344, 1, none⟩) (Kd.R_far (p := ⟨gb344, 0, none⟩) (Kd.R_types HO334.out BK344.out (by decide)) (fun _ hk => hk.2) (.int .i64 t337)) (fun _ hk => hk.2) (.int .i64 t338)) (fun _ hk => hk.2) (.int .i64 t339)) (fun _ hk => hk.2) (.slice Ao18 t340.length co18)) (fun _ hk => trivial)⟩, ⟨by exact Kd.R_mono (Kd.R_far (p := ⟨gb344, 3, none⟩) (Kd.R_far (p := ⟨gb344, 2, none⟩) (Kd.R_far (p := ⟨gb344, 1, none⟩) (Kd.R_far (p := ⟨gb344, 0, none⟩) (Kd.R_types HO342.out BK344.out (by decide)) (fun _ hk => hk.2) (.int .i64 t337)) (fun _ hk => hk.2) (.int .i64 t338)) (fun _ hk => hk.2) (.int .i64 t339)) (fun _ hk => hk.2) (.slice Ao18 t340.length co18)) (fun _ hk => trivial)⟩, ⟨by refine blk_far ?_ NB327_344.out _; refine blk_far ?_ NB327_344.out _; refine blk_far ?_ NB327_344.out _; refine blk_far ?_ NB327_344.out _; exact BK327.out⟩, ⟨by refine blk_far ?_ NB336_344.out _; refine blk_far ?_ NB336_344.out _; refine blk_far ?_ NB336_344.out _; refine blk_far ?_ NB336_344.out _; exact BK336.out⟩, ⟨by refine blk_put (cs := #[.int .i64 t337, .int .i64 t338, .int .i64 t339, .slice none 0 0]) ?_ 3 _ rfl; refine blk_put (cs := #[.int .i64 t337, .int .i64 t338, .int .i64 0, .slice none 0 0]) ?_ 2 _ rfl; refine blk_put (cs := #[.int .i64 t337, .int .i64 0, .int .i64 0, .slice none 0 0]) ?_ 1 _ rfl; refine blk_put (cs := #[.int .i64 0, .int .i64 0, .int .i64 0, .slice none 0 0]) ?_ 0 _ rfl; exact BK344.out⟩, ⟨by repeat ((with_reducible first | exact HB.out | refine below_set ?_ GE344.out))⟩⟩
 case rest =>
  clear HC5
  try clear hcz10_0
  try clear hcz10_1
  try clear hcz10_2
  try clear hcz10_3
  try clear hcz10_4
  try clear hcz12_0
  try clear hcz12_1
  try clear hcz12_2
  try clear hcz12_3
  try clear hcz12_4
  try clear hcz17_0
  try clear hcz17_1
  try clear hcz17_2
  try clear hcz17_3
  try clear hfz10_0
  try clear hfz10_1
  try clear hfz10_2
  try clear hfz10_3
  try clear hfz10_4
  try clear hfz12_0
  try clear hfz12_1
  try clear hfz12_2
  try clear hfz12_3
  try clear hfz12_4
  try clear hfz17_0
  try clear hfz17_1
  try clear hfz17_2
  try clear hfz17_3
  obtain ⟨kq, x45_4, rfl, HA, HJ4, HO_337004, HO_345003, BK327, BK336, BK344, HB⟩ := hcut
  cases kq with
  | zero => exact absurd HA.out (by simp [hortatorlaw7_tells.j0])
  | succ kj4 =>
   have H := HA.out
   clear HA
   simp only [hortatorlaw7_tells.j0] at H
   by_cases c52 : x45_4 = true
   ·subst c52
    have H1 : (some false) = some r := by rw [if_pos rfl] at H; exact H
    clear H
    have H := H1
    clear H1
    obtain rfl := Option.some.inj H
    go_wp2
    go_ret
    exact ⟨by (rfl), by repeat ((with_reducible (exact HB.out)))⟩
   ·replace c52 := Bool.eq_false_iff.mpr c52
    subst c52
    have H1 : (if t335 = 0 then ((hortatorref7_PutConfig.f kj4 t328 t329 t330 t331 t332).bind fun t348 => (if t348.toList = a1.toList then (if a1.toList = ([] : List UInt8) then (some false) else (if t343 = 0 then ((hortatorref7_PutTask.f kj4 t337 t338 t339 t340).bind fun t349 => (if t349.toList = a1.toList then ((hortatorref7_Task.f a0_0 a0_1 a0_2 a0_3 l0_4 t337 t338 t339 t340).bind fun t350 => (some t350)) else (some false))) else (some true))) else (some false))) else (if t343 = 0 then ((hortatorref7_PutTask.f kj4 t337 t338 t339 t340).bind fun t351 => (if t351.toList = a1.toList then ((hortatorref7_Task.f a0_0 a0_1 a0_2 a0_3 l0_4 t337 t338 t339 t340).bind fun t352 => (some t352)) else (some false))) else (some true))) = some r := by rw [if_neg (show ¬ (false = true) by decide)] at H; exact H
    clear H
    have H := H1
    clear H1
    by_cases c53 : t335 = 0
    ·rw [if_pos c53] at H
     have c53b0 : (t335 == 0) = true := beq_iff_eq.mpr c53
     have c53b1 : (t335 != 0) = false := bne_eq_false_iff_eq.mpr c53
     clear c53
     replace H := Option.bind_eq_some_iff.mp H
     obtain ⟨t348, A540, H⟩ := H
     have A54 := Aside0.mk A540
     clear A540
     by_cases c55 : t348.toList = a1.toList
     ·rw [if_pos c55] at H
      have c55b0 : (t348.toList == a1.toList) = true := beq_iff_eq.mpr c55
      have c55b1 : (t348.toList != a1.toList) = false := bne_eq_false_iff_eq.mpr c55
      clear c55
      by_cases c56 : a1.toList = ([] : List UInt8)
      ·rw [if_pos c56] at H
       have c56b0 : (a1.toList == ([] : List UInt8)) = true := beq_iff_eq.mpr c56
       have c56b1 : (a1.toList != ([] : List UInt8)) = false := bne_eq_false_iff_eq.mpr c56
       clear c56
       obtain rfl := Option.some.inj H
       have hnb57 := NB336_327.out
       have hnc57 := NB327_336.out
       have hnb58 := NB336_344.out
       have hnc58 := NB344_336.out
       have hcz59_0 : wc.cell? ⟨gb336, 0, none⟩ = some (.int .i64 t328) := (blk_cell BK336.out 0).trans rfl
       have hcz59_1 : wc.cell? ⟨gb336, 1, none⟩ = some (.int .i64 t329) := (blk_cell BK336.out 1).trans rfl
       have hcz59_2 : wc.cell? ⟨gb336, 2, none⟩ = some (.int .i64 t330) := (blk_cell BK336.out 2).trans rfl
       have hcz59_3 : wc.cell? ⟨gb336, 3, none⟩ = some (.int .i64 t331) := (blk_cell BK336.out 3).trans rfl
       have hcz59_4 : wc.cell? ⟨gb336, 4, none⟩ = some (.slice Ao11 t332.length co11) := (blk_cell BK336.out 4).trans rfl
       have hfz59_0 := blk_frozen BK336.out 0
       have hfz59_1 := blk_frozen BK336.out 1
       have hfz59_2 := blk_frozen BK336.out 2
       have hfz59_3 := blk_frozen BK336.out 3
       have hfz59_4 := blk_frozen BK336.out 4
       go_wp2_with ((go_at_call 30; (with_reducible refine (hortatorref7_PutConfig.calls kj4 t328 t329 t330 t331 _ _ t332 t348 _ ?side1 ?side2 A54.out).mono ?_); (case side1 => repeat ((exact (Kd.R_reads' HO_337004.out).2.2))); (case side2 => exact (Kd.R_reads' HO_337004.out).2.1); rintro e w60 ⟨rfl, hb⟩; replace HO_337004 := Aside0.mk (Kd.R_below HO_337004.out hb); replace HO_345003 := Aside0.mk (Kd.R_below HO_345003.out hb); replace BK327 := Aside0.mk (blk_below BK327.out hb); replace BK336 := Aside0.mk (blk_below BK336.out hb); replace BK344 := Aside0.mk (blk_below BK344.out hb); replace HB := Aside0.mk (below_step HB.out hb); (try clear hb); (try clear hb2); (try clear hk); (try clear hi)))
       go_ret
       exact ⟨by (rfl), by repeat ((with_reducible (exact HB.out)))⟩
      ·rw [if_neg c56] at H
       have c56b0 : (a1.toList == ([] : List UInt8)) = false := beq_eq_false_iff_ne.mpr c56
       have c56b1 : (a1.toList != ([] : List UInt8)) = true := bne_iff_ne.mpr c56
       by_cases c61 : t343 = 0
       ·rw [if_pos c61] at H
        have c61b0 : (t343 == 0) = true := beq_iff_eq.mpr c61
        have c61b1 : (t343 != 0) = false := bne_eq_false_iff_eq.mpr c61
        clear c61
        replace H := Option.bind_eq_some_iff.mp H
        obtain ⟨t349, A620, H⟩ := H
        have A62 := Aside0.mk A620
        clear A620
        by_cases c63 : t349.toList = a1.toList
        ·rw [if_pos c63] at H
         have c63b0 : (t349.toList == a1.toList) = true := beq_iff_eq.mpr c63
         have c63b1 : (t349.toList != a1.toList) = false := bne_eq_false_iff_eq.mpr c63
         clear c63
         replace H := Option.bind_eq_some_iff.mp H
         obtain ⟨t350, A640, H⟩ := H
         have A64 := Aside0.mk A640
         clear A640
         obtain rfl := Option.some.inj H
         have hnb65 := NB336_327.out
         have hnc65 := NB327_336.out
         have hnb66 := NB336_344.out
         have hnc66 := NB344_336.out
         have hcz67_0 : wc.cell? ⟨gb336, 0, none⟩ = some (.int .i64 t328) := (blk_cell BK336.out 0).trans rfl
         have hcz67_1 : wc.cell? ⟨gb336, 1, none⟩ = some (.int .i64 t329) := (blk_cell BK336.out 1).trans rfl
         have hcz67_2 : wc.cell? ⟨gb336, 2, none⟩ = some (.int .i64 t330) := (blk_cell BK336.out 2).trans rfl
         have hcz67_3 : wc.cell? ⟨gb336, 3, none⟩ = some (.int .i64 t331) := (blk_cell BK336.out 3).trans rfl
         have hcz67_4 : wc.cell? ⟨gb336, 4, none⟩ = some (.slice Ao11 t332.length co11) := (blk_cell BK336.out 4).trans rfl
         have hfz67_0 := blk_frozen BK336.out 0
         have hfz67_1 := blk_frozen BK336.out 1
         have hfz67_2 := blk_frozen BK336.out 2
         have hfz67_3 := blk_frozen BK336.out 3
         have hfz67_4 := blk_frozen BK336.out 4
         go_wp2_with (first | (go_at_call 30; (with_reducible refine (hortatorref7_PutConfig.calls kj4 t328 t329 t330 t331 _ _ t332 t348 _ ?side1 ?side2 A54.out).mono ?_); (case side1 => repeat ((exact (Kd.R_reads' HO_337004.out).2.2))); (case side2 => exact (Kd.R_reads' HO_337004.out).2.1); rintro e w68 ⟨rfl, hb⟩; replace HO_337004 := Aside0.mk (Kd.R_below HO_337004.out hb); replace HO_345003 := Aside0.mk (Kd.R_below HO_345003.out hb); replace BK327 := Aside0.mk (blk_below BK327.out hb); replace BK336 := Aside0.mk (blk_below BK336.out hb); replace BK344 := Aside0.mk (blk_below BK344.out hb); replace HB := Aside0.mk (below_step HB.out hb); (try clear hb); (try clear hb2); (try clear hk); (try clear hi); have hnb69 := NB344_327.out; have hnc69 := NB327_344.out; have hcz70_0 : w68.cell? ⟨gb344, 0, none⟩ = some (.int .i64 t337) := (blk_cell BK344.out 0).trans rfl; have hcz70_1 : w68.cell? ⟨gb344, 1, none⟩ = some (.int .i64 t338) := (blk_cell BK344.out 1).trans rfl; have hcz70_2 : w68.cell? ⟨gb344, 2, none⟩ = some (.int .i64 t339) := (blk_cell BK344.out 2).trans rfl; have hcz70_3 : w68.cell? ⟨gb344, 3, none⟩ = some (.slice Ao18 t340.length co18) := (blk_cell BK344.out 3).trans rfl; have hfz70_0 := blk_frozen BK344.out 0; have hfz70_1 := blk_frozen BK344.out 1; have hfz70_2 := blk_frozen BK344.out 2; have hfz70_3 := blk_frozen BK344.out 3) | (go_at_call 31; (with_reducible refine (hortatorref7_PutTask.calls kj4 t337 t338 t339 _ _ t340 t349 _ ?side1 ?side2 A62.out).mono ?_); (case side1 => repeat ((exact (Kd.R_reads' HO_345003.out).2.2))); (case side2 => exact (Kd.R_reads' HO_345003.out).2.1); rintro e w71 ⟨rfl, hb⟩; replace HO_337004 := Aside0.mk (Kd.R_below HO_337004.out hb); replace HO_345003 := Aside0.mk (Kd.R_below HO_345003.out hb); replace BK327 := Aside0.mk (blk_below BK327.out hb); replace BK336 := Aside0.mk (blk_below BK336.out hb); replace BK344 := Aside0.mk (blk_below BK344.out hb); replace HB := Aside0.mk (below_step HB.out hb); (try clear hb); (try clear hb2); (try clear hk); (try clear hi); have hcz72_0 : w71.cell? ⟨gb327, 0, none⟩ = some (.int .i64 a0_0) := (blk_cell BK327.out 0).trans rfl; have hcz72_1 : w71.cell? ⟨gb327, 1, none⟩ = some (.int .i64 a0_1) := (blk_cell BK327.out 1).trans rfl; have hcz72_2 : w71.cell? ⟨gb327, 2, none⟩ = some (.int .i64 a0_2) := (blk_cell BK327.out 2).trans rfl; have hcz72_3 : w71.cell? ⟨gb327, 3, none⟩ = some (.int .i64 a0_3) := (blk_cell BK327.out 3).trans rfl; have hcz72_4 : w71.cell? ⟨gb327, 4, none⟩ = some (.slice A0_4 l0_4.length c0_4) := (blk_cell BK327.out 4).trans rfl; have hfz72_0 := blk_frozen BK327.out 0; have hfz72_1 := blk_frozen BK327.out 1; have hfz72_2 := blk_frozen BK327.out 2; have hfz72_3 := blk_frozen BK327.out 3; have hfz72_4 := blk_frozen BK327.out 4; have hcz73_0 : w71.cell? ⟨gb344, 0, none⟩ = some (.int .i64 t337) := (blk_cell BK344.out 0).trans rfl; have hcz73_1 : w71.cell? ⟨gb344, 1, none⟩ = some (.int .i64 t338) := (blk_cell BK344.out 1).trans rfl; have hcz73_2 : w71.cell? ⟨gb344, 2, none⟩ = some (.int .i64 t339) := (blk_cell BK344.out 2).trans rfl; have hcz73_3 : w71.cell? ⟨gb344, 3, none⟩ = some (.slice Ao18 t340.length co18) := (blk_cell BK344.out 3).trans rfl; have hfz73_0 := blk_frozen BK344.out 0; have hfz73_1 := blk_frozen BK344.out 1; have hfz73_2 := blk_frozen BK344.out 2; have hfz73_3 := blk_frozen BK344.out 3) | (go_at_call 23; (with_reducible refine (hortatorref7_Task.calls a0_0 a0_1 a0_2 a0_3 _ _ l0_4 t337 t338 t339 _ _ t340 t350 _ ?side1 ?side2 ?side3 ?side4 A64.out).mono ?_); (case side1 => repeat ((exact (Kd.C_below HR0_4.out HB.out)))); (case side2 => exact HC0_4.out); (case side3 => repeat ((exact (Kd.R_reads' HO_345003.out).2.2))); (case side4 => exact (Kd.R_reads' HO_345003.out).2.1); rintro e w74 ⟨rfl, hb⟩; replace HO_337004 := Aside0.mk (Kd.R_below HO_337004.out hb); replace HO_345003 := Aside0.mk (Kd.R_below HO_345003.out hb); replace BK327 := Aside0.mk (blk_below BK327.out hb); replace BK336 := Aside0.mk (blk_below BK336.out hb); replace BK344 := Aside0.mk (blk_below BK344.out hb); replace HB := Aside0.mk (below_step HB.out hb); (try clear hb); (try clear hb2); (try clear hk); (try clear hi)))
         go_ret
         exact ⟨by (rfl), by repeat ((with_reducible (exact HB.out)))⟩
        ·rw [if_neg c63] at H
         have c63b0 : (t349.toList == a1.toList) = false := beq_eq_false_iff_ne.mpr c63
         have c63b1 : (t349.toList != a1.toList) = true := bne_iff_ne.mpr c63
         obtain rfl := Option.some.inj H
         have hnb75 := NB336_327.out
         have hnc75 := NB327_336.out
         have hnb76 := NB336_344.out
         have hnc76 := NB344_336.out
         have hcz77_0 : wc.cell? ⟨gb336, 0, none⟩ = some (.int .i64 t328) := (blk_cell BK336.out 0).trans rfl
         have hcz77_1 : wc.cell? ⟨gb336, 1, none⟩ = some (.int .i64 t329) := (blk_cell BK336.out 1).trans rfl
         have hcz77_2 : wc.cell? ⟨gb336, 2, none⟩ = some (.int .i64 t330) := (blk_cell BK336.out 2).trans rfl
         have hcz77_3 : wc.cell? ⟨gb336, 3, none⟩ = some (.int .i64 t331) := (blk_cell BK336.out 3).trans rfl
         have hcz77_4 : wc.cell? ⟨gb336, 4, none⟩ = some (.slice Ao11 t332.length co11) := (blk_cell BK336.out 4).trans rfl
         have hfz77_0 := blk_frozen BK336.out 0
         have hfz77_1 := blk_frozen BK336.out 1
         have hfz77_2 := blk_frozen BK336.out 2
         have hfz77_3 := blk_frozen BK336.out 3
         have hfz77_4 := blk_frozen BK336.out 4
         go_wp2_with (first | (go_at_call 30; (with_reducible refine (hortatorref7_PutConfig.calls kj4 t328 t329 t330 t331 _ _ t332 t348 _ ?side1 ?side2 A54.out).mono ?_); (case side1 => repeat ((exact (Kd.R_reads' HO_337004.out).2.2))); (case side2 => exact (Kd.R_reads' HO_337004.out).2.1); rintro e w78 ⟨rfl, hb⟩; replace HO_337004 := Aside0.mk (Kd.R_below HO_337004.out hb); replace HO_345003 := Aside0.mk (Kd.R_below HO_345003.out hb); replace BK327 := Aside0.mk (blk_below BK327.out hb); replace BK336 := Aside0.mk (blk_below BK336.out hb); replace BK344 := Aside0.mk (blk_below BK344.out hb); replace HB := Aside0.mk (below_step HB.out hb); (try clear hb); (try clear hb2); (try clear hk); (try clear hi); have hnb79 := NB344_327.out; have hnc79 := NB327_344.out; have hcz80_0 : w78.cell? ⟨gb344, 0, none⟩ = some (.int .i64 t337) := (blk_cell BK344.out 0).trans rfl; have hcz80_1 : w78.cell? ⟨gb344, 1, none⟩ = some (.int .i64 t338) := (blk_cell BK344.out 1).trans rfl; have hcz80_2 : w78.cell? ⟨gb344, 2, none⟩ = some (.int .i64 t339) := (blk_cell BK344.out 2).trans rfl; have hcz80_3 : w78.cell? ⟨gb344, 3, none⟩ = some (.slice Ao18 t340.length co18) := (blk_cell BK344.out 3).trans rfl; have hfz80_0 := blk_frozen BK344.out 0; have hfz80_1 := blk_frozen BK344.out 1; have hfz80_2 := blk_frozen BK344.out 2; have hfz80_3 := blk_frozen BK344.out 3) | (go_at_call 31; (with_reducible refine (hortatorref7_PutTask.calls kj4 t337 t338 t339 _ _ t340 t349 _ ?side1 ?side2 A62.out).mono ?_); (case side1 => repeat ((exact (Kd.R_reads' HO_345003.out).2.2))); (case side2 => exact (Kd.R_reads' HO_345003.out).2.1); rintro e w81 ⟨rfl, hb⟩; replace HO_337004 := Aside0.mk (Kd.R_below HO_337004.out hb); replace HO_345003 := Aside0.mk (Kd.R_below HO_345003.out hb); replace BK327 := Aside0.mk (blk_below BK327.out hb); replace BK336 := Aside0.mk (blk_below BK336.out hb); replace BK344 := Aside0.mk (blk_below BK344.out hb); replace HB := Aside0.mk (below_step HB.out hb); (try clear hb); (try clear hb2); (try clear hk); (try clear hi)))
         go_ret
         exact ⟨by (rfl), by repeat ((with_reducible (exact HB.out)))⟩
       ·rw [if_neg c61] at H
        have c61b0 : (t343 == 0) = false := beq_eq_false_iff_ne.mpr c61
        have c61b1 : (t343 != 0) = true := bne_iff_ne.mpr c61
        obtain rfl := Option.some.inj H
        have hnb82 := NB336_327.out
        have hnc82 := NB327_336.out
        have hnb83 := NB336_344.out
        have hnc83 := NB344_336.out
        have hcz84_0 : wc.cell? ⟨gb336, 0, none⟩ = some (.int .i64 t328) := (blk_cell BK336.out 0).trans rfl
        have hcz84_1 : wc.cell? ⟨gb336, 1, none⟩ = some (.int .i64 t329) := (blk_cell BK336.out 1).trans rfl
        have hcz84_2 : wc.cell? ⟨gb336, 2, none⟩ = some (.int .i64 t330) := (blk_cell BK336.out 2).trans rfl
        have hcz84_3 : wc.cell? ⟨gb336, 3, none⟩ = some (.int .i64 t331) := (blk_cell BK336.out 3).trans rfl
        have hcz84_4 : wc.cell? ⟨gb336, 4, none⟩ = some (.slice Ao11 t332.length co11) := (blk_cell BK336.out 4).trans rfl
        have hfz84_0 := blk_frozen BK336.out 0
        have hfz84_1 := blk_frozen BK336.out 1
        have hfz84_2 := blk_frozen BK336.out 2
        have hfz84_3 := blk_frozen BK336.out 3
        have hfz84_4 := blk_frozen BK336.out 4
        go_wp2_with ((go_at_call 30; (with_reducible refine (hortatorref7_PutConfig.calls kj4 t328 t329 t330 t331 _ _ t332 t348 _ ?side1 ?side2 A54.out).mono ?_); (case side1 => repeat ((exact (Kd.R_reads' HO_337004.out).2.2))); (case side2 => exact (Kd.R_reads' HO_337004.out).2.1); rintro e w85 ⟨rfl, hb⟩; replace HO_337004 := Aside0.mk (Kd.R_below HO_337004.out hb); replace HO_345003 := Aside0.mk (Kd.R_below HO_345003.out hb); replace BK327 := Aside0.mk (blk_below BK327.out hb); replace BK336 := Aside0.mk (blk_below BK336.out hb); replace BK344 := Aside0.mk (blk_below BK344.out hb); replace HB := Aside0.mk (below_step HB.out hb); (try clear hb); (try clear hb2); (try clear hk); (try clear hi)))
        go_ret
        exact ⟨by (rfl), by repeat ((with_reducible (exact HB.out)))⟩
     ·rw [if_neg c55] at H
      have c55b0 : (t348.toList == a1.toList) = false := beq_eq_false_iff_ne.mpr c55
      have c55b1 : (t348.toList != a1.toList) = true := bne_iff_ne.mpr c55
      obtain rfl := Option.some.inj H
      have hnb86 := NB336_327.out
      have hnc86 := NB327_336.out
      have hnb87 := NB336_344.out
      have hnc87 := NB344_336.out
      have hcz88_0 : wc.cell? ⟨gb336, 0, none⟩ = some (.int .i64 t328) := (blk_cell BK336.out 0).trans rfl
      have hcz88_1 : wc.cell? ⟨gb336, 1, none⟩ = some (.int .i64 t329) := (blk_cell BK336.out 1).trans rfl
      have hcz88_2 : wc.cell? ⟨gb336, 2, none⟩ = some (.int .i64 t330) := (blk_cell BK336.out 2).trans rfl
      have hcz88_3 : wc.cell? ⟨gb336, 3, none⟩ = some (.int .i64 t331) := (blk_cell BK336.out 3).trans rfl
      have hcz88_4 : wc.cell? ⟨gb336, 4, none⟩ = some (.slice Ao11 t332.length co11) := (blk_cell BK336.out 4).trans rfl
      have hfz88_0 := blk_frozen BK336.out 0
      have hfz88_1 := blk_frozen BK336.out 1
      have hfz88_2 := blk_frozen BK336.out 2
      have hfz88_3 := blk_frozen BK336.out 3
      have hfz88_4 := blk_frozen BK336.out 4
      go_wp2_with ((go_at_call 30; (with_reducible refine (hortatorref7_PutConfig.calls kj4 t328 t329 t330 t331 _ _ t332 t348 _ ?side1 ?side2 A54.out).mono ?_); (case side1 => repeat ((exact (Kd.R_reads' HO_337004.out).2.2))); (case side2 => exact (Kd.R_reads' HO_337004.out).2.1); rintro e w89 ⟨rfl, hb⟩; replace HO_337004 := Aside0.mk (Kd.R_below HO_337004.out hb); replace HO_345003 := Aside0.mk (Kd.R_below HO_345003.out hb); replace BK327 := Aside0.mk (blk_below BK327.out hb); replace BK336 := Aside0.mk (blk_below BK336.out hb); replace BK344 := Aside0.mk (blk_below BK344.out hb); replace HB := Aside0.mk (below_step HB.out hb); (try clear hb); (try clear hb2); (try clear hk); (try clear hi)))
      go_ret
      exact ⟨by (rfl), by repeat ((with_reducible (exact HB.out)))⟩
    ·rw [if_neg c53] at H
     have c53b0 : (t335 == 0) = false := beq_eq_false_iff_ne.mpr c53
     have c53b1 : (t335 != 0) = true := bne_iff_ne.mpr c53
     by_cases c90 : t343 = 0
     ·rw [if_pos c90] at H
      have c90b0 : (t343 == 0) = true := beq_iff_eq.mpr c90
      have c90b1 : (t343 != 0) = false := bne_eq_false_iff_eq.mpr c90
      clear c90
      replace H := Option.bind_eq_some_iff.mp H
      obtain ⟨t351, A910, H⟩ := H
      have A91 := Aside0.mk A910
      clear A910
      by_cases c92 : t351.toList = a1.toList
      ·rw [if_pos c92] at H
       have c92b0 : (t351.toList == a1.toList) = true := beq_iff_eq.mpr c92
       have c92b1 : (t351.toList != a1.toList) = false := bne_eq_false_iff_eq.mpr c92
       clear c92
       replace H := Option.bind_eq_some_iff.mp H
       obtain ⟨t352, A930, H⟩ := H
       have A93 := Aside0.mk A930
       clear A930
       obtain rfl := Option.some.inj H
       have hnb94 := NB344_327.out
       have hnc94 := NB327_344.out
       have hnb95 := NB344_336.out
       have hnc95 := NB336_344.out
       have hcz96_0 : wc.cell? ⟨gb344, 0, none⟩ = some (.int .i64 t337) := (blk_cell BK344.out 0).trans rfl
       have hcz96_1 : wc.cell? ⟨gb344, 1, none⟩ = some (.int .i64 t338) := (blk_cell BK344.out 1).trans rfl
       have hcz96_2 : wc.cell? ⟨gb344, 2, none⟩ = some (.int .i64 t339) := (blk_cell BK344.out 2).trans rfl
       have hcz96_3 : wc.cell? ⟨gb344, 3, none⟩ = some (.slice Ao18 t340.length co18) := (blk_cell BK344.out 3).trans rfl
       have hfz96_0 := blk_frozen BK344.out 0
       have hfz96_1 := blk_frozen BK344.out 1
       have hfz96_2 := blk_frozen BK344.out 2
       have hfz96_3 := blk_frozen BK344.out 3
       go_wp2_with (first | (go_at_call 31; (with_reducible refine (hortatorref7_PutTask.calls kj4 t337 t338 t339 _ _ t340 t351 _ ?side1 ?side2 A91.out).mono ?_); (case side1 => repeat ((exact (Kd.R_reads' HO_345003.out).2.2))); (case side2 => exact (Kd.R_reads' HO_345003.out).2.1); rintro e w97 ⟨rfl, hb⟩; replace HO_337004 := Aside0.mk (Kd.R_below HO_337004.out hb); replace HO_345003 := Aside0.mk (Kd.R_below HO_345003.out hb); replace BK327 := Aside0.mk (blk_below BK327.out hb); replace BK336 := Aside0.mk (blk_below BK336.out hb); replace BK344 := Aside0.mk (blk_below BK344.out hb); replace HB := Aside0.mk (below_step HB.out hb); (try clear hb); (try clear hb2); (try clear hk); (try clear hi); have hnb98 := NB327_336.out; have hnc98 := NB336_327.out; have hcz99_0 : w97.cell? ⟨gb327, 0, none⟩ = some (.int .i64 a0_0) := (blk_cell BK327.out 0).trans rfl; have hcz99_1 : w97.cell? ⟨gb327, 1, none⟩ = some (.int .i64 a0_1) := (blk_cell BK327.out 1).trans rfl; have hcz99_2 : w97.cell? ⟨gb327, 2, none⟩ = some (.int .i64 a0_2) := (blk_cell BK327.out 2).trans rfl; have hcz99_3 : w97.cell? ⟨gb327, 3, none⟩ = some (.int .i64 a0_3) := (blk_cell BK327.out 3).trans rfl; have hcz99_4 : w97.cell? ⟨gb327, 4, none⟩ = some (.slice A0_4 l0_4.length c0_4) := (blk_cell BK327.out 4).trans rfl; have hfz99_0 := blk_frozen BK327.out 0; have hfz99_1 := blk_frozen BK327.out 1; have hfz99_2 := blk_frozen BK327.out 2; have hfz99_3 := blk_frozen BK327.out 3; have hfz99_4 := blk_frozen BK327.out 4; have hcz100_0 : w97.cell? ⟨gb344, 0, none⟩ = some (.int .i64 t337) := (blk_cell BK344.out 0).trans rfl; have hcz100_1 : w97.cell? ⟨gb344, 1, none⟩ = some (.int .i64 t338) := (blk_cell BK344.out 1).trans rfl; have hcz100_2 : w97.cell? ⟨gb344, 2, none⟩ = some (.int .i64 t339) := (blk_cell BK344.out 2).trans rfl; have hcz100_3 : w97.cell? ⟨gb344, 3, none⟩ = some (.slice Ao18 t340.length co18) := (blk_cell BK344.out 3).trans rfl; have hfz100_0 := blk_frozen BK344.out 0; have hfz100_1 := blk_frozen BK344.out 1; have hfz100_2 := blk_frozen BK344.out 2; have hfz100_3 := blk_frozen BK344.out 3) | (go_at_call 23; (with_reducible refine (hortatorref7_Task.calls a0_0 a0_1 a0_2 a0_3 _ _ l0_4 t337 t338 t339 _ _ t340 t352 _ ?side1 ?side2 ?side3 ?side4 A93.out).mono ?_); (case side1 => repeat ((exact (Kd.C_below HR0_4.out HB.out)))); (case side2 => exact HC0_4.out); (case side3 => repeat ((exact (Kd.R_reads' HO_345003.out).2.2))); (case side4 => exact (Kd.R_reads' HO_345003.out).2.1); rintro e w101 ⟨rfl, hb⟩; replace HO_337004 := Aside0.mk (Kd.R_below HO_337004.out hb); replace HO_345003 := Aside0.mk (Kd.R_below HO_345003.out hb); replace BK327 := Aside0.mk (blk_below BK327.out hb); replace BK336 := Aside0.mk (blk_below BK336.out hb); replace BK344 := Aside0.mk (blk_below BK344.out hb); replace HB := Aside0.mk (below_step HB.out hb); (try clear hb); (try clear hb2); (try clear hk); (try clear hi)))
       go_ret
       exact ⟨by (rfl), by repeat ((with_reducible (exact HB.out)))⟩
      ·rw [if_neg c92] at H
       have c92b0 : (t351.toList == a1.toList) = false := beq_eq_false_iff_ne.mpr c92
       have c92b1 : (t351.toList != a1.toList) = true := bne_iff_ne.mpr c92
       obtain rfl := Option.some.inj H
       have hnb102 := NB344_327.out
       have hnc102 := NB327_344.out
       have hnb103 := NB344_336.out
       have hnc103 := NB336_344.out
       have hcz104_0 : wc.cell? ⟨gb344, 0, none⟩ = some (.int .i64 t337) := (blk_cell BK344.out 0).trans rfl
       have hcz104_1 : wc.cell? ⟨gb344, 1, none⟩ = some (.int .i64 t338) := (blk_cell BK344.out 1).trans rfl
       have hcz104_2 : wc.cell? ⟨gb344, 2, none⟩ = some (.int .i64 t339) := (blk_cell BK344.out 2).trans rfl
       have hcz104_3 : wc.cell? ⟨gb344, 3, none⟩ = some (.slice Ao18 t340.length co18) := (blk_cell BK344.out 3).trans rfl
       have hfz104_0 := blk_frozen BK344.out 0
       have hfz104_1 := blk_frozen BK344.out 1
       have hfz104_2 := blk_frozen BK344.out 2
       have hfz104_3 := blk_frozen BK344.out 3
       go_wp2_with ((go_at_call 31; (with_reducible refine (hortatorref7_PutTask.calls kj4 t337 t338 t339 _ _ t340 t351 _ ?side1 ?side2 A91.out).mono ?_); (case side1 => repeat ((exact (Kd.R_reads' HO_345003.out).2.2))); (case side2 => exact (Kd.R_reads' HO_345003.out).2.1); rintro e w105 ⟨rfl, hb⟩; replace HO_337004 := Aside0.mk (Kd.R_below HO_337004.out hb); replace HO_345003 := Aside0.mk (Kd.R_below HO_345003.out hb); replace BK327 := Aside0.mk (blk_below BK327.out hb); replace BK336 := Aside0.mk (blk_below BK336.out hb); replace BK344 := Aside0.mk (blk_below BK344.out hb); replace HB := Aside0.mk (below_step HB.out hb); (try clear hb); (try clear hb2); (try clear hk); (try clear hi)))
       go_ret
       exact ⟨by (rfl), by repeat ((with_reducible (exact HB.out)))⟩
     ·rw [if_neg c90] at H
      have c90b0 : (t343 == 0) = false := beq_eq_false_iff_ne.mpr c90
      have c90b1 : (t343 != 0) = true := bne_iff_ne.mpr c90
      obtain rfl := Option.some.inj H
      go_wp2
      go_ret
      exact ⟨by (rfl), by repeat ((with_reducible (exact HB.out)))⟩

-- NOT PRINTED: function 6 (hortatorlaw7_NoteAny)
end Go.Proofs.YtjjlicancbmjiaaGreatDoor.PNeg
