-- Written by a program of this session (wip/pp.py) over the kit's print, with hand-proved contracts beside it.
import Derived.Test.YtddepomgaeadpaaGreatDoorPBegx0
namespace Go.Proofs.YtddepomgaeadpaaGreatDoor.PBeg
open Go.Shelf Go.Lib Go.RowKit Go.Proofs.YtddepomgaeadpaaGreatDoorW.PrintWords Go.Proofs.YtddepomgaeadpaaGreatDoorW.PrintLast Go.Proofs.YtddepomgaeadpaaGreatDoorW.PrintMore
attribute [local go_sem] max2_int min2_int max_two min_two max_three min_three max_four min_four   -- for this text's walks alone
set_option linter.unusedVariables false
set_option linter.unusedSimpArgs false

/-! ### rule_within: function 56 -/
def rule_within.f (a0 : Int) (a1 : Int) (a2 : Int) : Option (Bool) := if a0 ≥ a1 then (some (decide (a0 ≤ a2))) else (some false)
set_option maxHeartbeats 8000000 in
set_option maxRecDepth 100000 in
theorem rule_within.calls (a0 : Int) (a1 : Int) (a2 : Int) (r : Bool) (w : World) (h : rule_within.f a0 a1 a2 = some r) :
  Calls Tryz.prog 56 #[.int .i64 a0, .int .i64 a1, .int .i64 a2] w fun e w' => e = .returned (.bool r) ∧ Drawn0 w w' := by
 have H : (if a0 ≥ a1 then (some (decide (a0 ≤ a2))) else (some false)) = some r := h
 clear h
 by_cases c4 : a0 ≥ a1
 ·rw [if_pos c4] at H
  have c4b0 : decide (a1 ≤ a0) = true := decide_eq_true c4
  clear c4
  obtain rfl := Option.some.inj H
  go_enter Tryz.func56, Tryz.ntmps56
  go_wp2
  go_ret
  exact ⟨by (rfl), by repeat ((exact Drawn0.refl _))⟩
 ·rw [if_neg c4] at H
  have c4b0 : decide (a1 ≤ a0) = false := decide_eq_false c4
  clear c4
  obtain rfl := Option.some.inj H
  go_enter Tryz.func56, Tryz.ntmps56
  go_wp2
  go_ret
  exact ⟨by (rfl), by repeat ((exact Drawn0.refl _))⟩

/-! ### rule_Load: function 47 -/
def rule_Load.f (a0_0 : Int) (a0_1 : Int) (a0_2 : Int) : Option (Bool) := (rule_within.f a0_0 1 20000).bind fun t102 => (if t102 = true then (if a0_1 ≥ 1 then (if a0_1 ≤ a0_2 then (some (decide (a0_2 ≤ 200))) else (some false)) else (some false)) else (some false))
set_option maxHeartbeats 8000000 in
set_option maxRecDepth 100000 in
theorem rule_Load.calls (a0_0 : Int) (a0_1 : Int) (a0_2 : Int) (r : Bool) (w : World) (h : rule_Load.f a0_0 a0_1 a0_2 = some r) :
  Calls Tryz.prog 47 #[.agg #[.int .i64 a0_0, .int .i64 a0_1, .int .i64 a0_2]] w fun e w' => e = .returned (.bool r) ∧ Below w.heap.size w w' := by
 have hu31 := Tryz.underlying31
 have HB := Aside0.mk (Below.refl w.heap.size w)
 have H : ((rule_within.f a0_0 1 20000).bind fun t102 => (if t102 = true then (if a0_1 ≥ 1 then (if a0_1 ≤ a0_2 then (some (decide (a0_2 ≤ 200))) else (some false)) else (some false)) else (some false))) = some r := h
 clear h
 replace H := Option.bind_eq_some_iff.mp H
 obtain ⟨t102, A20, H⟩ := H
 have A2 := Aside0.mk A20
 clear A20
 by_cases c3 : t102 = true
 ·subst c3
  have H1 : (if a0_1 ≥ 1 then (if a0_1 ≤ a0_2 then (some (decide (a0_2 ≤ 200))) else (some false)) else (some false)) = some r := by rw [if_pos rfl] at H; exact H
  clear H
  have H := H1
  clear H1
  by_cases c4 : a0_1 ≥ 1
  ·rw [if_pos c4] at H
   have c4b0 : decide (1 ≤ a0_1) = true := decide_eq_true c4
   clear c4
   by_cases c5 : a0_1 ≤ a0_2
   ·rw [if_pos c5] at H
    have c5b0 : decide (a0_1 ≤ a0_2) = true := decide_eq_true c5
    clear c5
    obtain rfl := Option.some.inj H
    go_enter Tryz.func47, Tryz.ntmps47
    go_wp2_with (first | ((with_reducible refine gate_dst (N := 1) rfl ?_); refine box_event ?hg (N := 1) ?hd (cs := #[.int .i64 a0_0, .int .i64 a0_1, .int .i64 a0_2]) (t := 31) ?hr ?_; (case hd => rfl); (case hg => rfl); (case hr => (go_simp; done)); intro gb101 hg w6 hbox hb; have BK101 := Aside0.mk (hbox); have GW101 := Aside0.mk ((by rw [hg]; exact below_size HB.out : w.heap.size ≤ gb101)); have GE101 := Aside0.mk ((by rw [hg]; exact below_size HB.out : w.heap.size ≤ gb101)); replace HB := Aside0.mk (below_step HB.out hb); clear hb hbox hg; have hcz7_0 : w6.cell? ⟨gb101, 0, none⟩ = some (.int .i64 a0_0) := (blk_cell BK101.out 0).trans rfl; have hcz7_1 : w6.cell? ⟨gb101, 1, none⟩ = some (.int .i64 a0_1) := (blk_cell BK101.out 1).trans rfl; have hcz7_2 : w6.cell? ⟨gb101, 2, none⟩ = some (.int .i64 a0_2) := (blk_cell BK101.out 2).trans rfl; have hfz7_0 := blk_frozen BK101.out 0; have hfz7_1 := blk_frozen BK101.out 1; have hfz7_2 := blk_frozen BK101.out 2) | ((with_reducible refine gate_callee (f := 56) rfl ?_); refine goesL_ (some 5) rfl rfl Tryz.func56 (by kernel_rfl) rfl #[.int .i64 a0_0, .int .i64 1, .int .i64 20000] rfl (by (try simp only [List.map_toArray, List.map_cons, List.map_nil]); (rfl)) ?_; (with_reducible refine (rule_within.calls a0_0 1 20000 true _ A2.out).mono ?_); rintro e w' ⟨rfl, ⟨nd, rfl⟩⟩; refine ⟨_, rfl, ?_⟩))
    go_ret
    exact ⟨by (rfl), by repeat ((with_reducible first | exact HB.out | apply pw_below_drewN))⟩
   ·rw [if_neg c5] at H
    have c5b0 : decide (a0_1 ≤ a0_2) = false := decide_eq_false c5
    clear c5
    obtain rfl := Option.some.inj H
    go_enter Tryz.func47, Tryz.ntmps47
    go_wp2_with (first | ((with_reducible refine gate_dst (N := 1) rfl ?_); refine box_event ?hg (N := 1) ?hd (cs := #[.int .i64 a0_0, .int .i64 a0_1, .int .i64 a0_2]) (t := 31) ?hr ?_; (case hd => rfl); (case hg => rfl); (case hr => (go_simp; done)); intro gb101 hg w8 hbox hb; have BK101 := Aside0.mk (hbox); have GW101 := Aside0.mk ((by rw [hg]; exact below_size HB.out : w.heap.size ≤ gb101)); have GE101 := Aside0.mk ((by rw [hg]; exact below_size HB.out : w.heap.size ≤ gb101)); replace HB := Aside0.mk (below_step HB.out hb); clear hb hbox hg; have hcz9_0 : w8.cell? ⟨gb101, 0, none⟩ = some (.int .i64 a0_0) := (blk_cell BK101.out 0).trans rfl; have hcz9_1 : w8.cell? ⟨gb101, 1, none⟩ = some (.int .i64 a0_1) := (blk_cell BK101.out 1).trans rfl; have hcz9_2 : w8.cell? ⟨gb101, 2, none⟩ = some (.int .i64 a0_2) := (blk_cell BK101.out 2).trans rfl; have hfz9_0 := blk_frozen BK101.out 0; have hfz9_1 := blk_frozen BK101.out 1; have hfz9_2 := blk_frozen BK101.out 2) | ((with_reducible refine gate_callee (f := 56) rfl ?_); refine goesL_ (some 5) rfl rfl Tryz.func56 (by kernel_rfl) rfl #[.int .i64 a0_0, .int .i64 1, .int .i64 20000] rfl (by (try simp only [List.map_toArray, List.map_cons, List.map_nil]); (rfl)) ?_; (with_reducible refine (rule_within.calls a0_0 1 20000 true _ A2.out).mono ?_); rintro e w' ⟨rfl, ⟨nd, rfl⟩⟩; refine ⟨_, rfl, ?_⟩))
    go_ret
    exact ⟨by (rfl), by repeat ((with_reducible first | exact HB.out | apply pw_below_drewN))⟩
  ·rw [if_neg c4] at H
   have c4b0 : decide (1 ≤ a0_1) = false := decide_eq_false c4
   clear c4
   obtain rfl := Option.some.inj H
   go_enter Tryz.func47, Tryz.ntmps47
   go_wp2_with (first | ((with_reducible refine gate_dst (N := 1) rfl ?_); refine box_event ?hg (N := 1) ?hd (cs := #[.int .i64 a0_0, .int .i64 a0_1, .int .i64 a0_2]) (t := 31) ?hr ?_; (case hd => rfl); (case hg => rfl); (case hr => (go_simp; done)); intro gb101 hg w10 hbox hb; have BK101 := Aside0.mk (hbox); have GW101 := Aside0.mk ((by rw [hg]; exact below_size HB.out : w.heap.size ≤ gb101)); have GE101 := Aside0.mk ((by rw [hg]; exact below_size HB.out : w.heap.size ≤ gb101)); replace HB := Aside0.mk (below_step HB.out hb); clear hb hbox hg; have hcz11_0 : w10.cell? ⟨gb101, 0, none⟩ = some (.int .i64 a0_0) := (blk_cell BK101.out 0).trans rfl; have hcz11_1 : w10.cell? ⟨gb101, 1, none⟩ = some (.int .i64 a0_1) := (blk_cell BK101.out 1).trans rfl; have hcz11_2 : w10.cell? ⟨gb101, 2, none⟩ = some (.int .i64 a0_2) := (blk_cell BK101.out 2).trans rfl; have hfz11_0 := blk_frozen BK101.out 0; have hfz11_1 := blk_frozen BK101.out 1; have hfz11_2 := blk_frozen BK101.out 2) | ((with_reducible refine gate_callee (f := 56) rfl ?_); refine goesL_ (some 5) rfl rfl Tryz.func56 (by kernel_rfl) rfl #[.int .i64 a0_0, .int .i64 1, .int .i64 20000] rfl (by (try simp only [List.map_toArray, List.map_cons, List.map_nil]); (rfl)) ?_; (with_reducible refine (rule_within.calls a0_0 1 20000 true _ A2.out).mono ?_); rintro e w' ⟨rfl, ⟨nd, rfl⟩⟩; refine ⟨_, rfl, ?_⟩))
   go_ret
   exact ⟨by (rfl), by repeat ((with_reducible first | exact HB.out | apply pw_below_drewN))⟩
 ·replace c3 := Bool.eq_false_iff.mpr c3
  subst c3
  have H1 : (some false) = some r := by rw [if_neg (show ¬ (false = true) by decide)] at H; exact H
  clear H
  have H := H1
  clear H1
  obtain rfl := Option.some.inj H
  go_enter Tryz.func47, Tryz.ntmps47
  go_wp2_with (first | ((with_reducible refine gate_dst (N := 1) rfl ?_); refine box_event ?hg (N := 1) ?hd (cs := #[.int .i64 a0_0, .int .i64 a0_1, .int .i64 a0_2]) (t := 31) ?hr ?_; (case hd => rfl); (case hg => rfl); (case hr => (go_simp; done)); intro gb101 hg w12 hbox hb; have BK101 := Aside0.mk (hbox); have GW101 := Aside0.mk ((by rw [hg]; exact below_size HB.out : w.heap.size ≤ gb101)); have GE101 := Aside0.mk ((by rw [hg]; exact below_size HB.out : w.heap.size ≤ gb101)); replace HB := Aside0.mk (below_step HB.out hb); clear hb hbox hg; have hcz13_0 : w12.cell? ⟨gb101, 0, none⟩ = some (.int .i64 a0_0) := (blk_cell BK101.out 0).trans rfl; have hcz13_1 : w12.cell? ⟨gb101, 1, none⟩ = some (.int .i64 a0_1) := (blk_cell BK101.out 1).trans rfl; have hcz13_2 : w12.cell? ⟨gb101, 2, none⟩ = some (.int .i64 a0_2) := (blk_cell BK101.out 2).trans rfl; have hfz13_0 := blk_frozen BK101.out 0; have hfz13_1 := blk_frozen BK101.out 1; have hfz13_2 := blk_frozen BK101.out 2) | ((with_reducible refine gate_callee (f := 56) rfl ?_); refine goesL_ (some 5) rfl rfl Tryz.func56 (by kernel_rfl) rfl #[.int .i64 a0_0, .int .i64 1, .int .i64 20000] rfl (by (try simp only [List.map_toArray, List.map_cons, List.map_nil]); (rfl)) ?_; (with_reducible refine (rule_within.calls a0_0 1 20000 false _ A2.out).mono ?_); rintro e w' ⟨rfl, ⟨nd, rfl⟩⟩; refine ⟨_, rfl, ?_⟩))
  go_ret
  exact ⟨by (rfl), by repeat ((with_reducible first | exact HB.out | apply pw_below_drewN))⟩

/-! ### rule_Config: function 64 -/

def configOk (a b c d : Int) (l : List Int) : Bool := decide (1 ≤ a) && decide (a ≤ 6) && decide (0 ≤ b) && decide (b ≤ 3) && decide (0 ≤ c) && decide (c ≤ 5) && decide (0 ≤ d) && decide (d ≤ 5) && decide (l.length ≤ 6) && l.all fun x => decide (0 ≤ x) && decide (x < b)
theorem CI_plain {w : World} {A : Option Addr} {l : List Int} (h : Kd.C (Kd.int .i64) w A l.length l) (hl : 0 < l.length) : ∃ b o, A = some ⟨b, o, none⟩ ∧ b < w.heap.size ∧ ∀ j, j < l.length → w.cell? ⟨b, o + j, none⟩ = some (.int .i64 l[j]!) := by
 obtain ⟨_, _, h3⟩ := h
 obtain ⟨ad, rfl, hc⟩ := h3 hl
 have key : ∀ j, j < l.length → w.cell? (ad.add j) = some (.int .i64 l[j]!) := by
  intro j hj
  obtain ⟨c, _, hK, hcc⟩ := hc j l[j] (List.getElem?_eq_getElem hj)
  have e : c = [.int .i64 l[j]] := hK
  subst e
  have := hcc 0 _ rfl
  rw [getElem!_pos l j hj]
  simpa [Kd.int, Kd.scalar] using this
 have h0 := key 0 hl
 have hs := World.cell?_spot h0
 have hb := World.block_lt_of_cell? w _ h0
 obtain ⟨b, o, sp⟩ := ad
 simp [Addr.add] at hs hb
 subst hs
 refine ⟨b, o, rfl, hb, fun j hj => ?_⟩
 have := key j hj
 unfold Addr.add at this
 split at this
 ·rename_i e0
  subst e0; simpa using this
 ·exact this
theorem CS_plain {w : World} {A : Option Addr} {l : List ByteArray} (h : Kd.C Kd.string w A l.length l) (hl : 0 < l.length) : ∃ b o, A = some ⟨b, o, none⟩ ∧ b < w.heap.size ∧ ∀ (j : Nat) x, l[j]? = some x → w.cell? ⟨b, o + j, none⟩ = some (.string x) := by
 obtain ⟨_, _, h3⟩ := h
 obtain ⟨ad, rfl, hc⟩ := h3 hl
 have key : ∀ (j : Nat) x, l[j]? = some x → w.cell? (ad.add j) = some (.string x) := by
  intro j x hj
  obtain ⟨c, _, hK, hcc⟩ := hc j x hj
  have e : c = [.string x] := hK
  subst e
  have := hcc 0 _ rfl
  simpa [Kd.string, Kd.scalar] using this
 have h0 := key 0 l[0] (List.getElem?_eq_getElem hl)
 have hs := World.cell?_spot h0
 have hb := World.block_lt_of_cell? w _ h0
 obtain ⟨b, o, sp⟩ := ad
 simp [Addr.add] at hs hb
 subst hs
 refine ⟨b, o, rfl, hb, fun j x hj => ?_⟩
 have := key j x hj
 unfold Addr.add at this
 split at this
 ·rename_i e0
  subst e0; simpa using this
 ·exact this
theorem num_calls (i : Nat) (hi : i < 100) (w : World) : Calls Tryz.prog 69 #[.int .i64 (i : Int)] w fun e w' => e = .returned (.string ⟨(Lib.decDigits i).toArray⟩) ∧ Below w.heap.size w w' := by
 have h := Any.strconv_FormatInt_10_small Tryz.lays173 i hi
 go_enter Tryz.func69, Tryz.ntmps69
 go_wp2_with (go_at_call 81; refine (h _).mono ?_; rintro e w' ⟨rfl, rfl⟩)
 go_ret
 exact ⟨rfl, Below.refl _ _⟩
theorem parse_calls (s : ByteArray) (hmax : s.size ≤ 9223372036854775806) (v : Int) (h : Lib.parseIntB 32 s.data.toList = .ok v) (w : World) : Calls Tryz.prog 73 #[.string s] w fun e w' => e = .returned (.int .i64 v) ∧ Below w.heap.size w w' := by
 have h := Any.strconv_ParseInt_10_at32_ok Tryz.laysC174 s hmax v h
 go_enter Tryz.func73, Tryz.ntmps73
 go_wp2_with (go_at_call 86; refine (h _).mono ?_; rintro e w' ⟨rfl, hw⟩; have hb : Below w.heap.size w w' := (by rcases hw with rfl | ⟨t, rfl⟩; exact Below.refl _ _; exact Lib.bytesWorld_below _ _ _); clear hw)
 go_ret
 exact ⟨rfl, hb⟩
theorem join_calls (A : Option Addr) (c : Nat) (l : List ByteArray) (sep : ByteArray) (w : World) (hr : Kd.C Kd.string w A l.length l) (hc : l.length ≤ c) (hN : l.length ≤ 140737488355328) (hlen : (Lib.join (l.map (·.data.toList)) sep.data.toList).length ≤ 140737488355328) :
  Calls Tryz.prog 70 #[.slice A l.length c, .string sep] w fun e w' => e = .returned (.string ⟨(Lib.join (l.map (·.data.toList)) sep.data.toList).toArray⟩) ∧ Below w.heap.size w w' := by
 by_cases h0 : l.length = 0
 ·obtain rfl : l = [] := List.length_eq_zero_iff.mp h0
  exact (Any.strings_Join_none Tryz.lays156 Tryz.Builder_Extra_156 A c sep w).mono fun e w' ⟨he, hw⟩ => ⟨he, hw ▸ Below.refl _ _⟩
 ·obtain ⟨b, o, rfl, hb, hcell⟩ := CS_plain hr (by omega)
  exact Any.strings_Join Tryz.lays156 Tryz.Builder_Extra_156 b o c l sep w hcell hb hN hc hlen
theorem index_calls (x : ByteArray) (c : UInt8) (w : World) : Calls Tryz.prog 100 #[.string x, .string ⟨#[c]⟩] w fun e w' => e = .returned (.int .i64 (Lib.indexB x ⟨#[c]⟩)) ∧ w' = w := by
 have h := Any.strings_Index_one Tryz.lays143 x c w
 have e : Lib.indexB x ⟨#[c]⟩ = Lib.indexByte x.data.toList c := by
  show Lib.index _ _ = _
  exact Lib.index_one _ _
 rw [e]; exact h
theorem count_calls (s : ByteArray) (c : UInt8) (w : World) : Calls Tryz.prog 99 #[.string s, .string ⟨#[c]⟩] w fun e w' => e = .returned (.int .i64 (Lib.countB s ⟨#[c]⟩)) ∧ w' = w := by
 refine (Any.strings_Count_one Tryz.lays138 s c w).mono fun e w' ⟨he, hw⟩ => ⟨?_, hw⟩
 rw [he]
 show _ = Ending.returned (Value.int .i64 ((Lib.count s.data.toList [c] : Nat) : Int))
 rw [Lib.count_one]
 rfl
theorem R_alloc_strs (w : World) (l : List ByteArray) (hl : l.length ≤ maxLen) : Kd.R Kd.string 9 (w.alloc (.cells (l.map Value.string).toArray 9)) w.heap.size (fun _ => True) (.slice (some ⟨w.heap.size, 0, none⟩) l.length l.length) l := by
 have hA : (w.alloc (.cells (l.map Value.string).toArray 9)).heap[w.heap.size]? = some (.cells (l.map Value.string).toArray 9) := by unfold World.alloc; simp
 refine ⟨fun _ _ => trivial, l.map Value.string, ⟨by simp [Kd.string, Kd.scalar], .inr ⟨_, _, _, rfl, Nat.le_refl _, hA, Nat.le_refl _, hl, by simp [Kd.string, Kd.scalar], ?_⟩⟩, Kd.reps_scalar (enc := Value.string) l⟩
 show (l.map Value.string).take (l.length * 1) = _
 rw [List.take_of_length_le (by simp)]
set_option maxHeartbeats 1000000 in
theorem split_calls (s : ByteArray) (c : UInt8) (w : World) (hs : s.size < 4294967281) :
  Calls Tryz.prog 72 #[.string s, .string ⟨#[c]⟩] w fun e w' => ∃ v0_ : Value, e = .returned (v0_) ∧ Kd.R Kd.string 9 w' w.heap.size (fun _ => True) v0_ (Lib.splitB ⟨#[c]⟩ 0 (Lib.countB s ⟨#[c]⟩) s) ∧ Below w.heap.size w w' := by
 have h1 : 1 ≤ (⟨#[c]⟩ : ByteArray).size := Nat.le_refl _
 have hle := Lib.countB_le ⟨#[c]⟩ h1 s.size s (Nat.le_refl _)
 have hlen := Lib.splitB_all ⟨#[c]⟩ h1 0 _ s rfl
 have k := Any.strings_genSplit_core Tryz.lays221 (by kernel_rfl) s ⟨#[c]⟩ 0 (-1) (Lib.countB s ⟨#[c]⟩ + 1) w hs h1 (Nat.zero_le _)
  (fun x cs hx => index_calls x c _) (count_calls s c w) (by decide) (by decide) (by rw [if_pos (by decide)]; omega)
 rw [Nat.add_sub_cancel, hlen] at k
 have e2 : Lib.cellsOf (Lib.splitB ⟨#[c]⟩ 0 (Lib.countB s ⟨#[c]⟩) s) (Lib.countB s ⟨#[c]⟩ + 1) = ((Lib.splitB ⟨#[c]⟩ 0 (Lib.countB s ⟨#[c]⟩) s).map Value.string).toArray := by rw [← hlen]; exact Lib.cellsOf_full _
 rw [e2] at k
 generalize Lib.splitB ⟨#[c]⟩ 0 (Lib.countB s ⟨#[c]⟩) s = l at k hlen
 rw [← hlen] at k
 have k' : Calls Tryz.prog 85 #[.string s, .string ⟨#[c]⟩, .int .i64 0, .int .i64 (-1)] w fun e w' => e = .returned (.slice (some ⟨w.heap.size, 0, none⟩) l.length l.length) ∧ w' = w.alloc (.cells (l.map Value.string).toArray 9) := k
 clear k
 have hlm : Aside0 (l.length ≤ maxLen) := ⟨by simp only [maxLen]; omega⟩
 clear hlen
 go_enter Tryz.func72, Tryz.ntmps72
 go_wp2_with (go_at_call 85; refine k'.mono ?_; rintro e w' ⟨rfl, hw⟩; rw [hw])
 go_ret
 exact ⟨_, rfl, R_alloc_strs w l hlm.out, (Below.refl _ _).alloc (Nat.le_refl _) _⟩
set_option maxHeartbeats 2000000 in
theorem cutin_calls (s : ByteArray) (c : UInt8) (w : World) (hs : s.size < 4294967281) :
  Calls Tryz.prog 87 #[.string s, .string ⟨#[c]⟩] w fun e w' => e = .returned (.tuple #[.string ⟨(Lib.cut s.data.toList [c]).1.toArray⟩, .string ⟨(Lib.cut s.data.toList [c]).2.1.toArray⟩, .bool (Lib.cut s.data.toList [c]).2.2]) ∧ ∃ n, w' = w.drewN n := by
 have hI : ∀ w, Calls Tryz.prog 103 #[.string s, .string ⟨#[c]⟩] w fun e w' => e = .returned (.int .i64 (Lib.indexB s ⟨#[c]⟩)) ∧ w' = w := fun w => by
  have h := Any.stringslite_Index_one Tryz.lays219 s c w
  have e : Lib.indexB s ⟨#[c]⟩ = Lib.indexByte s.data.toList c := by
   show Lib.index _ _ = _
   exact Lib.index_one _ _
  rw [e]; exact h
 have a0 : (⟨#[c]⟩ : ByteArray).data.toList = [c] := rfl
 rcases Lib.indexB_cases s ⟨#[c]⟩ with hix | ⟨i, hix, hroom⟩
 ·obtain ⟨e1, e2, e3⟩ := Lib.cutB_miss s ⟨#[c]⟩ hix
  rw [a0] at e1 e2 e3
  rw [e1, e2, e3]
  rw [hix] at hI
  clear hix e1 e2 e3
  go_enter Tryz.func87, Tryz.ntmps87
  go_wp2_with (go_at_call 103; refine (hI _).mono ?_; rintro e w' ⟨rfl, rfl⟩)
  go_ret3
  exact ⟨rfl, 0, rfl⟩
 ·obtain ⟨e1, e2, e3⟩ := Lib.cutB_hit s ⟨#[c]⟩ i hix
  rw [a0] at e1 e2 e3
  rw [e1, e2, e3]
  rw [hix] at hI
  have hsz : (⟨#[c]⟩ : ByteArray).size = 1 := rfl
  rw [hsz] at hroom ⊢
  have c1 : (0 : Int) ≤ ↑i := by omega
  have c2 : (↑i : Int) ≤ ↑s.size := by omega
  have c3 : (0 : Int) ≤ ↑i + 1 := by omega
  have c4 : (↑i + 1 : Int) ≤ ↑s.size := by omega
  clear hix e1 e2 e3
  go_enter Tryz.func87, Tryz.ntmps87
  go_wp2_with (go_at_call 103; refine (hI _).mono ?_; rintro e w' ⟨rfl, rfl⟩)
  go_region
  all_goals (go_wp2; go_ret3; exact ⟨rfl, 1, rfl⟩)
theorem cut_calls (s : ByteArray) (c : UInt8) (w : World) (hs : s.size < 4294967281) :
  Calls Tryz.prog 74 #[.string s, .string ⟨#[c]⟩] w fun e w' => e = .returned (.tuple #[.string ⟨(Lib.cut s.data.toList [c]).1.toArray⟩, .string ⟨(Lib.cut s.data.toList [c]).2.1.toArray⟩, .bool (Lib.cut s.data.toList [c]).2.2]) ∧ Below w.heap.size w w' := by
 go_enter Tryz.func74, Tryz.ntmps74
 go_wp2_with (go_at_call 87; refine (cutin_calls s c _ hs).mono ?_; rintro e w' ⟨rfl, n, rfl⟩)
 go_ret3
 exact ⟨rfl, pw_below_drewN (Below.refl _ _) n⟩
set_option maxHeartbeats 4000000 in
theorem pred76 (a b c d : Int) (s : Value) (B : Nat) (w : World) (hB : B < w.heap.size) (hc : w.cell? ⟨B, 1, none⟩ = some (.int .i64 b)) : PredAt Tryz.prog 76 #[.pointer (some ⟨B, 0, none⟩)] (Value.int .i64) (fun x => !(decide (0 ≤ x) && decide (x < b))) w := fun W x hb => by
 unfold FnGives
 have hc' : W.cell? ⟨B, 1, none⟩ = some (.int .i64 b) := (hb.cell (p := ⟨B, 1, none⟩) hB).trans hc
 show Calls Tryz.prog 76 #[.int .i64 x, .pointer (some ⟨B, 0, none⟩)] W _
 go_enter Tryz.func76, Tryz.ntmps76
 go_wp2
 all_goals (go_ret; refine ⟨?_, 0, rfl⟩; first | (simp_all; done) | (simp_all; by_cases h : x < b <;> simp [h] <;> omega))
theorem anyI_calls (g : Nat) (lb : Array Value) (p : Int → Bool) (eg : ∀ args w, (callFunc g args).run Tryz.prog w = .ok (.enter g args) w) (A : Option Addr) (c : Nat) (l : List Int) (w : World) (hp : PredAt Tryz.prog g lb (Value.int .i64) p w) (h : Kd.C (Kd.int .i64) w A l.length l) :
  Calls Tryz.prog 77 #[.slice A l.length c, .func (.func g) #[] lb] w fun e w' => e = .returned (.bool (l.any p)) ∧ Below w.heap.size w w' := by
 by_cases hl : l.length = 0
 ·obtain rfl : l = [] := List.length_eq_zero_iff.mp hl
  exact (AnyE.slices_ContainsFunc_empty Tryz.cfI A c _ w).mono fun e w' ⟨he, hw⟩ => ⟨he, hw ▸ Below.refl _ _⟩
 ·obtain ⟨b, o, rfl, hb, hc⟩ := CI_plain h (by omega)
  have := AnyE.slices_ContainsFunc Tryz.cfI (Value.int .i64) p g lb eg b o l.length c l w hp (Nat.le_refl _) (by have := h.2.1; omega) hc
  rw [List.take_length] at this
  exact this.mono fun e w' ⟨he, q, hw⟩ => ⟨he, hw ▸ pw_below_drewN (Below.refl _ _) q⟩
theorem anyI_not (b : Int) (l : List Int) : (l.any fun x => !(decide (0 ≤ x) && decide (x < b))) = !l.all fun x => decide (0 ≤ x) && decide (x < b) := by
 induction l with
 | nil => rfl
 | cons a t ih => rw [List.any_cons, List.all_cons, ih]; cases (decide (0 ≤ a) && decide (a < b)) <;> cases (t.all fun x => decide (0 ≤ x) && decide (x < b)) <;> rfl
set_option maxHeartbeats 8000000 in
theorem config_calls (a b c d : Int) (A : Option Addr) (cp : Nat) (l : List Int) (w : World) (h : Kd.C (Kd.int .i64) w A l.length l) :
  Calls Tryz.prog 64 #[.agg #[.int .i64 a, .int .i64 b, .int .i64 c, .int .i64 d, .slice A l.length cp]] w fun e w' => e = .returned (.bool (configOk a b c d l)) ∧ Below w.heap.size w w' := by
 have hb1 : Below w.heap.size w (w.alloc (.cells #[.int .i64 a, .int .i64 b, .int .i64 c, .int .i64 d, .slice A l.length cp] 57)) := (Below.refl _ _).alloc (Nat.le_refl _) _
 have e76 : ∀ args w, (callFunc 76 args).run Tryz.prog w = .ok (.enter 76 args) w := enters_of Tryz.func76 (by kernel_rfl) rfl
 have key := anyI_calls 76 #[.pointer (some ⟨w.heap.size, 0, none⟩)] (fun x => !(decide (0 ≤ x) && decide (x < b))) e76 A cp l _
   (pred76 a b c d (.slice A l.length cp) w.heap.size (w.alloc (.cells #[.int .i64 a, .int .i64 b, .int .i64 c, .int .i64 d, .slice A l.length cp] 57)) (by simp) (by simp))
   (Kd.C_below h hb1)
 rw [anyI_not] at key
 have HB1 := Aside0.mk hb1
 clear hb1 h e76
 have hcc : configOk a b c d l = (decide (1 ≤ a) && decide (a ≤ 6) && decide (0 ≤ b) && decide (b ≤ 3) && decide (0 ≤ c) && decide (c ≤ 5) && decide (0 ≤ d) && decide (d ≤ 5) && decide (l.length ≤ 6) && l.all fun x => decide (0 ≤ x) && decide (x < b)) := rfl
 rw [hcc]
 clear hcc
 generalize (l.all fun x => decide (0 ≤ x) && decide (x < b)) = q at key ⊢
 go_enter Tryz.func64, Tryz.ntmps64
 go_wp2_with (first | (go_at_call 77; refine key.mono ?_; rintro e w' ⟨rfl, hb⟩) | go_in)
 all_goals (go_ret; refine ⟨?_, ?_⟩; clear key; ((simp_all; omega)); first | exact HB1.out | exact HB1.out.trans (hb.mono HB1.out.size))
def rule_Config.f (a0_0 : Int) (a0_1 : Int) (a0_2 : Int) (a0_3 : Int) (l0_4 : List Int) : Option (Bool) := some (configOk a0_0 a0_1 a0_2 a0_3 l0_4)
theorem rule_Config.calls (a0_0 : Int) (a0_1 : Int) (a0_2 : Int) (a0_3 : Int) (A0_4 : Option Addr) (c0_4 : Nat) (l0_4 : List Int) (r : Bool) (w : World) (hr0_4 : Kd.C (Kd.int .i64) w A0_4 l0_4.length l0_4) (hc0_4 : l0_4.length ≤ c0_4) (h : rule_Config.f a0_0 a0_1 a0_2 a0_3 l0_4 = some r) :
  Calls Tryz.prog 64 #[.agg #[.int .i64 a0_0, .int .i64 a0_1, .int .i64 a0_2, .int .i64 a0_3, .slice A0_4 l0_4.length c0_4]] w fun e w' => e = .returned (.bool r) ∧ Below w.heap.size w w' := by
 injection h with h
 subst h
 exact config_calls _ _ _ _ _ _ _ w hr0_4


/-! ### note_num: function 69 -/

def note_num.f (a0 : Int) : Option (ByteArray) := if 0 ≤ a0 then (if a0 < 100 then some ⟨(Lib.decDigits a0.toNat).toArray⟩ else none) else none
theorem note_num.calls (a0 : Int) (r : ByteArray) (w : World) (h : note_num.f a0 = some r) :
  Calls Tryz.prog 69 #[.int .i64 a0] w fun e w' => e = .returned (.string r) ∧ Below w.heap.size w w' := by
 unfold note_num.f at h
 split at h
 ·split at h
  ·obtain ⟨i, rfl⟩ : ∃ i : Nat, a0 = (i : Int) := ⟨a0.toNat, by omega⟩
   injection h with h
   subst h
   exact num_calls i (by omega) w
  ·cases h
 ·cases h


/-! ### strings_Join: function 70 -/

def strings_Join.f (l0 : List ByteArray) (a1 : ByteArray) : Option (ByteArray) := if l0.length ≤ 140737488355328 then (if (Lib.join (l0.map (·.data.toList)) a1.data.toList).length ≤ 140737488355328 then some ⟨(Lib.join (l0.map (·.data.toList)) a1.data.toList).toArray⟩ else none) else none
theorem strings_Join.calls (A0 : Option Addr) (c0 : Nat) (l0 : List ByteArray) (a1 : ByteArray) (r : ByteArray) (w : World) (hr0 : Kd.C Kd.string w A0 l0.length l0) (hc0 : l0.length ≤ c0) (h : strings_Join.f l0 a1 = some r) :
  Calls Tryz.prog 70 #[.slice A0 l0.length c0, .string a1] w fun e w' => e = .returned (.string r) ∧ Below w.heap.size w w' := by
 unfold strings_Join.f at h
 split at h
 ·split at h
  ·injection h with h
   subst h
   exact join_calls A0 c0 l0 a1 w hr0 hc0 (by assumption) (by assumption)
  ·cases h
 ·cases h


end Go.Proofs.YtddepomgaeadpaaGreatDoor.PBeg
