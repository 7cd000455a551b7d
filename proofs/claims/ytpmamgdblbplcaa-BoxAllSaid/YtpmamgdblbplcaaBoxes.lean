/- Boxes of numbers and of texts: all their functions. -/
import Derived.Test.YtpmamgdblbplcaaHInt
import Derived.Conc.LoneSelect
import Derived.Laws.Rows

/-! YtpmamgdblbplcaaBox -/
namespace Go.Proofs.Ytpmamgdblbplcaa.Bx
open Go.Conc Go.RowKit
open Go.Proofs.Ytpmamgdblbplcaa.Hp (blk_set heap_drew blk_cell blk_frozen below_drewN)
set_option linter.unusedVariables false
set_option linter.unusedSimpArgs false

structure BRep (w : World) (p c cap s r : Nat) (l : List Int) : Prop where
  top : w.heap[p]? = some (.cells #[.chan (some c)] 115 (0, 0))
  row : w.heap[c]? = some (.chan cap (l.map (Value.int .i64)).toArray false s r false)
  ne : p ≠ c
  few : cap ≤ 100
  le : l.length ≤ cap

theorem way_rep {w : World} {p c cap s r : Nat} {l : List Int} (h : BRep w p c cap s r l) : Calls Try.prog 93 #[.pointer (some ⟨p, 0, none⟩)] w fun e w' => e = .returned (.chan (some c)) ∧ w' = w := by
  have c0 := (blk_cell h.top 0).trans (rfl : _ = some (Value.chan (some c)))
  clear h
  go_enter Try.func93, Try.ntmps93
  go_wp2
  go_ret
  exact ⟨rfl, rfl⟩
theorem nil_way (w : World) : Calls Try.prog 93 #[.pointer none] w fun e w' => e = .returned (.chan none) ∧ w' = w := by
  go_enter Try.func93, Try.ntmps93
  go_wp2
  go_ret
  exact ⟨rfl, rfl⟩

set_option maxRecDepth 100000 in
theorem put_room {w : World} {p c cap s r : Nat} {l : List Int} (h : BRep w p c cap s r l) (v : Int) (hr : l.length < cap) :
    Calls Try.prog 37 #[.pointer (some ⟨p, 0, none⟩), .int .i64 v] w fun e w' => e = .returned (.bool true) ∧ w' = w.setChan c cap ((l.map (Value.int .i64)).toArray.push (.int .i64 v)) false (s + 1) r false := by
  have c0 := (blk_cell h.top 0).trans (rfl : _ = some (Value.chan (some c)))
  refine calls_of_loneTo fun cs => ?_
  have e : Frame.enter Try.prog 37 #[.pointer (some ⟨p, 0, none⟩), .int .i64 v] .normal = (base 37).at ⟨#[.pointer (some ⟨p, 0, none⟩), .int .i64 v, undef, undef, undef, undef, undef, undef, undef, undef, undef], []⟩ [.code (Try.f37.body.getD .skip)] := by
    simp [Frame.enter, Frame.at, Try.func37, base, Try.f37]
  rw [e]
  refine LoneTo.goes (n := 60) ?_
  simp only [Try.f37, Option.getD_some]
  s_c stepG_seq
  s_reg
  s_op
  s_c stepG_region_end
  s_c stepG_seq
  s_c stepG_seq
  s_reg
  s_op
  s_call Try.func93 (by kernel_rfl) Try.f93
  s_c stepG_seq
  s_reg
  s_op
  s_c stepG_region_end
  s_c stepG_seq
  s_c stepG_seq
  s_reg
  s_op
  s_op
  s_c stepG_region_end
  s_cond false
  s_c stepG_skip
  s_c stepG_seq
  s_reg
  s_op
  s_op
  s_op
  s_op
  s_op
  s_c stepG_region_end
  s_c stepG_ret'
  s_leave1 Try.func93
  s_c stepG_region_end
  s_reg
  s_op
  s_c stepG_region_end
  s_c stepG_seq
  s_reg
  s_stop
  refine LoneTo.step (step_lone_select_send_room (c := c) (v := .int .i64 v) (z' := .int .i64 0) (cap := cap) (buf := (l.map (Value.int .i64)).toArray) (s := s) (r := r) (tm := false)
    (stepG_comm (cases := #[scase c (.int .i64 v) (.int .i64 0)]) (blocking := false) (shape := .select) (w' := w) rfl rfl (by decide) (by simp [go_sem, execOp, scase, rcase, scaseNil, rcaseNil, Act.eval])) h.row (by simpa using hr)) ?_
  rw [Frame.finish_at]
  walk_nrm
  refine LoneTo.goes (n := 20) ?_
  s_op
  s_op
  s_c stepG_region_end
  s_c stepG_block
  s_cond true
  s_c stepG_seq
  s_reg
  s_op
  s_c stepG_region_end
  s_c stepG_ret'
  s_stop
  exact LoneTo.done ⟨.returned (.bool true), _, rfl, ⟨rfl, rfl⟩, rfl, rfl, rfl, rfl, _, Try.func37, by simp [results, Try.f37, Frame.at]⟩

set_option maxRecDepth 100000 in
theorem put_full {w : World} {p c cap s r : Nat} {l : List Int} (h : BRep w p c cap s r l) (v : Int) (hr : ¬ l.length < cap) :
    Calls Try.prog 37 #[.pointer (some ⟨p, 0, none⟩), .int .i64 v] w fun e w' => e = .returned (.bool false) ∧ w' = w := by
  have c0 := (blk_cell h.top 0).trans (rfl : _ = some (Value.chan (some c)))
  refine calls_of_loneTo fun cs => ?_
  have e : Frame.enter Try.prog 37 #[.pointer (some ⟨p, 0, none⟩), .int .i64 v] .normal = (base 37).at ⟨#[.pointer (some ⟨p, 0, none⟩), .int .i64 v, undef, undef, undef, undef, undef, undef, undef, undef, undef], []⟩ [.code (Try.f37.body.getD .skip)] := by
    simp [Frame.enter, Frame.at, Try.func37, base, Try.f37]
  rw [e]
  refine LoneTo.goes (n := 60) ?_
  simp only [Try.f37, Option.getD_some]
  s_c stepG_seq
  s_reg
  s_op
  s_c stepG_region_end
  s_c stepG_seq
  s_c stepG_seq
  s_reg
  s_op
  s_call Try.func93 (by kernel_rfl) Try.f93
  s_c stepG_seq
  s_reg
  s_op
  s_c stepG_region_end
  s_c stepG_seq
  s_c stepG_seq
  s_reg
  s_op
  s_op
  s_c stepG_region_end
  s_cond false
  s_c stepG_skip
  s_c stepG_seq
  s_reg
  s_op
  s_op
  s_op
  s_op
  s_op
  s_c stepG_region_end
  s_c stepG_ret'
  s_leave1 Try.func93
  s_c stepG_region_end
  s_reg
  s_op
  s_c stepG_region_end
  s_c stepG_seq
  s_reg
  s_stop
  refine LoneTo.step (step_lone_select_send_full (c := c) (v := .int .i64 v) (z' := .int .i64 0) (cap := cap) (buf := (l.map (Value.int .i64)).toArray) (s := s) (r := r) (tm := false)
    (stepG_comm (cases := #[scase c (.int .i64 v) (.int .i64 0)]) (blocking := false) (shape := .select) (w' := w) rfl rfl (by decide) (by simp [go_sem, execOp, scase, rcase, scaseNil, rcaseNil, Act.eval])) h.row (by simp; omega)) ?_
  rw [Frame.finish_at]
  walk_nrm
  refine LoneTo.goes (n := 20) ?_
  s_op
  s_op
  s_c stepG_region_end
  s_c stepG_block
  s_cond false
  s_c stepG_seq
  s_reg
  s_op
  s_c stepG_region_end
  s_c stepG_ret'
  s_stop
  exact LoneTo.done ⟨.returned (.bool false), _, rfl, ⟨rfl, rfl⟩, rfl, rfl, rfl, rfl, _, Try.func37, by simp [results, Try.f37, Frame.at]⟩

set_option maxRecDepth 100000 in
theorem nil_put (v : Int) (w : World) :
    Calls Try.prog 37 #[.pointer none, .int .i64 v] w fun e w' => e = .returned (.bool false) ∧ w' = w := by
  refine calls_of_loneTo fun cs => ?_
  have e : Frame.enter Try.prog 37 #[.pointer none, .int .i64 v] .normal = (base 37).at ⟨#[.pointer none, .int .i64 v, undef, undef, undef, undef, undef, undef, undef, undef, undef], []⟩ [.code (Try.f37.body.getD .skip)] := by
    simp [Frame.enter, Frame.at, Try.func37, base, Try.f37]
  rw [e]
  refine LoneTo.goes (n := 60) ?_
  simp only [Try.f37, Option.getD_some]
  s_c stepG_seq
  s_reg
  s_op
  s_c stepG_region_end
  s_c stepG_seq
  s_c stepG_seq
  s_reg
  s_op
  s_call Try.func93 (by kernel_rfl) Try.f93
  s_c stepG_seq
  s_reg
  s_op
  s_c stepG_region_end
  s_c stepG_seq
  s_c stepG_seq
  s_reg
  s_op
  s_op
  s_c stepG_region_end
  s_cond true
  s_c stepG_seq
  s_reg
  s_op
  s_c stepG_region_end
  s_c stepG_ret'
  s_leave1 Try.func93
  s_c stepG_region_end
  s_reg
  s_op
  s_c stepG_region_end
  s_c stepG_seq
  s_reg
  s_stop
  refine LoneTo.step (step_lone_select_send_nil (v := .int .i64 v) (z' := .int .i64 0)
    (stepG_comm (cases := #[scaseNil (.int .i64 v) (.int .i64 0)]) (blocking := false) (shape := .select) (w' := w) rfl rfl (by decide) (by simp [go_sem, execOp, scase, rcase, scaseNil, rcaseNil, Act.eval]))) ?_
  rw [Frame.finish_at]
  walk_nrm
  refine LoneTo.goes (n := 20) ?_
  s_op
  s_op
  s_c stepG_region_end
  s_c stepG_block
  s_cond false
  s_c stepG_seq
  s_reg
  s_op
  s_c stepG_region_end
  s_c stepG_ret'
  s_stop
  exact LoneTo.done ⟨.returned (.bool false), _, rfl, ⟨rfl, rfl⟩, rfl, rfl, rfl, rfl, _, Try.func37, by simp [results, Try.f37, Frame.at]⟩

set_option maxRecDepth 100000 in
theorem take_some {w : World} {p c cap s r : Nat} {v : Int} {l : List Int} (h : BRep w p c cap s r (v :: l)) :
    Calls Try.prog 38 #[.pointer (some ⟨p, 0, none⟩)] w fun e w' => e = .returned (.tuple #[.int .i64 v, .bool true]) ∧ w' = w.setChan c cap (((v :: l).map (Value.int .i64)).toArray.extract 1 ((v :: l).map (Value.int .i64)).toArray.size) false s (r + 1) false := by
  have c0 := (blk_cell h.top 0).trans (rfl : _ = some (Value.chan (some c)))
  refine calls_of_loneTo fun cs => ?_
  have e : Frame.enter Try.prog 38 #[.pointer (some ⟨p, 0, none⟩)] .normal = (base 38).at ⟨#[.pointer (some ⟨p, 0, none⟩), undef, undef, undef, undef, undef, undef, undef, undef, undef, undef, undef, undef, undef], []⟩ [.code (Try.f38.body.getD .skip)] := by
    simp [Frame.enter, Frame.at, Try.func38, base, Try.f38]
  rw [e]
  refine LoneTo.goes (n := 60) ?_
  simp only [Try.f38, Option.getD_some]
  s_c stepG_seq
  s_reg
  s_op
  s_op
  s_c stepG_region_end
  s_c stepG_seq
  s_reg
  s_op
  s_c stepG_region_end
  s_c stepG_seq
  s_reg
  s_op
  s_call Try.func93 (by kernel_rfl) Try.f93
  s_c stepG_seq
  s_reg
  s_op
  s_c stepG_region_end
  s_c stepG_seq
  s_c stepG_seq
  s_reg
  s_op
  s_op
  s_c stepG_region_end
  s_cond false
  s_c stepG_skip
  s_c stepG_seq
  s_reg
  s_op
  s_op
  s_op
  s_op
  s_op
  s_c stepG_region_end
  s_c stepG_ret'
  s_leave1 Try.func93
  s_c stepG_region_end
  s_c stepG_seq
  s_reg
  s_stop
  refine LoneTo.step (step_lone_select_recv_buf (c := c) (z := .int .i64 0) (cap := cap) (buf := ((v :: l).map (Value.int .i64)).toArray) (closed := false) (s := s) (r := r) (tm := false)
    (stepG_comm (cases := #[rcase c (.int .i64 0)]) (blocking := false) (shape := .select) (w' := w) rfl rfl (by decide) (by simp [go_sem, execOp, scase, rcase, scaseNil, rcaseNil, Act.eval])) h.row (by simp)) ?_
  rw [Frame.finish_at]
  walk_nrm
  refine LoneTo.goes (n := 30) ?_
  s_op
  s_op
  s_c stepG_region_end
  s_c stepG_block
  s_cond true
  s_c stepG_seq
  s_reg
  s_op
  s_op
  s_c stepG_region_end
  s_c stepG_seq
  s_reg
  s_op
  s_op
  s_op
  s_c stepG_region_end
  s_c stepG_ret'
  s_stop
  exact LoneTo.done ⟨.returned (.tuple #[.int .i64 v, .bool true]), _, rfl, ⟨rfl, by simp⟩, rfl, rfl, rfl, rfl, _, Try.func38, by simp [results, Try.f38, Frame.at]⟩

set_option maxRecDepth 100000 in
theorem take_none {w : World} {p c cap s r : Nat} (h : BRep w p c cap s r []) :
    Calls Try.prog 38 #[.pointer (some ⟨p, 0, none⟩)] w fun e w' => e = .returned (.tuple #[.int .i64 0, .bool false]) ∧ w' = w := by
  have c0 := (blk_cell h.top 0).trans (rfl : _ = some (Value.chan (some c)))
  refine calls_of_loneTo fun cs => ?_
  have e : Frame.enter Try.prog 38 #[.pointer (some ⟨p, 0, none⟩)] .normal = (base 38).at ⟨#[.pointer (some ⟨p, 0, none⟩), undef, undef, undef, undef, undef, undef, undef, undef, undef, undef, undef, undef, undef], []⟩ [.code (Try.f38.body.getD .skip)] := by
    simp [Frame.enter, Frame.at, Try.func38, base, Try.f38]
  rw [e]
  refine LoneTo.goes (n := 60) ?_
  simp only [Try.f38, Option.getD_some]
  s_c stepG_seq
  s_reg
  s_op
  s_op
  s_c stepG_region_end
  s_c stepG_seq
  s_reg
  s_op
  s_c stepG_region_end
  s_c stepG_seq
  s_reg
  s_op
  s_call Try.func93 (by kernel_rfl) Try.f93
  s_c stepG_seq
  s_reg
  s_op
  s_c stepG_region_end
  s_c stepG_seq
  s_c stepG_seq
  s_reg
  s_op
  s_op
  s_c stepG_region_end
  s_cond false
  s_c stepG_skip
  s_c stepG_seq
  s_reg
  s_op
  s_op
  s_op
  s_op
  s_op
  s_c stepG_region_end
  s_c stepG_ret'
  s_leave1 Try.func93
  s_c stepG_region_end
  s_c stepG_seq
  s_reg
  s_stop
  refine LoneTo.step (step_lone_select_default (c := c) (z := .int .i64 0) (cap := cap) (s := s) (r := r) (tm := false)
    (stepG_comm (cases := #[rcase c (.int .i64 0)]) (blocking := false) (shape := .select) (w' := w) rfl rfl (by decide) (by simp [go_sem, execOp, scase, rcase, scaseNil, rcaseNil, Act.eval])) h.row) ?_
  rw [Frame.finish_at]
  walk_nrm
  refine LoneTo.goes (n := 30) ?_
  s_op
  s_op
  s_c stepG_region_end
  s_c stepG_block
  s_cond false
  s_c stepG_seq
  s_reg
  s_op
  s_op
  s_op
  s_c stepG_region_end
  s_c stepG_ret'
  s_stop
  exact LoneTo.done ⟨.returned (.tuple #[.int .i64 0, .bool false]), _, rfl, ⟨rfl, rfl⟩, rfl, rfl, rfl, rfl, _, Try.func38, by simp [results, Try.f38, Frame.at]⟩

set_option maxRecDepth 100000 in
theorem nil_take (w : World) :
    Calls Try.prog 38 #[.pointer none] w fun e w' => e = .returned (.tuple #[.int .i64 0, .bool false]) ∧ w' = w := by
  refine calls_of_loneTo fun cs => ?_
  have e : Frame.enter Try.prog 38 #[.pointer none] .normal = (base 38).at ⟨#[.pointer none, undef, undef, undef, undef, undef, undef, undef, undef, undef, undef, undef, undef, undef], []⟩ [.code (Try.f38.body.getD .skip)] := by
    simp [Frame.enter, Frame.at, Try.func38, base, Try.f38]
  rw [e]
  refine LoneTo.goes (n := 60) ?_
  simp only [Try.f38, Option.getD_some]
  s_c stepG_seq
  s_reg
  s_op
  s_op
  s_c stepG_region_end
  s_c stepG_seq
  s_reg
  s_op
  s_c stepG_region_end
  s_c stepG_seq
  s_reg
  s_op
  s_call Try.func93 (by kernel_rfl) Try.f93
  s_c stepG_seq
  s_reg
  s_op
  s_c stepG_region_end
  s_c stepG_seq
  s_c stepG_seq
  s_reg
  s_op
  s_op
  s_c stepG_region_end
  s_cond true
  s_c stepG_seq
  s_reg
  s_op
  s_c stepG_region_end
  s_c stepG_ret'
  s_leave1 Try.func93
  s_c stepG_region_end
  s_c stepG_seq
  s_reg
  s_stop
  refine LoneTo.step (step_lone_select_recv_nil (z := .int .i64 0)
    (stepG_comm (cases := #[rcaseNil (.int .i64 0)]) (blocking := false) (shape := .select) (w' := w) rfl rfl (by decide) (by simp [go_sem, execOp, scase, rcase, scaseNil, rcaseNil, Act.eval]))) ?_
  rw [Frame.finish_at]
  walk_nrm
  refine LoneTo.goes (n := 30) ?_
  s_op
  s_op
  s_c stepG_region_end
  s_c stepG_block
  s_cond false
  s_c stepG_seq
  s_reg
  s_op
  s_op
  s_op
  s_c stepG_region_end
  s_c stepG_ret'
  s_stop
  exact LoneTo.done ⟨.returned (.tuple #[.int .i64 0, .bool false]), _, rfl, ⟨rfl, rfl⟩, rfl, rfl, rfl, rfl, _, Try.func38, by simp [results, Try.f38, Frame.at]⟩

theorem touch_chan (w : World) (F : Nat → Prop) (c : Nat) (hF : F c) (cap : Nat) (buf : Array Value) (cl : Bool) (s r : Nat) (tm : Bool) : Hp.Touch F w (w.setChan c cap buf cl s r tm) :=
  ⟨rfl, rfl, rfl, by simp [World.setChan], fun k hk hS => by simp only [World.setChan]; rw [Array.getElem?_setIfInBounds_ne (by rintro rfl; exact hS hF)]⟩
theorem BRep.put {w : World} {p c cap s r : Nat} {l : List Int} (h : BRep w p c cap s r l) (v : Int) (hr : l.length < cap) : BRep (w.setChan c cap ((l.map (Value.int .i64)).toArray.push (.int .i64 v)) false (s + 1) r false) p c cap (s + 1) r (l ++ [v]) := by
  refine ⟨?_, ?_, h.ne, h.few, by simp; omega⟩
  · simp only [World.setChan]; rw [Array.getElem?_setIfInBounds_ne h.ne.symm]; exact h.top
  · rw [heap_setChan _ _ _ _ _ _ _ _ (Array.getElem?_eq_some_iff.1 h.row).1]; simp
theorem BRep.take {w : World} {p c cap s r : Nat} {v : Int} {l : List Int} (h : BRep w p c cap s r (v :: l)) : BRep (w.setChan c cap (((v :: l).map (Value.int .i64)).toArray.extract 1 ((v :: l).map (Value.int .i64)).toArray.size) false s (r + 1) false) p c cap s (r + 1) l := by
  refine ⟨?_, ?_, h.ne, h.few, by have := h.le; simp at this; omega⟩
  · simp only [World.setChan]; rw [Array.getElem?_setIfInBounds_ne h.ne.symm]; exact h.top
  · rw [heap_setChan _ _ _ _ _ _ _ _ (Array.getElem?_eq_some_iff.1 h.row).1]; simp; exact List.take_of_length_le (by simp)

/-! ### As an object -/
def BObj (w : World) (F : Nat → Prop) (p cap : Nat) (l : List Int) : Prop := ∃ c s r, BRep w p c cap s r l ∧ ∀ k, F k ↔ (k = p ∨ k = c)
variable {w : World} {F : Nat → Prop} {p cap : Nat} {l : List Int}
theorem BObj.lt (h : BObj w F p cap l) {k : Nat} (hk : F k) : k < w.heap.size := by
  obtain ⟨c, s, r, hr, hF⟩ := h
  rcases (hF k).1 hk with rfl | rfl
  · exact (Array.getElem?_eq_some_iff.1 hr.top).1
  · exact (Array.getElem?_eq_some_iff.1 hr.row).1
theorem BObj.move {w' : World} (h : BObj w F p cap l) (hb : ∀ k, F k → w'.heap[k]? = w.heap[k]?) : BObj w' F p cap l := by
  obtain ⟨c, s, r, hr, hF⟩ := h
  exact ⟨c, s, r, ⟨(hb p ((hF p).2 (Or.inl rfl))).trans hr.top, (hb c ((hF c).2 (Or.inr rfl))).trans hr.row, hr.ne, hr.few, hr.le⟩, hF⟩
theorem BObj.below {w' : World} (h : BObj w F p cap l) (hb : Below w.heap.size w w') : BObj w' F p cap l := h.move (fun k hk => hb.block k (h.lt hk))
theorem BObj.touch {w' : World} {G : Nat → Prop} (h : BObj w F p cap l) (ht : Hp.Touch G w w') (hd : ∀ k, F k → ¬ G k) : BObj w' F p cap l := h.move (fun k hk => ht.block k (h.lt hk) (hd k hk))
theorem BObj.le (h : BObj w F p cap l) : l.length ≤ cap ∧ cap ≤ 100 := by
  obtain ⟨c, s, r, hr, hF⟩ := h
  exact ⟨hr.le, hr.few⟩
theorem obj_put (h : BObj w F p cap l) (v : Int) (hr : l.length < cap) : Calls Try.prog 37 #[.pointer (some ⟨p, 0, none⟩), .int .i64 v] w fun e w' => e = .returned (.bool true) ∧ BObj w' F p cap (l ++ [v]) ∧ Hp.Touch F w w' := by
  obtain ⟨c, s, r, hb, hF⟩ := h
  refine (put_room hb v hr).mono ?_
  rintro e w' ⟨rfl, rfl⟩
  exact ⟨rfl, ⟨c, s + 1, r, hb.put v hr, hF⟩, touch_chan _ _ _ ((hF c).2 (Or.inr rfl)) _ _ _ _ _ _⟩
theorem obj_full (h : BObj w F p cap l) (v : Int) (hr : ¬ l.length < cap) : Calls Try.prog 37 #[.pointer (some ⟨p, 0, none⟩), .int .i64 v] w fun e w' => e = .returned (.bool false) ∧ w' = w := by
  obtain ⟨c, s, r, hb, hF⟩ := h
  exact put_full hb v hr
theorem obj_take {v : Int} (h : BObj w F p cap (v :: l)) : Calls Try.prog 38 #[.pointer (some ⟨p, 0, none⟩)] w fun e w' => e = .returned (.tuple #[.int .i64 v, .bool true]) ∧ BObj w' F p cap l ∧ Hp.Touch F w w' := by
  obtain ⟨c, s, r, hb, hF⟩ := h
  refine (take_some hb).mono ?_
  rintro e w' ⟨rfl, rfl⟩
  exact ⟨rfl, ⟨c, s, r + 1, hb.take, hF⟩, touch_chan _ _ _ ((hF c).2 (Or.inr rfl)) _ _ _ _ _ _⟩
theorem obj_take_no (h : BObj w F p cap []) : Calls Try.prog 38 #[.pointer (some ⟨p, 0, none⟩)] w fun e w' => e = .returned (.tuple #[.int .i64 0, .bool false]) ∧ w' = w := by
  obtain ⟨c, s, r, hb, hF⟩ := h
  exact take_none hb
set_option maxRecDepth 100000 in
theorem obj_len (h : BObj w F p cap l) : Calls Try.prog 40 #[.pointer (some ⟨p, 0, none⟩)] w fun e w' => e = .returned (.int .i64 l.length) ∧ w' = w := by
  obtain ⟨c, s, r, h, hF⟩ := h
  have HW := way_rep h
  have hl : (Builtin.len_ #[113] 3 #[.chan (some c)]).run Try.prog w = .ok (.int .i64 l.length) w := by
    have hg : (Go.getObj c).run Try.prog w = .ok (.chan cap (l.map (Value.int .i64)).toArray false s r false) w := by simp [Go.getObj, Sem.run, h.row]
    simp [Builtin.len_, run_underlying Try.underlying113, hg, goInt]
  clear h hF
  go_enter Try.func40, Try.ntmps40
  go_wp2_with (go_at_call 93; refine HW.mono ?_; rintro e w1 ⟨rfl, rfl⟩)
  go_ret
  exact ⟨rfl, rfl⟩
set_option maxRecDepth 100000 in
theorem nil_len (w : World) : Calls Try.prog 40 #[.pointer none] w fun e w' => e = .returned (.int .i64 0) ∧ w' = w := by
  have HW := nil_way w
  have hl : (Builtin.len_ #[113] 3 #[.chan none]).run Try.prog w = .ok (.int .i64 0) w := by
    simp [Builtin.len_, run_underlying Try.underlying113, goInt]
  go_enter Try.func40, Try.ntmps40
  go_wp2_with (go_at_call 93; refine HW.mono ?_; rintro e w1 ⟨rfl, rfl⟩)
  go_ret
  exact ⟨rfl, rfl⟩
/-- Either, by what Take gives of both -/
theorem either_first {a c : Value} {v : Int} {Q : World → Prop} {w : World} (h : Calls Try.prog 38 #[a] w fun e w' => e = .returned (.tuple #[.int .i64 v, .bool true]) ∧ Q w') :
    Calls Try.prog 39 #[a, c] w fun e w' => e = .returned (.tuple #[.int .i64 v, .int .i64 1]) ∧ Q w' := by
  go_enter Try.func39, Try.ntmps39
  go_wp2_with (go_at_call 38; refine h.mono ?_; rintro e w1 ⟨rfl, hq⟩)
  go_ret2
  exact ⟨rfl, hq⟩
theorem either_second {a c : Value} {v : Int} {Q : World → Prop} {w : World} (ha : Calls Try.prog 38 #[a] w fun e w' => e = .returned (.tuple #[.int .i64 0, .bool false]) ∧ w' = w) (h : Calls Try.prog 38 #[c] w fun e w' => e = .returned (.tuple #[.int .i64 v, .bool true]) ∧ Q w') :
    Calls Try.prog 39 #[a, c] w fun e w' => e = .returned (.tuple #[.int .i64 v, .int .i64 2]) ∧ Q w' := by
  go_enter Try.func39, Try.ntmps39
  go_wp2_with (first
    | (go_at_call 38; refine ha.mono ?_; rintro e w1 ⟨rfl, rfl⟩; clear ha)
    | (go_at_call 38; refine h.mono ?_; rintro e w1 ⟨rfl, hq⟩))
  go_ret2
  exact ⟨rfl, hq⟩
theorem either_none {a c : Value} {w : World} (ha : Calls Try.prog 38 #[a] w fun e w' => e = .returned (.tuple #[.int .i64 0, .bool false]) ∧ w' = w) (h : Calls Try.prog 38 #[c] w fun e w' => e = .returned (.tuple #[.int .i64 0, .bool false]) ∧ w' = w) :
    Calls Try.prog 39 #[a, c] w fun e w' => e = .returned (.tuple #[.int .i64 0, .int .i64 0]) ∧ w' = w := by
  go_enter Try.func39, Try.ntmps39
  go_wp2_with (first
    | (go_at_call 38; refine ha.mono ?_; rintro e w1 ⟨rfl, rfl⟩; clear ha)
    | (go_at_call 38; refine h.mono ?_; rintro e w1 ⟨rfl, rfl⟩; clear h))
  go_ret2
  exact ⟨rfl, rfl⟩
theorem bytes_el : ∃ i, Try.prog.info? 3 = some i ∧ i.bytes = 8 := by
  have h : (Try.prog.info? 3).map (·.bytes) = some 8 := by kernel_rfl
  obtain ⟨i, hi, hb⟩ := Option.map_eq_some_iff.1 h
  exact ⟨i, hi, hb⟩
theorem mk (w : World) (n : Nat) (hn : n ≤ 100) : (Instr.makeChan 113 (.int .i64 (n : Int))).run Try.prog w = .ok (.chan (some w.heap.size)) (w.alloc (.chan n #[] false 0 0 false)) := by
  obtain ⟨i, hi, hb⟩ := bytes_el
  exact run_makeChan (P := Try.prog) (w := w) Try.underlying113 hi .i64 n (by omega) (by rw [hb]; omega)
def NewP (w : World) (n : Nat) (e : Ending) (w' : World) : Prop := e = .returned (.pointer (some ⟨w.heap.size + 1, 0, none⟩)) ∧ w' = (w.alloc (.chan n #[] false 0 0 false)).alloc (.cells #[.chan (some w.heap.size)] 115)
set_option maxRecDepth 100000 in
theorem new_walk (room : Int) (w : World) (n : Nat) (hn : (n : Int) = min (max room 0) 100) (hr : -9223372036854775808 ≤ room ∧ room ≤ 9223372036854775807) : Calls Try.prog 36 #[.int .i64 room] w (NewP w n) := by
  have hm := mk w n (by omega)
  by_cases h0 : room < 0
  · have e : (n : Int) = 0 := by omega
    rw [e] at hm
    clear hn e
    go_enter Try.func36, Try.ntmps36
    go_wp2
    go_ret
    exact ⟨rfl, rfl⟩
  · by_cases h1 : 100 < room
    · have e : (n : Int) = 100 := by omega
      rw [e] at hm
      clear hn e
      go_enter Try.func36, Try.ntmps36
      go_wp2
      go_ret
      exact ⟨rfl, rfl⟩
    · have e : (n : Int) = room := by omega
      rw [e] at hm
      clear hn e
      go_enter Try.func36, Try.ntmps36
      go_wp2
      go_ret
      exact ⟨rfl, rfl⟩
theorem obj_new (room : Int) (w : World) (hr : -9223372036854775808 ≤ room ∧ room ≤ 9223372036854775807) : Calls Try.prog 36 #[.int .i64 room] w fun e w' => ∃ F p, e = .returned (.pointer (some ⟨p, 0, none⟩)) ∧ BObj w' F p (min (max room 0) 100).toNat [] ∧ (∀ k, F k → w.heap.size ≤ k) ∧ Below w.heap.size w w' := by
  refine (new_walk room w (min (max room 0) 100).toNat (by omega) hr).mono ?_
  rintro e w' ⟨rfl, rfl⟩
  refine ⟨fun k => k = w.heap.size + 1 ∨ k = w.heap.size, _, rfl, ⟨w.heap.size, 0, 0, ⟨?_, ?_, by omega, by omega, Nat.zero_le _⟩, fun _ => Iff.rfl⟩, ?_, ?_⟩
  · have := heap_alloc_new (w.alloc (.chan (min (max room 0) 100).toNat #[] false 0 0 false)) (.cells #[.chan (some w.heap.size)] 115)
    simpa using this
  · exact (Below.heap_alloc _ _ _ (by simp)).trans (heap_alloc_new w _)
  · rintro k (rfl | rfl)
    · exact Nat.le_succ _
    · exact Nat.le_refl _
  · exact ((Below.refl _ w).alloc (Nat.le_refl _) _).alloc (by simp) _
end Go.Proofs.Ytpmamgdblbplcaa.Bx

/-! YtpmamgdblbplcaaBoxS -/
namespace Go.Proofs.Ytpmamgdblbplcaa.Bs
open Go.Conc Go.RowKit
open Go.Proofs.Ytpmamgdblbplcaa.Hp (blk_set heap_drew blk_cell blk_frozen below_drewN)
set_option linter.unusedVariables false
set_option linter.unusedSimpArgs false

structure BRep (w : World) (p c cap s r : Nat) (l : List ByteArray) : Prop where
  top : w.heap[p]? = some (.cells #[.chan (some c)] 137 (0, 0))
  row : w.heap[c]? = some (.chan cap (l.map (Value.string)).toArray false s r false)
  ne : p ≠ c
  few : cap ≤ 100
  le : l.length ≤ cap

theorem way_rep {w : World} {p c cap s r : Nat} {l : List ByteArray} (h : BRep w p c cap s r l) : Calls Try.prog 99 #[.pointer (some ⟨p, 0, none⟩)] w fun e w' => e = .returned (.chan (some c)) ∧ w' = w := by
  have c0 := (blk_cell h.top 0).trans (rfl : _ = some (Value.chan (some c)))
  clear h
  go_enter Try.func99, Try.ntmps99
  go_wp2
  go_ret
  exact ⟨rfl, rfl⟩
theorem nil_way (w : World) : Calls Try.prog 99 #[.pointer none] w fun e w' => e = .returned (.chan none) ∧ w' = w := by
  go_enter Try.func99, Try.ntmps99
  go_wp2
  go_ret
  exact ⟨rfl, rfl⟩

set_option maxRecDepth 100000 in
theorem put_room {w : World} {p c cap s r : Nat} {l : List ByteArray} (h : BRep w p c cap s r l) (v : ByteArray) (hr : l.length < cap) :
    Calls Try.prog 58 #[.pointer (some ⟨p, 0, none⟩), .string v] w fun e w' => e = .returned (.bool true) ∧ w' = w.setChan c cap ((l.map (Value.string)).toArray.push (.string v)) false (s + 1) r false := by
  have c0 := (blk_cell h.top 0).trans (rfl : _ = some (Value.chan (some c)))
  refine calls_of_loneTo fun cs => ?_
  have e : Frame.enter Try.prog 58 #[.pointer (some ⟨p, 0, none⟩), .string v] .normal = (base 58).at ⟨#[.pointer (some ⟨p, 0, none⟩), .string v, undef, undef, undef, undef, undef, undef, undef, undef, undef], []⟩ [.code (Try.f58.body.getD .skip)] := by
    simp [Frame.enter, Frame.at, Try.func58, base, Try.f58]
  rw [e]
  refine LoneTo.goes (n := 60) ?_
  simp only [Try.f58, Option.getD_some]
  s_c stepG_seq
  s_reg
  s_op
  s_c stepG_region_end
  s_c stepG_seq
  s_c stepG_seq
  s_reg
  s_op
  s_call Try.func99 (by kernel_rfl) Try.f99
  s_c stepG_seq
  s_reg
  s_op
  s_c stepG_region_end
  s_c stepG_seq
  s_c stepG_seq
  s_reg
  s_op
  s_op
  s_c stepG_region_end
  s_cond false
  s_c stepG_skip
  s_c stepG_seq
  s_reg
  s_op
  s_op
  s_op
  s_op
  s_op
  s_c stepG_region_end
  s_c stepG_ret'
  s_leave1 Try.func99
  s_c stepG_region_end
  s_reg
  s_op
  s_c stepG_region_end
  s_c stepG_seq
  s_reg
  s_stop
  refine LoneTo.step (step_lone_select_send_room (c := c) (v := .string v) (z' := .string ⟨#[]⟩) (cap := cap) (buf := (l.map (Value.string)).toArray) (s := s) (r := r) (tm := false)
    (stepG_comm (cases := #[scase c (.string v) (.string ⟨#[]⟩)]) (blocking := false) (shape := .select) (w' := w) rfl rfl (by decide) (by simp [go_sem, execOp, scase, rcase, scaseNil, rcaseNil, Act.eval])) h.row (by simpa using hr)) ?_
  rw [Frame.finish_at]
  walk_nrm
  refine LoneTo.goes (n := 20) ?_
  s_op
  s_op
  s_c stepG_region_end
  s_c stepG_block
  s_cond true
  s_c stepG_seq
  s_reg
  s_op
  s_c stepG_region_end
  s_c stepG_ret'
  s_stop
  exact LoneTo.done ⟨.returned (.bool true), _, rfl, ⟨rfl, rfl⟩, rfl, rfl, rfl, rfl, _, Try.func58, by simp [results, Try.f58, Frame.at]⟩

set_option maxRecDepth 100000 in
theorem put_full {w : World} {p c cap s r : Nat} {l : List ByteArray} (h : BRep w p c cap s r l) (v : ByteArray) (hr : ¬ l.length < cap) :
    Calls Try.prog 58 #[.pointer (some ⟨p, 0, none⟩), .string v] w fun e w' => e = .returned (.bool false) ∧ w' = w := by
  have c0 := (blk_cell h.top 0).trans (rfl : _ = some (Value.chan (some c)))
  refine calls_of_loneTo fun cs => ?_
  have e : Frame.enter Try.prog 58 #[.pointer (some ⟨p, 0, none⟩), .string v] .normal = (base 58).at ⟨#[.pointer (some ⟨p, 0, none⟩), .string v, undef, undef, undef, undef, undef, undef, undef, undef, undef], []⟩ [.code (Try.f58.body.getD .skip)] := by
    simp [Frame.enter, Frame.at, Try.func58, base, Try.f58]
  rw [e]
  refine LoneTo.goes (n := 60) ?_
  simp only [Try.f58, Option.getD_some]
  s_c stepG_seq
  s_reg
  s_op
  s_c stepG_region_end
  s_c stepG_seq
  s_c stepG_seq
  s_reg
  s_op
  s_call Try.func99 (by kernel_rfl) Try.f99
  s_c stepG_seq
  s_reg
  s_op
  s_c stepG_region_end
  s_c stepG_seq
  s_c stepG_seq
  s_reg
  s_op
  s_op
  s_c stepG_region_end
  s_cond false
  s_c stepG_skip
  s_c stepG_seq
  s_reg
  s_op
  s_op
  s_op
  s_op
  s_op
  s_c stepG_region_end
  s_c stepG_ret'
  s_leave1 Try.func99
  s_c stepG_region_end
  s_reg
  s_op
  s_c stepG_region_end
  s_c stepG_seq
  s_reg
  s_stop
  refine LoneTo.step (step_lone_select_send_full (c := c) (v := .string v) (z' := .string ⟨#[]⟩) (cap := cap) (buf := (l.map (Value.string)).toArray) (s := s) (r := r) (tm := false)
    (stepG_comm (cases := #[scase c (.string v) (.string ⟨#[]⟩)]) (blocking := false) (shape := .select) (w' := w) rfl rfl (by decide) (by simp [go_sem, execOp, scase, rcase, scaseNil, rcaseNil, Act.eval])) h.row (by simp; omega)) ?_
  rw [Frame.finish_at]
  walk_nrm
  refine LoneTo.goes (n := 20) ?_
  s_op
  s_op
  s_c stepG_region_end
  s_c stepG_block
  s_cond false
  s_c stepG_seq
  s_reg
  s_op
  s_c stepG_region_end
  s_c stepG_ret'
  s_stop
  exact LoneTo.done ⟨.returned (.bool false), _, rfl, ⟨rfl, rfl⟩, rfl, rfl, rfl, rfl, _, Try.func58, by simp [results, Try.f58, Frame.at]⟩

set_option maxRecDepth 100000 in
theorem nil_put (v : ByteArray) (w : World) :
    Calls Try.prog 58 #[.pointer none, .string v] w fun e w' => e = .returned (.bool false) ∧ w' = w := by
  refine calls_of_loneTo fun cs => ?_
  have e : Frame.enter Try.prog 58 #[.pointer none, .string v] .normal = (base 58).at ⟨#[.pointer none, .string v, undef, undef, undef, undef, undef, undef, undef, undef, undef], []⟩ [.code (Try.f58.body.getD .skip)] := by
    simp [Frame.enter, Frame.at, Try.func58, base, Try.f58]
  rw [e]
  refine LoneTo.goes (n := 60) ?_
  simp only [Try.f58, Option.getD_some]
  s_c stepG_seq
  s_reg
  s_op
  s_c stepG_region_end
  s_c stepG_seq
  s_c stepG_seq
  s_reg
  s_op
  s_call Try.func99 (by kernel_rfl) Try.f99
  s_c stepG_seq
  s_reg
  s_op
  s_c stepG_region_end
  s_c stepG_seq
  s_c stepG_seq
  s_reg
  s_op
  s_op
  s_c stepG_region_end
  s_cond true
  s_c stepG_seq
  s_reg
  s_op
  s_c stepG_region_end
  s_c stepG_ret'
  s_leave1 Try.func99
  s_c stepG_region_end
  s_reg
  s_op
  s_c stepG_region_end
  s_c stepG_seq
  s_reg
  s_stop
  refine LoneTo.step (step_lone_select_send_nil (v := .string v) (z' := .string ⟨#[]⟩)
    (stepG_comm (cases := #[scaseNil (.string v) (.string ⟨#[]⟩)]) (blocking := false) (shape := .select) (w' := w) rfl rfl (by decide) (by simp [go_sem, execOp, scase, rcase, scaseNil, rcaseNil, Act.eval]))) ?_
  rw [Frame.finish_at]
  walk_nrm
  refine LoneTo.goes (n := 20) ?_
  s_op
  s_op
  s_c stepG_region_end
  s_c stepG_block
  s_cond false
  s_c stepG_seq
  s_reg
  s_op
  s_c stepG_region_end
  s_c stepG_ret'
  s_stop
  exact LoneTo.done ⟨.returned (.bool false), _, rfl, ⟨rfl, rfl⟩, rfl, rfl, rfl, rfl, _, Try.func58, by simp [results, Try.f58, Frame.at]⟩

set_option maxRecDepth 100000 in
theorem take_some {w : World} {p c cap s r : Nat} {v : ByteArray} {l : List ByteArray} (h : BRep w p c cap s r (v :: l)) :
    Calls Try.prog 100 #[.pointer (some ⟨p, 0, none⟩)] w fun e w' => e = .returned (.tuple #[.string v, .bool true]) ∧ w' = w.setChan c cap (((v :: l).map (Value.string)).toArray.extract 1 ((v :: l).map (Value.string)).toArray.size) false s (r + 1) false := by
  have c0 := (blk_cell h.top 0).trans (rfl : _ = some (Value.chan (some c)))
  refine calls_of_loneTo fun cs => ?_
  have e : Frame.enter Try.prog 100 #[.pointer (some ⟨p, 0, none⟩)] .normal = (base 100).at ⟨#[.pointer (some ⟨p, 0, none⟩), undef, undef, undef, undef, undef, undef, undef, undef, undef, undef, undef, undef, undef], []⟩ [.code (Try.f100.body.getD .skip)] := by
    simp [Frame.enter, Frame.at, Try.func100, base, Try.f100]
  rw [e]
  refine LoneTo.goes (n := 60) ?_
  simp only [Try.f100, Option.getD_some]
  s_c stepG_seq
  s_reg
  s_op
  s_op
  s_c stepG_region_end
  s_c stepG_seq
  s_reg
  s_op
  s_c stepG_region_end
  s_c stepG_seq
  s_reg
  s_op
  s_call Try.func99 (by kernel_rfl) Try.f99
  s_c stepG_seq
  s_reg
  s_op
  s_c stepG_region_end
  s_c stepG_seq
  s_c stepG_seq
  s_reg
  s_op
  s_op
  s_c stepG_region_end
  s_cond false
  s_c stepG_skip
  s_c stepG_seq
  s_reg
  s_op
  s_op
  s_op
  s_op
  s_op
  s_c stepG_region_end
  s_c stepG_ret'
  s_leave1 Try.func99
  s_c stepG_region_end
  s_c stepG_seq
  s_reg
  s_stop
  refine LoneTo.step (step_lone_select_recv_buf (c := c) (z := .string ⟨#[]⟩) (cap := cap) (buf := ((v :: l).map (Value.string)).toArray) (closed := false) (s := s) (r := r) (tm := false)
    (stepG_comm (cases := #[rcase c (.string ⟨#[]⟩)]) (blocking := false) (shape := .select) (w' := w) rfl rfl (by decide) (by simp [go_sem, execOp, scase, rcase, scaseNil, rcaseNil, Act.eval])) h.row (by simp)) ?_
  rw [Frame.finish_at]
  walk_nrm
  refine LoneTo.goes (n := 30) ?_
  s_op
  s_op
  s_c stepG_region_end
  s_c stepG_block
  s_cond true
  s_c stepG_seq
  s_reg
  s_op
  s_op
  s_c stepG_region_end
  s_c stepG_seq
  s_reg
  s_op
  s_op
  s_op
  s_c stepG_region_end
  s_c stepG_ret'
  s_stop
  exact LoneTo.done ⟨.returned (.tuple #[.string v, .bool true]), _, rfl, ⟨rfl, by simp⟩, rfl, rfl, rfl, rfl, _, Try.func100, by simp [results, Try.f100, Frame.at]⟩

set_option maxRecDepth 100000 in
theorem take_none {w : World} {p c cap s r : Nat} (h : BRep w p c cap s r []) :
    Calls Try.prog 100 #[.pointer (some ⟨p, 0, none⟩)] w fun e w' => e = .returned (.tuple #[.string ⟨#[]⟩, .bool false]) ∧ w' = w := by
  have c0 := (blk_cell h.top 0).trans (rfl : _ = some (Value.chan (some c)))
  refine calls_of_loneTo fun cs => ?_
  have e : Frame.enter Try.prog 100 #[.pointer (some ⟨p, 0, none⟩)] .normal = (base 100).at ⟨#[.pointer (some ⟨p, 0, none⟩), undef, undef, undef, undef, undef, undef, undef, undef, undef, undef, undef, undef, undef], []⟩ [.code (Try.f100.body.getD .skip)] := by
    simp [Frame.enter, Frame.at, Try.func100, base, Try.f100]
  rw [e]
  refine LoneTo.goes (n := 60) ?_
  simp only [Try.f100, Option.getD_some]
  s_c stepG_seq
  s_reg
  s_op
  s_op
  s_c stepG_region_end
  s_c stepG_seq
  s_reg
  s_op
  s_c stepG_region_end
  s_c stepG_seq
  s_reg
  s_op
  s_call Try.func99 (by kernel_rfl) Try.f99
  s_c stepG_seq
  s_reg
  s_op
  s_c stepG_region_end
  s_c stepG_seq
  s_c stepG_seq
  s_reg
  s_op
  s_op
  s_c stepG_region_end
  s_cond false
  s_c stepG_skip
  s_c stepG_seq
  s_reg
  s_op
  s_op
  s_op
  s_op
  s_op
  s_c stepG_region_end
  s_c stepG_ret'
  s_leave1 Try.func99
  s_c stepG_region_end
  s_c stepG_seq
  s_reg
  s_stop
  refine LoneTo.step (step_lone_select_default (c := c) (z := .string ⟨#[]⟩) (cap := cap) (s := s) (r := r) (tm := false)
    (stepG_comm (cases := #[rcase c (.string ⟨#[]⟩)]) (blocking := false) (shape := .select) (w' := w) rfl rfl (by decide) (by simp [go_sem, execOp, scase, rcase, scaseNil, rcaseNil, Act.eval])) h.row) ?_
  rw [Frame.finish_at]
  walk_nrm
  refine LoneTo.goes (n := 30) ?_
  s_op
  s_op
  s_c stepG_region_end
  s_c stepG_block
  s_cond false
  s_c stepG_seq
  s_reg
  s_op
  s_op
  s_op
  s_c stepG_region_end
  s_c stepG_ret'
  s_stop
  exact LoneTo.done ⟨.returned (.tuple #[.string ⟨#[]⟩, .bool false]), _, rfl, ⟨rfl, rfl⟩, rfl, rfl, rfl, rfl, _, Try.func100, by simp [results, Try.f100, Frame.at]⟩

set_option maxRecDepth 100000 in
theorem nil_take (w : World) :
    Calls Try.prog 100 #[.pointer none] w fun e w' => e = .returned (.tuple #[.string ⟨#[]⟩, .bool false]) ∧ w' = w := by
  refine calls_of_loneTo fun cs => ?_
  have e : Frame.enter Try.prog 100 #[.pointer none] .normal = (base 100).at ⟨#[.pointer none, undef, undef, undef, undef, undef, undef, undef, undef, undef, undef, undef, undef, undef], []⟩ [.code (Try.f100.body.getD .skip)] := by
    simp [Frame.enter, Frame.at, Try.func100, base, Try.f100]
  rw [e]
  refine LoneTo.goes (n := 60) ?_
  simp only [Try.f100, Option.getD_some]
  s_c stepG_seq
  s_reg
  s_op
  s_op
  s_c stepG_region_end
  s_c stepG_seq
  s_reg
  s_op
  s_c stepG_region_end
  s_c stepG_seq
  s_reg
  s_op
  s_call Try.func99 (by kernel_rfl) Try.f99
  s_c stepG_seq
  s_reg
  s_op
  s_c stepG_region_end
  s_c stepG_seq
  s_c stepG_seq
  s_reg
  s_op
  s_op
  s_c stepG_region_end
  s_cond true
  s_c stepG_seq
  s_reg
  s_op
  s_c stepG_region_end
  s_c stepG_ret'
  s_leave1 Try.func99
  s_c stepG_region_end
  s_c stepG_seq
  s_reg
  s_stop
  refine LoneTo.step (step_lone_select_recv_nil (z := .string ⟨#[]⟩)
    (stepG_comm (cases := #[rcaseNil (.string ⟨#[]⟩)]) (blocking := false) (shape := .select) (w' := w) rfl rfl (by decide) (by simp [go_sem, execOp, scase, rcase, scaseNil, rcaseNil, Act.eval]))) ?_
  rw [Frame.finish_at]
  walk_nrm
  refine LoneTo.goes (n := 30) ?_
  s_op
  s_op
  s_c stepG_region_end
  s_c stepG_block
  s_cond false
  s_c stepG_seq
  s_reg
  s_op
  s_op
  s_op
  s_c stepG_region_end
  s_c stepG_ret'
  s_stop
  exact LoneTo.done ⟨.returned (.tuple #[.string ⟨#[]⟩, .bool false]), _, rfl, ⟨rfl, rfl⟩, rfl, rfl, rfl, rfl, _, Try.func100, by simp [results, Try.f100, Frame.at]⟩

theorem touch_chan (w : World) (F : Nat → Prop) (c : Nat) (hF : F c) (cap : Nat) (buf : Array Value) (cl : Bool) (s r : Nat) (tm : Bool) : Hp.Touch F w (w.setChan c cap buf cl s r tm) :=
  ⟨rfl, rfl, rfl, by simp [World.setChan], fun k hk hS => by simp only [World.setChan]; rw [Array.getElem?_setIfInBounds_ne (by rintro rfl; exact hS hF)]⟩
theorem BRep.put {w : World} {p c cap s r : Nat} {l : List ByteArray} (h : BRep w p c cap s r l) (v : ByteArray) (hr : l.length < cap) : BRep (w.setChan c cap ((l.map (Value.string)).toArray.push (.string v)) false (s + 1) r false) p c cap (s + 1) r (l ++ [v]) := by
  refine ⟨?_, ?_, h.ne, h.few, by simp; omega⟩
  · simp only [World.setChan]; rw [Array.getElem?_setIfInBounds_ne h.ne.symm]; exact h.top
  · rw [heap_setChan _ _ _ _ _ _ _ _ (Array.getElem?_eq_some_iff.1 h.row).1]; simp
theorem BRep.take {w : World} {p c cap s r : Nat} {v : ByteArray} {l : List ByteArray} (h : BRep w p c cap s r (v :: l)) : BRep (w.setChan c cap (((v :: l).map (Value.string)).toArray.extract 1 ((v :: l).map (Value.string)).toArray.size) false s (r + 1) false) p c cap s (r + 1) l := by
  refine ⟨?_, ?_, h.ne, h.few, by have := h.le; simp at this; omega⟩
  · simp only [World.setChan]; rw [Array.getElem?_setIfInBounds_ne h.ne.symm]; exact h.top
  · rw [heap_setChan _ _ _ _ _ _ _ _ (Array.getElem?_eq_some_iff.1 h.row).1]; simp; exact List.take_of_length_le (by simp)

/-! ### As an object -/
def BObj (w : World) (F : Nat → Prop) (p cap : Nat) (l : List ByteArray) : Prop := ∃ c s r, BRep w p c cap s r l ∧ ∀ k, F k ↔ (k = p ∨ k = c)
variable {w : World} {F : Nat → Prop} {p cap : Nat} {l : List ByteArray}
theorem BObj.lt (h : BObj w F p cap l) {k : Nat} (hk : F k) : k < w.heap.size := by
  obtain ⟨c, s, r, hr, hF⟩ := h
  rcases (hF k).1 hk with rfl | rfl
  · exact (Array.getElem?_eq_some_iff.1 hr.top).1
  · exact (Array.getElem?_eq_some_iff.1 hr.row).1
theorem BObj.move {w' : World} (h : BObj w F p cap l) (hb : ∀ k, F k → w'.heap[k]? = w.heap[k]?) : BObj w' F p cap l := by
  obtain ⟨c, s, r, hr, hF⟩ := h
  exact ⟨c, s, r, ⟨(hb p ((hF p).2 (Or.inl rfl))).trans hr.top, (hb c ((hF c).2 (Or.inr rfl))).trans hr.row, hr.ne, hr.few, hr.le⟩, hF⟩
theorem BObj.below {w' : World} (h : BObj w F p cap l) (hb : Below w.heap.size w w') : BObj w' F p cap l := h.move (fun k hk => hb.block k (h.lt hk))
theorem BObj.touch {w' : World} {G : Nat → Prop} (h : BObj w F p cap l) (ht : Hp.Touch G w w') (hd : ∀ k, F k → ¬ G k) : BObj w' F p cap l := h.move (fun k hk => ht.block k (h.lt hk) (hd k hk))
theorem BObj.le (h : BObj w F p cap l) : l.length ≤ cap ∧ cap ≤ 100 := by
  obtain ⟨c, s, r, hr, hF⟩ := h
  exact ⟨hr.le, hr.few⟩
theorem obj_put (h : BObj w F p cap l) (v : ByteArray) (hr : l.length < cap) : Calls Try.prog 58 #[.pointer (some ⟨p, 0, none⟩), .string v] w fun e w' => e = .returned (.bool true) ∧ BObj w' F p cap (l ++ [v]) ∧ Hp.Touch F w w' := by
  obtain ⟨c, s, r, hb, hF⟩ := h
  refine (put_room hb v hr).mono ?_
  rintro e w' ⟨rfl, rfl⟩
  exact ⟨rfl, ⟨c, s + 1, r, hb.put v hr, hF⟩, touch_chan _ _ _ ((hF c).2 (Or.inr rfl)) _ _ _ _ _ _⟩
theorem obj_full (h : BObj w F p cap l) (v : ByteArray) (hr : ¬ l.length < cap) : Calls Try.prog 58 #[.pointer (some ⟨p, 0, none⟩), .string v] w fun e w' => e = .returned (.bool false) ∧ w' = w := by
  obtain ⟨c, s, r, hb, hF⟩ := h
  exact put_full hb v hr
theorem obj_take {v : ByteArray} (h : BObj w F p cap (v :: l)) : Calls Try.prog 100 #[.pointer (some ⟨p, 0, none⟩)] w fun e w' => e = .returned (.tuple #[.string v, .bool true]) ∧ BObj w' F p cap l ∧ Hp.Touch F w w' := by
  obtain ⟨c, s, r, hb, hF⟩ := h
  refine (take_some hb).mono ?_
  rintro e w' ⟨rfl, rfl⟩
  exact ⟨rfl, ⟨c, s, r + 1, hb.take, hF⟩, touch_chan _ _ _ ((hF c).2 (Or.inr rfl)) _ _ _ _ _ _⟩
theorem obj_take_no (h : BObj w F p cap []) : Calls Try.prog 100 #[.pointer (some ⟨p, 0, none⟩)] w fun e w' => e = .returned (.tuple #[.string ⟨#[]⟩, .bool false]) ∧ w' = w := by
  obtain ⟨c, s, r, hb, hF⟩ := h
  exact take_none hb
set_option maxRecDepth 100000 in
theorem obj_len (h : BObj w F p cap l) : Calls Try.prog 60 #[.pointer (some ⟨p, 0, none⟩)] w fun e w' => e = .returned (.int .i64 l.length) ∧ w' = w := by
  obtain ⟨c, s, r, h, hF⟩ := h
  have HW := way_rep h
  have hl : (Builtin.len_ #[135] 3 #[.chan (some c)]).run Try.prog w = .ok (.int .i64 l.length) w := by
    have hg : (Go.getObj c).run Try.prog w = .ok (.chan cap (l.map (Value.string)).toArray false s r false) w := by simp [Go.getObj, Sem.run, h.row]
    simp [Builtin.len_, run_underlying Try.underlying135, hg, goInt]
  clear h hF
  go_enter Try.func60, Try.ntmps60
  go_wp2_with (go_at_call 99; refine HW.mono ?_; rintro e w1 ⟨rfl, rfl⟩)
  go_ret
  exact ⟨rfl, rfl⟩
set_option maxRecDepth 100000 in
theorem nil_len (w : World) : Calls Try.prog 60 #[.pointer none] w fun e w' => e = .returned (.int .i64 0) ∧ w' = w := by
  have HW := nil_way w
  have hl : (Builtin.len_ #[135] 3 #[.chan none]).run Try.prog w = .ok (.int .i64 0) w := by
    simp [Builtin.len_, run_underlying Try.underlying135, goInt]
  go_enter Try.func60, Try.ntmps60
  go_wp2_with (go_at_call 99; refine HW.mono ?_; rintro e w1 ⟨rfl, rfl⟩)
  go_ret
  exact ⟨rfl, rfl⟩
/-- Either, by what Take gives of both -/
theorem either_first {a c : Value} {v : ByteArray} {Q : World → Prop} {w : World} (h : Calls Try.prog 100 #[a] w fun e w' => e = .returned (.tuple #[.string v, .bool true]) ∧ Q w') :
    Calls Try.prog 59 #[a, c] w fun e w' => e = .returned (.tuple #[.string v, .int .i64 1]) ∧ Q w' := by
  go_enter Try.func59, Try.ntmps59
  go_wp2_with (go_at_call 100; refine h.mono ?_; rintro e w1 ⟨rfl, hq⟩)
  go_ret2
  exact ⟨rfl, hq⟩
theorem either_second {a c : Value} {v : ByteArray} {Q : World → Prop} {w : World} (ha : Calls Try.prog 100 #[a] w fun e w' => e = .returned (.tuple #[.string ⟨#[]⟩, .bool false]) ∧ w' = w) (h : Calls Try.prog 100 #[c] w fun e w' => e = .returned (.tuple #[.string v, .bool true]) ∧ Q w') :
    Calls Try.prog 59 #[a, c] w fun e w' => e = .returned (.tuple #[.string v, .int .i64 2]) ∧ Q w' := by
  go_enter Try.func59, Try.ntmps59
  go_wp2_with (first
    | (go_at_call 100; refine ha.mono ?_; rintro e w1 ⟨rfl, rfl⟩; clear ha)
    | (go_at_call 100; refine h.mono ?_; rintro e w1 ⟨rfl, hq⟩))
  go_ret2
  exact ⟨rfl, hq⟩
theorem either_none {a c : Value} {w : World} (ha : Calls Try.prog 100 #[a] w fun e w' => e = .returned (.tuple #[.string ⟨#[]⟩, .bool false]) ∧ w' = w) (h : Calls Try.prog 100 #[c] w fun e w' => e = .returned (.tuple #[.string ⟨#[]⟩, .bool false]) ∧ w' = w) :
    Calls Try.prog 59 #[a, c] w fun e w' => e = .returned (.tuple #[.string ⟨#[]⟩, .int .i64 0]) ∧ w' = w := by
  go_enter Try.func59, Try.ntmps59
  go_wp2_with (first
    | (go_at_call 100; refine ha.mono ?_; rintro e w1 ⟨rfl, rfl⟩; clear ha)
    | (go_at_call 100; refine h.mono ?_; rintro e w1 ⟨rfl, rfl⟩; clear h))
  go_ret2
  exact ⟨rfl, rfl⟩
theorem bytes_el : ∃ i, Try.prog.info? 9 = some i ∧ i.bytes = 16 := by
  have h : (Try.prog.info? 9).map (·.bytes) = some 16 := by kernel_rfl
  obtain ⟨i, hi, hb⟩ := Option.map_eq_some_iff.1 h
  exact ⟨i, hi, hb⟩
theorem mk (w : World) (n : Nat) (hn : n ≤ 100) : (Instr.makeChan 135 (.int .i64 (n : Int))).run Try.prog w = .ok (.chan (some w.heap.size)) (w.alloc (.chan n #[] false 0 0 false)) := by
  obtain ⟨i, hi, hb⟩ := bytes_el
  exact run_makeChan (P := Try.prog) (w := w) Try.underlying135 hi .i64 n (by omega) (by rw [hb]; omega)
def NewP (w : World) (n : Nat) (e : Ending) (w' : World) : Prop := e = .returned (.pointer (some ⟨w.heap.size + 1, 0, none⟩)) ∧ w' = (w.alloc (.chan n #[] false 0 0 false)).alloc (.cells #[.chan (some w.heap.size)] 137)
set_option maxRecDepth 100000 in
theorem new_walk (room : Int) (w : World) (n : Nat) (hn : (n : Int) = min (max room 0) 100) (hr : -9223372036854775808 ≤ room ∧ room ≤ 9223372036854775807) : Calls Try.prog 57 #[.int .i64 room] w (NewP w n) := by
  have hm := mk w n (by omega)
  by_cases h0 : room < 0
  · have e : (n : Int) = 0 := by omega
    rw [e] at hm
    clear hn e
    go_enter Try.func57, Try.ntmps57
    go_wp2
    go_ret
    exact ⟨rfl, rfl⟩
  · by_cases h1 : 100 < room
    · have e : (n : Int) = 100 := by omega
      rw [e] at hm
      clear hn e
      go_enter Try.func57, Try.ntmps57
      go_wp2
      go_ret
      exact ⟨rfl, rfl⟩
    · have e : (n : Int) = room := by omega
      rw [e] at hm
      clear hn e
      go_enter Try.func57, Try.ntmps57
      go_wp2
      go_ret
      exact ⟨rfl, rfl⟩
theorem obj_new (room : Int) (w : World) (hr : -9223372036854775808 ≤ room ∧ room ≤ 9223372036854775807) : Calls Try.prog 57 #[.int .i64 room] w fun e w' => ∃ F p, e = .returned (.pointer (some ⟨p, 0, none⟩)) ∧ BObj w' F p (min (max room 0) 100).toNat [] ∧ (∀ k, F k → w.heap.size ≤ k) ∧ Below w.heap.size w w' := by
  refine (new_walk room w (min (max room 0) 100).toNat (by omega) hr).mono ?_
  rintro e w' ⟨rfl, rfl⟩
  refine ⟨fun k => k = w.heap.size + 1 ∨ k = w.heap.size, _, rfl, ⟨w.heap.size, 0, 0, ⟨?_, ?_, by omega, by omega, Nat.zero_le _⟩, fun _ => Iff.rfl⟩, ?_, ?_⟩
  · have := heap_alloc_new (w.alloc (.chan (min (max room 0) 100).toNat #[] false 0 0 false)) (.cells #[.chan (some w.heap.size)] 137)
    simpa using this
  · exact (Below.heap_alloc _ _ _ (by simp)).trans (heap_alloc_new w _)
  · rintro k (rfl | rfl)
    · exact Nat.le_succ _
    · exact Nat.le_refl _
  · exact ((Below.refl _ w).alloc (Nat.le_refl _) _).alloc (by simp) _
end Go.Proofs.Ytpmamgdblbplcaa.Bs
