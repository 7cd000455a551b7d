/- Rings of rows of texts: their functions. (printed by wip/genringt.py out of Things) -/
import Derived.Test.YtpmamgdblbplcaaHInt
import Derived.OwnWalk
import Derived.OneCell
namespace Go.Proofs.Ytpmamgdblbplcaa.Rt
open Go.RowKit
open Go.Proofs.Ytpmamgdblbplcaa.Hp (blk_set heap_drew blk_cell blk_frozen below_drewN)
set_option linter.unusedVariables false
set_option linter.unusedSimpArgs false

structure RRep (w : World) (p g cap fst n : Nat) (cur : Array Value) : Prop where
  top : w.heap[p]? = some (.cells #[.slice (some ⟨g, 0, none⟩) cap cap, .int .i64 fst, .int .i64 n] 134 (0, 0))
  row : w.heap[g]? = some (.cells cur 56 (0, 0))
  size : cur.size = cap
  ne : p ≠ g
  few : cap ≤ 1000
  le : n ≤ cap
  first : fst < cap ∨ cap = 0

theorem len_rep {w : World} {p g cap fst n : Nat} {cur : Array Value} (h : RRep w p g cap fst n cur) : Calls Try.prog 55 #[.pointer (some ⟨p, 0, none⟩)] w fun e w' => e = .returned (.int .i64 n) ∧ w' = w := by
  have c2 := (blk_cell h.top 2).trans (rfl : _ = some (Value.int .i64 n))
  go_enter Try.func55, Try.ntmps55
  go_wp2
  go_ret
  exact ⟨rfl, rfl⟩
theorem room_rep {w : World} {p g cap fst n : Nat} {cur : Array Value} (h : RRep w p g cap fst n cur) : Calls Try.prog 56 #[.pointer (some ⟨p, 0, none⟩)] w fun e w' => e = .returned (.int .i64 ((cap : Int) - n)) ∧ Below w.heap.size w w' := by
  have c0 := (blk_cell h.top 0).trans (rfl : _ = some (Value.slice (some ⟨g, 0, none⟩) cap cap))
  have c2 := (blk_cell h.top 2).trans (rfl : _ = some (Value.int .i64 n))
  have hf := h.few
  have hl := h.le
  clear h
  go_enter Try.func56, Try.ntmps56
  go_wp2
  go_region
  go_wp2
  go_ret
  exact ⟨rfl, below_drewN _ _⟩
theorem at_rep {w : World} {p g cap fst n : Nat} {cur : Array Value} (h : RRep w p g cap fst n cur) (i : Nat) (hi : i < n) (v : Value) (hv : cur[(fst + i) % cap]? = some v) : Calls Try.prog 54 #[.pointer (some ⟨p, 0, none⟩), .int .i64 i] w fun e w' => e = .returned (.tuple #[v, .bool true]) ∧ Below w.heap.size w w' := by
  have c0 := (blk_cell h.top 0).trans (rfl : _ = some (Value.slice (some ⟨g, 0, none⟩) cap cap))
  have c1 := (blk_cell h.top 1).trans (rfl : _ = some (Value.int .i64 fst))
  have HL := len_rep h
  have hq := (blk_cell h.row _).trans hv
  have hf := h.few
  have hl := h.le
  have hfs := h.first
  obtain ⟨j, hj⟩ : ∃ j, j = (fst + i) % cap := ⟨_, rfl⟩
  have hjc : j < cap := by rw [hj]; exact Nat.mod_lt _ (by omega)
  have E : ((fst : Int) + (i : Int)) % (cap : Int) = (j : Int) := by rw [hj]; norm_cast
  have hjc' : (j : Int) < (cap : Int) := by omega
  rw [← hj] at hq
  clear h hv hj
  go_enter Try.func54, Try.ntmps54
  go_wp2_with (go_at_call 55; refine HL.mono ?_; rintro e w1 ⟨rfl, rfl⟩)
  go_region
  go_wp2
  go_ret2
  exact ⟨rfl, below_drewN _ _⟩
theorem at_no {w : World} {p g cap fst n : Nat} {cur : Array Value} (h : RRep w p g cap fst n cur) (i : Int) (hi : i < 0 ∨ (n : Int) ≤ i) : Calls Try.prog 54 #[.pointer (some ⟨p, 0, none⟩), .int .i64 i] w fun e w' => e = .returned (.tuple #[.slice none 0 0, .bool false]) ∧ w' = w := by
  have HL := len_rep h
  clear h
  by_cases h0 : i < 0
  · clear hi
    go_enter Try.func54, Try.ntmps54
    go_wp2_with (go_at_call 55; refine HL.mono ?_; rintro e w1 ⟨rfl, rfl⟩)
    go_ret2
    exact ⟨rfl, rfl⟩
  · have h1 : (n : Int) ≤ i := by omega
    clear hi
    go_enter Try.func54, Try.ntmps54
    go_wp2_with (go_at_call 55; refine HL.mono ?_; rintro e w1 ⟨rfl, rfl⟩)
    go_ret2
    exact ⟨rfl, rfl⟩
theorem put_full {w : World} {p g cap fst n : Nat} {cur : Array Value} (h : RRep w p g cap fst n cur) (v : Nat) (hn : ¬ n < cap) : Calls Try.prog 53 #[.pointer (some ⟨p, 0, none⟩), .slice (some ⟨v, 0, none⟩) 1 1] w fun e w' => e = .returned (.bool false) ∧ Below w.heap.size w w' := by
  have HR := room_rep h
  have e : (cap : Int) - n = 0 := by have := h.le; omega
  rw [e] at HR
  clear h
  go_enter Try.func53, Try.ntmps53
  go_wp2_with (go_at_call 56; refine HR.mono ?_; rintro e w1 ⟨rfl, hb⟩)
  go_ret
  exact ⟨rfl, hb⟩
theorem RRep.below {w w' : World} {p g cap fst n : Nat} {cur : Array Value} (h : RRep w p g cap fst n cur) (hb : Below w.heap.size w w') : RRep w' p g cap fst n cur :=
  ⟨(hb.block p (Array.getElem?_eq_some_iff.1 h.top).1).trans h.top, (hb.block g (Array.getElem?_eq_some_iff.1 h.row).1).trans h.row, h.size, h.ne, h.few, h.le, h.first⟩
theorem put_rep {w : World} {p g cap fst n : Nat} {cur : Array Value} (h : RRep w p g cap fst n cur) (v : Nat) (hn : n < cap) : Calls Try.prog 53 #[.pointer (some ⟨p, 0, none⟩), .slice (some ⟨v, 0, none⟩) 1 1] w fun e w' => e = .returned (.bool true) ∧
    RRep w' p g cap fst (n + 1) (cur.setIfInBounds ((fst + n) % cap) (.slice (some ⟨v, 0, none⟩) 1 1)) ∧ Hp.Touch (fun k => k = p ∨ k = g) w w' := by
  have HR := room_rep h
  have e : ¬ (cap : Int) - n = 0 := by omega
  obtain ⟨j, hj⟩ : ∃ j, j = (fst + n) % cap := ⟨_, rfl⟩
  have hjc : j < cap := by rw [hj]; exact Nat.mod_lt _ (by omega)
  have E : ((fst : Int) + (n : Int)) % (cap : Int) = (j : Int) := by rw [hj]; norm_cast
  have hjc' : (j : Int) < (cap : Int) := by omega
  have hf := h.few
  have hfs := h.first
  rw [← hj]
  obtain ⟨u, hu⟩ : ∃ u, cur[j]? = some u := ⟨_, Array.getElem?_eq_getElem (by rw [h.size]; exact hjc)⟩
  have H := Lib.hid h
  clear h hj
  go_enter Try.func53, Try.ntmps53
  go_wp2_with (go_at_call 56; refine HR.mono ?_; rintro e w1 ⟨rfl, hb⟩; have HB := Lib.hid hb; have h1 := H.out.below hb; have c0 := (blk_cell h1.top 0).trans (rfl : _ = some (Value.slice (some ⟨g, 0, none⟩) cap cap)); have c1 := (blk_cell h1.top 1).trans (rfl : _ = some (Value.int .i64 fst)); have c2 := (blk_cell h1.top 2).trans (rfl : _ = some (Value.int .i64 n)); have f2 := blk_frozen h1.top 2; have cj := (blk_cell h1.row j).trans hu; have fj := blk_frozen h1.row j; have hne := h1.ne; have hne' := hne.symm; have H1 := Lib.hid h1; clear hb h1)
  go_region
  go_wp2_with fail
  go_ret
  have hsz : (cur.setIfInBounds j (.slice (some ⟨v, 0, none⟩) 1 1)).size = cap := by rw [Array.size_setIfInBounds]; exact H1.out.size
  refine ⟨rfl, ⟨?_, ?_, hsz, hne, hf, by omega, hfs⟩, ?_⟩
  · have t1 : (w1.setCell ⟨g, j, none⟩ (.slice (some ⟨v, 0, none⟩) 1 1)).heap[p]? = _ := (Below.heap_setCell w1 ⟨g, j, none⟩ _ p hne).trans H1.out.top
    have t2 := blk_set t1 2 (.int .i64 ((n : Int) + 1))
    rw [heap_drew]
    exact t2
  · have t1 := blk_set H1.out.row j (.slice (some ⟨v, 0, none⟩) 1 1)
    rw [heap_drew, Below.heap_setCell _ ⟨p, 2, none⟩ _ g hne']
    exact t1
  · exact ((((Hp.Touch.of_below HB.out).setCell (p := ⟨g, j, none⟩) (Or.inr rfl) _).setCell (p := ⟨p, 2, none⟩) (Or.inl rfl) _)).drew

theorem info56 : (Try.prog.info? 56).map (fun i => (i.zero, i.size, i.bytes)) = some (some (.slice none 0 0), 1, 24) := by kernel_rfl
/-- what New leaves -/
def NewP (w : World) (n : Nat) (e : Ending) (w' : World) : Prop := (∃ p g cur, e = .returned (.pointer (some ⟨p, 0, none⟩)) ∧ RRep w' p g n 0 0 cur ∧ w.heap.size ≤ p ∧ w.heap.size ≤ g) ∧ Below w.heap.size w w'
theorem new_fin {w W : World} {n : Nat} (hn : n ≤ 1000) (r1 : W.ownsRow 0 56 1 (.slice (some ⟨w.heap.size, 0, none⟩) n n) n (madeCells (Value.slice none 0 0).cells (n * 1)).toList) (r2 : w.grownBy W none) (hlt : w.heap.size < W.heap.size) :
    NewP w n (.returned (.pointer (some ⟨W.heap.size, 0, none⟩))) (W.alloc (.cells #[.slice (some ⟨w.heap.size, 0, none⟩) n n, .int .i64 0, .int .i64 0] 134)) := by
  rcases r1.2 with ⟨h2, h3⟩ | ⟨g, cap, cur, h2, h4, h5, h6, h7, h8, h9⟩
  · cases h2
  · simp only [Value.slice.injEq, Option.some.injEq, Addr.mk.injEq, and_true] at h2
    obtain ⟨rfl, -, rfl⟩ := h2
    have hg := (Array.getElem?_eq_some_iff.1 h5).1
    refine ⟨⟨W.heap.size, w.heap.size, cur, rfl, ⟨heap_alloc_new W _, (Below.heap_alloc W _ _ hg).trans h5, by simpa using h8, by omega, hn, Nat.zero_le _, by omega⟩, by omega, Nat.le_refl _⟩, ?_⟩
    have b1 : Below w.heap.size w W := ⟨r2.os, r2.tape, r2.output, r2.size, fun k hk => r2.block k hk (by simp)⟩
    exact b1.alloc (by omega) _
theorem new_walk (room : Int) (w : World) (n : Nat) (hn : (n : Int) = min (max room 0) 1000) (hr : -9223372036854775808 ≤ room ∧ room ≤ 9223372036854775807) : Calls Try.prog 52 #[.int .i64 room] w (NewP w n) := by
  obtain ⟨i0, hi0, hz0, hz1, hz2⟩ := info_parts info56
  obtain ⟨W, hrun, r1, r2⟩ := run_make_full (P := Try.prog) w 0 132 56 i0 _ 1 Try.underlying132 hi0 hz0 hz1 .i64 .i64 n (by rw [hz2]; omega) (by unfold maxLen; omega) (Nat.zero_le _)
  have hlt : w.heap.size < W.heap.size := by
    rcases r1.2 with ⟨h2, h3⟩ | ⟨g, cap, cur, h2, h4, h5, h6⟩
    · cases h2
    · simp only [Value.slice.injEq, Option.some.injEq, Addr.mk.injEq, and_true] at h2
      obtain ⟨rfl, -, rfl⟩ := h2
      exact (Array.getElem?_eq_some_iff.1 h5).1
  have F := Lib.hid (new_fin (by omega) r1 r2 hlt)
  have HLT := Lib.hid hlt
  clear r1 r2 hlt hz0 hz1 hz2
  by_cases h0 : room < 0
  · have e : (n : Int) = 0 := by omega
    rw [e] at hrun
    clear hn e
    go_enter Try.func52, Try.ntmps52
    go_wp2
    go_ret
    exact F.out
  · by_cases h1 : 1000 < room
    · have e : (n : Int) = 1000 := by omega
      rw [e] at hrun
      have hm : ¬ room < 0 := h0
      clear hn e
      go_enter Try.func52, Try.ntmps52
      go_wp2
      go_ret
      exact F.out
    · have e : (n : Int) = room := by omega
      rw [e] at hrun
      clear hn e
      go_enter Try.func52, Try.ntmps52
      go_wp2
      go_ret
      exact F.out

/-! ### As an object -/
def RObj (w : World) (F : Nat → Prop) (p cap : Nat) (s : List Nat) : Prop :=
  ∃ g fst cur, RRep w p g cap fst s.length cur ∧ (∀ i, i < s.length → cur[(fst + i) % cap]? = some (.slice (some ⟨s.getD i 0, 0, none⟩) 1 1)) ∧ ∀ k, F k ↔ (k = p ∨ k = g)
theorem RObj.lt {w : World} {F : Nat → Prop} {p cap : Nat} {s : List Nat} (h : RObj w F p cap s) {k : Nat} (hk : F k) : k < w.heap.size := by
  obtain ⟨g, fst, cur, hr, -, hF⟩ := h
  rcases (hF k).1 hk with rfl | rfl
  · exact (Array.getElem?_eq_some_iff.1 hr.top).1
  · exact (Array.getElem?_eq_some_iff.1 hr.row).1
theorem RObj.move {w w' : World} {F : Nat → Prop} {p cap : Nat} {s : List Nat} (h : RObj w F p cap s) (hb : ∀ k, F k → w'.heap[k]? = w.heap[k]?) : RObj w' F p cap s := by
  obtain ⟨g, fst, cur, hr, hc, hF⟩ := h
  exact ⟨g, fst, cur, ⟨(hb p ((hF p).2 (Or.inl rfl))).trans hr.top, (hb g ((hF g).2 (Or.inr rfl))).trans hr.row, hr.size, hr.ne, hr.few, hr.le, hr.first⟩, hc, hF⟩
theorem RObj.below {w w' : World} {F : Nat → Prop} {p cap : Nat} {s : List Nat} (h : RObj w F p cap s) (hb : Below w.heap.size w w') : RObj w' F p cap s := h.move (fun k hk => hb.block k (h.lt hk))
theorem RObj.touch {w w' : World} {F G : Nat → Prop} {p cap : Nat} {s : List Nat} (h : RObj w F p cap s) (ht : Hp.Touch G w w') (hd : ∀ k, F k → ¬ G k) : RObj w' F p cap s := h.move (fun k hk => ht.block k (h.lt hk) (hd k hk))
theorem RObj.le {w : World} {F : Nat → Prop} {p cap : Nat} {s : List Nat} (h : RObj w F p cap s) : s.length ≤ cap ∧ cap ≤ 1000 := by
  obtain ⟨g, fst, cur, hr, -, -⟩ := h
  exact ⟨hr.le, hr.few⟩
theorem obj_len {w : World} {F : Nat → Prop} {p cap : Nat} {s : List Nat} (h : RObj w F p cap s) : Calls Try.prog 55 #[.pointer (some ⟨p, 0, none⟩)] w fun e w' => e = .returned (.int .i64 s.length) ∧ w' = w := by
  obtain ⟨g, fst, cur, hr, -, -⟩ := h
  exact len_rep hr
theorem obj_room {w : World} {F : Nat → Prop} {p cap : Nat} {s : List Nat} (h : RObj w F p cap s) : Calls Try.prog 56 #[.pointer (some ⟨p, 0, none⟩)] w fun e w' => e = .returned (.int .i64 ((cap : Int) - s.length)) ∧ RObj w' F p cap s ∧ Below w.heap.size w w' := by
  have h0 := h
  obtain ⟨g, fst, cur, hr, -, -⟩ := h
  refine (room_rep hr).mono ?_
  rintro e w' ⟨rfl, hb⟩
  exact ⟨rfl, h0.below hb, hb⟩
theorem obj_at {w : World} {F : Nat → Prop} {p cap : Nat} {s : List Nat} (h : RObj w F p cap s) (i : Nat) (hi : i < s.length) : Calls Try.prog 54 #[.pointer (some ⟨p, 0, none⟩), .int .i64 i] w fun e w' => e = .returned (.tuple #[.slice (some ⟨s.getD i 0, 0, none⟩) 1 1, .bool true]) ∧ RObj w' F p cap s ∧ Below w.heap.size w w' := by
  have h0 := h
  obtain ⟨g, fst, cur, hr, hc, hF⟩ := h
  refine (at_rep hr i hi _ (hc i hi)).mono ?_
  rintro e w' ⟨rfl, hb⟩
  exact ⟨rfl, h0.below hb, hb⟩
theorem obj_at_no {w : World} {F : Nat → Prop} {p cap : Nat} {s : List Nat} (h : RObj w F p cap s) (i : Int) (hi : i < 0 ∨ (s.length : Int) ≤ i) : Calls Try.prog 54 #[.pointer (some ⟨p, 0, none⟩), .int .i64 i] w fun e w' => e = .returned (.tuple #[.slice none 0 0, .bool false]) ∧ w' = w := by
  obtain ⟨g, fst, cur, hr, hc, hF⟩ := h
  exact at_no hr i hi
theorem obj_put {w : World} {F : Nat → Prop} {p cap : Nat} {s : List Nat} (h : RObj w F p cap s) (v : Nat) (hn : s.length < cap) : Calls Try.prog 53 #[.pointer (some ⟨p, 0, none⟩), .slice (some ⟨v, 0, none⟩) 1 1] w fun e w' => e = .returned (.bool true) ∧ RObj w' F p cap (s ++ [v]) ∧ Hp.Touch F w w' := by
  obtain ⟨g, fst, cur, hr, hc, hF⟩ := h
  refine (put_rep hr v hn).mono ?_
  rintro e w' ⟨rfl, h1, h2⟩
  refine ⟨rfl, ⟨g, fst, _, by simpa using h1, fun i hi => ?_, hF⟩, h2.mono (fun k _ hk => (hF k).2 hk)⟩
  simp only [List.length_append, List.length_cons, List.length_nil, Nat.zero_add] at hi
  have hj : (fst + s.length) % cap < cur.size := by rw [hr.size]; exact Nat.mod_lt _ (by omega)
  have hfst : fst < cap := by rcases hr.first with q | q; exact q; omega
  by_cases c : i = s.length
  · subst c
    rw [Array.getElem?_setIfInBounds_self_of_lt hj]
    simp
  · have hi' : i < s.length := by omega
    have hne : (fst + s.length) % cap ≠ (fst + i) % cap := by
      intro e
      have h1 := Nat.div_add_mod (fst + s.length) cap
      have h2 := Nat.div_add_mod (fst + i) cap
      have a1 : (fst + s.length) / cap < 2 := Nat.div_lt_of_lt_mul (by omega)
      have a2 : (fst + i) / cap < 2 := Nat.div_lt_of_lt_mul (by omega)
      have b1 : (fst + s.length) / cap = 0 ∨ (fst + s.length) / cap = 1 := by generalize (fst + s.length) / cap = q at a1 ⊢; omega
      have b2 : (fst + i) / cap = 0 ∨ (fst + i) / cap = 1 := by generalize (fst + i) / cap = q at a2 ⊢; omega
      rcases b1 with b1 | b1 <;> rcases b2 with b2 | b2 <;> rw [b1] at h1 <;> rw [b2] at h2 <;> omega
    rw [Array.getElem?_setIfInBounds_ne hne, hc i hi']
    simp [List.getElem?_append_left hi']
theorem obj_full {w : World} {F : Nat → Prop} {p cap : Nat} {s : List Nat} (h : RObj w F p cap s) (v : Nat) (hn : ¬ s.length < cap) : Calls Try.prog 53 #[.pointer (some ⟨p, 0, none⟩), .slice (some ⟨v, 0, none⟩) 1 1] w fun e w' => e = .returned (.bool false) ∧ RObj w' F p cap s ∧ Below w.heap.size w w' := by
  have h0 := h
  obtain ⟨g, fst, cur, hr, hc, hF⟩ := h
  refine (put_full hr v hn).mono ?_
  rintro e w' ⟨rfl, hb⟩
  exact ⟨rfl, h0.below hb, hb⟩
theorem obj_new (room : Int) (w : World) (hr : -9223372036854775808 ≤ room ∧ room ≤ 9223372036854775807) : Calls Try.prog 52 #[.int .i64 room] w fun e w' => ∃ F p, e = .returned (.pointer (some ⟨p, 0, none⟩)) ∧ RObj w' F p (min (max room 0) 1000).toNat [] ∧ (∀ k, F k → w.heap.size ≤ k) ∧ Below w.heap.size w w' := by
  refine (new_walk room w (min (max room 0) 1000).toNat (by omega) hr).mono ?_
  rintro e w' ⟨⟨p, g, cur, rfl, h1, h2, h3⟩, hb⟩
  refine ⟨fun k => k = p ∨ k = g, p, rfl, ⟨g, 0, cur, h1, fun i hi => by simp at hi, fun _ => Iff.rfl⟩, ?_, hb⟩
  rintro k (rfl | rfl)
  · exact h2
  · exact h3
end Go.Proofs.Ytpmamgdblbplcaa.Rt
