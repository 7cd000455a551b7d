/- Rings of numbers, seats of numbers, seats of texts: all their functions. -/
import Derived.Test.YtpmamgdblbplcaaHInt
import Derived.OwnWalk
import Derived.OneCell

/-! YtpmamgdblbplcaaRing -/
namespace Go.Proofs.Ytpmamgdblbplcaa.Rg
open Go.RowKit
open Go.Proofs.Ytpmamgdblbplcaa.Hp (blk_set heap_drew blk_cell blk_frozen below_drewN)
set_option linter.unusedVariables false
set_option linter.unusedSimpArgs false

structure RRep (w : World) (p g cap fst n : Nat) (cur : Array Value) : Prop where
  top : w.heap[p]? = some (.cells #[.slice (some ⟨g, 0, none⟩) cap cap, .int .i64 fst, .int .i64 n] 118 (0, 0))
  row : w.heap[g]? = some (.cells cur 3 (0, 0))
  size : cur.size = cap
  ne : p ≠ g
  few : cap ≤ 1000
  le : n ≤ cap
  first : fst < cap ∨ cap = 0

theorem len_rep {w : World} {p g cap fst n : Nat} {cur : Array Value} (h : RRep w p g cap fst n cur) : Calls Try.prog 43 #[.pointer (some ⟨p, 0, none⟩)] w fun e w' => e = .returned (.int .i64 n) ∧ w' = w := by
  have c2 := (blk_cell h.top 2).trans (rfl : _ = some (Value.int .i64 n))
  go_enter Try.func43, Try.ntmps43
  go_wp2
  go_ret
  exact ⟨rfl, rfl⟩
theorem room_rep {w : World} {p g cap fst n : Nat} {cur : Array Value} (h : RRep w p g cap fst n cur) : Calls Try.prog 63 #[.pointer (some ⟨p, 0, none⟩)] w fun e w' => e = .returned (.int .i64 ((cap : Int) - n)) ∧ Below w.heap.size w w' := by
  have c0 := (blk_cell h.top 0).trans (rfl : _ = some (Value.slice (some ⟨g, 0, none⟩) cap cap))
  have c2 := (blk_cell h.top 2).trans (rfl : _ = some (Value.int .i64 n))
  have hf := h.few
  have hl := h.le
  clear h
  go_enter Try.func63, Try.ntmps63
  go_wp2
  go_region
  go_wp2
  go_ret
  exact ⟨rfl, below_drewN _ _⟩
theorem at_rep {w : World} {p g cap fst n : Nat} {cur : Array Value} (h : RRep w p g cap fst n cur) (i : Nat) (hi : i < n) (v : Value) (hv : cur[(fst + i) % cap]? = some v) : Calls Try.prog 61 #[.pointer (some ⟨p, 0, none⟩), .int .i64 i] w fun e w' => e = .returned (.tuple #[v, .bool true]) ∧ Below w.heap.size w w' := by
  have c0 := (blk_cell h.top 0).trans (rfl : _ = some (Value.slice (some ⟨g, 0, none⟩) cap cap))
  have c1 := (blk_cell h.top 1).trans (rfl : _ = some (Value.int .i64 fst))
  have HL := len_rep h
  have hq := (blk_cell h.row _).trans hv
  have hf := h.few
  have hl := h.le
  have hfs := h.first
  obtain ⟨j, hj⟩ : ∃ j, j = (fst + i) % cap := ⟨_, rfl⟩
  have hjc : j < cap := by rw [hj]; exact Nat.mod_lt _ (by omega)
  have E : ((fst : Int) + (i : Int)) % (cap : Int) = (j : Int) := by rw [hj]; norm_cast
  have hjc' : (j : Int) < (cap : Int) := by omega
  rw [← hj] at hq
  clear h hv hj
  go_enter Try.func61, Try.ntmps61
  go_wp2_with (go_at_call 43; refine HL.mono ?_; rintro e w1 ⟨rfl, rfl⟩)
  go_region
  go_wp2
  go_ret2
  exact ⟨rfl, below_drewN _ _⟩
theorem at_no {w : World} {p g cap fst n : Nat} {cur : Array Value} (h : RRep w p g cap fst n cur) (i : Int) (hi : i < 0 ∨ (n : Int) ≤ i) : Calls Try.prog 61 #[.pointer (some ⟨p, 0, none⟩), .int .i64 i] w fun e w' => e = .returned (.tuple #[.int .i64 0, .bool false]) ∧ w' = w := by
  have HL := len_rep h
  clear h
  by_cases h0 : i < 0
  · clear hi
    go_enter Try.func61, Try.ntmps61
    go_wp2_with (go_at_call 43; refine HL.mono ?_; rintro e w1 ⟨rfl, rfl⟩)
    go_ret2
    exact ⟨rfl, rfl⟩
  · have h1 : (n : Int) ≤ i := by omega
    clear hi
    go_enter Try.func61, Try.ntmps61
    go_wp2_with (go_at_call 43; refine HL.mono ?_; rintro e w1 ⟨rfl, rfl⟩)
    go_ret2
    exact ⟨rfl, rfl⟩
theorem put_full {w : World} {p g cap fst n : Nat} {cur : Array Value} (h : RRep w p g cap fst n cur) (v : Int) (hn : ¬ n < cap) : Calls Try.prog 42 #[.pointer (some ⟨p, 0, none⟩), .int .i64 v] w fun e w' => e = .returned (.bool false) ∧ Below w.heap.size w w' := by
  have HR := room_rep h
  have e : (cap : Int) - n = 0 := by have := h.le; omega
  rw [e] at HR
  clear h
  go_enter Try.func42, Try.ntmps42
  go_wp2_with (go_at_call 63; refine HR.mono ?_; rintro e w1 ⟨rfl, hb⟩)
  go_ret
  exact ⟨rfl, hb⟩
theorem RRep.below {w w' : World} {p g cap fst n : Nat} {cur : Array Value} (h : RRep w p g cap fst n cur) (hb : Below w.heap.size w w') : RRep w' p g cap fst n cur :=
  ⟨(hb.block p (Array.getElem?_eq_some_iff.1 h.top).1).trans h.top, (hb.block g (Array.getElem?_eq_some_iff.1 h.row).1).trans h.row, h.size, h.ne, h.few, h.le, h.first⟩
theorem put_rep {w : World} {p g cap fst n : Nat} {cur : Array Value} (h : RRep w p g cap fst n cur) (v : Int) (hn : n < cap) : Calls Try.prog 42 #[.pointer (some ⟨p, 0, none⟩), .int .i64 v] w fun e w' => e = .returned (.bool true) ∧
    RRep w' p g cap fst (n + 1) (cur.setIfInBounds ((fst + n) % cap) (.int .i64 v)) ∧ Hp.Touch (fun k => k = p ∨ k = g) w w' := by
  have HR := room_rep h
  have e : ¬ (cap : Int) - n = 0 := by omega
  obtain ⟨j, hj⟩ : ∃ j, j = (fst + n) % cap := ⟨_, rfl⟩
  have hjc : j < cap := by rw [hj]; exact Nat.mod_lt _ (by omega)
  have E : ((fst : Int) + (n : Int)) % (cap : Int) = (j : Int) := by rw [hj]; norm_cast
  have hjc' : (j : Int) < (cap : Int) := by omega
  have hf := h.few
  have hfs := h.first
  rw [← hj]
  obtain ⟨u, hu⟩ : ∃ u, cur[j]? = some u := ⟨_, Array.getElem?_eq_getElem (by rw [h.size]; exact hjc)⟩
  have H := Lib.hid h
  clear h hj
  go_enter Try.func42, Try.ntmps42
  go_wp2_with (go_at_call 63; refine HR.mono ?_; rintro e w1 ⟨rfl, hb⟩; have HB := Lib.hid hb; have h1 := H.out.below hb; have c0 := (blk_cell h1.top 0).trans (rfl : _ = some (Value.slice (some ⟨g, 0, none⟩) cap cap)); have c1 := (blk_cell h1.top 1).trans (rfl : _ = some (Value.int .i64 fst)); have c2 := (blk_cell h1.top 2).trans (rfl : _ = some (Value.int .i64 n)); have f2 := blk_frozen h1.top 2; have cj := (blk_cell h1.row j).trans hu; have fj := blk_frozen h1.row j; have hne := h1.ne; have hne' := hne.symm; have H1 := Lib.hid h1; clear hb h1)
  go_region
  go_wp2_with fail
  go_ret
  have hsz : (cur.setIfInBounds j (.int .i64 v)).size = cap := by rw [Array.size_setIfInBounds]; exact H1.out.size
  refine ⟨rfl, ⟨?_, ?_, hsz, hne, hf, by omega, hfs⟩, ?_⟩
  · have t1 : (w1.setCell ⟨g, j, none⟩ (.int .i64 v)).heap[p]? = _ := (Below.heap_setCell w1 ⟨g, j, none⟩ _ p hne).trans H1.out.top
    have t2 := blk_set t1 2 (.int .i64 ((n : Int) + 1))
    rw [heap_drew]
    exact t2
  · have t1 := blk_set H1.out.row j (.int .i64 v)
    rw [heap_drew, Below.heap_setCell _ ⟨p, 2, none⟩ _ g hne']
    exact t1
  · exact ((((Hp.Touch.of_below HB.out).setCell (p := ⟨g, j, none⟩) (Or.inr rfl) _).setCell (p := ⟨p, 2, none⟩) (Or.inl rfl) _)).drew

theorem take_rep {w : World} {p g cap fst n : Nat} {cur : Array Value} (h : RRep w p g cap fst n cur) (hn : 0 < n) (v : Value) (hv : cur[fst % cap]? = some v) : Calls Try.prog 44 #[.pointer (some ⟨p, 0, none⟩)] w fun e w' => e = .returned (.tuple #[v, .bool true]) ∧
    RRep w' p g cap ((fst + 1) % cap) (n - 1) cur ∧ Hp.Touch (fun k => k = p ∨ k = g) w w' := by
  have HA := at_rep h 0 hn v (by simpa using hv)
  obtain ⟨j, hj⟩ : ∃ j, j = (fst + 1) % cap := ⟨_, rfl⟩
  have hle := h.le
  have hjc : j < cap := by rw [hj]; exact Nat.mod_lt _ (by omega)
  have E : ((fst : Int) + 1) % (cap : Int) = (j : Int) := by rw [hj]; norm_cast
  have hf := h.few
  have hfs : fst < cap := by rcases h.first with h | h; exact h; omega
  have hc0 : ¬ cap = 0 := by omega
  obtain ⟨m, hm⟩ : ∃ m, n = m + 1 := ⟨n - 1, by omega⟩
  subst hm
  rw [← hj, Nat.add_sub_cancel]
  have H := Lib.hid h
  clear h hj hv
  go_enter Try.func44, Try.ntmps44
  go_wp2_with (go_at_call 61; refine HA.mono ?_; rintro e w1 ⟨rfl, hb⟩; have HB := Lib.hid hb; have h1 := H.out.below hb; have c0 := (blk_cell h1.top 0).trans (rfl : _ = some (Value.slice (some ⟨g, 0, none⟩) cap cap)); have c1 := (blk_cell h1.top 1).trans (rfl : _ = some (Value.int .i64 fst)); have c2 := (blk_cell h1.top 2).trans (rfl : _ = some (Value.int .i64 ((m + 1 : Nat) : Int))); have f2 := blk_frozen h1.top 2; have f1 := blk_frozen h1.top 1; have hne := h1.ne; have hne' := hne.symm; have H1 := Lib.hid h1; clear hb h1)
  go_region
  go_wp2_with fail
  go_ret2
  refine ⟨rfl, ⟨?_, ?_, H1.out.size, hne, hf, by omega, Or.inl hjc⟩, ?_⟩
  · rw [heap_drew]
    exact blk_set (blk_set H1.out.top 1 (.int .i64 (j : Int))) 2 (.int .i64 (m : Int))
  · rw [heap_drew, Below.heap_setCell _ ⟨p, 2, none⟩ _ g hne', Below.heap_setCell _ ⟨p, 1, none⟩ _ g hne']
    exact H1.out.row
  · exact ((((Hp.Touch.of_below HB.out).setCell (p := ⟨p, 1, none⟩) (Or.inl rfl) _).setCell (p := ⟨p, 2, none⟩) (Or.inl rfl) _)).drew
theorem take_no {w : World} {p g cap fst n : Nat} {cur : Array Value} (h : RRep w p g cap fst n cur) (hn : n = 0) : Calls Try.prog 44 #[.pointer (some ⟨p, 0, none⟩)] w fun e w' => e = .returned (.tuple #[.int .i64 0, .bool false]) ∧ w' = w := by
  have HA := at_no h 0 (Or.inr (by omega))
  clear h
  go_enter Try.func44, Try.ntmps44
  go_wp2_with (go_at_call 61; refine HA.mono ?_; rintro e w1 ⟨rfl, rfl⟩)
  go_ret2
  exact ⟨rfl, rfl⟩
theorem first_by {p : Nat} {w : World} {Q : Ending → World → Prop} (h : Calls Try.prog 61 #[.pointer (some ⟨p, 0, none⟩), .int .i64 0] w fun e w' => ∃ v b, e = .returned (.tuple #[v, .bool b]) ∧ Q (.returned (.tuple #[v, .bool b])) w') : Calls Try.prog 62 #[.pointer (some ⟨p, 0, none⟩)] w Q := by
  go_enter Try.func62, Try.ntmps62
  go_wp2_with (go_at_call 61; refine h.mono ?_; rintro e w1 ⟨v, b, rfl, hq⟩)
  exact hq
theorem info3 : (Try.prog.info? 3).map (fun i => (i.zero, i.size, i.bytes)) = some (some (.int .i64 0), 1, 8) := by kernel_rfl
/-- what New leaves -/
def NewP (w : World) (n : Nat) (e : Ending) (w' : World) : Prop := (∃ p g cur, e = .returned (.pointer (some ⟨p, 0, none⟩)) ∧ RRep w' p g n 0 0 cur ∧ w.heap.size ≤ p ∧ w.heap.size ≤ g) ∧ Below w.heap.size w w'
theorem new_fin {w W : World} {n : Nat} (hn : n ≤ 1000) (r1 : W.ownsRow 0 3 1 (.slice (some ⟨w.heap.size, 0, none⟩) n n) n (madeCells (Value.int .i64 0).cells (n * 1)).toList) (r2 : w.grownBy W none) (hlt : w.heap.size < W.heap.size) :
    NewP w n (.returned (.pointer (some ⟨W.heap.size, 0, none⟩))) (W.alloc (.cells #[.slice (some ⟨w.heap.size, 0, none⟩) n n, .int .i64 0, .int .i64 0] 118)) := by
  rcases r1.2 with ⟨h2, h3⟩ | ⟨g, cap, cur, h2, h4, h5, h6, h7, h8, h9⟩
  · cases h2
  · simp only [Value.slice.injEq, Option.some.injEq, Addr.mk.injEq, and_true] at h2
    obtain ⟨rfl, -, rfl⟩ := h2
    have hg := (Array.getElem?_eq_some_iff.1 h5).1
    refine ⟨⟨W.heap.size, w.heap.size, cur, rfl, ⟨heap_alloc_new W _, (Below.heap_alloc W _ _ hg).trans h5, by simpa using h8, by omega, hn, Nat.zero_le _, by omega⟩, by omega, Nat.le_refl _⟩, ?_⟩
    have b1 : Below w.heap.size w W := ⟨r2.os, r2.tape, r2.output, r2.size, fun k hk => r2.block k hk (by simp)⟩
    exact b1.alloc (by omega) _
theorem new_walk (room : Int) (w : World) (n : Nat) (hn : (n : Int) = min (max room 0) 1000) (hr : -9223372036854775808 ≤ room ∧ room ≤ 9223372036854775807) : Calls Try.prog 41 #[.int .i64 room] w (NewP w n) := by
  obtain ⟨i0, hi0, hz0, hz1, hz2⟩ := info_parts info3
  obtain ⟨W, hrun, r1, r2⟩ := run_make_full (P := Try.prog) w 0 47 3 i0 _ 1 Try.underlying47 hi0 hz0 hz1 .i64 .i64 n (by rw [hz2]; omega) (by unfold maxLen; omega) (Nat.zero_le _)
  have hlt : w.heap.size < W.heap.size := by
    rcases r1.2 with ⟨h2, h3⟩ | ⟨g, cap, cur, h2, h4, h5, h6⟩
    · cases h2
    · simp only [Value.slice.injEq, Option.some.injEq, Addr.mk.injEq, and_true] at h2
      obtain ⟨rfl, -, rfl⟩ := h2
      exact (Array.getElem?_eq_some_iff.1 h5).1
  have F := Lib.hid (new_fin (by omega) r1 r2 hlt)
  have HLT := Lib.hid hlt
  clear r1 r2 hlt hz0 hz1 hz2
  by_cases h0 : room < 0
  · have e : (n : Int) = 0 := by omega
    rw [e] at hrun
    clear hn e
    go_enter Try.func41, Try.ntmps41
    go_wp2
    go_ret
    exact F.out
  · by_cases h1 : 1000 < room
    · have e : (n : Int) = 1000 := by omega
      rw [e] at hrun
      have hm : ¬ room < 0 := h0
      clear hn e
      go_enter Try.func41, Try.ntmps41
      go_wp2
      go_ret
      exact F.out
    · have e : (n : Int) = room := by omega
      rw [e] at hrun
      clear hn e
      go_enter Try.func41, Try.ntmps41
      go_wp2
      go_ret
      exact F.out

/-! ### As an object -/
def RObj (w : World) (F : Nat → Prop) (p cap : Nat) (s : List Int) : Prop :=
  ∃ g fst cur, RRep w p g cap fst s.length cur ∧ (∀ i, i < s.length → cur[(fst + i) % cap]? = some (.int .i64 (s.getD i 0))) ∧ ∀ k, F k ↔ (k = p ∨ k = g)
theorem RObj.lt {w : World} {F : Nat → Prop} {p cap : Nat} {s : List Int} (h : RObj w F p cap s) {k : Nat} (hk : F k) : k < w.heap.size := by
  obtain ⟨g, fst, cur, hr, -, hF⟩ := h
  rcases (hF k).1 hk with rfl | rfl
  · exact (Array.getElem?_eq_some_iff.1 hr.top).1
  · exact (Array.getElem?_eq_some_iff.1 hr.row).1
theorem RObj.move {w w' : World} {F : Nat → Prop} {p cap : Nat} {s : List Int} (h : RObj w F p cap s) (hb : ∀ k, F k → w'.heap[k]? = w.heap[k]?) : RObj w' F p cap s := by
  obtain ⟨g, fst, cur, hr, hc, hF⟩ := h
  exact ⟨g, fst, cur, ⟨(hb p ((hF p).2 (Or.inl rfl))).trans hr.top, (hb g ((hF g).2 (Or.inr rfl))).trans hr.row, hr.size, hr.ne, hr.few, hr.le, hr.first⟩, hc, hF⟩
theorem RObj.below {w w' : World} {F : Nat → Prop} {p cap : Nat} {s : List Int} (h : RObj w F p cap s) (hb : Below w.heap.size w w') : RObj w' F p cap s := h.move (fun k hk => hb.block k (h.lt hk))
theorem RObj.touch {w w' : World} {F G : Nat → Prop} {p cap : Nat} {s : List Int} (h : RObj w F p cap s) (ht : Hp.Touch G w w') (hd : ∀ k, F k → ¬ G k) : RObj w' F p cap s := h.move (fun k hk => ht.block k (h.lt hk) (hd k hk))
theorem RObj.le {w : World} {F : Nat → Prop} {p cap : Nat} {s : List Int} (h : RObj w F p cap s) : s.length ≤ cap ∧ cap ≤ 1000 := by
  obtain ⟨g, fst, cur, hr, -, -⟩ := h
  exact ⟨hr.le, hr.few⟩
theorem obj_len {w : World} {F : Nat → Prop} {p cap : Nat} {s : List Int} (h : RObj w F p cap s) : Calls Try.prog 43 #[.pointer (some ⟨p, 0, none⟩)] w fun e w' => e = .returned (.int .i64 s.length) ∧ w' = w := by
  obtain ⟨g, fst, cur, hr, -, -⟩ := h
  exact len_rep hr
theorem obj_room {w : World} {F : Nat → Prop} {p cap : Nat} {s : List Int} (h : RObj w F p cap s) : Calls Try.prog 63 #[.pointer (some ⟨p, 0, none⟩)] w fun e w' => e = .returned (.int .i64 ((cap : Int) - s.length)) ∧ RObj w' F p cap s ∧ Below w.heap.size w w' := by
  have h0 := h
  obtain ⟨g, fst, cur, hr, -, -⟩ := h
  refine (room_rep hr).mono ?_
  rintro e w' ⟨rfl, hb⟩
  exact ⟨rfl, h0.below hb, hb⟩
theorem obj_at {w : World} {F : Nat → Prop} {p cap : Nat} {s : List Int} (h : RObj w F p cap s) (i : Nat) (hi : i < s.length) : Calls Try.prog 61 #[.pointer (some ⟨p, 0, none⟩), .int .i64 i] w fun e w' => e = .returned (.tuple #[.int .i64 (s.getD i 0), .bool true]) ∧ RObj w' F p cap s ∧ Below w.heap.size w w' := by
  have h0 := h
  obtain ⟨g, fst, cur, hr, hc, hF⟩ := h
  refine (at_rep hr i hi _ (hc i hi)).mono ?_
  rintro e w' ⟨rfl, hb⟩
  exact ⟨rfl, h0.below hb, hb⟩
theorem obj_at_no {w : World} {F : Nat → Prop} {p cap : Nat} {s : List Int} (h : RObj w F p cap s) (i : Int) (hi : i < 0 ∨ (s.length : Int) ≤ i) : Calls Try.prog 61 #[.pointer (some ⟨p, 0, none⟩), .int .i64 i] w fun e w' => e = .returned (.tuple #[.int .i64 0, .bool false]) ∧ w' = w := by
  obtain ⟨g, fst, cur, hr, hc, hF⟩ := h
  exact at_no hr i hi
theorem obj_put {w : World} {F : Nat → Prop} {p cap : Nat} {s : List Int} (h : RObj w F p cap s) (v : Int) (hn : s.length < cap) : Calls Try.prog 42 #[.pointer (some ⟨p, 0, none⟩), .int .i64 v] w fun e w' => e = .returned (.bool true) ∧ RObj w' F p cap (s ++ [v]) ∧ Hp.Touch F w w' := by
  obtain ⟨g, fst, cur, hr, hc, hF⟩ := h
  refine (put_rep hr v hn).mono ?_
  rintro e w' ⟨rfl, h1, h2⟩
  refine ⟨rfl, ⟨g, fst, _, by simpa using h1, fun i hi => ?_, hF⟩, h2.mono (fun k _ hk => (hF k).2 hk)⟩
  simp only [List.length_append, List.length_cons, List.length_nil, Nat.zero_add] at hi
  have hj : (fst + s.length) % cap < cur.size := by rw [hr.size]; exact Nat.mod_lt _ (by omega)
  have hfst : fst < cap := by rcases hr.first with q | q; exact q; omega
  by_cases c : i = s.length
  · subst c
    rw [Array.getElem?_setIfInBounds_self_of_lt hj]
    simp
  · have hi' : i < s.length := by omega
    have hne : (fst + s.length) % cap ≠ (fst + i) % cap := by
      intro e
      have h1 := Nat.div_add_mod (fst + s.length) cap
      have h2 := Nat.div_add_mod (fst + i) cap
      have a1 : (fst + s.length) / cap < 2 := Nat.div_lt_of_lt_mul (by omega)
      have a2 : (fst + i) / cap < 2 := Nat.div_lt_of_lt_mul (by omega)
      have b1 : (fst + s.length) / cap = 0 ∨ (fst + s.length) / cap = 1 := by generalize (fst + s.length) / cap = q at a1 ⊢; omega
      have b2 : (fst + i) / cap = 0 ∨ (fst + i) / cap = 1 := by generalize (fst + i) / cap = q at a2 ⊢; omega
      rcases b1 with b1 | b1 <;> rcases b2 with b2 | b2 <;> rw [b1] at h1 <;> rw [b2] at h2 <;> omega
    rw [Array.getElem?_setIfInBounds_ne hne, hc i hi']
    simp [List.getElem?_append_left hi']
theorem obj_full {w : World} {F : Nat → Prop} {p cap : Nat} {s : List Int} (h : RObj w F p cap s) (v : Int) (hn : ¬ s.length < cap) : Calls Try.prog 42 #[.pointer (some ⟨p, 0, none⟩), .int .i64 v] w fun e w' => e = .returned (.bool false) ∧ RObj w' F p cap s ∧ Below w.heap.size w w' := by
  have h0 := h
  obtain ⟨g, fst, cur, hr, hc, hF⟩ := h
  refine (put_full hr v hn).mono ?_
  rintro e w' ⟨rfl, hb⟩
  exact ⟨rfl, h0.below hb, hb⟩
theorem obj_take {w : World} {F : Nat → Prop} {p cap : Nat} {v : Int} {s : List Int} (h : RObj w F p cap (v :: s)) : Calls Try.prog 44 #[.pointer (some ⟨p, 0, none⟩)] w fun e w' => e = .returned (.tuple #[.int .i64 v, .bool true]) ∧ RObj w' F p cap s ∧ Hp.Touch F w w' := by
  obtain ⟨g, fst, cur, hr, hc, hF⟩ := h
  have h0 := hc 0 (by simp)
  refine (take_rep hr (by simp) (.int .i64 v) (by simpa using h0)).mono ?_
  rintro e w' ⟨rfl, h1, h2⟩
  refine ⟨rfl, ⟨g, (fst + 1) % cap, cur, by simpa using h1, fun i hi => ?_, hF⟩, h2.mono (fun k _ hk => (hF k).2 hk)⟩
  have := hc (i + 1) (by simp; omega)
  rw [Nat.mod_add_mod, Nat.add_assoc, Nat.add_comm 1 i, this]
  simp
theorem obj_take_no {w : World} {F : Nat → Prop} {p cap : Nat} (h : RObj w F p cap []) : Calls Try.prog 44 #[.pointer (some ⟨p, 0, none⟩)] w fun e w' => e = .returned (.tuple #[.int .i64 0, .bool false]) ∧ w' = w := by
  obtain ⟨g, fst, cur, hr, hc, hF⟩ := h
  exact take_no hr rfl
theorem obj_new (room : Int) (w : World) (hr : -9223372036854775808 ≤ room ∧ room ≤ 9223372036854775807) : Calls Try.prog 41 #[.int .i64 room] w fun e w' => ∃ F p, e = .returned (.pointer (some ⟨p, 0, none⟩)) ∧ RObj w' F p (min (max room 0) 1000).toNat [] ∧ (∀ k, F k → w.heap.size ≤ k) ∧ Below w.heap.size w w' := by
  refine (new_walk room w (min (max room 0) 1000).toNat (by omega) hr).mono ?_
  rintro e w' ⟨⟨p, g, cur, rfl, h1, h2, h3⟩, hb⟩
  refine ⟨fun k => k = p ∨ k = g, p, rfl, ⟨g, 0, cur, h1, fun i hi => by simp at hi, fun _ => Iff.rfl⟩, ?_, hb⟩
  rintro k (rfl | rfl)
  · exact h2
  · exact h3
theorem nil_len (w : World) : Calls Try.prog 43 #[.pointer none] w fun e w' => e = .returned (.int .i64 0) ∧ w' = w := by
  go_enter Try.func43, Try.ntmps43
  go_wp2
  go_ret
  exact ⟨rfl, rfl⟩
theorem nil_room (w : World) : Calls Try.prog 63 #[.pointer none] w fun e w' => e = .returned (.int .i64 0) ∧ w' = w := by
  go_enter Try.func63, Try.ntmps63
  go_wp2
  go_ret
  exact ⟨rfl, rfl⟩
theorem nil_put (v : Int) (w : World) : Calls Try.prog 42 #[.pointer none, .int .i64 v] w fun e w' => e = .returned (.bool false) ∧ w' = w := by
  go_enter Try.func42, Try.ntmps42
  go_wp2_with (go_at_call 63; refine (nil_room _).mono ?_; rintro e w1 ⟨rfl, rfl⟩)
  go_ret
  exact ⟨rfl, rfl⟩
theorem nil_at (w : World) : Calls Try.prog 61 #[.pointer none, .int .i64 0] w fun e w' => e = .returned (.tuple #[.int .i64 0, .bool false]) ∧ w' = w := by
  go_enter Try.func61, Try.ntmps61
  go_wp2_with (go_at_call 43; refine (nil_len _).mono ?_; rintro e w1 ⟨rfl, rfl⟩)
  go_ret2
  exact ⟨rfl, rfl⟩
theorem nil_take (w : World) : Calls Try.prog 44 #[.pointer none] w fun e w' => e = .returned (.tuple #[.int .i64 0, .bool false]) ∧ w' = w := by
  go_enter Try.func44, Try.ntmps44
  go_wp2_with (go_at_call 61; refine (nil_at _).mono ?_; rintro e w1 ⟨rfl, rfl⟩)
  go_ret2
  exact ⟨rfl, rfl⟩
theorem nil_first (w : World) : Calls Try.prog 62 #[.pointer none] w fun e w' => e = .returned (.tuple #[.int .i64 0, .bool false]) ∧ w' = w := by
  go_enter Try.func62, Try.ntmps62
  go_wp2_with (go_at_call 61; refine (nil_at _).mono ?_; rintro e w1 ⟨rfl, rfl⟩)
  go_ret2
  exact ⟨rfl, rfl⟩
end Go.Proofs.Ytpmamgdblbplcaa.Rg

/-! YtpmamgdblbplcaaSeat -/
namespace Go.Proofs.Ytpmamgdblbplcaa.St
open Go.RowKit
open Go.Proofs.Ytpmamgdblbplcaa.Hp (blk_set heap_drew blk_cell blk_frozen below_drewN)
set_option linter.unusedVariables false
set_option linter.unusedSimpArgs false

abbrev P := Int × Bool
def zp : P := (0, false)
def sc (x : P) : List Value := [.int .i64 x.1, .bool x.2]
def cellsOf (s : List P) : List Value := s.flatMap sc
theorem cellsOf_length (s : List P) : (cellsOf s).length = s.length * 2 := by
  induction s with
  | nil => rfl
  | cons a t ih => unfold cellsOf at *; rw [List.flatMap_cons, List.length_append, ih]; simp [sc]; omega
theorem cellsOf_get (s : List P) (i j : Nat) (hi : i < s.length) (hj : j < 2) : (cellsOf s)[i * 2 + j]? = (sc (s.getD i zp))[j]? := by
  induction s generalizing i with
  | nil => simp at hi
  | cons a t ih =>
    unfold cellsOf at *
    rw [List.flatMap_cons]
    cases i with
    | zero =>
      rw [List.getElem?_append_left (by simp [sc]; omega)]
      simp
    | succ i =>
      have hl : (sc a).length = 2 := rfl
      rw [List.getElem?_append_right (by rw [hl]; omega), hl, show (i + 1) * 2 + j - 2 = i * 2 + j from by omega, ih i (by simpa using hi)]
      simp
theorem cellsOf_set (s : List P) (i : Nat) (x : P) (hi : i < s.length) : cellsOf (s.set i x) = ((cellsOf s).set (i * 2) (.int .i64 x.1)).set (i * 2 + 1) (.bool x.2) := by
  induction s generalizing i with
  | nil => simp at hi
  | cons a t ih =>
    unfold cellsOf at *
    cases i with
    | zero => simp [List.flatMap_cons, sc]
    | succ i =>
      rw [List.set_cons_succ, List.flatMap_cons, List.flatMap_cons, ih i (by simpa using hi)]
      have : (i + 1) * 2 = i * 2 + 1 + 1 := by omega
      rw [this]
      simp [sc]

structure SRep (w : World) (p g : Nat) (s : List P) : Prop where
  top : w.heap[p]? = some (.cells #[.slice (some ⟨g, 0, none⟩) s.length s.length] 148 (0, 0))
  row : w.heap[g]? = some (.cells (cellsOf s).toArray 150 (0, 0))
  ne : p ≠ g
  few : s.length ≤ 100
theorem SRep.below {w w' : World} {p g : Nat} {s : List P} (h : SRep w p g s) (hb : Below w.heap.size w w') : SRep w' p g s :=
  ⟨(hb.block p (Array.getElem?_eq_some_iff.1 h.top).1).trans h.top, (hb.block g (Array.getElem?_eq_some_iff.1 h.row).1).trans h.row, h.ne, h.few⟩
theorem SRep.cell {w : World} {p g : Nat} {s : List P} (h : SRep w p g s) (i j : Nat) (hi : i < s.length) (hj : j < 2) : w.cell? ⟨g, i * 2 + j, none⟩ = (sc (s.getD i zp))[j]? := by
  rw [blk_cell h.row, ← cellsOf_get s i j hi hj]
  simp
/-- one seat turned -/
theorem SRep.put {w : World} {p g : Nat} {s : List P} (h : SRep w p g s) (i : Nat) (hi : i < s.length) (x : P) : SRep ((w.setCell ⟨g, i * 2, none⟩ (.int .i64 x.1)).setCell ⟨g, i * 2 + 1, none⟩ (.bool x.2)) p g (s.set i x) := by
  refine ⟨?_, ?_, h.ne, by simpa using h.few⟩
  · rw [Below.heap_setCell _ _ _ p h.ne, Below.heap_setCell _ _ _ p h.ne, h.top]
    simp
  · rw [blk_set (blk_set h.row (i * 2) (.int .i64 x.1)) (i * 2 + 1) (.bool x.2), cellsOf_set _ _ _ hi]
    simp [List.setIfInBounds_toArray]

theorem at_yes {w : World} {p g : Nat} {s : List P} (h : SRep w p g s) (i : Nat) (hi : i < s.length) (ht : (s.getD i zp).2 = true) (id : Int) (hid : id = (i : Int) + 1) :
    Calls Try.prog 104 #[.pointer (some ⟨p, 0, none⟩), .int .i64 id] w fun e w' => e = .returned (.pointer (some ⟨g, i * 2, none⟩)) ∧ w' = w := by
  obtain ⟨n, hn⟩ : ∃ n, n = s.length := ⟨_, rfl⟩
  have c0 := (blk_cell h.top 0).trans (rfl : _ = some (Value.slice (some ⟨g, 0, none⟩) s.length s.length))
  have ct := h.cell i 1 hi (by omega)
  have ct' : w.cell? ⟨g, i * 2 + 1, none⟩ = some (.bool true) := by rw [ct, ← ht]; rfl
  have hf := h.few
  rw [← hn] at c0 hi hf
  clear h ht ct hn
  have hi' : (i : Int) < (n : Int) := by omega
  have h1 : ¬ ((i : Int) + 1 < 1) := by omega
  have h2 : ¬ ((i : Int) + 1 > (n : Int)) := by omega
  subst hid
  go_enter Try.func104, Try.ntmps104
  go_wp2
  go_ret
  exact ⟨rfl, rfl⟩
/-- is a seat of that number taken? -/
def taken (s : List P) (id : Int) : Prop := 1 ≤ id ∧ id ≤ s.length ∧ (s.getD (id - 1).toNat zp).2 = true
theorem at_no {w : World} {p g : Nat} {s : List P} (h : SRep w p g s) (id : Int) (hn : ¬ taken s id) :
    Calls Try.prog 104 #[.pointer (some ⟨p, 0, none⟩), .int .i64 id] w fun e w' => e = .returned (.pointer none) ∧ w' = w := by
  by_cases h1 : id < 1
  · clear h hn
    go_enter Try.func104, Try.ntmps104
    go_wp2
    go_ret
    exact ⟨rfl, rfl⟩
  · by_cases h2 : id > (s.length : Int)
    · obtain ⟨n, hn'⟩ : ∃ n, n = s.length := ⟨_, rfl⟩
      have c0 := (blk_cell h.top 0).trans (rfl : _ = some (Value.slice (some ⟨g, 0, none⟩) s.length s.length))
      rw [← hn'] at c0 h2
      clear h hn hn'
      go_enter Try.func104, Try.ntmps104
      go_wp2
      go_ret
      exact ⟨rfl, rfl⟩
    · obtain ⟨i, hi⟩ : ∃ i : Nat, id = (i : Int) + 1 := ⟨(id - 1).toNat, by omega⟩
      subst hi
      have hi : i < s.length := by omega
      have ht : (s.getD i zp).2 = false := by
        refine Bool.eq_false_iff.2 (fun q => hn ⟨by omega, by omega, ?_⟩)
        rw [show ((i : Int) + 1 - 1).toNat = i by omega]; exact q
      obtain ⟨n, hn'⟩ : ∃ n, n = s.length := ⟨_, rfl⟩
      have c0 := (blk_cell h.top 0).trans (rfl : _ = some (Value.slice (some ⟨g, 0, none⟩) s.length s.length))
      have ct := h.cell i 1 hi (by omega)
      have ct' : w.cell? ⟨g, i * 2 + 1, none⟩ = some (.bool false) := by rw [ct, ← ht]; rfl
      have hf := h.few
      rw [← hn'] at c0 hi hf h2
      clear h ht ct hn hn'
      have hi' : (i : Int) < (n : Int) := by omega
      go_enter Try.func104, Try.ntmps104
      go_wp2
      go_ret
      exact ⟨rfl, rfl⟩
theorem nil_at (id : Int) (w : World) : Calls Try.prog 104 #[.pointer none, .int .i64 id] w fun e w' => e = .returned (.pointer none) ∧ w' = w := by
  go_enter Try.func104, Try.ntmps104
  go_wp2
  go_ret
  exact ⟨rfl, rfl⟩
theorem taken_nat {s : List P} {id : Int} (h : taken s id) : ∃ i : Nat, id = (i : Int) + 1 ∧ i < s.length ∧ (s.getD i zp).2 = true := by
  obtain ⟨h1, h2, h3⟩ := h
  exact ⟨(id - 1).toNat, by omega, by omega, h3⟩

theorem get_yes {w : World} {p g : Nat} {s : List P} (h : SRep w p g s) (i : Nat) (hi : i < s.length) (ht : (s.getD i zp).2 = true) (id : Int) (hid : id = (i : Int) + 1) :
    Calls Try.prog 80 #[.pointer (some ⟨p, 0, none⟩), .int .i64 id] w fun e w' => e = .returned (.tuple #[.int .i64 (s.getD i zp).1, .bool true]) ∧ w' = w := by
  have HA := at_yes h i hi ht id hid
  have ct := h.cell i 0 hi (by omega)
  have ct' : w.cell? ⟨g, i * 2, none⟩ = some (.int .i64 (s.getD i zp).1) := ct
  clear h ht ct hid
  generalize (s.getD i zp).1 = u at ct' ⊢
  go_enter Try.func80, Try.ntmps80
  go_wp2_with (go_at_call 104; refine HA.mono ?_; rintro e w1 ⟨rfl, rfl⟩)
  go_ret2
  exact ⟨rfl, rfl⟩
theorem get_no {w : World} {p : Value} (id : Int) (HA : Calls Try.prog 104 #[p, .int .i64 id] w fun e w' => e = .returned (.pointer none) ∧ w' = w) :
    Calls Try.prog 80 #[p, .int .i64 id] w fun e w' => e = .returned (.tuple #[.int .i64 0, .bool false]) ∧ w' = w := by
  go_enter Try.func80, Try.ntmps80
  go_wp2_with (go_at_call 104; refine HA.mono ?_; rintro e w1 ⟨rfl, rfl⟩)
  go_ret2
  exact ⟨rfl, rfl⟩
theorem set_yes {w : World} {p g : Nat} {s : List P} (h : SRep w p g s) (i : Nat) (hi : i < s.length) (ht : (s.getD i zp).2 = true) (id v : Int) (hid : id = (i : Int) + 1) :
    Calls Try.prog 81 #[.pointer (some ⟨p, 0, none⟩), .int .i64 id, .int .i64 v] w fun e w' => e = .returned (.bool true) ∧ SRep w' p g (s.set i (v, true)) ∧ Hp.Touch (fun k => k = p ∨ k = g) w w' := by
  have HA := at_yes h i hi ht id hid
  have ct := h.cell i 0 hi (by omega)
  have ct' : w.cell? ⟨g, i * 2, none⟩ = some (.int .i64 (s.getD i zp).1) := ct
  have cf := blk_frozen h.row (i * 2)
  have H := Lib.hid h
  have HT := Lib.hid ht
  clear h ht ct hid
  go_enter Try.func81, Try.ntmps81
  go_wp2_with (go_at_call 104; refine HA.mono ?_; rintro e w1 ⟨rfl, rfl⟩)
  go_ret
  refine ⟨rfl, ?_, (Hp.Touch.refl _ _).setCell (p := ⟨g, i * 2, none⟩) (Or.inr rfl) _⟩
  have h := H.out
  refine ⟨?_, ?_, h.ne, by simpa using h.few⟩
  · rw [Below.heap_setCell _ _ _ p h.ne, h.top]; simp
  · rw [blk_set h.row (i * 2) (.int .i64 v), cellsOf_set _ _ _ hi]
    have e : (cellsOf s).set (i * 2) (.int .i64 v) = ((cellsOf s).set (i * 2) (.int .i64 v)).set (i * 2 + 1) (.bool true) := by
      have q := cellsOf_get s i 1 hi (by omega)
      have q2 : (cellsOf s)[i * 2 + 1]? = some (.bool true) := by rw [q, ← HT.out]; rfl
      apply List.ext_getElem?
      intro k
      rw [List.getElem?_set (i := i * 2 + 1)]
      by_cases c : i * 2 + 1 = k
      · subst c
        rw [if_pos rfl, List.getElem?_set_ne (by omega), q2]
        have : i * 2 + 1 < (cellsOf s).length := (List.getElem?_eq_some_iff.1 q2).1
        simp [this]
      · rw [if_neg c]
    simp only [List.setIfInBounds_toArray]
    rw [← e]
theorem set_no {w : World} {p : Value} (id v : Int) (HA : Calls Try.prog 104 #[p, .int .i64 id] w fun e w' => e = .returned (.pointer none) ∧ w' = w) :
    Calls Try.prog 81 #[p, .int .i64 id, .int .i64 v] w fun e w' => e = .returned (.bool false) ∧ w' = w := by
  go_enter Try.func81, Try.ntmps81
  go_wp2_with (go_at_call 104; refine HA.mono ?_; rintro e w1 ⟨rfl, rfl⟩)
  go_ret
  exact ⟨rfl, rfl⟩
theorem drop_yes {w : World} {p g : Nat} {s : List P} (h : SRep w p g s) (i : Nat) (hi : i < s.length) (ht : (s.getD i zp).2 = true) (id : Int) (hid : id = (i : Int) + 1) :
    Calls Try.prog 79 #[.pointer (some ⟨p, 0, none⟩), .int .i64 id] w fun e w' => e = .returned (.bool true) ∧ SRep w' p g (s.set i zp) ∧ Hp.Touch (fun k => k = p ∨ k = g) w w' := by
  have HA := at_yes h i hi ht id hid
  have ct := h.cell i 0 hi (by omega)
  have ct' : w.cell? ⟨g, i * 2, none⟩ = some (.int .i64 (s.getD i zp).1) := ct
  have cb := h.cell i 1 hi (by omega)
  have cb' : w.cell? ⟨g, i * 2 + 1, none⟩ = some (.bool true) := by rw [cb, ← ht]; rfl
  have cf := blk_frozen h.row (i * 2)
  have cf' := blk_frozen h.row (i * 2 + 1)
  have H := Lib.hid h
  clear h ht ct cb hid
  go_enter Try.func79, Try.ntmps79
  go_wp2_with (go_at_call 104; refine HA.mono ?_; rintro e w1 ⟨rfl, rfl⟩)
  go_ret
  exact ⟨rfl, H.out.put i hi zp, ((Hp.Touch.refl _ _).setCell (p := ⟨g, i * 2, none⟩) (Or.inr rfl) _).setCell (p := ⟨g, i * 2 + 1, none⟩) (Or.inr rfl) _⟩
theorem drop_no {w : World} {p : Value} (id : Int) (HA : Calls Try.prog 104 #[p, .int .i64 id] w fun e w' => e = .returned (.pointer none) ∧ w' = w) :
    Calls Try.prog 79 #[p, .int .i64 id] w fun e w' => e = .returned (.bool false) ∧ w' = w := by
  go_enter Try.func79, Try.ntmps79
  go_wp2_with (go_at_call 104; refine HA.mono ?_; rintro e w1 ⟨rfl, rfl⟩)
  go_ret
  exact ⟨rfl, rfl⟩
theorem nil_add (v : Int) (w : World) : Calls Try.prog 77 #[.pointer none, .int .i64 v] w fun e w' => e = .returned (.int .i64 0) ∧ w' = w := by
  go_enter Try.func77, Try.ntmps77
  go_wp2
  go_ret
  exact ⟨rfl, rfl⟩
theorem nil_ids (w : World) : Calls Try.prog 78 #[.pointer none] w fun e w' => e = .returned (.slice none 0 0) ∧ w' = w := by
  go_enter Try.func78, Try.ntmps78
  go_wp2
  go_ret
  exact ⟨rfl, rfl⟩
theorem add_yes {w : World} {p g : Nat} {s : List P} (h : SRep w p g s) (i : Nat) (hi : i < s.length) (ht : (s.getD i zp).2 = false) (hall : ∀ j, j < i → (s.getD j zp).2 = true) (v : Int) :
    Calls Try.prog 77 #[.pointer (some ⟨p, 0, none⟩), .int .i64 v] w fun e w' => e = .returned (.int .i64 ((i : Int) + 1)) ∧ SRep w' p g (s.set i (v, true)) ∧ Hp.Touch (fun k => k = p ∨ k = g) w w' := by
  obtain ⟨n, hn⟩ : ∃ n, n = s.length := ⟨_, rfl⟩
  have c0 := (blk_cell h.top 0).trans (rfl : _ = some (Value.slice (some ⟨g, 0, none⟩) s.length s.length))
  have hf := h.few
  rw [← hn] at c0 hf hi
  have H := Lib.hid h
  have HN := Lib.hid hn
  have HA := Lib.hid hall
  have HT := Lib.hid ht
  have hi' : (i : Int) < (n : Int) := by omega
  clear h hn hall ht
  go_enter Try.func77, Try.ntmps77
  go_wp2
  go_loopw [13] (fun a wr => ∃ j : Nat, a = .int .i64 (j : Int) ∧ j ≤ i ∧ wr = w) (fun a _ => n - (intOf a).toNat)
  case atStart => exact ⟨0, rfl, Nat.zero_le _, rfl⟩
  case round =>
    obtain ⟨j, rfl, hj, rfl⟩ := hrel
    have hjn : (j : Int) < (n : Int) := by omega
    have ct := H.out.cell j 1 (by rw [← HN.out]; omega) (by omega)
    by_cases c : j = i
    · subst c
      have ct' : wr.cell? ⟨g, j * 2 + 1, none⟩ = some (.bool false) := by rw [ct, ← HT.out]; rfl
      have cv : wr.cell? ⟨g, j * 2, none⟩ = some (.int .i64 (s.getD j zp).1) := H.out.cell j 0 (by rw [← HN.out]; omega) (by omega)
      have cf := blk_frozen H.out.row (j * 2)
      have cf' := blk_frozen H.out.row (j * 2 + 1)
      clear ct
      go_wp2
      go_ret
      exact ⟨rfl, H.out.put j (by rw [← HN.out]; omega) (v, true), ((Hp.Touch.refl _ _).setCell (p := ⟨g, j * 2, none⟩) (Or.inr rfl) _).setCell (p := ⟨g, j * 2 + 1, none⟩) (Or.inr rfl) _⟩
    · have hji : j < i := by omega
      have ct' : wr.cell? ⟨g, j * 2 + 1, none⟩ = some (.bool true) := by rw [ct, ← HA.out j hji]; rfl
      clear ct
      go_wp2
      refine ⟨⟨j + 1, by simp, by omega, trivial⟩, ?_⟩
      simp [intOf]
      omega
theorem add_no {w : World} {p g : Nat} {s : List P} (h : SRep w p g s) (hall : ∀ j, j < s.length → (s.getD j zp).2 = true) (v : Int) :
    Calls Try.prog 77 #[.pointer (some ⟨p, 0, none⟩), .int .i64 v] w fun e w' => e = .returned (.int .i64 0) ∧ w' = w := by
  obtain ⟨n, hn⟩ : ∃ n, n = s.length := ⟨_, rfl⟩
  have c0 := (blk_cell h.top 0).trans (rfl : _ = some (Value.slice (some ⟨g, 0, none⟩) s.length s.length))
  have hf := h.few
  rw [← hn] at c0 hf hall
  have H := Lib.hid h
  have HN := Lib.hid hn
  have HA := Lib.hid hall
  clear h hn hall
  go_enter Try.func77, Try.ntmps77
  go_wp2
  go_loopw [13] (fun a wr => ∃ j : Nat, a = .int .i64 (j : Int) ∧ j ≤ n ∧ wr = w) (fun a _ => n - (intOf a).toNat)
  case atStart => exact ⟨0, rfl, Nat.zero_le _, rfl⟩
  case round =>
    obtain ⟨j, rfl, hj, rfl⟩ := hrel
    by_cases c : j < n
    · have hjn : (j : Int) < (n : Int) := by omega
      have ct := H.out.cell j 1 (by rw [← HN.out]; omega) (by omega)
      have ct' : wr.cell? ⟨g, j * 2 + 1, none⟩ = some (.bool true) := by rw [ct, ← HA.out j c]; rfl
      clear ct
      go_wp2
      refine ⟨⟨j + 1, by simp, by omega, trivial⟩, ?_⟩
      simp [intOf]
      omega
    · have hjn : ¬ (j : Int) < (n : Int) := by omega
      go_wp2
      go_ret
      exact ⟨rfl, rfl⟩

/-- the numbers of the first k seats that are taken -/
def idsOf (s : List P) (k : Nat) : List Int := ((List.range k).filter (fun j => (s.getD j zp).2)).map (fun j : Nat => (j : Int) + 1)
theorem idsOf_succ (s : List P) (k : Nat) : idsOf s (k + 1) = if (s.getD k zp).2 = true then idsOf s k ++ [(k : Int) + 1] else idsOf s k := by
  unfold idsOf
  rw [List.range_succ, List.filter_append, List.map_append]
  by_cases h : (s.getD k zp).2 = true
  · rw [if_pos h, List.filter_cons, if_pos h]; rfl
  · rw [if_neg h, List.filter_cons, if_neg h, List.filter_nil, List.map_nil, List.append_nil]
theorem idsOf_le (s : List P) (k : Nat) : (idsOf s k).length ≤ k := by
  induction k with
  | zero => simp [idsOf]
  | succ k ih =>
    rw [idsOf_succ]
    split
    · rw [List.length_append, List.length_singleton]; omega
    · omega
theorem info3 : (Try.prog.info? 3).map (fun i => (i.zero, i.size, i.bytes)) = some (some (.int .i64 0), 1, 8) := by kernel_rfl
set_option maxHeartbeats 1000000 in
set_option maxRecDepth 100000 in
theorem ids_rep {w : World} {p g : Nat} {s : List P} (h : SRep w p g s) :
    Calls Try.prog 78 #[.pointer (some ⟨p, 0, none⟩)] w fun e w' => ∃ v, e = .returned v ∧ w'.ownsRow w.heap.size 3 1 v (idsOf s s.length).length ((idsOf s s.length).map (Value.int .i64)) ∧ Below w.heap.size w w' := by
  obtain ⟨i0, hi, hz0, hz1, hz2⟩ := info_parts info3
  obtain ⟨n, hn⟩ : ∃ n, n = s.length := ⟨_, rfl⟩
  have c0 := (blk_cell h.top 0).trans (rfl : _ = some (Value.slice (some ⟨g, 0, none⟩) s.length s.length))
  have hf := h.few
  rw [← hn] at c0 hf
  rw [← hn]
  have H := Lib.hid h
  have HN := Lib.hid hn
  clear h hn
  go_enter Try.func78, Try.ntmps78
  go_wp2
  go_loopw [3, 13] (fun v a wr => ∃ j : Nat, a = .int .i64 (j : Int) ∧ j ≤ n ∧ Hid (wr.ownsRow w.heap.size 3 1 v (idsOf s j).length ((idsOf s j).map (Value.int .i64))) ∧ Hid (Below w.heap.size w wr)) (fun _ a _ => n - (intOf a).toNat)
  case atStart => exact ⟨0, rfl, Nat.zero_le _, Lib.hid (World.ownsRow_nil _ _ _ _), Lib.hid (Below.refl _ _)⟩
  case round =>
    obtain ⟨j, rfl, hj, HO, HB⟩ := hrel
    by_cases c : j < n
    · have hjn : (j : Int) < (n : Int) := by omega
      have h1 := H.out.below HB.out
      have q0 := h1.cell j 0 (by rw [← HN.out]; exact c) (by omega)
      have q1 := h1.cell j 1 (by rw [← HN.out]; exact c) (by omega)
      obtain ⟨x, hx⟩ : ∃ x, x = s.getD j zp := ⟨_, rfl⟩
      have S := idsOf_succ s j
      rw [← hx] at q0 q1 S
      have hle := idsOf_le s j
      obtain ⟨y, b⟩ := x
      have q0' : wr.cell? ⟨g, j * 2, none⟩ = some (.int .i64 y) := q0
      have q1' : wr.cell? ⟨g, j * 2 + 1, none⟩ = some (.bool b) := q1
      have HS := Lib.hid S
      clear q0 q1 h1 hx S
      cases b with
      | true =>
        have hnew : ((wr.alloc (.cells #[.int .i64 y, .bool true] 150)).alloc (.cells #[.int .i64 ((j : Int) + 1)] 3)).cell? ⟨wr.heap.size + 1, 0, none⟩ = some (.int .i64 ((j : Int) + 1)) := by
          simp
        have HNW := Lib.hid hnew
        clear hnew
        go_wp2_with (at_builtin; refine wpList_append_own _ rfl _ _ 47 rfl w.heap.size 3 i0 (.int .i64 0) 1 8 Try.underlying47 hi hz0 hz1 hz2 rfl (by decide) _ _ _ rfl ((HO.out.alloc _).alloc _) ⟨wr.heap.size + 1, 0, none⟩ 1 1 [.int .i64 ((j : Int) + 1)] rfl rfl (fun k u hu => by match k, hu with | 0, hu => simp only [List.getElem?_cons_zero, Option.some.injEq] at hu; subst hu; exact HNW.out) (by intro u hu; simp at hu; subst hu; rfl) (by unfold maxLen; omega) (by omega) (by have := HB.out.size; simp; omega) ?_; intro v1 w1 hown1 hgrow1 hnil1; have HO1 := Lib.hid hown1; have HG1 := Lib.hid hgrow1; clear hown1 hgrow1 hnil1)
        have e : idsOf s (j + 1) = idsOf s j ++ [(j : Int) + 1] := HS.out.trans (if_pos rfl)
        refine ⟨⟨j + 1, by simp, by omega, Lib.hid ?_, Lib.hid ?_⟩, ?_⟩
        · rw [e, List.length_append, List.map_append]
          exact HO1.out
        · have b1 : Below w.heap.size w ((wr.alloc (.cells #[.int .i64 y, .bool true] 150)).alloc (.cells #[.int .i64 ((j : Int) + 1)] 3)) := (HB.out.alloc HB.out.size _).alloc (by have := HB.out.size; simp; omega) _
          refine b1.grown HG1.out (by have := HB.out.size; simp; omega) (fun k hk => ?_)
          have hk' : u3.ownBlock = some k := hk
          rcases HO.out.2 with ⟨q, _⟩ | ⟨g2, cap2, cur2, q, q4, _⟩
          · rw [q] at hk'; simp [Value.ownBlock] at hk'
          · rw [q] at hk'
            have : g2 = k := by simpa [Value.ownBlock] using hk'
            omega
        · simp [intOf]
          omega
      | false =>
        go_wp2
        refine ⟨⟨j + 1, by simp, by omega, Lib.hid ?_, Lib.hid (HB.out.alloc HB.out.size _)⟩, ?_⟩
        · rw [HS.out]
          exact HO.out.alloc _
        · simp [intOf]
          omega
    · have hjn : ¬ (j : Int) < (n : Int) := by omega
      go_wp2
      go_ret
      have e : j = n := by omega
      subst e
      exact ⟨_, rfl, HO.out, HB.out⟩

theorem made_zero (n : Nat) : (madeCells (Value.agg #[.int .i64 0, .bool false]).cells (n * 2)).toList = cellsOf (List.replicate n zp) := by
  apply List.ext_getElem
  · rw [Array.length_toList, size_madeCells, cellsOf_length, List.length_replicate]
  · intro k h1 h2
    rw [cellsOf_length, List.length_replicate] at h2
    have hk : k = (k / 2) * 2 + k % 2 := by omega
    have h3 := cellsOf_get (List.replicate n zp) (k / 2) (k % 2) (by rw [List.length_replicate]; omega) (by omega)
    rw [← hk] at h3
    have h4 : (List.replicate n zp).getD (k / 2) zp = zp := by
      rw [List.getD_eq_getElem?_getD, List.getElem?_replicate]
      split <;> rfl
    rw [h4] at h3
    have h5 := (List.getElem?_eq_some_iff.1 (h3.trans (by
      have : k % 2 = 0 ∨ k % 2 = 1 := by omega
      rcases this with e | e <;> rw [e] <;> rfl : (sc zp)[k % 2]? = some ((#[Value.int .i64 0, Value.bool false])[k % 2]!)))).2
    rw [h5]
    simp [madeCells, Value.cells]
def NewP (w : World) (n : Nat) (e : Ending) (w' : World) : Prop := (∃ p g, e = .returned (.pointer (some ⟨p, 0, none⟩)) ∧ SRep w' p g (List.replicate n zp) ∧ w.heap.size ≤ p ∧ w.heap.size ≤ g) ∧ Below w.heap.size w w'
theorem new_fin {w W : World} {n : Nat} (hn : n ≤ 100) (r1 : W.ownsRow 0 150 2 (.slice (some ⟨w.heap.size, 0, none⟩) n n) n (madeCells (Value.agg #[.int .i64 0, .bool false]).cells (n * 2)).toList) (r2 : w.grownBy W none) :
    NewP w n (.returned (.pointer (some ⟨W.heap.size, 0, none⟩))) (W.alloc (.cells #[.slice (some ⟨w.heap.size, 0, none⟩) n n] 148)) := by
  rcases r1.2 with ⟨h2, h3⟩ | ⟨g, cap, cur, h2, h4, h5, h6, h7, h8, h9⟩
  · cases h2
  · simp only [Value.slice.injEq, Option.some.injEq, Addr.mk.injEq, and_true] at h2
    obtain ⟨rfl, -, rfl⟩ := h2
    have hg := (Array.getElem?_eq_some_iff.1 h5).1
    have hc : cur = (cellsOf (List.replicate n zp)).toArray := by
      rw [made_zero, List.take_of_length_le (by rw [Array.length_toList]; omega)] at h9
      rw [← h9]
    refine ⟨⟨W.heap.size, w.heap.size, rfl, ⟨?_, ?_, by omega, by simpa using hn⟩, by omega, Nat.le_refl _⟩, ?_⟩
    · rw [List.length_replicate]; exact heap_alloc_new W _
    · rw [← hc]; exact (Below.heap_alloc W _ _ hg).trans h5
    · have b1 : Below w.heap.size w W := ⟨r2.os, r2.tape, r2.output, r2.size, fun k hk => r2.block k hk (by simp)⟩
      exact b1.alloc (by omega) _
theorem info150 : (Try.prog.info? 150).map (fun i => (i.zero, i.size, i.bytes)) = some (some (.agg #[.int .i64 0, .bool false]), 2, 16) := by kernel_rfl
theorem new_walk (room : Int) (w : World) (n : Nat) (hn : (n : Int) = min (max room 0) 100) (hr : -9223372036854775808 ≤ room ∧ room ≤ 9223372036854775807) : Calls Try.prog 76 #[.int .i64 room] w (NewP w n) := by
  obtain ⟨i0, hi0, hz0, hz1, hz2⟩ := info_parts info150
  obtain ⟨W, hrun, r1, r2⟩ := run_make_full (P := Try.prog) w 0 146 150 i0 _ 2 Try.underlying146 hi0 hz0 hz1 .i64 .i64 n (by rw [hz2]; omega) (by unfold maxLen; omega) (Nat.zero_le _)
  have F := Lib.hid (new_fin (by omega) r1 r2)
  clear r1 r2 hz0 hz1 hz2
  by_cases h0 : room < 0
  · have e : (n : Int) = 0 := by omega
    rw [e] at hrun
    clear hn e
    go_enter Try.func76, Try.ntmps76
    go_wp2
    go_ret
    exact F.out
  · by_cases h1 : 100 < room
    · have e : (n : Int) = 100 := by omega
      rw [e] at hrun
      clear hn e
      go_enter Try.func76, Try.ntmps76
      go_wp2
      go_ret
      exact F.out
    · have e : (n : Int) = room := by omega
      rw [e] at hrun
      clear hn e
      go_enter Try.func76, Try.ntmps76
      go_wp2
      go_ret
      exact F.out

/-! ### As an object -/
def SObj (w : World) (F : Nat → Prop) (p : Nat) (s : List P) : Prop := ∃ g, SRep w p g s ∧ ∀ k, F k ↔ (k = p ∨ k = g)
theorem SObj.lt {w : World} {F : Nat → Prop} {p : Nat} {s : List P} (h : SObj w F p s) {k : Nat} (hk : F k) : k < w.heap.size := by
  obtain ⟨g, hr, hF⟩ := h
  rcases (hF k).1 hk with rfl | rfl
  · exact (Array.getElem?_eq_some_iff.1 hr.top).1
  · exact (Array.getElem?_eq_some_iff.1 hr.row).1
theorem SObj.move {w w' : World} {F : Nat → Prop} {p : Nat} {s : List P} (h : SObj w F p s) (hb : ∀ k, F k → w'.heap[k]? = w.heap[k]?) : SObj w' F p s := by
  obtain ⟨g, hr, hF⟩ := h
  exact ⟨g, ⟨(hb p ((hF p).2 (Or.inl rfl))).trans hr.top, (hb g ((hF g).2 (Or.inr rfl))).trans hr.row, hr.ne, hr.few⟩, hF⟩
theorem SObj.below {w w' : World} {F : Nat → Prop} {p : Nat} {s : List P} (h : SObj w F p s) (hb : Below w.heap.size w w') : SObj w' F p s := h.move (fun k hk => hb.block k (h.lt hk))
theorem SObj.touch {w w' : World} {F G : Nat → Prop} {p : Nat} {s : List P} (h : SObj w F p s) (ht : Hp.Touch G w w') (hd : ∀ k, F k → ¬ G k) : SObj w' F p s := h.move (fun k hk => ht.block k (h.lt hk) (hd k hk))
theorem SObj.few {w : World} {F : Nat → Prop} {p : Nat} {s : List P} (h : SObj w F p s) : s.length ≤ 100 := by
  obtain ⟨g, hr, -⟩ := h
  exact hr.few
theorem obj_get {w : World} {F : Nat → Prop} {p : Nat} {s : List P} (h : SObj w F p s) (i : Nat) (hi : i < s.length) (ht : (s.getD i zp).2 = true) (id : Int) (hid : id = (i : Int) + 1) :
    Calls Try.prog 80 #[.pointer (some ⟨p, 0, none⟩), .int .i64 id] w fun e w' => e = .returned (.tuple #[.int .i64 (s.getD i zp).1, .bool true]) ∧ w' = w := by
  obtain ⟨g, hr, -⟩ := h
  exact get_yes hr i hi ht id hid
theorem obj_get_no {w : World} {F : Nat → Prop} {p : Nat} {s : List P} (h : SObj w F p s) (id : Int) (hn : ¬ taken s id) :
    Calls Try.prog 80 #[.pointer (some ⟨p, 0, none⟩), .int .i64 id] w fun e w' => e = .returned (.tuple #[.int .i64 0, .bool false]) ∧ w' = w := by
  obtain ⟨g, hr, -⟩ := h
  exact get_no id (at_no hr id hn)
theorem obj_set {w : World} {F : Nat → Prop} {p : Nat} {s : List P} (h : SObj w F p s) (i : Nat) (hi : i < s.length) (ht : (s.getD i zp).2 = true) (id v : Int) (hid : id = (i : Int) + 1) :
    Calls Try.prog 81 #[.pointer (some ⟨p, 0, none⟩), .int .i64 id, .int .i64 v] w fun e w' => e = .returned (.bool true) ∧ SObj w' F p (s.set i (v, true)) ∧ Hp.Touch F w w' := by
  obtain ⟨g, hr, hF⟩ := h
  refine (set_yes hr i hi ht id v hid).mono ?_
  rintro e w' ⟨rfl, h1, h2⟩
  exact ⟨rfl, ⟨g, h1, hF⟩, h2.mono (fun k _ hk => (hF k).2 hk)⟩
theorem obj_set_no {w : World} {F : Nat → Prop} {p : Nat} {s : List P} (h : SObj w F p s) (id v : Int) (hn : ¬ taken s id) :
    Calls Try.prog 81 #[.pointer (some ⟨p, 0, none⟩), .int .i64 id, .int .i64 v] w fun e w' => e = .returned (.bool false) ∧ w' = w := by
  obtain ⟨g, hr, -⟩ := h
  exact set_no id v (at_no hr id hn)
theorem obj_drop {w : World} {F : Nat → Prop} {p : Nat} {s : List P} (h : SObj w F p s) (i : Nat) (hi : i < s.length) (ht : (s.getD i zp).2 = true) (id : Int) (hid : id = (i : Int) + 1) :
    Calls Try.prog 79 #[.pointer (some ⟨p, 0, none⟩), .int .i64 id] w fun e w' => e = .returned (.bool true) ∧ SObj w' F p (s.set i zp) ∧ Hp.Touch F w w' := by
  obtain ⟨g, hr, hF⟩ := h
  refine (drop_yes hr i hi ht id hid).mono ?_
  rintro e w' ⟨rfl, h1, h2⟩
  exact ⟨rfl, ⟨g, h1, hF⟩, h2.mono (fun k _ hk => (hF k).2 hk)⟩
theorem obj_drop_no {w : World} {F : Nat → Prop} {p : Nat} {s : List P} (h : SObj w F p s) (id : Int) (hn : ¬ taken s id) :
    Calls Try.prog 79 #[.pointer (some ⟨p, 0, none⟩), .int .i64 id] w fun e w' => e = .returned (.bool false) ∧ w' = w := by
  obtain ⟨g, hr, -⟩ := h
  exact drop_no id (at_no hr id hn)
theorem obj_add {w : World} {F : Nat → Prop} {p : Nat} {s : List P} (h : SObj w F p s) (i : Nat) (hi : i < s.length) (ht : (s.getD i zp).2 = false) (hall : ∀ j, j < i → (s.getD j zp).2 = true) (v : Int) :
    Calls Try.prog 77 #[.pointer (some ⟨p, 0, none⟩), .int .i64 v] w fun e w' => e = .returned (.int .i64 ((i : Int) + 1)) ∧ SObj w' F p (s.set i (v, true)) ∧ Hp.Touch F w w' := by
  obtain ⟨g, hr, hF⟩ := h
  refine (add_yes hr i hi ht hall v).mono ?_
  rintro e w' ⟨rfl, h1, h2⟩
  exact ⟨rfl, ⟨g, h1, hF⟩, h2.mono (fun k _ hk => (hF k).2 hk)⟩
theorem obj_add_no {w : World} {F : Nat → Prop} {p : Nat} {s : List P} (h : SObj w F p s) (hall : ∀ j, j < s.length → (s.getD j zp).2 = true) (v : Int) :
    Calls Try.prog 77 #[.pointer (some ⟨p, 0, none⟩), .int .i64 v] w fun e w' => e = .returned (.int .i64 0) ∧ w' = w := by
  obtain ⟨g, hr, hF⟩ := h
  exact add_no hr hall v
theorem obj_ids {w : World} {F : Nat → Prop} {p : Nat} {s : List P} (h : SObj w F p s) :
    Calls Try.prog 78 #[.pointer (some ⟨p, 0, none⟩)] w fun e w' => ∃ v, e = .returned v ∧ w'.ownsRow w.heap.size 3 1 v (idsOf s s.length).length ((idsOf s s.length).map (Value.int .i64)) ∧ SObj w' F p s ∧ Below w.heap.size w w' := by
  have h0 := h
  obtain ⟨g, hr, hF⟩ := h
  refine (ids_rep hr).mono ?_
  rintro e w' ⟨v, rfl, h1, h2⟩
  exact ⟨v, rfl, h1, h0.below h2, h2⟩
theorem obj_new (room : Int) (w : World) (hr : -9223372036854775808 ≤ room ∧ room ≤ 9223372036854775807) : Calls Try.prog 76 #[.int .i64 room] w fun e w' => ∃ F p, e = .returned (.pointer (some ⟨p, 0, none⟩)) ∧ SObj w' F p (List.replicate (min (max room 0) 100).toNat zp) ∧ (∀ k, F k → w.heap.size ≤ k) ∧ Below w.heap.size w w' := by
  refine (new_walk room w (min (max room 0) 100).toNat (by omega) hr).mono ?_
  rintro e w' ⟨⟨p, g, rfl, h1, h2, h3⟩, hb⟩
  refine ⟨fun k => k = p ∨ k = g, p, rfl, ⟨g, h1, fun _ => Iff.rfl⟩, ?_, hb⟩
  rintro k (rfl | rfl)
  · exact h2
  · exact h3
end Go.Proofs.Ytpmamgdblbplcaa.St

/-! YtpmamgdblbplcaaSeatS -/
namespace Go.Proofs.Ytpmamgdblbplcaa.Ss
open Go.RowKit
open Go.Proofs.Ytpmamgdblbplcaa.Hp (blk_set heap_drew blk_cell blk_frozen below_drewN)
set_option linter.unusedVariables false
set_option linter.unusedSimpArgs false

abbrev P := ByteArray × Bool
def zp : P := (ByteArray.empty, false)
def sc (x : P) : List Value := [.string x.1, .bool x.2]
def cellsOf (s : List P) : List Value := s.flatMap sc
theorem cellsOf_length (s : List P) : (cellsOf s).length = s.length * 2 := by
  induction s with
  | nil => rfl
  | cons a t ih => unfold cellsOf at *; rw [List.flatMap_cons, List.length_append, ih]; simp [sc]; omega
theorem cellsOf_get (s : List P) (i j : Nat) (hi : i < s.length) (hj : j < 2) : (cellsOf s)[i * 2 + j]? = (sc (s.getD i zp))[j]? := by
  induction s generalizing i with
  | nil => simp at hi
  | cons a t ih =>
    unfold cellsOf at *
    rw [List.flatMap_cons]
    cases i with
    | zero =>
      rw [List.getElem?_append_left (by simp [sc]; omega)]
      simp
    | succ i =>
      have hl : (sc a).length = 2 := rfl
      rw [List.getElem?_append_right (by rw [hl]; omega), hl, show (i + 1) * 2 + j - 2 = i * 2 + j from by omega, ih i (by simpa using hi)]
      simp
theorem cellsOf_set (s : List P) (i : Nat) (x : P) (hi : i < s.length) : cellsOf (s.set i x) = ((cellsOf s).set (i * 2) (.string x.1)).set (i * 2 + 1) (.bool x.2) := by
  induction s generalizing i with
  | nil => simp at hi
  | cons a t ih =>
    unfold cellsOf at *
    cases i with
    | zero => simp [List.flatMap_cons, sc]
    | succ i =>
      rw [List.set_cons_succ, List.flatMap_cons, List.flatMap_cons, ih i (by simpa using hi)]
      have : (i + 1) * 2 = i * 2 + 1 + 1 := by omega
      rw [this]
      simp [sc]

structure SRep (w : World) (p g : Nat) (s : List P) : Prop where
  top : w.heap[p]? = some (.cells #[.slice (some ⟨g, 0, none⟩) s.length s.length] 155 (0, 0))
  row : w.heap[g]? = some (.cells (cellsOf s).toArray 157 (0, 0))
  ne : p ≠ g
  few : s.length ≤ 100
theorem SRep.below {w w' : World} {p g : Nat} {s : List P} (h : SRep w p g s) (hb : Below w.heap.size w w') : SRep w' p g s :=
  ⟨(hb.block p (Array.getElem?_eq_some_iff.1 h.top).1).trans h.top, (hb.block g (Array.getElem?_eq_some_iff.1 h.row).1).trans h.row, h.ne, h.few⟩
theorem SRep.cell {w : World} {p g : Nat} {s : List P} (h : SRep w p g s) (i j : Nat) (hi : i < s.length) (hj : j < 2) : w.cell? ⟨g, i * 2 + j, none⟩ = (sc (s.getD i zp))[j]? := by
  rw [blk_cell h.row, ← cellsOf_get s i j hi hj]
  simp
/-- one seat turned -/
theorem SRep.put {w : World} {p g : Nat} {s : List P} (h : SRep w p g s) (i : Nat) (hi : i < s.length) (x : P) : SRep ((w.setCell ⟨g, i * 2, none⟩ (.string x.1)).setCell ⟨g, i * 2 + 1, none⟩ (.bool x.2)) p g (s.set i x) := by
  refine ⟨?_, ?_, h.ne, by simpa using h.few⟩
  · rw [Below.heap_setCell _ _ _ p h.ne, Below.heap_setCell _ _ _ p h.ne, h.top]
    simp
  · rw [blk_set (blk_set h.row (i * 2) (.string x.1)) (i * 2 + 1) (.bool x.2), cellsOf_set _ _ _ hi]
    simp [List.setIfInBounds_toArray]

theorem at_yes {w : World} {p g : Nat} {s : List P} (h : SRep w p g s) (i : Nat) (hi : i < s.length) (ht : (s.getD i zp).2 = true) (id : Int) (hid : id = (i : Int) + 1) :
    Calls Try.prog 105 #[.pointer (some ⟨p, 0, none⟩), .int .i64 id] w fun e w' => e = .returned (.pointer (some ⟨g, i * 2, none⟩)) ∧ w' = w := by
  obtain ⟨n, hn⟩ : ∃ n, n = s.length := ⟨_, rfl⟩
  have c0 := (blk_cell h.top 0).trans (rfl : _ = some (Value.slice (some ⟨g, 0, none⟩) s.length s.length))
  have ct := h.cell i 1 hi (by omega)
  have ct' : w.cell? ⟨g, i * 2 + 1, none⟩ = some (.bool true) := by rw [ct, ← ht]; rfl
  have hf := h.few
  rw [← hn] at c0 hi hf
  clear h ht ct hn
  have hi' : (i : Int) < (n : Int) := by omega
  have h1 : ¬ ((i : Int) + 1 < 1) := by omega
  have h2 : ¬ ((i : Int) + 1 > (n : Int)) := by omega
  subst hid
  go_enter Try.func105, Try.ntmps105
  go_wp2
  go_ret
  exact ⟨rfl, rfl⟩
/-- is a seat of that number taken? -/
def taken (s : List P) (id : Int) : Prop := 1 ≤ id ∧ id ≤ s.length ∧ (s.getD (id - 1).toNat zp).2 = true
theorem at_no {w : World} {p g : Nat} {s : List P} (h : SRep w p g s) (id : Int) (hn : ¬ taken s id) :
    Calls Try.prog 105 #[.pointer (some ⟨p, 0, none⟩), .int .i64 id] w fun e w' => e = .returned (.pointer none) ∧ w' = w := by
  by_cases h1 : id < 1
  · clear h hn
    go_enter Try.func105, Try.ntmps105
    go_wp2
    go_ret
    exact ⟨rfl, rfl⟩
  · by_cases h2 : id > (s.length : Int)
    · obtain ⟨n, hn'⟩ : ∃ n, n = s.length := ⟨_, rfl⟩
      have c0 := (blk_cell h.top 0).trans (rfl : _ = some (Value.slice (some ⟨g, 0, none⟩) s.length s.length))
      rw [← hn'] at c0 h2
      clear h hn hn'
      go_enter Try.func105, Try.ntmps105
      go_wp2
      go_ret
      exact ⟨rfl, rfl⟩
    · obtain ⟨i, hi⟩ : ∃ i : Nat, id = (i : Int) + 1 := ⟨(id - 1).toNat, by omega⟩
      subst hi
      have hi : i < s.length := by omega
      have ht : (s.getD i zp).2 = false := by
        refine Bool.eq_false_iff.2 (fun q => hn ⟨by omega, by omega, ?_⟩)
        rw [show ((i : Int) + 1 - 1).toNat = i by omega]; exact q
      obtain ⟨n, hn'⟩ : ∃ n, n = s.length := ⟨_, rfl⟩
      have c0 := (blk_cell h.top 0).trans (rfl : _ = some (Value.slice (some ⟨g, 0, none⟩) s.length s.length))
      have ct := h.cell i 1 hi (by omega)
      have ct' : w.cell? ⟨g, i * 2 + 1, none⟩ = some (.bool false) := by rw [ct, ← ht]; rfl
      have hf := h.few
      rw [← hn'] at c0 hi hf h2
      clear h ht ct hn hn'
      have hi' : (i : Int) < (n : Int) := by omega
      go_enter Try.func105, Try.ntmps105
      go_wp2
      go_ret
      exact ⟨rfl, rfl⟩
theorem nil_at (id : Int) (w : World) : Calls Try.prog 105 #[.pointer none, .int .i64 id] w fun e w' => e = .returned (.pointer none) ∧ w' = w := by
  go_enter Try.func105, Try.ntmps105
  go_wp2
  go_ret
  exact ⟨rfl, rfl⟩
theorem taken_nat {s : List P} {id : Int} (h : taken s id) : ∃ i : Nat, id = (i : Int) + 1 ∧ i < s.length ∧ (s.getD i zp).2 = true := by
  obtain ⟨h1, h2, h3⟩ := h
  exact ⟨(id - 1).toNat, by omega, by omega, h3⟩

theorem drop_yes {w : World} {p g : Nat} {s : List P} (h : SRep w p g s) (i : Nat) (hi : i < s.length) (ht : (s.getD i zp).2 = true) (id : Int) (hid : id = (i : Int) + 1) :
    Calls Try.prog 85 #[.pointer (some ⟨p, 0, none⟩), .int .i64 id] w fun e w' => e = .returned (.bool true) ∧ SRep w' p g (s.set i zp) ∧ Hp.Touch (fun k => k = p ∨ k = g) w w' := by
  have HA := at_yes h i hi ht id hid
  have ct := h.cell i 0 hi (by omega)
  have ct' : w.cell? ⟨g, i * 2, none⟩ = some (.string (s.getD i zp).1) := ct
  have cb := h.cell i 1 hi (by omega)
  have cb' : w.cell? ⟨g, i * 2 + 1, none⟩ = some (.bool true) := by rw [cb, ← ht]; rfl
  have cf := blk_frozen h.row (i * 2)
  have cf' := blk_frozen h.row (i * 2 + 1)
  have H := Lib.hid h
  clear h ht ct cb hid
  go_enter Try.func85, Try.ntmps85
  go_wp2_with (go_at_call 105; refine HA.mono ?_; rintro e w1 ⟨rfl, rfl⟩)
  go_ret
  exact ⟨rfl, H.out.put i hi zp, ((Hp.Touch.refl _ _).setCell (p := ⟨g, i * 2, none⟩) (Or.inr rfl) _).setCell (p := ⟨g, i * 2 + 1, none⟩) (Or.inr rfl) _⟩
theorem drop_no {w : World} {p : Value} (id : Int) (HA : Calls Try.prog 105 #[p, .int .i64 id] w fun e w' => e = .returned (.pointer none) ∧ w' = w) :
    Calls Try.prog 85 #[p, .int .i64 id] w fun e w' => e = .returned (.bool false) ∧ w' = w := by
  go_enter Try.func85, Try.ntmps85
  go_wp2_with (go_at_call 105; refine HA.mono ?_; rintro e w1 ⟨rfl, rfl⟩)
  go_ret
  exact ⟨rfl, rfl⟩
theorem nil_add (v : ByteArray) (w : World) : Calls Try.prog 84 #[.pointer none, .string v] w fun e w' => e = .returned (.int .i64 0) ∧ w' = w := by
  go_enter Try.func84, Try.ntmps84
  go_wp2
  go_ret
  exact ⟨rfl, rfl⟩
theorem add_yes {w : World} {p g : Nat} {s : List P} (h : SRep w p g s) (i : Nat) (hi : i < s.length) (ht : (s.getD i zp).2 = false) (hall : ∀ j, j < i → (s.getD j zp).2 = true) (v : ByteArray) :
    Calls Try.prog 84 #[.pointer (some ⟨p, 0, none⟩), .string v] w fun e w' => e = .returned (.int .i64 ((i : Int) + 1)) ∧ SRep w' p g (s.set i (v, true)) ∧ Hp.Touch (fun k => k = p ∨ k = g) w w' := by
  obtain ⟨n, hn⟩ : ∃ n, n = s.length := ⟨_, rfl⟩
  have c0 := (blk_cell h.top 0).trans (rfl : _ = some (Value.slice (some ⟨g, 0, none⟩) s.length s.length))
  have hf := h.few
  rw [← hn] at c0 hf hi
  have H := Lib.hid h
  have HN := Lib.hid hn
  have HA := Lib.hid hall
  have HT := Lib.hid ht
  have hi' : (i : Int) < (n : Int) := by omega
  clear h hn hall ht
  go_enter Try.func84, Try.ntmps84
  go_wp2
  go_loopw [13] (fun a wr => ∃ j : Nat, a = .int .i64 (j : Int) ∧ j ≤ i ∧ wr = w) (fun a _ => n - (intOf a).toNat)
  case atStart => exact ⟨0, rfl, Nat.zero_le _, rfl⟩
  case round =>
    obtain ⟨j, rfl, hj, rfl⟩ := hrel
    have hjn : (j : Int) < (n : Int) := by omega
    have ct := H.out.cell j 1 (by rw [← HN.out]; omega) (by omega)
    by_cases c : j = i
    · subst c
      have ct' : wr.cell? ⟨g, j * 2 + 1, none⟩ = some (.bool false) := by rw [ct, ← HT.out]; rfl
      have cv : wr.cell? ⟨g, j * 2, none⟩ = some (.string (s.getD j zp).1) := H.out.cell j 0 (by rw [← HN.out]; omega) (by omega)
      have cf := blk_frozen H.out.row (j * 2)
      have cf' := blk_frozen H.out.row (j * 2 + 1)
      clear ct
      go_wp2
      go_ret
      exact ⟨rfl, H.out.put j (by rw [← HN.out]; omega) (v, true), ((Hp.Touch.refl _ _).setCell (p := ⟨g, j * 2, none⟩) (Or.inr rfl) _).setCell (p := ⟨g, j * 2 + 1, none⟩) (Or.inr rfl) _⟩
    · have hji : j < i := by omega
      have ct' : wr.cell? ⟨g, j * 2 + 1, none⟩ = some (.bool true) := by rw [ct, ← HA.out j hji]; rfl
      clear ct
      go_wp2
      refine ⟨⟨j + 1, by simp, by omega, trivial⟩, ?_⟩
      simp [intOf]
      omega
theorem add_no {w : World} {p g : Nat} {s : List P} (h : SRep w p g s) (hall : ∀ j, j < s.length → (s.getD j zp).2 = true) (v : ByteArray) :
    Calls Try.prog 84 #[.pointer (some ⟨p, 0, none⟩), .string v] w fun e w' => e = .returned (.int .i64 0) ∧ w' = w := by
  obtain ⟨n, hn⟩ : ∃ n, n = s.length := ⟨_, rfl⟩
  have c0 := (blk_cell h.top 0).trans (rfl : _ = some (Value.slice (some ⟨g, 0, none⟩) s.length s.length))
  have hf := h.few
  rw [← hn] at c0 hf hall
  have H := Lib.hid h
  have HN := Lib.hid hn
  have HA := Lib.hid hall
  clear h hn hall
  go_enter Try.func84, Try.ntmps84
  go_wp2
  go_loopw [13] (fun a wr => ∃ j : Nat, a = .int .i64 (j : Int) ∧ j ≤ n ∧ wr = w) (fun a _ => n - (intOf a).toNat)
  case atStart => exact ⟨0, rfl, Nat.zero_le _, rfl⟩
  case round =>
    obtain ⟨j, rfl, hj, rfl⟩ := hrel
    by_cases c : j < n
    · have hjn : (j : Int) < (n : Int) := by omega
      have ct := H.out.cell j 1 (by rw [← HN.out]; omega) (by omega)
      have ct' : wr.cell? ⟨g, j * 2 + 1, none⟩ = some (.bool true) := by rw [ct, ← HA.out j c]; rfl
      clear ct
      go_wp2
      refine ⟨⟨j + 1, by simp, by omega, trivial⟩, ?_⟩
      simp [intOf]
      omega
    · have hjn : ¬ (j : Int) < (n : Int) := by omega
      go_wp2
      go_ret
      exact ⟨rfl, rfl⟩

theorem made_zero (n : Nat) : (madeCells (Value.agg #[.string ByteArray.empty, .bool false]).cells (n * 2)).toList = cellsOf (List.replicate n zp) := by
  apply List.ext_getElem
  · rw [Array.length_toList, size_madeCells, cellsOf_length, List.length_replicate]
  · intro k h1 h2
    rw [cellsOf_length, List.length_replicate] at h2
    have hk : k = (k / 2) * 2 + k % 2 := by omega
    have h3 := cellsOf_get (List.replicate n zp) (k / 2) (k % 2) (by rw [List.length_replicate]; omega) (by omega)
    rw [← hk] at h3
    have h4 : (List.replicate n zp).getD (k / 2) zp = zp := by
      rw [List.getD_eq_getElem?_getD, List.getElem?_replicate]
      split <;> rfl
    rw [h4] at h3
    have h5 := (List.getElem?_eq_some_iff.1 (h3.trans (by
      have : k % 2 = 0 ∨ k % 2 = 1 := by omega
      rcases this with e | e <;> rw [e] <;> rfl : (sc zp)[k % 2]? = some ((#[Value.string ByteArray.empty, Value.bool false])[k % 2]!)))).2
    rw [h5]
    simp [madeCells, Value.cells]
def NewP (w : World) (n : Nat) (e : Ending) (w' : World) : Prop := (∃ p g, e = .returned (.pointer (some ⟨p, 0, none⟩)) ∧ SRep w' p g (List.replicate n zp) ∧ w.heap.size ≤ p ∧ w.heap.size ≤ g) ∧ Below w.heap.size w w'
theorem new_fin {w W : World} {n : Nat} (hn : n ≤ 100) (r1 : W.ownsRow 0 157 2 (.slice (some ⟨w.heap.size, 0, none⟩) n n) n (madeCells (Value.agg #[.string ByteArray.empty, .bool false]).cells (n * 2)).toList) (r2 : w.grownBy W none) :
    NewP w n (.returned (.pointer (some ⟨W.heap.size, 0, none⟩))) (W.alloc (.cells #[.slice (some ⟨w.heap.size, 0, none⟩) n n] 155)) := by
  rcases r1.2 with ⟨h2, h3⟩ | ⟨g, cap, cur, h2, h4, h5, h6, h7, h8, h9⟩
  · cases h2
  · simp only [Value.slice.injEq, Option.some.injEq, Addr.mk.injEq, and_true] at h2
    obtain ⟨rfl, -, rfl⟩ := h2
    have hg := (Array.getElem?_eq_some_iff.1 h5).1
    have hc : cur = (cellsOf (List.replicate n zp)).toArray := by
      rw [made_zero, List.take_of_length_le (by rw [Array.length_toList]; omega)] at h9
      rw [← h9]
    refine ⟨⟨W.heap.size, w.heap.size, rfl, ⟨?_, ?_, by omega, by simpa using hn⟩, by omega, Nat.le_refl _⟩, ?_⟩
    · rw [List.length_replicate]; exact heap_alloc_new W _
    · rw [← hc]; exact (Below.heap_alloc W _ _ hg).trans h5
    · have b1 : Below w.heap.size w W := ⟨r2.os, r2.tape, r2.output, r2.size, fun k hk => r2.block k hk (by simp)⟩
      exact b1.alloc (by omega) _
theorem info157 : (Try.prog.info? 157).map (fun i => (i.zero, i.size, i.bytes)) = some (some (.agg #[.string ByteArray.empty, .bool false]), 2, 24) := by kernel_rfl
theorem new_walk (room : Int) (w : World) (n : Nat) (hn : (n : Int) = min (max room 0) 100) (hr : -9223372036854775808 ≤ room ∧ room ≤ 9223372036854775807) : Calls Try.prog 82 #[.int .i64 room] w (NewP w n) := by
  obtain ⟨i0, hi0, hz0, hz1, hz2⟩ := info_parts info157
  obtain ⟨W, hrun, r1, r2⟩ := run_make_full (P := Try.prog) w 0 153 157 i0 _ 2 Try.underlying153 hi0 hz0 hz1 .i64 .i64 n (by rw [hz2]; omega) (by unfold maxLen; omega) (Nat.zero_le _)
  have F := Lib.hid (new_fin (by omega) r1 r2)
  clear r1 r2 hz0 hz1 hz2
  by_cases h0 : room < 0
  · have e : (n : Int) = 0 := by omega
    rw [e] at hrun
    clear hn e
    go_enter Try.func82, Try.ntmps82
    go_wp2
    go_ret
    exact F.out
  · by_cases h1 : 100 < room
    · have e : (n : Int) = 100 := by omega
      rw [e] at hrun
      clear hn e
      go_enter Try.func82, Try.ntmps82
      go_wp2
      go_ret
      exact F.out
    · have e : (n : Int) = room := by omega
      rw [e] at hrun
      clear hn e
      go_enter Try.func82, Try.ntmps82
      go_wp2
      go_ret
      exact F.out

/-! ### As an object -/
def SObj (w : World) (F : Nat → Prop) (p : Nat) (s : List P) : Prop := ∃ g, SRep w p g s ∧ ∀ k, F k ↔ (k = p ∨ k = g)
theorem SObj.lt {w : World} {F : Nat → Prop} {p : Nat} {s : List P} (h : SObj w F p s) {k : Nat} (hk : F k) : k < w.heap.size := by
  obtain ⟨g, hr, hF⟩ := h
  rcases (hF k).1 hk with rfl | rfl
  · exact (Array.getElem?_eq_some_iff.1 hr.top).1
  · exact (Array.getElem?_eq_some_iff.1 hr.row).1
theorem SObj.move {w w' : World} {F : Nat → Prop} {p : Nat} {s : List P} (h : SObj w F p s) (hb : ∀ k, F k → w'.heap[k]? = w.heap[k]?) : SObj w' F p s := by
  obtain ⟨g, hr, hF⟩ := h
  exact ⟨g, ⟨(hb p ((hF p).2 (Or.inl rfl))).trans hr.top, (hb g ((hF g).2 (Or.inr rfl))).trans hr.row, hr.ne, hr.few⟩, hF⟩
theorem SObj.below {w w' : World} {F : Nat → Prop} {p : Nat} {s : List P} (h : SObj w F p s) (hb : Below w.heap.size w w') : SObj w' F p s := h.move (fun k hk => hb.block k (h.lt hk))
theorem SObj.touch {w w' : World} {F G : Nat → Prop} {p : Nat} {s : List P} (h : SObj w F p s) (ht : Hp.Touch G w w') (hd : ∀ k, F k → ¬ G k) : SObj w' F p s := h.move (fun k hk => ht.block k (h.lt hk) (hd k hk))
theorem SObj.few {w : World} {F : Nat → Prop} {p : Nat} {s : List P} (h : SObj w F p s) : s.length ≤ 100 := by
  obtain ⟨g, hr, -⟩ := h
  exact hr.few
theorem obj_drop {w : World} {F : Nat → Prop} {p : Nat} {s : List P} (h : SObj w F p s) (i : Nat) (hi : i < s.length) (ht : (s.getD i zp).2 = true) (id : Int) (hid : id = (i : Int) + 1) :
    Calls Try.prog 85 #[.pointer (some ⟨p, 0, none⟩), .int .i64 id] w fun e w' => e = .returned (.bool true) ∧ SObj w' F p (s.set i zp) ∧ Hp.Touch F w w' := by
  obtain ⟨g, hr, hF⟩ := h
  refine (drop_yes hr i hi ht id hid).mono ?_
  rintro e w' ⟨rfl, h1, h2⟩
  exact ⟨rfl, ⟨g, h1, hF⟩, h2.mono (fun k _ hk => (hF k).2 hk)⟩
theorem obj_drop_no {w : World} {F : Nat → Prop} {p : Nat} {s : List P} (h : SObj w F p s) (id : Int) (hn : ¬ taken s id) :
    Calls Try.prog 85 #[.pointer (some ⟨p, 0, none⟩), .int .i64 id] w fun e w' => e = .returned (.bool false) ∧ w' = w := by
  obtain ⟨g, hr, -⟩ := h
  exact drop_no id (at_no hr id hn)
theorem obj_add {w : World} {F : Nat → Prop} {p : Nat} {s : List P} (h : SObj w F p s) (i : Nat) (hi : i < s.length) (ht : (s.getD i zp).2 = false) (hall : ∀ j, j < i → (s.getD j zp).2 = true) (v : ByteArray) :
    Calls Try.prog 84 #[.pointer (some ⟨p, 0, none⟩), .string v] w fun e w' => e = .returned (.int .i64 ((i : Int) + 1)) ∧ SObj w' F p (s.set i (v, true)) ∧ Hp.Touch F w w' := by
  obtain ⟨g, hr, hF⟩ := h
  refine (add_yes hr i hi ht hall v).mono ?_
  rintro e w' ⟨rfl, h1, h2⟩
  exact ⟨rfl, ⟨g, h1, hF⟩, h2.mono (fun k _ hk => (hF k).2 hk)⟩
theorem obj_add_no {w : World} {F : Nat → Prop} {p : Nat} {s : List P} (h : SObj w F p s) (hall : ∀ j, j < s.length → (s.getD j zp).2 = true) (v : ByteArray) :
    Calls Try.prog 84 #[.pointer (some ⟨p, 0, none⟩), .string v] w fun e w' => e = .returned (.int .i64 0) ∧ w' = w := by
  obtain ⟨g, hr, hF⟩ := h
  exact add_no hr hall v
theorem obj_new (room : Int) (w : World) (hr : -9223372036854775808 ≤ room ∧ room ≤ 9223372036854775807) : Calls Try.prog 82 #[.int .i64 room] w fun e w' => ∃ F p, e = .returned (.pointer (some ⟨p, 0, none⟩)) ∧ SObj w' F p (List.replicate (min (max room 0) 100).toNat zp) ∧ (∀ k, F k → w.heap.size ≤ k) ∧ Below w.heap.size w w' := by
  refine (new_walk room w (min (max room 0) 100).toNat (by omega) hr).mono ?_
  rintro e w' ⟨⟨p, g, rfl, h1, h2, h3⟩, hb⟩
  refine ⟨fun k => k = p ∨ k = g, p, rfl, ⟨g, h1, fun _ => Iff.rfl⟩, ?_, hb⟩
  rintro k (rfl | rfl)
  · exact h2
  · exact h3
end Go.Proofs.Ytpmamgdblbplcaa.Ss
