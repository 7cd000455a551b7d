/- RingOwn: the walk. -/
import Derived.Test.YtpmamgdblbplcaaRingT
import Derived.Test.YtpmamgdblbplcaaArgs
import Derived.Test.YtpmamgdblbplcaaWalkSeatTurn
namespace Go.Proofs.Ytpmamgdblbplcaa.On
open Go.RowKit Go.Proofs.Ytpmamgdblbplcaa.HeapModel Go.Proofs.Ytpmamgdblbplcaa.Bg
set_option linter.unusedVariables false
set_option linter.unusedSimpArgs false

/-- a slice of texts that came in -/
def IsStr (w : World) (a : Option Addr) (len cap : Nat) (f : Nat → ByteArray) : Prop :=
  (a = none ∧ len = 0 ∧ cap = 0) ∨ ∃ x, a = some x ∧ len ≤ cap ∧ cap ≤ maxLen ∧ ∀ i, i < len → w.cell? (x.add i) = some (.string (f i)) ∧ (f i).size ≤ maxLen
section
variable {w0 w : World} {a : Option Addr} {len cap0 : Nat} {f : Nat → ByteArray}
theorem IsStr.len_le (h : IsStr w a len cap0 f) : len ≤ maxLen ∧ len ≤ cap0 ∧ cap0 ≤ maxLen := by
  rcases h with ⟨_, rfl, rfl⟩ | ⟨x, _, h1, h2, _⟩
  · simp
  · omega
theorem IsStr.at (h : IsStr w0 a len cap0 f) (i : Nat) (hi : i < len) : ∃ x, a = some x ∧ ∀ w, Below w0.heap.size w0 w → w.cell? (x.add i) = some (.string (f i)) := by
  rcases h with ⟨_, rfl, _⟩ | ⟨x, h0, h1, h2, h3⟩
  · omega
  · exact ⟨x, h0, fun w hb => (hb.cell (cell_block (h3 i hi).1)).trans (h3 i hi).1⟩
end
/-- a ring of rows of one text each -/
def RO (w0 w : World) (p cap : Nat) (bs : List Nat) (f : Nat → ByteArray) : Prop :=
  ∃ F, Rt.RObj w F p cap bs ∧ (∀ k, F k → w0.heap.size ≤ k) ∧ Below w0.heap.size w0 w ∧ ∀ i, i < bs.length → w.heap[bs.getD i 0]? = some (.cells #[.string (f i)] 9 (0, 0)) ∧ ¬ F (bs.getD i 0)
section
variable {w0 w : World} {p cap : Nat} {bs : List Nat} {f : Nat → ByteArray}
theorem RO.bel (h : RO w0 w p cap bs f) : Below w0.heap.size w0 w := by obtain ⟨F, h1, h2, h3, h4⟩ := h; exact h3
theorem RO.below {w' : World} (h : RO w0 w p cap bs f) (hb : Below w.heap.size w w') : RO w0 w' p cap bs f := by
  obtain ⟨F, h1, h2, h3, h4⟩ := h
  exact ⟨F, h1.below hb, h2, bel_more h3 hb, fun i hi => ⟨(hb.block _ (Array.getElem?_eq_some_iff.1 (h4 i hi).1).1).trans (h4 i hi).1, (h4 i hi).2⟩⟩
theorem ro_new (hb : Below w0.heap.size w0 w) (room : Int) (hr : -9223372036854775808 ≤ room ∧ room ≤ 9223372036854775807) (f : Nat → ByteArray) :
    Calls Try.prog 52 #[.int .i64 room] w fun e w' => ∃ p, e = .returned (.pointer (some ⟨p, 0, none⟩)) ∧ RO w0 w' p (min (max room 0) 1000).toNat [] f := by
  refine (Rt.obj_new room w hr).mono ?_
  rintro e w' ⟨F, p, rfl, h1, h2, h3⟩
  exact ⟨p, rfl, F, h1, fun k hk => Nat.le_trans hb.size (h2 k hk), bel_more hb h3, fun i hi => by simp at hi⟩
theorem ro_put (h : RO w0 w p cap bs f) (hn : bs.length < cap) :
    Calls Try.prog 53 #[.pointer (some ⟨p, 0, none⟩), .slice (some ⟨w.heap.size, 0, none⟩) 1 1] (w.alloc (.cells #[.string (f bs.length)] 9)) fun e w' => e = .returned (.bool true) ∧ RO w0 w' p cap (bs ++ [w.heap.size]) f := by
  have b1 : Below w.heap.size w (w.alloc (.cells #[.string (f bs.length)] 9)) := (Below.refl _ _).alloc (Nat.le_refl _) _
  obtain ⟨F, h1, h2, h3, h4⟩ := h
  refine (Rt.obj_put (h1.below b1) w.heap.size hn).mono ?_
  rintro e w' ⟨rfl, g1, g2⟩
  refine ⟨rfl, F, g1, h2, bel_touch (bel_more h3 b1) h2 g2, fun i hi => ?_⟩
  have hlt : ∀ k, k < w.heap.size → k < (w.alloc (.cells #[.string (f bs.length)] 9)).heap.size := fun k hk => Nat.lt_of_lt_of_le hk b1.size
  rw [List.length_append, List.length_singleton] at hi
  by_cases e : i < bs.length
  · have hh := h4 i e
    have hk := (Array.getElem?_eq_some_iff.1 hh.1).1
    have e2 : (bs ++ [w.heap.size]).getD i 0 = bs.getD i 0 := by
      rw [List.getD_eq_getElem?_getD, List.getD_eq_getElem?_getD, List.getElem?_append_left e]
    rw [e2]
    exact ⟨((g2.block _ (hlt _ hk) hh.2).trans (b1.block _ hk)).trans hh.1, hh.2⟩
  · have e1 : i = bs.length := by omega
    subst e1
    have e2 : (bs ++ [w.heap.size]).getD bs.length 0 = w.heap.size := by
      rw [List.getD_eq_getElem?_getD, List.getElem?_append_right (Nat.le_refl _)]; simp
    have hnF : ¬ F w.heap.size := fun c => absurd (h1.lt c) (Nat.lt_irrefl _)
    rw [e2]
    exact ⟨(g2.block _ (by simp) hnF).trans (heap_alloc_new w _), hnF⟩
theorem ro_full (h : RO w0 w p cap bs f) (b : Nat) (hn : ¬ bs.length < cap) :
    Calls Try.prog 53 #[.pointer (some ⟨p, 0, none⟩), .slice (some ⟨b, 0, none⟩) 1 1] w fun e w' => e = .returned (.bool false) ∧ RO w0 w' p cap bs f := by
  have h0 := h
  obtain ⟨F, h1, h2, h3, h4⟩ := h
  refine (Rt.obj_full h1 b hn).mono ?_
  rintro e w' ⟨rfl, _, g2⟩
  exact ⟨rfl, h0.below g2⟩
theorem ro_at (h : RO w0 w p cap bs f) (i : Nat) (hi : i < bs.length) : Calls Try.prog 54 #[.pointer (some ⟨p, 0, none⟩), .int .i64 i] w fun e w' => ∃ b, e = .returned (.tuple #[.slice (some ⟨b, 0, none⟩) 1 1, .bool true]) ∧ RO w0 w' p cap bs f ∧ w'.cell? ⟨b, 0, none⟩ = some (.string (f i)) := by
  have h0 := h
  obtain ⟨F, h1, h2, h3, h4⟩ := h
  refine (Rt.obj_at h1 i hi).mono ?_
  rintro e w' ⟨rfl, _, g2⟩
  have hh := (h4 i hi).1
  exact ⟨_, rfl, h0.below g2, (Hp.blk_cell ((g2.block _ (Array.getElem?_eq_some_iff.1 hh).1).trans hh) 0).trans rfl⟩
theorem ro_at_no (h : RO w0 w p cap bs f) (i : Int) (hi : i < 0 ∨ (bs.length : Int) ≤ i) : Calls Try.prog 54 #[.pointer (some ⟨p, 0, none⟩), .int .i64 i] w fun e w' => e = .returned (.tuple #[.slice none 0 0, .bool false]) ∧ w' = w := by
  obtain ⟨F, h1, h2, h3, h4⟩ := h
  exact Rt.obj_at_no h1 i hi
theorem ro_len (h : RO w0 w p cap bs f) {n : Nat} (hn : bs.length = n) : Calls Try.prog 55 #[.pointer (some ⟨p, 0, none⟩)] w fun e w' => e = .returned (.int .i64 n) ∧ w' = w := by
  rw [← hn]
  obtain ⟨F, h1, h2, h3, h4⟩ := h
  exact Rt.obj_len h1
theorem ro_room (h : RO w0 w p cap bs f) {n : Nat} (hn : bs.length = n) : Calls Try.prog 56 #[.pointer (some ⟨p, 0, none⟩)] w fun e w' => e = .returned (.int .i64 ((cap : Int) - n)) ∧ RO w0 w' p cap bs f := by
  rw [← hn]
  have h0 := h
  obtain ⟨F, h1, h2, h3, h4⟩ := h
  refine (Rt.obj_room h1).mono ?_
  rintro e w' ⟨rfl, _, g2⟩
  exact ⟨rfl, h0.below g2⟩
end
set_option maxHeartbeats 8000000 in
set_option maxRecDepth 100000 in
theorem ringOwn_walk (a : Option Addr) (len cap0 : Nat) (f : Nat → ByteArray) (room : Int) (w : World) (hz : IsStr w a len cap0 f) (wr : (Lit.int .i64 room).wf = true) :
    Calls Try.prog 10 #[.slice a len cap0, .int .i64 room] w fun e w' => e = .returned (.bool true) ∧ Below w.heap.size w w' := by
  have hL := hz.len_le
  unfold maxLen at hL
  have HZ := Lib.hid hz
  clear hz wr
  obtain ⟨M, hM0, hM2⟩ := tmod_add (z := room) (N := 40) (by omega) (by omega)
  have hM : (wrap64 (room.tmod 40 + 40)).tmod 40 = (M : Int) := hM0
  clear hM0
  have e1 : (min (max (M : Int) 0) 1000).toNat = M := by omega
  have E1 := Lib.hid e1
  clear e1
  go_enter Try.func10, Try.ntmps10
  go_wp2_with (first
    | (go_at_call 22; refine (begun2 _).mono ?_; rintro e w1 ⟨rfl, hb⟩; have HB := Lib.hid hb; clear hb)
    | (go_at_call 52; refine (ro_new HB.out (M : Int) (by omega) f).mono ?_; rintro e w2 ⟨p, rfl, h⟩; rw [E1.out] at h; have R0 := Lib.hid h; clear h HB))
  clear hM
  go_loopw [7, 8] (fun n i wr => ∃ (j k : Nat) (bs : List Nat), n = .int .i64 (k : Int) ∧ i = .int .i64 (j : Int) ∧ Hid (RO w wr p M bs f) ∧ Hid (bs.length = k) ∧ Hid (k = min j M) ∧ j ≤ 50 ∧ j ≤ len) (fun _ i _ => 61 - (intOf i).toNat)
  case atStart => exact ⟨0, 0, [], rfl, rfl, R0, Lib.hid rfl, Lib.hid (by omega), by omega, by omega⟩
  case round =>
    clear R0
    obtain ⟨j, k, bs, rfl, rfl, HR, HK, HM, hj, hj2⟩ := hrel
    by_cases h1 : (j : Int) < (len : Int) ∧ (j : Int) < 50
    · obtain ⟨h1, h2⟩ := h1
      obtain ⟨x, rfl, hc⟩ := HZ.out.at j (by omega)
      have hc0 := hc wr HR.out.bel
      have hkb : (k : Int) ≤ 40 := by have := HM.out; omega
      clear hc
      by_cases hin : (k : Int) < (M : Int)
      · have EF : Hid (f j = f bs.length) := Lib.hid (by rw [HK.out, show k = j by have := HM.out; omega])
        have HP := Lib.hid (ro_put HR.out (by rw [HK.out]; omega))
        rw [← EF.out] at HP
        have hk1 : ¬ (M : Int) < (k : Int) + 1 := by omega
        go_wp2_with (go_at_call 53; refine HP.out.mono ?_; rintro e w3 ⟨rfl, h⟩; have H := Lib.hid h; clear h)
        exact ⟨⟨j + 1, k + 1, _, iEq (by omega), iEq (by omega), H, Lib.hid (by rw [List.length_append, HK.out]; rfl), Lib.hid (by have := HM.out; omega), by omega, by omega⟩, by simp [intOf]; omega⟩
      · have ek : (M : Int) < (k : Int) + 1 := by omega
        go_wp2_with (go_at_call 53; refine (ro_full (HR.out.below ((Below.refl _ _).alloc (Nat.le_refl _) _)) _ (by rw [HK.out]; omega)).mono ?_; rintro e w3 ⟨rfl, h⟩; have H := Lib.hid h; clear h)
        exact ⟨⟨j + 1, k, _, iEq (by have := HM.out; omega), iEq (by omega), H, HK, Lib.hid (by have := HM.out; omega), by omega, by omega⟩, by simp [intOf]; omega⟩
    · have hx : (¬ (j : Int) < (len : Int)) ∨ ((j : Int) < (len : Int) ∧ ¬ (j : Int) < 50) := by omega
      have hkm : k ≤ M := by have := HM.out; omega
      have hkl : k ≤ len := by have := HM.out; omega
      clear h1 HM
      rcases hx with hx | ⟨hx, hx2⟩
      all_goals
        go_wp2
        go_loopw [9] (fun i wr => ∃ t : Nat, i = .int .i64 (t : Int) ∧ Hid (RO w wr p M bs f) ∧ t ≤ k) (fun i _ => 61 - (intOf i).toNat)
        case atStart => exact ⟨0, rfl, HR, by omega⟩
        case round =>
          clear HR
          obtain ⟨t, rfl, HR, ht⟩ := hrel
          by_cases hlt : (t : Int) < (k : Int)
          · have htl : (t : Int) < (len : Int) := by omega
            obtain ⟨x, rfl, hc⟩ := HZ.out.at t (by omega)
            go_wp2_with (go_at_call 54; refine (ro_at HR.out t (by rw [HK.out]; omega)).mono ?_; rintro e w3 ⟨b, rfl, h, hcb⟩; have hcl := hc w3 h.bel; have H := Lib.hid h; clear h)
            clear hc
            go_quiet (fail)
            go_wp2
            exact ⟨⟨t + 1, iEq (by omega), Lib.hid (H.out.below (Hp.below_drewN _ _)), by omega⟩, by simp [intOf]; omega⟩
          · go_wp2_with (first
              | (go_at_call 54; refine (ro_at_no HR.out _ (Or.inr (by rw [HK.out]; omega))).mono ?_; rintro e wx ⟨rfl, rfl⟩)
              | (go_at_call 55; refine (ro_len HR.out HK.out).mono ?_; rintro e wx ⟨rfl, rfl⟩)
              | (go_at_call 56; refine (ro_room HR.out HK.out).mono ?_; rintro e w4 ⟨rfl, h⟩; have H := Lib.hid h; clear h))
            go_ret
            exact ⟨rfl, H.out.bel⟩
end Go.Proofs.Ytpmamgdblbplcaa.On
