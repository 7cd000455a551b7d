/- HeapRoom: the walk. -/
import Derived.Test.YtpmamgdblbplcaaBgB
import Derived.OpenShut
import Derived.WalkArith
namespace Go.Proofs.Ytpmamgdblbplcaa.On
open Go.RowKit Go.Proofs.Ytpmamgdblbplcaa.HeapModel Go.Proofs.Ytpmamgdblbplcaa.Bg
set_option linter.unusedVariables false
set_option linter.unusedSimpArgs false

/-- k things, the later the lesser -/
def down (k : Nat) : List (It Int) := (List.range k).map (fun (j : Nat) => ⟨(j : Int), -(j : Int), 0, (j : Int) + 1⟩)
theorem down_len (k : Nat) : (down k).length = k := by simp [down]
theorem down_snoc (k : Nat) : down k ++ [⟨(k : Int), -(k : Int), 0, (k : Int) + 1⟩] = down (k + 1) := by simp [down, List.range_succ]
theorem down_mem {k : Nat} {x : It Int} : x ∈ down k ↔ ∃ j : Nat, j < k ∧ x = ⟨(j : Int), -(j : Int), 0, (j : Int) + 1⟩ := by
  simp only [down, List.mem_map, List.mem_range]
  exact ⟨fun ⟨j, h, e⟩ => ⟨j, h, e.symm⟩, fun ⟨j, h, e⟩ => ⟨j, h, e.symm⟩⟩
theorem down_has (k i : Nat) : has (down k) (i : Int) = decide (i < k) := by
  rw [Bool.eq_iff_iff, has_iff]
  simp only [decide_eq_true_eq]
  constructor
  · rintro ⟨x, hx, e⟩
    obtain ⟨j, hj, rfl⟩ := down_mem.1 hx
    simp only at e
    omega
  · intro h
    exact ⟨_, down_mem.2 ⟨i, h, rfl⟩, rfl⟩
theorem down_chron (k : Nat) : HeapModel.chron (down k) := by
  unfold HeapModel.chron down
  rw [List.pairwise_map]
  refine List.Pairwise.imp ?_ List.pairwise_lt_range
  intro a b h
  simp only
  omega
theorem down_least (k : Nat) : least (down (k + 1)) = some ⟨(k : Int), -(k : Int), 0, (k : Int) + 1⟩ := by
  refine least_unique (down_chron _) (down_mem.2 ⟨k, by omega, rfl⟩) ?_
  intro y hy
  obtain ⟨j, hj, rfl⟩ := down_mem.1 hy
  rw [le_iff]
  simp only
  omega
theorem down_first (k : Nat) : Hp.firstV (down (k + 1)) = (k : Int) := by unfold Hp.firstV; rw [down_least]
theorem down_without (k : Nat) : without (down k) (k : Int) = down k := without_of_not (by rw [down_has]; simp)

theorem int_eq {a b : Int} (h : a = b) : Value.int .i64 a = .int .i64 b := by rw [h]
theorem fits_nat {j : Nat} (h : j ≤ 2000) : Hp.fits (j : Int) := WalkArith.wf_i64 ⟨by omega, by omega⟩
theorem down_put {w0 w : World} {p cap j : Nat} (h : H1 w0 w p cap (down j) (j : Int)) (hj : j < cap) (hc : cap ≤ 1000) :
    Calls Try.prog 25 #[.pointer (some ⟨p, 0, none⟩), .int .i64 (j : Int), .int .i64 (-(j : Int)), .int .i64 0] w fun e w' => e = .returned (.bool true) ∧ H1 w0 w' p cap (down (j + 1)) ((j : Int) + 1) := by
  have := h1_put h (j : Int) (-(j : Int)) 0 (fits_nat (by omega)) (by omega) (Or.inr (by rw [down_len]; omega))
  rw [down_without, down_snoc] at this
  exact this
theorem down_full {w0 w : World} {p cap j : Nat} {m : Int} (h : H1 w0 w p cap (down cap) m) (hj : cap ≤ j) (hj2 : j ≤ 2000) :
    Calls Try.prog 25 #[.pointer (some ⟨p, 0, none⟩), .int .i64 (j : Int), .int .i64 (-(j : Int)), .int .i64 0] w fun e w' => e = .returned (.bool false) ∧ H1 w0 w' p cap (down cap) m :=
  h1_full h (j : Int) (-(j : Int)) 0 (fits_nat hj2) (by rw [down_has]; simp; omega) (by rw [down_len]; omega)
theorem down_first0 {w0 w : World} {p : Nat} {room m : Int} (h : H1 w0 w p room (down 0) m) :
    Calls Try.prog 33 #[.pointer (some ⟨p, 0, none⟩)] w fun e w' => e = .returned (.tuple #[.int .i64 0, .bool false]) ∧ w' = w := h1_first h
theorem down_first1 {w0 w : World} {p k : Nat} {room m : Int} (h : H1 w0 w p room (down (k + 1)) m) :
    Calls Try.prog 33 #[.pointer (some ⟨p, 0, none⟩)] w fun e w' => e = .returned (.tuple #[.int .i64 (k : Int), .bool true]) ∧ w' = w := by
  have := h1_first h
  rw [down_first, down_least] at this
  exact this
theorem down_lenk {w0 w : World} {p k : Nat} {room m : Int} (h : H1 w0 w p room (down k) m) :
    Calls Try.prog 35 #[.pointer (some ⟨p, 0, none⟩)] w fun e w' => e = .returned (.int .i64 (k : Int)) ∧ w' = w := by
  have := h1_len h
  rw [down_len] at this
  exact this
theorem down_len1 {w0 w : World} {p k : Nat} {room m : Int} (h : H1 w0 w p room (down (k + 1)) m) :
    Calls Try.prog 35 #[.pointer (some ⟨p, 0, none⟩)] w fun e w' => e = .returned (.int .i64 ((k : Int) + 1)) ∧ w' = w := down_lenk h
theorem down_again {w0 w : World} {p k : Nat} {room m : Int} (h : H1 w0 w p room (down (k + 1)) m) (hm : m < 4611686018427387904) :
    Calls Try.prog 25 #[.pointer (some ⟨p, 0, none⟩), .int .i64 0, .int .i64 (-5000), .int .i64 0] w fun e w' => e = .returned (.bool true) ∧ Below w0.heap.size w0 w' ∧
      Calls Try.prog 35 #[.pointer (some ⟨p, 0, none⟩)] w' fun e w'' => e = .returned (.int .i64 ((k : Int) + 1)) ∧ w'' = w' := by
  refine (h1_put h 0 (-5000) 0 (fits_nat (j := 0) (by omega)) hm (Or.inl (by have := down_has (k + 1) 0; simpa using this))).mono ?_
  rintro e w' ⟨rfl, h2⟩
  refine ⟨rfl, h2.bel, ?_⟩
  have h3 := h1_len h2
  have e1 : without (down (k + 1)) 0 = (down (k + 1)).tail := by
    unfold without down
    rw [List.range_succ_eq_map, List.map_cons, List.filter_cons, if_neg (by simp), List.tail_cons, List.filter_eq_self]
    intro x hx
    simp only [List.map_map, List.mem_map, List.mem_range, Function.comp] at hx
    obtain ⟨j, hj, rfl⟩ := hx
    simp only [Bool.not_eq_true', decide_eq_false_iff_not]
    omega
  have e2 : (without (down (k + 1)) 0 ++ [(⟨0, -5000, 0, m + 1⟩ : It Int)]).length = k + 1 := by rw [e1]; simp [down_len]
  rw [e2] at h3
  exact h3
set_option maxHeartbeats 4000000 in
set_option maxRecDepth 100000 in
theorem heapRoom_walk (room n : Int) (w : World) (wa : (Lit.int .i64 room).wf = true) (wb : (Lit.int .i64 n).wf = true) :
    Calls Try.prog 8 #[.int .i64 room, .int .i64 n] w fun e w' => e = .returned (.bool true) ∧ Below w.heap.size w w' := by
  have ba := bounds_i64 wa
  have bb := bounds_i64 wb
  clear wa wb
  have three : (room ≤ 0 ∨ (0 < room ∧ room ≤ 1000)) ∨ 1000 < room := by omega
  obtain ⟨cap, hcap⟩ : ∃ cap : Nat, (cap : Int) = min (max room 0) 1000 := ⟨(min (max room 0) 1000).toNat, by omega⟩
  have CAP := Lib.hid hcap
  clear hcap bb
  rcases three with (t1 | ⟨t1, t2⟩) | t1
  · have e0 : cap = 0 := by have := CAP.out; omega
    by_cases c1 : n < 0
    · go_enter Try.func8, Try.ntmps8
      go_wp2_with (go_at_call 22; refine (begun2 w).mono ?_; rintro e w1 ⟨rfl, hb⟩; have HB := Lib.hid hb; clear hb)
      go_ret
      exact ⟨rfl, HB.out⟩
    by_cases c2 : n > 1005
    · go_enter Try.func8, Try.ntmps8
      go_wp2_with (go_at_call 22; refine (begun2 w).mono ?_; rintro e w1 ⟨rfl, hb⟩; have HB := Lib.hid hb; clear hb)
      go_ret
      exact ⟨rfl, HB.out⟩
    obtain ⟨N, rfl⟩ : ∃ N : Nat, n = (N : Int) := ⟨n.toNat, by omega⟩
    have hn : N ≤ 1005 := by omega
    go_enter Try.func8, Try.ntmps8
    go_wp2_with (first
      | (go_at_call 22; refine (begun2 w).mono ?_; rintro e w1 ⟨rfl, hb⟩; have HB := Lib.hid hb; clear hb)
      | (go_at_call 23; refine (h1_new HB.out _ ba).mono ?_; rintro e w2 ⟨p, rfl, h⟩; rw [← CAP.out] at h; have R0 := Lib.hid h; clear h HB))
    go_loopw [8] (fun i wr => ∃ j : Nat, i = .int .i64 (j : Int) ∧ Hid (H1 w wr p cap (down (min j cap)) ((min j cap : Nat) : Int)) ∧ j ≤ N) (fun i _ => 1006 - (intOf i).toNat)
    case atStart => exact ⟨0, rfl, by rw [show min 0 cap = 0 by omega]; exact R0, by omega⟩
    case round =>
      have hcap : cap ≤ 1000 := by omega
      clear t1 CAP
      obtain ⟨j, rfl, HR, hj⟩ := hrel
      by_cases hlt : (j : Int) < N
      · by_cases hin : j < cap
        · have E0 := Lib.hid e0
          have hin' : (j : Int) < 0 := by have := E0.out; omega
          clear e0
          have HR2 : Hid (H1 w wr p cap (down j) (j : Int)) := by rw [show min j cap = j by omega] at HR; exact HR
          clear HR
          go_wp2_with (go_at_call 25; refine (down_put HR2.out hin hcap).mono ?_; rintro e w3 ⟨rfl, h⟩; have H := Lib.hid h; clear h)
          exact ⟨⟨j + 1, int_eq (by omega), by rw [show min (j + 1) cap = j + 1 by omega]; exact H, by omega⟩, by simp [intOf]; omega⟩
        · have E0 := Lib.hid e0
          have hin' : ¬ (j : Int) < 0 := by have := E0.out; omega
          clear e0
          have HR2 : Hid (H1 w wr p cap (down cap) (cap : Int)) := by rw [show min j cap = cap by omega] at HR; exact HR
          clear HR
          go_wp2_with (go_at_call 25; refine (down_full HR2.out (by omega) (by omega)).mono ?_; rintro e w3 ⟨rfl, h⟩; have H := Lib.hid h; clear h)
          exact ⟨⟨j + 1, int_eq (by omega), by rw [show min (j + 1) cap = cap by omega]; exact H, by omega⟩, by simp [intOf]; omega⟩
      · obtain rfl : j = N := by omega
        have hb := HR.out.bel
        have HB2 := Lib.hid hb
        clear hb hcap hj
        by_cases hm : (j : Int) ≤ 0
        · by_cases hz : j = 0
          · subst hz
            have HR2 : Hid (H1 w wr p cap (down 0) 0) := by rw [show min 0 cap = 0 by omega] at HR; exact HR
            clear HR
            go_wp2_with (first
              | (go_at_call 33; refine (down_first0 HR2.out).mono ?_; rintro e wx ⟨rfl, rfl⟩)
              | (go_at_call 35; refine (down_lenk HR2.out).mono ?_; rintro e wx ⟨rfl, rfl⟩))
            go_ret
            exact ⟨rfl, HB2.out⟩
          · exfalso; omega
        · by_cases hz : cap = 0
          · have HR2 : Hid (H1 w wr p cap (down 0) 0) := by rw [show min j cap = 0 by omega] at HR; exact HR
            clear HR
            have ec : (cap : Int) = 0 := by omega
            clear hz
            go_wp2_with (first
              | (go_at_call 33; refine (down_first0 HR2.out).mono ?_; rintro e wx ⟨rfl, rfl⟩)
              | (go_at_call 35; refine (down_lenk HR2.out).mono ?_; rintro e wx ⟨rfl, rfl⟩))
            go_ret
            exact ⟨rfl, HB2.out⟩
          · exfalso; omega
  · obtain rfl : room = (cap : Int) := by have := CAP.out; omega
    by_cases c1 : n < 0
    · go_enter Try.func8, Try.ntmps8
      go_wp2_with (go_at_call 22; refine (begun2 w).mono ?_; rintro e w1 ⟨rfl, hb⟩; have HB := Lib.hid hb; clear hb)
      go_ret
      exact ⟨rfl, HB.out⟩
    by_cases c2 : n > 1005
    · go_enter Try.func8, Try.ntmps8
      go_wp2_with (go_at_call 22; refine (begun2 w).mono ?_; rintro e w1 ⟨rfl, hb⟩; have HB := Lib.hid hb; clear hb)
      go_ret
      exact ⟨rfl, HB.out⟩
    obtain ⟨N, rfl⟩ : ∃ N : Nat, n = (N : Int) := ⟨n.toNat, by omega⟩
    have hn : N ≤ 1005 := by omega
    go_enter Try.func8, Try.ntmps8
    go_wp2_with (first
      | (go_at_call 22; refine (begun2 w).mono ?_; rintro e w1 ⟨rfl, hb⟩; have HB := Lib.hid hb; clear hb)
      | (go_at_call 23; refine (h1_new HB.out _ ba).mono ?_; rintro e w2 ⟨p, rfl, h⟩; rw [← CAP.out] at h; have R0 := Lib.hid h; clear h HB))
    go_loopw [8] (fun i wr => ∃ j : Nat, i = .int .i64 (j : Int) ∧ Hid (H1 w wr p cap (down (min j cap)) ((min j cap : Nat) : Int)) ∧ j ≤ N) (fun i _ => 1006 - (intOf i).toNat)
    case atStart => exact ⟨0, rfl, by rw [show min 0 cap = 0 by omega]; exact R0, by omega⟩
    case round =>
      have hcap : cap ≤ 1000 := by have := CAP.out; omega
      clear CAP
      obtain ⟨j, rfl, HR, hj⟩ := hrel
      by_cases hlt : (j : Int) < N
      · by_cases hin : j < cap
        · have hin' : (j : Int) < cap := by omega
          have HR2 : Hid (H1 w wr p cap (down j) (j : Int)) := by rw [show min j cap = j by omega] at HR; exact HR
          clear HR
          go_wp2_with (go_at_call 25; refine (down_put HR2.out hin hcap).mono ?_; rintro e w3 ⟨rfl, h⟩; have H := Lib.hid h; clear h)
          exact ⟨⟨j + 1, int_eq (by omega), by rw [show min (j + 1) cap = j + 1 by omega]; exact H, by omega⟩, by simp [intOf]; omega⟩
        · have hin' : ¬ (j : Int) < cap := by omega
          have HR2 : Hid (H1 w wr p cap (down cap) (cap : Int)) := by rw [show min j cap = cap by omega] at HR; exact HR
          clear HR
          go_wp2_with (go_at_call 25; refine (down_full HR2.out (by omega) (by omega)).mono ?_; rintro e w3 ⟨rfl, h⟩; have H := Lib.hid h; clear h)
          exact ⟨⟨j + 1, int_eq (by omega), by rw [show min (j + 1) cap = cap by omega]; exact H, by omega⟩, by simp [intOf]; omega⟩
      · obtain rfl : j = N := by omega
        have hb := HR.out.bel
        have HB2 := Lib.hid hb
        clear hb hcap hj
        by_cases hm : (j : Int) ≤ (cap : Int)
        · by_cases hz : j = 0
          · subst hz
            have HR2 : Hid (H1 w wr p cap (down 0) 0) := by rw [show min 0 cap = 0 by omega] at HR; exact HR
            clear HR
            go_wp2_with (first
              | (go_at_call 33; refine (down_first0 HR2.out).mono ?_; rintro e wx ⟨rfl, rfl⟩)
              | (go_at_call 35; refine (down_lenk HR2.out).mono ?_; rintro e wx ⟨rfl, rfl⟩))
            go_ret
            exact ⟨rfl, HB2.out⟩
          · obtain ⟨k, rfl⟩ : ∃ k, j = k + 1 := ⟨j - 1, by omega⟩
            have HR2 : Hid (H1 w wr p cap (down (k + 1)) ((k : Int) + 1)) := by rw [show min (k + 1) cap = k + 1 by omega] at HR; exact HR
            clear HR
            have k0 : 0 < (k : Int) + 1 := by omega
            have k1 : ((k : Int) + 1 == 0) = false := by simp; omega
            go_wp2_with (first
              | (go_at_call 33; refine (down_first1 HR2.out).mono ?_; rintro e wx ⟨rfl, rfl⟩)
              | (go_at_call 35; refine (down_len1 HR2.out).mono ?_; rintro e wx ⟨rfl, rfl⟩)
              | (go_at_call 25; refine (down_again HR2.out (by omega)).mono ?_; rintro e w5 ⟨rfl, h5, h6⟩; have H5 := Lib.hid h5; have H6 := Lib.hid h6; clear h5 h6 HR2)
              | (go_at_call 35; refine H6.out.mono ?_; rintro e wx ⟨rfl, rfl⟩))
            go_ret
            exact ⟨rfl, H5.out⟩
        · by_cases hz : cap = 0
          · have HR2 : Hid (H1 w wr p cap (down 0) 0) := by rw [show min j cap = 0 by omega] at HR; exact HR
            clear HR
            have ec : (cap : Int) = 0 := by omega
            clear hz
            go_wp2_with (first
              | (go_at_call 33; refine (down_first0 HR2.out).mono ?_; rintro e wx ⟨rfl, rfl⟩)
              | (go_at_call 35; refine (down_lenk HR2.out).mono ?_; rintro e wx ⟨rfl, rfl⟩))
            go_ret
            exact ⟨rfl, HB2.out⟩
          · obtain ⟨k, hk⟩ : ∃ k, cap = k + 1 := ⟨cap - 1, by omega⟩
            have HR2 : Hid (H1 w wr p cap (down (k + 1)) ((k : Int) + 1)) := by rw [show min j cap = k + 1 by omega] at HR; exact HR
            clear HR
            have k0 : 0 < (k : Int) + 1 := by omega
            have k1 : ((k : Int) + 1 == 0) = false := by simp; omega
            have k2 : (k : Int) < 4000 := by omega
            have ek : (cap : Int) = (k : Int) + 1 := by omega
            clear hk hz
            go_wp2_with (first
              | (go_at_call 33; refine (down_first1 HR2.out).mono ?_; rintro e wx ⟨rfl, rfl⟩)
              | (go_at_call 35; refine (down_len1 HR2.out).mono ?_; rintro e wx ⟨rfl, rfl⟩)
              | (go_at_call 25; refine (down_again HR2.out (by omega)).mono ?_; rintro e w5 ⟨rfl, h5, h6⟩; have H5 := Lib.hid h5; have H6 := Lib.hid h6; clear h5 h6 HR2)
              | (go_at_call 35; refine H6.out.mono ?_; rintro e wx ⟨rfl, rfl⟩))
            go_ret
            exact ⟨rfl, H5.out⟩
  · have e0 : cap = 1000 := by have := CAP.out; omega
    by_cases c1 : n < 0
    · go_enter Try.func8, Try.ntmps8
      go_wp2_with (go_at_call 22; refine (begun2 w).mono ?_; rintro e w1 ⟨rfl, hb⟩; have HB := Lib.hid hb; clear hb)
      go_ret
      exact ⟨rfl, HB.out⟩
    by_cases c2 : n > 1005
    · go_enter Try.func8, Try.ntmps8
      go_wp2_with (go_at_call 22; refine (begun2 w).mono ?_; rintro e w1 ⟨rfl, hb⟩; have HB := Lib.hid hb; clear hb)
      go_ret
      exact ⟨rfl, HB.out⟩
    obtain ⟨N, rfl⟩ : ∃ N : Nat, n = (N : Int) := ⟨n.toNat, by omega⟩
    have hn : N ≤ 1005 := by omega
    go_enter Try.func8, Try.ntmps8
    go_wp2_with (first
      | (go_at_call 22; refine (begun2 w).mono ?_; rintro e w1 ⟨rfl, hb⟩; have HB := Lib.hid hb; clear hb)
      | (go_at_call 23; refine (h1_new HB.out _ ba).mono ?_; rintro e w2 ⟨p, rfl, h⟩; rw [← CAP.out] at h; have R0 := Lib.hid h; clear h HB))
    go_loopw [8] (fun i wr => ∃ j : Nat, i = .int .i64 (j : Int) ∧ Hid (H1 w wr p cap (down (min j cap)) ((min j cap : Nat) : Int)) ∧ j ≤ N) (fun i _ => 1006 - (intOf i).toNat)
    case atStart => exact ⟨0, rfl, by rw [show min 0 cap = 0 by omega]; exact R0, by omega⟩
    case round =>
      have hcap : cap ≤ 1000 := by omega
      clear t1 CAP
      obtain ⟨j, rfl, HR, hj⟩ := hrel
      by_cases hlt : (j : Int) < N
      · by_cases hin : j < cap
        · have E0 := Lib.hid e0
          have hin' : (j : Int) < 1000 := by have := E0.out; omega
          clear e0
          have HR2 : Hid (H1 w wr p cap (down j) (j : Int)) := by rw [show min j cap = j by omega] at HR; exact HR
          clear HR
          go_wp2_with (go_at_call 25; refine (down_put HR2.out hin hcap).mono ?_; rintro e w3 ⟨rfl, h⟩; have H := Lib.hid h; clear h)
          exact ⟨⟨j + 1, int_eq (by omega), by rw [show min (j + 1) cap = j + 1 by omega]; exact H, by omega⟩, by simp [intOf]; omega⟩
        · have E0 := Lib.hid e0
          have hin' : ¬ (j : Int) < 1000 := by have := E0.out; omega
          clear e0
          have HR2 : Hid (H1 w wr p cap (down cap) (cap : Int)) := by rw [show min j cap = cap by omega] at HR; exact HR
          clear HR
          go_wp2_with (go_at_call 25; refine (down_full HR2.out (by omega) (by omega)).mono ?_; rintro e w3 ⟨rfl, h⟩; have H := Lib.hid h; clear h)
          exact ⟨⟨j + 1, int_eq (by omega), by rw [show min (j + 1) cap = cap by omega]; exact H, by omega⟩, by simp [intOf]; omega⟩
      · obtain rfl : j = N := by omega
        have hb := HR.out.bel
        have HB2 := Lib.hid hb
        clear hb hcap hj
        by_cases hm : (j : Int) ≤ 1000
        · by_cases hz : j = 0
          · subst hz
            have HR2 : Hid (H1 w wr p cap (down 0) 0) := by rw [show min 0 cap = 0 by omega] at HR; exact HR
            clear HR
            go_wp2_with (first
              | (go_at_call 33; refine (down_first0 HR2.out).mono ?_; rintro e wx ⟨rfl, rfl⟩)
              | (go_at_call 35; refine (down_lenk HR2.out).mono ?_; rintro e wx ⟨rfl, rfl⟩))
            go_ret
            exact ⟨rfl, HB2.out⟩
          · obtain ⟨k, rfl⟩ : ∃ k, j = k + 1 := ⟨j - 1, by omega⟩
            have HR2 : Hid (H1 w wr p cap (down (k + 1)) ((k : Int) + 1)) := by rw [show min (k + 1) cap = k + 1 by omega] at HR; exact HR
            clear HR
            have k0 : 0 < (k : Int) + 1 := by omega
            have k1 : ((k : Int) + 1 == 0) = false := by simp; omega
            go_wp2_with (first
              | (go_at_call 33; refine (down_first1 HR2.out).mono ?_; rintro e wx ⟨rfl, rfl⟩)
              | (go_at_call 35; refine (down_len1 HR2.out).mono ?_; rintro e wx ⟨rfl, rfl⟩)
              | (go_at_call 25; refine (down_again HR2.out (by omega)).mono ?_; rintro e w5 ⟨rfl, h5, h6⟩; have H5 := Lib.hid h5; have H6 := Lib.hid h6; clear h5 h6 HR2)
              | (go_at_call 35; refine H6.out.mono ?_; rintro e wx ⟨rfl, rfl⟩))
            go_ret
            exact ⟨rfl, H5.out⟩
        · by_cases hz : cap = 0
          · exfalso; omega
          · obtain ⟨k, hk⟩ : ∃ k, cap = k + 1 := ⟨cap - 1, by omega⟩
            have HR2 : Hid (H1 w wr p cap (down (k + 1)) ((k : Int) + 1)) := by rw [show min j cap = k + 1 by omega] at HR; exact HR
            clear HR
            have k0 : 0 < (k : Int) + 1 := by omega
            have k1 : ((k : Int) + 1 == 0) = false := by simp; omega
            have k2 : (k : Int) < 4000 := by omega
            have ek : (k : Int) = 999 := by omega
            clear hk hz
            go_wp2_with (first
              | (go_at_call 33; refine (down_first1 HR2.out).mono ?_; rintro e wx ⟨rfl, rfl⟩)
              | (go_at_call 35; refine (down_len1 HR2.out).mono ?_; rintro e wx ⟨rfl, rfl⟩)
              | (go_at_call 25; refine (down_again HR2.out (by omega)).mono ?_; rintro e w5 ⟨rfl, h5, h6⟩; have H5 := Lib.hid h5; have H6 := Lib.hid h6; clear h5 h6 HR2)
              | (go_at_call 35; refine H6.out.mono ?_; rintro e wx ⟨rfl, rfl⟩))
            go_ret
            exact ⟨rfl, H5.out⟩
end Go.Proofs.Ytpmamgdblbplcaa.On
