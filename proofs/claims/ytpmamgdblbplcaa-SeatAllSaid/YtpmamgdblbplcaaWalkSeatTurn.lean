/- SeatTurn: the walk. -/
import Derived.Test.YtpmamgdblbplcaaArgs
namespace Go.Proofs.Ytpmamgdblbplcaa.On
open Go.RowKit Go.Proofs.Ytpmamgdblbplcaa.HeapModel Go.Proofs.Ytpmamgdblbplcaa.Bg
open Go.Proofs.Ytpmamgdblbplcaa.St (zp P idsOf)
set_option linter.unusedVariables false
set_option linter.unusedSimpArgs false

/-! ### seats -/
def S1 (w0 w : World) (p : Nat) (s : List P) : Prop := ∃ F, St.SObj w F p s ∧ (∀ k, F k → w0.heap.size ≤ k) ∧ Below w0.heap.size w0 w
section
variable {w0 w : World} {p N K j : Nat} {s : List P}
theorem S1.bel (h : S1 w0 w p s) : Below w0.heap.size w0 w := by obtain ⟨F, h1, h2, h3⟩ := h; exact h3
theorem S1.below {w' : World} (h : S1 w0 w p s) (hb : Below w.heap.size w w') : S1 w0 w' p s := by
  obtain ⟨F, h1, h2, h3⟩ := h
  exact ⟨F, h1.below hb, h2, bel_more h3 hb⟩
theorem s1_new (hb : Below w0.heap.size w0 w) (room : Int) (hr : -9223372036854775808 ≤ room ∧ room ≤ 9223372036854775807) :
    Calls Try.prog 76 #[.int .i64 room] w fun e w' => ∃ p, e = .returned (.pointer (some ⟨p, 0, none⟩)) ∧ S1 w0 w' p (List.replicate (min (max room 0) 100).toNat zp) := by
  refine (St.obj_new room w hr).mono ?_
  rintro e w' ⟨F, p, rfl, h1, h2, h3⟩
  exact ⟨p, rfl, F, h1, fun k hk => Nat.le_trans hb.size (h2 k hk), bel_more hb h3⟩
theorem s1_add (h : S1 w0 w p s) (i : Nat) (hi : i < s.length) (ht : (s.getD i zp).2 = false) (hall : ∀ j, j < i → (s.getD j zp).2 = true) (v : Int) :
    Calls Try.prog 77 #[.pointer (some ⟨p, 0, none⟩), .int .i64 v] w fun e w' => e = .returned (.int .i64 ((i : Int) + 1)) ∧ S1 w0 w' p (s.set i (v, true)) := by
  obtain ⟨F, h1, h2, h3⟩ := h
  refine (St.obj_add h1 i hi ht hall v).mono ?_
  rintro e w' ⟨rfl, h4, h5⟩
  exact ⟨rfl, F, h4, h2, bel_touch h3 h2 h5⟩
theorem s1_add_no (h : S1 w0 w p s) (hall : ∀ j, j < s.length → (s.getD j zp).2 = true) (v : Int) :
    Calls Try.prog 77 #[.pointer (some ⟨p, 0, none⟩), .int .i64 v] w fun e w' => e = .returned (.int .i64 0) ∧ w' = w := by
  obtain ⟨F, h1, h2, h3⟩ := h
  exact St.obj_add_no h1 hall v
theorem s1_drop (h : S1 w0 w p s) (i : Nat) (hi : i < s.length) (ht : (s.getD i zp).2 = true) (id : Int) (hid : id = (i : Int) + 1) :
    Calls Try.prog 79 #[.pointer (some ⟨p, 0, none⟩), .int .i64 id] w fun e w' => e = .returned (.bool true) ∧ S1 w0 w' p (s.set i zp) := by
  obtain ⟨F, h1, h2, h3⟩ := h
  refine (St.obj_drop h1 i hi ht id hid).mono ?_
  rintro e w' ⟨rfl, h4, h5⟩
  exact ⟨rfl, F, h4, h2, bel_touch h3 h2 h5⟩
theorem s1_drop_no (h : S1 w0 w p s) (id : Int) (hn : ¬ St.taken s id) :
    Calls Try.prog 79 #[.pointer (some ⟨p, 0, none⟩), .int .i64 id] w fun e w' => e = .returned (.bool false) ∧ w' = w := by
  obtain ⟨F, h1, h2, h3⟩ := h
  exact St.obj_drop_no h1 id hn
theorem s1_set (h : S1 w0 w p s) (i : Nat) (hi : i < s.length) (ht : (s.getD i zp).2 = true) (id v : Int) (hid : id = (i : Int) + 1) :
    Calls Try.prog 81 #[.pointer (some ⟨p, 0, none⟩), .int .i64 id, .int .i64 v] w fun e w' => e = .returned (.bool true) ∧ S1 w0 w' p (s.set i (v, true)) := by
  obtain ⟨F, h1, h2, h3⟩ := h
  refine (St.obj_set h1 i hi ht id v hid).mono ?_
  rintro e w' ⟨rfl, h4, h5⟩
  exact ⟨rfl, F, h4, h2, bel_touch h3 h2 h5⟩
theorem s1_set_no (h : S1 w0 w p s) (id v : Int) (hn : ¬ St.taken s id) :
    Calls Try.prog 81 #[.pointer (some ⟨p, 0, none⟩), .int .i64 id, .int .i64 v] w fun e w' => e = .returned (.bool false) ∧ w' = w := by
  obtain ⟨F, h1, h2, h3⟩ := h
  exact St.obj_set_no h1 id v hn
theorem s1_get (h : S1 w0 w p s) (i : Nat) (hi : i < s.length) (ht : (s.getD i zp).2 = true) (id : Int) (hid : id = (i : Int) + 1) :
    Calls Try.prog 80 #[.pointer (some ⟨p, 0, none⟩), .int .i64 id] w fun e w' => e = .returned (.tuple #[.int .i64 (s.getD i zp).1, .bool true]) ∧ w' = w := by
  obtain ⟨F, h1, h2, h3⟩ := h
  exact St.obj_get h1 i hi ht id hid
theorem s1_get_no (h : S1 w0 w p s) (id : Int) (hn : ¬ St.taken s id) :
    Calls Try.prog 80 #[.pointer (some ⟨p, 0, none⟩), .int .i64 id] w fun e w' => e = .returned (.tuple #[.int .i64 0, .bool false]) ∧ w' = w := by
  obtain ⟨F, h1, h2, h3⟩ := h
  exact St.obj_get_no h1 id hn
theorem s1_ids (h : S1 w0 w p s) :
    Calls Try.prog 78 #[.pointer (some ⟨p, 0, none⟩)] w fun e w' => ∃ v, e = .returned v ∧ w'.ownsRow w.heap.size 3 1 v (idsOf s s.length).length ((idsOf s s.length).map (Value.int .i64)) ∧ S1 w0 w' p s := by
  obtain ⟨F, h1, h2, h3⟩ := h
  refine (St.obj_ids h1).mono ?_
  rintro e w' ⟨v, rfl, h4, h5, h6⟩
  exact ⟨v, rfl, h4, F, h5, h2, bel_more h3 h6⟩

/-! ### all taken, one free, the first ones taken -/
def FullS (N : Nat) (s : List P) : Prop := s.length = N ∧ ∀ k, k < N → (s.getD k zp).2 = true
def HoleS (N K : Nat) (s : List P) : Prop := s.length = N ∧ K < N ∧ (∀ k, k < N → k ≠ K → (s.getD k zp).2 = true) ∧ (s.getD K zp).2 = false
def HalfS (N j : Nat) (s : List P) : Prop := s.length = N ∧ ∀ k, k < N → (s.getD k zp).2 = decide (k < j)
theorem getD_set (s : List P) (i k : Nat) (x : P) (hi : i < s.length) : (s.set i x).getD k zp = if i = k then x else s.getD k zp := by
  rw [List.getD_eq_getElem?_getD, List.getD_eq_getElem?_getD, List.getElem?_set]
  by_cases h : i = k
  · rw [if_pos h, if_pos hi, if_pos h]; rfl
  · rw [if_neg h, if_neg h]
theorem half_zero (N : Nat) : HalfS N 0 (List.replicate N zp) := by
  refine ⟨List.length_replicate, fun k hk => ?_⟩
  rw [List.getD_eq_getElem?_getD, List.getElem?_replicate, if_pos hk]
  simp [zp]
theorem half_full (h : HalfS N N s) : FullS N s := ⟨h.1, fun k hk => by rw [h.2 k hk]; simpa using hk⟩
theorem half_grow (h : S1 w0 w p s) (hs : HalfS N j s) (hj : j < N) (v : Int) :
    Calls Try.prog 77 #[.pointer (some ⟨p, 0, none⟩), .int .i64 v] w fun e w' => e = .returned (.int .i64 ((j : Int) + 1)) ∧ ∃ s', S1 w0 w' p s' ∧ HalfS N (j + 1) s' := by
  refine (s1_add h j (by rw [hs.1]; exact hj) (by rw [hs.2 j hj]; simp) (fun k hk => by rw [hs.2 k (by omega)]; simpa using hk) v).mono ?_
  rintro e w' ⟨rfl, h1⟩
  refine ⟨rfl, _, h1, by rw [List.length_set]; exact hs.1, fun k hk => ?_⟩
  rw [getD_set _ _ _ _ (by rw [hs.1]; exact hj)]
  by_cases e : j = k
  · rw [if_pos e]; simp; omega
  · rw [if_neg e, hs.2 k hk, decide_eq_decide]; omega
theorem full_drop (h : S1 w0 w p s) (hs : FullS N s) (hK : K < N) :
    Calls Try.prog 79 #[.pointer (some ⟨p, 0, none⟩), .int .i64 (1 + (K : Int))] w fun e w' => e = .returned (.bool true) ∧ ∃ s', S1 w0 w' p s' ∧ HoleS N K s' := by
  refine (s1_drop h K (by rw [hs.1]; exact hK) (hs.2 K hK) _ (by omega)).mono ?_
  rintro e w' ⟨rfl, h1⟩
  refine ⟨rfl, _, h1, by rw [List.length_set]; exact hs.1, hK, fun k hk hne => ?_, ?_⟩
  · rw [getD_set _ _ _ _ (by rw [hs.1]; exact hK), if_neg (fun c => hne c.symm)]; exact hs.2 k hk
  · rw [getD_set _ _ _ _ (by rw [hs.1]; exact hK), if_pos rfl]; rfl
theorem hole_drop (h : S1 w0 w p s) (hs : HoleS N K s) :
    Calls Try.prog 79 #[.pointer (some ⟨p, 0, none⟩), .int .i64 (1 + (K : Int))] w fun e w' => e = .returned (.bool false) ∧ w' = w := by
  refine s1_drop_no h _ ?_
  rintro ⟨_, _, c⟩
  rw [show (1 + (K : Int) - 1).toNat = K by omega, hs.2.2.2] at c
  cases c
theorem hole_add (h : S1 w0 w p s) (hs : HoleS N K s) (v : Int) :
    Calls Try.prog 77 #[.pointer (some ⟨p, 0, none⟩), .int .i64 v] w fun e w' => e = .returned (.int .i64 (1 + (K : Int))) ∧ ∃ s', S1 w0 w' p s' ∧ FullS N s' ∧ (s'.getD K zp).1 = v := by
  have hlt : K < s.length := by rw [hs.1]; exact hs.2.1
  refine (s1_add h K hlt hs.2.2.2 (fun k hk => hs.2.2.1 k (by have := hs.2.1; omega) (by omega)) v).mono ?_
  rintro e w' ⟨rfl, h1⟩
  refine ⟨by rw [Int.add_comm], _, h1, ⟨by rw [List.length_set]; exact hs.1, fun k hk => ?_⟩, ?_⟩
  · rw [getD_set _ _ _ _ hlt]
    by_cases e : K = k
    · rw [if_pos e]
    · rw [if_neg e]; exact hs.2.2.1 k hk (fun c => e c.symm)
  · rw [getD_set _ _ _ _ hlt, if_pos rfl]
theorem full_add (h : S1 w0 w p s) (hs : FullS N s) (v : Int) :
    Calls Try.prog 77 #[.pointer (some ⟨p, 0, none⟩), .int .i64 v] w fun e w' => e = .returned (.int .i64 0) ∧ w' = w :=
  s1_add_no h (fun k hk => hs.2 k (by rw [← hs.1]; exact hk)) v
theorem full_get (h : S1 w0 w p s) (hs : FullS N s) (hK : K < N) {v : Int} (hv : (s.getD K zp).1 = v) :
    Calls Try.prog 80 #[.pointer (some ⟨p, 0, none⟩), .int .i64 (1 + (K : Int))] w fun e w' => e = .returned (.tuple #[.int .i64 v, .bool true]) ∧ w' = w := by
  rw [← hv]
  exact s1_get h K (by rw [hs.1]; exact hK) (hs.2 K hK) _ (by omega)
theorem full_ids (h : S1 w0 w p s) (hs : FullS N s) :
    Calls Try.prog 78 #[.pointer (some ⟨p, 0, none⟩)] w fun e w' => ∃ A c, e = .returned (.slice A N c) ∧ S1 w0 w' p s := by
  refine (s1_ids h).mono ?_
  rintro e w' ⟨v, rfl, h1, h2⟩
  have hlen : (idsOf s s.length).length = N := by
    unfold idsOf
    rw [List.length_map, List.filter_eq_self.2, List.length_range, hs.1]
    intro k hk
    rw [List.mem_range, hs.1] at hk
    exact hs.2 k hk
  rw [hlen] at h1
  rcases h1.2 with ⟨c, c2⟩ | ⟨g, cap, cur, h4, _⟩
  · exact ⟨_, _, by rw [c, c2], h2⟩
  · exact ⟨_, _, by rw [h4], h2⟩
end
theorem tmod_add {z : Int} {N : Nat} (hN : 1 ≤ N) (hN2 : N ≤ 1000) : ∃ K : Nat, (wrap64 (z.tmod (N : Int) + (N : Int))).tmod (N : Int) = (K : Int) ∧ K < N := by
  have h1 := Int.tmod_lt_of_pos z (show (0 : Int) < (N : Int) by omega)
  have h2 := Int.lt_tmod_of_pos z (show (0 : Int) < (N : Int) by omega)
  generalize z.tmod (N : Int) = x at h1 h2 ⊢
  have e : wrap64 (x + N) = x + N := by unfold wrap64; omega
  rw [e, Int.tmod_eq_emod_of_nonneg (by omega)]
  have h3 := Int.emod_nonneg (x + N) (show (N : Int) ≠ 0 by omega)
  have h4 := Int.emod_lt_of_pos (x + N) (show (0 : Int) < (N : Int) by omega)
  exact ⟨((x + N) % N).toNat, by omega, by omega⟩

set_option maxHeartbeats 4000000 in
set_option maxRecDepth 100000 in
theorem seatTurn_walk (a : Option Addr) (len cap : Nat) (zs : List Int) (n : Int) (w : World) (hz : IsRow .i64 w a len cap zs) (wn : (Lit.int .i64 n).wf = true) :
    Calls Try.prog 19 #[.slice a len cap, .int .i64 n] w fun e w' => e = .returned (.bool true) ∧ Below w.heap.size w w' := by
  have hL := hz.len_le
  unfold maxLen at hL
  have HZ := Lib.hid hz
  clear hz wn
  obtain ⟨M, hM, hM2⟩ := tmod_add (z := n) (N := 30) (by omega) (by omega)
  have hM3 : (wrap64 (n.tmod 30 + 30)).tmod 30 = (M : Int) := hM
  clear hM
  have hM4 : (1 : Int) + (M : Int) = ((M + 1 : Nat) : Int) := by omega
  obtain ⟨N, hN⟩ : ∃ N, N = M + 1 := ⟨_, rfl⟩
  rw [← hN] at hM4
  have e1 : (min (max (N : Int) 0) 100).toNat = N := by omega
  have E1 := Lib.hid e1
  have hN1 : 1 ≤ N := by omega
  have hN2 : N ≤ 30 := by omega
  clear e1 hM2 hN
  go_enter Try.func19, Try.ntmps19
  go_wp2_with (first
    | (go_at_call 22; refine (begun2 _).mono ?_; rintro e w1 ⟨rfl, hb⟩; have HB := Lib.hid hb; clear hb)
    | (go_at_call 76; refine (s1_new HB.out (N : Int) (by omega)).mono ?_; rintro e w2 ⟨p, rfl, h⟩; rw [E1.out] at h; have B1 := Lib.hid h; clear h HB))
  clear hM3 hM4
  go_loopw [7] (fun i wr => ∃ (j : Nat) (s : List P), i = .int .i64 ((j : Int) + 1) ∧ Hid (S1 w wr p s) ∧ Hid (HalfS N j s) ∧ j ≤ N) (fun i _ => 61 - (intOf i).toNat)
  case atStart => exact ⟨0, _, rfl, B1, Lib.hid (half_zero N), by omega⟩
  case round =>
    clear B1
    obtain ⟨j, s, rfl, HR, HS, hj⟩ := hrel
    by_cases hlt : (j : Int) + 1 ≤ (N : Int)
    · go_wp2_with (go_at_call 77; refine (half_grow HR.out HS.out (by omega) _).mono ?_; rintro e w3 ⟨rfl, s', h, h'⟩; have H := Lib.hid h; have H' := Lib.hid h'; clear h h')
      exact ⟨⟨j + 1, s', iEq (by omega), H, H', by omega⟩, by simp [intOf]; omega⟩
    · have HF : Hid (FullS N s) := by have e : j = N := by omega
                                      rw [e] at HS; exact Lib.hid (half_full HS.out)
      go_wp2_with (go_at_call 77; refine (full_add HR.out HF.out _).mono ?_; rintro e w3 ⟨rfl, rfl⟩)
      clear HS hlt hj
      go_loopw [8] (fun i wr => ∃ (t : Nat) (s : List P), i = .int .i64 (t : Int) ∧ Hid (S1 w wr p s) ∧ Hid (FullS N s) ∧ t ≤ 20) (fun i _ => 61 - (intOf i).toNat)
      case atStart => exact ⟨0, s, rfl, HR, HF, by omega⟩
      case round =>
        clear HR HF
        obtain ⟨t, s, rfl, HR, HF, ht⟩ := hrel
        by_cases hl1 : (t : Int) < (len : Int)
        · by_cases hl2 : (t : Int) < 20
          · obtain ⟨x, rfl, hc⟩ := HZ.out.at HR.out.bel t (by omega)
            obtain ⟨K, hK, hK2⟩ := tmod_add (z := zs[t]?.getD 0) hN1 (by omega)
            go_wp2_with (first
              | (go_at_call 79; refine (full_drop HR.out HF.out hK2).mono ?_; rintro e w4 ⟨rfl, s2, h, h'⟩; have H := Lib.hid h; have H' := Lib.hid h'; clear h h' HR HF)
              | (go_at_call 79; refine (hole_drop H.out H'.out).mono ?_; rintro e wx ⟨rfl, rfl⟩)
              | (go_at_call 77; refine (hole_add H.out H'.out _).mono ?_; rintro e w5 ⟨rfl, s3, h, h2, h3⟩; have G := Lib.hid h; have G2 := Lib.hid h2; have G3 := Lib.hid h3; clear h h2 h3 H H')
              | (go_at_call 77; refine (full_add G.out G2.out _).mono ?_; rintro e wx ⟨rfl, rfl⟩)
              | (go_at_call 80; refine (full_get G.out G2.out hK2 G3.out).mono ?_; rintro e wx ⟨rfl, rfl⟩))
            exact ⟨⟨t + 1, s3, iEq (by omega), G, G2, by omega⟩, by simp [intOf]; omega⟩
          · go_wp2_with (go_at_call 78; refine (full_ids HR.out HF.out).mono ?_; rintro e w4 ⟨A, c, rfl, h⟩; have H := Lib.hid h; clear h)
            go_ret
            exact ⟨rfl, H.out.bel⟩
        · go_wp2_with (go_at_call 78; refine (full_ids HR.out HF.out).mono ?_; rintro e w4 ⟨A, c, rfl, h⟩; have H := Lib.hid h; clear h)
          go_ret
          exact ⟨rfl, H.out.bel⟩
end Go.Proofs.Ytpmamgdblbplcaa.On
