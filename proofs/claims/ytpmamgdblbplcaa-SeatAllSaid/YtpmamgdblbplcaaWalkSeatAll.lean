/- SeatAll: the walk. -/
import Derived.Test.YtpmamgdblbplcaaSeatQ
import Derived.Test.YtpmamgdblbplcaaRingQ
import Derived.Deep.CutBlock
import Derived.Deep.DeepCutAuto
namespace Go.Proofs.Ytpmamgdblbplcaa.On
open Go.RowKit Go.Proofs.Ytpmamgdblbplcaa.HeapModel Go.Proofs.Ytpmamgdblbplcaa.Bg
open Go.Proofs.Ytpmamgdblbplcaa.St (zp P idsOf)
set_option linter.unusedVariables false
set_option linter.unusedSimpArgs false
set_option maxHeartbeats 20000000 in
set_option maxRecDepth 100000 in
theorem seatAll_walk (room : Int) (a : Option Addr) (len cap0 : Nat) (F : Nat → Nat → Int) (w : World) (wa : (Lit.int .i64 room).wf = true) (hz : IsRec 4 w a len cap0 F) :
    Calls Try.prog 20 #[.int .i64 room, .slice a len cap0] w fun e w' => e = .returned (.bool true) ∧ Below w.heap.size w w' := by
  have ba := bounds_i64 wa
  have hL := hz.len_le
  unfold maxLen at hL
  have HZ := Lib.hid hz
  clear hz wa
  obtain ⟨M, hM⟩ : ∃ M, (min (max room 0) 100).toNat = M := ⟨_, rfl⟩
  have HM := Lib.hid hM
  have hM1 : M ≤ 100 := by omega
  go_enter Try.func20, Try.ntmps20
  go_upto_region 5 with (first
    | (go_at_call 22; refine (begun2 _).mono ?_; rintro e w1 ⟨rfl, hb⟩; have HB := Lib.hid hb; clear hb)
    | (go_at_call 76; refine (s1_new HB.out room ba).mono ?_; rintro e w2 ⟨p, rfl, h⟩; rw [HM.out] at h; have B1 := Lib.hid h; clear h HB))
  go_cut [7] (fun s7 wx => s7 = .int .i64 (M : Int) ∧ Hid (S1 w wx p (List.replicate M zp)))
  case first =>
    go_wp2
    all_goals go_meet
    all_goals (refine ⟨?_, B1⟩; congr 1; omega)
  case rest =>
    clear B1 hM HM ba
    obtain ⟨rfl, HS⟩ := hcut
    obtain ⟨n, hn⟩ : ∃ n, n = M + 2 := ⟨_, rfl⟩
    have e1 : (M : Int) + 2 = (n : Int) := by omega
    have HS1 := HS.out.below ((Below.refl _ _).drew)
    obtain ⟨i0, hi0, hz0, hz1, hz2⟩ := info_parts info4
    obtain ⟨j0, hj0, hy0, hy1, hy2⟩ := info_parts inf3
    obtain ⟨W, hrun, r1, r2⟩ := run_make_full (P := Try.prog) wc.drew 0 81 4 i0 _ 1 Try.underlying81 hi0 hz0 hz1 .i64 .i64 n (by rw [hz2]; omega) (by unfold maxLen; omega) (Nat.zero_le _)
    obtain ⟨X, hrunX, q1, q2⟩ := run_make_full (P := Try.prog) W 0 47 3 j0 _ 1 Try.underlying47 hj0 hy0 hy1 .i64 .i64 n (by rw [hy2]; omega) (by unfold maxLen; omega) (Nat.zero_le _)
    have S1 := Lib.hid (sa_new HS1 r1 r2 q1 q2)
    obtain ⟨Y, hrunY, s1, s2⟩ := run_make_full (P := Try.prog) wc.drew 0 47 3 j0 _ 1 Try.underlying47 hj0 hy0 hy1 .i64 .i64 n (by rw [hy2]; omega) (by unfold maxLen; omega) (Nat.zero_le _)
    obtain ⟨Z, hrunZ, t1, t2⟩ := run_make_full (P := Try.prog) Y 0 81 4 i0 _ 1 Try.underlying81 hi0 hz0 hz1 .i64 .i64 n (by rw [hz2]; omega) (by unfold maxLen; omega) (Nat.zero_le _)
    have S2 := Lib.hid (sa_new' HS1 s1 s2 t1 t2)
    have run1 : (Instr.makeSlice 81 (.int .i64 ((M : Int) + 2)) (.int .i64 ((M : Int) + 2))).run Try.prog wc.drew = .ok (.slice (some ⟨wc.drew.heap.size, 0, none⟩) n n) W := by rw [e1]; exact hrun
    have run2 : (Instr.makeSlice 47 (.int .i64 ((M : Int) + 2)) (.int .i64 ((M : Int) + 2))).run Try.prog W = .ok (.slice (some ⟨W.heap.size, 0, none⟩) n n) X := by rw [e1]; exact hrunX
    have run3 : (Instr.makeSlice 47 (.int .i64 ((M : Int) + 2)) (.int .i64 ((M : Int) + 2))).run Try.prog wc.drew = .ok (.slice (some ⟨wc.drew.heap.size, 0, none⟩) n n) Y := by rw [e1]; exact hrunY
    have run4 : (Instr.makeSlice 81 (.int .i64 ((M : Int) + 2)) (.int .i64 ((M : Int) + 2))).run Try.prog Y = .ok (.slice (some ⟨Y.heap.size, 0, none⟩) n n) Z := by rw [e1]; exact hrunZ
    clear hrun hrunX hrunY hrunZ r1 r2 q1 q2 s1 s2 t1 t2 hi0 hz0 hz1 hz2 hj0 hy0 hy1 hy2 HS HS1 e1
    have hnn := Lib.hid hn
    clear hn
    have e0 : IntKind.i64.wrap ((M : Int) + 2) = (M : Int) + 2 := IntWalk.i64_in _ (by omega)
    go_upto_region 6 with fail
    go_cut [8, 9] (fun s8 s9 wy => ∃ G1 G2 : Nat, s8 = .slice (some ⟨G1, 0, none⟩) n n ∧ s9 = .slice (some ⟨G2, 0, none⟩) n n ∧ Hid (SA w wy p G1 G2 (List.replicate M zp) (List.replicate n false) (List.replicate n 0)))
    case first =>
      go_region
      all_goals go_wp2
      all_goals (go_meet; first | exact ⟨_, _, rfl, rfl, S1⟩ | exact ⟨_, _, rfl, rfl, S2⟩)
    case rest =>
      clear S1 S2 run1 run2 run3 run4
      obtain ⟨G1, G2, rfl, rfl, H0⟩ := hcut
      clear e0
      go_wp2
      go_loopw [10] (fun i wr => ∃ (j : Nat) (s : List P) (bs : List Bool) (vs : List Int), i = .int .i64 (j : Int) ∧ Hid (SA w wr p G1 G2 s bs vs) ∧ Hid (LinkS M s bs vs) ∧ j ≤ 60) (fun i _ => 61 - (intOf i).toNat)
      case atStart => exact ⟨0, _, _, _, rfl, H0, Lib.hid (by rw [hnn.out]; exact LinkS.start M), by omega⟩
      case round =>
        clear H0
        obtain ⟨j, s, bs, vs, rfl, HR, HL, hj⟩ := hrel
        have hn3 : (M : Int) + 1 < (n : Int) := by have := hnn.out; omega
        by_cases h1 : (j : Int) < (len : Int)
        · by_cases h2 : (j : Int) < 60
          · obtain ⟨x, rfl, hc⟩ := HZ.out.four j (by omega)
            obtain ⟨hc0, hc1, hc2, hc3⟩ := hc wr HR.out.bel
            clear hc
            obtain ⟨V, hV⟩ : ∃ V, F j 1 = V := ⟨_, rfl⟩
            obtain ⟨k, hk⟩ : ∃ k, F j 0 = k := ⟨_, rfl⟩
            obtain ⟨A, hA⟩ : ∃ A, F j 2 = A := ⟨_, rfl⟩
            obtain ⟨D, hD⟩ : ∃ D, F j 3 = D := ⟨_, rfl⟩
            rw [hk] at hc0
            rw [hV] at hc1
            rw [hA] at hc2
            rw [hD] at hc3
            clear hk hV hA hD
            have B := Lib.hid (HR.out.op [.int .i64 k, .int .i64 V, .int .i64 A, .int .i64 D])
            have b1 := B.out.three.1
            go_upto_region 11 with fail
            go_cut [12] (fun s12 wx => ∃ b, s12 = .bool b ∧ Hid (SAO w wx p G1 G2 s bs vs wr.heap.size [.int .i64 k, .int .i64 V, .int .i64 A, .int .i64 D]) ∧ Hid (b = true → ∃ i : Nat, V = (i : Int) + 1 ∧ i < M ∧ (s.getD i zp).2 = true) ∧ Hid (b = false → ¬ St.taken s V))
            case first =>
              as_aux_lemma =>
                by_cases v1 : 1 ≤ V
                · by_cases v2 : V ≤ (M : Int)
                  · obtain ⟨i, rfl⟩ : ∃ i : Nat, V = (i : Int) + 1 := ⟨(V - 1).toNat, by omega⟩
                    have hi : i < M := by omega
                    have gc := (B.out.sa.bool (i + 1) (by rw [HL.out.2.1]; omega)).1
                    rw [(HL.out.2.2.2 i hi).1] at gc
                    have m1 : max ((i : Int) + 1) 0 = (i : Int) + 1 := by omega
                    have m2 : min ((i : Int) + 1) ((M : Int) + 1) = (i : Int) + 1 := by omega
                    obtain ⟨b, hb⟩ : ∃ b, (s.getD i zp).2 = b := ⟨_, rfl⟩
                    rw [hb] at gc
                    have HB := Lib.hid hb
                    clear hb
                    go_wp2
                    all_goals (go_meet; exact ⟨b, rfl, B, Lib.hid (fun hb => ⟨i, rfl, hi, by rw [HB.out]; exact hb⟩), Lib.hid (fun hb => by rintro ⟨_, _, c⟩; rw [show ((i : Int) + 1 - 1).toNat = i by omega, HB.out, hb] at c; cases c)⟩)
                  · go_wp2
                    all_goals (go_meet; exact ⟨false, rfl, B, Lib.hid (fun hb => by cases hb), Lib.hid (fun hb => by rintro ⟨_, c, _⟩; rw [HL.out.1] at c; omega)⟩)
                · go_wp2
                  all_goals (go_meet; exact ⟨false, rfl, B, Lib.hid (fun hb => by cases hb), Lib.hid (fun hb => by rintro ⟨c, _, _⟩; omega)⟩)
            case rest =>
              clear b1 B
              obtain ⟨b, rfl, HS, HT, HNT⟩ := hcut
              have b0 : wc.cell? ⟨wr.heap.size, 0, none⟩ = some (.int .i64 k) := HS.out.cell 0
              have b1 := HS.out.three.1
              have b2 := HS.out.three.2.1
              have b3 := HS.out.three.2.2
              go_upto_block 2 with fail
              go_cut [] (fun wx => ∃ s2 bs2 vs2, Hid (SA w wx p G1 G2 s2 bs2 vs2) ∧ Hid (LinkS M s2 bs2 vs2))
              case first =>
                by_cases k0 : k = 0
                · subst k0
                  as_aux_lemma =>
                    obtain ⟨T, hT1, hT2, hT3⟩ := free_at s
                    have hTM : T ≤ M := by rw [← HL.out.1]; exact hT1
                    have F1 := Lib.hid hT1
                    have F2 := Lib.hid hT2
                    have F3 := Lib.hid hT3
                    clear hT1 hT2 hT3
                    go_wp2
                    go_loopw [13] (fun i wr3 => ∃ t : Nat, i = .int .i64 ((t : Int) + 1) ∧ Hid (SAO w wr3 p G1 G2 s bs vs wr.heap.size [.int .i64 0, .int .i64 V, .int .i64 A, .int .i64 D]) ∧ t ≤ T) (fun i _ => 1001 - (intOf i).toNat)
                    case atStart => exact ⟨0, rfl, HS, by omega⟩
                    case round =>
                      clear HS
                      obtain ⟨t, rfl, HS, ht⟩ := hrel
                      have g2 := HS.out.three.2.1
                      by_cases t1 : (t : Int) + 1 ≤ (M : Int)
                      · have gc := (HS.out.sa.bool (t + 1) (by rw [HL.out.2.1]; omega)).1
                        rw [(HL.out.2.2.2 t (by omega)).1] at gc
                        by_cases t2 : t < T
                        · rw [F2.out t t2] at gc
                          go_wp2
                          exact ⟨⟨t + 1, iEq (by omega), HS, by omega⟩, by simp [intOf]; omega⟩
                        · obtain rfl : t = T := by omega
                          have ff := F3.out (by rw [HL.out.1]; omega)
                          rw [ff] at gc
                          have FF := Lib.hid ff
                          clear ff t2 ht
                          go_wp2_with (go_at_call 77; refine (sa_add HS.out t (by rw [HL.out.1]; omega) FF.out F2.out _).mono ?_; rintro e w5 ⟨rfl, h⟩; have ga := h.three.2.1; have gb := h.sa.bool (t + 1) (by rw [HL.out.2.1]; omega); have gn := h.sa.num (t + 1) (by rw [HL.out.2.2.1]; omega); have H5 := Lib.hid h; clear h gc)
                          obtain ⟨gb1, gb2⟩ := gb
                          obtain ⟨gn1, gn2⟩ := gn
                          obtain ⟨ne1, ne2, ne3, ne4⟩ := H5.out.ne
                          have tn : (t : Int) + 1 < (n : Int) := by omega
                          go_region
                          all_goals go_wp2
                          all_goals (go_meet; first
                            | exact ⟨_, _, _, Lib.hid (((H5.out.sa.below ((Below.refl _ _).drew)).setB (t + 1) true).setN (t + 1) _), Lib.hid (HL.out.put t (by omega) _)⟩
                            | exact ⟨_, _, _, Lib.hid (((H5.out.sa.below ((Below.refl _ _).drew)).setN (t + 1) _).setB (t + 1) true), Lib.hid (HL.out.put t (by omega) _)⟩)
                      · have et : T = s.length := by rw [HL.out.1]; omega
                        have hf : ∀ j, j < s.length → (s.getD j zp).2 = true := by rw [← et]; exact F2.out
                        have FF := Lib.hid hf
                        clear hf et
                        go_wp2_with (go_at_call 77; refine (sa_add_no HS.out FF.out _).mono ?_; rintro e w5 ⟨rfl, rfl⟩)
                        go_meet
                        exact ⟨_, _, _, Lib.hid HS.out.sa, HL⟩
                by_cases k1 : k = 1
                · subst k1
                  as_aux_lemma =>
                    cases b with
                    | false =>
                      have ht := HNT.out rfl
                      have FF := Lib.hid ht
                      clear ht
                      go_wp2_with (go_at_call 79; refine (sa_drop_no HS.out V FF.out).mono ?_; rintro e w5 ⟨rfl, rfl⟩)
                      go_meet
                      exact ⟨_, _, _, Lib.hid HS.out.sa, HL⟩
                    | true =>
                      obtain ⟨i, rfl, hi, ht⟩ := HT.out rfl
                      have FF := Lib.hid ht
                      clear ht HT HNT
                      go_wp2_with (go_at_call 79; refine (sa_drop HS.out i (by rw [HL.out.1]; exact hi) FF.out _ rfl).mono ?_; rintro e w5 ⟨rfl, h⟩; have gv := h.three.1; have gb := h.sa.bool (i + 1) (by rw [HL.out.2.1]; omega); obtain ⟨gb1, gb2⟩ := gb; have H5 := Lib.hid h; clear h)
                      go_meet
                      exact ⟨_, _, _, Lib.hid (H5.out.sa.setB (i + 1) false), Lib.hid (HL.out.drop i hi)⟩
                by_cases k2 : k = 2
                · subst k2
                  as_aux_lemma =>
                    cases b with
                    | false =>
                      have ht := HNT.out rfl
                      have FF := Lib.hid ht
                      clear ht
                      go_wp2_with (go_at_call 81; refine (sa_set_no HS.out V _ FF.out).mono ?_; rintro e w5 ⟨rfl, rfl⟩)
                      go_meet
                      exact ⟨_, _, _, Lib.hid HS.out.sa, HL⟩
                    | true =>
                      obtain ⟨i, rfl, hi, ht⟩ := HT.out rfl
                      have FF := Lib.hid ht
                      clear ht HT HNT
                      go_wp2_with (go_at_call 81; refine (sa_set HS.out i (by rw [HL.out.1]; exact hi) FF.out _ _ rfl).mono ?_; rintro e w5 ⟨rfl, h⟩; have gv := h.three.1; have gd := h.three.2.2; have gb := h.sa.num (i + 1) (by rw [HL.out.2.2.1]; omega); obtain ⟨gb1, gb2⟩ := gb; have H5 := Lib.hid h; clear h)
                      go_meet
                      exact ⟨_, _, _, Lib.hid (H5.out.sa.setN (i + 1) _), Lib.hid (HL.out.set i hi FF.out _)⟩
                have q0 : (k == 0) = false := by simpa using k0
                have q1 : (k == 1) = false := by simpa using k1
                have q2 : (k == 2) = false := by simpa using k2
                clear k0 k1 k2
                as_aux_lemma =>
                  cases b with
                  | false =>
                    have ht := HNT.out rfl
                    have FF := Lib.hid ht
                    clear ht
                    go_wp2_with (go_at_call 80; refine (sa_get_no HS.out V FF.out).mono ?_; rintro e w5 ⟨rfl, rfl⟩)
                    go_meet
                    exact ⟨_, _, _, Lib.hid HS.out.sa, HL⟩
                  | true =>
                    obtain ⟨i, rfl, hi, ht⟩ := HT.out rfl
                    have FF := Lib.hid ht
                    have gn := (HS.out.sa.num (i + 1) (by rw [HL.out.2.2.1]; omega)).1
                    rw [(HL.out.2.2.2 i hi).2 ht] at gn
                    obtain ⟨y, hy⟩ : ∃ y, (s.getD i zp).1 = y := ⟨_, rfl⟩
                    rw [hy] at gn
                    have HY := Lib.hid hy
                    clear ht HT HNT hy
                    go_wp2_with (go_at_call 80; refine (sa_get HS.out i (by rw [HL.out.1]; exact hi) FF.out _ rfl HY.out).mono ?_; rintro e w5 ⟨rfl, rfl⟩)
                    go_meet
                    exact ⟨_, _, _, Lib.hid HS.out.sa, HL⟩
              case rest =>
                clear HS HT HNT b0 b1 b2 b3 HR HL
                obtain ⟨s2, bs2, vs2, HS2, HL2⟩ := hcut
                as_aux_lemma =>
                  go_wp2_with (go_at_call 78; refine (sa_ids HS2.out).mono ?_; rintro e w6 ⟨A2, c2, rfl, h, h'⟩; rw [HL2.out.1] at h'; rw [HL2.out.1]; have H6 := Lib.hid h; have H7 := Lib.hid h'; clear h h')
                  go_loopw [16, 18] (fun nn id wr4 => ∃ (t q : Nat), nn = .int .i64 (q : Int) ∧ id = .int .i64 ((t : Int) + 1) ∧ Hid ((idsOf s2 t).length = q) ∧ Hid (SA w wr4 p G1 G2 s2 bs2 vs2) ∧ Hid (RowI wr4 (.slice A2 (idsOf s2 M).length c2) (idsOf s2 M)) ∧ t ≤ M) (fun _ id _ => 1001 - (intOf id).toNat)
                  case atStart => exact ⟨0, 0, rfl, rfl, Lib.hid rfl, H6, H7, by omega⟩
                  case round =>
                    clear H6 H7
                    obtain ⟨t, q, rfl, rfl, HQ, H6, H7, ht⟩ := hrel
                    by_cases t1 : (t : Int) + 1 ≤ (M : Int)
                    · have gc := (H6.out.bool (t + 1) (by rw [HL2.out.2.1]; omega)).1
                      rw [(HL2.out.2.2.2 t (by omega)).1] at gc
                      cases hb : (s2.getD t zp).2 with
                      | true =>
                        rw [hb] at gc
                        have hq := ids_hit s2 (show t < M by omega) hb
                        rw [HQ.out] at hq
                        obtain ⟨hq1, hq2, hq3⟩ := hq
                        have HQ3 := Lib.hid hq3
                        obtain ⟨A3, c3, e3, d1, d2, d3⟩ := H7.out.open
                        cases e3
                        obtain ⟨x3, rfl, hx⟩ := d3 q hq1
                        rw [hq2] at hx
                        have hq4 := ids_few s2 M
                        have hq5 : (q : Int) < ((idsOf s2 M).length : Int) := by omega
                        unfold maxLen at d2
                        clear hb hq2 hq3 d3
                        go_wp2
                        all_goals exact ⟨⟨t + 1, q + 1, iEq (by omega), iEq (by omega), HQ3, H6, H7, by omega⟩, by simp [intOf]; omega⟩
                      | false =>
                        rw [hb] at gc
                        have hq := Lib.hid ((ids_miss s2 hb).trans HQ.out)
                        clear hb
                        go_wp2
                        all_goals exact ⟨⟨t + 1, q, rfl, iEq (by omega), hq, H6, H7, by omega⟩, by simp [intOf]; omega⟩
                    · obtain rfl : t = M := by omega
                      have hq : (idsOf s2 t).length = q := HQ.out
                      rw [hq] at H7 ⊢
                      go_wp2
                      all_goals exact ⟨⟨j + 1, s2, bs2, vs2, iEq (by omega), H6, HL2, by omega⟩, by simp [intOf]; omega⟩
          · go_wp2
            go_ret
            exact ⟨rfl, HR.out.bel⟩
        · go_wp2
          go_ret
          exact ⟨rfl, HR.out.bel⟩
end Go.Proofs.Ytpmamgdblbplcaa.On
