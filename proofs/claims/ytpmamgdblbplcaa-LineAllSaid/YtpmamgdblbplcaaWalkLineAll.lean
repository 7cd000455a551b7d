/- LineAll: the walk. (printed by wip/genlineall.py) -/
import Derived.Test.YtpmamgdblbplcaaTwoL
namespace Go.Proofs.Ytpmamgdblbplcaa.On
open Go.RowKit Go.Proofs.Ytpmamgdblbplcaa.HeapModel Go.Proofs.Ytpmamgdblbplcaa.Bg
set_option linter.unusedVariables false
set_option linter.unusedSimpArgs false
theorem dueM_cons {t S : List (It Int)} {now v : Int} {r : List Int} (h : dueM t now = (v :: r, S)) : ∃ y, least t = some y ∧ y.v = v ∧ y.a ≤ now ∧ dueM (without t v) now = (r, S) := by
  cases hl : least t with
  | none => rw [dueM_stop (fun x hx => by rw [hl] at hx; cases hx)] at h; cases h
  | some y =>
    by_cases ha : y.a ≤ now
    · rw [dueM_step hl ha] at h
      injection h with h1 h2
      injection h1 with h3 h4
      subst h3
      exact ⟨y, rfl, rfl, ha, by rw [← h4, ← h2]⟩
    · rw [dueM_stop (fun x hx => by rw [hl] at hx; injection hx with hx; subst hx; exact ha)] at h; cases h
theorem dueM_nil {t S : List (It Int)} {now : Int} (h : dueM t now = ([], S)) : t = S ∧ ∀ y, least t = some y → ¬ y.a ≤ now := by
  cases hl : least t with
  | none => rw [dueM_stop (fun x hx => by rw [hl] at hx; cases hx)] at h; injection h with _ h; exact ⟨h, fun y hy => by cases hy⟩
  | some y =>
    by_cases ha : y.a ≤ now
    · rw [dueM_step hl ha] at h; cases h
    · rw [dueM_stop (fun x hx => by rw [hl] at hx; injection hx with hx; subst hx; exact ha)] at h
      injection h with _ h
      exact ⟨h, fun z hz => by injection hz with hz; subst hz; exact ha⟩
set_option maxHeartbeats 20000000 in
set_option maxRecDepth 100000 in
theorem lineAll_walk (room : Int) (a : Option Addr) (len cap0 : Nat) (F : Nat → Nat → Int) (w : World) (wa : (Lit.int .i64 room).wf = true) (hz : IsRec 4 w a len cap0 F) :
    Calls Try.prog 16 #[.int .i64 room, .slice a len cap0] w fun e w' => e = .returned (.bool true) ∧ Below w.heap.size w w' := by
  have ba := bounds_i64 wa
  have hL := hz.len_le
  unfold maxLen at hL
  have HZ := Lib.hid hz
  clear hz wa
  obtain ⟨R, hR⟩ : ∃ R, min (max room 0) 1000 = R := ⟨_, rfl⟩
  have HR0 := Lib.hid hR
  clear hR
  go_enter Try.func16, Try.ntmps16
  go_wp2_with (first
    | (go_at_call 22; refine (begun2 _).mono ?_; rintro e w1 ⟨rfl, hb⟩; have HB := Lib.hid hb; clear hb)
    | (go_at_call 64; refine (li1_new HB.out _ ba).mono ?_; rintro e w2 ⟨q, rfl, h⟩; rw [HR0.out] at h; have R0 := Lib.hid h; clear h HB)
    | (go_at_call 24; refine (Rf.f_new _ _ ba).mono ?_; rintro e w3 ⟨G, pf, rfl, h1, h2, h3⟩; rw [HR0.out] at h1; have R1 : Hid (RL w w3 q pf R [] 0 []) := Lib.hid (rl_new R0.out h1 h2 h3); clear h1 h2 h3 R0))
  go_loopw [8] (fun i wr => ∃ (j : Nat) (s : List (It Int)) (m : Int), i = .int .i64 (j : Int) ∧ Hid (RL w wr q pf R s m s) ∧ m ≤ (j : Int) ∧ j ≤ 60) (fun i _ => 61 - (intOf i).toNat)
  case atStart => exact ⟨0, [], 0, rfl, R1, by omega, by omega⟩
  case round =>
    clear R1
    obtain ⟨j, s, m, rfl, HR, hm, hj⟩ := hrel
    by_cases h1 : (j : Int) < (len : Int)
    · by_cases h2 : (j : Int) < 60
      · have KF := Lib.hid (HZ.out.wf j 1 (by omega) (by omega))
        obtain ⟨x, rfl, hc⟩ := HZ.out.four j (by omega)
        obtain ⟨hc0, hc1, hc2, hc3⟩ := hc wr HR.out.bel
        clear hc
        have FW := Lib.hid HR.out.few
        have KN := Lib.hid HR.out.keys
        have CH := Lib.hid HR.out.chron
        have B := Lib.hid (HR.out.op [.int .i64 (F j 0), .int .i64 (F j 1), .int .i64 (F j 2), .int .i64 (F j 3)])
        by_cases k0 : F j 0 = 0
        · have k0b : (F j 0 == 0) = true := by simpa using k0
          clear k0
          have b0 : _ ∧ _ := ⟨B.out.three.1, B.out.three.2.1⟩
          by_cases hr : has s (F j 1) = true ∨ (s.length : Int) < R
          · have HRR := Lib.hid hr
            obtain ⟨S, hS⟩ : ∃ S, without s (F j 1) ++ [(⟨F j 1, F j 2, 0, m + 1⟩ : It Int)] = S := ⟨_, rfl⟩
            have HS0 := Lib.hid hS
            clear hS
            clear hr
            go_wp2
            go_region_held3 (fun w' => w'.cell? ⟨wr.heap.size, 1, none⟩ = some (.int .i64 (F j 1)) ∧ w'.cell? ⟨wr.heap.size, 2, none⟩ = some (.int .i64 (F j 2))) (first | exact b0 | exact b1 | exact b2) (first
              | (go_at_call 65; refine (lp_put (B.out.below ((Below.refl _ _).drew)) (F j 1) (F j 2) KF.out (by omega) HRR.out).mono ?_; rintro e w4 ⟨rfl, h⟩; rw [HS0.out] at h; have b1 : _ ∧ _ := ⟨h.three.1, h.three.2.1⟩; have H4 := Lib.hid h; clear h)
              | (go_at_call 26; refine (lfp_put H4.out FW.out KN.out (F j 1) (F j 2) 0 (m + 1) HRR.out).mono ?_; rintro e w5 ⟨rfl, h⟩; rw [HS0.out] at h; have b2 : _ ∧ _ := ⟨h.three.1, h.three.2.1⟩; have H5 := Lib.hid h; clear h))
            have FW2 := Lib.hid H5.out.rl.few
            have KN2 := Lib.hid H5.out.rl.keys
            have CH2 := Lib.hid H5.out.rl.chron
            cases hl : least S with
            | none =>
              obtain rfl := least_none.1 hl
              clear hl
              go_wp2_with (first
                | (go_at_call 69; refine (lp_next_no H5.out).mono ?_; rintro e wx ⟨rfl, rfl⟩)
                | (go_at_call 34; refine (lfp_first H5.out CH2.out FW2.out (rfl : Hp.firstV [] = 0) (rfl : (least ([] : List (It Int))).isSome = false)).mono ?_; rintro e w8 ⟨rfl, h⟩; obtain ⟨A7, c7, l7⟩ := lfp_list h; have H8 := Lib.hid h; clear h H5)
                | (go_at_call 32; refine (lfp_key_no H8.out FW2.out 0 rfl).mono ?_; rintro e wx ⟨rfl, rfl⟩))
              go_quiet ((go_at_call 67; exact Calls.quiet_of_same (lp_len (H8.out.below (Hp.below_drewN _ _)))))
              go_wp2
              all_goals exact ⟨⟨j + 1, [], m + 1, iEq (by omega), Lib.hid (H8.out.below (Hp.below_drewN _ _)).rl, by omega, by omega⟩, by simp [intOf]; omega⟩
            | some y =>
              obtain ⟨yv, ya, yb, ym⟩ := y
              have HY := Lib.hid (least_spec hl).1
              have HV : Hid (Hp.firstV S = yv) := Lib.hid (by unfold Hp.firstV; rw [hl])
              have HB2 : Hid ((least S).isSome = true) := Lib.hid (by rw [hl]; rfl)
              have HX := Lib.hid hl
              clear hl
              go_wp2_with (first
                | (go_at_call 69; refine (lp_next H5.out HX.out).mono ?_; rintro e w8 ⟨rfl, h⟩; have H8 := Lib.hid h; clear h H5)
                | (go_at_call 34; refine (lfp_first H8.out CH2.out FW2.out HV.out HB2.out).mono ?_; rintro e w9 ⟨rfl, h⟩; have H9 := Lib.hid h; clear h H8)
                | (go_at_call 32; refine (lfp_key H9.out FW2.out KN2.out _ HY.out).mono ?_; rintro e w10 ⟨rfl, h⟩; obtain ⟨A7, c7, l7⟩ := lfp_list h; have H10 := Lib.hid h; clear h H9))
              go_quiet ((go_at_call 67; exact Calls.quiet_of_same (lp_len (H10.out.below (Hp.below_drewN _ _)))))
              go_wp2
              all_goals exact ⟨⟨j + 1, S, m + 1, iEq (by omega), Lib.hid (H10.out.below (Hp.below_drewN _ _)).rl, by omega, by omega⟩, by simp [intOf]; omega⟩
          · have hs : has s (F j 1) = false := by cases c : has s (F j 1) with | false => rfl | true => exact absurd (Or.inl c) hr
            have hr2 : ¬ (s.length : Int) < R := fun c => hr (Or.inr c)
            have HS := Lib.hid hs
            have HRR := Lib.hid hr2
            obtain ⟨S, hS⟩ : ∃ S, s = S := ⟨_, rfl⟩
            have HS0 := Lib.hid hS
            clear hS
            clear hr hs hr2
            go_wp2
            go_region_held3 (fun w' => w'.cell? ⟨wr.heap.size, 1, none⟩ = some (.int .i64 (F j 1)) ∧ w'.cell? ⟨wr.heap.size, 2, none⟩ = some (.int .i64 (F j 2))) (first | exact b0 | exact b1 | exact b2) (first
              | (go_at_call 65; refine (lp_full (B.out.below ((Below.refl _ _).drew)) (F j 1) (F j 2) KF.out HS.out (by have := HRR.out; omega)).mono ?_; rintro e w4 ⟨rfl, h⟩; have b1 : _ ∧ _ := ⟨h.three.1, h.three.2.1⟩; have H4 := Lib.hid h; clear h)
              | (go_at_call 26; refine (lfp_full H4.out FW.out (F j 1) (F j 2) 0 HS.out (by have := HRR.out; omega)).mono ?_; rintro e w5 ⟨rfl, h⟩; rw [HS0.out] at h; have b2 : _ ∧ _ := ⟨h.three.1, h.three.2.1⟩; have H5 := Lib.hid h; clear h))
            have FW2 := Lib.hid H5.out.rl.few
            have KN2 := Lib.hid H5.out.rl.keys
            have CH2 := Lib.hid H5.out.rl.chron
            cases hl : least S with
            | none =>
              obtain rfl := least_none.1 hl
              clear hl
              go_wp2_with (first
                | (go_at_call 69; refine (lp_next_no H5.out).mono ?_; rintro e wx ⟨rfl, rfl⟩)
                | (go_at_call 34; refine (lfp_first H5.out CH2.out FW2.out (rfl : Hp.firstV [] = 0) (rfl : (least ([] : List (It Int))).isSome = false)).mono ?_; rintro e w8 ⟨rfl, h⟩; obtain ⟨A7, c7, l7⟩ := lfp_list h; have H8 := Lib.hid h; clear h H5)
                | (go_at_call 32; refine (lfp_key_no H8.out FW2.out 0 rfl).mono ?_; rintro e wx ⟨rfl, rfl⟩))
              go_quiet ((go_at_call 67; exact Calls.quiet_of_same (lp_len (H8.out.below (Hp.below_drewN _ _)))))
              go_wp2
              all_goals exact ⟨⟨j + 1, [], m, iEq (by omega), Lib.hid (H8.out.below (Hp.below_drewN _ _)).rl, by omega, by omega⟩, by simp [intOf]; omega⟩
            | some y =>
              obtain ⟨yv, ya, yb, ym⟩ := y
              have HY := Lib.hid (least_spec hl).1
              have HV : Hid (Hp.firstV S = yv) := Lib.hid (by unfold Hp.firstV; rw [hl])
              have HB2 : Hid ((least S).isSome = true) := Lib.hid (by rw [hl]; rfl)
              have HX := Lib.hid hl
              clear hl
              go_wp2_with (first
                | (go_at_call 69; refine (lp_next H5.out HX.out).mono ?_; rintro e w8 ⟨rfl, h⟩; have H8 := Lib.hid h; clear h H5)
                | (go_at_call 34; refine (lfp_first H8.out CH2.out FW2.out HV.out HB2.out).mono ?_; rintro e w9 ⟨rfl, h⟩; have H9 := Lib.hid h; clear h H8)
                | (go_at_call 32; refine (lfp_key H9.out FW2.out KN2.out _ HY.out).mono ?_; rintro e w10 ⟨rfl, h⟩; obtain ⟨A7, c7, l7⟩ := lfp_list h; have H10 := Lib.hid h; clear h H9))
              go_quiet ((go_at_call 67; exact Calls.quiet_of_same (lp_len (H10.out.below (Hp.below_drewN _ _)))))
              go_wp2
              all_goals exact ⟨⟨j + 1, S, m, iEq (by omega), Lib.hid (H10.out.below (Hp.below_drewN _ _)).rl, by omega, by omega⟩, by simp [intOf]; omega⟩
        by_cases k2 : F j 0 = 2
        · have k0b : (F j 0 == 0) = false := by simpa using k0
          have k2b : (F j 0 == 2) = true := by simpa using k2
          clear k0 k2
          have b0 := B.out.three.1
          obtain ⟨hb, ehb⟩ : ∃ b, has s (F j 1) = b := ⟨_, rfl⟩
          have HS := Lib.hid ehb
          obtain ⟨S, hS⟩ : ∃ S, without s (F j 1) = S := ⟨_, rfl⟩
          have HS0 := Lib.hid hS
          clear hS
          clear ehb
          go_wp2
          go_region_held3 (fun w' => w'.cell? ⟨wr.heap.size, 1, none⟩ = some (.int .i64 (F j 1))) (first | exact b0 | exact b1 | exact b2) (first
              | (go_at_call 68; refine (lp_drop (B.out.below ((Below.refl _ _).drew)) (F j 1) KF.out HS.out).mono ?_; rintro e w4 ⟨rfl, h⟩; rw [HS0.out] at h; have b1 := h.three.1; have H4 := Lib.hid h; clear h)
              | (go_at_call 30; refine (lfp_drop H4.out FW.out KN.out (F j 1) HS.out).mono ?_; rintro e w5 ⟨rfl, h⟩; rw [HS0.out] at h; have b2 := h.three.1; have H5 := Lib.hid h; clear h))
          have FW2 := Lib.hid H5.out.rl.few
          have KN2 := Lib.hid H5.out.rl.keys
          have CH2 := Lib.hid H5.out.rl.chron
          cases hl : least S with
          | none =>
            obtain rfl := least_none.1 hl
            clear hl
            go_wp2_with (first
              | (go_at_call 69; refine (lp_next_no H5.out).mono ?_; rintro e wx ⟨rfl, rfl⟩)
              | (go_at_call 34; refine (lfp_first H5.out CH2.out FW2.out (rfl : Hp.firstV [] = 0) (rfl : (least ([] : List (It Int))).isSome = false)).mono ?_; rintro e w8 ⟨rfl, h⟩; obtain ⟨A7, c7, l7⟩ := lfp_list h; have H8 := Lib.hid h; clear h H5)
              | (go_at_call 32; refine (lfp_key_no H8.out FW2.out 0 rfl).mono ?_; rintro e wx ⟨rfl, rfl⟩))
            go_quiet ((go_at_call 67; exact Calls.quiet_of_same (lp_len (H8.out.below (Hp.below_drewN _ _)))))
            go_wp2
            all_goals exact ⟨⟨j + 1, [], m, iEq (by omega), Lib.hid (H8.out.below (Hp.below_drewN _ _)).rl, by omega, by omega⟩, by simp [intOf]; omega⟩
          | some y =>
            obtain ⟨yv, ya, yb, ym⟩ := y
            have HY := Lib.hid (least_spec hl).1
            have HV : Hid (Hp.firstV S = yv) := Lib.hid (by unfold Hp.firstV; rw [hl])
            have HB2 : Hid ((least S).isSome = true) := Lib.hid (by rw [hl]; rfl)
            have HX := Lib.hid hl
            clear hl
            go_wp2_with (first
              | (go_at_call 69; refine (lp_next H5.out HX.out).mono ?_; rintro e w8 ⟨rfl, h⟩; have H8 := Lib.hid h; clear h H5)
              | (go_at_call 34; refine (lfp_first H8.out CH2.out FW2.out HV.out HB2.out).mono ?_; rintro e w9 ⟨rfl, h⟩; have H9 := Lib.hid h; clear h H8)
              | (go_at_call 32; refine (lfp_key H9.out FW2.out KN2.out _ HY.out).mono ?_; rintro e w10 ⟨rfl, h⟩; obtain ⟨A7, c7, l7⟩ := lfp_list h; have H10 := Lib.hid h; clear h H9))
            go_quiet ((go_at_call 67; exact Calls.quiet_of_same (lp_len (H10.out.below (Hp.below_drewN _ _)))))
            go_wp2
            all_goals exact ⟨⟨j + 1, S, m, iEq (by omega), Lib.hid (H10.out.below (Hp.below_drewN _ _)).rl, by omega, by omega⟩, by simp [intOf]; omega⟩
        have k0b : (F j 0 == 0) = false := by simpa using k0
        have k2b : (F j 0 == 2) = false := by simpa using k2
        clear k0 k2
        have vv0 := B.out.three.2.1
        obtain ⟨d, hd⟩ : ∃ d, (dueM s (F j 2)).1 = d := ⟨_, rfl⟩
        obtain ⟨S, hS⟩ : ∃ S, (dueM s (F j 2)).2 = S := ⟨_, rfl⟩
        have HD : Hid (dueM s (F j 2) = (d, S)) := Lib.hid (by rw [← hd, ← hS])
        have HD1 := Lib.hid hd
        have HS1 := Lib.hid hS
        clear hd hS
        go_wp2_with (go_at_call 66; refine (lp_due B.out (F j 2)).mono ?_; rintro e w4 ⟨A, c, rfl, h⟩; rw [HD1.out, HS1.out] at h; rw [HD1.out]; have H4 := Lib.hid h; clear h vv0)
        have hfew : d.length ≤ 1000 := by
          obtain ⟨D, s', hP⟩ := dueP _ s (F j 2) KN.out rfl
          have e := hP.eq
          rw [HD.out] at e
          injection e with e1 e2
          have := hP.len
          have := FW.out
          rw [e1, List.length_map]
          omega
        go_loopw [11] (fun kk wr2 => ∃ (k : Nat) (t : List (It Int)), kk = .int .i64 (k : Int) ∧ Hid (RLD w wr2 q pf R S m t wr.heap.size [.int .i64 (F j 0), .int .i64 (F j 1), .int .i64 (F j 2), .int .i64 (F j 3)] (.slice A d.length c) d) ∧ Hid (dueM t (F j 2) = (d.drop k, S)) ∧ Hid (HeapModel.chron t ∧ (t.map (·.v)).Nodup ∧ t.length ≤ 1000) ∧ k ≤ d.length) (fun kk _ => 1001 - (intOf kk).toNat)
        case atStart => exact ⟨0, s, rfl, H4, Lib.hid (by rw [List.drop_zero]; exact HD.out), Lib.hid ⟨CH.out, KN.out, FW.out⟩, by omega⟩
        case round =>
          clear H4
          obtain ⟨k, t, rfl, HT, HDU, HC, hk⟩ := hrel
          have v0 := HT.out.three.2.1
          by_cases hlt : (k : Int) < (d.length : Int)
          · have hdrop : d.drop k = d.getD k 0 :: d.drop (k + 1) := by
              rw [List.drop_eq_getElem_cons (by omega), List.getD_eq_getElem?_getD, List.getElem?_eq_getElem (by omega)]
              rfl
            have hdu := HDU.out
            rw [hdrop] at hdu
            obtain ⟨⟨yv, ya, yb, ym⟩, hl, ev, hya, hrest⟩ := dueM_cons hdu
            have ev' : yv = d.getD k 0 := ev
            obtain ⟨x, rfl, _, hcap1, hcap2, hcell⟩ := HT.out.row k (by omega)
            rw [← ev'] at hcell hrest
            unfold maxLen at hcap2
            have HX := Lib.hid hl
            have HY := Lib.hid (least_spec hl).1
            have HV : Hid (Hp.firstV t = yv) := Lib.hid (by unfold Hp.firstV; rw [hl])
            have HB2 : Hid ((least t).isSome = true) := Lib.hid (by rw [hl]; rfl)
            have HRE := Lib.hid hrest
            have EV := Lib.hid ev'
            have hya' : ya ≤ F j 2 := hya
            clear hdu hdrop hl ev ev' hya hrest hcell v0
            go_wp2_with (first
              | (go_at_call 34; refine (lfp_first HT.out HC.out.1 HC.out.2.2 HV.out HB2.out).mono ?_; rintro e w5 ⟨rfl, h⟩; have H5 := Lib.hid h; clear h)
              | (go_at_call 32; refine (lfp_key H5.out HC.out.2.2 HC.out.2.1 _ HY.out).mono ?_; rintro e w6 ⟨rfl, h⟩; have v6 := h.three.2.1; obtain ⟨x', ex', _, _, _, hcell⟩ := h.row k (by omega); cases ex'; rw [← EV.out] at hcell; have H6 := Lib.hid h; clear h H5)
              | (go_at_call 28; refine (lfp_take H6.out HC.out.1 HC.out.2.1 HC.out.2.2 HX.out).mono ?_; rintro e w7 ⟨rfl, h⟩; have H7 := Lib.hid h; clear h))
            exact ⟨⟨k + 1, without t yv, iEq (by omega), H7, HRE, Lib.hid ⟨HC.out.1.without, (List.filter_sublist.map _).nodup HC.out.2.1, Nat.le_trans (List.length_filter_le _ _) HC.out.2.2⟩, by omega⟩, by simp [intOf]; omega⟩
          · have hdu := HDU.out
            rw [show k = d.length by omega, List.drop_length] at hdu
            obtain ⟨et, hno⟩ := dueM_nil hdu
            subst et
            have HNO := Lib.hid hno
            have H5 := HT
            clear hdu hno HDU
            have FW2 := Lib.hid HT.out.rl.few
            have KN2 := Lib.hid HT.out.rl.keys
            have CH2 := Lib.hid HT.out.rl.chron
            cases hl : least t with
            | none =>
              obtain rfl := least_none.1 hl
              clear hl
              go_wp2_with (first
                | (go_at_call 34; refine (lfp_first HT.out CH2.out FW2.out (rfl : Hp.firstV [] = 0) (rfl : (least ([] : List (It Int))).isSome = false)).mono ?_; rintro e w6 ⟨rfl, h⟩; have H6 := Lib.hid h; clear h HT)
                | (go_at_call 69; refine (lp_next_no H6.out).mono ?_; rintro e wx ⟨rfl, rfl⟩)
                | (go_at_call 34; refine (lfp_first H6.out CH2.out FW2.out (rfl : Hp.firstV [] = 0) (rfl : (least ([] : List (It Int))).isSome = false)).mono ?_; rintro e w8 ⟨rfl, h⟩; obtain ⟨A7, c7, l7⟩ := lfp_list h; have H8 := Lib.hid h; clear h H6)
                | (go_at_call 32; refine (lfp_key_no H8.out FW2.out 0 rfl).mono ?_; rintro e wx ⟨rfl, rfl⟩))
              go_quiet ((go_at_call 67; exact Calls.quiet_of_same (lp_len (H8.out.below (Hp.below_drewN _ _)))))
              go_wp2
              all_goals exact ⟨⟨j + 1, [], m, iEq (by omega), Lib.hid (H8.out.below (Hp.below_drewN _ _)).rl, by omega, by omega⟩, by simp [intOf]; omega⟩
            | some y =>
              obtain ⟨yv, ya, yb, ym⟩ := y
              have HY := Lib.hid (least_spec hl).1
              have HV : Hid (Hp.firstV t = yv) := Lib.hid (by unfold Hp.firstV; rw [hl])
              have HB2 : Hid ((least t).isSome = true) := Lib.hid (by rw [hl]; rfl)
              have HX := Lib.hid hl
              have hya : ¬ ya ≤ F j 2 := HNO.out _ HX.out
              clear hl
              go_wp2_with (first
                | ((go_at_call 34; refine (lfp_first HT.out CH2.out FW2.out HV.out HB2.out).mono ?_; rintro e w6 ⟨rfl, h⟩; have H6 := Lib.hid h; clear h HT))
                | (go_at_call 32; refine (lfp_key H6.out FW2.out KN2.out _ HY.out).mono ?_; rintro e w7 ⟨rfl, h⟩; have vv := h.three.2.1; have H7 := Lib.hid h; clear h H6)
                | (go_at_call 69; refine (lp_next H7.out HX.out).mono ?_; rintro e w8 ⟨rfl, h⟩; have H8 := Lib.hid h; clear h H7)
                | (go_at_call 34; refine (lfp_first H8.out CH2.out FW2.out HV.out HB2.out).mono ?_; rintro e w9 ⟨rfl, h⟩; have H9 := Lib.hid h; clear h H8)
                | (go_at_call 32; refine (lfp_key H9.out FW2.out KN2.out _ HY.out).mono ?_; rintro e w10 ⟨rfl, h⟩; obtain ⟨A7, c7, l7⟩ := lfp_list h; have H10 := Lib.hid h; clear h H9))
              go_quiet ((go_at_call 67; exact Calls.quiet_of_same (lp_len (H10.out.below (Hp.below_drewN _ _)))))
              go_wp2
              all_goals exact ⟨⟨j + 1, t, m, iEq (by omega), Lib.hid (H10.out.below (Hp.below_drewN _ _)).rl, by omega, by omega⟩, by simp [intOf]; omega⟩
      · go_wp2
        go_ret
        exact ⟨rfl, HR.out.bel⟩
    · go_wp2
      go_ret
      exact ⟨rfl, HR.out.bel⟩
end Go.Proofs.Ytpmamgdblbplcaa.On
