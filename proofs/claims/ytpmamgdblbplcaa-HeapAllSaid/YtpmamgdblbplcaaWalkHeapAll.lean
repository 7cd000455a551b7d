/- HeapAll: the walk. (printed by wip/genheapall.py) -/
import Derived.Test.YtpmamgdblbplcaaTwoH
namespace Go.Proofs.Ytpmamgdblbplcaa.On
open Go.RowKit Go.Proofs.Ytpmamgdblbplcaa.HeapModel Go.Proofs.Ytpmamgdblbplcaa.Bg
set_option linter.unusedVariables false
set_option linter.unusedSimpArgs false
section
variable {w0 w : World} {ph pf O : Nat} {room when : Int} {s t : List (It Int)} {os : List Value}
theorem hp_take' (h : RHO w0 w ph pf room s when t O os) {x : It Int} (hx : least s = some x) {v : Int} (hv : x.v = v) :
    Calls Try.prog 27 #[.pointer (some ⟨ph, 0, none⟩)] w fun e w' => e = .returned (.tuple #[.int .i64 v, .bool true]) ∧ RHO w0 w' ph pf room (without s v) when t O os := by
  rw [← hv]
  exact hp_take h hx
theorem fp_take' (h : RHO w0 w ph pf room s when t O os) (hc : HeapModel.chron t) (hn : (t.map (·.v)).Nodup) (hl : t.length ≤ 1000) {x : It Int} (hx : least t = some x) {v : Int} (hv : x.v = v) :
    Calls Try.prog 28 #[.pointer (some ⟨pf, 0, none⟩)] w fun e w' => e = .returned (.tuple #[.int .i64 v, .bool true]) ∧ RHO w0 w' ph pf room s when (without t v) O os := by
  rw [← hv]
  exact fp_take h hc hn hl hx
end
set_option maxHeartbeats 20000000 in
set_option maxRecDepth 100000 in
theorem heapAll_walk (room : Int) (a : Option Addr) (len cap0 : Nat) (F : Nat → Nat → Int) (w : World) (wa : (Lit.int .i64 room).wf = true) (hz : IsRec 4 w a len cap0 F) :
    Calls Try.prog 3 #[.int .i64 room, .slice a len cap0] w fun e w' => e = .returned (.bool true) ∧ Below w.heap.size w w' := by
  have ba := bounds_i64 wa
  have hL := hz.len_le
  unfold maxLen at hL
  have HZ := Lib.hid hz
  clear hz wa
  obtain ⟨R, hR⟩ : ∃ R, min (max room 0) 1000 = R := ⟨_, rfl⟩
  have HR0 := Lib.hid hR
  clear hR
  go_enter Try.func3, Try.ntmps3
  go_wp2_with (first
    | (go_at_call 22; refine (begun2 _).mono ?_; rintro e w1 ⟨rfl, hb⟩; have HB := Lib.hid hb; clear hb)
    | (go_at_call 23; refine (h1_new HB.out _ ba).mono ?_; rintro e w2 ⟨p, rfl, h⟩; rw [HR0.out] at h; have R0 := Lib.hid h; clear h HB)
    | (go_at_call 24; refine (Rf.f_new _ _ ba).mono ?_; rintro e w3 ⟨G, pf, rfl, h1, h2, h3⟩; rw [HR0.out] at h1; have R1 : Hid (RH w w3 p pf R [] 0 []) := Lib.hid (rh_new R0.out h1 h2 h3); clear h1 h2 h3 R0))
  go_loopw [8] (fun i wr => ∃ (j : Nat) (s : List (It Int)) (m : Int), i = .int .i64 (j : Int) ∧ Hid (RH w wr p pf R s m s) ∧ m ≤ (j : Int) ∧ j ≤ 60) (fun i _ => 61 - (intOf i).toNat)
  case atStart => exact ⟨0, [], 0, rfl, R1, by omega, by omega⟩
  case round =>
    clear R1
    obtain ⟨j, s, m, rfl, HR, hm, hj⟩ := hrel
    by_cases h1 : (j : Int) < (len : Int)
    · by_cases h2 : (j : Int) < 60
      · have KF := Lib.hid (HZ.out.wf j 1 (by omega) (by omega))
        obtain ⟨x, rfl, hc⟩ := HZ.out.four j (by omega)
        obtain ⟨hc0, hc1, hc2, hc3⟩ := hc wr HR.out.bel
        clear hc
        have FW := Lib.hid HR.out.few
        have KN := Lib.hid HR.out.keys
        have CH := Lib.hid HR.out.chron
        have B := Lib.hid (HR.out.op [.int .i64 (F j 0), .int .i64 (F j 1), .int .i64 (F j 2), .int .i64 (F j 3)])
        by_cases k0 : F j 0 = 0
        · have k0b : (F j 0 == 0) = true := by simpa using k0
          clear k0
          have b0 := B.out.three
          by_cases hr : has s (F j 1) = true ∨ (s.length : Int) < R
          · have HRR := Lib.hid hr
            obtain ⟨fv, hfv⟩ : ∃ v, Hp.firstV (without s (F j 1) ++ [(⟨F j 1, F j 2, F j 3, m + 1⟩ : It Int)]) = v := ⟨_, rfl⟩
            obtain ⟨fb, hfb⟩ : ∃ b, (least (without s (F j 1) ++ [(⟨F j 1, F j 2, F j 3, m + 1⟩ : It Int)])).isSome = b := ⟨_, rfl⟩
            have HV := Lib.hid hfv
            have HB2 := Lib.hid hfb
            clear hfv hfb
            clear hr
            go_wp2
            go_region_held3 (fun w' => w'.cell? ⟨wr.heap.size, 1, none⟩ = some (.int .i64 (F j 1)) ∧ w'.cell? ⟨wr.heap.size, 2, none⟩ = some (.int .i64 (F j 2)) ∧ w'.cell? ⟨wr.heap.size, 3, none⟩ = some (.int .i64 (F j 3))) (first | exact b0 | exact b1 | exact b2) (first
              | (go_at_call 25; refine (hp_put (B.out.below ((Below.refl _ _).drew)) (F j 1) (F j 2) (F j 3) KF.out (by omega) HRR.out).mono ?_; rintro e w4 ⟨rfl, h⟩; have b1 := h.three; have H4 := Lib.hid h; clear h)
              | (go_at_call 26; refine (fp_put H4.out FW.out KN.out (F j 1) (F j 2) (F j 3) (m + 1) HRR.out).mono ?_; rintro e w5 ⟨rfl, h⟩; have b2 := h.three; have H5 := Lib.hid h; clear h))
            have FW2 := Lib.hid H5.out.rh.few
            have CH2 := Lib.hid H5.out.rh.chron
            go_wp2_with (first
              | (go_at_call 33; refine (hp_first H5.out HV.out HB2.out).mono ?_; rintro e wx ⟨rfl, rfl⟩)
              | (go_at_call 34; refine (fp_first H5.out CH2.out FW2.out HV.out HB2.out).mono ?_; rintro e w7 ⟨rfl, h⟩; obtain ⟨A7, c7, l7⟩ := fp_list h; have B7 := Lib.hid h; clear h))
            go_quiet ((go_at_call 35; exact Calls.quiet_of_same (hp_len (B7.out.below (Hp.below_drewN _ _)))))
            go_wp2
            all_goals exact ⟨⟨j + 1, without s (F j 1) ++ [(⟨F j 1, F j 2, F j 3, m + 1⟩ : It Int)], m + 1, iEq (by omega), Lib.hid (B7.out.below (Hp.below_drewN _ _)).rh, by omega, by omega⟩, by simp [intOf]; omega⟩
          · have hs : has s (F j 1) = false := by cases c : has s (F j 1) with | false => rfl | true => exact absurd (Or.inl c) hr
            have hr2 : ¬ (s.length : Int) < R := fun c => hr (Or.inr c)
            have HS := Lib.hid hs
            have HRR := Lib.hid hr2
            obtain ⟨fv, hfv⟩ : ∃ v, Hp.firstV (s) = v := ⟨_, rfl⟩
            obtain ⟨fb, hfb⟩ : ∃ b, (least (s)).isSome = b := ⟨_, rfl⟩
            have HV := Lib.hid hfv
            have HB2 := Lib.hid hfb
            clear hfv hfb
            clear hr hs hr2
            go_wp2
            go_region_held3 (fun w' => w'.cell? ⟨wr.heap.size, 1, none⟩ = some (.int .i64 (F j 1)) ∧ w'.cell? ⟨wr.heap.size, 2, none⟩ = some (.int .i64 (F j 2)) ∧ w'.cell? ⟨wr.heap.size, 3, none⟩ = some (.int .i64 (F j 3))) (first | exact b0 | exact b1 | exact b2) (first
              | (go_at_call 25; refine (hp_full (B.out.below ((Below.refl _ _).drew)) (F j 1) (F j 2) (F j 3) KF.out HS.out (by have := HRR.out; omega)).mono ?_; rintro e w4 ⟨rfl, h⟩; have b1 := h.three; have H4 := Lib.hid h; clear h)
              | (go_at_call 26; refine (fp_full H4.out FW.out (F j 1) (F j 2) (F j 3) HS.out (by have := HRR.out; omega)).mono ?_; rintro e w5 ⟨rfl, h⟩; have b2 := h.three; have H5 := Lib.hid h; clear h))
            have FW2 := Lib.hid H5.out.rh.few
            have CH2 := Lib.hid H5.out.rh.chron
            go_wp2_with (first
              | (go_at_call 33; refine (hp_first H5.out HV.out HB2.out).mono ?_; rintro e wx ⟨rfl, rfl⟩)
              | (go_at_call 34; refine (fp_first H5.out CH2.out FW2.out HV.out HB2.out).mono ?_; rintro e w7 ⟨rfl, h⟩; obtain ⟨A7, c7, l7⟩ := fp_list h; have B7 := Lib.hid h; clear h))
            go_quiet ((go_at_call 35; exact Calls.quiet_of_same (hp_len (B7.out.below (Hp.below_drewN _ _)))))
            go_wp2
            all_goals exact ⟨⟨j + 1, s, m, iEq (by omega), Lib.hid (B7.out.below (Hp.below_drewN _ _)).rh, by omega, by omega⟩, by simp [intOf]; omega⟩
        by_cases k1 : F j 0 = 1
        · have k0b : (F j 0 == 0) = false := by simpa using k0
          have k1b : (F j 0 == 1) = true := by simpa using k1
          clear k0 k1
          cases hx : least s with
          | none =>
            obtain rfl := least_none.1 hx
            obtain ⟨fv, hfv⟩ : ∃ v, Hp.firstV (([] : List (It Int))) = v := ⟨_, rfl⟩
            obtain ⟨fb, hfb⟩ : ∃ b, (least (([] : List (It Int)))).isSome = b := ⟨_, rfl⟩
            have HV := Lib.hid hfv
            have HB2 := Lib.hid hfb
            clear hfv hfb
            clear hx
            go_wp2_with (first
              | (go_at_call 27; refine (hp_take_no B.out).mono ?_; rintro e w4 ⟨rfl, h⟩; have H4 := Lib.hid h; clear h)
              | (go_at_call 28; refine (fp_take_no H4.out).mono ?_; rintro e wx ⟨rfl, rfl⟩)
              | (go_at_call 33; refine (hp_first H4.out HV.out HB2.out).mono ?_; rintro e wx ⟨rfl, rfl⟩)
              | (go_at_call 34; refine (fp_first H4.out CH.out FW.out HV.out HB2.out).mono ?_; rintro e w7 ⟨rfl, h⟩; obtain ⟨A7, c7, l7⟩ := fp_list h; have B7 := Lib.hid h; clear h))
            go_quiet ((go_at_call 35; exact Calls.quiet_of_same (hp_len (B7.out.below (Hp.below_drewN _ _)))))
            go_wp2
            all_goals exact ⟨⟨j + 1, [], m, iEq (by omega), Lib.hid (B7.out.below (Hp.below_drewN _ _)).rh, by omega, by omega⟩, by simp [intOf]; omega⟩
          | some y =>
            obtain ⟨yv, hyv⟩ : ∃ v, y.v = v := ⟨_, rfl⟩
            have HX := Lib.hid hx
            have HY := Lib.hid hyv
            obtain ⟨fv, hfv⟩ : ∃ v, Hp.firstV (without s yv) = v := ⟨_, rfl⟩
            obtain ⟨fb, hfb⟩ : ∃ b, (least (without s yv)).isSome = b := ⟨_, rfl⟩
            have HV := Lib.hid hfv
            have HB2 := Lib.hid hfb
            clear hfv hfb
            clear hx hyv
            go_wp2_with (first
              | (go_at_call 27; refine (hp_take' B.out HX.out HY.out).mono ?_; rintro e w4 ⟨rfl, h⟩; have H4 := Lib.hid h; clear h)
              | (go_at_call 28; refine (fp_take' H4.out CH.out KN.out FW.out HX.out HY.out).mono ?_; rintro e w5 ⟨rfl, h⟩; have FW2 := Lib.hid h.rh.few; have CH2 := Lib.hid h.rh.chron; have H5 := Lib.hid h; clear h)
              | (go_at_call 33; refine (hp_first H5.out HV.out HB2.out).mono ?_; rintro e wx ⟨rfl, rfl⟩)
              | (go_at_call 34; refine (fp_first H5.out CH2.out FW2.out HV.out HB2.out).mono ?_; rintro e w7 ⟨rfl, h⟩; obtain ⟨A7, c7, l7⟩ := fp_list h; have B7 := Lib.hid h; clear h))
            go_quiet ((go_at_call 35; exact Calls.quiet_of_same (hp_len (B7.out.below (Hp.below_drewN _ _)))))
            go_wp2
            all_goals exact ⟨⟨j + 1, without s yv, m, iEq (by omega), Lib.hid (B7.out.below (Hp.below_drewN _ _)).rh, by omega, by omega⟩, by simp [intOf]; omega⟩
        by_cases k2 : F j 0 = 2
        · have k0b : (F j 0 == 0) = false := by simpa using k0
          have k1b : (F j 0 == 1) = false := by simpa using k1
          have k2b : (F j 0 == 2) = true := by simpa using k2
          clear k0 k1 k2
          have b0 := B.out.three.1
          obtain ⟨hb, ehb⟩ : ∃ b, has s (F j 1) = b := ⟨_, rfl⟩
          have HS := Lib.hid ehb
          obtain ⟨fv, hfv⟩ : ∃ v, Hp.firstV (without s (F j 1)) = v := ⟨_, rfl⟩
          obtain ⟨fb, hfb⟩ : ∃ b, (least (without s (F j 1))).isSome = b := ⟨_, rfl⟩
          have HV := Lib.hid hfv
          have HB2 := Lib.hid hfb
          clear hfv hfb
          clear ehb
          go_wp2
          go_region_held3 (fun w' => w'.cell? ⟨wr.heap.size, 1, none⟩ = some (.int .i64 (F j 1))) (first | exact b0 | exact b1 | exact b2) (first
              | (go_at_call 29; refine (hp_drop (B.out.below ((Below.refl _ _).drew)) (F j 1) KF.out HS.out).mono ?_; rintro e w4 ⟨rfl, h⟩; have b1 := h.three.1; have H4 := Lib.hid h; clear h)
              | (go_at_call 30; refine (fp_drop H4.out FW.out KN.out (F j 1) HS.out).mono ?_; rintro e w5 ⟨rfl, h⟩; have b2 := h.three.1; have H5 := Lib.hid h; clear h))
          have FW2 := Lib.hid H5.out.rh.few
          have CH2 := Lib.hid H5.out.rh.chron
          go_wp2_with (first
              | (go_at_call 33; refine (hp_first H5.out HV.out HB2.out).mono ?_; rintro e wx ⟨rfl, rfl⟩)
              | (go_at_call 34; refine (fp_first H5.out CH2.out FW2.out HV.out HB2.out).mono ?_; rintro e w7 ⟨rfl, h⟩; obtain ⟨A7, c7, l7⟩ := fp_list h; have B7 := Lib.hid h; clear h))
          go_quiet ((go_at_call 35; exact Calls.quiet_of_same (hp_len (B7.out.below (Hp.below_drewN _ _)))))
          go_wp2
          all_goals exact ⟨⟨j + 1, without s (F j 1), m, iEq (by omega), Lib.hid (B7.out.below (Hp.below_drewN _ _)).rh, by omega, by omega⟩, by simp [intOf]; omega⟩
        by_cases k3 : F j 0 = 3
        · have k0b : (F j 0 == 0) = false := by simpa using k0
          have k1b : (F j 0 == 1) = false := by simpa using k1
          have k2b : (F j 0 == 2) = false := by simpa using k2
          have k3b : (F j 0 == 3) = true := by simpa using k3
          clear k0 k1 k2 k3
          have b0 := B.out.three.1
          obtain ⟨fv, hfv⟩ : ∃ v, Hp.firstV (s) = v := ⟨_, rfl⟩
          obtain ⟨fb, hfb⟩ : ∃ b, (least (s)).isSome = b := ⟨_, rfl⟩
          have HV := Lib.hid hfv
          have HB2 := Lib.hid hfb
          clear hfv hfb
          cases hs : has s (F j 1) with
          | true =>
            obtain ⟨⟨yv, ya, yb, ym⟩, hy, ey⟩ := has_iff.1 hs
            have ey' : yv = F j 1 := ey
            subst ey'
            have HY := Lib.hid hy
            clear hs hy ey
            go_wp2_with (first
              | (go_at_call 31; refine (hp_key B.out _ HY.out).mono ?_; rintro e w4 ⟨rfl, h⟩; have b1 := h.three.1; have H4 := Lib.hid h; clear h)
              | (go_at_call 32; refine (fp_key H4.out FW.out KN.out _ HY.out).mono ?_; rintro e w5 ⟨rfl, h⟩; have H5 := Lib.hid h; clear h)
              | (go_at_call 33; refine (hp_first H5.out HV.out HB2.out).mono ?_; rintro e wx ⟨rfl, rfl⟩)
              | (go_at_call 34; refine (fp_first H5.out CH.out FW.out HV.out HB2.out).mono ?_; rintro e w7 ⟨rfl, h⟩; obtain ⟨A7, c7, l7⟩ := fp_list h; have B7 := Lib.hid h; clear h))
            go_quiet ((go_at_call 35; exact Calls.quiet_of_same (hp_len (B7.out.below (Hp.below_drewN _ _)))))
            go_wp2
            all_goals exact ⟨⟨j + 1, s, m, iEq (by omega), Lib.hid (B7.out.below (Hp.below_drewN _ _)).rh, by omega, by omega⟩, by simp [intOf]; omega⟩
          | false =>
            have HS := Lib.hid hs
            clear hs
            go_wp2_with (first
              | (go_at_call 31; refine (hp_key_no B.out (F j 1) KF.out HS.out).mono ?_; rintro e wx ⟨rfl, rfl⟩)
              | (go_at_call 32; refine (fp_key_no B.out FW.out (F j 1) HS.out).mono ?_; rintro e wx ⟨rfl, rfl⟩)
              | (go_at_call 33; refine (hp_first B.out HV.out HB2.out).mono ?_; rintro e wx ⟨rfl, rfl⟩)
              | (go_at_call 34; refine (fp_first B.out CH.out FW.out HV.out HB2.out).mono ?_; rintro e w7 ⟨rfl, h⟩; obtain ⟨A7, c7, l7⟩ := fp_list h; have B7 := Lib.hid h; clear h))
            go_quiet ((go_at_call 35; exact Calls.quiet_of_same (hp_len (B7.out.below (Hp.below_drewN _ _)))))
            go_wp2
            all_goals exact ⟨⟨j + 1, s, m, iEq (by omega), Lib.hid (B7.out.below (Hp.below_drewN _ _)).rh, by omega, by omega⟩, by simp [intOf]; omega⟩
        have k0b : (F j 0 == 0) = false := by simpa using k0
        have k1b : (F j 0 == 1) = false := by simpa using k1
        have k2b : (F j 0 == 2) = false := by simpa using k2
        have k3b : (F j 0 == 3) = false := by simpa using k3
        clear k0 k1 k2 k3
        obtain ⟨fv, hfv⟩ : ∃ v, Hp.firstV (s) = v := ⟨_, rfl⟩
        obtain ⟨fb, hfb⟩ : ∃ b, (least (s)).isSome = b := ⟨_, rfl⟩
        have HV := Lib.hid hfv
        have HB2 := Lib.hid hfb
        clear hfv hfb
        go_wp2_with (first
              | (go_at_call 33; refine (hp_first B.out HV.out HB2.out).mono ?_; rintro e wx ⟨rfl, rfl⟩)
              | (go_at_call 34; refine (fp_first B.out CH.out FW.out HV.out HB2.out).mono ?_; rintro e w7 ⟨rfl, h⟩; obtain ⟨A7, c7, l7⟩ := fp_list h; have B7 := Lib.hid h; clear h))
        go_quiet ((go_at_call 35; exact Calls.quiet_of_same (hp_len (B7.out.below (Hp.below_drewN _ _)))))
        go_wp2
        all_goals exact ⟨⟨j + 1, s, m, iEq (by omega), Lib.hid (B7.out.below (Hp.below_drewN _ _)).rh, by omega, by omega⟩, by simp [intOf]; omega⟩
      · go_wp2
        go_ret
        exact ⟨rfl, HR.out.bel⟩
    · go_wp2
      go_ret
      exact ⟨rfl, HR.out.bel⟩
end Go.Proofs.Ytpmamgdblbplcaa.On
