/- BoxAll: the walk. -/
import Derived.Test.YtpmamgdblbplcaaBoxQ
import Derived.Test.YtpmamgdblbplcaaRef
import Derived.Test.YtpmamgdblbplcaaWalkHeapSort
import Derived.Deep.CutBlock
import Derived.Deep.DeepCutAuto
namespace Go.Proofs.Ytpmamgdblbplcaa.On
open Go.RowKit Go.Proofs.Ytpmamgdblbplcaa.HeapModel Go.Proofs.Ytpmamgdblbplcaa.Bg
set_option linter.unusedVariables false
set_option linter.unusedSimpArgs false
theorem n0_new' {w0 w : World} {x y : Int} {c1 c2 : Nat} (hb : Below w0.heap.size w0 w) (hx : x = (c1 : Int)) (hy : y = (c2 : Int)) : N0 w0 (w.alloc (.cells #[.int .i64 x, .int .i64 y] 43)) w.heap.size [.int .i64 c1, .int .i64 c2] := by
  subst hx hy
  exact n0_new hb
def AnyB (w0 w : World) (p cap q capq G1 G2 G3 : Nat) : Prop := ∃ (s t : List Int) (A : Option Addr) (c : Nat) (A2 : Option Addr) (c2 : Nat), BQ w0 w 0 p cap s s A s.length c q capq t t A2 t.length c2 G1 G2 G3 G1 false []
theorem BQ.any {w0 w : World} {p cap q capq G1 G2 G3 O c c2 : Nat} {s t : List Int} {A A2 : Option Addr} {hO : Bool} {os : List Value} (h : BQ w0 w 0 p cap s s A s.length c q capq t t A2 t.length c2 G1 G2 G3 O hO os) : AnyB w0 w p cap q capq G1 G2 G3 := ⟨s, t, A, c, A2, c2, h.drop⟩
/-- the k-th box as the first one; and the way back -/
theorem BQ.focus {w0 w : World} {p cap q capq G1 G2 G3 O c c2 k : Nat} {s t : List Int} {A A2 : Option Addr} {os : List Value} (h : BQ w0 w 0 p cap s s A s.length c q capq t t A2 t.length c2 G1 G2 G3 O true os) (hk : k ≤ 1) :
    ∃ (p' cap' q' capq' : Nat) (s' t' : List Int) (A' A2' : Option Addr) (c' c2' : Nat), BQ w0 w k p' cap' s' s' A' s'.length c' q' capq' t' t' A2' t'.length c2' G1 G2 G3 O true os ∧
      ∀ (w' : World) (s1 t1 : List Int) (A1 A3 : Option Addr) (n1 c1 n3 c3 : Nat), s1.length = n1 → t1.length = n3 → BQ w0 w' k p' cap' s1 s1 A1 n1 c1 q' capq' t1 t1 A3 n3 c3 G1 G2 G3 O true os → AnyB w0 w' p cap q capq G1 G2 G3 := by
  have : k = 0 ∨ k = 1 := by omega
  rcases this with rfl | rfl
  · exact ⟨_, _, _, _, _, _, _, _, _, _, h, fun w' s1 t1 A1 A3 n1 c1 n3 c3 e1 e3 h' => by subst e1 e3; exact h'.any⟩
  · exact ⟨_, _, _, _, _, _, _, _, _, _, h.swap, fun w' s1 t1 A1 A3 n1 c1 n3 c3 e1 e3 h' => by subst e1 e3; exact h'.swap.any⟩
theorem int_eqQ {a b : Int} (h : a = b) : Value.int .i64 a = .int .i64 b := by rw [h]
theorem ad0 (a : Addr) : a.add 0 = a := by cases a; unfold Addr.add; split <;> simp_all
theorem bq_full' {w0 w : World} {k p cap n c q capq n2 c2 G1 G2 G3 O : Nat} {s l t u : List Int} {A A2 : Option Addr} {hO : Bool} {os : List Value} (h : BQ w0 w k p cap s l A n c q capq t u A2 n2 c2 G1 G2 G3 O hO os) (v : Int) (hn : ¬ s.length < cap) :
    Calls Try.prog 37 #[.pointer (some ⟨p, 0, none⟩), .int .i64 v] w fun e w' => e = .returned (.bool false) ∧ BQ w0 w' k p cap s l A n c q capq t u A2 n2 c2 G1 G2 G3 O hO os :=
  (bq_full h v hn).mono (by rintro e w' ⟨rfl, rfl⟩; exact ⟨rfl, h⟩)
set_option maxHeartbeats 20000000 in
set_option maxRecDepth 100000 in
theorem boxAll_walk (ra rb : Int) (a : Option Addr) (len cap0 : Nat) (F : Nat → Nat → Int) (w : World) (wa : (Lit.int .i64 ra).wf = true) (wb : (Lit.int .i64 rb).wf = true) (hz : IsRec 4 w a len cap0 F) :
    Calls Try.prog 5 #[.int .i64 ra, .int .i64 rb, .slice a len cap0] w fun e w' => e = .returned (.bool true) ∧ Below w.heap.size w w' := by
  have ba := bounds_i64 wa
  have bb := bounds_i64 wb
  have hL := hz.len_le
  unfold maxLen at hL
  have HZ := Lib.hid hz
  clear hz wa wb
  obtain ⟨C1, hC1⟩ : ∃ C, (min (max ra 0) 100).toNat = C := ⟨_, rfl⟩
  obtain ⟨C2, hC2⟩ : ∃ C, (min (max rb 0) 100).toNat = C := ⟨_, rfl⟩
  have HC1 := Lib.hid hC1
  have HC2 := Lib.hid hC2
  have hc1 : C1 ≤ 100 := by omega
  have hc2 : C2 ≤ 100 := by omega
  go_enter Try.func5, Try.ntmps5
  go_upto_region 4 with (go_at_call 22; refine (begun2 _).mono ?_; rintro e w1 ⟨rfl, hb⟩; have HB := Lib.hid hb; clear hb)
  go_cut [8] (fun s8 wx => ∃ G1 : Nat, s8 = .pointer (some ⟨G1, 0, none⟩) ∧ Hid (N0 w wx G1 [.int .i64 C1, .int .i64 C2]))
  case first =>
    go_wp2
    all_goals (go_meet; exact ⟨_, rfl, Lib.hid (n0_new' HB.out (by omega) (by omega))⟩)
  case rest =>
    clear HB hC1 hC2
    obtain ⟨G1, rfl, H0⟩ := hcut
    go_wp2_with (first
      | (go_at_call 36; ((with_reducible refine (n1_new H0.out ra ba HC1.out).mono ?_); rintro e w2 ⟨p, rfl, h⟩; have H1 := Lib.hid h; clear h H0))
      | (go_at_call 36; ((with_reducible refine (n2_new H1.out rb bb HC2.out).mono ?_); rintro e w3 ⟨q, rfl, h⟩; have H2 : Hid (AnyB w ((w3.alloc (.cells #[.pointer (some ⟨p, 0, none⟩), .pointer (some ⟨q, 0, none⟩)] 46)).alloc (.cells #[.slice none 0 0, .slice none 0 0] 48)) p C1 q C2 G1 w3.heap.size (w3.heap.size + 1)) := Lib.hid ⟨[], [], _, _, _, _, bq_start h⟩; clear h H1)))
    generalize w3.heap.size = G2 at H2 ⊢
    obtain ⟨G3, hG3⟩ : ∃ G3, G3 = G2 + 1 := ⟨_, rfl⟩
    rw [← hG3] at H2 ⊢
    clear ba bb HC1 HC2 hG3
    go_loopw [11] (fun i wr => ∃ j : Nat, i = .int .i64 (j : Int) ∧ Hid (AnyB w wr p C1 q C2 G1 G2 G3) ∧ j ≤ 60) (fun i _ => 61 - (intOf i).toNat)
    case atStart => exact ⟨0, rfl, H2, by omega⟩
    case round =>
      clear H2
      obtain ⟨j, rfl, HA, hj⟩ := hrel
      obtain ⟨s, t, A, c, A2, c2, hB⟩ := HA.out
      by_cases h1 : (j : Int) < (len : Int)
      · by_cases h2 : (j : Int) < 60
        · obtain ⟨x, rfl, hc⟩ := HZ.out.four j (by omega)
          obtain ⟨hc0, hc1, hc2, hc3⟩ := hc wr hB.bel
          clear hc
          obtain ⟨V, hV⟩ : ∃ V, F j 1 = V := ⟨_, rfl⟩
          obtain ⟨k, hk⟩ : ∃ k, F j 0 = k := ⟨_, rfl⟩
          obtain ⟨D, hD⟩ : ∃ D, F j 2 = D := ⟨_, rfl⟩
          obtain ⟨E, hE⟩ : ∃ E, F j 3 = E := ⟨_, rfl⟩
          rw [hk] at hc0
          rw [hV] at hc1
          rw [hD] at hc2
          rw [hE] at hc3
          clear hk hV hD hE
          have B := Lib.hid (hB.op [.int .i64 k, .int .i64 V, .int .i64 D, .int .i64 E])
          obtain ⟨K, hK, hK1⟩ : ∃ K : Nat, bits BinOp.and IntKind.i64 D 1 = (K : Int) ∧ K ≤ 1 := by
            have := band1 D
            exact ⟨(bits BinOp.and IntKind.i64 D 1).toNat, by omega, by omega⟩
          have b0 := B.out.cell 0
          have b1 := B.out.cell 1
          have b2 := B.out.cell 2
          clear hB HA
          go_upto_block 2 with fail
          go_cut [] (fun wx => Hid (AnyB w wx p C1 q C2 G1 G2 G3))
          case first =>
            by_cases k0 : k = 0
            · subst k0
              clear b0 b2
              as_aux_lemma =>
              obtain ⟨p', cap', q', capq', s', t', A', A2', c', c2', hB, back⟩ := B.out.focus hK1
              have H := Lib.hid hB
              have BK := Lib.hid back
              have hn := hB.nums
              have d0 : _ ∧ _ ∧ _ ∧ _ := ⟨hB.box, hB.row.1, hB.room, hB.cell 1⟩
              clear hB back B b1
              have hKi : (K : Int) < 2 := by omega
              by_cases hs : (s'.length : Int) < (cap' : Int)
              · have hs' : decide ((s'.length : Int) < (cap' : Int)) = true := by simpa using hs
                go_wp2
                go_region_held3 (fun w' => w'.cell? ⟨G2, K, none⟩ = some (.pointer (some ⟨p', 0, none⟩)) ∧ w'.cell? ⟨G3, K, none⟩ = some (.slice A' s'.length c') ∧ w'.cell? ⟨G1, K, none⟩ = some (.int .i64 cap') ∧ w'.cell? ⟨wr.heap.size, 1, none⟩ = some (.int .i64 V)) (first | exact d0 | exact d1) ((go_at_call 37; refine (bq_put (H.out.below ((Below.refl _ _).drew)) V (by omega)).mono ?_; rintro e w4 ⟨rfl, h⟩; have d1 : _ ∧ _ ∧ _ ∧ _ := ⟨h.box, h.row.1, h.room, h.cell 1⟩; have H4 := Lib.hid h; clear h))
                go_wp2
                obtain ⟨m1, m2, m3, m4⟩ := d1
                go_quiet (fail)
                go_wp2
                have h5 := H4.out.below (Hp.below_drewN w4 nq)
                clear m1 m2 m3 m4 H4
                generalize w4.drewN nq = w5 at h5 ⊢
                have h6 := h5.below ((Below.refl _ _).drew)
                have a1 := h6.row.1
                have a2 : w5.drew.cell? ⟨wr.heap.size, 1, none⟩ = some (.int .i64 V) := h6.cell 1
                have h7 := h6.below ((Below.refl _ _).alloc (Nat.le_refl _) (.cells #[.int .i64 V] 3))
                have a3 := h7.row.1
                have a4 : (w5.drew.alloc (.cells #[.int .i64 V] 3)).cell? ⟨wr.heap.size, 1, none⟩ = some (.int .i64 V) := h7.cell 1
                have h9 := h5.below ((Below.refl _ _).alloc (Nat.le_refl _) (.cells #[.int .i64 V] 3))
                have a7 := h9.row.1
                have a8 : (w5.alloc (.cells #[.int .i64 V] 3)).cell? ⟨wr.heap.size, 1, none⟩ = some (.int .i64 V) := h9.cell 1
                have a9 := (h9.below ((Below.refl _ _).drew)).row.1
                have a10 : (w5.alloc (.cells #[.int .i64 V] 3)).drew.cell? ⟨wr.heap.size, 1, none⟩ = some (.int .i64 V) := (h9.below ((Below.refl _ _).drew)).cell 1
                have a11 := h5.row.1
                have a12 : w5.cell? ⟨wr.heap.size, 1, none⟩ = some (.int .i64 V) := h5.cell 1
                obtain ⟨A6, c6, w6, r6, a5, a6, h8⟩ := bq_push h6 V (by omega)
                have R6 := Lib.hid r6
                have H8 := Lib.hid h8
                clear h5 h6 h7 r6 h8 h9
                go_region_law (refine Rf.step_append_run (o := ⟨some 136, _, _, _, _, _⟩) (by rfl) _ _ 47 (by rfl) (by rfl) (by rfl) R6.out ?_)
                all_goals go_wp2
                all_goals (go_meet; exact Lib.hid (BK.out _ _ _ _ _ _ _ _ _ (by simp) rfl H8.out))
              · have hs' : decide ((s'.length : Int) < (cap' : Int)) = false := by simpa using hs
                go_wp2
                go_region_held3 (fun w' => w'.cell? ⟨G2, K, none⟩ = some (.pointer (some ⟨p', 0, none⟩)) ∧ w'.cell? ⟨G3, K, none⟩ = some (.slice A' s'.length c') ∧ w'.cell? ⟨G1, K, none⟩ = some (.int .i64 cap') ∧ w'.cell? ⟨wr.heap.size, 1, none⟩ = some (.int .i64 V)) (first | exact d0 | exact d1) ((go_at_call 37; refine (bq_full' (H.out.below ((Below.refl _ _).drew)) V (by omega)).mono ?_; rintro e w4 ⟨rfl, h⟩; have d1 : _ ∧ _ ∧ _ ∧ _ := ⟨h.box, h.row.1, h.room, h.cell 1⟩; have H4 := Lib.hid h; clear h))
                go_wp2
                obtain ⟨m1, m2, m3, m4⟩ := d1
                go_quiet (fail)
                go_wp2
                go_meet
                exact Lib.hid (BK.out _ _ _ _ _ _ _ _ _ rfl rfl (H4.out.below (Hp.below_drewN _ _)))
            · by_cases k1 : k = 1
              · subst k1
                clear b0 b1 b2 k0
                as_aux_lemma =>
                obtain ⟨p', cap', q', capq', s', t', A', A2', c', c2', hB, back⟩ := B.out.focus hK1
                have H := Lib.hid hB
                have BK := Lib.hid back
                have hKi : (K : Int) < 2 := by omega
                have m1 := hB.box
                have m2 := hB.row.1
                clear hB back B
                cases s' with
                | nil =>
                  go_wp2_with (go_at_call 38; refine (bq_no H.out).mono ?_; rintro e wx ⟨rfl, rfl⟩)
                  go_meet
                  exact Lib.hid (BK.out _ _ _ _ _ _ _ _ _ rfl rfl H.out)
                | cons y tl =>
                  go_wp2_with (go_at_call 38; refine (bq_take H.out).mono ?_; rintro e w4 ⟨rfl, h⟩; have g1 := h.row.1; have g2 := h.row.2; obtain ⟨ad, rfl, g3⟩ := h.read (by simp); have g4 : w4.cell? ad = some (.int .i64 y) := ((congrArg w4.cell? (ad0 ad)).symm.trans (g3 0 (by simp))); clear g3; obtain ⟨A6, r6, h8⟩ := bq_cut h; have H8 := Lib.hid h8; clear h h8)
                  go_meet
                  exact Lib.hid (BK.out _ _ _ _ _ _ _ _ _ rfl rfl H8.out)
              · clear b0 b1 b2 hK1
                as_aux_lemma =>
                cases s with
                | cons y tl =>
                  have hB := B.out
                  have m1 := hB.box
                  have m2 : (wr.alloc (.cells #[.int .i64 k, .int .i64 V, .int .i64 D, .int .i64 E] 29)).cell? ⟨G2, 1, none⟩ = some (.pointer (some ⟨q, 0, none⟩)) := hB.swap.box
                  have H := Lib.hid hB
                  clear hB B
                  go_wp2_with (go_at_call 39; refine (bq_first H.out).mono ?_; rintro e w4 ⟨rfl, h⟩; have g1 := h.row.1; have g2 := h.row.2; obtain ⟨ad, rfl, g3⟩ := h.read (by simp); have g4 : w4.cell? ad = some (.int .i64 y) := ((congrArg w4.cell? (ad0 ad)).symm.trans (g3 0 (by simp))); clear g3; obtain ⟨A6, r6, h8⟩ := bq_cut h; have H8 := Lib.hid h8; clear h h8)
                  go_meet
                  exact Lib.hid H8.out.any
                | nil =>
                  cases t with
                  | cons y tl =>
                    have hB := B.out
                    have m1 := hB.box
                    have m2 : (wr.alloc (.cells #[.int .i64 k, .int .i64 V, .int .i64 D, .int .i64 E] 29)).cell? ⟨G2, 1, none⟩ = some (.pointer (some ⟨q, 0, none⟩)) := hB.swap.box
                    have H := Lib.hid hB
                    clear hB B
                    go_wp2_with (go_at_call 39; refine (bq_second H.out).mono ?_; rintro e w4 ⟨rfl, h⟩; have f1 : w4.cell? ⟨G3, 0, none⟩ = some (.slice A 0 c) := h.swap.row.1; have g1 : w4.cell? ⟨G3, 1, none⟩ = some (.slice A2 (tl.length + 1) c2) := h.row.1; have g2 : w4.frozen? ⟨G3, 1, none⟩ = false := h.row.2; obtain ⟨ad, rfl, g3⟩ := h.read (by simp); have g4 : w4.cell? ad = some (.int .i64 y) := ((congrArg w4.cell? (ad0 ad)).symm.trans (g3 0 (by simp))); clear g3; obtain ⟨A6, r6, h8⟩ := bq_cut h; have H8 := Lib.hid h8; clear h h8)
                    go_meet
                    exact Lib.hid (BQ.any H8.out.swap)
                  | nil =>
                    have hB := B.out
                    have m1 := hB.box
                    have m2 : (wr.alloc (.cells #[.int .i64 k, .int .i64 V, .int .i64 D, .int .i64 E] 29)).cell? ⟨G2, 1, none⟩ = some (.pointer (some ⟨q, 0, none⟩)) := hB.swap.box
                    have m3 : (wr.alloc (.cells #[.int .i64 k, .int .i64 V, .int .i64 D, .int .i64 E] 29)).cell? ⟨G3, 0, none⟩ = some (.slice A 0 c) := hB.row.1
                    have m4 : (wr.alloc (.cells #[.int .i64 k, .int .i64 V, .int .i64 D, .int .i64 E] 29)).cell? ⟨G3, 1, none⟩ = some (.slice A2 0 c2) := hB.swap.row.1
                    have H := Lib.hid hB
                    clear hB B
                    go_wp2_with (go_at_call 39; refine (bq_none H.out).mono ?_; rintro e wx ⟨rfl, rfl⟩)
                    go_meet
                    exact Lib.hid H.out.any
          case rest =>
            clear B b0 b1 b2 hK1
            obtain ⟨s, t, A, c, A2, c2, hB⟩ := hcut.out
            clear hcut
            have m1 := hB.box
            have m2 : wc.cell? ⟨G2, 1, none⟩ = some (.pointer (some ⟨q, 0, none⟩)) := hB.swap.box
            have m3 := hB.row.1
            have m4 : wc.cell? ⟨G3, 1, none⟩ = some (.slice A2 t.length c2) := hB.swap.row.1
            have H := Lib.hid hB
            clear hB
            go_wp2
            go_quiet ((go_at_call 40; first | exact Calls.quiet_of_same (bq_len (H.out.below (Hp.below_drewN _ _))) | exact Calls.quiet_of_same (bq_len (H.out.swap.below (Hp.below_drewN _ _)))))
            go_wp2
            exact ⟨⟨j + 1, int_eqQ (by omega), Lib.hid (BQ.any (H.out.below (Hp.below_drewN _ _))), by omega⟩, by simp [intOf]; omega⟩
        · go_wp2
          go_ret
          exact ⟨rfl, hB.bel⟩
      · go_wp2
        go_ret
        exact ⟨rfl, hB.bel⟩
end Go.Proofs.Ytpmamgdblbplcaa.On
