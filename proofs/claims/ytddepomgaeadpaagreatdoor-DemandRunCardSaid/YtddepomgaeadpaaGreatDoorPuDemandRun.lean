/- DemandRun: the plain statement. -/
import Derived.Test.YtddepomgaeadpaaGreatDoorPu0
import Derived.Test.YtddepomgaeadpaaGreatDoorMathR
import Derived.Test.YtddepomgaeadpaaGreatDoorPAllx22
namespace Go.Proofs.YtddepomgaeadpaaGreatDoor.Pure
open Go.RowKit Go.Proofs.YtddepomgaeadpaaGreatDoorW.PrintWords Go.Proofs.YtddepomgaeadpaaGreatDoorW.PrintMore Go.Proofs.YtddepomgaeadpaaGreatDoor.LoadMath Go.Proofs.YtddepomgaeadpaaGreatDoor.PAll Go.Proofs.YtddepomgaeadpaaGreatDoor.On
set_option linter.unusedVariables false
def fn (xs : List Int) (j : Nat) : Int := xs.getD j 0
theorem rd_fn (xs : List Int) (i : Nat) : rd xs (i : Int) = fn xs i := by unfold rd fn; rw [Int.toNat_natCast]
theorem fn_set (xs : List Int) {i : Nat} (h : i < xs.length) (v : Int) : fn (xs.set i v) = LoadMath.upd (fn xs) i v := by
  funext j
  unfold fn LoadMath.upd
  by_cases c : j = i
  · subst c
    rw [if_pos rfl, List.getD_eq_getElem?_getD, List.getElem?_set_self h]; rfl
  · rw [if_neg c, List.getD_eq_getElem?_getD, List.getElem?_set_ne (Ne.symm c), ← List.getD_eq_getElem?_getD]
theorem b15 (x : Int) : 0 ≤ bits .and .i64 x 15 ∧ bits .and .i64 x 15 ≤ 15 := band_range x 15 (by omega)
/-- the loads, by their numbers -/
def ldAt (l : List S31) (j : Nat) : Ld := ld (l.getD j z31)
structure St (l : List S31) (N L D : List Int) (t g : Int) (i : Nat) : Prop where
  nl : N.length = l.length
  ll : L.length = l.length
  dl : D.length = l.length
  lim : ∀ j, j < l.length → fn L j ≤ 20000
  g0 : 0 ≤ g
  g1 : g ≤ 10 * t + i
theorem run_l1 {l : List S31} (hl : l.length ≤ 10) (hO : Ok (lds l)) (hf : ∀ s, 0 ≤ s → sumN l.length (fun i => due1 s (ldAt l i)) ≤ s) (gaps : List Int) {t : Int} (ht : 0 ≤ t) (ht2 : t < 600) {R : Nat}
    (hC : ∀ (N L D : List Int) (g : Int) (k : Nat), R < k → St l N L D (t + 1) g 0 → At l.length (ldAt l) (fn L) (fn D) (fn N) (t + 1) → hortatorlaw9_DemandRun.l0 k l gaps N L D g (t + 1) = some true) (d : Nat) :
    ∀ (i k : Nat) (N L D : List Int) (g b : Int), i + d = l.length → R + 3 * d + 3 < k → St l N L D t g i → In l.length (ldAt l) (fn L) (fn D) (fn N) t i b → hortatorlaw9_DemandRun.l1 k l gaps N L D g t b (i : Int) = some true := by
  have hx : ∀ j, j < l.length → ok (ldAt l j) := fun j hj => ok_getD hO hj
  induction d with
  | zero =>
    intro i k N L D g b hi hk hS hI
    obtain ⟨k, rfl⟩ : ∃ m, k = m + 1 := ⟨k - 1, by omega⟩
    rw [hortatorlaw9_DemandRun.l1, if_neg (by omega)]
    obtain rfl : i = l.length := by omega
    have hT := hI.tick hx hf
    obtain ⟨s1, s2, s3, s4, s5, s6⟩ := hS
    by_cases hb : b ≥ 0
    · rw [if_pos hb, if_pos hb]
      rw [if_pos hb] at hT
      have hbn : b < l.length ∧ 0 < fn L b.toNat := by
        rcases hI.best with ⟨h1, _⟩ | ⟨_, h2, h3, _⟩
        · omega
        · exact ⟨h2, h3⟩
      have hbl : b.toNat < L.length := by omega
      have e : rd L b = fn L b.toNat := rfl
      have hlim := s4 b.toNat (by omega)
      rw [if_pos (by omega), e, w64 (x := fn L b.toNat - 1) (by omega) (by omega), w64 (x := t + 1) (by omega) (by omega)]
      refine hC _ _ _ _ _ (by omega) ⟨s1, by rw [List.length_set]; exact s2, s3, ?_, s5, by omega⟩ (by rw [fn_set L hbl]; exact hT)
      intro j hj
      rw [fn_set L hbl]
      by_cases c : j = b.toNat
      · subst c; rw [upd_same]; omega
      · rw [upd_ne _ _ c]; exact s4 j hj
    · rw [if_neg hb, w64 (x := t + 1) (by omega) (by omega)]
      rw [if_neg hb] at hT
      exact hC _ _ _ _ _ (by omega) ⟨s1, s2, s3, s4, s5, by omega⟩ hT
  | succ d ih =>
    intro i k N L D g b hi hk hS hI
    have hil : i < l.length := by omega
    -- the best one, once the i-th load has asked or not
    have sel : ∀ (k : Nat) (N L D : List Int) (g : Int), R + 3 * d + 3 < k → St l N L D t g (i + 1) → In l.length (ldAt l) (fn L) (fn D) (fn N) t i b → (fn L i ≠ 0 ∨ t < fn N i) →
        hortatorlaw9_DemandRun.l1 k l gaps N L D g t (if 0 < fn L i ∧ (b < 0 ∨ fn D i < fn D b.toNat) then (i : Int) else b) (wrap64 ((i : Int) + 1)) = some true := by
      intro k N L D g hk hS hI hr
      rw [w64 (x := (i : Int) + 1) (by omega) (by omega)]
      exact ih (i + 1) k N L D g _ (by omega) hk hS (hI.next hx hil hr)
    have hbr : b = -1 ∨ 0 ≤ b ∧ b < i := by
      rcases hI.best with ⟨h1, _⟩ | ⟨h1, h2, _⟩
      · exact .inl h1
      · exact .inr ⟨h1, h2⟩
    obtain ⟨k, rfl⟩ : ∃ m, k = m + 1 + 1 + 1 := ⟨k - 3, by omega⟩
    obtain ⟨s1, s2, s3, s4, s5, s6⟩ := hS
    rw [hortatorlaw9_DemandRun.l1, if_pos (by omega), if_pos (by omega), if_pos (by omega), rd_fn, rd_fn]
    have h2 : (if fn L i > 0 then (if (i : Int) < (D.length : Int) then (hortatorlaw9_DemandRun.j2 (k + 1 + 1) l gaps N L D g t b (i : Int) (decide (fn D i ≤ t))) else none) else (hortatorlaw9_DemandRun.j2 (k + 1 + 1) l gaps N L D g t b (i : Int) false)) = hortatorlaw9_DemandRun.j2 (k + 1 + 1) l gaps N L D g t b (i : Int) false := by
      by_cases c : fn L i > 0
      · have := hI.late hx hil c
        rw [if_pos c, if_pos (by omega), decide_eq_false (by omega)]
      · rw [if_neg c]
    rw [h2, hortatorlaw9_DemandRun.j2, if_neg (by decide), if_pos (by omega), if_pos (by omega), rd_fn, rd_fn]
    by_cases hr : fn L i = 0 ∧ fn N i ≤ t
    · rw [if_pos hr.1, if_pos (by omega), decide_eq_true hr.2, hortatorlaw9_DemandRun.j3, if_pos rfl]
      have hxi := hx i hil
      obtain ⟨q1, q2, q3, q4, q5⟩ := hxi
      have e0 : (rd_T31 l (i : Int)).f0 = (ldAt l i).c := by rw [rd_nat]; rfl
      have e1 : (rd_T31 l (i : Int)).f1 = (ldAt l i).d := by rw [rd_nat]; rfl
      have e2 : (rd_T31 l (i : Int)).f2 = (ldAt l i).t := by rw [rd_nat]; rfl
      -- both ways: the gap is gp
      have key : ∀ gp : Int, 0 ≤ gp → gp ≤ 15 → (if (rd (L.set i (ldAt l i).c) (i : Int)) > 0 then (if b < 0 then (hortatorlaw9_DemandRun.l1 k l gaps (N.set i (t + (ldAt l i).t + gp)) (L.set i (ldAt l i).c) (D.set i (t + (ldAt l i).d)) (wrap64 (g + 1)) t (i : Int) (wrap64 ((i : Int) + 1))) else (if 0 ≤ b then (if b < (D.length : Int) then (if (rd (D.set i (t + (ldAt l i).d)) (i : Int)) < (rd (D.set i (t + (ldAt l i).d)) b) then (hortatorlaw9_DemandRun.l1 k l gaps (N.set i (t + (ldAt l i).t + gp)) (L.set i (ldAt l i).c) (D.set i (t + (ldAt l i).d)) (wrap64 (g + 1)) t (i : Int) (wrap64 ((i : Int) + 1))) else (hortatorlaw9_DemandRun.l1 k l gaps (N.set i (t + (ldAt l i).t + gp)) (L.set i (ldAt l i).c) (D.set i (t + (ldAt l i).d)) (wrap64 (g + 1)) t b (wrap64 ((i : Int) + 1)))) else none) else none)) else (hortatorlaw9_DemandRun.l1 k l gaps (N.set i (t + (ldAt l i).t + gp)) (L.set i (ldAt l i).c) (D.set i (t + (ldAt l i).d)) (wrap64 (g + 1)) t b (wrap64 ((i : Int) + 1)))) = some true := by
        intro gp hg0 hg1
        have fL := fn_set L (i := i) (by omega) (ldAt l i).c
        have fD := fn_set D (i := i) (by omega) (t + (ldAt l i).d)
        have fN := fn_set N (i := i) (by omega) (t + (ldAt l i).t + gp)
        have hI' := hI.release hx hil hr.1 hr.2 hg0
        rw [← fL, ← fD, ← fN] at hI'
        have vL : fn (L.set i (ldAt l i).c) i = (ldAt l i).c := by rw [fL, upd_same]
        rw [w64 (x := g + 1) (by omega) (by omega)]
        have hS' : St l (N.set i (t + (ldAt l i).t + gp)) (L.set i (ldAt l i).c) (D.set i (t + (ldAt l i).d)) t (g + 1) (i + 1) := by
          refine ⟨by rw [List.length_set]; exact s1, by rw [List.length_set]; exact s2, by rw [List.length_set]; exact s3, ?_, by omega, by omega⟩
          intro j hj
          rw [fL]
          by_cases c : j = i
          · subst c; rw [upd_same]; omega
          · rw [upd_ne _ _ c]; exact s4 j hj
        have hs := sel k _ _ _ _ (by omega) hS' hI' (.inl (by rw [vL]; omega))
        rw [rd_fn, rd_fn, vL, if_pos (by omega)]
        rw [vL] at hs
        generalize N.set i (t + (ldAt l i).t + gp) = N' at hs ⊢
        generalize L.set i (ldAt l i).c = L' at hs ⊢
        generalize hD' : D.set i (t + (ldAt l i).d) = D' at hs ⊢
        rcases hbr with rfl | ⟨hb0, hb1⟩
        · rw [if_pos (by omega)]
          rw [if_pos ⟨by omega, .inl (by omega)⟩] at hs
          exact hs
        · have eb : rd D' b = fn D' b.toNat := rfl
          rw [if_neg (by omega), if_pos hb0, if_pos (by omega), eb]
          by_cases c : fn D' i < fn D' b.toNat
          · rw [if_pos c]
            rw [if_pos ⟨by omega, .inr c⟩] at hs
            exact hs
          · rw [if_neg c]
            rw [if_neg (by rintro ⟨_, h | h⟩ <;> omega)] at hs
            exact hs
      have hg := b15 (rd gaps g)
      have hc2 : (((i : Nat) : Int)).toNat = i := Int.toNat_natCast i
      have w1 : wrap64 (t + (ldAt l i).d) = t + (ldAt l i).d := w64 (by omega) (by omega)
      have w2 : wrap64 (t + (ldAt l i).t) = t + (ldAt l i).t := w64 (by omega) (by omega)
      have w3 : wrap64 (t + (ldAt l i).t + bits .and .i64 (rd gaps g) 15) = t + (ldAt l i).t + bits .and .i64 (rd gaps g) 15 := w64 (by omega) (by omega)
      have w4 : wrap64 (t + (ldAt l i).t) = t + (ldAt l i).t + 0 := by rw [w2]; omega
      by_cases cg : g < (gaps.length : Int)
      · rw [if_pos cg, if_pos s5, if_pos (by omega), if_pos (by omega), if_pos (by omega), Option.bind_some, if_pos (by omega), Option.bind_some, if_pos (by omega), Option.bind_some, hc2, e0, e1, e2, w1, w2, w3]
        exact key _ hg.1 hg.2
      · rw [if_neg cg, if_pos (by omega), if_pos (by omega), if_pos (by omega), Option.bind_some, if_pos (by omega), Option.bind_some, if_pos (by omega), Option.bind_some, hc2, e0, e1, e2, w1, w2, w4]
        exact key _ (by omega) (by omega)
    · have h3 : (if fn L i = 0 then (if (i : Int) < (N.length : Int) then (hortatorlaw9_DemandRun.j3 (k + 1) l gaps N L D g t b (i : Int) (decide (fn N i ≤ t))) else none) else (hortatorlaw9_DemandRun.j3 (k + 1) l gaps N L D g t b (i : Int) false)) = hortatorlaw9_DemandRun.j3 (k + 1) l gaps N L D g t b (i : Int) false := by
        by_cases c : fn L i = 0
        · rw [if_pos c, if_pos (by omega), decide_eq_false (fun h => hr ⟨c, h⟩)]
        · rw [if_neg c]
      have hr' : fn L i ≠ 0 ∨ t < fn N i := by
        by_cases c : fn L i = 0
        · exact .inr (by have : ¬ fn N i ≤ t := fun h => hr ⟨c, h⟩; omega)
        · exact .inl c
      rw [h3, hortatorlaw9_DemandRun.j3, if_neg (by decide), if_pos (by omega), if_pos (by omega), rd_fn, rd_fn]
      have hs := sel k N L D g (by omega) ⟨s1, s2, s3, s4, s5, by omega⟩ hI hr'
      by_cases p : fn L i > 0
      · rw [if_pos p]
        rcases hbr with rfl | ⟨hb0, hb1⟩
        · rw [if_pos (by omega)]
          rw [if_pos ⟨p, .inl (by omega)⟩] at hs
          exact hs
        · have eb : rd D b = fn D b.toNat := rfl
          rw [if_neg (by omega), if_pos (by omega), if_pos hb0, if_pos (by omega), eb]
          by_cases c : fn D i < fn D b.toNat
          · rw [if_pos c]
            rw [if_pos ⟨p, .inr c⟩] at hs
            exact hs
          · rw [if_neg c]
            rw [if_neg (by rintro ⟨_, h | h⟩ <;> omega)] at hs
            exact hs
      · rw [if_neg p]
        rw [if_neg (by rintro ⟨h, _⟩; omega)] at hs
        exact hs
theorem run_l0 {l : List S31} (hl : l.length ≤ 10) (hO : Ok (lds l)) (hf : ∀ s, 0 ≤ s → sumN l.length (fun i => due1 s (ldAt l i)) ≤ s) (gaps : List Int) (m : Nat) :
    ∀ (k : Nat) (t : Int) (N L D : List Int) (g : Int), t + m = 600 → 0 ≤ t → 100 * m + 10 < k → St l N L D t g 0 → At l.length (ldAt l) (fn L) (fn D) (fn N) t → hortatorlaw9_DemandRun.l0 k l gaps N L D g t = some true := by
  induction m with
  | zero =>
    intro k t N L D g ht h0 hk hS hA
    obtain ⟨k, rfl⟩ : ∃ m, k = m + 1 := ⟨k - 1, by omega⟩
    rw [hortatorlaw9_DemandRun.l0, if_neg (by omega)]
  | succ m ih =>
    intro k t N L D g ht h0 hk hS hA
    obtain ⟨k, rfl⟩ : ∃ m, k = m + 1 := ⟨k - 1, by omega⟩
    rw [hortatorlaw9_DemandRun.l0, if_pos (by omega)]
    exact run_l1 hl hO hf gaps h0 (by omega) (R := 100 * m + 10) (fun N L D g k hk hS hA => ih k (t + 1) N L D g (by omega) (by omega) hk hS hA) l.length 0 k N L D g (-1) (by omega) (by omega) hS hA.start
theorem fn_rep (n j : Nat) : fn (List.replicate n 0) j = 0 := by
  unfold fn
  rw [List.getD_eq_getElem?_getD, List.getElem?_replicate]
  split <;> rfl
theorem DemandRun (l0 : List S31) (u0 : ∀ x ∈ l0, I64 x.f0 ∧ I64 x.f1 ∧ I64 x.f2) (l1 : List Int) (u1 : ∀ x ∈ l1, I64 x) : ∃ k, hortatorlaw9_DemandRun.f k l0 l1 = some true := by
  refine ⟨K, ?_⟩
  unfold hortatorlaw9_DemandRun.f
  rw [b9, Option.bind_some, if_pos rfl, loads_f, Option.bind_some]
  have l10 := len10 l0
  generalize l0.take 10 = l at *
  rw [fits_f _ (by decide), Option.bind_some]
  by_cases c : fitsV (lds l) = true
  · have hF := fitsV_iff.mp c
    rw [if_pos c, if_pos (by omega), if_pos (by omega), Int.toNat_natCast]
    have hf : ∀ s, 0 ≤ s → sumN l.length (fun i => due1 s (ldAt l i)) ≤ s := by
      intro s hs
      have h1 := hF.2.2.2 s hs
      have h2 := sum_eq_sumN (due1 s) (ld z31) (lds l)
      unfold bound at h1
      rw [h2, lds_length] at h1
      have h3 : sumN l.length (fun i => due1 s ((lds l).getD i (ld z31))) = sumN l.length (fun i => due1 s (ldAt l i)) := sumN_congr (fun i hi => by
        unfold ldAt lds
        rw [List.getD_eq_getElem?_getD, List.getElem?_map, List.getD_eq_getElem?_getD]
        cases l[i]? <;> rfl)
      rw [h3] at h1
      exact h1
    refine run_l0 l10 hF.2.1 hf l1 600 K 0 _ _ _ 0 (by omega) (by omega) (by decide) ⟨by simp, by simp, by simp, fun j hj => by rw [fn_rep]; omega, by omega, by omega⟩ ?_
    refine ⟨fun j hj => by rw [fn_rep]; omega, fun j hj => by rw [fn_rep]; omega, fun d hd => ?_⟩
    have h1 := hf d hd
    have h2 : sumN l.length (fun i => wgt (ldAt l i) (fn (List.replicate l.length 0) i) (fn (List.replicate l.length 0) i) (fn (List.replicate l.length 0) i) 0 d) = sumN l.length (fun i => due1 d (ldAt l i)) := sumN_congr (fun i hi => by
      rw [fn_rep]; unfold wgt
      rw [show d - max 0 0 = d by omega]
      split <;> omega)
    rw [h2]; omega
  · rw [if_neg c]
end Go.Proofs.YtddepomgaeadpaaGreatDoor.Pure
