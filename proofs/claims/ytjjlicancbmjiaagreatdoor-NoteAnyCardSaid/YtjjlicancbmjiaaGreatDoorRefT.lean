/- The contract of hortatorref7.in and hortatorref7.Task, by a walk. -/
import Derived.Test.YtjjlicancbmjiaaGreatDoorPBegx14
import Derived.IntWalk
import Derived.Lib.Hide
namespace Go.Proofs.YtjjlicancbmjiaaGreatDoor.PBeg
open Go.Shelf Go.Lib Go.RowKit Go.Proofs.YtjjlicancbmjiaaGreatDoorW.PrintWords Go.Proofs.YtjjlicancbmjiaaGreatDoorW.PrintLast Go.Proofs.YtjjlicancbmjiaaGreatDoorW.PrintMore
set_option linter.unusedVariables false
set_option linter.unusedSimpArgs false
def inB (n a b : Int) : Bool := decide (a ≤ n) && decide (n ≤ b)
theorem in_any (n a b : Int) (w : World) : Calls Tryz.prog 41 #[.int .i64 n, .int .i64 a, .int .i64 b] w fun e w' => e = .returned (.bool (inB n a b)) ∧ w' = w := by
  unfold inB
  by_cases c : a ≤ n
  · have c1 : decide (a ≤ n) = true := decide_eq_true c
    go_enter Tryz.func41, Tryz.ntmps41
    go_wp2
    go_ret
    exact ⟨by simp [c1], rfl⟩
  · have c1 : decide (a ≤ n) = false := decide_eq_false c
    go_enter Tryz.func41, Tryz.ntmps41
    go_wp2
    go_ret
    exact ⟨by simp [c1], rfl⟩
/-- one section behind another one -/
def secOk (n c : Int) (i : Nat) (p : Int) (s : S43) : Bool := decide (0 ≤ s.f0) && decide (s.f0 < n) && inB s.f2 1 200 && inB s.f1 1 (c - 1) && (decide (i = 0) || decide (p < s.f1))
def secsOk (n c : Int) : Nat → Int → List S43 → Bool
  | _, _, [] => true
  | i, p, s :: t => secOk n c i p s && secsOk n c (i + 1) s.f1 t
def taskOk (n x y z : Int) (ls : List S43) : Bool := decide (1 ≤ x) && decide (x ≤ y) && decide (y ≤ z) && decide (z ≤ 200) && decide (ls.length ≤ 2) && secsOk n x 0 0 ls
def prevAt (ls : List S43) (j : Nat) : Int := if j = 0 then 0 else (rd_T43 ls ((j : Int) - 1)).f1
theorem drop_rd (ls : List S43) (j : Nat) (h : j < ls.length) : ls.drop j = rd_T43 ls (j : Int) :: ls.drop (j + 1) := by
  rw [List.drop_eq_getElem_cons h]
  simp [rd_T43, List.getD_eq_getElem?_getD, List.getElem?_eq_getElem h]
theorem prev_succ (ls : List S43) (j : Nat) : prevAt ls (j + 1) = (rd_T43 ls (j : Int)).f1 := by
  unfold prevAt
  rw [if_neg (by omega)]
  congr 2
  omega
theorem ret_b {a b : Bool} (h : a = b) : Ending.returned (.bool a) = .returned (.bool b) := by rw [h]
set_option maxHeartbeats 8000000 in
set_option maxRecDepth 100000 in
theorem reftask_calls (a b c d : Int) (A : Option Addr) (cp : Nat) (lr : List Int) (x y z : Int) (B : Option Addr) (cq : Nat) (ls : List S43) (w : World) (hs : Kd.C k43 w B ls.length ls) :
    Calls Tryz.prog 23 #[.agg #[.int .i64 a, .int .i64 b, .int .i64 c, .int .i64 d, .slice A lr.length cp], .agg #[.int .i64 x, .int .i64 y, .int .i64 z, .slice B ls.length cq]] w fun e w' => e = .returned (.bool (taskOk lr.length x y z ls)) ∧ Below w.heap.size w w' := by
  obtain ⟨W0, hW0⟩ : ∃ W0, W0 = (w.alloc (.cells #[.int .i64 a, .int .i64 b, .int .i64 c, .int .i64 d, .slice A lr.length cp] 24)).alloc (.cells #[.int .i64 x, .int .i64 y, .int .i64 z, .slice B ls.length cq] 27) := ⟨_, rfl⟩
  have hbW : Below w.heap.size w W0 := by subst hW0; exact ((Below.refl _ _).alloc (Nat.le_refl _) _).alloc (by simp) _
  have hsz : w.heap.size + 2 = W0.heap.size := by subst hW0; simp
  have kc : ∀ W, Below W0.heap.size W0 W → W.cell? ⟨w.heap.size, 4, none⟩ = some (.slice A lr.length cp) := by
    intro W hW
    rw [hW.cell (p := ⟨w.heap.size, 4, none⟩) (show w.heap.size < W0.heap.size by omega)]
    subst hW0
    rw [World.cell?_alloc_old _ _ _ (by simp)]
    simp
  have kt : ∀ W, Below W0.heap.size W0 W → ∀ i v, (#[.int .i64 x, .int .i64 y, .int .i64 z, .slice B ls.length cq] : Array Value)[i]? = some v → W.cell? ⟨w.heap.size + 1, i, none⟩ = some v := by
    intro W hW i v hv
    rw [hW.cell (p := ⟨w.heap.size + 1, i, none⟩) (show w.heap.size + 1 < W0.heap.size by omega)]
    subst hW0
    have e : w.heap.size + 1 = (w.alloc (.cells #[.int .i64 a, .int .i64 b, .int .i64 c, .int .i64 d, .slice A lr.length cp] 24)).heap.size := by simp
    rw [e]
    simp [hv]
  have KC := Aside0.mk kc
  have KT := Aside0.mk kt
  have HS := Aside0.mk (fun (W : World) (h : Below W0.heap.size W0 W) => Kd.C_below (Kd.C_below hs hbW) h)
  have HBW := Aside0.mk hbW
  have HSZ := Aside0.mk hsz
  have hlow : w.heap.size ≤ W0.heap.size := by omega
  have HLOW := Aside0.mk hlow
  have t0 := kt W0 (Below.refl _ _) 0 _ rfl
  have t1 := kt W0 (Below.refl _ _) 1 _ rfl
  have t2 := kt W0 (Below.refl _ _) 2 _ rfl
  have t3 := kt W0 (Below.refl _ _) 3 _ rfl
  clear kc kt hs hbW hsz hlow
  by_cases c1 : x < 1
  · have g : taskOk lr.length x y z ls = false := by simp [taskOk, show ¬ 1 ≤ x by omega]
    rw [g]; clear g
    go_enter Tryz.func23, Tryz.ntmps23
    go_upto_region 1 with fail
    rw [← hW0]; clear hW0
    go_wp2
    go_ret
    exact ⟨rfl, HBW.out⟩
  by_cases c2 : y < x
  · have g : taskOk lr.length x y z ls = false := by simp [taskOk, show ¬ x ≤ y by omega]
    rw [g]; clear g
    go_enter Tryz.func23, Tryz.ntmps23
    go_upto_region 1 with fail
    rw [← hW0]; clear hW0
    go_wp2
    go_ret
    exact ⟨rfl, HBW.out⟩
  by_cases c3 : z < y
  · have g : taskOk lr.length x y z ls = false := by simp [taskOk, show ¬ y ≤ z by omega]
    rw [g]; clear g
    go_enter Tryz.func23, Tryz.ntmps23
    go_upto_region 1 with fail
    rw [← hW0]; clear hW0
    go_wp2
    go_ret
    exact ⟨rfl, HBW.out⟩
  by_cases c4 : 200 < z
  · have g : taskOk lr.length x y z ls = false := by simp [taskOk, show ¬ z ≤ 200 by omega]
    rw [g]; clear g
    go_enter Tryz.func23, Tryz.ntmps23
    go_upto_region 1 with fail
    rw [← hW0]; clear hW0
    go_wp2
    go_ret
    exact ⟨rfl, HBW.out⟩
  by_cases c5 : 2 < (ls.length : Int)
  · have g : taskOk lr.length x y z ls = false := by simp [taskOk, show ¬ ls.length ≤ 2 by omega]
    rw [g]; clear g
    go_enter Tryz.func23, Tryz.ntmps23
    go_upto_region 1 with fail
    rw [← hW0]; clear hW0
    go_wp2
    go_ret
    exact ⟨rfl, HBW.out⟩
  have g : taskOk lr.length x y z ls = secsOk lr.length x 0 0 ls := by simp [taskOk, show 1 ≤ x by omega, show x ≤ y by omega, show y ≤ z by omega, show z ≤ 200 by omega, show ls.length ≤ 2 by omega]
  rw [g]; clear g
  go_enter Tryz.func23, Tryz.ntmps23
  go_upto_region 1 with fail
  rw [← hW0]; clear hW0
  go_wp2
  clear t0 t1 t2 t3
  go_loopw [5] (fun i wr => ∃ j : Nat, i = .int .i64 (j : Int) ∧ j ≤ ls.length ∧ Aside0 (secsOk lr.length x 0 0 ls = secsOk lr.length x j (prevAt ls j) (ls.drop j)) ∧ Aside0 (Below W0.heap.size W0 wr)) (fun i _ => ls.length - (Go.RowKit.intOf i).toNat)
  case atStart => exact ⟨0, rfl, Nat.zero_le _, ⟨rfl⟩, ⟨Below.refl _ _⟩⟩
  case round =>
    obtain ⟨j, rfl, hj, HE, HB⟩ := hrel
    by_cases hlt : (j : Int) < (ls.length : Int)
    · have hj' : j < ls.length := by omega
      have t3 := KT.out wr HB.out 3 _ rfl
      obtain ⟨ad, e1, hx0, hx1, hx2⟩ := at_T43 (HS.out wr HB.out) (j : Int) (by omega) hlt
      subst e1
      simp only [Int.toNat_natCast] at hx0 hx1 hx2
      have hd := drop_rd ls j hj'
      have hp := prev_succ ls j
      have HN : Aside0 (secsOk lr.length x j (prevAt ls j) (ls.drop j) = (secOk lr.length x j (prevAt ls j) (rd_T43 ls (j : Int)) && secsOk lr.length x (j + 1) (prevAt ls (j + 1)) (ls.drop (j + 1)))) := ⟨by rw [hd, hp]; rfl⟩
      have HQ : Aside0 (1 ≤ j → ∀ W, Below W0.heap.size W0 W → W.cell? ⟨(ad.add ((j - 1) * 3)).block, (ad.add ((j - 1) * 3)).off + 1, none⟩ = some (.int .i64 (prevAt ls j))) := ⟨by
        intro hj1 W hW
        obtain ⟨ad', e1, _, hq1, _⟩ := at_T43 (HS.out W hW) ((j : Int) - 1) (by omega) (by omega)
        cases e1
        have e : ((j : Int) - 1).toNat = j - 1 := by omega
        rw [e] at hq1
        unfold prevAt
        rw [if_neg (by omega)]
        exact hq1⟩
      clear hd hp
      generalize rd_T43 ls (j : Int) = s at *
      generalize prevAt ls j = p at *
      obtain ⟨W1, hW1⟩ : ∃ W1, W1 = wr.alloc (.cells #[.int .i64 s.f0, .int .i64 s.f1, .int .i64 s.f2] 43) := ⟨_, rfl⟩
      have hb1 : Below wr.heap.size wr W1 := by rw [hW1]; exact (Below.refl _ _).alloc (Nat.le_refl _) _
      have s0 : W1.cell? ⟨wr.heap.size, 0, none⟩ = some (.int .i64 s.f0) := by rw [hW1]; simp
      have s1 : W1.cell? ⟨wr.heap.size, 1, none⟩ = some (.int .i64 s.f1) := by rw [hW1]; simp
      have s2 : W1.cell? ⟨wr.heap.size, 2, none⟩ = some (.int .i64 s.f2) := by rw [hW1]; simp
      have HB1 := Aside0.mk (HB.out.trans (hb1.mono HB.out.size))
      have q0 := KT.out W1 HB1.out 0 _ rfl
      have q3 := KT.out W1 HB1.out 3 _ rfl
      have q4 := KC.out W1 HB1.out
      have hjl : (j : Int) ≤ 2 := by omega
      have HF : Aside0 (secOk lr.length x j p s = false → secsOk lr.length x 0 0 ls = false) := ⟨fun h => by rw [HE.out, HN.out, h]; rfl⟩
      have HTT : Aside0 (secOk lr.length x j p s = true → secsOk lr.length x 0 0 ls = secsOk lr.length x (j + 1) (prevAt ls (j + 1)) (ls.drop (j + 1))) := ⟨fun h => by rw [HE.out, HN.out, h]; rfl⟩
      have hx1 : IntKind.i64.wrap (x - 1) = x - 1 := IntWalk.i64_in _ (by omega)
      have HX := Aside0.mk hx1
      clear hb1 HE HN HB hx1
      go_upto_region 7 with fail
      rw [← hW1]
      clear hW1 hx0 hx2 t3
      generalize wr.heap.size = gs at *
      by_cases e1 : s.f0 < 0
      · have f1 : decide (s.f0 < 0) = true := decide_eq_true e1
        have HR : Aside0 (secsOk lr.length x 0 0 ls = false) := ⟨HF.out (by simp [secOk, show ¬ 0 ≤ s.f0 by omega])⟩
        clear HF HTT HQ
        go_quiet (fail)
        go_wp2
        go_ret
        exact ⟨(ret_b HR.out.symm : Ending.returned (.bool false) = _), HBW.out.trans ((pw_below_drewN HB1.out _).mono HLOW.out)⟩
      have f1 : decide (s.f0 < 0) = false := decide_eq_false e1
      by_cases e2 : (lr.length : Int) ≤ s.f0
      · have f2 : decide ((lr.length : Int) ≤ s.f0) = true := decide_eq_true e2
        have HR : Aside0 (secsOk lr.length x 0 0 ls = false) := ⟨HF.out (by simp [secOk, show ¬ s.f0 < (lr.length : Int) by omega])⟩
        clear HF HTT HQ
        go_quiet (fail)
        go_wp2
        go_ret
        exact ⟨(ret_b HR.out.symm : Ending.returned (.bool false) = _), HBW.out.trans ((pw_below_drewN HB1.out _).mono HLOW.out)⟩
      have f2 : decide ((lr.length : Int) ≤ s.f0) = false := decide_eq_false e2
      cases e3 : inB s.f2 1 200 with
      | false =>
        have HR : Aside0 (secsOk lr.length x 0 0 ls = false) := ⟨HF.out (by simp [secOk, e3])⟩
        clear HF HTT HQ
        go_quiet ((go_at_call 41; exact Calls.quiet_of_same (in_any _ _ _ _)))
        go_wp2
        go_ret
        exact ⟨(ret_b HR.out.symm : Ending.returned (.bool false) = _), HBW.out.trans ((pw_below_drewN HB1.out _).mono HLOW.out)⟩
      | true =>
      have hx1 := HX.out
      cases e4 : inB s.f1 1 (x - 1) with
      | false =>
        have HR : Aside0 (secsOk lr.length x 0 0 ls = false) := ⟨HF.out (by simp [secOk, e4])⟩
        clear HF HTT HQ
        go_quiet ((go_at_call 41; exact Calls.quiet_of_same (in_any _ _ _ _)))
        go_wp2
        go_ret
        exact ⟨(ret_b HR.out.symm : Ending.returned (.bool false) = _), HBW.out.trans ((pw_below_drewN HB1.out _).mono HLOW.out)⟩
      | true =>
      by_cases e5 : 0 < (j : Int)
      · have f5 : decide (0 < (j : Int)) = true := decide_eq_true e5
        have f7 : decide (0 < j) = true := decide_eq_true (by omega)
        have f8 : 0 < j := by omega
        clear e5
        have j1 : IntKind.i64.wrap ((j : Int) - 1) = (j : Int) - 1 := IntWalk.i64_in _ (by omega)
        have j2 : 0 ≤ (j : Int) - 1 := by omega
        have j3 : (j : Int) - 1 < (ls.length : Int) := by omega
        have j4 : ((j : Int) - 1).toNat = j - 1 := by omega
        have q := HQ.out (by omega) W1 HB1.out
        by_cases e6 : s.f1 ≤ p
        · have f6 : decide (s.f1 ≤ p) = true := decide_eq_true e6
          have HR : Aside0 (secsOk lr.length x 0 0 ls = false) := ⟨HF.out (by simp [secOk, show ¬ p < s.f1 by omega, show ¬ j = 0 by omega])⟩
          clear HF HTT HQ
          go_quiet ((go_at_call 41; exact Calls.quiet_of_same (in_any _ _ _ _)))
          go_wp2
          go_ret
          exact ⟨(ret_b HR.out.symm : Ending.returned (.bool false) = _), HBW.out.trans ((pw_below_drewN HB1.out _).mono HLOW.out)⟩
        · have f6 : decide (s.f1 ≤ p) = false := decide_eq_false e6
          have HT := Aside0.mk (HTT.out (by simp [secOk, e3, e4, show p < s.f1 by omega, show 0 ≤ s.f0 by omega, show s.f0 < (lr.length : Int) by omega]))
          clear HF HTT HQ
          go_quiet ((go_at_call 41; exact Calls.quiet_of_same (in_any _ _ _ _)))
          go_wp2
          go_roundw
          case rel => exact ⟨j + 1, by go_num, by omega, HT, ⟨pw_below_drewN HB1.out _⟩⟩
          case measure => simp [Go.RowKit.intOf]; omega
      · have f5 : decide (0 < (j : Int)) = false := decide_eq_false e5
        have f7 : decide (0 < j) = false := decide_eq_false (by omega)
        have f8 : ¬ 0 < j := by omega
        clear e5
        have HT := Aside0.mk (HTT.out (by simp [secOk, e3, e4, show j = 0 by omega, show 0 ≤ s.f0 by omega, show s.f0 < (lr.length : Int) by omega]))
        clear HF HTT HQ
        go_quiet ((go_at_call 41; exact Calls.quiet_of_same (in_any _ _ _ _)))
        go_wp2
        go_roundw
        case rel => exact ⟨j + 1, by go_num, by omega, HT, ⟨pw_below_drewN HB1.out _⟩⟩
        case measure => simp [Go.RowKit.intOf]; omega
    · have hje : j = ls.length := by omega
      have HE' : secsOk lr.length x 0 0 ls = true := by rw [HE.out, hje, List.drop_length]; rfl
      have HE2 := Aside0.mk HE'
      clear HE HE'
      have t3 := KT.out wr HB.out 3 _ rfl
      go_wp2
      go_ret
      exact ⟨(ret_b HE2.out.symm : Ending.returned (.bool true) = _), HBW.out.trans (HB.out.mono HLOW.out)⟩
end Go.Proofs.YtjjlicancbmjiaaGreatDoor.PBeg
