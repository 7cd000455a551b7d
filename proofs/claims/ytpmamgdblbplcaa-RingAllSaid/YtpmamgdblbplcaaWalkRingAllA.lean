/- RingAll: the walk, part a. (printed by wip/genra.py) -/
import Derived.Test.YtpmamgdblbplcaaRingQ
namespace Go.Proofs.Ytpmamgdblbplcaa.On
open Go.RowKit Go.Proofs.Ytpmamgdblbplcaa.HeapModel Go.Proofs.Ytpmamgdblbplcaa.Bg
set_option linter.unusedVariables false
set_option linter.unusedSimpArgs false
theorem add_zero (a : Addr) : a.add 0 = a := by cases a; unfold Addr.add; split <;> simp_all
theorem snoc_cons (s : List Int) (x : Int) : ∃ z t, s ++ [x] = z :: t := by
  cases s with
  | nil => exact ⟨x, [], rfl⟩
  | cons z t => exact ⟨z, t ++ [x], rfl⟩
theorem RB.head {w0 w : World} {p cap n c O : Nat} {s t : List Int} {z : Int} {ad : Addr} {os : List Value} (h : RB w0 w p cap s (z :: t) (some ad) n c O os) (hn : 0 < n) : w.cell? (ad.add 0) = some (.int .i64 z) := by
  obtain ⟨a, e, hr⟩ := h.read hn
  injection e with e
  subst e
  exact hr 0 hn
theorem rb_at' {w0 w : World} {p cap n c O : Nat} {s l : List Int} {A : Option Addr} {os : List Value} (h : RB w0 w p cap s l A n c O os) (i : Nat) (hi : i < s.length) {y : Int} (hy : s.getD i 0 = y) : Calls Try.prog 61 #[.pointer (some ⟨p, 0, none⟩), .int .i64 i] w fun e w' => e = .returned (.tuple #[.int .i64 y, .bool true]) ∧ RB w0 w' p cap s l A n c O os := by
  rw [← hy]
  exact rb_at h i hi
theorem wpList_append_run {P : Program} {ops : Array Oper} {o : Oper} {Q : Exit → Act → World → Prop} {rest : List Oper} {a : Act} {W w' : World} {s x : Operand} {v u v' : Value} (hg : o.guard = none)
    (ho : o.op = .call { callee := .builtin .append, args := #[s, x], argTypes := #[47, 47] }) (hs : a.eval s = v) (hx : a.eval x = u)
    (hr : (Builtin.append_ #[47, 47] o.type #[v, u]).run P W = .ok v' w') (h : wpList P ops Q rest (a.put o.dst v') w') : wpList P ops Q (o :: rest) a W := by
  refine wpList_plain hg fun K hK => ?_
  unfold Oper.wp execOp
  simp only [ho, resolve, invoke, builtin, Sem.run_bind, Sem.run_pure, Result.andThen_ok, List.map_toArray, List.map_cons, List.map_nil, hs, hx, hr]
  exact hK _ _ h
set_option maxHeartbeats 20000000 in
set_option maxRecDepth 100000 in
theorem ringAll_a (room : Int) (a : Option Addr) (len cap0 : Nat) (F : Nat → Nat → Int) (w : World) (wa : (Lit.int .i64 room).wf = true) (hz : IsRec 4 w a len cap0 F) (t1 : room ≤ 0) :
    Calls Try.prog 14 #[.int .i64 room, .slice a len cap0] w fun e w' => e = .returned (.bool true) ∧ Below w.heap.size w w' := by
  have ba := bounds_i64 wa
  have hL := hz.len_le
  unfold maxLen at hL
  have HZ := Lib.hid hz
  clear hz wa
  obtain ⟨cap, hcap⟩ : ∃ cap : Nat, cap = (min (max room 0) 1000).toNat := ⟨_, rfl⟩
  have CAP := Lib.hid hcap
  clear hcap
  have e0 : cap = 0 := by have := CAP.out; omega
  have E0 := Lib.hid e0
  clear e0
  have MC : Hid ((cap : Int) = 0) := Lib.hid (by have := E0.out; omega)
  go_enter Try.func14, Try.ntmps14
  go_wp2_with (first
    | (go_at_call 22; refine (begun2 _).mono ?_; rintro e w1 ⟨rfl, hb⟩; have HB := Lib.hid hb; clear hb)
    | (go_at_call 41; refine (r1_new HB.out _ ba).mono ?_; rintro e w2 ⟨p, rfl, h⟩; rw [← CAP.out] at h; have R0 := Lib.hid (RA.start h); clear h HB))
  go_loopw [8, 9] (fun l i wr => ∃ (j n c : Nat) (A : Option Addr) (s : List Int), i = .int .i64 (j : Int) ∧ l = .slice A n c ∧ Hid (RA w wr p cap s s A n c) ∧ j ≤ 60) (fun _ i _ => 61 - (intOf i).toNat)
  case atStart => exact ⟨0, 0, 0, none, [], rfl, rfl, R0, by omega⟩
  case round =>
    clear R0
    obtain ⟨j, n, c, A, s, rfl, rfl, HR, hj⟩ := hrel
    by_cases h1 : (j : Int) < (len : Int)
    · by_cases h2 : (j : Int) < 60
      · obtain ⟨x, rfl, hc⟩ := HZ.out.four j (by omega)
        obtain ⟨hc0, hc1, hc2, hc3⟩ := hc wr HR.out.bel
        clear hc
        have HN := Lib.hid HR.out.nums
        have hnb : (n : Int) ≤ 1000 := by have := HN.out; have := E0.out; omega
        by_cases k0 : F j 0 = 0
        · have k0b : (F j 0 == 0) = true := by simpa using k0
          clear k0
          have B := Lib.hid (HR.out.op [.int .i64 (F j 0), .int .i64 (F j 1), .int .i64 (F j 2), .int .i64 (F j 3)])
          · by_cases hin : n < cap
            · exfalso; have := E0.out; omega
            · have hin' : ¬ (n : Int) < 0 := by have := E0.out; omega
              have hsl : ¬ s.length < cap := by have := HN.out.1; omega
              rcases s with _ | ⟨z, t⟩
              · skip
                obtain rfl : n = 0 := HN.out.1.symm
                go_wp2_with (first
              | (go_at_call 42; refine (rb_full B.out _ hsl).mono ?_; rintro e w3 ⟨rfl, h⟩; have H4 := Lib.hid h; clear h B)
              | (go_at_call 62; refine (rb_first_no H4.out).mono ?_; rintro e wx ⟨rfl, rfl⟩)
              | (go_at_call 43; refine (rb_len H4.out rfl).mono ?_; rintro e wx ⟨rfl, rfl⟩)
              | (go_at_call 63; refine (rb_room H4.out rfl MC.out).mono ?_; rintro e w8 ⟨rfl, h⟩; have H8 := Lib.hid h.ra; clear h H4))
                exact ⟨⟨j + 1, _, _, _, _, iEq (by omega), rfl, H8, by omega⟩, by simp [intOf]; omega⟩
              · have hn0 : 0 < n := by have := HN.out.1; simp at this; omega
                have hn0i : (0 : Int) < (n : Int) := by omega
                go_wp2_with (first
              | (go_at_call 42; refine (rb_full B.out _ hsl).mono ?_; rintro e w3 ⟨rfl, h⟩; have H4 := Lib.hid h; clear h B)
              | (go_at_call 62; refine (rb_first H4.out).mono ?_; rintro e w7 ⟨rfl, h⟩; obtain ⟨ad7, rfl, hr7⟩ := h.read (by omega); have hr8 : w7.cell? (ad7.add 0) = some (.int .i64 z) := hr7 0 (by omega); have hr9 := (congrArg w7.cell? (add_zero ad7)).symm.trans hr8; have ln7 := h.nums; have H7 := Lib.hid h; have L7 := Lib.hid ln7.1; clear h hr7 ln7 H4)
              | (go_at_call 43; refine (rb_len H7.out L7.out).mono ?_; rintro e wx ⟨rfl, rfl⟩)
              | (go_at_call 63; refine (rb_room H7.out L7.out MC.out).mono ?_; rintro e w8 ⟨rfl, h⟩; have H8 := Lib.hid h.ra; clear h H7))
                exact ⟨⟨j + 1, _, _, _, _, iEq (by omega), rfl, H8, by omega⟩, by simp [intOf]; omega⟩
        by_cases k1 : F j 0 = 1
        · have k0b : (F j 0 == 0) = false := by simpa using k0
          have k1b : (F j 0 == 1) = true := by simpa using k1
          clear k0 k1
          have B := Lib.hid (HR.out.op [.int .i64 (F j 0), .int .i64 (F j 1), .int .i64 (F j 2), .int .i64 (F j 3)])
          rcases s with _ | ⟨z, t⟩
          · obtain rfl : n = 0 := HN.out.1.symm
            go_wp2_with (first
            | (go_at_call 44; refine (rb_take_no B.out).mono ?_; rintro e wx ⟨rfl, rfl⟩)
            | (go_at_call 62; refine (rb_first_no B.out).mono ?_; rintro e wx ⟨rfl, rfl⟩)
            | (go_at_call 43; refine (rb_len B.out rfl).mono ?_; rintro e wx ⟨rfl, rfl⟩)
            | (go_at_call 63; refine (rb_room B.out rfl MC.out).mono ?_; rintro e w8 ⟨rfl, h⟩; have H8 := Lib.hid h.ra; clear h B))
            exact ⟨⟨j + 1, _, _, _, _, iEq (by omega), rfl, H8, by omega⟩, by simp [intOf]; omega⟩
          · obtain ⟨m, rfl⟩ : ∃ m, n = m + 1 := ⟨n - 1, by have := HN.out.1; simp at this; omega⟩
            have hn0 : 0 < m + 1 := by omega
            rcases t with _ | ⟨z2, t2⟩
            · obtain rfl : m = 0 := by have := HN.out.1; simp at this; omega
              go_wp2_with (first
            | (go_at_call 44; refine (rb_take B.out).mono ?_; rintro e w3 ⟨rfl, h⟩; obtain ⟨ad, rfl, hr⟩ := h.read (by omega); have hr1 : w3.cell? (ad.add 0) = some (.int .i64 z) := hr 0 (by omega); have hr2 := (congrArg w3.cell? (add_zero ad)).symm.trans hr1; obtain ⟨A4, hcut, h4⟩ := rb_cut h; have H4 := Lib.hid h4; clear h h4 hr B)
            | (go_at_call 62; refine (rb_first_no H4.out).mono ?_; rintro e wx ⟨rfl, rfl⟩)
            | (go_at_call 43; refine (rb_len H4.out rfl).mono ?_; rintro e wx ⟨rfl, rfl⟩)
            | (go_at_call 63; refine (rb_room H4.out rfl MC.out).mono ?_; rintro e w8 ⟨rfl, h⟩; have H8 := Lib.hid h.ra; clear h H4))
              exact ⟨⟨j + 1, _, _, _, _, iEq (by omega), rfl, H8, by omega⟩, by simp [intOf]; omega⟩
            · have hm0 : 0 < m := by have := HN.out.1; simp at this; omega
              have hn0i : (0 : Int) < (m : Int) := by omega
              go_wp2_with (first
            | (go_at_call 44; refine (rb_take B.out).mono ?_; rintro e w3 ⟨rfl, h⟩; obtain ⟨ad, rfl, hr⟩ := h.read (by omega); have hr1 : w3.cell? (ad.add 0) = some (.int .i64 z) := hr 0 (by omega); have hr2 := (congrArg w3.cell? (add_zero ad)).symm.trans hr1; obtain ⟨A4, hcut, h4⟩ := rb_cut h; have H4 := Lib.hid h4; clear h h4 hr B)
            | (go_at_call 62; refine (rb_first H4.out).mono ?_; rintro e w7 ⟨rfl, h⟩; obtain ⟨ad7, rfl, hr7⟩ := h.read (by omega); have hr8 : w7.cell? (ad7.add 0) = some (.int .i64 z2) := hr7 0 (by omega); have hr9 := (congrArg w7.cell? (add_zero ad7)).symm.trans hr8; have ln7 := h.nums; have H7 := Lib.hid h; have L7 := Lib.hid ln7.1; clear h hr7 ln7 H4)
            | (go_at_call 43; refine (rb_len H7.out L7.out).mono ?_; rintro e wx ⟨rfl, rfl⟩)
            | (go_at_call 63; refine (rb_room H7.out L7.out MC.out).mono ?_; rintro e w8 ⟨rfl, h⟩; have H8 := Lib.hid h.ra; clear h H7))
              exact ⟨⟨j + 1, _, _, _, _, iEq (by omega), rfl, H8, by omega⟩, by simp [intOf]; omega⟩
        · have k0b : (F j 0 == 0) = false := by simpa using k0
          have k1b : (F j 0 == 1) = false := by simpa using k1
          clear k0 k1
          by_cases hin : 0 ≤ F j 1 ∧ F j 1 < (n : Int)
          · obtain ⟨i, hi⟩ : ∃ i : Nat, F j 1 = (i : Int) := ⟨(F j 1).toNat, by omega⟩
            have hin2 : (i : Int) < (n : Int) := by omega
            rw [hi] at hc1
            have B := Lib.hid (HR.out.op [.int .i64 (F j 0), .int .i64 (i : Int), .int .i64 (F j 2), .int .i64 (F j 3)])
            have V1 := Lib.hid hi
            rcases s with _ | ⟨z, t⟩
            · exfalso; have := HN.out.1; simp at this; omega
            · have hn0 : 0 < n := by omega
              have hn0i : (0 : Int) < (n : Int) := by omega
              have hil : i < (z :: t).length := by have := HN.out.1; omega
              obtain ⟨y, hy⟩ : ∃ y, (z :: t).getD i 0 = y := ⟨_, rfl⟩
              have HY := Lib.hid hy
              have hi0 : (0 : Int) ≤ (i : Int) := by omega
              clear hin hi hy
              go_wp2_with (first
              | (go_at_call 61; (refine (rb_at' B.out i hil HY.out).mono ?_; rintro e w3 ⟨rfl, h⟩; obtain ⟨ad, rfl, hr⟩ := h.read (by omega); have hr1 := hr i (by omega); rw [HY.out] at hr1; have v1 := (h.cell 1).trans (rfl : _ = some (Value.int .i64 (i : Int))); have H4 := Lib.hid h; clear h hr B))
              | (go_at_call 62; refine (rb_first H4.out).mono ?_; rintro e w7 ⟨rfl, h⟩; have hr8 := h.head (by omega); have hr9 := (congrArg w7.cell? (add_zero ad)).symm.trans hr8; have ln7 := h.nums; have H7 := Lib.hid h; have L7 := Lib.hid ln7.1; clear h ln7 H4)
              | (go_at_call 43; refine (rb_len H7.out L7.out).mono ?_; rintro e wx ⟨rfl, rfl⟩)
              | (go_at_call 63; refine (rb_room H7.out L7.out MC.out).mono ?_; rintro e w8 ⟨rfl, h⟩; have H8 := Lib.hid h.ra; clear h H7))
              exact ⟨⟨j + 1, _, _, _, _, iEq (by omega), rfl, H8, by omega⟩, by simp [intOf]; omega⟩
          · have B := Lib.hid (HR.out.op [.int .i64 (F j 0), .int .i64 (F j 1), .int .i64 (F j 2), .int .i64 (F j 3)])
            have hno : F j 1 < 0 ∨ (s.length : Int) ≤ F j 1 := by have := HN.out.1; omega
            have HNO := Lib.hid hno
            have ways : F j 1 < 0 ∨ (0 ≤ F j 1 ∧ (n : Int) ≤ F j 1) := by omega
            clear hin hno
            rcases s with _ | ⟨z, t⟩
            · obtain rfl : n = 0 := HN.out.1.symm
              rcases ways with ways | ⟨ways, ways2⟩
              all_goals
                go_wp2_with (first
              | (go_at_call 61; refine (rb_at_no B.out _ HNO.out).mono ?_; rintro e w3 ⟨rfl, rfl⟩; have v1 := (B.out.cell 1).trans (rfl : _ = some (Value.int .i64 (F j 1))))
              | (go_at_call 62; refine (rb_first_no B.out).mono ?_; rintro e wx ⟨rfl, rfl⟩)
              | (go_at_call 43; refine (rb_len B.out rfl).mono ?_; rintro e wx ⟨rfl, rfl⟩)
              | (go_at_call 63; refine (rb_room B.out rfl MC.out).mono ?_; rintro e w8 ⟨rfl, h⟩; have H8 := Lib.hid h.ra; clear h B))
                exact ⟨⟨j + 1, _, _, _, _, iEq (by omega), rfl, H8, by omega⟩, by simp [intOf]; omega⟩
            · have hn0 : 0 < n := by have := HN.out.1; simp at this; omega
              have hn0i : (0 : Int) < (n : Int) := by omega
              rcases ways with ways | ⟨ways, ways2⟩
              all_goals
                go_wp2_with (first
              | (go_at_call 61; refine (rb_at_no B.out _ HNO.out).mono ?_; rintro e w3 ⟨rfl, rfl⟩; have v1 := (B.out.cell 1).trans (rfl : _ = some (Value.int .i64 (F j 1))))
              | (go_at_call 62; refine (rb_first B.out).mono ?_; rintro e w7 ⟨rfl, h⟩; obtain ⟨ad7, rfl, hr7⟩ := h.read (by omega); have hr8 : w7.cell? (ad7.add 0) = some (.int .i64 z) := hr7 0 (by omega); have hr9 := (congrArg w7.cell? (add_zero ad7)).symm.trans hr8; have ln7 := h.nums; have H7 := Lib.hid h; have L7 := Lib.hid ln7.1; clear h hr7 ln7 B)
              | (go_at_call 43; refine (rb_len H7.out L7.out).mono ?_; rintro e wx ⟨rfl, rfl⟩)
              | (go_at_call 63; refine (rb_room H7.out L7.out MC.out).mono ?_; rintro e w8 ⟨rfl, h⟩; have H8 := Lib.hid h.ra; clear h H7))
                exact ⟨⟨j + 1, _, _, _, _, iEq (by omega), rfl, H8, by omega⟩, by simp [intOf]; omega⟩
      · go_wp2
        go_ret
        exact ⟨rfl, HR.out.bel⟩
    · go_wp2
      go_ret
      exact ⟨rfl, HR.out.bel⟩
end Go.Proofs.Ytpmamgdblbplcaa.On
