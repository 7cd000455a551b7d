/- HeapSort: the walk. -/
import Derived.Test.YtpmamgdblbplcaaArgs
namespace Go.Proofs.Ytpmamgdblbplcaa.On
open Go.RowKit Go.Proofs.Ytpmamgdblbplcaa.HeapModel Go.Proofs.Ytpmamgdblbplcaa.Bg
set_option linter.unusedVariables false
set_option linter.unusedSimpArgs false
/-- the thing of a place, with its key -/
def itS (zs : List Int) (j : Nat) : It Int := ⟨(j : Int), bits BinOp.and IntKind.i64 (zs[j]?.getD 0) 7, bits BinOp.and IntKind.i64 (zs[j]?.getD 0) 1, (j : Int) + 1⟩
def putS (zs : List Int) (k : Nat) : List (It Int) := (List.range k).map (itS zs)
theorem putS_len (zs : List Int) (k : Nat) : (putS zs k).length = k := by simp [putS]
theorem putS_mem {zs : List Int} {k : Nat} {x : It Int} : x ∈ putS zs k ↔ ∃ j, j < k ∧ x = itS zs j := by
  simp only [putS, List.mem_map, List.mem_range]
  exact ⟨fun ⟨j, h, e⟩ => ⟨j, h, e.symm⟩, fun ⟨j, h, e⟩ => ⟨j, h, e.symm⟩⟩
theorem putS_has (zs : List Int) (k : Nat) : has (putS zs k) (k : Int) = false := by
  rw [Bool.eq_false_iff, ne_eq, has_iff]
  rintro ⟨x, hx, e⟩
  obtain ⟨j, hj, rfl⟩ := putS_mem.1 hx
  simp only [itS] at e
  omega
theorem putS_snoc (zs : List Int) (k : Nat) : putS zs k ++ [itS zs k] = putS zs (k + 1) := by simp [putS, List.range_succ]
theorem fitsN {j : Nat} (h : j ≤ 2000) : Hp.fits (j : Int) := WalkArith.wf_i64 ⟨by omega, by omega⟩
theorem without_lenI {s : List (It Int)} {k : Int} (hk : (s.map (·.v)).Nodup) (h : ∃ x ∈ s, x.v = k) : (without s k).length + 1 = s.length := by
  induction s with
  | nil => obtain ⟨x, hx, _⟩ := h; cases hx
  | cons a t ih =>
    rw [List.map_cons, List.nodup_cons] at hk
    by_cases e : a.v = k
    · have hno : has t k = false := by
        rw [Bool.eq_false_iff, ne_eq, has_iff]
        rintro ⟨x, hx, ex⟩
        exact hk.1 (List.mem_map.2 ⟨x, hx, by rw [ex, e]⟩)
      have e2 : without (a :: t) k = without t k := by unfold without; rw [List.filter_cons, if_neg (by simp [e])]
      rw [e2, without_of_not hno, List.length_cons]
    · have e2 : without (a :: t) k = a :: without t k := by unfold without; rw [List.filter_cons, if_pos (by simp [e])]
      rw [e2, List.length_cons, List.length_cons, ih hk.2]
      obtain ⟨x, hx, ex⟩ := h
      rcases List.mem_cons.1 hx with rfl | hx
      · exact absurd ex e
      · exact ⟨x, hx, ex⟩
section
variable {w0 w : World} {p : Nat} {when : Int} {s : List (It Int)} {zs : List Int} {j n : Nat}
theorem putS_put (h : H1 w0 w p 60 (putS zs j) (j : Int)) (hj : j < 60) :
    Calls Try.prog 25 #[.pointer (some ⟨p, 0, none⟩), .int .i64 (j : Int), .int .i64 (bits BinOp.and IntKind.i64 (zs[j]?.getD 0) 7), .int .i64 (bits BinOp.and IntKind.i64 (zs[j]?.getD 0) 1)] w fun e w' => e = .returned (.bool true) ∧ H1 w0 w' p 60 (putS zs (j + 1)) ((j : Int) + 1) := by
  have := h1_put h (j : Int) (bits BinOp.and IntKind.i64 (zs[j]?.getD 0) 7) (bits BinOp.and IntKind.i64 (zs[j]?.getD 0) 1) (fitsN (by omega)) (by omega) (Or.inr (by rw [putS_len]; omega))
  rw [without_of_not (putS_has zs j)] at this
  have e : putS zs j ++ [(⟨(j : Int), bits BinOp.and IntKind.i64 (zs[j]?.getD 0) 7, bits BinOp.and IntKind.i64 (zs[j]?.getD 0) 1, (j : Int) + 1⟩ : It Int)] = putS zs (j + 1) := putS_snoc zs j
  rw [e] at this
  exact this
/-- what is left: t things are out, the last one out was la -/
def LeftS (zs : List Int) (n : Nat) (s : List (It Int)) (t : Nat) (la : Int) : Prop :=
  s.length + t = n ∧ (∀ x ∈ s, ∃ j, j < n ∧ x = itS zs j) ∧ (la = -1 ∨ ∃ l : Nat, l < n ∧ la = (l : Int) ∧ ∀ x ∈ s, Le (itS zs l) x)
theorem LeftS.start (zs : List Int) (n : Nat) : LeftS zs n (putS zs n) 0 (-1) := ⟨by rw [putS_len]; omega, fun x hx => putS_mem.1 hx, Or.inl rfl⟩
theorem LeftS.next {t : Nat} {la : Int} (h : LeftS zs n s t la) (ht : t < n) (hc : HeapModel.chron s) (hk : Hp.Keys s) : ∃ v : Nat, v < n ∧ least s = some (itS zs v) ∧ LeftS zs n (without s (v : Int)) (t + 1) (v : Int) ∧ (la = -1 ∨ ∃ l : Nat, l < n ∧ la = (l : Int) ∧ Le (itS zs l) (itS zs v)) := by
  obtain ⟨h1, h2, h3⟩ := h
  cases hl : least s with
  | none => rw [least_none] at hl; subst hl; simp at h1; omega
  | some x =>
    obtain ⟨hx, hle⟩ := least_spec hl
    obtain ⟨v, hv, rfl⟩ := h2 x hx
    have hlen : (without s (v : Int)).length + 1 = s.length := without_lenI hk ⟨_, hx, rfl⟩
    refine ⟨v, hv, rfl, ⟨by omega, fun y hy => h2 y (mem_without.1 hy).1, Or.inr ⟨v, hv, rfl, fun y hy => hle y (mem_without.1 hy).1⟩⟩, ?_⟩
    rcases h3 with h3 | ⟨l, hl1, hl2, hl3⟩
    · exact Or.inl h3
    · exact Or.inr ⟨l, hl1, hl2, hl3 _ hx⟩
theorem putS_take {v : Nat} (h : H1 w0 w p 60 s when) (hv : least s = some (itS zs v)) :
    Calls Try.prog 27 #[.pointer (some ⟨p, 0, none⟩)] w fun e w' => e = .returned (.tuple #[.int .i64 (v : Int), .bool true]) ∧ H1 w0 w' p 60 (without s (v : Int)) when := h1_take h hv
theorem leS {l v : Nat} (h : Le (itS zs l) (itS zs v)) :
    (decide (bits BinOp.and IntKind.i64 (zs[v]?.getD 0) 7 < bits BinOp.and IntKind.i64 (zs[l]?.getD 0) 7) = false ∧ (bits BinOp.and IntKind.i64 (zs[l]?.getD 0) 7 == bits BinOp.and IntKind.i64 (zs[v]?.getD 0) 7) = false) ∨
    (decide (bits BinOp.and IntKind.i64 (zs[v]?.getD 0) 7 < bits BinOp.and IntKind.i64 (zs[l]?.getD 0) 7) = false ∧ decide (bits BinOp.and IntKind.i64 (zs[v]?.getD 0) 1 < bits BinOp.and IntKind.i64 (zs[l]?.getD 0) 1) = false ∧ (bits BinOp.and IntKind.i64 (zs[l]?.getD 0) 1 == bits BinOp.and IntKind.i64 (zs[v]?.getD 0) 1) = false) ∨
    (decide (bits BinOp.and IntKind.i64 (zs[v]?.getD 0) 7 < bits BinOp.and IntKind.i64 (zs[l]?.getD 0) 7) = false ∧ decide (bits BinOp.and IntKind.i64 (zs[v]?.getD 0) 1 < bits BinOp.and IntKind.i64 (zs[l]?.getD 0) 1) = false ∧ (l : Int) ≤ (v : Int)) := by
  rw [le_iff] at h
  simp only [itS] at h
  generalize bits BinOp.and IntKind.i64 (zs[v]?.getD 0) 7 = a at *
  generalize bits BinOp.and IntKind.i64 (zs[l]?.getD 0) 7 = b at *
  generalize bits BinOp.and IntKind.i64 (zs[v]?.getD 0) 1 = c at *
  generalize bits BinOp.and IntKind.i64 (zs[l]?.getD 0) 1 = d at *
  simp only [decide_eq_false_iff_not, beq_eq_false_iff_ne, ne_eq]
  omega
end
set_option maxHeartbeats 4000000 in
set_option maxRecDepth 100000 in
theorem heapSort_walk (a : Option Addr) (len cap : Nat) (zs : List Int) (w : World) (hz : IsRow .i64 w a len cap zs) :
    Calls Try.prog 4 #[.slice a len cap] w fun e w' => e = .returned (.bool true) ∧ Below w.heap.size w w' := by
  have hL := hz.len_le
  unfold maxLen at hL
  have HZ := Lib.hid hz
  clear hz
  by_cases hN : (len : Int) ≤ 60
  · go_enter Try.func4, Try.ntmps4
    go_wp2_with (first
      | (go_at_call 22; refine (begun2 _).mono ?_; rintro e w1 ⟨rfl, hb⟩; have HB := Lib.hid hb; clear hb)
      | (go_at_call 23; refine (h1_new HB.out 60 (by omega)).mono ?_; rintro e w2 ⟨p, rfl, h⟩; have B1 : Hid (H1 w w2 p 60 (putS zs 0) 0) := Lib.hid h; clear h HB))
    go_loopw [6] (fun i wr => ∃ j : Nat, i = .int .i64 (j : Int) ∧ Hid (H1 w wr p 60 (putS zs j) (j : Int)) ∧ j ≤ len) (fun i _ => 61 - (intOf i).toNat)
    case atStart => exact ⟨0, rfl, B1, by omega⟩
    case round =>
      clear B1
      obtain ⟨j, rfl, HR, hj⟩ := hrel
      by_cases hlt : (j : Int) < (len : Int)
      · have hjl : (j : Int) < (len : Int) := by omega
        obtain ⟨x, rfl, hc⟩ := HZ.out.at HR.out.bel j (by omega)
        go_wp2
        go_still_tail 12, (by kernel_rfl)
        have HR2 := Lib.hid (HR.out.below ((Below.refl _ _).drew))
        change wpList _ _ _ _ _ wr.drew
        clear HR
        generalize wr.drew = wr2 at HR2 ⊢
        go_wp2_with (go_at_call 25; refine (putS_put HR2.out (by omega)).mono ?_; rintro e w3 ⟨rfl, h⟩; have H := Lib.hid h; clear h)
        exact ⟨⟨j + 1, iEq (by omega), H, by omega⟩, by simp [intOf]; omega⟩
      · have HR0 : Hid (H1 w wr p 60 (putS zs len) ((len : Int))) := by rw [show j = len by omega] at HR; exact HR
        clear HR
        go_wp2
        clear hlt hj
        go_loopw [7, 8] (fun last i wr => ∃ (t : Nat) (la : Int) (s : List (It Int)), last = .int .i64 la ∧ i = .int .i64 (t : Int) ∧ Hid (H1 w wr p 60 s ((len : Int))) ∧ Hid (LeftS zs len s t la) ∧ t ≤ len) (fun _ i _ => 61 - (intOf i).toNat)
        case atStart => exact ⟨0, -1, putS zs len, rfl, rfl, HR0, Lib.hid (LeftS.start zs len), by omega⟩
        case round =>
          clear HR0
          obtain ⟨t, la, s, rfl, rfl, HR, HL, ht⟩ := hrel
          by_cases hlt : (t : Int) < (len : Int)
          · obtain ⟨v, hv, hlv, hn, hla⟩ := HL.out.next (by omega) HR.out.chron HR.out.keys
            have HV := Lib.hid hlv
            have HN := Lib.hid hn
            clear hlv hn
            have hv0 : (0 : Int) ≤ (v : Int) := by omega
            have hv1 : (v : Int) < (len : Int) := by omega
            have hv2 : (v : Int) < (len : Int) := by omega
            rcases hla with rfl | ⟨l, hl, rfl, hle⟩
            · go_wp2_with (go_at_call 27; refine (putS_take HR.out HV.out).mono ?_; rintro e w3 ⟨rfl, h⟩; have H := Lib.hid h; clear h)
              exact ⟨⟨t + 1, (v : Int), _, rfl, iEq (by omega), H, HN, by omega⟩, by simp [intOf]; omega⟩
            · have hl0 : (0 : Int) ≤ (l : Int) := by omega
              have hl2 : (l : Int) < (len : Int) := by omega
              have HLE := Lib.hid (leS hle)
              clear hle
              go_wp2_with (go_at_call 27; refine (putS_take HR.out HV.out).mono ?_; rintro e w3 ⟨rfl, h⟩; have H := Lib.hid h; clear h; obtain ⟨x, rfl, hc1⟩ := HZ.out.at H.out.bel l (by omega); have hc2 := HZ.out.cell H.out.bel v (by omega))
              go_quiet (fail)
              go_wp2
              go_quiet (fail)
              rcases HLE.out with ⟨f1, f2⟩ | ⟨f1, f2, f3⟩ | ⟨f1, f2, f3⟩
              all_goals go_wp2
              all_goals first | omega | exact ⟨⟨t + 1, (v : Int), _, rfl, iEq (by omega), Lib.hid (H.out.below (Hp.below_drewN _ _)), HN, by omega⟩, by simp [intOf]; omega⟩
          · have hs : s.length = 0 := by have := HL.out.1; omega
            obtain rfl : s = [] := List.length_eq_zero_iff.1 hs
            clear hs HL
            go_wp2_with (first
              | (go_at_call 27; refine (h1_take_no HR.out).mono ?_; rintro e w4 ⟨rfl, h⟩; have H := Lib.hid h; clear h)
              | (go_at_call 35; refine (h1_len H.out).mono ?_; rintro e wx ⟨rfl, rfl⟩))
            go_ret
            exact ⟨rfl, H.out.bel⟩
  · go_enter Try.func4, Try.ntmps4
    go_wp2_with (first
      | (go_at_call 22; refine (begun2 _).mono ?_; rintro e w1 ⟨rfl, hb⟩; have HB := Lib.hid hb; clear hb)
      | (go_at_call 23; refine (h1_new HB.out 60 (by omega)).mono ?_; rintro e w2 ⟨p, rfl, h⟩; have B1 : Hid (H1 w w2 p 60 (putS zs 0) 0) := Lib.hid h; clear h HB))
    go_loopw [6] (fun i wr => ∃ j : Nat, i = .int .i64 (j : Int) ∧ Hid (H1 w wr p 60 (putS zs j) (j : Int)) ∧ j ≤ 60) (fun i _ => 61 - (intOf i).toNat)
    case atStart => exact ⟨0, rfl, B1, by omega⟩
    case round =>
      clear B1
      obtain ⟨j, rfl, HR, hj⟩ := hrel
      by_cases hlt : (j : Int) < 60
      · have hjl : (j : Int) < (len : Int) := by omega
        obtain ⟨x, rfl, hc⟩ := HZ.out.at HR.out.bel j (by omega)
        go_wp2
        go_still_tail 12, (by kernel_rfl)
        have HR2 := Lib.hid (HR.out.below ((Below.refl _ _).drew))
        change wpList _ _ _ _ _ wr.drew
        clear HR
        generalize wr.drew = wr2 at HR2 ⊢
        go_wp2_with (go_at_call 25; refine (putS_put HR2.out (by omega)).mono ?_; rintro e w3 ⟨rfl, h⟩; have H := Lib.hid h; clear h)
        exact ⟨⟨j + 1, iEq (by omega), H, by omega⟩, by simp [intOf]; omega⟩
      · have HR0 : Hid (H1 w wr p 60 (putS zs 60) (60)) := by rw [show j = 60 by omega] at HR; exact HR
        clear HR
        go_wp2
        clear hlt hj
        go_loopw [7, 8] (fun last i wr => ∃ (t : Nat) (la : Int) (s : List (It Int)), last = .int .i64 la ∧ i = .int .i64 (t : Int) ∧ Hid (H1 w wr p 60 s (60)) ∧ Hid (LeftS zs 60 s t la) ∧ t ≤ 60) (fun _ i _ => 61 - (intOf i).toNat)
        case atStart => exact ⟨0, -1, putS zs 60, rfl, rfl, HR0, Lib.hid (LeftS.start zs 60), by omega⟩
        case round =>
          clear HR0
          obtain ⟨t, la, s, rfl, rfl, HR, HL, ht⟩ := hrel
          by_cases hlt : (t : Int) < 60
          · obtain ⟨v, hv, hlv, hn, hla⟩ := HL.out.next (by omega) HR.out.chron HR.out.keys
            have HV := Lib.hid hlv
            have HN := Lib.hid hn
            clear hlv hn
            have hv0 : (0 : Int) ≤ (v : Int) := by omega
            have hv1 : (v : Int) < 60 := by omega
            have hv2 : (v : Int) < (len : Int) := by omega
            rcases hla with rfl | ⟨l, hl, rfl, hle⟩
            · go_wp2_with (go_at_call 27; refine (putS_take HR.out HV.out).mono ?_; rintro e w3 ⟨rfl, h⟩; have H := Lib.hid h; clear h)
              exact ⟨⟨t + 1, (v : Int), _, rfl, iEq (by omega), H, HN, by omega⟩, by simp [intOf]; omega⟩
            · have hl0 : (0 : Int) ≤ (l : Int) := by omega
              have hl2 : (l : Int) < (len : Int) := by omega
              have HLE := Lib.hid (leS hle)
              clear hle
              go_wp2_with (go_at_call 27; refine (putS_take HR.out HV.out).mono ?_; rintro e w3 ⟨rfl, h⟩; have H := Lib.hid h; clear h; obtain ⟨x, rfl, hc1⟩ := HZ.out.at H.out.bel l (by omega); have hc2 := HZ.out.cell H.out.bel v (by omega))
              go_quiet (fail)
              go_wp2
              go_quiet (fail)
              rcases HLE.out with ⟨f1, f2⟩ | ⟨f1, f2, f3⟩ | ⟨f1, f2, f3⟩
              all_goals go_wp2
              all_goals first | omega | exact ⟨⟨t + 1, (v : Int), _, rfl, iEq (by omega), Lib.hid (H.out.below (Hp.below_drewN _ _)), HN, by omega⟩, by simp [intOf]; omega⟩
          · have hs : s.length = 0 := by have := HL.out.1; omega
            obtain rfl : s = [] := List.length_eq_zero_iff.1 hs
            clear hs HL
            go_wp2_with (first
              | (go_at_call 27; refine (h1_take_no HR.out).mono ?_; rintro e w4 ⟨rfl, h⟩; have H := Lib.hid h; clear h)
              | (go_at_call 35; refine (h1_len H.out).mono ?_; rintro e wx ⟨rfl, rfl⟩))
            go_ret
            exact ⟨rfl, H.out.bel⟩
end Go.Proofs.Ytpmamgdblbplcaa.On
