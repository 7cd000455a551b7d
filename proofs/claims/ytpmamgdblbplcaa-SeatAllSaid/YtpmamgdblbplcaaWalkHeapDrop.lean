/- HeapDrop: the walk. -/
import Derived.Test.YtpmamgdblbplcaaBand
import Derived.Test.YtpmamgdblbplcaaWalkHeapSort
import Derived.Test.YtpmamgdblbplcaaWalkSeatTurn
namespace Go.Proofs.Ytpmamgdblbplcaa.On
open Go.RowKit Go.Proofs.Ytpmamgdblbplcaa.HeapModel Go.Proofs.Ytpmamgdblbplcaa.Bg
set_option linter.unusedVariables false
set_option linter.unusedSimpArgs false
theorem info4 : (Try.prog.info? 4).map (fun i => (i.zero, i.size, i.bytes)) = some (some (.bool false), 1, 1) := by kernel_rfl

/-- a heap and an array of bools -/
def HD (w0 w : World) (p : Nat) (s : List (It Int)) (when : Int) (G : Nat) (bs : List Bool) : Prop :=
  ∃ F, Hp.HObj w F p 40 s when ∧ (∀ k, F k → w0.heap.size ≤ k) ∧ Below w0.heap.size w0 w ∧ ArrV w G 4 (bs.map Value.bool) ∧ ¬ F G ∧ w0.heap.size ≤ G
section
variable {w0 w : World} {p : Nat} {s : List (It Int)} {when : Int} {G : Nat} {bs : List Bool}
theorem HD.bel (h : HD w0 w p s when G bs) : Below w0.heap.size w0 w := by obtain ⟨F, h1, h2, h3, h4, h5, h6⟩ := h; exact h3
theorem HD.keys (h : HD w0 w p s when G bs) : Hp.Keys s := by obtain ⟨F, h1, h2, h3, h4, h5, h6⟩ := h; exact h1.keys
theorem HD.below {w' : World} (h : HD w0 w p s when G bs) (hb : Below w.heap.size w w') : HD w0 w' p s when G bs := by
  obtain ⟨F, h1, h2, h3, h4, h5, h6⟩ := h
  exact ⟨F, h1.below hb, h2, bel_more h3 hb, h4.below hb, h5, h6⟩
theorem HD.cell (h : HD w0 w p s when G bs) (k : Nat) (hk : k < bs.length) : w.cell? ⟨G, k, none⟩ = some (.bool (bs.getD k false)) := by
  obtain ⟨F, h1, h2, h3, h4, h5, h6⟩ := h
  rw [h4.cell, List.getElem?_map, List.getD_eq_getElem?_getD, List.getElem?_eq_getElem hk]
  rfl
theorem HD.frozen (h : HD w0 w p s when G bs) (k : Nat) : w.frozen? ⟨G, k, none⟩ = false := by
  obtain ⟨F, h1, h2, h3, h4, h5, h6⟩ := h
  exact h4.frozen k
theorem HD.set (h : HD w0 w p s when G bs) (k : Nat) : HD w0 (w.setCell ⟨G, k, none⟩ (.bool true)) p s when G (bs.set k true) := by
  obtain ⟨F, h1, h2, h3, h4, h5, h6⟩ := h
  refine ⟨F, h1.move (fun j hj => Below.heap_setCell _ _ _ _ (fun c => h5 (by have : j = G := c; rw [← this]; exact hj))), h2, h3.setCell h6 _, ?_, h5, h6⟩
  rw [List.map_set]
  exact h4.set k _
theorem hd_new {W : World} {n : Nat} (h : H1 w0 w p 40 [] 0) (r1 : W.ownsRow 0 4 1 (.slice (some ⟨w.heap.size, 0, none⟩) n n) n (madeCells (Value.bool false).cells (n * 1)).toList) (r2 : w.grownBy W none) : HD w0 W p [] 0 w.heap.size (List.replicate n false) := by
  obtain ⟨own, z, F, h1, h2⟩ := h
  have b1 : Below w.heap.size w W := ⟨r2.os, r2.tape, r2.output, r2.size, fun k hk => r2.block k hk (by simp)⟩
  refine ⟨F, h1.below b1, fun k hk => ?_, bel_more z.bel b1, ?_, fun c => absurd (h1.lt c) (Nat.lt_irrefl _), z.bel.size⟩
  · have h3 := h2 k hk
    have : ¬ k < w0.heap.size := fun c => by rw [z.low k c] at h3; cases h3
    omega
  · rw [List.map_replicate]
    exact arr_made rfl r1
theorem hd_put (h : HD w0 w p s when G bs) (k a b : Int) (hk : Hp.fits k) (hw' : when < 4611686018427387904) (hr : has s k = true ∨ (s.length : Int) < 40) :
    Calls Try.prog 25 #[.pointer (some ⟨p, 0, none⟩), .int .i64 k, .int .i64 a, .int .i64 b] w fun e w' => e = .returned (.bool true) ∧ HD w0 w' p (without s k ++ [⟨k, a, b, when + 1⟩]) (when + 1) G bs := by
  obtain ⟨F, h1, h2, h3, h4, h5, h6⟩ := h
  refine (Hp.obj_put h1 k a b hk hw' hr).mono ?_
  rintro e w' ⟨rfl, F', h7, h8, h9⟩
  refine ⟨rfl, F', h7, fun j hj => ?_, bel_touch h3 h2 h8, h4.touch h8 h5, fun c => ?_, h6⟩
  · rcases h9 j hj with c | c
    · exact h2 j c
    · exact Nat.le_trans h3.size c
  · rcases h9 G c with c | c
    · exact h5 c
    · exact absurd h4.lt (by omega)
theorem hd_drop (h : HD w0 w p s when G bs) (k : Int) (hk : Hp.fits k) :
    Calls Try.prog 29 #[.pointer (some ⟨p, 0, none⟩), .int .i64 k] w fun e w' => e = .returned (.bool (has s k)) ∧ HD w0 w' p (without s k) when G bs := by
  obtain ⟨F, h1, h2, h3, h4, h5, h6⟩ := h
  refine (Hp.obj_drop h1 k hk).mono ?_
  rintro e w' ⟨rfl, h7, h8⟩
  exact ⟨rfl, F, h7, h2, bel_touch h3 h2 h8, h4.touch h8 h5, h5, h6⟩
theorem hd_take (h : HD w0 w p s when G bs) {x : It Int} (hx : least s = some x) :
    Calls Try.prog 27 #[.pointer (some ⟨p, 0, none⟩)] w fun e w' => e = .returned (.tuple #[.int .i64 x.v, .bool true]) ∧ HD w0 w' p (without s x.v) when G bs := by
  obtain ⟨F, h1, h2, h3, h4, h5, h6⟩ := h
  refine (Hp.obj_take h1).mono ?_
  rintro e w' ⟨rfl, h7, h8⟩
  rw [hx] at h7
  exact ⟨by unfold Hp.firstV; rw [hx]; rfl, F, h7, h2, bel_touch h3 h2 h8, h4.touch h8 h5, h5, h6⟩
theorem hd_len (h : HD w0 w p s when G bs) : Calls Try.prog 35 #[.pointer (some ⟨p, 0, none⟩)] w fun e w' => e = .returned (.int .i64 s.length) ∧ w' = w := by
  obtain ⟨F, h1, h2, h3, h4, h5, h6⟩ := h
  exact Hp.obj_len h1
end

/-! ### the things, and which are gone -/
def itD (zs : List Int) (j : Nat) : It Int := ⟨(j : Int), bits BinOp.and IntKind.i64 (zs[j]?.getD 0) 31, 0, (j : Int) + 1⟩
def putD (zs : List Int) (k : Nat) : List (It Int) := (List.range k).map (itD zs)
theorem putD_len (zs : List Int) (k : Nat) : (putD zs k).length = k := by simp [putD]
theorem putD_mem {zs : List Int} {k : Nat} {x : It Int} : x ∈ putD zs k ↔ ∃ j, j < k ∧ x = itD zs j := by
  simp only [putD, List.mem_map, List.mem_range]
  exact ⟨fun ⟨j, h, e⟩ => ⟨j, h, e.symm⟩, fun ⟨j, h, e⟩ => ⟨j, h, e.symm⟩⟩
theorem putD_has (zs : List Int) (k i : Nat) : has (putD zs k) (i : Int) = decide (i < k) := by
  rw [Bool.eq_iff_iff, has_iff]
  simp only [decide_eq_true_eq]
  constructor
  · rintro ⟨x, hx, e⟩
    obtain ⟨j, hj, rfl⟩ := putD_mem.1 hx
    simp only [itD] at e
    omega
  · intro h
    exact ⟨_, putD_mem.2 ⟨i, h, rfl⟩, rfl⟩
theorem putD_snoc (zs : List Int) (k : Nat) : putD zs k ++ [itD zs k] = putD zs (k + 1) := by simp [putD, List.range_succ]
section
variable {w0 w : World} {p : Nat} {s : List (It Int)} {when : Int} {G n K j : Nat} {bs : List Bool} {zs : List Int}
theorem putD_put (h : HD w0 w p (putD zs j) (j : Int) G bs) (hj : j < 40) :
    Calls Try.prog 25 #[.pointer (some ⟨p, 0, none⟩), .int .i64 (j : Int), .int .i64 (bits BinOp.and IntKind.i64 (zs[j]?.getD 0) 31), .int .i64 0] w fun e w' => e = .returned (.bool true) ∧ HD w0 w' p (putD zs (j + 1)) ((j : Int) + 1) G bs := by
  have := hd_put h (j : Int) (bits BinOp.and IntKind.i64 (zs[j]?.getD 0) 31) 0 (fitsN (by omega)) (by omega) (Or.inr (by rw [putD_len]; omega))
  rw [without_of_not (by rw [putD_has]; simp)] at this
  have e : putD zs j ++ [(⟨(j : Int), bits BinOp.and IntKind.i64 (zs[j]?.getD 0) 31, 0, (j : Int) + 1⟩ : It Int)] = putD zs (j + 1) := putD_snoc zs j
  rw [e] at this
  exact this
def LeftD (zs : List Int) (n : Nat) (s : List (It Int)) (bs : List Bool) (left : Int) : Prop :=
  bs.length = n ∧ (∀ k, k < n → bs.getD k false = !has s (k : Int)) ∧ (∀ x ∈ s, ∃ j, j < n ∧ x = itD zs j) ∧ (s.length : Int) = left
theorem LeftD.start (zs : List Int) (n : Nat) : LeftD zs n (putD zs n) (List.replicate n false) (n : Int) := by
  refine ⟨List.length_replicate, fun k hk => ?_, fun x hx => putD_mem.1 hx, by rw [putD_len]⟩
  rw [List.getD_eq_getElem?_getD, List.getElem?_replicate, if_pos hk, putD_has]
  simpa using hk
theorem getD_setB (bs : List Bool) (i k : Nat) (x : Bool) (hi : i < bs.length) : (bs.set i x).getD k false = if i = k then x else bs.getD k false := by
  rw [List.getD_eq_getElem?_getD, List.getD_eq_getElem?_getD, List.getElem?_set]
  by_cases h : i = k
  · rw [if_pos h, if_pos hi, if_pos h]; rfl
  · rw [if_neg h, if_neg h]
theorem has_without (s : List (It Int)) (k i : Int) : has (without s k) i = (has s i && !decide (i = k)) := by
  rw [Bool.eq_iff_iff, has_iff]
  simp only [mem_without, Bool.and_eq_true, has_iff, Bool.not_eq_true', decide_eq_false_iff_not]
  constructor
  · rintro ⟨x, ⟨hx, hn⟩, rfl⟩
    exact ⟨⟨x, hx, rfl⟩, hn⟩
  · rintro ⟨⟨x, hx, rfl⟩, hn⟩
    exact ⟨x, ⟨hx, hn⟩, rfl⟩
theorem LeftD.out {left : Int} (h : LeftD zs n s bs left) (hK : K < n) : LeftD zs n (without s (K : Int)) (bs.set K true) ((without s (K : Int)).length : Int) := by
  obtain ⟨h1, h2, h3, h4⟩ := h
  refine ⟨by rw [List.length_set]; exact h1, fun k hk => ?_, fun x hx => h3 x (mem_without.1 hx).1, rfl⟩
  rw [getD_setB _ _ _ _ (by rw [h1]; exact hK), has_without]
  by_cases e : K = k
  · subst e; simp
  · rw [if_neg e, h2 k hk]
    have : decide ((k : Int) = (K : Int)) = false := by simp; omega
    rw [this]; simp
theorem LeftD.yes {left : Int} (h : LeftD zs n s bs left) (hk : Hp.Keys s) (hK : K < n) (hs : has s (K : Int) = true) : bs.getD K false = false ∧ LeftD zs n (without s (K : Int)) (bs.set K true) (left - 1) := by
  have h1 := h.out hK
  have h2 := without_lenI hk (has_iff.1 hs)
  refine ⟨by rw [h.2.1 K hK, hs]; rfl, ?_⟩
  rw [show ((without s (K : Int)).length : Int) = left - 1 by have := h.2.2.2; omega] at h1
  exact h1
theorem LeftD.no {left : Int} (h : LeftD zs n s bs left) (hK : K < n) (hs : has s (K : Int) = false) : bs.getD K false = true ∧ LeftD zs n (without s (K : Int)) (bs.set K true) left := by
  have h1 := h.out hK
  rw [without_of_not hs] at h1 ⊢
  rw [h.2.2.2] at h1
  exact ⟨by rw [h.2.1 K hK, hs]; rfl, h1⟩
theorem LeftD.next {left : Int} (h : LeftD zs n s bs left) (hl : 0 < left) (hk : Hp.Keys s) : ∃ v : Nat, v < n ∧ least s = some (itD zs v) ∧ bs.getD v false = false ∧ LeftD zs n (without s (v : Int)) (bs.set v true) (left - 1) ∧ (∀ x ∈ without s (v : Int), bits BinOp.and IntKind.i64 (zs[v]?.getD 0) 31 ≤ x.a) := by
  cases hx : least s with
  | none => rw [least_none] at hx; subst hx; have := h.2.2.2; simp at this; omega
  | some x =>
    obtain ⟨hx1, hle⟩ := least_spec hx
    obtain ⟨v, hv, rfl⟩ := h.2.2.1 x hx1
    have h1 := h.yes hk hv (has_iff.2 ⟨_, hx1, rfl⟩)
    refine ⟨v, hv, rfl, h1.1, h1.2, fun y hy => ?_⟩
    have h2 := hle y (mem_without.1 hy).1
    rw [le_iff] at h2
    simp only [itD] at h2
    omega
theorem LeftD.low {left : Int} (h : LeftD zs n s bs left) : ∀ x ∈ s, (-1 : Int) ≤ x.a := by
  intro x hx
  obtain ⟨j, hj, rfl⟩ := h.2.2.1 x hx
  have := (band31 (zs[j]?.getD 0)).1
  simp only [itD]
  omega
theorem hd_yes (h : HD w0 w p s when G bs) (hK : K ≤ 2000) (hs : has s (K : Int) = true) :
    Calls Try.prog 29 #[.pointer (some ⟨p, 0, none⟩), .int .i64 (K : Int)] w fun e w' => e = .returned (.bool true) ∧ HD w0 w' p (without s (K : Int)) when G bs := by
  have := hd_drop h (K : Int) (fitsN hK)
  rw [hs] at this
  exact this
theorem hd_no (h : HD w0 w p s when G bs) (hK : K ≤ 2000) (hs : has s (K : Int) = false) :
    Calls Try.prog 29 #[.pointer (some ⟨p, 0, none⟩), .int .i64 (K : Int)] w fun e w' => e = .returned (.bool false) ∧ HD w0 w' p (without s (K : Int)) when G bs := by
  have := hd_drop h (K : Int) (fitsN hK)
  rw [hs] at this
  exact this
theorem putD_take {v : Nat} (h : HD w0 w p s when G bs) (hv : least s = some (itD zs v)) :
    Calls Try.prog 27 #[.pointer (some ⟨p, 0, none⟩)] w fun e w' => e = .returned (.tuple #[.int .i64 (v : Int), .bool true]) ∧ HD w0 w' p (without s (v : Int)) when G bs := hd_take h hv
end
set_option maxHeartbeats 8000000 in
set_option maxRecDepth 100000 in
theorem heapDrop_walk (a : Option Addr) (len cap : Nat) (zs : List Int) (a2 : Option Addr) (len2 cap2 : Nat) (ys : List Int) (w : World) (hz : IsRow .i64 w a len cap zs) (hy : IsRow .i64 w a2 len2 cap2 ys) :
    Calls Try.prog 13 #[.slice a len cap, .slice a2 len2 cap2] w fun e w' => e = .returned (.bool true) ∧ Below w.heap.size w w' := by
  have hL := hz.len_le
  have hL2 := hy.len_le
  unfold maxLen at hL hL2
  have HZ := Lib.hid hz
  have HY := Lib.hid hy
  clear hz hy
  obtain ⟨i0, hi0, hz0, hz1, hz2⟩ := info_parts info4
  have HI := Lib.hid (And.intro hi0 (And.intro hz0 (And.intro hz1 hz2)))
  clear hi0 hz0 hz1 hz2
  by_cases hN : (len : Int) ≤ 40
  · go_enter Try.func13, Try.ntmps13
    go_wp2_with (first
      | (go_at_call 22; refine (begun2 _).mono ?_; rintro e w1 ⟨rfl, hb⟩; have HB := Lib.hid hb; clear hb)
      | (go_at_call 23; refine (h1_new HB.out 40 (by omega)).mono ?_; rintro e w2 ⟨p, rfl, h⟩; obtain ⟨W, hrun, r1, r2⟩ := run_make_full (P := Try.prog) w2 0 81 4 i0 _ 1 Try.underlying81 HI.out.1 HI.out.2.1 HI.out.2.2.1 .i64 .i64 len (by rw [HI.out.2.2.2]; omega) (by unfold maxLen; omega) (Nat.zero_le _); have B1 : Hid (HD w W p (putD zs 0) 0 w2.heap.size (List.replicate len false)) := Lib.hid (hd_new h r1 r2); have hrun2 : (Instr.makeSlice 81 (.int .i64 (len : Int)) (.int .i64 (len : Int))).run Try.prog w2 = .ok (.slice (some ⟨w2.heap.size, 0, none⟩) len len) W := hrun; clear h HB r1 r2 hrun))
    clear hrun2
    generalize w2.heap.size = G at B1 ⊢
    go_loopw [9] (fun i wr => ∃ j : Nat, i = .int .i64 (j : Int) ∧ Hid (HD w wr p (putD zs j) (j : Int) G (List.replicate len false)) ∧ j ≤ len) (fun i _ => 61 - (intOf i).toNat)
    case atStart => exact ⟨0, rfl, B1, by omega⟩
    case round =>
      clear B1
      obtain ⟨j, rfl, HR, hj⟩ := hrel
      by_cases hlt : (j : Int) < (len : Int)
      · have hjl : (j : Int) < (len : Int) := by omega
        obtain ⟨x, rfl, hc⟩ := HZ.out.at HR.out.bel j (by omega)
        go_wp2_with (go_at_call 25; refine (putD_put HR.out (by omega)).mono ?_; rintro e w3 ⟨rfl, h⟩; have H := Lib.hid h; clear h)
        exact ⟨⟨j + 1, iEq (by omega), H, by omega⟩, by simp [intOf]; omega⟩
      · have HR0 : Hid (HD w wr p (putD zs len) (len : Int) G (List.replicate len false)) := by rw [show j = len by omega] at HR; exact HR
        clear HR
        go_wp2
        clear hlt hj
        go_loopw [10, 11] (fun lf i wr => ∃ (t : Nat) (left : Int) (s : List (It Int)) (bs : List Bool), lf = .int .i64 left ∧ i = .int .i64 (t : Int) ∧ Hid (HD w wr p s (len : Int) G bs) ∧ Hid (LeftD zs len s bs left) ∧ 0 ≤ left ∧ left ≤ (len : Int) ∧ t ≤ 30) (fun _ i _ => 61 - (intOf i).toNat)
        case atStart => exact ⟨0, (len : Int), putD zs len, List.replicate len false, rfl, rfl, HR0, Lib.hid (LeftD.start zs len), by omega, by omega, by omega⟩
        case round =>
          clear HR0
          obtain ⟨t, left, s, bs, rfl, rfl, HR, HL, hl0, hl1, ht⟩ := hrel
          by_cases hin : ((t : Int) < (len2 : Int) ∧ (t : Int) < 30) ∧ (0 : Int) < (len : Int)
          · obtain ⟨⟨hin1, hin2⟩, hin3⟩ := hin
            obtain ⟨x, rfl, hc⟩ := HY.out.at HR.out.bel t (by omega)
            obtain ⟨K, hK0, hK2⟩ := tmod_add (z := ys[t]?.getD 0) (N := len) (by omega) (by omega)
            have hK : (wrap64 ((ys[t]?.getD 0).tmod (len : Int) + (len : Int))).tmod (len : Int) = (K : Int) := hK0
            have hK3 : (K : Int) < (len : Int) := by omega
            clear hK0
            cases hs : has s (K : Int) with
            | true =>
              have hy := HL.out.yes HR.out.keys hK2 hs
              have gc := HR.out.cell K (by rw [HL.out.1]; exact hK2)
              rw [hy.1] at gc
              have HS := Lib.hid hs
              have HL2 := Lib.hid hy.2
              have BL := Lib.hid HL.out.1
              have hl2 : (1 : Int) ≤ left := by have := HL.out.2.2.2; have := without_lenI HR.out.keys (has_iff.1 HS.out); omega
              clear hs hy
              go_wp2
              go_region_held3 (fun w' => w'.cell? ⟨G, K, none⟩ = some (.bool false)) (first | exact gc | exact gc2) ((go_at_call 29; refine (hd_yes (HR.out.below ((Below.refl _ _).drew)) (by omega) HS.out).mono ?_; rintro e w4 ⟨rfl, h⟩; have gc2 := h.cell K (by rw [BL.out]; exact hK2); rw [show bs.getD K false = false from (HL.out.yes HR.out.keys hK2 HS.out).1] at gc2; have gf := h.frozen K; have H := Lib.hid h; clear h))
              go_wp2
              all_goals exact ⟨⟨t + 1, left - 1, _, _, rfl, iEq (by omega), Lib.hid (H.out.set K), HL2, by omega, by omega, by omega⟩, by simp [intOf]; omega⟩
            | false =>
              have hy := HL.out.no hK2 hs
              have gc := HR.out.cell K (by rw [HL.out.1]; exact hK2)
              rw [hy.1] at gc
              have HS := Lib.hid hs
              have HL2 := Lib.hid hy.2
              have BL := Lib.hid HL.out.1
              clear hs hy
              go_wp2
              go_region_held3 (fun w' => w'.cell? ⟨G, K, none⟩ = some (.bool true)) (first | exact gc | exact gc2) ((go_at_call 29; refine (hd_no (HR.out.below ((Below.refl _ _).drew)) (by omega) HS.out).mono ?_; rintro e w4 ⟨rfl, h⟩; have gc2 := h.cell K (by rw [BL.out]; exact hK2); rw [show bs.getD K false = true from (HL.out.no hK2 HS.out).1] at gc2; have gf := h.frozen K; have H := Lib.hid h; clear h))
              go_wp2
              all_goals exact ⟨⟨t + 1, left, _, _, rfl, iEq (by omega), Lib.hid (H.out.set K), HL2, by omega, by omega, by omega⟩, by simp [intOf]; omega⟩
          · have hx : (¬ (t : Int) < (len2 : Int)) ∨ ((t : Int) < (len2 : Int) ∧ ¬ (t : Int) < 30) ∨ ((t : Int) < (len2 : Int) ∧ (t : Int) < 30 ∧ ¬ (0 : Int) < (len : Int)) := by omega
            clear hin
            rcases hx with hx | ⟨hx, hx2⟩ | ⟨hx, hx2, hx3⟩
            all_goals
              go_wp2
              go_loopw [10, 13] (fun lf la wr => ∃ (left : Int) (lo : Int) (s : List (It Int)) (bs : List Bool), lf = .int .i64 left ∧ la = .int .i64 lo ∧ Hid (HD w wr p s (len : Int) G bs) ∧ Hid (LeftD zs len s bs left) ∧ 0 ≤ left ∧ left ≤ (len : Int) ∧ Hid (∀ x ∈ s, lo ≤ x.a)) (fun lf _ _ => (intOf lf).toNat)
              case atStart => exact ⟨left, -1, s, bs, rfl, rfl, HR, HL, hl0, hl1, Lib.hid HL.out.low⟩
              case round =>
                clear HR HL hl0 hl1
                obtain ⟨left, lo, s, bs, rfl, rfl, HR, HL, hl0, hl1, HLO⟩ := hrel
                by_cases hpos : 0 < left
                · obtain ⟨v, hv, hlv, hgv, hn, hlo⟩ := HL.out.next hpos HR.out.keys
                  have hla : lo ≤ bits BinOp.and IntKind.i64 (zs[v]?.getD 0) 31 := HLO.out _ (least_spec hlv).1
                  have HV := Lib.hid hlv
                  have HN := Lib.hid hn
                  have HG := Lib.hid hgv
                  have HLO2 := Lib.hid hlo
                  have BL := Lib.hid HL.out.1
                  clear hlv hn hgv hlo
                  have hv0 : (0 : Int) ≤ (v : Int) := by omega
                  have hv1 : (v : Int) < (len : Int) := by omega
                  have hv2 : (v : Int) < (len : Int) := by omega
                  go_wp2_with (go_at_call 27; refine (putD_take HR.out HV.out).mono ?_; rintro e w3 ⟨rfl, h⟩; have gc := h.cell v (by rw [BL.out]; exact hv); rw [HG.out] at gc; have gf := h.frozen v; have H := Lib.hid h; clear h; obtain ⟨x, rfl, hc⟩ := HZ.out.at H.out.bel v (by omega))
                  all_goals exact ⟨⟨left - 1, _, _, _, rfl, rfl, Lib.hid (H.out.set v), HN, by omega, by omega, HLO2⟩, by simp [intOf]; omega⟩
                · have hs : s.length = 0 := by have := HL.out.2.2.2; omega
                  obtain rfl : s = [] := List.length_eq_zero_iff.1 hs
                  clear hs HL HLO
                  go_wp2_with (go_at_call 35; refine (hd_len HR.out).mono ?_; rintro e wx ⟨rfl, rfl⟩)
                  go_ret
                  exact ⟨rfl, HR.out.bel⟩
  · go_enter Try.func13, Try.ntmps13
    go_wp2_with (first
      | (go_at_call 22; refine (begun2 _).mono ?_; rintro e w1 ⟨rfl, hb⟩; have HB := Lib.hid hb; clear hb)
      | (go_at_call 23; refine (h1_new HB.out 40 (by omega)).mono ?_; rintro e w2 ⟨p, rfl, h⟩; obtain ⟨W, hrun, r1, r2⟩ := run_make_full (P := Try.prog) w2 0 81 4 i0 _ 1 Try.underlying81 HI.out.1 HI.out.2.1 HI.out.2.2.1 .i64 .i64 40 (by rw [HI.out.2.2.2]; omega) (by unfold maxLen; omega) (Nat.zero_le _); have B1 : Hid (HD w W p (putD zs 0) 0 w2.heap.size (List.replicate 40 false)) := Lib.hid (hd_new h r1 r2); have hrun2 : (Instr.makeSlice 81 (.int .i64 40) (.int .i64 40)).run Try.prog w2 = .ok (.slice (some ⟨w2.heap.size, 0, none⟩) 40 40) W := hrun; clear h HB r1 r2 hrun))
    clear hrun2
    generalize w2.heap.size = G at B1 ⊢
    go_loopw [9] (fun i wr => ∃ j : Nat, i = .int .i64 (j : Int) ∧ Hid (HD w wr p (putD zs j) (j : Int) G (List.replicate 40 false)) ∧ j ≤ 40) (fun i _ => 61 - (intOf i).toNat)
    case atStart => exact ⟨0, rfl, B1, by omega⟩
    case round =>
      clear B1
      obtain ⟨j, rfl, HR, hj⟩ := hrel
      by_cases hlt : (j : Int) < 40
      · have hjl : (j : Int) < (len : Int) := by omega
        obtain ⟨x, rfl, hc⟩ := HZ.out.at HR.out.bel j (by omega)
        go_wp2_with (go_at_call 25; refine (putD_put HR.out (by omega)).mono ?_; rintro e w3 ⟨rfl, h⟩; have H := Lib.hid h; clear h)
        exact ⟨⟨j + 1, iEq (by omega), H, by omega⟩, by simp [intOf]; omega⟩
      · have HR0 : Hid (HD w wr p (putD zs 40) 40 G (List.replicate 40 false)) := by rw [show j = 40 by omega] at HR; exact HR
        clear HR
        go_wp2
        clear hlt hj
        go_loopw [10, 11] (fun lf i wr => ∃ (t : Nat) (left : Int) (s : List (It Int)) (bs : List Bool), lf = .int .i64 left ∧ i = .int .i64 (t : Int) ∧ Hid (HD w wr p s 40 G bs) ∧ Hid (LeftD zs 40 s bs left) ∧ 0 ≤ left ∧ left ≤ 40 ∧ t ≤ 30) (fun _ i _ => 61 - (intOf i).toNat)
        case atStart => exact ⟨0, 40, putD zs 40, List.replicate 40 false, rfl, rfl, HR0, Lib.hid (LeftD.start zs 40), by omega, by omega, by omega⟩
        case round =>
          clear HR0
          obtain ⟨t, left, s, bs, rfl, rfl, HR, HL, hl0, hl1, ht⟩ := hrel
          by_cases hin : ((t : Int) < (len2 : Int) ∧ (t : Int) < 30) ∧ (0 : Int) < 40
          · obtain ⟨⟨hin1, hin2⟩, hin3⟩ := hin
            obtain ⟨x, rfl, hc⟩ := HY.out.at HR.out.bel t (by omega)
            obtain ⟨K, hK0, hK2⟩ := tmod_add (z := ys[t]?.getD 0) (N := 40) (by omega) (by omega)
            have hK : (wrap64 ((ys[t]?.getD 0).tmod 40 + 40)).tmod 40 = (K : Int) := hK0
            have hK3 : (K : Int) < 40 := by omega
            clear hK0
            cases hs : has s (K : Int) with
            | true =>
              have hy := HL.out.yes HR.out.keys hK2 hs
              have gc := HR.out.cell K (by rw [HL.out.1]; exact hK2)
              rw [hy.1] at gc
              have HS := Lib.hid hs
              have HL2 := Lib.hid hy.2
              have BL := Lib.hid HL.out.1
              have hl2 : (1 : Int) ≤ left := by have := HL.out.2.2.2; have := without_lenI HR.out.keys (has_iff.1 HS.out); omega
              clear hs hy
              go_wp2
              go_region_held3 (fun w' => w'.cell? ⟨G, K, none⟩ = some (.bool false)) (first | exact gc | exact gc2) ((go_at_call 29; refine (hd_yes (HR.out.below ((Below.refl _ _).drew)) (by omega) HS.out).mono ?_; rintro e w4 ⟨rfl, h⟩; have gc2 := h.cell K (by rw [BL.out]; exact hK2); rw [show bs.getD K false = false from (HL.out.yes HR.out.keys hK2 HS.out).1] at gc2; have gf := h.frozen K; have H := Lib.hid h; clear h))
              go_wp2
              all_goals exact ⟨⟨t + 1, left - 1, _, _, rfl, iEq (by omega), Lib.hid (H.out.set K), HL2, by omega, by omega, by omega⟩, by simp [intOf]; omega⟩
            | false =>
              have hy := HL.out.no hK2 hs
              have gc := HR.out.cell K (by rw [HL.out.1]; exact hK2)
              rw [hy.1] at gc
              have HS := Lib.hid hs
              have HL2 := Lib.hid hy.2
              have BL := Lib.hid HL.out.1
              clear hs hy
              go_wp2
              go_region_held3 (fun w' => w'.cell? ⟨G, K, none⟩ = some (.bool true)) (first | exact gc | exact gc2) ((go_at_call 29; refine (hd_no (HR.out.below ((Below.refl _ _).drew)) (by omega) HS.out).mono ?_; rintro e w4 ⟨rfl, h⟩; have gc2 := h.cell K (by rw [BL.out]; exact hK2); rw [show bs.getD K false = true from (HL.out.no hK2 HS.out).1] at gc2; have gf := h.frozen K; have H := Lib.hid h; clear h))
              go_wp2
              all_goals exact ⟨⟨t + 1, left, _, _, rfl, iEq (by omega), Lib.hid (H.out.set K), HL2, by omega, by omega, by omega⟩, by simp [intOf]; omega⟩
          · have hx : (¬ (t : Int) < (len2 : Int)) ∨ ((t : Int) < (len2 : Int) ∧ ¬ (t : Int) < 30) ∨ ((t : Int) < (len2 : Int) ∧ (t : Int) < 30 ∧ ¬ (0 : Int) < 40) := by omega
            clear hin
            rcases hx with hx | ⟨hx, hx2⟩ | ⟨hx, hx2, hx3⟩
            all_goals
              go_wp2
              go_loopw [10, 13] (fun lf la wr => ∃ (left : Int) (lo : Int) (s : List (It Int)) (bs : List Bool), lf = .int .i64 left ∧ la = .int .i64 lo ∧ Hid (HD w wr p s 40 G bs) ∧ Hid (LeftD zs 40 s bs left) ∧ 0 ≤ left ∧ left ≤ 40 ∧ Hid (∀ x ∈ s, lo ≤ x.a)) (fun lf _ _ => (intOf lf).toNat)
              case atStart => exact ⟨left, -1, s, bs, rfl, rfl, HR, HL, hl0, hl1, Lib.hid HL.out.low⟩
              case round =>
                clear HR HL hl0 hl1
                obtain ⟨left, lo, s, bs, rfl, rfl, HR, HL, hl0, hl1, HLO⟩ := hrel
                by_cases hpos : 0 < left
                · obtain ⟨v, hv, hlv, hgv, hn, hlo⟩ := HL.out.next hpos HR.out.keys
                  have hla : lo ≤ bits BinOp.and IntKind.i64 (zs[v]?.getD 0) 31 := HLO.out _ (least_spec hlv).1
                  have HV := Lib.hid hlv
                  have HN := Lib.hid hn
                  have HG := Lib.hid hgv
                  have HLO2 := Lib.hid hlo
                  have BL := Lib.hid HL.out.1
                  clear hlv hn hgv hlo
                  have hv0 : (0 : Int) ≤ (v : Int) := by omega
                  have hv1 : (v : Int) < 40 := by omega
                  have hv2 : (v : Int) < (len : Int) := by omega
                  go_wp2_with (go_at_call 27; refine (putD_take HR.out HV.out).mono ?_; rintro e w3 ⟨rfl, h⟩; have gc := h.cell v (by rw [BL.out]; exact hv); rw [HG.out] at gc; have gf := h.frozen v; have H := Lib.hid h; clear h; obtain ⟨x, rfl, hc⟩ := HZ.out.at H.out.bel v (by omega))
                  all_goals exact ⟨⟨left - 1, _, _, _, rfl, rfl, Lib.hid (H.out.set v), HN, by omega, by omega, HLO2⟩, by simp [intOf]; omega⟩
                · have hs : s.length = 0 := by have := HL.out.2.2.2; omega
                  obtain rfl : s = [] := List.length_eq_zero_iff.1 hs
                  clear hs HL HLO
                  go_wp2_with (go_at_call 35; refine (hd_len HR.out).mono ?_; rintro e wx ⟨rfl, rfl⟩)
                  go_ret
                  exact ⟨rfl, HR.out.bel⟩
end Go.Proofs.Ytpmamgdblbplcaa.On
