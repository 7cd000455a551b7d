/- LineOrder: the walk. -/
import Derived.Test.YtpmamgdblbplcaaBand
import Derived.Test.YtpmamgdblbplcaaWalkHeapSort
namespace Go.Proofs.Ytpmamgdblbplcaa.On
open Go.RowKit Go.Proofs.Ytpmamgdblbplcaa.HeapModel Go.Proofs.Ytpmamgdblbplcaa.Bg
set_option linter.unusedVariables false
set_option linter.unusedSimpArgs false

/-! ### a line of numbers -/
def LI1 (w0 w : World) (q : Nat) (room : Int) (s : List (It Int)) (when : Int) : Prop := ∃ F, Ln.LObj w F q room s when ∧ (∀ k, F k → w0.heap.size ≤ k) ∧ Below w0.heap.size w0 w
/-- a row of numbers that lies by itself -/
def RowI (w : World) (v : Value) (l : List Int) : Prop := ∃ base, w.ownsRow base 3 1 v l.length (l.map (Value.int .i64))
section
variable {w0 w : World} {q : Nat} {room : Int} {s : List (It Int)} {when : Int}
theorem RowI.below {w' : World} {v : Value} {l : List Int} (h : RowI w v l) (hb : Below w.heap.size w w') : RowI w' v l := by
  obtain ⟨base, h1⟩ := h
  refine ⟨base, h1.1, ?_⟩
  rcases h1.2 with c | ⟨g, cap, cur, h3, h4, h5, h6⟩
  · exact Or.inl c
  · exact Or.inr ⟨g, cap, cur, h3, h4, (hb.block g (Array.getElem?_eq_some_iff.1 h5).1).trans h5, h6⟩
theorem RowI.open {v : Value} {l : List Int} (h : RowI w v l) : ∃ A c, v = .slice A l.length c ∧ l.length ≤ c ∧ c ≤ maxLen ∧ ∀ k, k < l.length → ∃ x, A = some x ∧ w.cell? (x.add k) = some (.int .i64 (l.getD k 0)) := by
  obtain ⟨base, h1⟩ := h
  rcases h1.2 with ⟨c, c2⟩ | ⟨g, cap, cur, h3, h4, h5, h6, h7, h8, h9⟩
  · exact ⟨none, 0, by rw [c, c2], by omega, by unfold maxLen; omega, fun k hk => by omega⟩
  · refine ⟨_, cap, h3, h6, h7, fun k hk => ⟨_, rfl, ?_⟩⟩
    have e1 : (cur.toList.take (l.length * 1))[k]? = some (.int .i64 (l.getD k 0)) := by
      rw [h9, List.getElem?_map, List.getD_eq_getElem?_getD, List.getElem?_eq_getElem hk]
      rfl
    rw [Nat.mul_one, List.getElem?_take, if_pos hk] at e1
    have e2 : Addr.add (⟨g, 0, none⟩ : Addr) k = ⟨g, k, none⟩ := by simp [Addr.add]; omega
    rw [e2, Hp.blk_cell h5]
    simpa using e1
theorem RowI.cell {x : Addr} {n c : Nat} {l : List Int} (h : RowI w (.slice (some x) n c) l) (k : Nat) (hk : k < l.length) : w.cell? (x.add k) = some (.int .i64 (l.getD k 0)) := by
  obtain ⟨A, c', e, h2, h3, h4⟩ := h.open
  obtain ⟨y, hy, hc⟩ := h4 k hk
  cases e
  cases hy
  exact hc
theorem LI1.bel (h : LI1 w0 w q room s when) : Below w0.heap.size w0 w := by obtain ⟨F, h1, h2, h3⟩ := h; exact h3
theorem LI1.keys (h : LI1 w0 w q room s when) : Hp.Keys s := by obtain ⟨F, h1, h2, h3⟩ := h; exact h1.keys
theorem LI1.below {w' : World} (h : LI1 w0 w q room s when) (hb : Below w.heap.size w w') : LI1 w0 w' q room s when := by
  obtain ⟨F, h1, h2, h3⟩ := h
  exact ⟨F, h1.below hb, h2, bel_more h3 hb⟩
theorem li1_new (hb : Below w0.heap.size w0 w) (room : Int) (hr : -9223372036854775808 ≤ room ∧ room ≤ 9223372036854775807) :
    Calls Try.prog 64 #[.int .i64 room] w fun e w' => ∃ q, e = .returned (.pointer (some ⟨q, 0, none⟩)) ∧ LI1 w0 w' q (min (max room 0) 1000) [] 0 := by
  refine (Ln.obj_new room w hr).mono ?_
  rintro e w' ⟨F, q, rfl, h1, h2, h3⟩
  exact ⟨q, rfl, F, h1, fun k hk => Nat.le_trans hb.size (h2 k hk), bel_more hb h3⟩
theorem li1_put (h : LI1 w0 w q room s when) (k a : Int) (hk : Hp.fits k) (hw' : when < 4611686018427387904) (hr : has s k = true ∨ (s.length : Int) < room) :
    Calls Try.prog 65 #[.pointer (some ⟨q, 0, none⟩), .int .i64 k, .int .i64 a] w fun e w' => e = .returned (.bool true) ∧ LI1 w0 w' q room (without s k ++ [⟨k, a, 0, when + 1⟩]) (when + 1) := by
  obtain ⟨F, h1, h2, h3⟩ := h
  refine (Ln.obj_put h1 k a hk hw' hr).mono ?_
  rintro e w' ⟨rfl, F', h4, h5, h6⟩
  refine ⟨rfl, F', h4, fun k hk => ?_, bel_touch h3 h2 h5⟩
  rcases h6 k hk with c | c
  · exact h2 k c
  · exact Nat.le_trans h3.size c
theorem li1_len (h : LI1 w0 w q room s when) : Calls Try.prog 67 #[.pointer (some ⟨q, 0, none⟩)] w fun e w' => e = .returned (.int .i64 s.length) ∧ w' = w := by
  obtain ⟨F, h1, h2, h3⟩ := h
  exact Ln.obj_len h1
theorem li1_due (h : LI1 w0 w q room s when) (now : Int) : Calls Try.prog 66 #[.pointer (some ⟨q, 0, none⟩), .int .i64 now] w fun e w' => ∃ v, e = .returned v ∧ RowI w' v (dueM s now).1 ∧ LI1 w0 w' q room (dueM s now).2 when := by
  obtain ⟨F, h1, h2, h3⟩ := h
  refine (Ln.obj_due h1 now).mono ?_
  rintro e w' ⟨v, rfl, h4, h5, h6⟩
  exact ⟨v, rfl, ⟨_, h4⟩, F, h5, h2, bel_touch h3 h2 h6⟩
end

/-! ### what Due takes, in its order -/
structure DueP (s : List (It Int)) (now : Int) (D s' : List (It Int)) : Prop where
  eq : dueM s now = (D.map (·.v), s')
  mem : ∀ x ∈ D, x ∈ s ∧ x.a ≤ now
  ord : D.Pairwise Le
  before : ∀ x ∈ D, ∀ y ∈ s', Le x y
  left : ∀ y ∈ s', y ∈ s ∧ ¬ y.a ≤ now
  len : D.length + s'.length = s.length
theorem dueP (n : Nat) : ∀ (s : List (It Int)) (now : Int), (s.map (·.v)).Nodup → s.length = n → ∃ D s', DueP s now D s' := by
  induction n with
  | zero =>
    intro s now hk hn
    obtain rfl : s = [] := List.length_eq_zero_iff.1 hn
    exact ⟨[], [], dueM_stop (fun x hx => by cases hx), (fun x hx => by cases hx), List.Pairwise.nil, (fun x hx => by cases hx), (fun x hx => by cases hx), rfl⟩
  | succ n ih =>
    intro s now hk hn
    cases hl : least s with
    | none => rw [least_none] at hl; subst hl; cases hn
    | some x =>
      obtain ⟨hx, hle⟩ := least_spec hl
      by_cases ha : x.a ≤ now
      · have hlen := without_lenI hk ⟨x, hx, rfl⟩
        obtain ⟨D, s', h⟩ := ih (without s x.v) now ((List.filter_sublist.map _).nodup hk) (by omega)
        refine ⟨x :: D, s', by rw [dueM_step hl ha, h.eq]; rfl, fun y hy => ?_, List.pairwise_cons.2 ⟨fun y hy => hle y (mem_without.1 (h.mem y hy).1).1, h.ord⟩, fun y hy z hz => ?_, fun y hy => ⟨(mem_without.1 (h.left y hy).1).1, (h.left y hy).2⟩, by have := h.len; simp; omega⟩
        · rcases List.mem_cons.1 hy with rfl | hy
          · exact ⟨hx, ha⟩
          · exact ⟨(mem_without.1 (h.mem y hy).1).1, (h.mem y hy).2⟩
        · rcases List.mem_cons.1 hy with rfl | hy
          · exact hle z (mem_without.1 (h.left z hz).1).1
          · exact h.before y hy z hz
      · have hall : ∀ y ∈ s, ¬ y.a ≤ now := fun y hy => by
          have := hle y hy
          rw [le_iff] at this
          omega
        exact ⟨[], s, dueM_stop (fun y hy => by rw [hl] at hy; injection hy with hy; subst hy; exact ha), (fun x hx => by cases hx), List.Pairwise.nil, (fun x hx => by cases hx), fun y hy => ⟨hy, hall y hy⟩, by simp⟩

/-! ### the things -/
def itL (zs : List Int) (j : Nat) : It Int := ⟨(j : Int), bits BinOp.and IntKind.i64 (zs[j]?.getD 0) 127, 0, (j : Int) + 1⟩
def putL (zs : List Int) (k : Nat) : List (It Int) := (List.range k).map (itL zs)
theorem putL_len (zs : List Int) (k : Nat) : (putL zs k).length = k := by simp [putL]
theorem putL_mem {zs : List Int} {k : Nat} {x : It Int} : x ∈ putL zs k ↔ ∃ j, j < k ∧ x = itL zs j := by
  simp only [putL, List.mem_map, List.mem_range]
  exact ⟨fun ⟨j, h, e⟩ => ⟨j, h, e.symm⟩, fun ⟨j, h, e⟩ => ⟨j, h, e.symm⟩⟩
theorem putL_has (zs : List Int) (k : Nat) : has (putL zs k) (k : Int) = false := by
  rw [Bool.eq_false_iff, ne_eq, has_iff]
  rintro ⟨x, hx, e⟩
  obtain ⟨j, hj, rfl⟩ := putL_mem.1 hx
  simp only [itL] at e
  omega
theorem putL_snoc (zs : List Int) (k : Nat) : putL zs k ++ [itL zs k] = putL zs (k + 1) := by simp [putL, List.range_succ]
section
variable {w0 w : World} {q : Nat} {when : Int} {s s' D : List (It Int)} {zs : List Int} {j n k : Nat} {la now : Int}
theorem putL_put (h : LI1 w0 w q 60 (putL zs j) (j : Int)) (hj : j < 60) :
    Calls Try.prog 65 #[.pointer (some ⟨q, 0, none⟩), .int .i64 (j : Int), .int .i64 (bits BinOp.and IntKind.i64 (zs[j]?.getD 0) 127)] w fun e w' => e = .returned (.bool true) ∧ LI1 w0 w' q 60 (putL zs (j + 1)) ((j : Int) + 1) := by
  have := li1_put h (j : Int) (bits BinOp.and IntKind.i64 (zs[j]?.getD 0) 127) (fitsN (by omega)) (by omega) (Or.inr (by rw [putL_len]; omega))
  rw [without_of_not (putL_has zs j)] at this
  have e : putL zs j ++ [(⟨(j : Int), bits BinOp.and IntKind.i64 (zs[j]?.getD 0) 127, 0, (j : Int) + 1⟩ : It Int)] = putL zs (j + 1) := putL_snoc zs j
  rw [e] at this
  exact this
/-- what is left in the line; the last one out was la -/
def LeftL (zs : List Int) (n : Nat) (s : List (It Int)) (c : Nat) (la : Int) : Prop :=
  s.length + c = n ∧ (∀ x ∈ s, ∃ j, j < n ∧ x = itL zs j) ∧ (la = -1 ∨ ∃ l : Nat, l < n ∧ la = (l : Int) ∧ ∀ x ∈ s, Le (itL zs l) x)
theorem LeftL.start (zs : List Int) (n : Nat) : LeftL zs n (putL zs n) 0 (-1) := ⟨by rw [putL_len]; omega, fun x hx => putL_mem.1 hx, Or.inl rfl⟩
/-- of the row that is due k are seen -/
def SeenL (zs : List Int) (n : Nat) (D s' : List (It Int)) (k : Nat) (la : Int) : Prop :=
  (∀ i, i < D.length → ∃ j, j < n ∧ D[i]? = some (itL zs j)) ∧ (la = -1 ∨ ∃ l : Nat, l < n ∧ la = (l : Int) ∧ (∀ i x, k ≤ i → D[i]? = some x → Le (itL zs l) x) ∧ ∀ y ∈ s', Le (itL zs l) y)
theorem SeenL.start {c : Nat} (h : LeftL zs n s c la) (hD : DueP s now D s') : SeenL zs n D s' 0 la := by
  refine ⟨fun i hi => ?_, ?_⟩
  · obtain ⟨j, hj, e⟩ := h.2.1 _ (hD.mem _ (List.getElem_mem hi)).1
    exact ⟨j, hj, by rw [List.getElem?_eq_getElem hi, e]⟩
  · rcases h.2.2 with c | ⟨l, hl, e, hle⟩
    · exact Or.inl c
    · exact Or.inr ⟨l, hl, e, fun i x _ hx => hle x (hD.mem x (List.mem_of_getElem? hx)).1, fun y hy => hle y (hD.left y hy).1⟩
theorem SeenL.next (h : SeenL zs n D s' k la) (hD : DueP s now D s') (hk : k < D.length) : ∃ v : Nat, v < n ∧ (D.map (·.v)).getD k 0 = (v : Int) ∧ bits BinOp.and IntKind.i64 (zs[v]?.getD 0) 127 ≤ now ∧ SeenL zs n D s' (k + 1) (v : Int) ∧ (la = -1 ∨ ∃ l : Nat, l < n ∧ la = (l : Int) ∧ Le (itL zs l) (itL zs v)) := by
  obtain ⟨v, hv, e⟩ := h.1 k hk
  have e2 : D[k] = itL zs v := by rw [List.getElem?_eq_getElem hk] at e; injection e
  have hm : itL zs v ∈ D := List.mem_of_getElem? e
  refine ⟨v, hv, ?_, (hD.mem _ hm).2, ⟨h.1, Or.inr ⟨v, hv, rfl, fun i x hi hx => ?_, fun y hy => hD.before _ hm y hy⟩⟩, ?_⟩
  · rw [List.getD_eq_getElem?_getD, List.getElem?_map, e]; rfl
  · have hi2 : i < D.length := (List.getElem?_eq_some_iff.1 hx).1
    have := List.pairwise_iff_getElem.1 hD.ord k i hk hi2 (by omega)
    rw [e2] at this
    rw [List.getElem?_eq_getElem hi2] at hx
    injection hx with hx
    rw [hx] at this
    exact this
  · rcases h.2 with c | ⟨l, hl, el, h1, _⟩
    · exact Or.inl c
    · exact Or.inr ⟨l, hl, el, h1 k _ (Nat.le_refl _) e⟩
theorem SeenL.done {c : Nat} {la0 : Int} (h : SeenL zs n D s' D.length la) (hL : LeftL zs n s c la0) (hD : DueP s now D s') : LeftL zs n s' (c + D.length) la := by
  refine ⟨by have := hD.len; have := hL.1; omega, fun x hx => hL.2.1 x (hD.left x hx).1, ?_⟩
  rcases h.2 with c | ⟨l, hl, e, _, h2⟩
  · exact Or.inl c
  · exact Or.inr ⟨l, hl, e, h2⟩
theorem LeftL.none {c : Nat} (h : LeftL zs n s' c la) (hs : ∀ y ∈ s', ¬ y.a ≤ 200) : s' = [] := by
  cases s' with
  | nil => rfl
  | cons y t =>
    obtain ⟨j, hj, rfl⟩ := h.2.1 y (by simp)
    have h1 := hs _ (List.mem_cons_self)
    have h2 := (band127 (zs[j]?.getD 0)).2
    simp only [itL] at h1
    omega
theorem leL {l v : Nat} (h : Le (itL zs l) (itL zs v)) :
    (decide (bits BinOp.and IntKind.i64 (zs[v]?.getD 0) 127 < bits BinOp.and IntKind.i64 (zs[l]?.getD 0) 127) = false ∧ (bits BinOp.and IntKind.i64 (zs[l]?.getD 0) 127 == bits BinOp.and IntKind.i64 (zs[v]?.getD 0) 127) = false) ∨
    (decide (bits BinOp.and IntKind.i64 (zs[v]?.getD 0) 127 < bits BinOp.and IntKind.i64 (zs[l]?.getD 0) 127) = false ∧ (bits BinOp.and IntKind.i64 (zs[l]?.getD 0) 127 == bits BinOp.and IntKind.i64 (zs[v]?.getD 0) 127) = true ∧ (l : Int) ≤ (v : Int)) := by
  rw [le_iff] at h
  simp only [itL, Int.lt_irrefl, true_and, false_or] at h
  generalize bits BinOp.and IntKind.i64 (zs[v]?.getD 0) 127 = a at *
  generalize bits BinOp.and IntKind.i64 (zs[l]?.getD 0) 127 = b at *
  simp only [decide_eq_false_iff_not, beq_eq_false_iff_ne, ne_eq, beq_iff_eq]
  omega
theorem li1_dueP (h : LI1 w0 w q 60 s when) (now : Int) : Calls Try.prog 66 #[.pointer (some ⟨q, 0, none⟩), .int .i64 now] w fun e w' => ∃ D s' A c, e = .returned (.slice A D.length c) ∧ DueP s now D s' ∧ RowI w' (.slice A D.length c) (D.map (·.v)) ∧ LI1 w0 w' q 60 s' when := by
  obtain ⟨D, s', hD⟩ := dueP _ s now h.keys rfl
  have := li1_due h now
  rw [hD.eq] at this
  refine this.mono ?_
  rintro e w' ⟨v, rfl, h1, h2⟩
  obtain ⟨A, c, e, _, _, _⟩ := h1.open
  rw [List.length_map] at e
  subst e
  exact ⟨D, s', A, c, rfl, hD, h1, h2⟩
end
set_option maxHeartbeats 20000000 in
set_option maxRecDepth 100000 in
theorem lineOrder_walk (a : Option Addr) (len cap : Nat) (zs : List Int) (a2 : Option Addr) (len2 cap2 : Nat) (ys : List Int) (w : World) (hz : IsRow .i64 w a len cap zs) (hy : IsRow .i64 w a2 len2 cap2 ys) :
    Calls Try.prog 15 #[.slice a len cap, .slice a2 len2 cap2] w fun e w' => e = .returned (.bool true) ∧ Below w.heap.size w w' := by
  have hL := hz.len_le
  have hL2 := hy.len_le
  unfold maxLen at hL hL2
  have HZ := Lib.hid hz
  have HY := Lib.hid hy
  clear hz hy
  by_cases hN : (len : Int) ≤ 50
  · go_enter Try.func15, Try.ntmps15
    go_wp2_with (first
      | (go_at_call 22; refine (begun2 _).mono ?_; rintro e w1 ⟨rfl, hb⟩; have HB := Lib.hid hb; clear hb)
      | (go_at_call 64; refine (li1_new HB.out 60 (by omega)).mono ?_; rintro e w2 ⟨q, rfl, h⟩; have B1 : Hid (LI1 w w2 q 60 (putL zs 0) 0) := Lib.hid h; clear h HB))
    go_loopw [8] (fun i wr => ∃ j : Nat, i = .int .i64 (j : Int) ∧ Hid (LI1 w wr q 60 (putL zs j) (j : Int)) ∧ j ≤ len) (fun i _ => 61 - (intOf i).toNat)
    case atStart => exact ⟨0, rfl, B1, by omega⟩
    case round =>
      clear B1
      obtain ⟨j, rfl, HR, hj⟩ := hrel
      by_cases hlt : (j : Int) < (len : Int)
      · have hjl : (j : Int) < (len : Int) := by omega
        obtain ⟨x, rfl, hc⟩ := HZ.out.at HR.out.bel j (by omega)
        go_wp2_with (go_at_call 65; refine (putL_put HR.out (by omega)).mono ?_; rintro e w3 ⟨rfl, h⟩; have H := Lib.hid h; clear h)
        exact ⟨⟨j + 1, iEq (by omega), H, by omega⟩, by simp [intOf]; omega⟩
      · have HR0 : Hid (LI1 w wr q 60 (putL zs len) (len : Int)) := by rw [show j = len by omega] at HR; exact HR
        clear HR
        go_wp2
        clear hlt hj
        go_loopw [9, 10, 11, 12] (fun nw lst cnt i wr => ∃ (t c : Nat) (now la : Int) (s : List (It Int)), nw = .int .i64 now ∧ lst = .int .i64 la ∧ cnt = .int .i64 (c : Int) ∧ i = .int .i64 (t : Int) ∧ Hid (LI1 w wr q 60 s (len : Int)) ∧ Hid (LeftL zs len s c la) ∧ Hid (0 ≤ now ∧ ((t ≤ len2 ∧ t ≤ 19 ∧ now ≤ 15 * (t : Int)) ∨ (s = [] ∧ (t = len2 + 1 ∨ t = 20)))) ∧ t ≤ 20) (fun _ _ _ i _ => 61 - (intOf i).toNat)
        case atStart => exact ⟨0, 0, 0, -1, putL zs len, rfl, rfl, rfl, rfl, HR0, Lib.hid (LeftL.start zs len), Lib.hid ⟨by omega, Or.inl (by omega)⟩, by omega⟩
        case round =>
          clear HR0
          obtain ⟨t, c, now, la, s, rfl, rfl, rfl, rfl, HR, HL, HT, ht⟩ := hrel
          have hc0 : c ≤ len := by have := HL.out.1; omega
          by_cases hin : (t : Int) ≤ (len2 : Int) ∧ (t : Int) < 20
          · obtain ⟨hin1, hin2⟩ := hin
            have hnow : 0 ≤ now := HT.out.1
            by_cases hst : (t : Int) < (len2 : Int) ∧ (t : Int) < 19
            · obtain ⟨hst1, hst2⟩ := hst
              have hnow2 : now ≤ 300 := by rcases HT.out.2 with c | c <;> omega
              obtain ⟨x, rfl, hc⟩ := HY.out.at HR.out.bel t (by omega)
              have hb := band15 (ys[t]?.getD 0)
              have hnow3 : now ≤ 15 * (t : Int) := by rcases HT.out.2 with c | c <;> omega
              go_wp2_with (go_at_call 66; refine (li1_dueP HR.out _).mono ?_; rintro e w3 ⟨D, s', A, cp, rfl, hd, hr, h⟩; have H := Lib.hid h; have R := Lib.hid hr; have HD := Lib.hid hd; clear h hr hd)
              have hD0 : D.length ≤ 60 := by have := HD.out.len; have := HL.out.1; omega
              go_loopw [10, 11, 14] (fun lst cnt kk wr => ∃ (k : Nat) (la : Int), lst = .int .i64 la ∧ cnt = .int .i64 ((c : Int) + (k : Int)) ∧ kk = .int .i64 (k : Int) ∧ Hid (LI1 w wr q 60 s' (len : Int)) ∧ Hid (RowI wr (.slice A D.length cp) (D.map (·.v))) ∧ Hid (SeenL zs len D s' k la) ∧ k ≤ D.length) (fun _ _ kk _ => 61 - (intOf kk).toNat)
              case atStart => exact ⟨0, la, rfl, iEq (by omega), rfl, H, R, Lib.hid (SeenL.start HL.out HD.out), by omega⟩
              case round =>
                clear H R
                obtain ⟨k, la, rfl, rfl, rfl, HR2, R2, HS, hk⟩ := hrel
                by_cases hkl : (k : Int) < (D.length : Int)
                · obtain ⟨v, hv, ev, hnow, hn2, hla⟩ := HS.out.next HD.out (by omega)
                  obtain ⟨A', c', eA, hcap1, hcap2, hcells⟩ := R2.out.open
                  obtain ⟨x, hx, hc⟩ := hcells k (by rw [List.length_map]; omega)
                  rw [ev] at hc
                  simp only [Value.slice.injEq] at eA
                  obtain ⟨rfl, -, rfl⟩ := eA
                  subst hx
                  rw [List.length_map] at hcap1
                  unfold maxLen at hcap2
                  have HN := Lib.hid hn2
                  have HR2' := Lib.hid HR2.out.bel
                  clear hn2 ev hcells
                  have hv0 : (0 : Int) ≤ (v : Int) := by omega
                  have hv1 : (v : Int) < (len : Int) := by omega
                  have hv2 : (v : Int) < (len : Int) := by omega
                  have g1 : decide ((v : Int) < 0) = false := by simp
                  have g2 : decide ((len : Int) ≤ (v : Int)) = false := by simp; omega
                  have g2' : decide (len ≤ v) = false := by simp; omega
                  have g3 : decide (now + bits BinOp.and IntKind.i64 (ys[t]?.getD 0) 15 < bits BinOp.and IntKind.i64 (zs[v]?.getD 0) 127) = false := by simp; exact hnow
                  obtain ⟨y, rfl, hcv⟩ := HZ.out.at HR2'.out v (by omega)
                  rcases hla with rfl | ⟨l, hl, rfl, hle⟩
                  · go_wp2
                    go_quiet (fail)
                    go_wp2
                    all_goals exact ⟨⟨k + 1, (v : Int), rfl, iEq (by omega), iEq (by omega), Lib.hid (HR2.out.below (Hp.below_drewN _ _)), Lib.hid (R2.out.below (Hp.below_drewN _ _)), HN, by omega⟩, by simp [intOf]; omega⟩
                  · have hl0 : (0 : Int) ≤ (l : Int) := by omega
                    have hl2 : (l : Int) < (len : Int) := by omega
                    have hcl := HZ.out.cell HR2'.out l (by omega)
                    have HLE := Lib.hid (leL hle)
                    clear hle
                    have g4 : decide ((0 : Int) ≤ (l : Int)) = true := by simp
                    have LV : Hid ((l : Int) ≤ (v : Int) → decide ((v : Int) < (l : Int)) = false ∧ decide (v < l) = false) := Lib.hid (fun c => by simp; omega)
                    rcases HLE.out with ⟨f1, f2⟩ | ⟨f1, f2, f3⟩
                    rotate_left
                    obtain ⟨f4, f5⟩ := LV.out f3
                    rotate_right
                    all_goals
                      go_wp2
                      go_quiet (fail)
                      go_wp2
                    all_goals exact ⟨⟨k + 1, (v : Int), rfl, iEq (by omega), iEq (by omega), Lib.hid (HR2.out.below (Hp.below_drewN _ _)), Lib.hid (R2.out.below (Hp.below_drewN _ _)), HN, by omega⟩, by simp [intOf]; omega⟩
                · obtain ⟨A', c', eA, hcap1, hcap2, hcells⟩ := R2.out.open
                  have HS2 : Hid (SeenL zs len D s' D.length la) := by rw [show k = D.length by omega] at HS; exact HS
                  have HL2 := Lib.hid (HS2.out.done HL.out HD.out)
                  go_wp2
                  exact ⟨⟨t + 1, c + D.length, _, la, s', rfl, rfl, iEq (by omega), iEq (by omega), HR2, HL2, Lib.hid ⟨by omega, Or.inl (by omega)⟩, by omega⟩, by simp [intOf]; omega⟩
            · have hst2 : ¬ (t : Int) < (len2 : Int) ∨ ((t : Int) < (len2 : Int) ∧ ¬ (t : Int) < 19) := by omega
              rcases hst2 with hst2 | ⟨hst2, hst3⟩
              all_goals
                go_wp2_with (go_at_call 66; refine (li1_dueP HR.out _).mono ?_; rintro e w3 ⟨D, s', A, cp, rfl, hd, hr, h⟩; have H := Lib.hid h; have R := Lib.hid hr; have HD := Lib.hid hd; clear h hr hd)
                have hD0 : D.length ≤ 60 := by have := HD.out.len; have := HL.out.1; omega
                go_loopw [10, 11, 14] (fun lst cnt kk wr => ∃ (k : Nat) (la : Int), lst = .int .i64 la ∧ cnt = .int .i64 ((c : Int) + (k : Int)) ∧ kk = .int .i64 (k : Int) ∧ Hid (LI1 w wr q 60 s' (len : Int)) ∧ Hid (RowI wr (.slice A D.length cp) (D.map (·.v))) ∧ Hid (SeenL zs len D s' k la) ∧ k ≤ D.length) (fun _ _ kk _ => 61 - (intOf kk).toNat)
                case atStart => exact ⟨0, la, rfl, iEq (by omega), rfl, H, R, Lib.hid (SeenL.start HL.out HD.out), by omega⟩
                case round =>
                  clear H R
                  obtain ⟨k, la, rfl, rfl, rfl, HR2, R2, HS, hk⟩ := hrel
                  by_cases hkl : (k : Int) < (D.length : Int)
                  · obtain ⟨v, hv, ev, hnow, hn2, hla⟩ := HS.out.next HD.out (by omega)
                    obtain ⟨A', c', eA, hcap1, hcap2, hcells⟩ := R2.out.open
                    obtain ⟨x, hx, hc⟩ := hcells k (by rw [List.length_map]; omega)
                    rw [ev] at hc
                    simp only [Value.slice.injEq] at eA
                    obtain ⟨rfl, -, rfl⟩ := eA
                    subst hx
                    rw [List.length_map] at hcap1
                    unfold maxLen at hcap2
                    have HN := Lib.hid hn2
                    have HR2' := Lib.hid HR2.out.bel
                    clear hn2 ev hcells
                    have hv0 : (0 : Int) ≤ (v : Int) := by omega
                    have hv1 : (v : Int) < (len : Int) := by omega
                    have hv2 : (v : Int) < (len : Int) := by omega
                    have g1 : decide ((v : Int) < 0) = false := by simp
                    have g2 : decide ((len : Int) ≤ (v : Int)) = false := by simp; omega
                    have g2' : decide (len ≤ v) = false := by simp; omega
                    have g3 : decide (200 < bits BinOp.and IntKind.i64 (zs[v]?.getD 0) 127) = false := by simp; exact hnow
                    obtain ⟨y, rfl, hcv⟩ := HZ.out.at HR2'.out v (by omega)
                    rcases hla with rfl | ⟨l, hl, rfl, hle⟩
                    · go_wp2
                      go_quiet (fail)
                      go_wp2
                      all_goals exact ⟨⟨k + 1, (v : Int), rfl, iEq (by omega), iEq (by omega), Lib.hid (HR2.out.below (Hp.below_drewN _ _)), Lib.hid (R2.out.below (Hp.below_drewN _ _)), HN, by omega⟩, by simp [intOf]; omega⟩
                    · have hl0 : (0 : Int) ≤ (l : Int) := by omega
                      have hl2 : (l : Int) < (len : Int) := by omega
                      have hcl := HZ.out.cell HR2'.out l (by omega)
                      have HLE := Lib.hid (leL hle)
                      clear hle
                      have g4 : decide ((0 : Int) ≤ (l : Int)) = true := by simp
                      have LV : Hid ((l : Int) ≤ (v : Int) → decide ((v : Int) < (l : Int)) = false ∧ decide (v < l) = false) := Lib.hid (fun c => by simp; omega)
                      rcases HLE.out with ⟨f1, f2⟩ | ⟨f1, f2, f3⟩
                      rotate_left
                      obtain ⟨f4, f5⟩ := LV.out f3
                      rotate_right
                      all_goals
                        go_wp2
                        go_quiet (fail)
                        go_wp2
                      all_goals exact ⟨⟨k + 1, (v : Int), rfl, iEq (by omega), iEq (by omega), Lib.hid (HR2.out.below (Hp.below_drewN _ _)), Lib.hid (R2.out.below (Hp.below_drewN _ _)), HN, by omega⟩, by simp [intOf]; omega⟩
                  · obtain ⟨A', c', eA, hcap1, hcap2, hcells⟩ := R2.out.open
                    have HS2 : Hid (SeenL zs len D s' D.length la) := by rw [show k = D.length by omega] at HS; exact HS
                    have HL2 := Lib.hid (HS2.out.done HL.out HD.out)
                    go_wp2
                    exact ⟨⟨t + 1, c + D.length, 200, la, s', rfl, rfl, iEq (by omega), iEq (by omega), HR2, HL2, Lib.hid ⟨by omega, Or.inr ⟨HL2.out.none (fun y hy => (HD.out.left y hy).2), by omega⟩⟩, by omega⟩, by simp [intOf]; omega⟩
          · have hs : s = [] := by rcases HT.out.2 with c | c; omega; exact c.1
            subst hs
            have ec : (c : Int) = (len : Int) := by have := HL.out.1; simp at this; omega
            have hx : (¬ (t : Int) ≤ (len2 : Int)) ∨ ((t : Int) ≤ (len2 : Int) ∧ ¬ (t : Int) < 20) := by omega
            clear hin HL HT
            rcases hx with hx | ⟨hx, hx2⟩
            all_goals
              go_wp2_with (go_at_call 67; refine (li1_len HR.out).mono ?_; rintro e wx ⟨rfl, rfl⟩)
              go_ret
              exact ⟨rfl, HR.out.bel⟩
  · go_enter Try.func15, Try.ntmps15
    go_wp2_with (first
      | (go_at_call 22; refine (begun2 _).mono ?_; rintro e w1 ⟨rfl, hb⟩; have HB := Lib.hid hb; clear hb)
      | (go_at_call 64; refine (li1_new HB.out 60 (by omega)).mono ?_; rintro e w2 ⟨q, rfl, h⟩; have B1 : Hid (LI1 w w2 q 60 (putL zs 0) 0) := Lib.hid h; clear h HB))
    go_loopw [8] (fun i wr => ∃ j : Nat, i = .int .i64 (j : Int) ∧ Hid (LI1 w wr q 60 (putL zs j) (j : Int)) ∧ j ≤ 50) (fun i _ => 61 - (intOf i).toNat)
    case atStart => exact ⟨0, rfl, B1, by omega⟩
    case round =>
      clear B1
      obtain ⟨j, rfl, HR, hj⟩ := hrel
      by_cases hlt : (j : Int) < 50
      · have hjl : (j : Int) < (len : Int) := by omega
        obtain ⟨x, rfl, hc⟩ := HZ.out.at HR.out.bel j (by omega)
        go_wp2_with (go_at_call 65; refine (putL_put HR.out (by omega)).mono ?_; rintro e w3 ⟨rfl, h⟩; have H := Lib.hid h; clear h)
        exact ⟨⟨j + 1, iEq (by omega), H, by omega⟩, by simp [intOf]; omega⟩
      · have HR0 : Hid (LI1 w wr q 60 (putL zs 50) 50) := by rw [show j = 50 by omega] at HR; exact HR
        clear HR
        go_wp2
        clear hlt hj
        go_loopw [9, 10, 11, 12] (fun nw lst cnt i wr => ∃ (t c : Nat) (now la : Int) (s : List (It Int)), nw = .int .i64 now ∧ lst = .int .i64 la ∧ cnt = .int .i64 (c : Int) ∧ i = .int .i64 (t : Int) ∧ Hid (LI1 w wr q 60 s 50) ∧ Hid (LeftL zs 50 s c la) ∧ Hid (0 ≤ now ∧ ((t ≤ len2 ∧ t ≤ 19 ∧ now ≤ 15 * (t : Int)) ∨ (s = [] ∧ (t = len2 + 1 ∨ t = 20)))) ∧ t ≤ 20) (fun _ _ _ i _ => 61 - (intOf i).toNat)
        case atStart => exact ⟨0, 0, 0, -1, putL zs 50, rfl, rfl, rfl, rfl, HR0, Lib.hid (LeftL.start zs 50), Lib.hid ⟨by omega, Or.inl (by omega)⟩, by omega⟩
        case round =>
          clear HR0
          obtain ⟨t, c, now, la, s, rfl, rfl, rfl, rfl, HR, HL, HT, ht⟩ := hrel
          have hc0 : c ≤ 50 := by have := HL.out.1; omega
          by_cases hin : (t : Int) ≤ (len2 : Int) ∧ (t : Int) < 20
          · obtain ⟨hin1, hin2⟩ := hin
            have hnow : 0 ≤ now := HT.out.1
            by_cases hst : (t : Int) < (len2 : Int) ∧ (t : Int) < 19
            · obtain ⟨hst1, hst2⟩ := hst
              have hnow2 : now ≤ 300 := by rcases HT.out.2 with c | c <;> omega
              obtain ⟨x, rfl, hc⟩ := HY.out.at HR.out.bel t (by omega)
              have hb := band15 (ys[t]?.getD 0)
              have hnow3 : now ≤ 15 * (t : Int) := by rcases HT.out.2 with c | c <;> omega
              go_wp2_with (go_at_call 66; refine (li1_dueP HR.out _).mono ?_; rintro e w3 ⟨D, s', A, cp, rfl, hd, hr, h⟩; have H := Lib.hid h; have R := Lib.hid hr; have HD := Lib.hid hd; clear h hr hd)
              have hD0 : D.length ≤ 60 := by have := HD.out.len; have := HL.out.1; omega
              go_loopw [10, 11, 14] (fun lst cnt kk wr => ∃ (k : Nat) (la : Int), lst = .int .i64 la ∧ cnt = .int .i64 ((c : Int) + (k : Int)) ∧ kk = .int .i64 (k : Int) ∧ Hid (LI1 w wr q 60 s' 50) ∧ Hid (RowI wr (.slice A D.length cp) (D.map (·.v))) ∧ Hid (SeenL zs 50 D s' k la) ∧ k ≤ D.length) (fun _ _ kk _ => 61 - (intOf kk).toNat)
              case atStart => exact ⟨0, la, rfl, iEq (by omega), rfl, H, R, Lib.hid (SeenL.start HL.out HD.out), by omega⟩
              case round =>
                clear H R
                obtain ⟨k, la, rfl, rfl, rfl, HR2, R2, HS, hk⟩ := hrel
                by_cases hkl : (k : Int) < (D.length : Int)
                · obtain ⟨v, hv, ev, hnow, hn2, hla⟩ := HS.out.next HD.out (by omega)
                  obtain ⟨A', c', eA, hcap1, hcap2, hcells⟩ := R2.out.open
                  obtain ⟨x, hx, hc⟩ := hcells k (by rw [List.length_map]; omega)
                  rw [ev] at hc
                  simp only [Value.slice.injEq] at eA
                  obtain ⟨rfl, -, rfl⟩ := eA
                  subst hx
                  rw [List.length_map] at hcap1
                  unfold maxLen at hcap2
                  have HN := Lib.hid hn2
                  have HR2' := Lib.hid HR2.out.bel
                  clear hn2 ev hcells
                  have hv0 : (0 : Int) ≤ (v : Int) := by omega
                  have hv1 : (v : Int) < 50 := by omega
                  have hv2 : (v : Int) < (len : Int) := by omega
                  have g1 : decide ((v : Int) < 0) = false := by simp
                  have g2 : decide (50 ≤ (v : Int)) = false := by simp; omega
                  have g2' : decide (50 ≤ v) = false := by simp; omega
                  have g3 : decide (now + bits BinOp.and IntKind.i64 (ys[t]?.getD 0) 15 < bits BinOp.and IntKind.i64 (zs[v]?.getD 0) 127) = false := by simp; exact hnow
                  obtain ⟨y, rfl, hcv⟩ := HZ.out.at HR2'.out v (by omega)
                  rcases hla with rfl | ⟨l, hl, rfl, hle⟩
                  · go_wp2
                    go_quiet (fail)
                    go_wp2
                    all_goals exact ⟨⟨k + 1, (v : Int), rfl, iEq (by omega), iEq (by omega), Lib.hid (HR2.out.below (Hp.below_drewN _ _)), Lib.hid (R2.out.below (Hp.below_drewN _ _)), HN, by omega⟩, by simp [intOf]; omega⟩
                  · have hl0 : (0 : Int) ≤ (l : Int) := by omega
                    have hl2 : (l : Int) < (len : Int) := by omega
                    have hcl := HZ.out.cell HR2'.out l (by omega)
                    have HLE := Lib.hid (leL hle)
                    clear hle
                    have g4 : decide ((0 : Int) ≤ (l : Int)) = true := by simp
                    have LV : Hid ((l : Int) ≤ (v : Int) → decide ((v : Int) < (l : Int)) = false ∧ decide (v < l) = false) := Lib.hid (fun c => by simp; omega)
                    rcases HLE.out with ⟨f1, f2⟩ | ⟨f1, f2, f3⟩
                    rotate_left
                    obtain ⟨f4, f5⟩ := LV.out f3
                    rotate_right
                    all_goals
                      go_wp2
                      go_quiet (fail)
                      go_wp2
                    all_goals exact ⟨⟨k + 1, (v : Int), rfl, iEq (by omega), iEq (by omega), Lib.hid (HR2.out.below (Hp.below_drewN _ _)), Lib.hid (R2.out.below (Hp.below_drewN _ _)), HN, by omega⟩, by simp [intOf]; omega⟩
                · obtain ⟨A', c', eA, hcap1, hcap2, hcells⟩ := R2.out.open
                  have HS2 : Hid (SeenL zs 50 D s' D.length la) := by rw [show k = D.length by omega] at HS; exact HS
                  have HL2 := Lib.hid (HS2.out.done HL.out HD.out)
                  go_wp2
                  exact ⟨⟨t + 1, c + D.length, _, la, s', rfl, rfl, iEq (by omega), iEq (by omega), HR2, HL2, Lib.hid ⟨by omega, Or.inl (by omega)⟩, by omega⟩, by simp [intOf]; omega⟩
            · have hst2 : ¬ (t : Int) < (len2 : Int) ∨ ((t : Int) < (len2 : Int) ∧ ¬ (t : Int) < 19) := by omega
              rcases hst2 with hst2 | ⟨hst2, hst3⟩
              all_goals
                go_wp2_with (go_at_call 66; refine (li1_dueP HR.out _).mono ?_; rintro e w3 ⟨D, s', A, cp, rfl, hd, hr, h⟩; have H := Lib.hid h; have R := Lib.hid hr; have HD := Lib.hid hd; clear h hr hd)
                have hD0 : D.length ≤ 60 := by have := HD.out.len; have := HL.out.1; omega
                go_loopw [10, 11, 14] (fun lst cnt kk wr => ∃ (k : Nat) (la : Int), lst = .int .i64 la ∧ cnt = .int .i64 ((c : Int) + (k : Int)) ∧ kk = .int .i64 (k : Int) ∧ Hid (LI1 w wr q 60 s' 50) ∧ Hid (RowI wr (.slice A D.length cp) (D.map (·.v))) ∧ Hid (SeenL zs 50 D s' k la) ∧ k ≤ D.length) (fun _ _ kk _ => 61 - (intOf kk).toNat)
                case atStart => exact ⟨0, la, rfl, iEq (by omega), rfl, H, R, Lib.hid (SeenL.start HL.out HD.out), by omega⟩
                case round =>
                  clear H R
                  obtain ⟨k, la, rfl, rfl, rfl, HR2, R2, HS, hk⟩ := hrel
                  by_cases hkl : (k : Int) < (D.length : Int)
                  · obtain ⟨v, hv, ev, hnow, hn2, hla⟩ := HS.out.next HD.out (by omega)
                    obtain ⟨A', c', eA, hcap1, hcap2, hcells⟩ := R2.out.open
                    obtain ⟨x, hx, hc⟩ := hcells k (by rw [List.length_map]; omega)
                    rw [ev] at hc
                    simp only [Value.slice.injEq] at eA
                    obtain ⟨rfl, -, rfl⟩ := eA
                    subst hx
                    rw [List.length_map] at hcap1
                    unfold maxLen at hcap2
                    have HN := Lib.hid hn2
                    have HR2' := Lib.hid HR2.out.bel
                    clear hn2 ev hcells
                    have hv0 : (0 : Int) ≤ (v : Int) := by omega
                    have hv1 : (v : Int) < 50 := by omega
                    have hv2 : (v : Int) < (len : Int) := by omega
                    have g1 : decide ((v : Int) < 0) = false := by simp
                    have g2 : decide (50 ≤ (v : Int)) = false := by simp; omega
                    have g2' : decide (50 ≤ v) = false := by simp; omega
                    have g3 : decide (200 < bits BinOp.and IntKind.i64 (zs[v]?.getD 0) 127) = false := by simp; exact hnow
                    obtain ⟨y, rfl, hcv⟩ := HZ.out.at HR2'.out v (by omega)
                    rcases hla with rfl | ⟨l, hl, rfl, hle⟩
                    · go_wp2
                      go_quiet (fail)
                      go_wp2
                      all_goals exact ⟨⟨k + 1, (v : Int), rfl, iEq (by omega), iEq (by omega), Lib.hid (HR2.out.below (Hp.below_drewN _ _)), Lib.hid (R2.out.below (Hp.below_drewN _ _)), HN, by omega⟩, by simp [intOf]; omega⟩
                    · have hl0 : (0 : Int) ≤ (l : Int) := by omega
                      have hl2 : (l : Int) < (len : Int) := by omega
                      have hcl := HZ.out.cell HR2'.out l (by omega)
                      have HLE := Lib.hid (leL hle)
                      clear hle
                      have g4 : decide ((0 : Int) ≤ (l : Int)) = true := by simp
                      have LV : Hid ((l : Int) ≤ (v : Int) → decide ((v : Int) < (l : Int)) = false ∧ decide (v < l) = false) := Lib.hid (fun c => by simp; omega)
                      rcases HLE.out with ⟨f1, f2⟩ | ⟨f1, f2, f3⟩
                      rotate_left
                      obtain ⟨f4, f5⟩ := LV.out f3
                      rotate_right
                      all_goals
                        go_wp2
                        go_quiet (fail)
                        go_wp2
                      all_goals exact ⟨⟨k + 1, (v : Int), rfl, iEq (by omega), iEq (by omega), Lib.hid (HR2.out.below (Hp.below_drewN _ _)), Lib.hid (R2.out.below (Hp.below_drewN _ _)), HN, by omega⟩, by simp [intOf]; omega⟩
                  · obtain ⟨A', c', eA, hcap1, hcap2, hcells⟩ := R2.out.open
                    have HS2 : Hid (SeenL zs 50 D s' D.length la) := by rw [show k = D.length by omega] at HS; exact HS
                    have HL2 := Lib.hid (HS2.out.done HL.out HD.out)
                    go_wp2
                    exact ⟨⟨t + 1, c + D.length, 200, la, s', rfl, rfl, iEq (by omega), iEq (by omega), HR2, HL2, Lib.hid ⟨by omega, Or.inr ⟨HL2.out.none (fun y hy => (HD.out.left y hy).2), by omega⟩⟩, by omega⟩, by simp [intOf]; omega⟩
          · have hs : s = [] := by rcases HT.out.2 with c | c; omega; exact c.1
            subst hs
            have ec : (c : Int) = 50 := by have := HL.out.1; simp at this; omega
            have hx : (¬ (t : Int) ≤ (len2 : Int)) ∨ ((t : Int) ≤ (len2 : Int) ∧ ¬ (t : Int) < 20) := by omega
            clear hin HL HT
            rcases hx with hx | ⟨hx, hx2⟩
            all_goals
              go_wp2_with (go_at_call 67; refine (li1_len HR.out).mono ?_; rintro e wx ⟨rfl, rfl⟩)
              go_ret
              exact ⟨rfl, HR.out.bel⟩
end Go.Proofs.Ytpmamgdblbplcaa.On
