/- LineAgain: the walk. -/
import Derived.Test.YtpmamgdblbplcaaOne
import Derived.OpenShut
import Derived.WalkArith
namespace Go.Proofs.Ytpmamgdblbplcaa.On
open Go.RowKit Go.Proofs.Ytpmamgdblbplcaa.HeapModel Go.Proofs.Ytpmamgdblbplcaa.Bg
set_option linter.unusedVariables false
set_option linter.unusedSimpArgs false

/-! ### a line of texts -/
def LS1 (w0 w : World) (q : Nat) (room : Int) (s : List (It ByteArray)) (when : Int) : Prop := ∃ F, Ls.LObj w F q room s when ∧ (∀ k, F k → w0.heap.size ≤ k) ∧ Below w0.heap.size w0 w
/-- a row of texts that lies by itself -/
def RowS (w : World) (v : Value) (l : List ByteArray) : Prop := ∃ base, w.ownsRow base 9 1 v l.length (l.map Value.string)
section
variable {w0 w : World} {q : Nat} {room : Int} {s : List (It ByteArray)} {when : Int}
theorem RowS.below {w' : World} {v : Value} {l : List ByteArray} (h : RowS w v l) (hb : Below w.heap.size w w') : RowS w' v l := by
  obtain ⟨base, h1⟩ := h
  refine ⟨base, h1.1, ?_⟩
  rcases h1.2 with c | ⟨g, cap, cur, h3, h4, h5, h6⟩
  · exact Or.inl c
  · exact Or.inr ⟨g, cap, cur, h3, h4, (hb.block g (Array.getElem?_eq_some_iff.1 h5).1).trans h5, h6⟩
theorem RowS.nil {v : Value} (h : RowS w v []) : ∃ A c, v = .slice A 0 c := by
  obtain ⟨base, h1⟩ := h
  rcases h1.2 with ⟨c, _⟩ | ⟨g, cap, cur, h3, _⟩
  · exact ⟨_, _, c⟩
  · exact ⟨_, _, h3⟩
theorem RowS.two {v : Value} {x y : ByteArray} (h : RowS w v [x, y]) : ∃ g c, v = .slice (some ⟨g, 0, none⟩) 2 c := by
  obtain ⟨base, h1⟩ := h
  rcases h1.2 with ⟨_, c⟩ | ⟨g, cap, cur, h3, _⟩
  · simp at c
  · exact ⟨_, _, h3⟩
theorem RowS.cells {g c : Nat} {x y : ByteArray} (h : RowS w (.slice (some ⟨g, 0, none⟩) 2 c) [x, y]) : w.cell? ⟨g, 0, none⟩ = some (.string x) ∧ w.cell? ⟨g, 1, none⟩ = some (.string y) := by
  obtain ⟨base, h1⟩ := h
  rcases h1.2 with ⟨c, _⟩ | ⟨g', cap, cur, h3, h4, h5, h6, h7, h8, h9⟩
  · cases c
  · simp only [Value.slice.injEq, Option.some.injEq, Addr.mk.injEq, and_true, true_and] at h3
    obtain ⟨rfl, -, rfl⟩ := h3
    have e : cur.toList.take 2 = [.string x, .string y] := h9
    have e0 : (cur.toList.take 2)[0]? = some (.string x) := by rw [e]; rfl
    have e1 : (cur.toList.take 2)[1]? = some (.string y) := by rw [e]; rfl
    rw [List.getElem?_take] at e0 e1
    rw [Hp.blk_cell h5, Hp.blk_cell h5]
    exact ⟨by simpa using e0, by simpa using e1⟩
theorem LS1.bel (h : LS1 w0 w q room s when) : Below w0.heap.size w0 w := by obtain ⟨F, h1, h2, h3⟩ := h; exact h3
theorem ls1_new (hb : Below w0.heap.size w0 w) (room : Int) (hr : -9223372036854775808 ≤ room ∧ room ≤ 9223372036854775807) :
    Calls Try.prog 70 #[.int .i64 room] w fun e w' => ∃ q, e = .returned (.pointer (some ⟨q, 0, none⟩)) ∧ LS1 w0 w' q (min (max room 0) 1000) [] 0 := by
  refine (Ls.obj_new room w hr).mono ?_
  rintro e w' ⟨F, q, rfl, h1, h2, h3⟩
  exact ⟨q, rfl, F, h1, fun k hk => Nat.le_trans hb.size (h2 k hk), bel_more hb h3⟩
theorem ls1_put (h : LS1 w0 w q room s when) (k : ByteArray) (a : Int) (hk : Hs.fits k) (hw' : when < 4611686018427387904) (hr : has s k = true ∨ (s.length : Int) < room) :
    Calls Try.prog 71 #[.pointer (some ⟨q, 0, none⟩), .string k, .int .i64 a] w fun e w' => e = .returned (.bool true) ∧ LS1 w0 w' q room (without s k ++ [⟨k, a, 0, when + 1⟩]) (when + 1) := by
  obtain ⟨F, h1, h2, h3⟩ := h
  refine (Ls.obj_put h1 k a hk hw' hr).mono ?_
  rintro e w' ⟨rfl, F', h4, h5, h6⟩
  refine ⟨rfl, F', h4, fun k hk => ?_, bel_touch h3 h2 h5⟩
  rcases h6 k hk with c | c
  · exact h2 k c
  · exact Nat.le_trans h3.size c
theorem ls1_drop (h : LS1 w0 w q room s when) (k : ByteArray) (hk : Hs.fits k) :
    Calls Try.prog 75 #[.pointer (some ⟨q, 0, none⟩), .string k] w fun e w' => e = .returned (.bool (has s k)) ∧ LS1 w0 w' q room (without s k) when := by
  obtain ⟨F, h1, h2, h3⟩ := h
  refine (Ls.obj_drop h1 k hk).mono ?_
  rintro e w' ⟨rfl, h4, h5⟩
  exact ⟨rfl, F, h4, h2, bel_touch h3 h2 h5⟩
theorem ls1_len (h : LS1 w0 w q room s when) : Calls Try.prog 74 #[.pointer (some ⟨q, 0, none⟩)] w fun e w' => e = .returned (.int .i64 s.length) ∧ w' = w := by
  obtain ⟨F, h1, h2, h3⟩ := h
  exact Ls.obj_len h1
theorem ls1_due (h : LS1 w0 w q room s when) (now : Int) : Calls Try.prog 72 #[.pointer (some ⟨q, 0, none⟩), .int .i64 now] w fun e w' => ∃ v, e = .returned v ∧ RowS w' v (dueM s now).1 ∧ LS1 w0 w' q room (dueM s now).2 when := by
  obtain ⟨F, h1, h2, h3⟩ := h
  refine (Ls.obj_due h1 now).mono ?_
  rintro e w' ⟨v, rfl, h4, h5, h6⟩
  exact ⟨v, rfl, ⟨_, h4⟩, F, h5, h2, bel_touch h3 h2 h6⟩
theorem ls1_next (h : LS1 w0 w q room s when) {x : It ByteArray} (hx : least s = some x) : Calls Try.prog 73 #[.pointer (some ⟨q, 0, none⟩)] w fun e w' => e = .returned (.tuple #[.int .i64 x.a, .bool true]) ∧ LS1 w0 w' q room s when ∧ Below w.heap.size w w' := by
  obtain ⟨F, h1, h2, h3⟩ := h
  refine (Ls.obj_next h1 hx).mono ?_
  rintro e w' ⟨rfl, h4, h5⟩
  exact ⟨rfl, ⟨F, h4, h2, bel_more h3 h5⟩, h5⟩
theorem ls1_next_no (h : LS1 w0 w q room [] when) : Calls Try.prog 73 #[.pointer (some ⟨q, 0, none⟩)] w fun e w' => e = .returned (.tuple #[.int .i64 0, .bool false]) ∧ w' = w := by
  obtain ⟨F, h1, h2, h3⟩ := h
  exact Ls.obj_next_no h1
end
def tx : ByteArray := ⟨#[120]⟩
def ty : ByteArray := ⟨#[121]⟩
def xy (b : Int) : List (It ByteArray) := [⟨ty, b, 0, 2⟩, ⟨tx, b, 0, 3⟩]
theorem xy_least (b : Int) : least (xy b) = some ⟨ty, b, 0, 2⟩ := by
  have : lt (⟨tx, b, 0, 3⟩ : It ByteArray) ⟨ty, b, 0, 2⟩ = false := by
    rw [Bool.eq_false_iff, ne_eq, lt_iff]
    simp
  simp [xy, least, this]
theorem xy_due {b now : Int} (h : b ≤ now) : dueM (xy b) now = ([ty, tx], []) := by
  rw [dueM_step (xy_least b) h]
  have e : without (xy b) ty = [⟨tx, b, 0, 3⟩] := rfl
  have l1 : least [(⟨tx, b, 0, 3⟩ : It ByteArray)] = some ⟨tx, b, 0, 3⟩ := rfl
  have e2 : without [(⟨tx, b, 0, 3⟩ : It ByteArray)] tx = [] := rfl
  simp only
  rw [e, dueM_step l1 h]
  simp only
  rw [e2, dueM_stop (fun x hx => by cases hx)]
theorem xy_wait {b now : Int} (h : ¬ b ≤ now) : dueM (xy b) now = ([], xy b) := dueM_stop (fun x hx => by rw [xy_least] at hx; injection hx with hx; subst hx; exact h)
theorem fx : Hs.fits tx := by unfold Hs.fits maxLen; decide
theorem fy : Hs.fits ty := by unfold Hs.fits maxLen; decide

set_option maxHeartbeats 4000000 in
set_option maxRecDepth 100000 in
theorem lineAgain_walk (a b now : Int) (w : World) (wa : (Lit.int .i64 a).wf = true) (wb : (Lit.int .i64 b).wf = true) (wc : (Lit.int .i64 now).wf = true) :
    Calls Try.prog 17 #[.int .i64 a, .int .i64 b, .int .i64 now] w fun e w' => e = .returned (.bool true) ∧ Below w.heap.size w w' := by
  clear wa wb wc
  by_cases hb : b ≤ now
  · have DUE := Lib.hid (xy_due hb)
    go_enter Try.func17, Try.ntmps17
    go_wp2_with (first
      | (go_at_call 22; refine (begun2 _).mono ?_; rintro e w1 ⟨rfl, hb⟩; have HB := Lib.hid hb; clear hb)
      | (go_at_call 70; refine (ls1_new HB.out 2 (by omega)).mono ?_; rintro e w2 ⟨q, rfl, h⟩; have B1 : Hid (LS1 w w2 q 2 [] 0) := Lib.hid h; clear h HB)
      | (go_at_call 71; refine (ls1_put B1.out tx a fx (by decide) (Or.inr (by decide))).mono ?_; rintro e w3 ⟨rfl, h⟩; have B2 : Hid (LS1 w w3 q 2 [⟨tx, a, 0, 1⟩] 1) := Lib.hid h; clear h B1)
      | (go_at_call 71; refine (ls1_put B2.out ty b fy (by decide) (Or.inr (by simp))).mono ?_; rintro e w4 ⟨rfl, h⟩; have B3 : Hid (LS1 w w4 q 2 [⟨tx, a, 0, 1⟩, ⟨ty, b, 0, 2⟩] 2) := Lib.hid h; clear h B2)
      | (go_at_call 71; refine (ls1_put B3.out tx b fx (by decide) (Or.inl rfl)).mono ?_; rintro e w5 ⟨rfl, h⟩; have B4 : Hid (LS1 w w5 q 2 (xy b) 3) := Lib.hid h; clear h B3)
      | (go_at_call 72; refine (ls1_due B4.out now).mono ?_; rintro e w6 ⟨v, rfl, hr, h⟩; rw [DUE.out] at hr h; have B5 : Hid (LS1 w w6 q 2 [] 3) := Lib.hid h; have R5 : RowS w6 v [ty, tx] := hr; obtain ⟨g, c, rfl⟩ := R5.two; have k2 := R5.cells; have k0 : w6.cell? ⟨g, 0, none⟩ = some (.string ⟨#[121]⟩) := k2.1; have k1 : w6.cell? ⟨g, 1, none⟩ = some (.string ⟨#[120]⟩) := k2.2; clear h hr B4 R5 k2)
      | (go_at_call 73; refine (ls1_next_no B5.out).mono ?_; rintro e w7 ⟨rfl, rfl⟩)
      | (go_at_call 74; refine (ls1_len B5.out).mono ?_; rintro e w7 ⟨rfl, rfl⟩))
    go_ret
    exact ⟨rfl, B5.out.bel⟩
  · have DUE := Lib.hid (xy_wait hb)
    have hb2 : ¬ b ≤ now := hb
    have XL := Lib.hid (xy_least b)
    go_enter Try.func17, Try.ntmps17
    go_wp2_with (first
      | (go_at_call 22; refine (begun2 _).mono ?_; rintro e w1 ⟨rfl, hb⟩; have HB := Lib.hid hb; clear hb)
      | (go_at_call 70; refine (ls1_new HB.out 2 (by omega)).mono ?_; rintro e w2 ⟨q, rfl, h⟩; have B1 : Hid (LS1 w w2 q 2 [] 0) := Lib.hid h; clear h HB)
      | (go_at_call 71; refine (ls1_put B1.out tx a fx (by decide) (Or.inr (by decide))).mono ?_; rintro e w3 ⟨rfl, h⟩; have B2 : Hid (LS1 w w3 q 2 [⟨tx, a, 0, 1⟩] 1) := Lib.hid h; clear h B1)
      | (go_at_call 71; refine (ls1_put B2.out ty b fy (by decide) (Or.inr (by simp))).mono ?_; rintro e w4 ⟨rfl, h⟩; have B3 : Hid (LS1 w w4 q 2 [⟨tx, a, 0, 1⟩, ⟨ty, b, 0, 2⟩] 2) := Lib.hid h; clear h B2)
      | (go_at_call 71; refine (ls1_put B3.out tx b fx (by decide) (Or.inl rfl)).mono ?_; rintro e w5 ⟨rfl, h⟩; have B4 : Hid (LS1 w w5 q 2 (xy b) 3) := Lib.hid h; clear h B3)
      | (go_at_call 72; refine (ls1_due B4.out now).mono ?_; rintro e w6 ⟨v, rfl, hr, h⟩; rw [DUE.out] at hr h; have B5 : Hid (LS1 w w6 q 2 (xy b) 3) := Lib.hid h; obtain ⟨A, c, rfl⟩ := RowS.nil hr; clear h hr B4)
      | (go_at_call 73; refine (ls1_next B5.out XL.out).mono ?_; rintro e w7 ⟨rfl, h, _⟩; have B6 := Lib.hid h; clear h B5)
      | (go_at_call 74; refine (ls1_len B6.out).mono ?_; rintro e wx ⟨rfl, rfl⟩)
      | (go_at_call 75; refine (ls1_drop B6.out ty fy).mono ?_; rintro e w8 ⟨rfl, h⟩; have B7 : Hid (LS1 w w8 q 2 [⟨tx, b, 0, 3⟩] 3) := Lib.hid h; clear h B6)
      | (go_at_call 75; refine (ls1_drop B7.out ty fy).mono ?_; rintro e w9 ⟨rfl, h⟩; have B8 : Hid (LS1 w w9 q 2 [⟨tx, b, 0, 3⟩] 3) := Lib.hid h; clear h B7)
      | (go_at_call 74; refine (ls1_len B8.out).mono ?_; rintro e wx ⟨rfl, rfl⟩))
    go_ret
    exact ⟨rfl, B8.out.bel⟩
end Go.Proofs.Ytpmamgdblbplcaa.On
