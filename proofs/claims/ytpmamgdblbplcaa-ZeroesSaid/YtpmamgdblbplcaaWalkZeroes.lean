/- Zeroes: the walk: rooms below nought are none. -/
import Derived.Test.YtpmamgdblbplcaaOne
import Derived.OpenShut
import Derived.WalkArith
namespace Go.Proofs.Ytpmamgdblbplcaa.On
open Go.RowKit Go.Proofs.Ytpmamgdblbplcaa.HeapModel Go.Proofs.Ytpmamgdblbplcaa.Bg
set_option linter.unusedVariables false
set_option linter.unusedSimpArgs false

theorem z_heap {w : World} {room : Int} (h0 : room ≤ 0) (hr : -9223372036854775808 ≤ room) : Calls Try.prog 23 #[.int .i64 room] w fun e w' => ∃ p, e = .returned (.pointer (some ⟨p, 0, none⟩)) ∧ (∃ F, Hp.HObj w' F p 0 [] 0) ∧ Below w.heap.size w w' := by
  refine (Hp.obj_new room w ⟨hr, by omega⟩).mono ?_
  rintro e w' ⟨rfl, h1, h2⟩
  rw [show min (max room 0) 1000 = 0 by omega] at h1
  exact ⟨_, rfl, ⟨_, h1⟩, h2⟩
theorem z_ring {w : World} {room : Int} (h0 : room ≤ 0) (hr : -9223372036854775808 ≤ room) : Calls Try.prog 41 #[.int .i64 room] w fun e w' => ∃ p, e = .returned (.pointer (some ⟨p, 0, none⟩)) ∧ (∃ F, Rg.RObj w' F p 0 []) ∧ Below w.heap.size w w' := by
  refine (Rg.obj_new room w ⟨hr, by omega⟩).mono ?_
  rintro e w' ⟨F, p, rfl, h1, h2, h3⟩
  rw [show (min (max room 0) 1000).toNat = 0 by omega] at h1
  exact ⟨_, rfl, ⟨_, h1⟩, h3⟩
theorem z_seat {w : World} {room : Int} (h0 : room ≤ 0) (hr : -9223372036854775808 ≤ room) : Calls Try.prog 76 #[.int .i64 room] w fun e w' => ∃ p, e = .returned (.pointer (some ⟨p, 0, none⟩)) ∧ (∃ F, St.SObj w' F p []) ∧ Below w.heap.size w w' := by
  refine (St.obj_new room w ⟨hr, by omega⟩).mono ?_
  rintro e w' ⟨F, p, rfl, h1, h2, h3⟩
  rw [show (min (max room 0) 100).toNat = 0 by omega] at h1
  exact ⟨_, rfl, ⟨_, h1⟩, h3⟩
theorem z_box {w : World} {room : Int} (h0 : room ≤ 0) (hr : -9223372036854775808 ≤ room) : Calls Try.prog 36 #[.int .i64 room] w fun e w' => ∃ p, e = .returned (.pointer (some ⟨p, 0, none⟩)) ∧ (∃ F, Bx.BObj w' F p 0 []) ∧ Below w.heap.size w w' := by
  refine (Bx.obj_new room w ⟨hr, by omega⟩).mono ?_
  rintro e w' ⟨F, p, rfl, h1, h2, h3⟩
  rw [show (min (max room 0) 100).toNat = 0 by omega] at h1
  exact ⟨_, rfl, ⟨_, h1⟩, h3⟩
theorem z_line {w : World} {room : Int} (h0 : room ≤ 0) (hr : -9223372036854775808 ≤ room) : Calls Try.prog 64 #[.int .i64 room] w fun e w' => ∃ p, e = .returned (.pointer (some ⟨p, 0, none⟩)) ∧ (∃ F, Ln.LObj w' F p 0 [] 0) ∧ Below w.heap.size w w' := by
  refine (Ln.obj_new room w ⟨hr, by omega⟩).mono ?_
  rintro e w' ⟨F, p, rfl, h1, h2, h3⟩
  rw [show min (max room 0) 1000 = 0 by omega] at h1
  exact ⟨_, rfl, ⟨_, h1⟩, h3⟩

/-- five things of no room -/
structure Z5 (w0 w : World) (ph pr ps pb pl : Nat) : Prop where
  h : ∃ F, Hp.HObj w F ph 0 [] 0
  r : ∃ F, Rg.RObj w F pr 0 []
  s : ∃ F, St.SObj w F ps []
  b : ∃ F, Bx.BObj w F pb 0 []
  l : ∃ F, Ln.LObj w F pl 0 [] 0
  z : Below w0.heap.size w0 w
variable {w0 w : World} {ph pr ps pb pl : Nat}
theorem Z5.below {w' : World} (B : Z5 w0 w ph pr ps pb pl) (hb : Below w.heap.size w w') : Z5 w0 w' ph pr ps pb pl :=
  ⟨B.h.imp fun _ h => h.below hb, B.r.imp fun _ h => h.below hb, B.s.imp fun _ h => h.below hb, B.b.imp fun _ h => h.below hb, B.l.imp fun _ h => h.below hb, bel_more B.z hb⟩
theorem one_fits : Hp.fits 1 := by unfold Hp.fits; decide
theorem z5_hput (B : Z5 w0 w ph pr ps pb pl) : Calls Try.prog 25 #[.pointer (some ⟨ph, 0, none⟩), .int .i64 1, .int .i64 1, .int .i64 1] w fun e w' => e = .returned (.bool false) ∧ Z5 w0 w' ph pr ps pb pl := by
  obtain ⟨F, h⟩ := B.h
  refine (Hp.obj_full h 1 1 1 one_fits rfl (by simp)).mono ?_
  rintro e w' ⟨rfl, h1, h2⟩
  exact ⟨rfl, B.below h2⟩
theorem z5_rput (B : Z5 w0 w ph pr ps pb pl) : Calls Try.prog 42 #[.pointer (some ⟨pr, 0, none⟩), .int .i64 1] w fun e w' => e = .returned (.bool false) ∧ Z5 w0 w' ph pr ps pb pl := by
  obtain ⟨F, h⟩ := B.r
  refine (Rg.obj_full h 1 (by simp)).mono ?_
  rintro e w' ⟨rfl, h1, h2⟩
  exact ⟨rfl, B.below h2⟩
theorem z5_sadd (B : Z5 w0 w ph pr ps pb pl) : Calls Try.prog 77 #[.pointer (some ⟨ps, 0, none⟩), .int .i64 1] w fun e w' => e = .returned (.int .i64 0) ∧ w' = w := by
  obtain ⟨F, h⟩ := B.s
  exact St.obj_add_no h (fun j hj => by simp at hj) 1
theorem z5_bput (B : Z5 w0 w ph pr ps pb pl) : Calls Try.prog 37 #[.pointer (some ⟨pb, 0, none⟩), .int .i64 1] w fun e w' => e = .returned (.bool false) ∧ w' = w := by
  obtain ⟨F, h⟩ := B.b
  exact Bx.obj_full h 1 (by simp)
theorem z5_lput (B : Z5 w0 w ph pr ps pb pl) : Calls Try.prog 65 #[.pointer (some ⟨pl, 0, none⟩), .int .i64 1, .int .i64 1] w fun e w' => e = .returned (.bool false) ∧ Z5 w0 w' ph pr ps pb pl := by
  obtain ⟨F, h⟩ := B.l
  refine (Ln.obj_full h 1 1 one_fits rfl (by simp)).mono ?_
  rintro e w' ⟨rfl, h1, h2⟩
  exact ⟨rfl, B.below h2⟩
theorem z5_room (B : Z5 w0 w ph pr ps pb pl) : Calls Try.prog 63 #[.pointer (some ⟨pr, 0, none⟩)] w fun e w' => e = .returned (.int .i64 0) ∧ Z5 w0 w' ph pr ps pb pl := by
  obtain ⟨F, h⟩ := B.r
  refine (Rg.obj_room h).mono ?_
  rintro e w' ⟨rfl, h1, h2⟩
  exact ⟨rfl, B.below h2⟩
theorem z5_hlen (B : Z5 w0 w ph pr ps pb pl) : Calls Try.prog 35 #[.pointer (some ⟨ph, 0, none⟩)] w fun e w' => e = .returned (.int .i64 0) ∧ w' = w := by
  obtain ⟨F, h⟩ := B.h
  exact Hp.obj_len h
theorem z5_rlen (B : Z5 w0 w ph pr ps pb pl) : Calls Try.prog 43 #[.pointer (some ⟨pr, 0, none⟩)] w fun e w' => e = .returned (.int .i64 0) ∧ w' = w := by
  obtain ⟨F, h⟩ := B.r
  exact Rg.obj_len h
theorem z5_blen (B : Z5 w0 w ph pr ps pb pl) : Calls Try.prog 40 #[.pointer (some ⟨pb, 0, none⟩)] w fun e w' => e = .returned (.int .i64 0) ∧ w' = w := by
  obtain ⟨F, h⟩ := B.b
  exact Bx.obj_len h
theorem z5_llen (B : Z5 w0 w ph pr ps pb pl) : Calls Try.prog 67 #[.pointer (some ⟨pl, 0, none⟩)] w fun e w' => e = .returned (.int .i64 0) ∧ w' = w := by
  obtain ⟨F, h⟩ := B.l
  exact Ln.obj_len h
theorem z5_ids (B : Z5 w0 w ph pr ps pb pl) : Calls Try.prog 78 #[.pointer (some ⟨ps, 0, none⟩)] w fun e w' => ∃ A c, e = .returned (.slice A 0 c) ∧ Z5 w0 w' ph pr ps pb pl := by
  obtain ⟨F, h⟩ := B.s
  refine (St.obj_ids h).mono ?_
  rintro e w' ⟨v, rfl, h1, h2, h3⟩
  rcases h1.2 with ⟨c, _⟩ | ⟨g, cap, cur, h4, _⟩
  · exact ⟨_, _, by rw [c], B.below h3⟩
  · exact ⟨_, _, by rw [h4]; rfl, B.below h3⟩
theorem z5_new {w1 w2 w3 w4 w5 : World} (hb : Below w0.heap.size w0 w) (h1 : ∃ F, Hp.HObj w1 F ph 0 [] 0) (b1 : Below w.heap.size w w1) (h2 : ∃ F, Rg.RObj w2 F pr 0 []) (b2 : Below w1.heap.size w1 w2) (h3 : ∃ F, St.SObj w3 F ps []) (b3 : Below w2.heap.size w2 w3)
    (h4 : ∃ F, Bx.BObj w4 F pb 0 []) (b4 : Below w3.heap.size w3 w4) (h5 : ∃ F, Ln.LObj w5 F pl 0 [] 0) (b5 : Below w4.heap.size w4 w5) : Z5 w0 w5 ph pr ps pb pl :=
  ⟨h1.imp fun _ h => (((h.below b2).below b3).below b4).below b5, h2.imp fun _ h => ((h.below b3).below b4).below b5, h3.imp fun _ h => (h.below b4).below b5, h4.imp fun _ h => h.below b5, h5, bel_more (bel_more (bel_more (bel_more (bel_more hb b1) b2) b3) b4) b5⟩

set_option maxHeartbeats 4000000 in
set_option maxRecDepth 100000 in
theorem zeroes_walk (room : Int) (w : World) (wa : (Lit.int .i64 room).wf = true) :
    Calls Try.prog 18 #[.int .i64 room] w fun e w' => e = .returned (.bool true) ∧ Below w.heap.size w w' := by
  have ba := bounds_i64 wa
  clear wa
  obtain ⟨r, hr, hr0, hr1⟩ : ∃ r : Int, r = (if 0 < room then -room else room) ∧ r ≤ 0 ∧ -9223372036854775808 ≤ r := ⟨_, rfl, by split <;> omega, by split <;> omega⟩
  have c1 : 0 < room ∨ room ≤ 0 := by omega
  rcases c1 with c1 | c1
  · obtain rfl : room = -r := by rw [if_pos c1] at hr; omega
    have en : - -r = r := by omega
    clear hr
    go_enter Try.func18, Try.ntmps18
    go_wp2_with (first
      | (go_at_call 22; refine (begun2 _).mono ?_; rintro e w1 ⟨rfl, hb⟩; have HB := Lib.hid hb; clear hb)
      | (go_at_call 23; refine (z_heap hr0 hr1).mono ?_; rintro e w2 ⟨ph, rfl, h, hb⟩; have T1 := Lib.hid h; have U1 := Lib.hid hb; clear h hb)
      | (go_at_call 41; refine (z_ring hr0 hr1).mono ?_; rintro e w3 ⟨pr, rfl, h, hb⟩; have T2 := Lib.hid h; have U2 := Lib.hid hb; clear h hb)
      | (go_at_call 76; refine (z_seat hr0 hr1).mono ?_; rintro e w4 ⟨ps, rfl, h, hb⟩; have T3 := Lib.hid h; have U3 := Lib.hid hb; clear h hb)
      | (go_at_call 36; refine (z_box hr0 hr1).mono ?_; rintro e w5 ⟨pb, rfl, h, hb⟩; have T4 := Lib.hid h; have U4 := Lib.hid hb; clear h hb)
      | (go_at_call 64; refine (z_line hr0 hr1).mono ?_; rintro e w6 ⟨pl, rfl, h, hb⟩; have B6 := Lib.hid (z5_new HB.out T1.out U1.out T2.out U2.out T3.out U3.out T4.out U4.out h hb); clear h hb T1 U1 T2 U2 T3 U3 T4 U4)
      | (go_at_call 25; refine (z5_hput B6.out).mono ?_; rintro e w7 ⟨rfl, h⟩; have B7 := Lib.hid h; clear h B6)
      | (go_at_call 42; refine (z5_rput B7.out).mono ?_; rintro e w8 ⟨rfl, h⟩; have B8 := Lib.hid h; clear h B7)
      | (go_at_call 77; refine (z5_sadd B8.out).mono ?_; rintro e wx ⟨rfl, rfl⟩)
      | (go_at_call 37; refine (z5_bput B8.out).mono ?_; rintro e wx ⟨rfl, rfl⟩)
      | (go_at_call 65; refine (z5_lput B8.out).mono ?_; rintro e w9 ⟨rfl, h⟩; have B9 := Lib.hid h; clear h B8)
      | (go_at_call 63; refine (z5_room B9.out).mono ?_; rintro e w10 ⟨rfl, h⟩; have B10 := Lib.hid h; clear h B9)
      | (go_at_call 35; refine (z5_hlen B10.out).mono ?_; rintro e wx ⟨rfl, rfl⟩)
      | (go_at_call 43; refine (z5_rlen B10.out).mono ?_; rintro e wx ⟨rfl, rfl⟩)
      | (go_at_call 40; refine (z5_blen B10.out).mono ?_; rintro e wx ⟨rfl, rfl⟩)
      | (go_at_call 67; refine (z5_llen B10.out).mono ?_; rintro e wx ⟨rfl, rfl⟩)
      | (go_at_call 78; refine (z5_ids B10.out).mono ?_; rintro e w11 ⟨A, c, rfl, h⟩; have B11 := Lib.hid h; clear h B10))
    go_ret
    exact ⟨rfl, B11.out.z⟩
  · obtain rfl : room = r := by rw [if_neg (by omega)] at hr; omega
    clear hr
    go_enter Try.func18, Try.ntmps18
    go_wp2_with (first
      | (go_at_call 22; refine (begun2 _).mono ?_; rintro e w1 ⟨rfl, hb⟩; have HB := Lib.hid hb; clear hb)
      | (go_at_call 23; refine (z_heap hr0 hr1).mono ?_; rintro e w2 ⟨ph, rfl, h, hb⟩; have T1 := Lib.hid h; have U1 := Lib.hid hb; clear h hb)
      | (go_at_call 41; refine (z_ring hr0 hr1).mono ?_; rintro e w3 ⟨pr, rfl, h, hb⟩; have T2 := Lib.hid h; have U2 := Lib.hid hb; clear h hb)
      | (go_at_call 76; refine (z_seat hr0 hr1).mono ?_; rintro e w4 ⟨ps, rfl, h, hb⟩; have T3 := Lib.hid h; have U3 := Lib.hid hb; clear h hb)
      | (go_at_call 36; refine (z_box hr0 hr1).mono ?_; rintro e w5 ⟨pb, rfl, h, hb⟩; have T4 := Lib.hid h; have U4 := Lib.hid hb; clear h hb)
      | (go_at_call 64; refine (z_line hr0 hr1).mono ?_; rintro e w6 ⟨pl, rfl, h, hb⟩; have B6 := Lib.hid (z5_new HB.out T1.out U1.out T2.out U2.out T3.out U3.out T4.out U4.out h hb); clear h hb T1 U1 T2 U2 T3 U3 T4 U4)
      | (go_at_call 25; refine (z5_hput B6.out).mono ?_; rintro e w7 ⟨rfl, h⟩; have B7 := Lib.hid h; clear h B6)
      | (go_at_call 42; refine (z5_rput B7.out).mono ?_; rintro e w8 ⟨rfl, h⟩; have B8 := Lib.hid h; clear h B7)
      | (go_at_call 77; refine (z5_sadd B8.out).mono ?_; rintro e wx ⟨rfl, rfl⟩)
      | (go_at_call 37; refine (z5_bput B8.out).mono ?_; rintro e wx ⟨rfl, rfl⟩)
      | (go_at_call 65; refine (z5_lput B8.out).mono ?_; rintro e w9 ⟨rfl, h⟩; have B9 := Lib.hid h; clear h B8)
      | (go_at_call 63; refine (z5_room B9.out).mono ?_; rintro e w10 ⟨rfl, h⟩; have B10 := Lib.hid h; clear h B9)
      | (go_at_call 35; refine (z5_hlen B10.out).mono ?_; rintro e wx ⟨rfl, rfl⟩)
      | (go_at_call 43; refine (z5_rlen B10.out).mono ?_; rintro e wx ⟨rfl, rfl⟩)
      | (go_at_call 40; refine (z5_blen B10.out).mono ?_; rintro e wx ⟨rfl, rfl⟩)
      | (go_at_call 67; refine (z5_llen B10.out).mono ?_; rintro e wx ⟨rfl, rfl⟩)
      | (go_at_call 78; refine (z5_ids B10.out).mono ?_; rintro e w11 ⟨A, c, rfl, h⟩; have B11 := Lib.hid h; clear h B10))
    go_ret
    exact ⟨rfl, B11.out.z⟩
end Go.Proofs.Ytpmamgdblbplcaa.On
