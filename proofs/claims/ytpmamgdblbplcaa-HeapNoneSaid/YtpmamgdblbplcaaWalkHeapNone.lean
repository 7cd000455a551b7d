/- HeapNone: the walk: nothing at all answers as nothing. -/
import Derived.Test.YtpmamgdblbplcaaBgB
namespace Go.Proofs.Ytpmamgdblbplcaa.On
open Go.RowKit Go.Proofs.Ytpmamgdblbplcaa.HeapModel Go.Proofs.Ytpmamgdblbplcaa.Bg
set_option linter.unusedVariables false
set_option linter.unusedSimpArgs false

theorem seat_get (id : Int) (w : World) : Calls Try.prog 80 #[.pointer none, .int .i64 id] w fun e w' => e = .returned (.tuple #[.int .i64 0, .bool false]) ∧ w' = w := by
  have HA := St.nil_at id w
  go_enter Try.func80, Try.ntmps80
  go_wp2_with (go_at_call 104; refine HA.mono ?_; rintro e w1 ⟨rfl, rfl⟩)
  go_ret2
  exact ⟨rfl, rfl⟩
theorem seat_set (id v : Int) (w : World) : Calls Try.prog 81 #[.pointer none, .int .i64 id, .int .i64 v] w fun e w' => e = .returned (.bool false) ∧ w' = w := by
  have HA := St.nil_at id w
  go_enter Try.func81, Try.ntmps81
  go_wp2_with (go_at_call 104; refine HA.mono ?_; rintro e w1 ⟨rfl, rfl⟩)
  go_ret
  exact ⟨rfl, rfl⟩
theorem seat_drop (id : Int) (w : World) : Calls Try.prog 79 #[.pointer none, .int .i64 id] w fun e w' => e = .returned (.bool false) ∧ w' = w := by
  have HA := St.nil_at id w
  go_enter Try.func79, Try.ntmps79
  go_wp2_with (go_at_call 104; refine HA.mono ?_; rintro e w1 ⟨rfl, rfl⟩)
  go_ret
  exact ⟨rfl, rfl⟩
theorem line_put (k a : Int) (w : World) : Calls Try.prog 65 #[.pointer none, .int .i64 k, .int .i64 a] w fun e w' => e = .returned (.bool false) ∧ w' = w := by
  have HA := Ln.nil_all w
  have HB := Hp.nil_put k a 0 w
  go_enter Try.func65, Try.ntmps65
  go_wp2_with (first
    | (go_at_call 101; refine HA.mono ?_; rintro e w1 ⟨rfl, rfl⟩)
    | (go_at_call 25; refine HB.mono ?_; rintro e w1 ⟨rfl, rfl⟩))
  go_ret
  exact ⟨rfl, rfl⟩
theorem line_drop (k : Int) (w : World) : Calls Try.prog 68 #[.pointer none, .int .i64 k] w fun e w' => e = .returned (.bool false) ∧ w' = w := by
  have HA := Ln.nil_all w
  have HB := Hp.nil_drop k w
  go_enter Try.func68, Try.ntmps68
  go_wp2_with (first
    | (go_at_call 101; refine HA.mono ?_; rintro e w1 ⟨rfl, rfl⟩)
    | (go_at_call 29; refine HB.mono ?_; rintro e w1 ⟨rfl, rfl⟩))
  go_ret
  exact ⟨rfl, rfl⟩
theorem line_len (w : World) : Calls Try.prog 67 #[.pointer none] w fun e w' => e = .returned (.int .i64 0) ∧ w' = w := by
  have HA := Ln.nil_all w
  have HB := Hp.nil_len w
  go_enter Try.func67, Try.ntmps67
  go_wp2_with (first
    | (go_at_call 101; refine HA.mono ?_; rintro e w1 ⟨rfl, rfl⟩)
    | (go_at_call 35; refine HB.mono ?_; rintro e w1 ⟨rfl, rfl⟩))
  go_ret
  exact ⟨rfl, rfl⟩
theorem line_next (w : World) : Calls Try.prog 69 #[.pointer none] w fun e w' => e = .returned (.tuple #[.int .i64 0, .bool false]) ∧ w' = w := by
  have HA := Ln.nil_all w
  have HB := Hp.nil_first w
  go_enter Try.func69, Try.ntmps69
  go_wp2_with (first
    | (go_at_call 101; refine HA.mono ?_; rintro e w1 ⟨rfl, rfl⟩)
    | (go_at_call 33; refine HB.mono ?_; rintro e w1 ⟨rfl, rfl⟩))
  go_ret2
  exact ⟨rfl, rfl⟩
theorem line_due (now : Int) (w : World) : Calls Try.prog 66 #[.pointer none, .int .i64 now] w fun e w' => e = .returned (.slice none 0 0) ∧ w' = w := by
  have HA := line_next w
  go_enter Try.func66, Try.ntmps66
  go_wp2
  go_loop [5] (fun v => v = .slice none 0 0) (fun _ => 0)
  case atStart => exact rfl
  case round =>
    obtain rfl := hrel
    go_wp2_with (go_at_call 69; refine HA.mono ?_; rintro e w1 ⟨rfl, rfl⟩)
    go_ret
    exact ⟨rfl, rfl⟩

set_option maxHeartbeats 4000000 in
set_option maxRecDepth 100000 in
theorem heapNone_walk (w : World) : Calls Try.prog 21 #[] w fun e w' => e = .returned (.bool true) ∧ Below w.heap.size w w' := by
  go_enter Try.func21, Try.ntmps21
  go_wp2_with (first
    | (go_at_call 33; refine (Hp.nil_first _).mono ?_; rintro e wx ⟨rfl, rfl⟩)
    | (go_at_call 27; refine (Hp.nil_take _).mono ?_; rintro e wx ⟨rfl, rfl⟩)
    | (go_at_call 31; refine (Hp.nil_key _ _).mono ?_; rintro e wx ⟨rfl, rfl⟩)
    | (go_at_call 62; refine (Rg.nil_first _).mono ?_; rintro e wx ⟨rfl, rfl⟩)
    | (go_at_call 44; refine (Rg.nil_take _).mono ?_; rintro e wx ⟨rfl, rfl⟩)
    | (go_at_call 61; refine (Rg.nil_at _).mono ?_; rintro e wx ⟨rfl, rfl⟩)
    | (go_at_call 80; refine (seat_get _ _).mono ?_; rintro e wx ⟨rfl, rfl⟩)
    | (go_at_call 38; refine (Bx.nil_take _).mono ?_; rintro e wx ⟨rfl, rfl⟩)
    | (go_at_call 39; refine (Bx.either_none (Bx.nil_take _) (Bx.nil_take _)).mono ?_; rintro e wx ⟨rfl, rfl⟩)
    | (go_at_call 69; refine (line_next _).mono ?_; rintro e wx ⟨rfl, rfl⟩)
    | (go_at_call 22; refine (begun2 _).mono ?_; rintro e w1 ⟨rfl, hb⟩; have HB := Lib.hid hb; clear hb)
    | (go_at_call 25; refine (Hp.nil_put _ _ _ _).mono ?_; rintro e wx ⟨rfl, rfl⟩)
    | (go_at_call 29; refine (Hp.nil_drop _ _).mono ?_; rintro e wx ⟨rfl, rfl⟩)
    | (go_at_call 35; refine (Hp.nil_len _).mono ?_; rintro e wx ⟨rfl, rfl⟩)
    | (go_at_call 42; refine (Rg.nil_put _ _).mono ?_; rintro e wx ⟨rfl, rfl⟩)
    | (go_at_call 43; refine (Rg.nil_len _).mono ?_; rintro e wx ⟨rfl, rfl⟩)
    | (go_at_call 63; refine (Rg.nil_room _).mono ?_; rintro e wx ⟨rfl, rfl⟩)
    | (go_at_call 77; refine (St.nil_add _ _).mono ?_; rintro e wx ⟨rfl, rfl⟩)
    | (go_at_call 81; refine (seat_set _ _ _).mono ?_; rintro e wx ⟨rfl, rfl⟩)
    | (go_at_call 79; refine (seat_drop _ _).mono ?_; rintro e wx ⟨rfl, rfl⟩)
    | (go_at_call 78; refine (St.nil_ids _).mono ?_; rintro e wx ⟨rfl, rfl⟩)
    | (go_at_call 37; refine (Bx.nil_put _ _).mono ?_; rintro e wx ⟨rfl, rfl⟩)
    | (go_at_call 40; refine (Bx.nil_len _).mono ?_; rintro e wx ⟨rfl, rfl⟩)
    | (go_at_call 65; refine (line_put _ _ _).mono ?_; rintro e wx ⟨rfl, rfl⟩)
    | (go_at_call 66; refine (line_due _ _).mono ?_; rintro e wx ⟨rfl, rfl⟩)
    | (go_at_call 68; refine (line_drop _ _).mono ?_; rintro e wx ⟨rfl, rfl⟩)
    | (go_at_call 67; refine (line_len _).mono ?_; rintro e wx ⟨rfl, rfl⟩))
  go_ret
  exact ⟨rfl, HB.out⟩
end Go.Proofs.Ytpmamgdblbplcaa.On
