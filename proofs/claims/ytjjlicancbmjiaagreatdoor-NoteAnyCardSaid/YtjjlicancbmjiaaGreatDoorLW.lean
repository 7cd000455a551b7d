/- The library's variables that note's functions read, and the contracts of note.num and note.parse at every number, every text. -/
import Derived.Test.YtjjlicancbmjiaaGreatDoorShelfM
import Derived.Lib.AppendIntMem
import Derived.Lib.LaidTab
import Derived.Test.YtjjlicancbmjiaaGreatDoorShelf
import Derived.Lib.AtoiErrMem
import Derived.Lib.Itoa
import Derived.Shelf.Strconv.Itoa4
import Derived.Shelf.Strconv.ErrVarParseInt
import Derived.WalkSmall
import Derived.WalkKit
import Derived.KernelRfl
import Derived.Below
namespace Go.Proofs.YtjjlicancbmjiaaGreatDoor.PNeg
open Go.Shelf Go.Lib Go.RowKit
set_option linter.unusedVariables false
theorem var_below {n : String} {g : Nat} {cs : Array Value} {w w' : World} (hg : Tryz.prog.globalNamed n = some g) (h : w.var? Tryz.prog n = some cs) (hb : Below w.heap.size w w') : w'.var? Tryz.prog n = some cs := by
  have hlt : g < w.heap.size := by
    have h2 := h
    unfold World.var? at h2
    rw [hg] at h2
    simp only [Option.bind_some] at h2
    rcases Nat.lt_or_ge g w.heap.size with h' | h'
    · exact h'
    · rw [Array.getElem?_eq_none h'] at h2; cases h2
  exact var?_below hb hg hlt h
def LW (w : World) : Prop := Lib.TabIs Tryz.prog w "internal/strconv.uint64pow10" .u64 Lib.pow10Tab ∧ (∃ t p, w.var? Tryz.prog "strconv.ErrSyntax" = some #[.iface t p]) ∧ ∃ t p, w.var? Tryz.prog "strconv.ErrRange" = some #[.iface t p]
theorem LW.below {w w' : World} (h : LW w) (hb : Below w.heap.size w w') : LW w' := by
  obtain ⟨h1, ⟨t, p, h2⟩, t', p', h3⟩ := h
  exact ⟨var_below (g := 1) (by kernel_rfl) h1 hb, ⟨t, p, var_below (g := 2) (by kernel_rfl) h2 hb⟩, t', p', var_below (g := 3) (by kernel_rfl) h3 hb⟩
theorem num_calls (n : Int) (h0 : -9223372036854775808 ≤ n) (h1 : n ≤ 9223372036854775807) (w : World) (hL : LW w) : Calls Tryz.prog 45 #[.int .i64 n] w fun e w' => e = .returned (.string ⟨(Lib.itoa n).toArray⟩) ∧ Below w.heap.size w w' := by
  have h := Any.strconv_FormatInt_10 Tryz.laysM173 n h0 h1 w hL.1
  clear hL
  go_enter Tryz.func45, Tryz.ntmps45
  go_wp2_with (go_at_call 56; refine h.mono ?_; rintro e w' ⟨rfl, k, os, rfl⟩)
  go_ret
  exact ⟨rfl, below_grow _ _ (Nat.le_refl _) _ _⟩
/-- what is read: the number, or below any that may be -/
def parsed (s : ByteArray) : Int := match Lib.parseIntB 32 s.data.toList with | .ok v => v | _ => -1
theorem parse_calls (s : ByteArray) (hmax : s.size ≤ 281474976710656) (w : World) (hL : LW w) : Calls Tryz.prog 50 #[.string s] w fun e w' => e = .returned (.int .i64 (parsed s)) ∧ Below w.heap.size w w' := by
  obtain ⟨_, ⟨t, p, h2⟩, t', p', h3⟩ := hL
  unfold parsed
  cases hp : Lib.parseIntB 32 s.data.toList with
  | ok v =>
    have h := Any.strconv_ParseInt_10_at32_ok Tryz.laysC174 s (by omega) v hp
    go_enter Tryz.func50, Tryz.ntmps50
    go_wp2_with (go_at_call 61; refine (h _).mono ?_; rintro e w' ⟨rfl, hw⟩; have hb : Below w.heap.size w w' := (by rcases hw with rfl | ⟨t, rfl⟩; exact Below.refl _ _; exact Lib.bytesWorld_below _ _ _); clear hw)
    go_ret
    exact ⟨rfl, hb⟩
  | «syntax» =>
    have h := Any.strconv_ParseInt_10_at32_syntax_var Tryz.laysC174 s hmax hp t p w h2
    clear h2 h3
    go_enter Tryz.func50, Tryz.ntmps50
    go_wp2_with (go_at_call 61; refine h.mono ?_; rintro e w' ⟨M, rfl, _, _, hb⟩)
    go_ret
    exact ⟨rfl, hb⟩
  | range =>
    have h := Any.strconv_ParseInt_10_at32_range_var Tryz.laysC174 s hmax hp t' p' w h3
    clear h2 h3
    go_enter Tryz.func50, Tryz.ntmps50
    go_wp2_with (go_at_call 61; refine h.mono ?_; rintro e w' ⟨M, rfl, _, _, hb⟩)
    go_ret
    exact ⟨rfl, hb⟩
end Go.Proofs.YtjjlicancbmjiaaGreatDoor.PNeg
