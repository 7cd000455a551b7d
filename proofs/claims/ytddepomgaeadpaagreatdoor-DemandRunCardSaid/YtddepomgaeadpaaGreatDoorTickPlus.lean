/- The contract of (tick.wide).plus, by a walk: the sum of two numbers of 128 bits, carry and all. -/
import Derived.Test.YtddepomgaeadpaaGreatDoorProg
import Derived.WalkKit
import Derived.WalkSpells
import Derived.KernelRfl
import Derived.Laws.Externs
import Derived.Below
import Derived.RowKit3
namespace Go.Proofs.YtddepomgaeadpaaGreatDoor.Ext
open Go.RowKit

theorem add64 (x y c : Int) (hx : 0 ≤ x) (hy : 0 ≤ y) (hc0 : 0 ≤ c) (hc : c ≤ 1) (w : World) : (callFunc 138 #[.int .u64 x, .int .u64 y, .int .u64 c]).run Tryz.prog w =
    .ok (.value (.tuple #[.int .u64 ((x + y + c) % 18446744073709551616), .int .u64 ((x + y + c) / 18446744073709551616)])) w := by
  rw [run_callFunc_extern Tryz.func138 (by kernel_rfl) (by kernel_rfl) (by kernel_rfl) (e := add64Entry) (by kernel_rfl), run_add64 x y c hx hy hc0 hc]
  rfl
theorem add64_0 (x y : Int) (hx : 0 ≤ x) (hy : 0 ≤ y) (w : World) : (callFunc 138 #[.int .u64 x, .int .u64 y, .int .u64 0]).run Tryz.prog w =
    .ok (.value (.tuple #[.int .u64 ((x + y) % 18446744073709551616), .int .u64 ((x + y) / 18446744073709551616)])) w := by
  simpa using add64 x y 0 hx hy (Int.le_refl 0) (by decide) w

def plusHi (a b c d : Int) : Int := wrap64 (wrap64 (a + c) + (b + d) / 18446744073709551616)
def plusLo (b d : Int) : Int := (b + d) % 18446744073709551616

theorem plus_any (a b c d : Int) (hb : 0 ≤ b) (hb' : b < 18446744073709551616) (hd : 0 ≤ d) (hd' : d < 18446744073709551616) (w : World) :
    Calls Tryz.prog 105 #[.agg #[.int .i64 a, .int .u64 b], .agg #[.int .i64 c, .int .u64 d]] w fun e w' =>
      e = .returned (.agg #[.int .i64 (plusHi a b c d), .int .u64 (plusLo b d)]) ∧ Below w.heap.size w w' := by
  have k0 : 0 ≤ (b + d) / 18446744073709551616 := by omega
  have k1 : (b + d) / 18446744073709551616 ≤ 1 := by omega
  clear hb' hd'
  go_enter Tryz.func105, Tryz.ntmps105
  go_wp2_with (first | simp only [add64_0 b d hb hd])
  simp [bodyPost, results, Tryz.results105, go_sem]
  exact ⟨⟨rfl, rfl⟩, (((Below.refl _ _).alloc (Nat.le_refl _) _).alloc (by simp) _).alloc (by simp; omega) _⟩
end Go.Proofs.YtddepomgaeadpaaGreatDoor.Ext
