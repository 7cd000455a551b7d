/- What comes in, as the printed contracts read it. -/
import Derived.Test.YtddepomgaeadpaaGreatDoorPAllx0
import Derived.Test.YtddepomgaeadpaaGreatDoorOpen
import Derived.Laws.BitsLemmas
namespace Go.Proofs.YtddepomgaeadpaaGreatDoor.On
open Go.RowKit
def I64 (a : Int) : Prop := -9223372036854775808 ≤ a ∧ a ≤ 9223372036854775807
theorem wf64 {a : Int} (h : (Lit.int .i64 a).wf = true) : I64 a := bounds_i64 h
theorem band_range (x : Int) (c : Nat) (hc : c < 4611686018427387904) : 0 ≤ bits .and .i64 x (c : Int) ∧ bits .and .i64 x (c : Int) ≤ (c : Int) := by
  have e : bits .and .i64 x (c : Int) = IntKind.i64.wrap (((BitVec.ofInt IntKind.i64.bits x).toNat &&& c : Nat) : Int) := by
    have hb : c % 2 ^ IntKind.i64.bits = c := Nat.mod_eq_of_lt (by simp [IntKind.bits]; omega)
    simp only [bits, BitVec.toNat_and, BitVec.ofInt_natCast, BitVec.toNat_ofNat, hb]
  have h1 : (BitVec.ofInt IntKind.i64.bits x).toNat &&& c ≤ c := Nat.and_le_right
  rw [e, IntKind.wrap_i64]
  omega
end Go.Proofs.YtddepomgaeadpaaGreatDoor.On
namespace Go.Proofs.YtddepomgaeadpaaGreatDoor.PAll
open Go.RowKit Go.Proofs.YtddepomgaeadpaaGreatDoorW.PrintWords Go.Proofs.YtddepomgaeadpaaGreatDoor.On
theorem recsC {w : World} {A : Option Addr} {len cap : Nat} {F : Nat → Nat → Int} (h : IsRec 3 w A len cap F) : ∃ l : List S31, l.length = len ∧ Kd.C k31 w A l.length l ∧ ∀ x ∈ l, I64 x.f0 ∧ I64 x.f1 ∧ I64 x.f2 := by
  obtain ⟨h1, h2, h3⟩ := h.len_le
  have hl : ((List.range len).map fun i => (⟨F i 0, F i 1, F i 2⟩ : S31)).length = len := by simp
  refine ⟨(List.range len).map fun i => ⟨F i 0, F i 1, F i 2⟩, hl, ⟨rfl, by rw [hl]; unfold maxLen at h1; omega, fun hp => ?_⟩, ?_⟩
  · rw [hl] at hp
    rcases h with ⟨_, h0, _⟩ | ⟨a, rfl, _, _, hc⟩
    · omega
    · refine ⟨a, rfl, fun j p hj => ?_⟩
      rw [List.getElem?_map] at hj
      obtain ⟨i, hi, rfl⟩ := Option.map_eq_some_iff.mp hj
      have hj' : j < len ∧ i = j := by
        obtain ⟨q1, q2⟩ := List.getElem?_eq_some_iff.mp hi
        simp at q1 q2
        omega
      obtain ⟨hjl, rfl⟩ := hj'
      refine ⟨_, rfl, k31_mk w _, fun q u hu => ?_⟩
      match q, hu with
      | 0, hu => cases hu; exact (hc i 0 hjl (by omega)).1
      | 1, hu => cases hu; exact (hc i 1 hjl (by omega)).1
      | 2, hu => cases hu; exact (hc i 2 hjl (by omega)).1
      | q + 3, hu => simp at hu
  · intro x hx
    obtain ⟨i, hi, rfl⟩ := List.mem_map.mp hx
    have hi' : i < len := List.mem_range.mp hi
    exact ⟨wf64 (h.wf i 0 hi' (by omega)), wf64 (h.wf i 1 hi' (by omega)), wf64 (h.wf i 2 hi' (by omega))⟩
theorem rowC {w : World} {A : Option Addr} {len cap : Nat} {zs : List Int} (h : IsRow .i64 w A len cap zs) : ∃ l : List Int, l.length = len ∧ Kd.C (Kd.int .i64) w A l.length l ∧ ∀ x ∈ l, I64 x := by
  obtain ⟨h1, h2, h3, h4⟩ := h.len_le
  have hl : (zs.take len).length = len := by rw [List.length_take]; omega
  refine ⟨zs.take len, hl, ⟨rfl, by rw [hl]; unfold maxLen at h2; omega, fun hp => ?_⟩, ?_⟩
  · rw [hl] at hp
    rcases h with ⟨_, h0, _⟩ | ⟨a, rfl, _, _, hz, hc, _⟩
    · omega
    · refine ⟨a, rfl, fun j p hj => ?_⟩
      obtain ⟨q1, q2⟩ := List.getElem?_eq_some_iff.mp hj
      rw [hl] at q1
      have hp' : p = zs.getD j 0 := by
        rw [← q2, List.getElem_take, List.getD_eq_getElem?_getD, List.getElem?_eq_getElem (by omega)]; rfl
      subst hp'
      refine ⟨[.int .i64 (zs.getD j 0)], rfl, rfl, fun q u hu => ?_⟩
      match q, hu with
      | 0, hu =>
        cases hu
        have := hc j (by omega)
        simpa [Kd.int, Kd.scalar] using this
      | q + 1, hu => simp at hu
  · intro x hx
    obtain ⟨j, hj, rfl⟩ := List.getElem_of_mem hx
    rw [hl] at hj
    have := h.wf j hj
    have e : (zs.take len)[j] = zs.getD j 0 := by
      rw [List.getElem_take, List.getD_eq_getElem?_getD, List.getElem?_eq_getElem (by omega)]; rfl
    rw [e]; exact wf64 this
end Go.Proofs.YtddepomgaeadpaaGreatDoor.PAll
