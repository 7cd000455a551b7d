/- What comes in: configurations, tasks, loads, pieces, as the printed contracts read them. -/
import Derived.Test.YtjjlicancbmjiaaGreatDoorPBegx0
import Derived.Test.YtjjlicancbmjiaaGreatDoorOpen
import Derived.Laws.BitsLemmas
import Derived.Lib.SmallJoins
import Derived.WideWitness
namespace Go.Proofs.YtjjlicancbmjiaaGreatDoor.On
open Go.RowKit Go.ChangeShapes Go.WideShapes Go.Deep
set_option linter.unusedVariables false
def I64 (a : Int) : Prop := -9223372036854775808 ≤ a ∧ a ≤ 9223372036854775807
theorem wf64 {a : Int} (h : (Lit.int .i64 a).wf = true) : I64 a := bounds_i64 h
section
variable {H : Type} {enc : TypeId × Value → H} {P : Program} {w : World} {base : Nat} {spare : Nat → Bool} {held : Bool}
theorem open_agg {r : Reach} {b0 : Nat} {t : TypeId} {fs : Array Field} {v : Value} {d : DataW H} {p : List MemPlace} (hs : P.underlying t = some (.struct fs)) (hone : oneCellFields P fs = true) (hC : P.cellsOf t = fs.size)
    (hv : Value.okWide P w r b0 t v) (h : DataW.Trod enc P w base spare held t v d p) :
    ∃ (cs : Array Value) (n : Nat), v = .agg cs ∧ cs.size = fs.size ∧ ∀ (j : Nat) (f : Field) (x : Value), fs[j]? = some f → cs[j]? = some x → ∃ y, DataW.trod enc P w base spare held n f.type [x] = some y := by
  obtain ⟨cs, rfl, hsz⟩ := okWide_struct hs hv
  obtain ⟨fuel, hf⟩ := h
  obtain ⟨ys, n', _, _, hcl, hyl, hg⟩ := DataW.trod_struct hs hf
  refine ⟨cs, n', rfl, hsz.trans hC, fun j f x hfj hx => ?_⟩
  obtain ⟨ho, hk⟩ := hone_of hone j _ hfj
  have h1 := hg j _ hfj
  rw [ho, hk] at h1
  have hj : j < fs.size := (Array.getElem?_eq_some_iff.mp hfj).1
  have hys : ys[j]? = some (ys[j]'(by omega)) := List.getElem?_eq_getElem (by omega)
  rw [hys] at h1
  have e : ((Value.agg cs).cells.toList.drop j).take 1 = [x] := by
    obtain ⟨h2, h3⟩ := Array.getElem?_eq_some_iff.mp hx
    show (cs.toList.drop j).take 1 = [x]
    rw [List.drop_eq_getElem_cons (by simpa using h2)]
    simp [h3]
  rw [e] at h1
  exact ⟨_, h1⟩
end
theorem array5 {α : Type} {cs : Array α} (h : cs.size = 5) : ∃ a b c d e, cs = #[a, b, c, d, e] := by
  obtain ⟨l⟩ := cs
  match l, h with
  | [a, b, c, d, e], _ => exact ⟨a, b, c, d, e, rfl⟩
theorem array4 {α : Type} {cs : Array α} (h : cs.size = 4) : ∃ a b c d, cs = #[a, b, c, d] := by
  obtain ⟨l⟩ := cs
  match l, h with
  | [a, b, c, d], _ => exact ⟨a, b, c, d, rfl⟩
end Go.Proofs.YtjjlicancbmjiaaGreatDoor.On
namespace Go.Proofs.YtjjlicancbmjiaaGreatDoor.PBeg
open Go.RowKit Go.ChangeShapes Go.WideShapes Go.Deep Go.Proofs.YtjjlicancbmjiaaGreatDoorW.PrintWords Go.Proofs.YtjjlicancbmjiaaGreatDoor.On
set_option linter.unusedVariables false
theorem recsC {w : World} {A : Option Addr} {len cap : Nat} {F : Nat → Nat → Int} (h : IsRec 3 w A len cap F) : ∃ l : List S43, l.length = len ∧ Kd.C k43 w A l.length l ∧ ∀ x ∈ l, I64 x.f0 ∧ I64 x.f1 ∧ I64 x.f2 := by
  obtain ⟨h1, h2, h3⟩ := h.len_le
  have hl : ((List.range len).map fun i => (⟨F i 0, F i 1, F i 2⟩ : S43)).length = len := by simp
  refine ⟨(List.range len).map fun i => ⟨F i 0, F i 1, F i 2⟩, hl, ⟨rfl, by rw [hl]; unfold maxLen at h1; omega, fun hp => ?_⟩, ?_⟩
  · rw [hl] at hp
    rcases h with ⟨_, h0, _⟩ | ⟨a, rfl, _, _, hc⟩
    · omega
    · refine ⟨a, rfl, fun j p hj => ?_⟩
      rw [List.getElem?_map] at hj
      obtain ⟨i, hi, rfl⟩ := Option.map_eq_some_iff.mp hj
      have hj' : j < len ∧ i = j := by
        obtain ⟨q1, q2⟩ := List.getElem?_eq_some_iff.mp hi
        simp at q1 q2
        omega
      obtain ⟨hjl, rfl⟩ := hj'
      refine ⟨_, rfl, k43_mk w _, fun q u hu => ?_⟩
      match q, hu with
      | 0, hu => cases hu; exact (hc i 0 hjl (by omega)).1
      | 1, hu => cases hu; exact (hc i 1 hjl (by omega)).1
      | 2, hu => cases hu; exact (hc i 2 hjl (by omega)).1
      | q + 3, hu => simp at hu
  · intro x hx
    obtain ⟨i, hi, rfl⟩ := List.mem_map.mp hx
    have hi' : i < len := List.mem_range.mp hi
    exact ⟨wf64 (h.wf i 0 hi' (by omega)), wf64 (h.wf i 1 hi' (by omega)), wf64 (h.wf i 2 hi' (by omega))⟩
theorem rowC {w : World} {A : Option Addr} {len cap : Nat} {zs : List Int} (h : IsRow .i64 w A len cap zs) : ∃ l : List Int, l.length = len ∧ Kd.C (Kd.int .i64) w A l.length l ∧ ∀ x ∈ l, I64 x := by
  obtain ⟨h1, h2, h3, h4⟩ := h.len_le
  have hl : (zs.take len).length = len := by rw [List.length_take]; omega
  refine ⟨zs.take len, hl, ⟨rfl, by rw [hl]; unfold maxLen at h2; omega, fun hp => ?_⟩, ?_⟩
  · rw [hl] at hp
    rcases h with ⟨_, h0, _⟩ | ⟨a, rfl, _, _, hz, hc, _⟩
    · omega
    · refine ⟨a, rfl, fun j p hj => ?_⟩
      obtain ⟨q1, q2⟩ := List.getElem?_eq_some_iff.mp hj
      rw [hl] at q1
      have hp' : p = zs.getD j 0 := by
        rw [← q2, List.getElem_take, List.getD_eq_getElem?_getD, List.getElem?_eq_getElem (by omega)]; rfl
      subst hp'
      refine ⟨[.int .i64 (zs.getD j 0)], rfl, rfl, fun q u hu => ?_⟩
      match q, hu with
      | 0, hu =>
        cases hu
        have := hc j (by omega)
        simpa [Kd.int, Kd.scalar] using this
      | q + 1, hu => simp at hu
  · intro x hx
    obtain ⟨i, hi, rfl⟩ := List.mem_iff_getElem.mp hx
    rw [hl] at hi
    have := h.wf i hi
    rw [List.getD_eq_getElem?_getD, List.getElem?_eq_getElem (by omega)] at this
    rw [List.getElem_take]
    exact wf64 this
section
variable {H : Type} {enc : TypeId × Value → H} {w : World} {base : Nat} {held : Bool} {r : Reach} {b0 : Nat} {v : Value} {d : DataW H} {p : List MemPlace}
theorem field_int {n : Nat} {t : TypeId} {x : Value} (ht : Tryz.prog.underlying t = some (.int .i64)) (h : ∃ y, DataW.trod enc Tryz.prog w base (fun _ => true) held n t [x] = some y) : ∃ a, x = .int .i64 a ∧ I64 a := by
  obtain ⟨y, h⟩ := h
  obtain ⟨a, e, _, hw⟩ := DataW.trod_int ht h
  exact ⟨a, by simpa using e, wf64 hw⟩
set_option maxRecDepth 100000 in
theorem open_config (hv : Value.okWide Tryz.prog w r b0 24 v) (h : DataW.Trod enc Tryz.prog w base (fun _ => true) held 24 v d p) :
    ∃ (a b c e : Int) (A : Option Addr) (cap : Nat) (l : List Int), v = .agg #[.int .i64 a, .int .i64 b, .int .i64 c, .int .i64 e, .slice A l.length cap] ∧ (I64 a ∧ I64 b ∧ I64 c ∧ I64 e ∧ ∀ x ∈ l, I64 x) ∧ Kd.C (Kd.int .i64) w A l.length l ∧ l.length ≤ cap := by
  obtain ⟨cs, n, rfl, hsz, hf⟩ := open_agg Tryz.underlying24 (by kernel_rfl) (by kernel_rfl) hv h
  obtain ⟨x0, x1, x2, x3, x4, rfl⟩ := array5 hsz
  obtain ⟨a, rfl, ha⟩ := field_int Tryz.underlying3 (hf 0 _ _ rfl rfl)
  obtain ⟨b, rfl, hb⟩ := field_int Tryz.underlying3 (hf 1 _ _ rfl rfl)
  obtain ⟨c, rfl, hc⟩ := field_int Tryz.underlying2 (hf 2 _ _ rfl rfl)
  obtain ⟨e, rfl, he⟩ := field_int Tryz.underlying2 (hf 3 _ _ rfl rfl)
  obtain ⟨y, h4⟩ := hf 4 _ _ rfl rfl
  obtain ⟨A, len, cap, zs, rfl, hz⟩ : ∃ A len cap zs, x4 = .slice A len cap ∧ IsRow .i64 w A len cap zs := by
    rcases open_ints Tryz.underlying22 Tryz.underlying3 (by kernel_rfl) h4 with ⟨hcs, _⟩ | ⟨x, l, c, zs, hcs, _, hl, hm, hz, _, hcell, hwz⟩
    · exact ⟨none, 0, 0, [], by simpa using hcs, .inl ⟨rfl, rfl, rfl, rfl⟩⟩
    · exact ⟨_, l, c, zs, by simpa using hcs, .inr ⟨_, rfl, hl, hm, by simpa using hz, hcell, hwz⟩⟩
  obtain ⟨l, rfl, hl, hI⟩ := rowC hz
  exact ⟨a, b, c, e, A, cap, l, rfl, ⟨ha, hb, hc, he, hI⟩, hl, hz.len_le.2.2.1⟩
set_option maxRecDepth 100000 in
theorem open_task (hv : Value.okWide Tryz.prog w r b0 27 v) (h : DataW.Trod enc Tryz.prog w base (fun _ => true) held 27 v d p) :
    ∃ (a b c : Int) (A : Option Addr) (cap : Nat) (l : List S43), v = .agg #[.int .i64 a, .int .i64 b, .int .i64 c, .slice A l.length cap] ∧ (I64 a ∧ I64 b ∧ I64 c ∧ ∀ x ∈ l, I64 x.f0 ∧ I64 x.f1 ∧ I64 x.f2) ∧ Kd.C k43 w A l.length l ∧ l.length ≤ cap := by
  obtain ⟨cs, n, rfl, hsz, hf⟩ := open_agg Tryz.underlying27 (by kernel_rfl) (by kernel_rfl) hv h
  obtain ⟨x0, x1, x2, x3, rfl⟩ := array4 hsz
  obtain ⟨a, rfl, ha⟩ := field_int Tryz.underlying2 (hf 0 _ _ rfl rfl)
  obtain ⟨b, rfl, hb⟩ := field_int Tryz.underlying2 (hf 1 _ _ rfl rfl)
  obtain ⟨c, rfl, hc⟩ := field_int Tryz.underlying2 (hf 2 _ _ rfl rfl)
  obtain ⟨y, h4⟩ := hf 3 _ _ rfl rfl
  obtain ⟨A, len, cap, F, rfl, hz⟩ : ∃ A len cap F, x3 = .slice A len cap ∧ IsRec 3 w A len cap F := by
    rcases open_recs Tryz.underlying25 Tryz.underlying43 (by kernel_rfl) (by kernel_rfl) (by
      intro j f hf
      match j, hf with
      | 0, hf => cases hf; exact Tryz.underlying3
      | 1, hf => cases hf; exact Tryz.underlying2
      | 2, hf => cases hf; exact Tryz.underlying2
      | j + 3, hf => simp at hf) h4 with hcs | ⟨x, l, c, F, hcs, hF⟩
    · exact ⟨none, 0, 0, fun _ _ => 0, by simpa using hcs, .inl ⟨rfl, rfl, rfl⟩⟩
    · exact ⟨_, l, c, F, by simpa using hcs, hF⟩
  obtain ⟨l, rfl, hl, hI⟩ := recsC hz
  exact ⟨a, b, c, A, cap, l, rfl, ⟨ha, hb, hc, hI⟩, hl, hz.len_le.2.1⟩
end
end Go.Proofs.YtjjlicancbmjiaaGreatDoor.PBeg
