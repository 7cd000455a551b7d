/- Maps, the heap as a list, what is due: plain laws. -/
import Derived.Maps.Keyed
import Derived.WideKeyEntry

/-! YtpmamgdblbplcaaMaps -/
namespace Go.Proofs.Ytpmamgdblbplcaa.Mp
set_option linter.unusedSectionVars false
open Go.ChangeShapes Go.WideShapes Go.MapKept Go.ChangeMaps Go.Maps Go.WideElems

variable {α : Type} [DecidableEq α]

/-- Block B is a map that holds just f; enc: a key as a value. -/
structure MRep (P : Program) (k : TypeId) (enc : α → Value) (w : World) (B : Nat) (es : Array MapEntry) (clock : Nat) (f : α → Option Value) : Prop where
  blk : w.heap[B]? = some (.map es clock)
  keys : ∀ e ∈ es.toList, ∃ l, keyOf P k e.key = some l
  borns : (es.toList.map (·.born)).Nodup
  old : ∀ e ∈ es.toList, e.born < clock
  one : (es.toList.map (·.key)).Nodup
  reads : ∀ a v, (∃ l, keyOf P k (enc a) = some l) → (f a = some v ↔ ∃ e ∈ es.toList, e.key = enc a ∧ e.val = v)

def upd (f : α → Option Value) (a : α) (v : Option Value) : α → Option Value := fun x => if x = a then v else f x

section
variable {P : Program} {k t el : TypeId} {enc : α → Value} {w : World} {B : Nat} {es : Array MapEntry} {clock : Nat} {f : α → Option Value}

theorem MRep.made (w : World) (P : Program) (k : TypeId) (enc : α → Value) : MRep P k enc (w.alloc (.map #[] 0)) w.heap.size #[] 0 (fun _ => none) where
  blk := by unfold World.alloc; exact Array.getElem?_push_size
  keys := fun e he => by simp at he
  borns := by simp
  old := fun e he => by simp at he
  one := by simp
  reads := fun a v _ => by simp

theorem MRep.move {w' : World} (h : MRep P k enc w B es clock f) (hb : w'.heap[B]? = w.heap[B]?) : MRep P k enc w' B es clock f :=
  { h with blk := by rw [hb]; exact h.blk }

theorem MRep.lt (h : MRep P k enc w B es clock f) : B < w.heap.size := by
  have := h.blk
  apply Classical.byContradiction
  intro hn
  rw [Array.getElem?_eq_none (by omega)] at this
  cases this

theorem heap_setBlock (w : World) (B : Nat) (o : Obj) (hB : B < w.heap.size) : (setBlock w B o).heap[B]? = some o := by
  simp [setBlock, hB]
theorem heap_setBlock_ne (w : World) (B i : Nat) (o : Obj) (hne : i ≠ B) : (setBlock w B o).heap[i]? = w.heap[i]? := by
  simp [setBlock, Array.getElem?_setIfInBounds_ne (Ne.symm hne)]

theorem nodup_key {es : List MapEntry} (h : (es.map (·.key)).Nodup) {e e' : MapEntry} (he : e ∈ es) (he' : e' ∈ es) (hk : e.key = e'.key) : e = e' := by
  obtain ⟨i, hi⟩ := List.getElem?_of_mem he
  obtain ⟨j, hj⟩ := List.getElem?_of_mem he'
  have h1 : (es.map (·.key))[i]? = some e.key := by rw [List.getElem?_map, hi]; rfl
  have h2 : (es.map (·.key))[j]? = some e.key := by rw [List.getElem?_map, hj, hk]; rfl
  have := (List.getElem?_inj (List.getElem?_eq_some_iff.1 h1).1 h).1 (h1.trans h2.symm)
  subst this
  rw [hi] at hj
  exact Option.some.inj hj

/-- What the map has at a key, as the search finds it. -/
theorem MRep.find (K : Keyed P k) (h : MRep P k enc w B es clock f) {a : α} {kl : Lit} (hkey : keyOf P k (enc a) = some kl) (w0 : World) :
    (f a = none ∧ (Instr.findKey k (enc a) es.toList).run P w0 = .ok none w0 ∧ ∀ e ∈ es.toList, e.key ≠ enc a) ∨
    ∃ j e, f a = some e.val ∧ (Instr.findKey k (enc a) es.toList).run P w0 = .ok (some (j, e.val)) w0 ∧ es.toList[j]? = some e ∧ e.key = enc a := by
  rcases K.find w0 hkey es.toList h.keys with ⟨h1, h2⟩ | ⟨j, e, h1, h2, h3⟩
  · left
    refine ⟨?_, h1, h2⟩
    cases hf : f a with
    | none => rfl
    | some v =>
      obtain ⟨e, he, hk, _⟩ := (h.reads a v ⟨kl, hkey⟩).1 hf
      exact absurd hk (h2 e he)
  · right
    exact ⟨j, e, (h.reads a e.val ⟨kl, hkey⟩).2 ⟨e, List.mem_of_getElem? h2, h3, rfl⟩, h1, h2, h3⟩

/-- 'v, ok := m[k]', 'm[k]'. -/
theorem MRep.look (K : Keyed P k) (ht : P.underlying t = some (.map k el)) {z : Value} (hz : (zeroValue el).run P w = .ok z w) (h : MRep P k enc w B es clock f) {a : α} {kl : Lit} (hkey : keyOf P k (enc a) = some kl) (c : Bool) :
    (Instr.lookup t (.map (some B)) (enc a) c).run P w = .ok (if c then .tuple #[(f a).getD z, .bool (f a).isSome] else (f a).getD z) w := by
  rcases h.find K hkey w with ⟨h0, h1, h2⟩ | ⟨j, e, h0, h1, h2, h3⟩
  · simp [Instr.lookup, run_underlying ht, MapKept.run_getObj_map h.blk, K.check w _ hkey, h1, hz, h0, Result.andThen]
  · simp [Instr.lookup, run_underlying ht, MapKept.run_getObj_map h.blk, K.check w _ hkey, h1, h0, Result.andThen]

/-- an element in the place of another -/
theorem MRep.put_at (hinj : ∀ a b : α, enc a = enc b → a = b) (h : MRep P k enc w B es clock f) {a : α} {j : Nat} {e0 : MapEntry} (h2 : es.toList[j]? = some e0) (h3 : e0.key = enc a) (val : Value) {w' : World}
    (hb : w'.heap[B]? = some (.map (es.modify j (fun e => { e with key := enc a, val := val })) clock)) : MRep P k enc w' B (es.modify j (fun e => { e with key := enc a, val := val })) clock (upd f a (some val)) := by
  have hl : (es.modify j (fun e => { e with key := enc a, val := val })).toList = es.toList.set j { e0 with key := enc a, val := val } := by
    rw [Array.toList_modify, modify_eq_set _ _ _ _ h2]
  have hjl : j < es.toList.length := (List.getElem?_eq_some_iff.1 h2).1
  have hm : ∀ e, e ∈ es.toList.set j { e0 with key := enc a, val := val } → e = { e0 with key := enc a, val := val } ∨ (e ∈ es.toList) := fun e he => (List.mem_or_eq_of_mem_set he).symm
  have hk : (es.toList.set j { e0 with key := enc a, val := val }).map (·.key) = es.toList.map (·.key) := by
    rw [List.map_set]
    exact set_self _ _ _ (by rw [List.getElem?_map, h2]; simp [h3])
  have hbn : (es.toList.set j { e0 with key := enc a, val := val }).map (·.born) = es.toList.map (·.born) := by
    rw [List.map_set]
    exact set_self _ _ _ (by rw [List.getElem?_map, h2]; simp)
  have h0 := List.mem_of_getElem? h2
  refine ⟨hb, ?_, ?_, ?_, ?_, ?_⟩
  · intro e he
    rw [hl] at he
    rcases hm e he with rfl | he
    · have := h.keys e0 h0
      rwa [h3] at this
    · exact h.keys e he
  · rw [hl, hbn]; exact h.borns
  · intro e he
    rw [hl] at he
    rcases hm e he with rfl | he
    · exact h.old e0 h0
    · exact h.old e he
  · rw [hl, hk]; exact h.one
  · intro b v hkb
    rw [hl]
    unfold upd
    by_cases hab : b = a
    · subst hab
      rw [if_pos rfl]
      constructor
      · intro e
        cases e
        exact ⟨_, List.mem_of_getElem? (i := j) (by rw [List.getElem?_set_self hjl]), rfl, rfl⟩
      · rintro ⟨e, he, hk1, hv⟩
        have hk' := hk ▸ h.one
        have := nodup_key hk' he (List.mem_of_getElem? (i := j) (by rw [List.getElem?_set_self hjl])) (by rw [hk1])
        rw [this] at hv
        rw [← hv]
    · rw [if_neg hab, h.reads b v hkb]
      constructor
      · rintro ⟨e, he, hk1, hv⟩
        obtain ⟨i, hi⟩ := List.getElem?_of_mem he
        refine ⟨e, List.mem_of_getElem? (i := i) ?_, hk1, hv⟩
        rw [List.getElem?_set_ne ?_, hi]
        rintro rfl
        rw [h2] at hi
        cases hi
        exact hab (hinj _ _ (by rw [← hk1, h3]))
      · rintro ⟨e, he, hk1, hv⟩
        rcases hm e he with rfl | he
        · exact absurd (hinj _ _ hk1).symm hab
        · exact ⟨e, he, hk1, hv⟩

/-- The two halves of 'm[k] = v' at a key that is there: the first leaves the world as it is. -/
theorem MRep.entry (K : Keyed P k) (ht : P.underlying t = some (.map k el)) (hinj : ∀ a b : α, enc a = enc b → a = b) (h : MRep P k enc w B es clock f) {a : α} {kl : Lit} (hkey : keyOf P k (enc a) = some kl) {v : Value} (hf : f a = some v) :
    ∃ (st : Nat), (Instr.mapEntry t (.map (some B)) (enc a)).run P w = .ok (.tuple #[v, goInt st]) w ∧
      ∀ val, (Instr.entryStore t (.map (some B)) (goInt st) val).run P w = .ok () (setBlock w B (.map (es.modify (es.toList.findIdx (fun e => e.born == st)) (fun e => { e with key := enc a, val := val })) clock)) ∧
        MRep P k enc (setBlock w B (.map (es.modify (es.toList.findIdx (fun e => e.born == st)) (fun e => { e with key := enc a, val := val })) clock)) B (es.modify (es.toList.findIdx (fun e => e.born == st)) (fun e => { e with key := enc a, val := val })) clock (upd f a (some val)) := by
  rcases h.find K hkey w with ⟨h0, h1, h2⟩ | ⟨j, e0, h0, h1, h2, h3⟩
  · rw [h0] at hf; cases hf
  · have hj : es[j]? = some e0 := by simpa using h2
    rw [h0] at hf
    cases hf
    have hsame : es.modify j (fun e => { e with key := enc a }) = es := by
      apply Array.ext'
      rw [Array.toList_modify, modify_eq_set _ _ _ _ h2]
      have : ({ e0 with key := enc a } : MapEntry) = e0 := by rw [← h3]
      rw [this]
      exact set_self _ _ _ h2
    have hw : setBlock w B (.map es clock) = w := by
      unfold setBlock
      have : w.heap.setIfInBounds B (.map es clock) = w.heap := by
        apply Array.ext'
        rw [Array.toList_setIfInBounds]
        exact set_self _ _ _ (by simpa using h.blk)
      rw [this]
    have hidx : es.findIdx? (fun e => ((e.born : Nat) : Int) == ((e0.born : Nat) : Int)) = some j := by
      rw [findIdx_arr]
      exact findIdx_born h.borns h2
    have hfi : es.toList.findIdx (fun e => e.born == e0.born) = j := by
      have := findIdx_born h.borns h2
      have e1 : (fun e : MapEntry => ((e.born : Nat) : Int) == ((e0.born : Nat) : Int)) = (fun e => e.born == e0.born) := by
        funext e
        rw [Bool.eq_iff_iff, beq_iff_eq, beq_iff_eq]
        omega
      rw [e1] at this
      exact (List.findIdx?_eq_some_iff_findIdx_eq.1 this).2
    refine ⟨e0.born, ?_, fun val => ⟨?_, ?_⟩⟩
    · have : (Instr.mapEntry t (.map (some B)) (enc a)).run P w = .ok (.tuple #[e0.val, goInt e0.born]) (setBlock w B (.map es clock)) := by
        simp [Instr.mapEntry, run_underlying ht, MapKept.run_getObj_map h.blk, K.check w false hkey, h1, hj, h3, K.stays w hkey, hsame, MapKept.run_setObj_map _ h.blk, Result.andThen, setBlock]
      rwa [hw] at this
    · rw [hfi]
      have hmod : es.modify j (fun e => { e with val := val }) = es.modify j (fun e' => { e' with key := enc a, val := val }) := by
        apply Array.ext'
        rw [Array.toList_modify, Array.toList_modify, modify_eq_set _ _ _ _ h2, modify_eq_set _ _ _ _ h2, ← h3]
      simp [Instr.entryStore, MapKept.run_getObj_map h.blk, asInt, asIntOf, goInt, hidx, hmod, MapKept.run_setObj_map _ h.blk, Result.andThen, setBlock]
    · rw [hfi]
      exact h.put_at hinj h2 h3 val (heap_setBlock _ _ _ h.lt)

/-- 'm[k] = v'. -/
theorem MRep.store (K : Keyed P k) (ht : P.underlying t = some (.map k el)) (hinj : ∀ a b : α, enc a = enc b → a = b) (h : MRep P k enc w B es clock f) {a : α} {kl : Lit} (hkey : keyOf P k (enc a) = some kl) (val : Value) :
    ∃ es' clock', (Instr.mapUpdate t (.map (some B)) (enc a) val).run P w = .ok () (setBlock w B (.map es' clock')) ∧ MRep P k enc (setBlock w B (.map es' clock')) B es' clock' (upd f a (some val)) := by
  rcases h.find K hkey w with ⟨h0, h1, h2⟩ | ⟨j, e0, h0, h1, h2, h3⟩
  · refine ⟨es.push ⟨enc a, val, clock⟩, clock + 1, ?_, heap_setBlock _ _ _ h.lt, ?_, ?_, ?_, ?_, ?_⟩
    · simp [Instr.mapUpdate, run_underlying ht, MapKept.run_getObj_map h.blk, K.check w false hkey, h1, MapKept.run_setObj_map _ h.blk, Result.andThen, setBlock]
    · intro e he
      rw [Array.toList_push] at he
      rcases List.mem_append.1 he with he | he
      · exact h.keys e he
      · simp only [List.mem_singleton] at he; subst he; exact ⟨kl, hkey⟩
    · rw [Array.toList_push, List.map_append]
      refine List.nodup_append.2 ⟨h.borns, by simp, fun x hx c hc e1 => ?_⟩
      simp only [List.map_cons, List.map_nil, List.mem_singleton] at hc
      obtain ⟨y, hy, rfl⟩ := List.mem_map.1 hx
      have := h.old y hy
      omega
    · intro e he
      rw [Array.toList_push] at he
      rcases List.mem_append.1 he with he | he
      · have := h.old e he; omega
      · simp only [List.mem_singleton] at he; subst he; exact Nat.lt_succ_self _
    · rw [Array.toList_push, List.map_append]
      refine List.nodup_append.2 ⟨h.one, by simp, fun x hx c hc e1 => ?_⟩
      simp only [List.map_cons, List.map_nil, List.mem_singleton] at hc
      obtain ⟨y, hy, rfl⟩ := List.mem_map.1 hx
      exact h2 y hy (e1.trans hc)
    · intro b v hkb
      unfold upd
      rw [Array.toList_push]
      by_cases hab : b = a
      · subst hab
        rw [if_pos rfl]
        constructor
        · intro e; cases e; exact ⟨_, List.mem_append_right _ (List.mem_singleton.2 rfl), rfl, rfl⟩
        · rintro ⟨e, he, hk1, hv⟩
          rcases List.mem_append.1 he with he | he
          · exact absurd hk1 (h2 e he)
          · simp only [List.mem_singleton] at he; subst he; rw [← hv]
      · rw [if_neg hab, h.reads b v hkb]
        constructor
        · rintro ⟨e, he, hk1, hv⟩
          exact ⟨e, List.mem_append_left _ he, hk1, hv⟩
        · rintro ⟨e, he, hk1, hv⟩
          rcases List.mem_append.1 he with he | he
          · exact ⟨e, he, hk1, hv⟩
          · simp only [List.mem_singleton] at he; subst he
            exact absurd (hinj _ _ hk1).symm hab
  · have hj : es[j]? = some e0 := by simpa using h2
    refine ⟨es.modify j (fun e => { e with key := enc a, val := val }), clock, ?_, h.put_at hinj h2 h3 val (heap_setBlock _ _ _ h.lt)⟩
    simp [Instr.mapUpdate, run_underlying ht, MapKept.run_getObj_map h.blk, K.check w false hkey, h1, hj, h3, K.stays w hkey, MapKept.run_setObj_map _ h.blk, Result.andThen, setBlock]

/-- 'delete(m, k)'. -/
theorem MRep.drop {ty : TypeId} (K : Keyed P k) (ht : P.underlying t = some (.map k el)) (hinj : ∀ a b : α, enc a = enc b → a = b) (h : MRep P k enc w B es clock f) {a : α} {kl : Lit} (hkey : keyOf P k (enc a) = some kl) :
    ∃ es', (Builtin.delete_ #[t, k] ty #[.map (some B), enc a]).run P w = .ok (.tuple #[]) (setBlock w B (.map es' clock)) ∧ MRep P k enc (setBlock w B (.map es' clock)) B es' clock (upd f a none) := by
  rcases h.find K hkey w with ⟨h0, h1, h2⟩ | ⟨j, e0, h0, h1, h2, h3⟩
  · refine ⟨es, ?_, { h with blk := heap_setBlock _ _ _ h.lt, reads := ?_ }⟩
    · simp [Builtin.delete_, run_underlying ht, MapKept.run_getObj_map h.blk, K.check w _ hkey, h1, MapKept.run_setObj_map _ h.blk, Result.andThen, setBlock]
    · intro b v hkb
      unfold upd
      by_cases hab : b = a
      · subst hab
        rw [if_pos rfl]
        constructor
        · intro e; cases e
        · rintro ⟨e, he, hk1, _⟩; exact absurd hk1 (h2 e he)
      · rw [if_neg hab]; exact h.reads b v hkb
  · have hjl : j < es.toList.length := (List.getElem?_eq_some_iff.1 h2).1
    have hjs : j < es.size := by simpa using hjl
    have hsub : (es.eraseIdxIfInBounds j).toList = es.toList.eraseIdx j := by
      unfold Array.eraseIdxIfInBounds
      rw [dif_pos hjs]
      simp
    have hin : ∀ e, e ∈ es.toList.eraseIdx j → e ∈ es.toList := fun e he => (List.eraseIdx_sublist _ _).subset he
    refine ⟨es.eraseIdxIfInBounds j, ?_, heap_setBlock _ _ _ h.lt, ?_, ?_, ?_, ?_, ?_⟩
    · simp [Builtin.delete_, run_underlying ht, MapKept.run_getObj_map h.blk, K.check w _ hkey, h1, MapKept.run_setObj_map _ h.blk, Result.andThen, setBlock]
    · intro e he; rw [hsub] at he; exact h.keys e (hin e he)
    · rw [hsub]; exact h.borns.sublist ((List.eraseIdx_sublist _ _).map _)
    · intro e he; rw [hsub] at he; exact h.old e (hin e he)
    · rw [hsub]; exact h.one.sublist ((List.eraseIdx_sublist _ _).map _)
    · intro b v hkb
      rw [hsub]
      unfold upd
      by_cases hab : b = a
      · subst hab
        rw [if_pos rfl]
        constructor
        · intro e; cases e
        · rintro ⟨e, he, hk1, _⟩
          obtain ⟨i, hi⟩ := List.getElem?_of_mem he
          have e1 := nodup_key h.one (hin e he) (List.mem_of_getElem? h2) (by rw [hk1, h3])
          subst e1
          exfalso
          have hnd : es.toList.Nodup := (List.pairwise_map.1 h.one).imp (fun hne e => hne (by rw [e]))
          rw [List.getElem?_eraseIdx] at hi
          split at hi
          · rename_i c
            have := (List.getElem?_inj (by omega) hnd).1 (hi.trans h2.symm)
            omega
          · rename_i c
            have := (List.getElem?_inj (by rw [List.getElem?_eq_some_iff] at hi; exact hi.1) hnd).1 (hi.trans h2.symm)
            omega
      · rw [if_neg hab, h.reads b v hkb]
        constructor
        · rintro ⟨e, he, hk1, hv⟩
          refine ⟨e, ?_, hk1, hv⟩
          obtain ⟨i, hi⟩ := List.getElem?_of_mem he
          have hij : i ≠ j := by
            rintro rfl
            rw [h2] at hi
            cases hi
            exact hab (hinj _ _ (by rw [← hk1, h3]))
          by_cases c : i < j
          · exact List.mem_of_getElem? (i := i) (by rw [List.getElem?_eraseIdx, if_pos c]; exact hi)
          · exact List.mem_of_getElem? (i := i - 1) (by rw [List.getElem?_eraseIdx, if_neg (by omega), show i - 1 + 1 = i from by omega]; exact hi)
        · rintro ⟨e, he, hk1, hv⟩
          exact ⟨e, hin e he, hk1, hv⟩
end
end Go.Proofs.Ytpmamgdblbplcaa.Mp

/-! YtpmamgdblbplcaaHeapModel -/
namespace Go.Proofs.Ytpmamgdblbplcaa.HeapModel

structure It (α : Type) where
  v : α
  a : Int
  b : Int
  m : Int

variable {α : Type}

/-- x stands ahead of y. -/
def lt (x y : It α) : Bool := if x.a ≠ y.a then decide (x.a < y.a) else if x.b ≠ y.b then decide (x.b < y.b) else decide (x.m < y.m)
def Le (x y : It α) : Prop := lt y x = false
theorem lt_iff (x y : It α) : lt x y = true ↔ x.a < y.a ∨ (x.a = y.a ∧ (x.b < y.b ∨ (x.b = y.b ∧ x.m < y.m))) := by
  unfold lt
  by_cases h1 : x.a = y.a
  · by_cases h2 : x.b = y.b
    · simp [h1, h2]
    · simp [h1, h2]
  · simp [h1]
theorem le_iff (x y : It α) : Le x y ↔ ¬ (y.a < x.a ∨ (y.a = x.a ∧ (y.b < x.b ∨ (y.b = x.b ∧ y.m < x.m)))) := by
  unfold Le
  rw [← lt_iff]; simp
theorem Le.refl (x : It α) : Le x x := by rw [le_iff]; omega
theorem Le.trans {x y z : It α} (h : Le x y) (h' : Le y z) : Le x z := by
  rw [le_iff] at *; omega
theorem le_of_lt {x y : It α} (h : lt x y = true) : Le x y := by rw [lt_iff] at h; rw [le_iff]; omega
theorem Le.total (x y : It α) : Le x y ∨ Le y x := by rw [le_iff, le_iff]; omega

/-- The thing at a place. -/
def at_ [Inhabited (It α)] (l : List (It α)) (i : Nat) : It α := l.getD i default
variable [Inhabited (It α)]
def swap (l : List (It α)) (i k : Nat) : List (It α) := (l.set i (at_ l k)).set k (at_ l i)
theorem swap_length (l : List (It α)) (i k : Nat) : (swap l i k).length = l.length := by simp [swap]
theorem at_set (l : List (It α)) (i j : Nat) (x : It α) (hi : i < l.length) : at_ (l.set i x) j = if i = j then x else at_ l j := by
  unfold at_
  rw [List.getD_eq_getElem?_getD, List.getD_eq_getElem?_getD, List.getElem?_set]
  by_cases h : i = j
  · rw [if_pos h, if_pos hi, if_pos h]; rfl
  · rw [if_neg h, if_neg h]
theorem at_swap (l : List (It α)) (i k j : Nat) (hi : i < l.length) (hk : k < l.length) : at_ (swap l i k) j = if j = k then at_ l i else if j = i then at_ l k else at_ l j := by
  unfold swap
  rw [at_set _ _ _ _ (by simpa using hk), at_set _ _ _ _ hi]
  by_cases h1 : k = j
  · subst h1; simp
  · by_cases h2 : i = j
    · subst h2; simp [h1, Ne.symm h1]
    · simp [h1, h2, Ne.symm h1, Ne.symm h2]
theorem swap_perm (l : List (It α)) (i k : Nat) (hi : i < l.length) (hk : k < l.length) : (swap l i k).Perm l := by
  have e1 : at_ l k = l[k] := by unfold at_; rw [List.getD_eq_getElem?_getD, List.getElem?_eq_getElem hk]; rfl
  have e2 : at_ l i = l[i] := by unfold at_; rw [List.getD_eq_getElem?_getD, List.getElem?_eq_getElem hi]; rfl
  unfold swap
  rw [e1, e2]
  exact List.set_set_perm hi hk

/-- It rises to its place. -/
def rise (l : List (It α)) (i : Nat) : List (It α) := if i = 0 then l else if lt (at_ l i) (at_ l ((i - 1) / 2)) = true then rise (swap l i ((i - 1) / 2)) ((i - 1) / 2) else l
termination_by i
decreasing_by omega

/-- the lesser child -/
def child (l : List (It α)) (i : Nat) : Nat := if 2 * i + 2 < l.length ∧ lt (at_ l (2 * i + 2)) (at_ l (2 * i + 1)) = true then 2 * i + 2 else 2 * i + 1
theorem child_gt (l : List (It α)) (i : Nat) : i < child l i := by unfold child; split <;> omega
/-- It sinks to its place. -/
def sink (l : List (It α)) (i : Nat) : List (It α) :=
  if child l i < l.length then (if lt (at_ l (child l i)) (at_ l i) = true then sink (swap l i (child l i)) (child l i) else l) else l
termination_by l.length - i
decreasing_by rw [swap_length]; have := child_gt l i; omega

theorem rise_perm (l : List (It α)) (i : Nat) (hi : i < l.length) : (rise l i).Perm l := by
  induction i using Nat.strongRecOn generalizing l with
  | ind i ih =>
    unfold rise
    split
    · exact List.Perm.refl _
    · split
      · exact (ih ((i - 1) / 2) (by omega) _ (by rw [swap_length]; omega)).trans (swap_perm l i _ hi (by omega))
      · exact List.Perm.refl _
theorem sink_perm (l : List (It α)) (i : Nat) (hi : i < l.length) : (sink l i).Perm l := by
  induction h : l.length - i using Nat.strongRecOn generalizing l i with
  | ind n ih =>
    unfold sink
    have := child_gt l i
    split
    · rename_i hc
      split
      · exact (ih ((swap l i (child l i)).length - child l i) (by rw [swap_length]; omega) _ _ (by rw [swap_length]; exact hc) rfl).trans (swap_perm l i _ hi hc)
      · exact List.Perm.refl _
    · exact List.Perm.refl _
theorem rise_length (l : List (It α)) (i : Nat) (hi : i < l.length) : (rise l i).length = l.length := (rise_perm l i hi).length_eq
theorem sink_length (l : List (It α)) (i : Nat) (hi : i < l.length) : (sink l i).length = l.length := (sink_perm l i hi).length_eq

/-- In its place against the one above it. -/
def ok (l : List (It α)) (j : Nat) : Prop := Le (at_ l ((j - 1) / 2)) (at_ l j)
def Hp (l : List (It α)) : Prop := ∀ j, 0 < j → j < l.length → ok l j
/-- the things below i are not less than the one above i -/
def grand (l : List (It α)) (i : Nat) : Prop := ∀ c, 0 < i → i < c → (c - 1) / 2 = i → c < l.length → Le (at_ l ((i - 1) / 2)) (at_ l c)
def HUp (l : List (It α)) (i : Nat) : Prop := (∀ j, 0 < j → j < l.length → j ≠ i → ok l j) ∧ grand l i
def HDown (l : List (It α)) (i : Nat) : Prop := (∀ j, 0 < j → j < l.length → (j - 1) / 2 ≠ i → ok l j) ∧ grand l i
def Hole (l : List (It α)) (i : Nat) : Prop := (∀ j, 0 < j → j < l.length → j ≠ i → (j - 1) / 2 ≠ i → ok l j) ∧ grand l i

theorem rise_hp (l : List (It α)) (i : Nat) (hi : i < l.length) (h : HUp l i) : Hp (rise l i) := by
  induction i using Nat.strongRecOn generalizing l with
  | ind i ih =>
    obtain ⟨h1, h2⟩ := h
    unfold rise
    by_cases h0 : i = 0
    · rw [if_pos h0]
      exact fun j j0 jl => h1 j j0 jl (by omega)
    · rw [if_neg h0]
      by_cases hl : lt (at_ l i) (at_ l ((i - 1) / 2)) = true
      · rw [if_pos hl]
        have hp : (i - 1) / 2 < l.length := by omega
        refine ih ((i - 1) / 2) (by omega) _ (by rw [swap_length]; exact hp) ⟨fun j j0 jl jn => ?_, fun c c0 c1 c2 c3 => ?_⟩
        · rw [swap_length] at jl
          unfold ok
          rw [at_swap _ _ _ _ hi hp, at_swap _ _ _ _ hi hp, if_neg jn]
          by_cases e1 : j = i
          · rw [if_pos e1, e1, if_pos rfl]; exact le_of_lt hl
          · rw [if_neg e1]
            by_cases e2 : (j - 1) / 2 = (i - 1) / 2
            · rw [if_pos e2]
              have := h1 j j0 jl e1
              unfold ok at this
              rw [e2] at this
              exact (le_of_lt hl).trans this
            · rw [if_neg e2]
              by_cases e3 : (j - 1) / 2 = i
              · rw [if_pos e3]
                exact h2 j (by omega) (by omega) e3 jl
              · rw [if_neg e3]
                exact h1 j j0 jl e1
        · rw [swap_length] at c3
          rw [at_swap _ _ _ _ hi hp, at_swap _ _ _ _ hi hp, if_neg (by omega), if_neg (by omega), if_neg (by omega)]
          have hpp := h1 ((i - 1) / 2) c0 hp (by omega)
          unfold ok at hpp
          by_cases e1 : c = i
          · rw [if_pos e1]; exact hpp
          · rw [if_neg e1]
            have := h1 c (by omega) c3 e1
            unfold ok at this
            rw [c2] at this
            exact hpp.trans this
      · rw [if_neg hl]
        intro j j0 jl
        by_cases e : j = i
        · subst e; exact Bool.eq_false_iff.2 hl
        · exact h1 j j0 jl e

theorem child_le (l : List (It α)) (i c : Nat) (hc : i < c) (hp : (c - 1) / 2 = i) (hcl : c < l.length) : Le (at_ l (child l i)) (at_ l c) := by
  have : c = 2 * i + 1 ∨ c = 2 * i + 2 := by omega
  unfold child
  rcases this with rfl | rfl
  · by_cases h : 2 * i + 2 < l.length ∧ lt (at_ l (2 * i + 2)) (at_ l (2 * i + 1)) = true
    · rw [if_pos h]; exact le_of_lt h.2
    · rw [if_neg h]; exact Le.refl _
  · by_cases h : 2 * i + 2 < l.length ∧ lt (at_ l (2 * i + 2)) (at_ l (2 * i + 1)) = true
    · rw [if_pos h]; exact Le.refl _
    · rw [if_neg h]
      unfold Le
      rw [Bool.eq_false_iff]
      exact fun h' => h ⟨hcl, h'⟩
theorem child_par (l : List (It α)) (i : Nat) : (child l i - 1) / 2 = i := by unfold child; split <;> omega

theorem sink_hp (l : List (It α)) (i : Nat) (hi : i < l.length) (h : HDown l i) : Hp (sink l i) := by
  induction hn : l.length - i using Nat.strongRecOn generalizing l i with
  | ind n ih =>
    obtain ⟨h1, h2⟩ := h
    have hgt := child_gt l i
    have hpar := child_par l i
    have hkids : ∀ j, 0 < j → j < l.length → (j - 1) / 2 = i → Le (at_ l (child l i)) (at_ l j) := fun j j0 jl hp => child_le l i j (by omega) hp jl
    unfold sink
    by_cases hc : child l i < l.length
    · rw [if_pos hc]
      by_cases hl : lt (at_ l (child l i)) (at_ l i) = true
      · rw [if_pos hl]
        generalize child l i = k at *
        refine ih ((swap l i k).length - k) (by rw [swap_length]; omega) _ _ (by rw [swap_length]; exact hc) ⟨fun j j0 jl jn => ?_, fun c c0 c1 c2 c3 => ?_⟩ rfl
        · rw [swap_length] at jl
          unfold ok
          rw [at_swap _ _ _ _ hi hc, at_swap _ _ _ _ hi hc, if_neg jn]
          by_cases e1 : (j - 1) / 2 = i
          · rw [if_pos e1]
            by_cases e2 : j = k
            · rw [if_pos e2]; exact le_of_lt hl
            · rw [if_neg e2, if_neg (by omega)]
              exact hkids j j0 jl e1
          · rw [if_neg e1, if_neg (by omega)]
            by_cases e2 : j = i
            · rw [if_pos e2, e2]
              exact h2 k (by omega) hgt hpar hc
            · rw [if_neg e2]
              exact h1 j j0 jl e1
        · rw [swap_length] at c3
          rw [at_swap _ _ _ _ hi hc, at_swap _ _ _ _ hi hc, if_neg (by omega), if_pos hpar, if_neg (by omega), if_neg (by omega)]
          have := h1 c (by omega) c3 (by omega)
          unfold ok at this
          rw [c2] at this
          exact this
      · rw [if_neg hl]
        intro j j0 jl
        by_cases e : (j - 1) / 2 = i
        · have := hkids j j0 jl e
          unfold ok
          rw [e]
          exact Le.trans (Bool.eq_false_iff.2 hl : Le (at_ l i) (at_ l (child l i))) this
        · exact h1 j j0 jl e
    · rw [if_neg hc]
      intro j j0 jl
      refine h1 j j0 jl (fun e => hc ?_)
      have : j = 2 * i + 1 ∨ j = 2 * i + 2 := by omega
      unfold child
      split <;> omega

/-- Behind a thing that was put in the place of another: it rises, or sinks. -/
theorem fix_hp (l : List (It α)) (i : Nat) (hi : i < l.length) (h : Hole l i) : Hp (sink (rise l i) i) := by
  obtain ⟨h1, h2⟩ := h
  by_cases hr : i ≠ 0 ∧ lt (at_ l i) (at_ l ((i - 1) / 2)) = true
  · obtain ⟨h0, hl⟩ := hr
    have hh : Hp (rise l i) := by
      refine rise_hp l i hi ⟨fun j j0 jl jn => ?_, h2⟩
      by_cases e : (j - 1) / 2 = i
      · have := h2 j (by omega) (by omega) e jl
        unfold ok
        rw [e]
        exact (le_of_lt hl).trans this
      · exact h1 j j0 jl jn e
    have hi' : i < (rise l i).length := by rw [rise_length l i hi]; exact hi
    exact sink_hp _ i hi' ⟨fun j j0 jl _ => hh j j0 jl, fun c c0 c1 c2 c3 => by
      have g1 := hh i c0 hi'
      have g2 := hh c (by omega) c3
      unfold ok at g1 g2
      rw [c2] at g2
      exact g1.trans g2⟩
  · have e : rise l i = l := by
      unfold rise
      by_cases h0 : i = 0
      · rw [if_pos h0]
      · rw [if_neg h0, if_neg (fun q => hr ⟨h0, q⟩)]
    rw [e]
    refine sink_hp l i hi ⟨fun j j0 jl jn => ?_, h2⟩
    by_cases ej : j = i
    · subst ej
      unfold ok Le
      rw [Bool.eq_false_iff]
      exact fun q => hr ⟨by omega, q⟩
    · exact h1 j j0 jl ej jn

/-- The first one is the least. -/
theorem hp_first (l : List (It α)) (h : Hp l) (j : Nat) (hj : j < l.length) : Le (at_ l 0) (at_ l j) := by
  induction j using Nat.strongRecOn with
  | ind j ih =>
    by_cases h0 : j = 0
    · subst h0; exact Le.refl _
    · exact (ih ((j - 1) / 2) (by omega) (by omega)).trans (h j (by omega) hj)
end Go.Proofs.Ytpmamgdblbplcaa.HeapModel

/-! YtpmamgdblbplcaaHeapPure -/
namespace Go.Proofs.Ytpmamgdblbplcaa.HeapModel
set_option linter.unusedVariables false
set_option linter.unusedSimpArgs false
set_option linter.unusedSectionVars false
section
variable {α : Type} [Inhabited (It α)]

theorem at_getG (l : List (It α)) (i : Nat) (hi : i < l.length) : at_ l i = l[i] := by unfold at_; rw [List.getD_eq_getElem?_getD, List.getElem?_eq_getElem hi]; rfl
theorem at_dropLastG (l : List (It α)) (j : Nat) (hj : j < l.length - 1) : at_ l.dropLast j = at_ l j := by
  rw [at_getG _ _ (by rw [List.length_dropLast]; exact hj), at_getG _ _ (by omega), List.getElem_dropLast]
theorem hp_dropLast {l : List (It α)} (h : Hp l) : Hp l.dropLast := by
  intro j j0 jl
  rw [List.length_dropLast] at jl
  have := h j j0 (by omega)
  unfold ok at *
  rw [at_dropLastG _ _ (by omega), at_dropLastG _ _ jl]
  exact this
theorem hole_of_swap {l : List (It α)} (h : Hp l) {m i : Nat} (hm : l.length = m + 1) (hi : i < m) : Hole (swap l i m).dropLast i := by
  have hl : (swap l i m).length = m + 1 := by rw [swap_length]; exact hm
  have at' : ∀ j, j < m → at_ (swap l i m).dropLast j = if j = i then at_ l m else at_ l j := by
    intro j hj
    rw [at_dropLastG _ _ (by omega), at_swap _ _ _ _ (by omega) (by omega), if_neg (by omega)]
  have hlen : (swap l i m).dropLast.length = m := by rw [List.length_dropLast]; omega
  refine ⟨fun j j0 jl jn jp => ?_, fun c c0 c1 c2 c3 => ?_⟩
  · rw [hlen] at jl
    unfold ok
    rw [at' _ (by omega), at' _ jl, if_neg jp, if_neg jn]
    exact h j j0 (by omega)
  · rw [hlen] at c3
    rw [at' _ (by omega), at' _ c3, if_neg (by omega), if_neg (by omega)]
    have g1 := h i c0 (by omega)
    have g2 := h c (by omega) (by omega)
    unfold ok at g1 g2
    rw [c2] at g2
    exact g1.trans g2
theorem hp_drop {l : List (It α)} (h : Hp l) {i : Nat} (hi : i < l.length) : Hp (if i < l.length - 1 then sink (rise (swap l i (l.length - 1)).dropLast i) i else (swap l i (l.length - 1)).dropLast) := by
  obtain ⟨m, hm⟩ : ∃ m, l.length = m + 1 := ⟨l.length - 1, by omega⟩
  rw [hm, Nat.add_sub_cancel]
  by_cases him : i < m
  · rw [if_pos him]
    exact fix_hp _ i (by rw [List.length_dropLast, swap_length]; omega) (hole_of_swap h hm him)
  · rw [if_neg him]
    have e : i = m := by omega
    subst e
    have e2 : swap l i i = l := by
      unfold swap
      rw [List.set_set, at_getG l i hi]
      exact List.set_getElem_self _
    rw [e2]
    exact hp_dropLast h
theorem hp_append {l : List (It α)} (h : Hp l) (x : It α) : Hp (rise (l ++ [x]) l.length) := by
  refine rise_hp _ _ (by simp) ⟨fun j j0 jl jn => ?_, fun c c0 c1 c2 c3 => ?_⟩
  · have jl' : j < l.length := by simp at jl; omega
    have e : ∀ k, k < l.length → at_ (l ++ [x]) k = at_ l k := by
      intro k hk
      rw [at_getG _ _ (by simp; omega), at_getG _ _ hk, List.getElem_append_left hk]
    unfold ok
    rw [e _ (by omega), e _ jl']
    exact h j j0 jl'
  · simp at c3; omega
theorem perm_swap_drop {l : List (It α)} {i : Nat} (hi : i < l.length) : l.Perm (at_ l i :: (swap l i (l.length - 1)).dropLast) := by
  obtain ⟨m, hm⟩ : ∃ m, l.length = m + 1 := ⟨l.length - 1, by omega⟩
  rw [hm, Nat.add_sub_cancel]
  have h1 := (swap_perm l i m hi (by omega)).symm
  have hl : (swap l i m).length = m + 1 := by rw [swap_length]; exact hm
  have hne : swap l i m ≠ [] := by intro e; rw [e] at hl; simp at hl
  have h2 : (swap l i m).dropLast ++ [(swap l i m).getLast hne] = swap l i m := List.dropLast_concat_getLast hne
  have h3 : (swap l i m).getLast hne = at_ l i := by
    rw [List.getLast_eq_getElem]
    have := at_swap l i m m hi (by omega)
    rw [if_pos rfl, at_getG _ _ (by omega)] at this
    rw [← this]
    congr 1
    omega
  rw [h3] at h2
  refine h1.trans ?_
  have h5 : (swap l i m).Perm ((swap l i m).dropLast ++ [at_ l i]) := by rw [h2]
  exact h5.trans List.perm_append_comm
end

section
variable {α : Type} [DecidableEq α]
def has (s : List (It α)) (k : α) : Bool := s.any (fun x => decide (x.v = k))
def without (s : List (It α)) (k : α) : List (It α) := s.filter (fun x => !decide (x.v = k))
def least : List (It α) → Option (It α)
  | [] => none
  | x :: t => match least t with
    | none => some x
    | some y => if lt y x then some y else some x
def chron (s : List (It α)) : Prop := s.Pairwise (fun x y => x.m < y.m)
theorem has_iff {s : List (It α)} {k : α} : has s k = true ↔ ∃ x ∈ s, x.v = k := by simp [has]
theorem mem_without {s : List (It α)} {k : α} {x : It α} : x ∈ without s k ↔ x ∈ s ∧ x.v ≠ k := by simp [without]
theorem without_of_not {s : List (It α)} {k : α} (h : has s k = false) : without s k = s := by
  unfold without
  rw [List.filter_eq_self]
  intro x hx
  have : ¬ x.v = k := fun e => by have := has_iff.2 ⟨x, hx, e⟩; rw [h] at this; cases this
  simp [this]
theorem chron.without {s : List (It α)} {k : α} (h : chron s) : chron (without s k) := List.Pairwise.filter _ h
theorem chron.append {s : List (It α)} {x : It α} (h : chron s) (hx : ∀ y ∈ s, y.m < x.m) : chron (s ++ [x]) := by
  refine List.pairwise_append.2 ⟨h, List.pairwise_singleton _ _, ?_⟩
  intro y hy z hz
  simp only [List.mem_singleton] at hz
  subst hz
  exact hx y hy
theorem least_none {s : List (It α)} : least s = none ↔ s = [] := by
  cases s with
  | nil => simp [least]
  | cons x t =>
    simp only [least, reduceCtorEq, iff_false]
    cases least t with
    | none => simp
    | some y => by_cases h : lt y x = true <;> simp [h]
theorem least_spec {s : List (It α)} {x : It α} (h : least s = some x) : x ∈ s ∧ ∀ y ∈ s, Le x y := by
  induction s generalizing x with
  | nil => simp [least] at h
  | cons a t ih =>
    unfold least at h
    cases c : least t with
    | none =>
      rw [c] at h
      have e : a = x := by simpa using h
      subst e
      have : t = [] := least_none.1 c
      subst this
      exact ⟨by simp, fun y hy => by simp at hy; subst hy; exact Le.refl _⟩
    | some y =>
      rw [c] at h
      obtain ⟨h1, h2⟩ := ih c
      by_cases hl : lt y a = true
      · simp only [hl, if_true, Option.some.injEq] at h
        subst h
        refine ⟨List.mem_cons_of_mem _ h1, fun z hz => ?_⟩
        rcases List.mem_cons.1 hz with rfl | hz
        · exact le_of_lt hl
        · exact h2 z hz
      · simp only [hl, if_false, Option.some.injEq] at h
        have e : a = x := by simpa using h
        subst e
        refine ⟨by simp, fun z hz => ?_⟩
        rcases List.mem_cons.1 hz with rfl | hz
        · exact Le.refl _
        · exact Le.trans (show Le a y from Bool.eq_false_iff.2 hl) (h2 z hz)
theorem chron.eq_of_m {s : List (It α)} (h : chron s) {x y : It α} (hx : x ∈ s) (hy : y ∈ s) (e : x.m = y.m) : x = y := by
  induction h with
  | nil => cases hx
  | cons ha _ ih =>
    rcases List.mem_cons.1 hx with hx | hx
    · rcases List.mem_cons.1 hy with hy | hy
      · rw [hx, hy]
      · have := ha y hy; rw [hx] at e; omega
    · rcases List.mem_cons.1 hy with hy | hy
      · have := ha x hx; rw [hy] at e; omega
      · exact ih hx hy
theorem Le.m_eq {x y : It α} (h : Le x y) (h' : Le y x) : x.m = y.m := by
  rw [le_iff] at h h'; omega
theorem least_unique {s : List (It α)} (hc : chron s) {x : It α} (hx : x ∈ s) (h : ∀ y ∈ s, Le x y) : least s = some x := by
  cases c : least s with
  | none => rw [least_none] at c; subst c; cases hx
  | some y =>
    obtain ⟨h1, h2⟩ := least_spec c
    rw [hc.eq_of_m h1 hx ((h2 x hx).m_eq (h y h1))]

variable [Inhabited (It α)]
theorem perm_without {l s : List (It α)} (hp : l.Perm s) (hk : (l.map (·.v)).Nodup) {i : Nat} (hi : i < l.length) :
    (swap l i (l.length - 1)).dropLast.Perm (without s (at_ l i).v) := by
  have h1 := perm_swap_drop hi
  have h2 : (without l (at_ l i).v).Perm (without s (at_ l i).v) := hp.filter _
  refine List.Perm.trans ?_ h2
  have h3 : (without l (at_ l i).v).Perm (without (at_ l i :: (swap l i (l.length - 1)).dropLast) (at_ l i).v) := h1.filter _
  refine List.Perm.trans ?_ h3.symm
  have h4 := (h1.map (·.v)).nodup_iff.1 hk
  rw [List.map_cons, List.nodup_cons] at h4
  have e : without (at_ l i :: (swap l i (l.length - 1)).dropLast) (at_ l i).v = (swap l i (l.length - 1)).dropLast := by
    unfold without
    rw [List.filter_cons, if_neg (by simp), List.filter_eq_self]
    intro x hx
    have : ¬ x.v = (at_ l i).v := fun e => h4.1 (by rw [← e]; exact List.mem_map.2 ⟨x, hx, rfl⟩)
    simp [this]
  rw [e]
theorem drop_perm {l s : List (It α)} (hp : l.Perm s) (hk : (l.map (·.v)).Nodup) {i : Nat} (hi : i < l.length) :
    (if i < l.length - 1 then sink (rise (swap l i (l.length - 1)).dropLast i) i else (swap l i (l.length - 1)).dropLast).Perm (without s (at_ l i).v) := by
  have h := perm_without hp hk hi
  split
  · rename_i him
    have hl : (swap l i (l.length - 1)).dropLast.length = l.length - 1 := by rw [List.length_dropLast, swap_length]
    exact ((sink_perm _ i (by rw [rise_length _ _ (by omega)]; omega)).trans (rise_perm _ i (by omega))).trans h
  · exact h
end
end Go.Proofs.Ytpmamgdblbplcaa.HeapModel

/-! YtpmamgdblbplcaaDuePure -/
namespace Go.Proofs.Ytpmamgdblbplcaa.HeapModel
set_option linter.unusedVariables false
variable {α : Type} [DecidableEq α]
/-- take the least while it is due -/
def dueGo : Nat → List (It α) → Int → List α × List (It α)
  | 0, s, _ => ([], s)
  | n + 1, s, now => match least s with
    | none => ([], s)
    | some x => if x.a ≤ now then (x.v :: (dueGo n (without s x.v) now).1, (dueGo n (without s x.v) now).2) else ([], s)
def dueM (s : List (It α)) (now : Int) : List α × List (It α) := dueGo s.length s now
theorem without_lt {s : List (It α)} {x : It α} (hx : x ∈ s) : (without s x.v).length < s.length := by
  unfold without
  rw [List.length_filter_lt_length_iff_exists]
  exact ⟨x, hx, by simp⟩
theorem dueGo_fuel (n : Nat) (s : List (It α)) (now : Int) (h : s.length ≤ n) : dueGo n s now = dueM s now := by
  induction n using Nat.strongRecOn generalizing s with
  | ind n ih =>
    unfold dueM
    cases n with
    | zero => rw [show s.length = 0 by omega]
    | succ n =>
      cases hs : s.length with
      | zero =>
        have : s = [] := List.length_eq_zero_iff.1 hs
        subst this
        simp [dueGo, least]
      | succ m =>
        simp only [dueGo]
        cases hl : least s with
        | none => rfl
        | some x =>
          have hx := (least_spec hl).1
          have h1 := without_lt hx
          simp only []
          rw [ih n (by omega) _ (by omega), ih m (by omega) _ (by omega)]
theorem dueM_stop {s : List (It α)} {now : Int} (h : ∀ x, least s = some x → ¬ x.a ≤ now) : dueM s now = ([], s) := by
  unfold dueM
  cases hs : s.length with
  | zero => rfl
  | succ m =>
    simp only [dueGo]
    cases hl : least s with
    | none => rfl
    | some x => simp only []; rw [if_neg (h x hl)]
theorem dueM_step {s : List (It α)} {now : Int} {x : It α} (h : least s = some x) (hx : x.a ≤ now) : dueM s now = (x.v :: (dueM (without s x.v) now).1, (dueM (without s x.v) now).2) := by
  have h1 := without_lt (least_spec h).1
  unfold dueM
  cases hs : s.length with
  | zero => omega
  | succ m =>
    simp only [dueGo, h]
    rw [if_pos hx, dueGo_fuel m _ now (by omega)]
    rfl
end Go.Proofs.Ytpmamgdblbplcaa.HeapModel
