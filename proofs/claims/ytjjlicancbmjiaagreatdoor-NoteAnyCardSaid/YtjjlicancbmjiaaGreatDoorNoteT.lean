/- What the functions of layer 8 compute, in plain words: a task's text, and back. -/
import Derived.Test.YtjjlicancbmjiaaGreatDoorNoteC
namespace Go.Proofs.YtjjlicancbmjiaaGreatDoor.PNeg
open Go.Proofs.YtjjlicancbmjiaaGreatDoor.PBeg Go.Proofs.YtjjlicancbmjiaaGreatDoor.Txt
open Go.RowKit Go.Lib Go.Proofs.YtjjlicancbmjiaaGreatDoorW.PrintWords Go.Proofs.YtjjlicancbmjiaaGreatDoorW.PrintLast Go.Proofs.YtjjlicancbmjiaaGreatDoorW.PrintMore
set_option linter.unusedVariables false
set_option linter.unusedSimpArgs false
def secBody (s : S43) : List UInt8 := itoa s.f0 ++ 64 :: (itoa s.f1 ++ 43 :: itoa s.f2)
def taskHead (x y z : Int) : List UInt8 := join [itoa x, itoa y, itoa z] [47]
def taskTxt (x y z : Int) (ls : List S43) : List UInt8 := join (taskHead x y z :: ls.map secBody) [32]
def tskT (x y z : Int) (ls : List S43) : ByteArray := if taskOk 6 x y z ls = true then mk (taskTxt x y z ls) else ⟨#[]⟩
theorem head_eq (x y z : Int) : taskHead x y z = itoa x ++ 47 :: (itoa y ++ 47 :: itoa z) := by
  unfold taskHead; rw [join_cons]; simp [joinTail]
theorem txt_eq (x y z : Int) (ls : List S43) : taskTxt x y z ls = taskHead x y z ++ joinTail [32] (ls.map secBody) := by
  unfold taskTxt; rw [join_cons]
def secIn (n x : Int) (s : S43) : Prop := (0 ≤ s.f0 ∧ s.f0 < n) ∧ (1 ≤ s.f1 ∧ s.f1 ≤ x - 1) ∧ 1 ≤ s.f2 ∧ s.f2 ≤ 200
theorem secs_in {n x : Int} : ∀ (l : List S43) (i : Nat) (p : Int), secsOk n x i p l = true → ∀ s ∈ l, secIn n x s
  | [], _, _, _ => fun s hs => by cases hs
  | t :: l, i, p, h => by
    have h : (secOk n x i p t && secsOk n x (i + 1) t.f1 l) = true := h
    rw [Bool.and_eq_true] at h
    intro s hs
    rcases List.mem_cons.1 hs with rfl | hs
    · have h1 := h.1
      simp only [secOk, inB, Bool.and_eq_true, decide_eq_true_eq] at h1
      obtain ⟨⟨⟨⟨a1, a2⟩, a3, a4⟩, a5, a6⟩, _⟩ := h1
      exact ⟨⟨a1, a2⟩, ⟨a5, a6⟩, a3, a4⟩
    · exact secs_in l _ _ h.2 s hs
theorem task_facts {n x y z : Int} {l : List S43} (h : taskOk n x y z l = true) : (1 ≤ x ∧ x ≤ y ∧ y ≤ z ∧ z ≤ 200) ∧ l.length ≤ 2 ∧ ∀ s ∈ l, secIn n x s := by
  simp only [taskOk, Bool.and_eq_true, decide_eq_true_eq] at h
  obtain ⟨⟨⟨⟨⟨h1, h2⟩, h3⟩, h4⟩, h5⟩, h6⟩ := h
  exact ⟨⟨h1, h2, h3, h4⟩, h5, secs_in l 0 0 h6⟩
theorem secs_mono {n m x : Int} (hm : n ≤ m) : ∀ (l : List S43) (i : Nat) (p : Int), secsOk n x i p l = true → secsOk m x i p l = true
  | [], _, _, _ => rfl
  | t :: l, i, p, h => by
    have h : (secOk n x i p t && secsOk n x (i + 1) t.f1 l) = true := h
    show (secOk m x i p t && secsOk m x (i + 1) t.f1 l) = true
    rw [Bool.and_eq_true] at h ⊢
    refine ⟨?_, secs_mono hm l _ _ h.2⟩
    have h1 := h.1
    simp only [secOk, Bool.and_eq_true, decide_eq_true_eq] at h1 ⊢
    obtain ⟨⟨⟨⟨a1, a2⟩, a3⟩, a5⟩, a6⟩ := h1
    exact ⟨⟨⟨⟨a1, by omega⟩, a3⟩, a5⟩, a6⟩
theorem task_mono {n m x y z : Int} {l : List S43} (hm : n ≤ m) (h : taskOk n x y z l = true) : taskOk m x y z l = true := by
  simp only [taskOk, Bool.and_eq_true, decide_eq_true_eq] at h ⊢
  exact ⟨h.1, secs_mono hm l _ _ h.2⟩
theorem one (c : UInt8) : (⟨#[c]⟩ : ByteArray).size = 1 := rfl
theorem rd_mem (ls : List S43) (i : Nat) (h : i < ls.length) : rd_T43 ls (i : Int) ∈ ls := by
  rw [show rd_T43 ls (i : Int) = ls[i] by simp [rd_T43, List.getD_eq_getElem?_getD, List.getElem?_eq_getElem h]]
  exact List.getElem_mem h
theorem putt_l0 (x : Int) (hx : x ≤ 200) (ls : List S43) (hl : ls.length ≤ 1000) (hin : ∀ s ∈ ls, secIn 6 x s) : ∀ n i k (acc : ByteArray), i + n = ls.length → n < k → acc.size + 100 * n ≤ 1000000 →
    note_PutTask.l0 k acc ls (ls.length : Int) (i : Int) = some (acc ++ mk (joinTail [32] ((ls.drop i).map secBody))) := by
  intro n
  induction n with
  | zero =>
    intro i k acc hi hk ha
    obtain ⟨m, rfl⟩ := pos_k hk
    simp only [note_PutTask.l0]
    rw [if_neg (by omega), show i = ls.length by omega, List.drop_length]
    show some acc = some (acc ++ ⟨#[]⟩)
    congr 1
    apply bytes_ext; simp
  | succ n ih =>
    intro i k acc hi hk ha
    obtain ⟨m, rfl⟩ := pos_k hk
    obtain ⟨⟨a1, a2⟩, ⟨a3, a4⟩, a5, a6⟩ := hin _ (rd_mem ls i (by omega))
    have s0 := itoa_len (n := (rd_T43 ls (i : Int)).f0) (by omega) (by omega)
    have s1 := itoa_len (n := (rd_T43 ls (i : Int)).f1) (by omega) (by omega)
    have s2 := itoa_len (n := (rd_T43 ls (i : Int)).f2) (by omega) (by omega)
    simp only [note_PutTask.l0]
    rw [if_pos (by omega), if_pos (by omega), if_pos (by omega), num_f a1 (by omega), Option.bind_some, if_pos (by simp only [ByteArray.size_append, mk_size, one]; omega), if_pos (by simp only [ByteArray.size_append, mk_size, one]; omega),
      num_f (by omega) (by omega), Option.bind_some, if_pos (by simp only [ByteArray.size_append, mk_size, one]; omega), if_pos (by simp only [ByteArray.size_append, mk_size, one]; omega),
      num_f (by omega) (by omega), Option.bind_some, if_pos (by simp only [ByteArray.size_append, mk_size, one]; omega), if_pos (by simp only [ByteArray.size_append, mk_size, one]; omega),
      wr64 (by omega) (by omega), show ((i : Int) + 1) = ((i + 1 : Nat) : Int) by omega, ih (i + 1) m _ (by omega) (by omega) (by simp only [ByteArray.size_append, mk_size, one]; omega), drop_rd ls i (by omega)]
    congr 1
    apply bytes_ext
    simp [mk, joinTail, secBody]
theorem widest_f : note_widest.f = some (1, 1, 0, 0, List.replicate 6 0) := by
  unfold note_widest.f; rw [if_pos (by decide)]
theorem PutTask_f {k : Nat} (x y z : Int) (ls : List S43) (hk : 20 ≤ k) : note_PutTask.f k x y z ls = some (tskT x y z ls) := by
  unfold note_PutTask.f tskT
  rw [widest_f, Option.bind_some]
  simp only
  rw [task_f _ _ _ _ _ _ _ _ _ (by omega), Option.bind_some, show ((List.replicate 6 (0 : Int)).length : Int) = 6 by rfl]
  cases h : taskOk 6 x y z ls with
  | false => rfl
  | true =>
    obtain ⟨⟨h1, h2, h3, h4⟩, hl, hin⟩ := task_facts h
    have s0 := itoa_len (n := x) (by omega) (by omega)
    have s1 := itoa_len (n := y) (by omega) (by omega)
    have s2 := itoa_len (n := z) (by omega) (by omega)
    rw [if_pos rfl, num_f (by omega) (by omega), Option.bind_some, if_pos (by simp only [ByteArray.size_append, mk_size, one]; omega), num_f (by omega) (by omega), Option.bind_some, if_pos (by simp only [ByteArray.size_append, mk_size, one]; omega), if_pos (by simp only [ByteArray.size_append, mk_size, one]; omega),
      num_f (by omega) (by omega), Option.bind_some, if_pos (by simp only [ByteArray.size_append, mk_size, one]; omega)]
    have := putt_l0 x (by omega) ls (by omega) hin ls.length 0 k ((((mk (itoa x) ++ (⟨#[47]⟩ : ByteArray)) ++ mk (itoa y)) ++ (⟨#[47]⟩ : ByteArray)) ++ mk (itoa z)) (by omega) (by omega) (by simp only [ByteArray.size_append, mk_size, one]; omega)
    rw [show ((0 : Nat) : Int) = 0 by rfl] at this
    rw [this, if_pos rfl, txt_eq, head_eq]
    congr 1
    apply bytes_ext
    simp [mk]
theorem taskTxt_ne (x y z : Int) (l : List S43) : taskTxt x y z l ≠ [] := by
  rw [txt_eq, head_eq]; simp
theorem putt_empty {x y z : Int} {l : List S43} : tskT x y z l = ⟨#[]⟩ ↔ taskOk 6 x y z l = false := by
  unfold tskT
  cases h : taskOk 6 x y z l with
  | false => simp
  | true =>
    simp only [if_true]
    refine ⟨fun e => ?_, fun e => by cases e⟩
    exact absurd (mk_inj (b := []) e) (taskTxt_ne x y z l)
/-! ### a task's text, read -/
def rdSec (p : ByteArray) : S43 := ⟨parsed (mk (cut p.data.toList [64]).1), parsed (mk (cut (cut p.data.toList [64]).2.1 [43]).1), parsed (mk (cut (cut p.data.toList [64]).2.1 [43]).2.1)⟩
def getT (a b c d : Int) (lr : List Int) (s : ByteArray) : Int × Int × Int × List S43 × Int :=
  let p := pieces 32 s
  let q := pieces 47 (rdOf ByteArray.empty p 0)
  if q.length = 3 then
    let x := parsed (rdOf ByteArray.empty q 0)
    let y := parsed (rdOf ByteArray.empty q 1)
    let z := parsed (rdOf ByteArray.empty q 2)
    let ls := (p.drop 1).map rdSec
    if configOk a b c d lr = true ∧ taskOk lr.length x y z ls = true ∧ tskT x y z ls = s then (x, y, z, ls, 0) else (0, 0, 0, [], 1)
  else (0, 0, 0, [], 1)
theorem cutf {p : ByteArray} (h : p.size ≤ 1000) (c : UInt8) : strings_Cut.f p ⟨#[c]⟩ = some (mk (cut p.data.toList [c]).1, mk (cut p.data.toList [c]).2.1, (cut p.data.toList [c]).2.2) := by
  unfold strings_Cut.f; rw [if_pos (by omega), if_pos (by rfl)]; rfl
theorem data_size (p : ByteArray) : p.data.toList.length = p.size := by rw [Array.length_toList]; rfl
theorem gett_l0 (s : ByteArray) (ps : List ByteArray) (hp : ps.length ≤ 2000) (hin : ∀ x ∈ ps, x.size ≤ 1000) (a b c d : Int) (lr : List Int) (x y z : Int) : ∀ n i k (acc : List S43), i + n = ps.length → n + 20 < k → acc.length + n ≤ 3000 →
    note_GetTask.l0 k s ps (ps.length : Int) (i : Int) a b c d lr x y z acc = some (if configOk a b c d lr = true ∧ taskOk lr.length x y z (acc ++ (ps.drop i).map rdSec) = true ∧ tskT x y z (acc ++ (ps.drop i).map rdSec) = s then (x, y, z, acc ++ (ps.drop i).map rdSec, 0) else (0, 0, 0, [], 1)) := by
  intro n
  induction n with
  | zero =>
    intro i k acc hi hk ha
    obtain ⟨m, rfl⟩ : ∃ m, k = m + 1 := ⟨k - 1, by omega⟩
    simp only [note_GetTask.l0, rule_Config.f]
    rw [if_neg (by omega), show i = ps.length by omega, List.drop_length, List.map_nil, List.append_nil, Option.bind_some]
    cases hc : configOk a b c d lr with
    | false => rw [if_neg (by decide), if_neg (fun e => by cases e.1)]
    | true =>
      rw [if_pos rfl, task_f _ _ _ _ _ _ _ _ _ (by omega), Option.bind_some]
      cases ht : taskOk lr.length x y z acc with
      | false => rw [if_neg (by decide), if_neg (fun e => by cases e.2.1)]
      | true =>
        rw [if_pos rfl, PutTask_f _ _ _ _ (by omega), Option.bind_some]
        by_cases h : tskT x y z acc = s
        · rw [if_pos (toList_eq.2 h), if_pos ⟨rfl, rfl, h⟩]
        · rw [if_neg (fun e => h (toList_eq.1 e)), if_neg (fun e => h e.2.2)]
  | succ n ih =>
    intro i k acc hi hk ha
    obtain ⟨m, rfl⟩ : ∃ m, k = m + 1 := ⟨k - 1, by omega⟩
    have hr := hin _ (rdOf_mem ps i (by omega))
    have z0 := data_size (rdOf ByteArray.empty ps (i : Int))
    have z1 := cut_size (rdOf ByteArray.empty ps (i : Int)).data.toList [64]
    have z2 := cut_size (cut (rdOf ByteArray.empty ps (i : Int)).data.toList [64]).2.1 [43]
    simp only [note_GetTask.l0]
    rw [if_pos (by omega), if_pos (by omega), if_pos (by omega), cutf hr, Option.bind_some]
    simp only
    rw [cutf (by rw [mk_size]; omega), Option.bind_some]
    simp only [mk_list]
    rw [parse_f (by rw [mk_size]; omega), Option.bind_some, parse_f (by rw [mk_size]; omega), Option.bind_some, parse_f (by rw [mk_size]; omega), Option.bind_some, if_pos (by omega), wr64 (by omega) (by omega), show ((i : Int) + 1) = ((i + 1 : Nat) : Int) by omega,
      ih (i + 1) m _ (by omega) (by omega) (by rw [List.length_append]; simp only [List.length_cons, List.length_nil]; omega), drop_of ps i (by omega), List.map_cons, List.append_assoc, List.singleton_append]
    rfl
theorem GetTask_f {k : Nat} (a b c d : Int) (lr : List Int) (s : ByteArray) (hs : s.size ≤ 1000) (hk : 2000 ≤ k) : note_GetTask.f k a b c d lr s = some (getT a b c d lr s) := by
  have hp := pieces_len 32 s
  have hp0 := pieces_pos 32 s
  have hz : ∀ x ∈ pieces 32 s, x.size ≤ 1000 := fun x hx => Nat.le_trans (pieces_size 32 s x hx) hs
  unfold note_GetTask.f getT
  rw [split_f hs, Option.bind_some]
  generalize pieces 32 s = p at hp hz hp0
  simp only
  have g0 := hz _ (rdOf_mem p 0 hp0)
  rw [if_pos (by omega), show (0 : Int) = ((0 : Nat) : Int) by rfl, split_f g0, Option.bind_some]
  have hy : ∀ x ∈ pieces 47 (rdOf ByteArray.empty p ((0 : Nat) : Int)), x.size ≤ 1000 := fun x hx => Nat.le_trans (pieces_size 47 _ x hx) g0
  generalize pieces 47 (rdOf ByteArray.empty p ((0 : Nat) : Int)) = q at hy
  by_cases h3 : q.length = 3
  · have y0 := hy _ (rdOf_mem q 0 (by omega))
    have y1 := hy _ (rdOf_mem q 1 (by omega))
    have y2 := hy _ (rdOf_mem q 2 (by omega))
    rw [if_pos (by omega), if_pos h3, if_pos (by omega), parse_f y0, Option.bind_some, if_pos (by omega), show (1 : Int) = ((1 : Nat) : Int) by rfl, parse_f y1, Option.bind_some, if_pos (by omega), show (2 : Int) = ((2 : Nat) : Int) by rfl, parse_f y2, Option.bind_some, if_pos (by omega), Option.bind_some]
    have hd : (p.drop 1).length ≤ p.length := by rw [List.length_drop]; omega
    have := gett_l0 s (p.drop 1) (by omega) (fun x hx => hz x (List.mem_of_mem_drop hx)) a b c d lr (parsed (rdOf ByteArray.empty q ((0 : Nat) : Int))) (parsed (rdOf ByteArray.empty q ((1 : Nat) : Int))) (parsed (rdOf ByteArray.empty q ((2 : Nat) : Int))) (p.drop 1).length 0 k [] (by simp) (by omega) (by simp; omega)
    exact this
  · rw [if_neg (by omega), if_neg h3]
theorem getT_or (a b c d : Int) (lr : List Int) (s : ByteArray) : getT a b c d lr s = (0, 0, 0, [], 1) ∨ ∃ x y z ls, getT a b c d lr s = (x, y, z, ls, 0) ∧ configOk a b c d lr = true ∧ taskOk lr.length x y z ls = true ∧ taskOk 6 x y z ls = true ∧ s = mk (taskTxt x y z ls) := by
  unfold getT
  simp only
  split
  · split
    · rename_i h
      obtain ⟨h1, h2, h3⟩ := h
      have h6 := task_mono (m := 6) (by have := (config_facts h1).2.2.2.2.1; omega) h2
      exact .inr ⟨_, _, _, _, rfl, h1, h2, h6, h3.symm.trans (by unfold tskT; rw [if_pos h6])⟩
    · exact .inl rfl
  · exact .inl rfl
theorem no_of {c : UInt8} (hc : ¬ dig c) {n : Int} (h0 : 0 ≤ n) : c ∉ itoa n := dig_ne hc (itoa_dig n h0)
theorem nd32 : ¬ dig 32 := by unfold dig; decide
theorem nd47 : ¬ dig 47 := by unfold dig; decide
theorem nd64 : ¬ dig 64 := by unfold dig; decide
theorem nd43 : ¬ dig 43 := by unfold dig; decide
theorem rdSec_back {n x : Int} {s : S43} (hx : x ≤ 200) (hn : n ≤ 6) (h : secIn n x s) : rdSec (mk (secBody s)) = s := by
  obtain ⟨⟨a1, a2⟩, ⟨a3, a4⟩, a5, a6⟩ := h
  unfold rdSec secBody
  rw [mk_list, cut_at 64 _ _ (no_of nd64 a1)]
  simp only
  rw [cut_at 43 _ _ (no_of nd43 (by omega))]
  simp only
  rw [parsed_itoa a1 (by omega), parsed_itoa (by omega) (by omega), parsed_itoa (by omega) (by omega)]
theorem getT_back {a b c d : Int} {lr : List Int} {x y z : Int} {ls : List S43} (hc : configOk a b c d lr = true) (h : taskOk lr.length x y z ls = true) : getT a b c d lr (mk (taskTxt x y z ls)) = (x, y, z, ls, 0) := by
  have h6 : (lr.length : Int) ≤ 6 := by have := (config_facts hc).2.2.2.2.1; omega
  have ht6 := task_mono h6 h
  obtain ⟨⟨h1, h2, h3, h4⟩, hl, hin⟩ := task_facts h
  have hp : pieces 32 (mk (taskTxt x y z ls)) = (taskHead x y z :: ls.map secBody).map mk := by
    refine pieces_join 32 _ _ ?_ ?_
    · rw [head_eq]
      simp [no_of nd32 (show 0 ≤ x by omega), no_of nd32 (show 0 ≤ y by omega), no_of nd32 (show 0 ≤ z by omega)]
    · intro t ht
      obtain ⟨s, hs, rfl⟩ := List.mem_map.1 ht
      obtain ⟨⟨a1, a2⟩, ⟨a3, a4⟩, a5, a6⟩ := hin s hs
      unfold secBody
      simp [no_of nd32 a1, no_of nd32 (show 0 ≤ s.f1 by omega), no_of nd32 (show 0 ≤ s.f2 by omega)]
  have hq : pieces 47 (mk (taskHead x y z)) = [itoa x, itoa y, itoa z].map mk := by
    refine pieces_join 47 _ _ (no_of nd47 (by omega)) ?_
    intro t ht
    simp only [List.mem_cons, List.mem_nil_iff, or_false] at ht
    rcases ht with rfl | rfl <;> exact no_of nd47 (by omega)
  have hm : ((ls.map secBody).map mk).map rdSec = ls := by
    have : ∀ r : List S43, (∀ s ∈ r, secIn lr.length x s) → ((r.map secBody).map mk).map rdSec = r := by
      intro r hr
      induction r with
      | nil => rfl
      | cons s r ih =>
        simp only [List.map_cons]
        rw [rdSec_back (by omega) h6 (hr s List.mem_cons_self), ih (fun t ht => hr t (List.mem_cons_of_mem _ ht))]
    exact this ls hin
  unfold getT
  simp only
  rw [hp]
  rw [show rdOf ByteArray.empty ((taskHead x y z :: ls.map secBody).map mk) 0 = mk (taskHead x y z) by rfl, hq]
  rw [show rdOf ByteArray.empty ([itoa x, itoa y, itoa z].map mk) 0 = mk (itoa x) by rfl, show rdOf ByteArray.empty ([itoa x, itoa y, itoa z].map mk) 1 = mk (itoa y) by rfl, show rdOf ByteArray.empty ([itoa x, itoa y, itoa z].map mk) 2 = mk (itoa z) by rfl,
    parsed_itoa (by omega) (by omega), parsed_itoa (by omega) (by omega), parsed_itoa (by omega) (by omega), show ((taskHead x y z :: ls.map secBody).map mk).drop 1 = (ls.map secBody).map mk by rfl, hm, if_pos (by rfl), if_pos ⟨hc, h, by unfold tskT; rw [if_pos ht6]⟩]
def c6 : List Int := List.replicate 6 0
theorem c6_ok : configOk 1 1 0 0 c6 = true := by decide
theorem tsk_inj {x y z : Int} {l : List S43} {x' y' z' : Int} {l' : List S43} (h : taskOk 6 x y z l = true) (h' : taskOk 6 x' y' z' l' = true) (e : mk (taskTxt x y z l) = mk (taskTxt x' y' z' l')) : x = x' ∧ y = y' ∧ z = z' ∧ l = l' := by
  have h1 := getT_back (lr := c6) c6_ok h
  rw [e, getT_back (lr := c6) c6_ok h'] at h1
  simp only [Prod.mk.injEq] at h1
  obtain ⟨h1, h2, h3, h4, _⟩ := h1
  exact ⟨h1.symm, h2.symm, h3.symm, h4.symm⟩
/-! ### the first and the last byte of a task's text -/
theorem txt_head {n x y z : Int} {l : List S43} (h : taskOk n x y z l = true) : ∃ b r, taskTxt x y z l = b :: r ∧ 49 ≤ b.toNat ∧ b.toNat ≤ 57 := by
  obtain ⟨⟨h1, _⟩, _⟩ := task_facts h
  obtain ⟨b, r, e, hb⟩ := itoa_head x h1
  rw [txt_eq, head_eq, e]
  exact ⟨b, _, rfl, hb⟩
def Ends (l : List UInt8) : Prop := ∃ b, l.getLast? = some b ∧ dig b
theorem ends_app {u v : List UInt8} (h : Ends v) : Ends (u ++ v) := by
  obtain ⟨b, h1, h2⟩ := h
  refine ⟨b, ?_, h2⟩
  rw [List.getLast?_append, h1]; rfl
theorem ends_cons {c : UInt8} {v : List UInt8} (h : Ends v) : Ends (c :: v) := ends_app (u := [c]) h
theorem ends_itoa {n : Int} (h0 : 0 ≤ n) : Ends (itoa n) := by
  have hne := itoa_ne n h0
  exact ⟨(itoa n).getLast hne, List.getLast?_eq_some_getLast hne, itoa_dig n h0 _ (List.getLast_mem hne)⟩
theorem ends_tail {n x : Int} : ∀ (l : List S43) (u : List UInt8), (∀ s ∈ l, secIn n x s) → Ends u → Ends (u ++ joinTail [32] (l.map secBody))
  | [], u, _, hu => by simpa [joinTail] using hu
  | s :: l, u, h, hu => by
    have e : u ++ joinTail [32] ((s :: l).map secBody) = (u ++ 32 :: secBody s) ++ joinTail [32] (l.map secBody) := by simp [joinTail]
    rw [e]
    obtain ⟨⟨a1, a2⟩, ⟨a3, a4⟩, a5, a6⟩ := h s List.mem_cons_self
    exact ends_tail l _ (fun t ht => h t (List.mem_cons_of_mem _ ht)) (ends_app (ends_cons (by unfold secBody; exact ends_app (ends_cons (ends_app (ends_cons (ends_itoa (by omega))))))))
theorem txt_ends {n x y z : Int} {l : List S43} (h : taskOk n x y z l = true) : Ends (taskTxt x y z l) := by
  obtain ⟨⟨h1, h2, h3, h4⟩, hl, hin⟩ := task_facts h
  rw [txt_eq]
  refine ends_tail l _ hin ?_
  rw [head_eq]
  exact ends_app (ends_cons (ends_app (ends_cons (ends_itoa (by omega)))))
theorem getT_none {a b c d : Int} {lr : List Int} {s : List UInt8} (h : ∀ x y z l, taskOk 6 x y z l = true → taskTxt x y z l ≠ s) : getT a b c d lr (mk s) = (0, 0, 0, [], 1) := by
  rcases getT_or a b c d lr (mk s) with e | ⟨x, y, z, ls, _, _, _, h6, e⟩
  · exact e
  · exact absurd (mk_inj e).symm (h x y z ls h6)
theorem getT_nought {a b c d : Int} {lr : List Int} {s : List UInt8} {b0 : UInt8} (hb : b0.toNat < 49) : getT a b c d lr (mk (b0 :: s)) = (0, 0, 0, [], 1) := by
  refine getT_none fun x y z l h e => ?_
  obtain ⟨b, r, e2, h1, h2⟩ := txt_head h
  rw [e2] at e
  injection e with e
  rw [e] at h1; omega
theorem getT_space {a b c d : Int} {lr : List Int} {s : List UInt8} : getT a b c d lr (mk (s ++ [32])) = (0, 0, 0, [], 1) := by
  refine getT_none fun x y z l h e => ?_
  obtain ⟨b, h1, h2⟩ := txt_ends h
  rw [e, List.getLast?_append] at h1
  simp at h1
  subst h1
  exact nd32 h2
end Go.Proofs.YtjjlicancbmjiaaGreatDoor.PNeg
