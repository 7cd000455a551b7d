/- What the functions of layer 8 and their references compute, in plain words: a configuration's text, a task's text, and back. -/
import Derived.Test.YtjjlicancbmjiaaGreatDoorTxt
import Derived.Test.YtjjlicancbmjiaaGreatDoorPNegx10
import Derived.Test.YtjjlicancbmjiaaGreatDoorPNegx8
import Derived.Test.YtjjlicancbmjiaaGreatDoorCore7A
namespace Go.Proofs.YtjjlicancbmjiaaGreatDoor.PNeg
open Go.Proofs.YtjjlicancbmjiaaGreatDoor.PBeg Go.Proofs.YtjjlicancbmjiaaGreatDoor.Txt
open Go.RowKit Go.Lib Go.Proofs.YtjjlicancbmjiaaGreatDoorW.PrintWords Go.Proofs.YtjjlicancbmjiaaGreatDoorW.PrintLast Go.Proofs.YtjjlicancbmjiaaGreatDoorW.PrintMore
set_option linter.unusedVariables false
set_option linter.unusedSimpArgs false
theorem num_f {n : Int} (h0 : 0 ≤ n) (h1 : n ≤ 1000) : note_num.f n = some (mk (itoa n)) := by
  unfold note_num.f; rw [if_pos (by omega), if_pos (by omega)]; rfl
theorem parse_f {s : ByteArray} (h : s.size ≤ 1000) : note_parse.f s = some (parsed s) := by
  unfold note_parse.f; rw [if_pos (by omega)]
theorem parsed_itoa {n : Int} (h0 : 0 ≤ n) (h1 : n ≤ 1000) : parsed (mk (itoa n)) = n := by
  unfold parsed; rw [mk_list, parse_itoa n h0 (by omega)]
theorem split_f {s : ByteArray} (h : s.size ≤ 1000) (c : UInt8) : strings_Split.f s ⟨#[c]⟩ = some (pieces c s) := by
  unfold strings_Split.f; rw [if_pos (by omega), if_pos (by rfl)]; rfl
theorem bind_id {α : Type} (o : Option α) : (o.bind fun t => some t) = o := by cases o <;> rfl
theorem dec_len : ∀ (k u : Nat), u < 10 ^ (k + 1) → (decDigits u).length ≤ k + 1
  | 0, u, h => by rw [decDigits, dif_pos (by omega)]; simp
  | k + 1, u, h => by
    by_cases h1 : u < 10
    · rw [decDigits, dif_pos h1]; simp
    · rw [decDigits, dif_neg h1, List.length_append]
      have := dec_len k (u / 10) (by rw [Nat.pow_succ] at h; omega)
      simp only [List.length_cons, List.length_nil]; omega
theorem itoa_len {n : Int} (h0 : 0 ≤ n) (h1 : n ≤ 1000) : (itoa n).length ≤ 21 := by
  obtain ⟨u, rfl⟩ : ∃ u : Nat, n = u := ⟨n.toNat, by omega⟩
  rw [itoa_nonneg]
  have := dec_len 3 u (by show u < 10000; omega)
  omega
/-! ### configurations -/
def cfgPieces (a b c d : Int) (l : List Int) : List (List UInt8) := [99, 111, 114, 101, 115] :: itoa a :: [115, 121, 110, 99, 115] :: itoa b :: [108, 97, 103] :: itoa c :: [109, 111, 118, 101] :: itoa d :: (if l = [] then [] else [114, 101, 115] :: l.map itoa)
def cfgTxt (a b c d : Int) (l : List Int) : List UInt8 := join (cfgPieces a b c d l) [32]
def cfgT (a b c d : Int) (l : List Int) : ByteArray := if configOk a b c d l = true then mk (cfgTxt a b c d l) else ⟨#[]⟩
theorem config_facts {a b c d : Int} {l : List Int} (h : configOk a b c d l = true) : (1 ≤ a ∧ a ≤ 6) ∧ (0 ≤ b ∧ b ≤ 3) ∧ (0 ≤ c ∧ c ≤ 5) ∧ (0 ≤ d ∧ d ≤ 5) ∧ l.length ≤ 6 ∧ ∀ x ∈ l, 0 ≤ x ∧ x ≤ 1000 := by
  simp only [configOk, Bool.and_eq_true, decide_eq_true_eq, List.all_eq_true] at h
  obtain ⟨⟨⟨⟨⟨⟨⟨⟨⟨h1, h2⟩, h3⟩, h4⟩, h5⟩, h6⟩, h7⟩, h8⟩, h9⟩, h10⟩ := h
  exact ⟨⟨h1, h2⟩, ⟨h3, h4⟩, ⟨h5, h6⟩, ⟨h7, h8⟩, h9, fun x hx => by have := h10 x hx; omega⟩
theorem lens_le (n : Nat) : ∀ (L : List (List UInt8)), (∀ x ∈ L, x.length ≤ n) → lens L ≤ n * L.length
  | [], _ => by simp [lens]
  | x :: L, h => by
    have h1 := h x List.mem_cons_self
    have h2 := lens_le n L (fun y hy => h y (List.mem_cons_of_mem _ hy))
    simp only [lens, List.map_cons, List.sum_cons, List.length_cons] at h2 ⊢
    rw [Nat.mul_succ]; omega
theorem join_f (L : List (List UInt8)) (h : ∀ x ∈ L, x.length ≤ 21) (hL : L.length ≤ 1000) : strings_Join.f (L.map mk) ⟨#[32]⟩ = some (mk (join L [32])) := by
  have e : (L.map mk).map (·.data.toList) = L := by rw [List.map_map]; exact List.map_id L
  have hl : (join L [32]).length ≤ 140737488355328 := by
    cases L with
    | nil => simp [join_nil]
    | cons x r =>
      have := lens_le 21 (x :: r) h
      rw [join_length]
      simp only [List.length_cons, List.length_nil] at this hL ⊢
      omega
  unfold strings_Join.f
  rw [if_pos (by rw [List.length_map]; omega), e]
  show (if (join L [32]).length ≤ 140737488355328 then some (mk (join L [32])) else none) = _
  rw [if_pos hl]
theorem rd_nth (l : List Int) (i : Nat) (h : i < l.length) : rd l (i : Int) ∈ l := by
  rw [show rd l (i : Int) = l[i] by simp [rd, List.getD_eq_getElem?_getD, List.getElem?_eq_getElem h]]
  exact List.getElem_mem h
theorem putc_l0 (l : List Int) (hl : l.length ≤ 900) (hin : ∀ x ∈ l, 0 ≤ x ∧ x ≤ 1000) : ∀ n i k (acc : List ByteArray), i + n = l.length → n < k → acc.length + n ≤ 2000 → note_PutConfig.l0 k acc l (l.length : Int) (i : Int) = strings_Join.f (acc ++ (l.drop i).map (fun x => mk (itoa x))) ⟨#[32]⟩ := by
  intro n
  induction n with
  | zero =>
    intro i k acc hi hk ha
    obtain ⟨m, rfl⟩ := pos_k hk
    simp only [note_PutConfig.l0]
    rw [if_neg (by omega), show i = l.length by omega, List.drop_length, List.map_nil, List.append_nil, bind_id]
  | succ n ih =>
    intro i k acc hi hk ha
    obtain ⟨m, rfl⟩ := pos_k hk
    have hr := hin _ (rd_nth l i (by omega))
    simp only [note_PutConfig.l0]
    rw [if_pos (by omega), if_pos (by omega), if_pos (by omega), num_f hr.1 hr.2, Option.bind_some, if_pos (by omega), wr64 (by omega) (by omega), show ((i : Int) + 1) = ((i + 1 : Nat) : Int) by omega,
      ih (i + 1) m _ (by omega) (by omega) (by rw [List.length_append]; simp only [List.length_cons, List.length_nil]; omega), drop_ri l i (by omega), List.map_cons, List.append_assoc, List.singleton_append]
theorem pieces_small {a b c d : Int} {l : List Int} (h : configOk a b c d l = true) : (∀ x ∈ cfgPieces a b c d l, x.length ≤ 21) ∧ (cfgPieces a b c d l).length ≤ 20 := by
  obtain ⟨ha, hb, hc, hd, hl, hin⟩ := config_facts h
  have h1 := itoa_len (n := a) (by omega) (by omega)
  have h2 := itoa_len (n := b) (by omega) (by omega)
  have h3 := itoa_len (n := c) (by omega) (by omega)
  have h4 := itoa_len (n := d) (by omega) (by omega)
  unfold cfgPieces
  split
  · simp [h1, h2, h3, h4]
  · refine ⟨?_, by simp; omega⟩
    simp only [List.mem_cons, List.mem_map]
    rintro x (rfl | rfl | rfl | rfl | rfl | rfl | rfl | rfl | rfl | ⟨y, hy, rfl⟩) <;> first | assumption | decide | exact itoa_len (hin y hy).1 (hin y hy).2
theorem PutConfig_f {k : Nat} (a b c d : Int) (l : List Int) (hk : 20 ≤ k) : note_PutConfig.f k a b c d l = some (cfgT a b c d l) := by
  unfold note_PutConfig.f rule_Config.f cfgT
  cases h : configOk a b c d l with
  | false => rfl
  | true =>
    obtain ⟨ha, hb, hc, hd, hl, hin⟩ := config_facts h
    obtain ⟨hs, hn⟩ := pieces_small h
    have hj := join_f _ hs (by omega)
    rw [Option.bind_some, if_pos rfl, num_f (by omega) (by omega), Option.bind_some, num_f (by omega) (by omega), Option.bind_some, num_f (by omega) (by omega), Option.bind_some, num_f (by omega) (by omega), Option.bind_some, Option.bind_some, if_pos rfl]
    obtain ⟨m, rfl⟩ : ∃ m, k = m + 1 := ⟨k - 1, by omega⟩
    cases l with
    | nil =>
      rw [if_neg (by simp)]
      simp only [note_PutConfig.j0]
      have := putc_l0 [] (by simp) (by simp) 0 0 m [(⟨#[99, 111, 114, 101, 115]⟩ : ByteArray), mk (itoa a), (⟨#[115, 121, 110, 99, 115]⟩ : ByteArray), mk (itoa b), (⟨#[108, 97, 103]⟩ : ByteArray), mk (itoa c), (⟨#[109, 111, 118, 101]⟩ : ByteArray), mk (itoa d)] (by simp) (by omega) (by simp)
      exact this.trans hj
    | cons x r =>
      rw [if_pos (by simp only [List.length_cons]; omega), if_pos (by simp)]
      simp only [note_PutConfig.j0]
      have := putc_l0 (x :: r) (by omega) hin (x :: r).length 0 m ([(⟨#[99, 111, 114, 101, 115]⟩ : ByteArray), mk (itoa a), (⟨#[115, 121, 110, 99, 115]⟩ : ByteArray), mk (itoa b), (⟨#[108, 97, 103]⟩ : ByteArray), mk (itoa c), (⟨#[109, 111, 118, 101]⟩ : ByteArray), mk (itoa d)] ++ [(⟨#[114, 101, 115]⟩ : ByteArray)]) (by simp) (by omega) (by simp at hl ⊢; omega)
      refine this.trans (Eq.trans ?_ hj)
      unfold cfgPieces
      rw [if_neg (by simp)]
      simp only [List.map_cons, List.map_map, List.drop_zero, List.cons_append, List.nil_append]
      rfl
theorem cfgTxt_ne (a b c d : Int) (l : List Int) : cfgTxt a b c d l ≠ [] := by
  unfold cfgTxt cfgPieces; rw [join_cons]; simp
theorem put_empty {a b c d : Int} {l : List Int} : cfgT a b c d l = ⟨#[]⟩ ↔ configOk a b c d l = false := by
  unfold cfgT
  cases h : configOk a b c d l with
  | false => simp
  | true =>
    simp only [if_true]
    refine ⟨fun e => ?_, fun e => by cases e⟩
    exact absurd (mk_inj (b := []) e) (cfgTxt_ne a b c d l)
/-! ### a configuration's text, read -/
def getC (s : ByteArray) : Int × Int × Int × Int × List Int × Int :=
  let p := pieces 32 s
  if p.length < 8 then (0, 0, 0, 0, [], 1)
  else
    let l := (p.drop (min 9 p.length)).map parsed
    if cfgT (parsed (rdOf ByteArray.empty p 1)) (parsed (rdOf ByteArray.empty p 3)) (parsed (rdOf ByteArray.empty p 5)) (parsed (rdOf ByteArray.empty p 7)) l = s then (parsed (rdOf ByteArray.empty p 1), parsed (rdOf ByteArray.empty p 3), parsed (rdOf ByteArray.empty p 5), parsed (rdOf ByteArray.empty p 7), l, 0)
    else (0, 0, 0, 0, [], 1)
theorem rdOf_mem (p : List ByteArray) (i : Nat) (h : i < p.length) : rdOf ByteArray.empty p (i : Int) ∈ p := by
  rw [show rdOf ByteArray.empty p (i : Int) = p[i] by simp [rdOf, List.getD_eq_getElem?_getD, List.getElem?_eq_getElem h]]
  exact List.getElem_mem h
theorem drop_of (l : List ByteArray) (j : Nat) (h : j < l.length) : l.drop j = rdOf ByteArray.empty l (j : Int) :: l.drop (j + 1) := by
  rw [List.drop_eq_getElem_cons h]
  simp [rdOf, List.getD_eq_getElem?_getD, List.getElem?_eq_getElem h]
theorem getc_l0 (s : ByteArray) (ps : List ByteArray) (hp : ps.length ≤ 2000) (hin : ∀ x ∈ ps, x.size ≤ 1000) (a b c d : Int) : ∀ n i k (acc : List Int), i + n = ps.length → n + 20 < k → acc.length + n ≤ 3000 →
    note_GetConfig.l0 k s ps (ps.length : Int) (i : Int) a b c d acc = some (if cfgT a b c d (acc ++ (ps.drop i).map parsed) = s then (a, b, c, d, acc ++ (ps.drop i).map parsed, 0) else (0, 0, 0, 0, [], 1)) := by
  intro n
  induction n with
  | zero =>
    intro i k acc hi hk ha
    obtain ⟨m, rfl⟩ : ∃ m, k = m + 1 := ⟨k - 1, by omega⟩
    simp only [note_GetConfig.l0]
    rw [if_neg (by omega), show i = ps.length by omega, List.drop_length, List.map_nil, List.append_nil, PutConfig_f _ _ _ _ _ (by omega), Option.bind_some]
    by_cases h : cfgT a b c d acc = s
    · rw [if_pos (toList_eq.2 h), if_pos h]
    · rw [if_neg (fun e => h (toList_eq.1 e)), if_neg h]
  | succ n ih =>
    intro i k acc hi hk ha
    obtain ⟨m, rfl⟩ : ∃ m, k = m + 1 := ⟨k - 1, by omega⟩
    have hr := hin _ (rdOf_mem ps i (by omega))
    simp only [note_GetConfig.l0]
    rw [if_pos (by omega), if_pos (by omega), if_pos (by omega), parse_f hr, Option.bind_some, if_pos (by omega), wr64 (by omega) (by omega), show ((i : Int) + 1) = ((i + 1 : Nat) : Int) by omega,
      ih (i + 1) m _ (by omega) (by omega) (by rw [List.length_append]; simp only [List.length_cons, List.length_nil]; omega), drop_of ps i (by omega), List.map_cons, List.append_assoc, List.singleton_append]
theorem GetConfig_f {k : Nat} (s : ByteArray) (hs : s.size ≤ 1000) (hk : 2000 ≤ k) : note_GetConfig.f k s = some (getC s) := by
  have hp := pieces_len 32 s
  have hz : ∀ x ∈ pieces 32 s, x.size ≤ 1000 := fun x hx => Nat.le_trans (pieces_size 32 s x hx) hs
  unfold note_GetConfig.f getC
  rw [split_f hs, Option.bind_some]
  generalize pieces 32 s = p at hp hz
  simp only
  by_cases h8 : p.length < 8
  · rw [if_pos (by omega), if_pos h8]
  · have hmn : mn 9 (p.length : Int) = ((min 9 p.length : Nat) : Int) := by unfold mn; split <;> omega
    have g1 := hz _ (rdOf_mem p 1 (by omega))
    have g3 := hz _ (rdOf_mem p 3 (by omega))
    have g5 := hz _ (rdOf_mem p 5 (by omega))
    have g7 := hz _ (rdOf_mem p 7 (by omega))
    rw [if_neg (by omega), if_neg h8, if_pos (by omega), show (1 : Int) = ((1 : Nat) : Int) by rfl, parse_f g1, Option.bind_some, if_pos (by omega), show (3 : Int) = ((3 : Nat) : Int) by rfl, parse_f g3, Option.bind_some, if_pos (by omega), show (5 : Int) = ((5 : Nat) : Int) by rfl, parse_f g5, Option.bind_some,
      if_pos (by omega), show (7 : Int) = ((7 : Nat) : Int) by rfl, parse_f g7, Option.bind_some, hmn, if_pos (by omega), if_pos (by omega), Option.bind_some, Int.toNat_natCast]
    have hd : (p.drop (min 9 p.length)).length ≤ p.length := by rw [List.length_drop]; omega
    have := getc_l0 s (p.drop (min 9 p.length)) (by omega) (fun x hx => hz x (List.mem_of_mem_drop hx)) (parsed (rdOf ByteArray.empty p ((1 : Nat) : Int))) (parsed (rdOf ByteArray.empty p ((3 : Nat) : Int))) (parsed (rdOf ByteArray.empty p ((5 : Nat) : Int))) (parsed (rdOf ByteArray.empty p ((7 : Nat) : Int))) (p.drop (min 9 p.length)).length 0 k [] (by simp) (by omega) (by simp; omega)
    exact this
theorem getC_or (s : ByteArray) : getC s = (0, 0, 0, 0, [], 1) ∨ ∃ a b c d l, getC s = (a, b, c, d, l, 0) ∧ configOk a b c d l = true ∧ s = mk (cfgTxt a b c d l) := by
  have hp := pieces_len 32 s
  by_cases h1 : (pieces 32 s).length < 8
  · left
    unfold getC
    simp only
    rw [if_pos h1]
  · have key : ∀ a b c d l, cfgT a b c d l = s → configOk a b c d l = true ∧ s = mk (cfgTxt a b c d l) := by
      intro a b c d l h2
      cases h : configOk a b c d l with
      | false =>
        rw [put_empty.2 h] at h2
        have h3 : s.size = 0 := by rw [← h2]; rfl
        omega
      | true =>
        unfold cfgT at h2
        rw [if_pos h] at h2
        exact ⟨rfl, h2.symm⟩
    unfold getC
    simp only
    rw [if_neg h1]
    split
    · rename_i h2
      have h3 := key _ _ _ _ _ h2
      exact .inr ⟨_, _, _, _, _, rfl, h3.1, h3.2⟩
    · exact .inl rfl
theorem sp_no {n : Int} (h0 : 0 ≤ n) : (32 : UInt8) ∉ itoa n := dig_ne (by unfold dig; decide) (itoa_dig n h0)
theorem getC_back {a b c d : Int} {l : List Int} (h : configOk a b c d l = true) : getC (mk (cfgTxt a b c d l)) = (a, b, c, d, l, 0) := by
  obtain ⟨ha, hb, hc, hd, hl, hin⟩ := config_facts h
  have hpc : pieces 32 (mk (cfgTxt a b c d l)) = (cfgPieces a b c d l).map mk := by
    unfold cfgTxt cfgPieces
    refine pieces_join 32 _ _ (by decide) ?_
    intro y hy
    simp only [List.mem_cons] at hy
    rcases hy with rfl | rfl | rfl | rfl | rfl | rfl | rfl | hy
    · exact sp_no (by omega)
    · decide
    · exact sp_no (by omega)
    · decide
    · exact sp_no (by omega)
    · decide
    · exact sp_no (by omega)
    · split at hy
      · cases hy
      · rcases List.mem_cons.1 hy with rfl | hy
        · decide
        · obtain ⟨x, hx, rfl⟩ := List.mem_map.1 hy
          exact sp_no (hin x hx).1
  have hmap : ∀ r : List Int, (∀ x ∈ r, 0 ≤ x ∧ x ≤ 1000) → ((r.map itoa).map mk).map parsed = r := by
    intro r hr
    induction r with
    | nil => rfl
    | cons x r ih =>
      have hx := hr x List.mem_cons_self
      simp only [List.map_cons]
      rw [parsed_itoa hx.1 hx.2, ih (fun y hy => hr y (List.mem_cons_of_mem _ hy))]
  have key : ∀ q : List (List UInt8), (q.map mk).length + 8 ≤ 20 → ((((([99, 111, 114, 101, 115] :: itoa a :: [115, 121, 110, 99, 115] :: itoa b :: [108, 97, 103] :: itoa c :: [109, 111, 118, 101] :: itoa d :: q).map mk).drop (min 9 (([99, 111, 114, 101, 115] :: itoa a :: [115, 121, 110, 99, 115] :: itoa b :: [108, 97, 103] :: itoa c :: [109, 111, 118, 101] :: itoa d :: q).map mk).length))).map parsed) = (q.drop 1).map (fun x => parsed (mk x)) := by
    intro q hq
    cases q with
    | nil => rfl
    | cons x q =>
      have e : min 9 (([99, 111, 114, 101, 115] :: itoa a :: [115, 121, 110, 99, 115] :: itoa b :: [108, 97, 103] :: itoa c :: [109, 111, 118, 101] :: itoa d :: x :: q).map mk).length = 9 := by
        simp only [List.length_map, List.length_cons]; omega
      rw [e]
      simp only [List.map_cons, List.drop_succ_cons, List.drop_zero, List.map_map]
      rfl
  unfold getC
  simp only
  rw [hpc]
  have e1 : parsed (rdOf ByteArray.empty ((cfgPieces a b c d l).map mk) 1) = a := parsed_itoa (by omega) (by omega)
  have e3 : parsed (rdOf ByteArray.empty ((cfgPieces a b c d l).map mk) 3) = b := parsed_itoa (by omega) (by omega)
  have e5 : parsed (rdOf ByteArray.empty ((cfgPieces a b c d l).map mk) 5) = c := parsed_itoa (by omega) (by omega)
  have e7 : parsed (rdOf ByteArray.empty ((cfgPieces a b c d l).map mk) 7) = d := parsed_itoa (by omega) (by omega)
  have el : (((cfgPieces a b c d l).map mk).drop (min 9 ((cfgPieces a b c d l).map mk).length)).map parsed = l := by
    unfold cfgPieces
    split
    · rename_i h0; subst h0; rfl
    · rw [key _ (by simp; omega)]
      have := hmap l hin
      rw [List.map_map] at this
      exact this
  rw [e1, e3, e5, e7, el, if_neg (by unfold cfgPieces; simp), if_pos (by unfold cfgT; rw [if_pos h])]
theorem cfg_inj {a b c d : Int} {l : List Int} {a' b' c' d' : Int} {l' : List Int} (h : configOk a b c d l = true) (h' : configOk a' b' c' d' l' = true) (e : mk (cfgTxt a b c d l) = mk (cfgTxt a' b' c' d' l')) : a = a' ∧ b = b' ∧ c = c' ∧ d = d' ∧ l = l' := by
  have h1 := getC_back h
  rw [e, getC_back h'] at h1
  simp only [Prod.mk.injEq] at h1
  obtain ⟨h1, h2, h3, h4, h5, _⟩ := h1
  exact ⟨h1.symm, h2.symm, h3.symm, h4.symm, h5.symm⟩
end Go.Proofs.YtjjlicancbmjiaaGreatDoor.PNeg
