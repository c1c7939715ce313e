/-
  A part of the proof. No condition.
-/
import Derived.Test.YtikiloknlchppaaGreatDoorWP4
import Derived.Test.YtikiloknlchppaaGreatDoorWL1
/- Chapter 15 (vary): blanks side by side, counts in a map, each name once, in order. No program in sight. -/
set_option linter.unusedSimpArgs false
set_option linter.unusedVariables false
namespace Go.Proofs.X
open Go Go.Dp

/-! What ReplaceAll does, byte by byte. -/
def RR (old new s : List UInt8) : List UInt8 := Lib.replaceK old new (Lib.count s old) s
theorem replaceAll_RR {s old new : List UInt8} (h : old ≠ new) : Lib.replaceAll s old new = RR old new s := by
  have h1 : (old == new) = false := by simpa using h
  simp only [Lib.replaceAll, Lib.replace, h1, Bool.false_eq_true, if_false, Lib.replaceNum, RR]
  rw [if_pos (Or.inl (by decide))]
theorem RR_nil {old new : List UInt8} (h : old ≠ []) : RR old new [] = [] := by
  have h1 : Lib.index [] old = -1 := by
    cases old with
    | nil => exact absurd rfl h
    | cons a l => simp [Lib.index]
  rw [RR, Lib.count_miss h1]; rfl
theorem index_pre {old s : List UInt8} (h : old ≠ []) (hp : old.isPrefixOf s = true) : Lib.index s old = 0 := by
  cases s with
  | nil => cases old with
    | nil => exact absurd rfl h
    | cons a l => simp at hp
  | cons b l => simp [Lib.index, hp]
theorem RR_pre {old new s : List UInt8} (h : old ≠ []) (hp : old.isPrefixOf s = true) : RR old new s = new ++ RR old new (s.drop old.length) := by
  have h0 : Lib.index s old = (0 : Nat) := index_pre h hp
  have h1 := Lib.count_hit h h0
  rw [RR, h1, Nat.add_comm, Lib.replaceK_hit _ _ _ _ _ h0]
  simp [RR]
theorem RR_step {old new l : List UInt8} {b : UInt8} (h : old ≠ []) (hp : old.isPrefixOf (b :: l) = false) : RR old new (b :: l) = b :: RR old new l := by
  by_cases hm : Lib.index l old = -1
  · have h1 : Lib.index (b :: l) old = -1 := by simp [Lib.index, hp, hm]
    rw [RR, RR, Lib.count_miss h1, Lib.count_miss hm]; rfl
  · have hg := Lib.index_ge l old
    obtain ⟨i, hi⟩ : ∃ i : Nat, Lib.index l old = i := ⟨(Lib.index l old).toNat, by omega⟩
    have h1 : Lib.index (b :: l) old = ((i + 1 : Nat) : Int) := by
      have : ((i : Int) == -1) = false := by simp
      simp [Lib.index, hp, hi, this]
    have c1 := Lib.count_hit h h1
    have c2 := Lib.count_hit h hi
    have e : (b :: l).drop (i + 1 + old.length) = l.drop (i + old.length) := by
      rw [show i + 1 + old.length = (i + old.length) + 1 by omega, List.drop_succ_cons]
    rw [e] at c1
    rw [RR, RR, c1, c2, Nat.add_comm 1, Lib.replaceK_hit _ _ _ _ _ h1, Lib.replaceK_hit _ _ _ _ _ hi, e]
    simp
theorem contains_nil {old : List UInt8} (h : old ≠ []) : Lib.contains [] old = false := by
  cases old with
  | nil => exact absurd rfl h
  | cons a l => simp [Lib.contains, Lib.index]
theorem contains_pre {old s : List UInt8} (h : old ≠ []) (hp : old.isPrefixOf s = true) : Lib.contains s old = true := by
  simp [Lib.contains, index_pre h hp]
theorem contains_step {old l : List UInt8} {b : UInt8} (hp : old.isPrefixOf (b :: l) = false) : Lib.contains (b :: l) old = Lib.contains l old := by
  have hg := Lib.index_ge l old
  simp only [Lib.contains, Lib.index, hp, Bool.false_eq_true, if_false]
  by_cases hm : Lib.index l old = -1
  · simp [hm]
  · have : (Lib.index l old == -1) = false := by simpa using hm
    rw [this]
    simp only [Bool.false_eq_true, if_false]
    congr 1
    exact propext ⟨fun _ => by omega, fun _ => by omega⟩

/-! Blanks side by side. -/
def tb (b : UInt8) : UInt8 := if b = 9 then 32 else b
theorem RR_tab (s : List UInt8) : RR [9] [32] s = s.map tb := by
  induction s with
  | nil => exact RR_nil (by simp)
  | cons b l ih =>
    by_cases h : b = 9
    · subst h
      rw [RR_pre (by simp) (by simp)]
      simp [ih, tb]
    · have hb : ((9 : UInt8) == b) = false := by simpa using Ne.symm h
      rw [RR_step (by simp) (show ([9] : List UInt8).isPrefixOf (b :: l) = false by simp [List.isPrefixOf, hb]), ih]
      simp [tb, h]
def halve : List UInt8 → List UInt8
  | [] => []
  | [b] => [b]
  | a :: b :: r => if a = 32 ∧ b = 32 then 32 :: halve r else a :: halve (b :: r)
def hasD : List UInt8 → Bool
  | [] => false
  | [_] => false
  | a :: b :: r => if a = 32 ∧ b = 32 then true else hasD (b :: r)
theorem eq32 (a : UInt8) : ((32 : UInt8) == a) = decide (a = 32) := by
  by_cases h : a = 32
  · simp [h]
  · simp [h, Ne.symm h]
theorem pre1 (b : UInt8) : ([32, 32] : List UInt8).isPrefixOf [b] = false := by simp [List.isPrefixOf]
theorem pre2 (a b : UInt8) (r : List UInt8) : ([32, 32] : List UInt8).isPrefixOf (a :: b :: r) = decide (a = 32 ∧ b = 32) := by
  by_cases h1 : a = 32 <;> by_cases h2 : b = 32 <;> simp [List.isPrefixOf, eq32, h1, h2]
theorem RR_two : ∀ (n : Nat) (s : List UInt8), s.length ≤ n → RR [32, 32] [32] s = halve s := by
  intro n
  induction n with
  | zero => intro s h; obtain rfl := List.eq_nil_of_length_eq_zero (by omega : s.length = 0); rw [RR_nil (by simp)]; rfl
  | succ n ih =>
    intro s h
    match s, h with
    | [], _ => rw [RR_nil (by simp)]; rfl
    | [b], _ => rw [RR_step (by simp) (pre1 b), RR_nil (by simp)]; rfl
    | a :: b :: r, h =>
      by_cases c : a = 32 ∧ b = 32
      · rw [RR_pre (by simp) (by rw [pre2]; simpa using c)]
        simp only [halve, c, and_self, if_true]
        have := ih r (by simp at h; omega)
        simpa using this
      · rw [RR_step (by simp) (by rw [pre2]; simpa using c), ih (b :: r) (by simp only [List.length_cons] at h ⊢; omega)]
        simp only [halve, c, if_false]
theorem contains_two : ∀ (n : Nat) (s : List UInt8), s.length ≤ n → Lib.contains s [32, 32] = hasD s := by
  intro n
  induction n with
  | zero => intro s h; obtain rfl := List.eq_nil_of_length_eq_zero (by omega : s.length = 0); rw [contains_nil (by simp)]; rfl
  | succ n ih =>
    intro s h
    match s, h with
    | [], _ => rw [contains_nil (by simp)]; rfl
    | [b], _ => rw [contains_step (pre1 b), contains_nil (by simp)]; rfl
    | a :: b :: r, h =>
      by_cases c : a = 32 ∧ b = 32
      · rw [contains_pre (by simp) (by rw [pre2]; simpa using c)]
        simp only [hasD, c, and_self, if_true]
      · rw [contains_step (by rw [pre2]; simpa using c), ih (b :: r) (by simp only [List.length_cons] at h ⊢; omega)]
        simp only [hasD, c, if_false]
def col (p : Bool) : List UInt8 → List UInt8
  | [] => []
  | b :: r => if b = 32 then (if p then col true r else 32 :: col true r) else b :: col false r
theorem col_halve : ∀ (n : Nat) (s : List UInt8), s.length ≤ n → ∀ p, col p (halve s) = col p s := by
  intro n
  induction n with
  | zero => intro s h p; obtain rfl := List.eq_nil_of_length_eq_zero (by omega : s.length = 0); rfl
  | succ n ih =>
    intro s h p
    match s, h with
    | [], _ => rfl
    | [b], _ => rfl
    | a :: b :: r, h =>
      by_cases c : a = 32 ∧ b = 32
      · have h1 := ih r (by simp at h; omega) true
        simp only [halve, c, and_self, if_true, col, h1]
      · have h1 := ih (b :: r) (by simp only [List.length_cons] at h ⊢; omega)
        simp only [halve, c, if_false]
        show (if a = 32 then (if p then col true (halve (b :: r)) else 32 :: col true (halve (b :: r))) else a :: col false (halve (b :: r))) = _
        rw [h1, h1]
        try rfl
theorem col_none : ∀ (n : Nat) (s : List UInt8), s.length ≤ n → hasD s = false → col false s = s ∧ (s.head? ≠ some 32 → col true s = s) := by
  intro n
  induction n with
  | zero => intro s h _; obtain rfl := List.eq_nil_of_length_eq_zero (by omega : s.length = 0); exact ⟨rfl, fun _ => rfl⟩
  | succ n ih =>
    intro s h hd
    match s, h, hd with
    | [], _, _ => exact ⟨rfl, fun _ => rfl⟩
    | [b], _, _ => refine ⟨by by_cases c : b = 32 <;> simp [col, c], fun hh => ?_⟩
                   have : b ≠ 32 := by simpa using hh
                   simp [col, this]
    | a :: b :: r, h, hd =>
      by_cases c : a = 32 ∧ b = 32
      · simp [hasD, c] at hd
      · simp only [hasD, c, if_false] at hd
        obtain ⟨h1, h2⟩ := ih (b :: r) (by simp only [List.length_cons] at h ⊢; omega) hd
        refine ⟨?_, fun hh => ?_⟩
        · rw [col]
          by_cases c1 : a = 32
          · have c2 : b ≠ 32 := fun e => c ⟨c1, e⟩
            rw [if_pos c1, if_neg (by simp), h2 (by simpa using c2), c1]
          · rw [if_neg c1, h1]
        · have c1 : a ≠ 32 := by simpa using hh
          rw [col, if_neg c1, h1]
theorem halve_le : ∀ (n : Nat) (s : List UInt8), s.length ≤ n → (halve s).length ≤ s.length ∧ (hasD s = true → (halve s).length < s.length) := by
  intro n
  induction n with
  | zero => intro s h; obtain rfl := List.eq_nil_of_length_eq_zero (by omega : s.length = 0); exact ⟨Nat.le_refl _, fun h => by cases h⟩
  | succ n ih =>
    intro s h
    match s, h with
    | [], _ => exact ⟨Nat.le_refl _, fun h => by cases h⟩
    | [b], _ => exact ⟨Nat.le_refl _, fun h => by cases h⟩
    | a :: b :: r, h =>
      by_cases c : a = 32 ∧ b = 32
      · have := (ih r (by simp at h; omega)).1
        simp only [halve, hasD, c, and_self, if_true, List.length_cons]
        exact ⟨by omega, fun _ => by omega⟩
      · obtain ⟨h1, h2⟩ := ih (b :: r) (by simp only [List.length_cons] at h ⊢; omega)
        simp only [halve, hasD, c, if_false, List.length_cons] at h1 h2 ⊢
        exact ⟨by omega, fun hd => by have := h2 hd; omega⟩
/-- One blank in the place of blanks side by side. -/
def sgl (s : List UInt8) : List UInt8 := col false (s.map tb)
theorem col_len : ∀ (s : List UInt8) (p : Bool), (col p s).length ≤ s.length := by
  intro s
  induction s with
  | nil => intro p; exact Nat.le_refl _
  | cons b r ih =>
    intro p
    have h1 := ih true
    have h2 := ih false
    simp only [col]
    split
    · split <;> simp <;> omega
    · simp; omega
theorem sgl_len (s : List UInt8) : (sgl s).length ≤ s.length := by
  have := col_len (s.map tb) false
  simpa [sgl] using this

/-! Counts in a map. -/
theorem mfind_mput {ν : Type} (k j : List UInt8) (v : ν) : ∀ l : List (List UInt8 × ν), mfind (eqv .str) (mput (eqv .str) l k v) j = if j = k then some v else mfind (eqv .str) l j := by
  intro l
  induction l with
  | nil =>
    by_cases h : j = k
    · subst h; simp [mput, mfind, eqv]
    · have h' : (j == k) = false := by simpa using h
      simp [mput, mfind, eqv, h, h']
  | cons p l ih =>
    obtain ⟨a, b⟩ := p
    by_cases h1 : k = a
    · subst h1
      have e : eqv Ty.str k k = true := by simp [eqv]
      simp only [mput, e, cond_true, mfind]
      by_cases h : j = k
      · subst h; simp [e]
      · have e2 : eqv Ty.str j k = false := by simp [eqv, h]
        simp [e2, h]
    · have e : eqv Ty.str k a = false := by simp [eqv, h1]
      simp only [mput, e, cond_false, mfind, ih]
      by_cases h : j = a
      · subst h
        have e2 : eqv Ty.str j j = true := by simp [eqv]
        simp [e2, Ne.symm h1]
      · have e2 : eqv Ty.str j a = false := by simp [eqv, h]
        simp [e2]
def cnt (m : List (List UInt8 × Int)) (k : List UInt8) : Int := Option.getD (mfind (eqv .str) m k) 0
def mstep (m : List (List UInt8 × Int)) (s : List UInt8) : List (List UInt8 × Int) := mput (eqv .str) m s (IntKind.wrap .i64 (cnt m s + 1))
def mp (P : List (List UInt8)) : List (List UInt8 × Int) := P.foldl mstep []
theorem mp_snoc (P : List (List UInt8)) (s : List UInt8) : mp (P ++ [s]) = mstep (mp P) s := by simp [mp]
theorem cnt_mp : ∀ (n : Nat) (P : List (List UInt8)) (k : List UInt8), P.length = n → n < 9223372036854775807 → cnt (mp P) k = (P.count k : Int) := by
  intro n
  induction n with
  | zero => intro P k h _; obtain rfl := List.eq_nil_of_length_eq_zero h; rfl
  | succ n ih =>
    intro P k h hb
    have hne : P ≠ [] := by intro e; subst e; simp at h
    obtain ⟨Q, s, rfl⟩ : ∃ Q s, P = Q ++ [s] := ⟨P.dropLast, P.getLast hne, (List.dropLast_concat_getLast hne).symm⟩
    have hQ : Q.length = n := by simpa using h
    have h1 := ih Q k hQ (by omega)
    have h2 := ih Q s hQ (by omega)
    rw [mp_snoc, cnt, mstep, mfind_mput]
    by_cases hk : k = s
    · subst hk
      have hc := List.count_le_length (a := k) (l := Q)
      rw [if_pos rfl, h2, wrapSucc (by omega)]
      simp
    · rw [if_neg hk]
      have : (Q ++ [s]).count k = Q.count k := by simp [Ne.symm hk]
      rw [this]
      exact h1
def addT (out : List (List UInt8)) (s : List UInt8) : List (List UInt8) := if s ∈ out then out else out ++ [s]
/-- Each text once. -/
def dd (P : List (List UInt8)) : List (List UInt8) := P.foldl addT []
theorem dd_snoc (P : List (List UInt8)) (s : List UInt8) : dd (P ++ [s]) = addT (dd P) s := by simp [dd]
theorem dd_mem_aux (k : List UInt8) : ∀ (P o : List (List UInt8)), k ∈ P.foldl addT o ↔ k ∈ o ∨ k ∈ P := by
  intro P
  induction P with
  | nil => intro o; simp
  | cons s P ih =>
    intro o
    rw [List.foldl_cons, ih]
    unfold addT
    split <;> rename_i h
    · constructor
      · rintro (h1 | h1)
        · exact .inl h1
        · exact .inr (List.mem_cons_of_mem _ h1)
      · rintro (h1 | h1)
        · exact .inl h1
        · rcases List.mem_cons.1 h1 with rfl | h1
          · exact .inl h
          · exact .inr h1
    · simp only [List.mem_append, List.mem_cons, List.not_mem_nil, or_false]
      constructor
      · rintro ((h1 | h1) | h1)
        · exact .inl h1
        · exact .inr (.inl h1)
        · exact .inr (.inr h1)
      · rintro (h1 | h1 | h1)
        · exact .inl (.inl h1)
        · exact .inl (.inr h1)
        · exact .inr h1
theorem dd_mem (P : List (List UInt8)) (k : List UInt8) : k ∈ dd P ↔ k ∈ P := by
  have := dd_mem_aux k P []
  simpa [dd] using this
theorem dd_nodup_aux : ∀ (P o : List (List UInt8)), o.Nodup → (P.foldl addT o).Nodup := by
  intro P
  induction P with
  | nil => intro o h; exact h
  | cons s P ih =>
    intro o h
    rw [List.foldl_cons]
    refine ih _ ?_
    unfold addT
    split
    · exact h
    · rename_i hs
      rw [List.nodup_append]
      refine ⟨h, by simp, fun a ha b hb => ?_⟩
      simp only [List.mem_singleton] at hb
      subst hb
      exact fun e => hs (e ▸ ha)
theorem dd_nodup (P : List (List UInt8)) : (dd P).Nodup := dd_nodup_aux P [] List.nodup_nil
theorem dd_len_aux : ∀ (P o : List (List UInt8)), (P.foldl addT o).length ≤ o.length + P.length := by
  intro P
  induction P with
  | nil => intro o; simp
  | cons s P ih =>
    intro o
    have := ih (addT o s)
    have h2 : (addT o s).length ≤ o.length + 1 := by unfold addT; split <;> simp
    simp only [List.foldl_cons, List.length_cons]
    omega
theorem dd_len (P : List (List UInt8)) : (dd P).length ≤ P.length := by
  have := dd_len_aux P []
  simpa [dd] using this

/-! In order. -/
theorem bless_eq : ∀ (x y : List UInt8), Op.bytesLess x y = decide (x < y)
  | [], [] => by simp [Op.bytesLess]
  | _ :: _, [] => by simp [Op.bytesLess]
  | [], _ :: _ => by simp [Op.bytesLess]
  | a :: x, b :: y => by
    rw [Op.bytesLess, bless_eq x y]
    simp only [List.cons_lt_cons_iff]
    by_cases h1 : a < b <;> by_cases h2 : a = b <;> by_cases h3 : x < y <;> simp [h1, h2, h3]
def srt (l : List (List UInt8)) : List (List UInt8) := l.mergeSort fun x y => decide (x ≤ y)
theorem srt_mem (l : List (List UInt8)) (k : List UInt8) : k ∈ srt l ↔ k ∈ l := (List.mergeSort_perm l _).mem_iff
theorem srt_len (l : List (List UInt8)) : (srt l).length = l.length := List.length_mergeSort _
theorem srt_pair {l : List (List UInt8)} (h : l.Nodup) : (srt l).Pairwise (· < ·) := by
  have h1 : (srt l).Pairwise (fun x y => decide (x ≤ y) = true) := List.pairwise_mergeSort (fun a b c h1 h2 => by simp only [decide_eq_true_eq] at *; exact List.le_trans h1 h2) (fun a b => by simp only [Bool.or_eq_true, decide_eq_true_eq]; exact List.le_total a b) l
  have h2 : (srt l).Nodup := (List.mergeSort_perm l _).nodup_iff.2 h
  have h3 : (srt l).Pairwise (· ≠ ·) := h2
  refine (h1.and h3).imp ?_
  rintro a b ⟨h4, h5⟩
  have h4 : a ≤ b := by simpa using h4
  rcases List.le_iff_lt_or_eq.1 h4 with h6 | h6
  · exact h6
  · exact absurd h6 h5
theorem sorted_uniq : ∀ (a b : List (List UInt8)), a.Pairwise (· < ·) → b.Pairwise (· < ·) → (∀ k, k ∈ a ↔ k ∈ b) → a = b := by
  intro a
  induction a with
  | nil =>
    intro b _ _ h
    cases b with
    | nil => rfl
    | cons y b => exact absurd ((h y).2 (by simp)) (by simp)
  | cons x a ih =>
    intro b ha hb h
    cases b with
    | nil => exact absurd ((h x).1 (by simp)) (by simp)
    | cons y b =>
      rw [List.pairwise_cons] at ha hb
      have hxy : x = y := by
        have h1 := (h x).1 (by simp)
        have h2 := (h y).2 (by simp)
        rcases List.mem_cons.1 h1 with h1 | h1
        · exact h1
        · rcases List.mem_cons.1 h2 with h2 | h2
          · exact h2.symm
          · exact absurd (List.lt_trans (ha.1 _ h2) (hb.1 _ h1)) (List.lt_irrefl _)
      subst hxy
      congr 1
      refine ih b ha.2 hb.2 fun k => ?_
      have hk := h k
      simp only [List.mem_cons] at hk
      constructor
      · intro h1
        rcases hk.1 (.inr h1) with rfl | h2
        · exact absurd (ha.1 _ h1) (List.lt_irrefl _)
        · exact h2
      · intro h1
        rcases hk.2 (.inr h1) with rfl | h2
        · exact absurd (hb.1 _ h1) (List.lt_irrefl _)
        · exact h2
/-- The names, in order, each once. -/
def ord (P : List (List UInt8)) : List (List UInt8) := srt (dd P)
theorem ord_mem (P : List (List UInt8)) (k : List UInt8) : k ∈ ord P ↔ k ∈ P := (srt_mem _ _).trans (dd_mem _ _)
theorem ord_pair (P : List (List UInt8)) : (ord P).Pairwise (· < ·) := srt_pair (dd_nodup P)
theorem ord_eq {P Q : List (List UInt8)} (h : ∀ k, k ∈ P ↔ k ∈ Q) : ord P = ord Q := sorted_uniq _ _ (ord_pair P) (ord_pair Q) fun k => (ord_mem P k).trans ((h k).trans (ord_mem Q k).symm)
theorem ord_len (P : List (List UInt8)) : (ord P).length ≤ P.length := by rw [ord, srt_len]; exact dd_len P
end Go.Proofs.X

