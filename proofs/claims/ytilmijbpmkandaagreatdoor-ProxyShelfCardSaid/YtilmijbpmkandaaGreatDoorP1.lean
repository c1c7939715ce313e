/-
  A part of the proof. No condition.
-/
import Derived.Test.YtilmijbpmkandaaGreatDoorG1
import Derived.Test.YtilmijbpmkandaaGreatDoorFc
/- A shelf beside a list of pairs: what puts and deletions come to. No condition. -/
set_option linter.unusedSimpArgs false
set_option linter.unusedVariables false
namespace Go.Proofs.X
open Go Go.Dp

abbrev Pr := List UInt8 × (List Int × Unit)
abbrev Mp := List (List UInt8 × List Int)
/-- A key's value in a list of pairs; the list without a key. -/
def lf : List Pr → List UInt8 → Option (List Int)
  | [], _ => none
  | p :: l, k => if p.1 = k then some p.2.1 else lf l k
def wo (l : List Pr) (k : List UInt8) : List Pr := l.filter fun p => !(p.1 == k)
abbrev mf (D : Mp) (k : List UInt8) : Option (List Int) := mfind (eqv .str) D k
abbrev md (D : Mp) (k : List UInt8) : Mp := mdrop (eqv .str) D k
abbrev mp (D : Mp) (k : List UInt8) (v : List Int) : Mp := mput (eqv .str) D k v

theorem eqs (x y : List UInt8) : eqv .str x y = decide (x = y) := by
  show (x == y) = _
  rw [Bool.eq_iff_iff]; simp
theorem mf_cons (a : List UInt8) (b : List Int) (D : Mp) (k : List UInt8) : mf ((a, b) :: D) k = if k = a then some b else mf D k := by
  show (bif eqv .str k a then some b else mf D k) = _
  rw [eqs]; by_cases h : k = a <;> simp [h]
theorem md_cons (a : List UInt8) (b : List Int) (D : Mp) (k : List UInt8) : md ((a, b) :: D) k = if k = a then D else (a, b) :: md D k := by
  show (bif eqv .str k a then D else (a, b) :: md D k) = _
  rw [eqs]; by_cases h : k = a <;> simp [h]
theorem mp_cons (a : List UInt8) (b : List Int) (D : Mp) (k : List UInt8) (v : List Int) : mp ((a, b) :: D) k v = if k = a then (k, v) :: D else (a, b) :: mp D k v := by
  show (bif eqv .str k a then (k, v) :: D else (a, b) :: mp D k v) = _
  rw [eqs]; by_cases h : k = a <;> simp [h]

theorem mf_none : ∀ (D : Mp) (k : List UInt8), k ∉ D.map (·.1) → mf D k = none := by
  intro D
  induction D with
  | nil => intro k _; rfl
  | cons p D ih =>
    obtain ⟨a, b⟩ := p
    intro k h
    simp only [List.map_cons, List.mem_cons, not_or] at h
    rw [mf_cons, if_neg h.1, ih k h.2]
theorem mf_md : ∀ (D : Mp) (k k' : List UInt8), (D.map (·.1)).Nodup → mf (md D k) k' = if k' = k then none else mf D k' := by
  intro D
  induction D with
  | nil => intro k k' _; show none = if k' = k then none else none; simp
  | cons p D ih =>
    obtain ⟨a, b⟩ := p
    intro k k' h
    simp only [List.map_cons, List.nodup_cons] at h
    rw [md_cons]
    by_cases e : k = a
    · subst e
      rw [if_pos rfl, mf_cons]
      by_cases e2 : k' = k
      · subst e2; rw [if_pos rfl]; exact mf_none D _ h.1
      · rw [if_neg e2, if_neg e2]
    · rw [if_neg e, mf_cons, mf_cons, ih k k' h.2]
      by_cases e2 : k' = a
      · subst e2; rw [if_pos rfl, if_neg (fun q => e q.symm), if_pos rfl]
      · rw [if_neg e2, if_neg e2]
theorem mf_mp : ∀ (D : Mp) (k k' : List UInt8) (v : List Int), mf (mp D k v) k' = if k' = k then some v else mf D k' := by
  intro D
  induction D with
  | nil => intro k k' v; show mf ((k, v) :: []) k' = _; rw [mf_cons]
  | cons p D ih =>
    obtain ⟨a, b⟩ := p
    intro k k' v
    rw [mp_cons]
    by_cases e : k = a
    · subst e
      rw [if_pos rfl, mf_cons, mf_cons]
      by_cases e2 : k' = k
      · rw [if_pos e2, if_pos e2]
      · rw [if_neg e2, if_neg e2, if_neg e2]
    · rw [if_neg e, mf_cons, mf_cons, ih k k' v]
      by_cases e2 : k' = a
      · subst e2; rw [if_pos rfl, if_neg (fun q => e q.symm), if_pos rfl]
      · rw [if_neg e2, if_neg e2]
theorem md_keys : ∀ (D : Mp) (k : List UInt8), List.Sublist ((md D k).map (·.1)) (D.map (·.1)) := by
  intro D
  induction D with
  | nil => intro k; exact List.Sublist.refl _
  | cons p D ih =>
    obtain ⟨a, b⟩ := p
    intro k
    rw [md_cons]
    split
    · exact List.sublist_cons_self _ _
    · simp only [List.map_cons]; exact (ih k).cons_cons a
theorem mp_mem : ∀ (D : Mp) (k x : List UInt8) (v : List Int), x ∈ (mp D k v).map (·.1) → x = k ∨ x ∈ D.map (·.1) := by
  intro D
  induction D with
  | nil => intro k x v h; exact .inl (by simpa [mp, mput] using h)
  | cons p D ih =>
    obtain ⟨a, b⟩ := p
    intro k x v h
    rw [mp_cons] at h
    split at h
    · rename_i e; subst e; exact .inr (by simpa using h)
    · simp only [List.map_cons, List.mem_cons] at h ⊢
      rcases h with h | h
      · exact .inr (.inl h)
      · exact (ih k x v h).imp_right .inr
theorem mp_nodup : ∀ (D : Mp) (k : List UInt8) (v : List Int), (D.map (·.1)).Nodup → ((mp D k v).map (·.1)).Nodup := by
  intro D
  induction D with
  | nil => intro k v _; simp [mp, mput]
  | cons p D ih =>
    obtain ⟨a, b⟩ := p
    intro k v h
    rw [mp_cons]
    simp only [List.map_cons, List.nodup_cons] at h
    split
    · rename_i e; subst e; simpa using h
    · rename_i e
      simp only [List.map_cons, List.nodup_cons]
      refine ⟨fun hm => ?_, ih k v h.2⟩
      rcases mp_mem D k a v hm with q | q
      · exact e q.symm
      · exact h.1 q

theorem lf_wo : ∀ (l : List Pr) (k k' : List UInt8), lf (wo l k) k' = if k' = k then none else lf l k' := by
  intro l
  induction l with
  | nil => intro k k'; show none = if k' = k then none else none; simp
  | cons p l ih =>
    intro k k'
    show lf (List.filter _ (p :: l)) k' = _
    rw [List.filter_cons]
    by_cases e : p.1 = k
    · have : (!(p.1 == k)) = false := by simp [e]
      rw [this]
      simp only [Bool.false_eq_true, if_false]
      rw [show List.filter (fun p => !(p.1 == k)) l = wo l k from rfl, ih k k']
      by_cases e2 : k' = k
      · rw [if_pos e2, if_pos e2]
      · rw [if_neg e2, if_neg e2]; simp only [lf]; rw [if_neg (fun q : p.1 = k' => e2 (q.symm.trans e))]
    · have : (!(p.1 == k)) = true := by simp [e]
      rw [this]
      simp only [if_true, lf]
      rw [show List.filter (fun p => !(p.1 == k)) l = wo l k from rfl, ih k k']
      by_cases e2 : p.1 = k'
      · subst e2; rw [if_pos rfl, if_neg e, if_pos rfl]
      · rw [if_neg e2, if_neg e2]
theorem lf_snoc : ∀ (l : List Pr) (k k' : List UInt8) (v : List Int), lf (l ++ [(k, (v, ()))]) k' = match lf l k' with | some w => some w | none => if k' = k then some v else none := by
  intro l
  induction l with
  | nil => intro k k' v; simp only [List.nil_append, lf]; by_cases e : k = k' <;> simp [e, eq_comm]
  | cons p l ih =>
    intro k k' v
    simp only [List.cons_append, lf]
    split
    · rfl
    · exact ih k k' v
theorem wo_len (l : List Pr) (k : List UInt8) : decide ((wo l k).length < l.length) = (lf l k).isSome := by
  induction l with
  | nil => rfl
  | cons p l ih =>
    show decide ((List.filter _ (p :: l)).length < _) = _
    rw [List.filter_cons]
    have hle : (wo l k).length ≤ l.length := List.length_filter_le _ _
    by_cases e : p.1 = k
    · have : (!(p.1 == k)) = false := by simp [e]
      rw [this]
      simp only [Bool.false_eq_true, if_false, lf, e, if_true, Option.isSome_some, List.length_cons]
      exact decide_eq_true (show (wo l k).length < l.length + 1 by omega)
    · have : (!(p.1 == k)) = true := by simp [e]
      rw [this]
      simp only [if_true, lf, e, if_false, List.length_cons]
      rw [← ih]
      show decide ((wo l k).length + 1 < l.length + 1) = _
      simp
theorem wo_le (l : List Pr) (k : List UInt8) : (wo l k).length ≤ l.length := List.length_filter_le _ _
theorem wo_nil (l : List Pr) (k : List UInt8) : wo [] k = [] := rfl
theorem wo_drop (l : List Pr) (k : List UInt8) {i : Nat} (h : i < l.length) : wo (l.drop i) k = if (l.getD i ([], ([], ()))).1 = k then wo (l.drop (i + 1)) k else l.getD i ([], ([], ())) :: wo (l.drop (i + 1)) k := by
  rw [drop_get l ([], ([], ())) h]
  show List.filter _ (_ :: _) = _
  rw [List.filter_cons]
  by_cases e : (l.getD i ([], ([], ()))).1 = k <;> simp [-List.getD_eq_getElem?_getD, e, wo]
theorem lf_drop (l : List Pr) (k : List UInt8) {i : Nat} (h : i < l.length) : lf (l.drop i) k = if (l.getD i ([], ([], ()))).1 = k then some (l.getD i ([], ([], ()))).2.1 else lf (l.drop (i + 1)) k := by
  rw [drop_get l ([], ([], ())) h]
  rfl

/-- The shelf and the list say the same. -/
structure Good (D : Mp) (L : List Pr) (i : Nat) : Prop where
  nodup : (D.map (·.1)).Nodup
  same : ∀ k, mf D k = lf L k
  len : L.length ≤ i
  small : ∀ k v, mf D k = some v → v.length ≤ 300

theorem Good.drop {D : Mp} {L : List Pr} {i : Nat} (h : Good D L i) (k : List UInt8) : Good (md D k) (wo L k) (i + 1) := by
  refine ⟨(md_keys D k).nodup h.nodup, fun k' => ?_, Nat.le_succ_of_le (Nat.le_trans (wo_le L k) h.len), fun k' v hv => ?_⟩
  · rw [mf_md D k k' h.nodup, lf_wo, h.same]
  · rw [mf_md D k k' h.nodup] at hv
    split at hv
    · cases hv
    · exact h.small k' v hv
theorem Good.put {D : Mp} {L : List Pr} {i : Nat} (h : Good D L i) (k : List UInt8) (v : List Int) (hv : v.length ≤ 300) : Good (mp D k v) (wo L k ++ [(k, (v, ()))]) (i + 1) := by
  refine ⟨mp_nodup D k v h.nodup, fun k' => ?_, ?_, fun k' w hw => ?_⟩
  · rw [mf_mp, lf_snoc, lf_wo, h.same]
    by_cases e : k' = k
    · simp [e]
    · rw [if_neg e, if_neg e, if_neg e]; cases lf L k' <;> rfl
  · have := wo_le L k; have := h.len; simp; omega
  · rw [mf_mp] at hw
    split at hw
    · cases hw; exact hv
    · exact h.small k' w hw
end Go.Proofs.X

