/-
  A part of the proof. No condition.
-/
import Derived.Test.YtilmijbpmkandaaGreatDoorP1
/- Law 33 (ProxyShelf): that the printed law holds. No condition. -/
set_option linter.unusedSimpArgs false
set_option linter.unusedVariables false
namespace Go.Proofs.X
open Go Go.Dp

abbrev pd0 : Pr := ([], ([], ()))
theorem roomOf {n m : Nat} (h : n ≤ 1000) (hm : m ≤ 1000) : decide ((n + 1) * 40 ≤ maxRoom) = true ∧ decide ((0 + m) * 1 ≤ maxRoom) = true := by
  unfold maxRoom
  exact ⟨decide_eq_true (by omega), decide_eq_true (by omega)⟩

/-- A key's pairs taken away. -/
theorem del0 (K : Nat) (p : Nat) (k : List UInt8) (D : Mp) (sh : Int × Unit × Unit) (L : List Pr) (kp : Unit × Unit × Int × Unit) (hL : L.length ≤ 1000) : ∀ (n i : Nat) (acc : List Pr), i ≤ L.length → L.length - i < n → acc.length ≤ i →
    depotlaw33_ProxyShelf.l0 K n ((p, (k, ((), ((i : Int), ())))), (D, (sh, (L, (kp, (acc, ())))))) = some ((p, ((), ())), (D, (sh, (L, (kp, (acc ++ wo (L.drop i) k, ())))))) := by
  intro n
  induction n with
  | zero => intro i acc _ h; omega
  | succ n ih =>
    intro i acc hi hn ha
    show depotlaw33_ProxyShelf.t0 K (depotlaw33_ProxyShelf.l0 K n) _ = _
    by_cases h : i < L.length
    · have hlt : (i : Int) < (L.length : Int) := by omega
      have h0 : (0 : Int) ≤ (i : Int) := by omega
      have hw := wrapSucc (show i < 9223372036854775807 by omega)
      have hr := (roomOf (n := acc.length) (m := 0) (by omega) (by omega)).1
      rw [wo_drop L k h]
      simp only [depotlaw33_ProxyShelf.t0, hlt, h0, decide_true, cond_true, Bool.and_self, Int.toNat_natCast, hw, hr]
      by_cases c : (L.getD i pd0).1 = k
      · have hb : ((L.getD i pd0).1 == k) = true := by simp [-List.getD_eq_getElem?_getD, c]
        simp only [hb, Bool.not_true, cond_false, bind_some', if_pos c, hw]
        exact ih (i + 1) acc (by omega) (by omega) (by omega)
      · have hb : ((L.getD i pd0).1 == k) = false := by simp [-List.getD_eq_getElem?_getD, c]
        simp only [hb, Bool.not_false, cond_true, bind_some', if_neg c, hw]
        have := ih (i + 1) (acc ++ [L.getD i pd0]) (by omega) (by omega) (by simp; omega)
        rw [List.append_assoc] at this
        exact this
    · obtain rfl : i = L.length := by omega
      have hlt : ¬ ((L.length : Int) < (L.length : Int)) := by omega
      simp only [depotlaw33_ProxyShelf.t0, hlt, decide_false, cond_false]
      rw [drop_len]
      simp [wo]
theorem l1_l0 (K : Nat) : ∀ n, depotlaw33_ProxyShelf.l1 K n = depotlaw33_ProxyShelf.l0 K n := by
  intro n
  induction n with
  | zero => rfl
  | succ n ih => funext x; show depotlaw33_ProxyShelf.t1 K (depotlaw33_ProxyShelf.l1 K n) x = depotlaw33_ProxyShelf.t0 K (depotlaw33_ProxyShelf.l0 K n) x; rw [ih]; rfl
theorem del (K : Nat) (p : Nat) (k : List UInt8) (D : Mp) (sh : Int × Unit × Unit) (L : List Pr) (kp : Unit × Unit × Int × Unit) (hL : L.length ≤ 1000) (hK : 2000 ≤ K) :
    depotlaw33_ProxyShelf.l0 K K ((p, (k, ((), (0, ())))), (D, (sh, (L, (kp, ([], ())))))) = some ((p, ((), ())), (D, (sh, (L, (kp, (wo L k, ())))))) := by
  have := del0 K p k D sh L kp hL K 0 [] (by omega) (by omega) (by simp)
  simpa using this
theorem del1 (K : Nat) (p : Nat) (k : List UInt8) (D : Mp) (sh : Int × Unit × Unit) (L : List Pr) (kp : Unit × Unit × Int × Unit) (hL : L.length ≤ 1000) (hK : 2000 ≤ K) :
    depotlaw33_ProxyShelf.l1 K K ((p, (k, ((), (0, ())))), (D, (sh, (L, (kp, ([], ())))))) = some ((p, ((), ())), (D, (sh, (L, (kp, (wo L k, ())))))) := by
  rw [l1_l0]; exact del K p k D sh L kp hL hK

/-- A key's value. -/
theorem get0 (K : Nat) (p : Nat) (k : List UInt8) (D : Mp) (sh : Int × Unit × Unit) (L : List Pr) (kp : Unit × Unit × Int × Unit) (a b : List Int) (hL : L.length ≤ 1000) : ∀ (n i : Nat), i ≤ L.length → L.length - i < n →
    depotlaw33_ProxyShelf.l2 K n ((p, (k, ((i : Int), ()))), (D, (sh, (L, (kp, (a, (b, ()))))))) = some (match lf (L.drop i) k with | none => .inl ((), (D, (sh, (L, (kp, (a, (b, ()))))))) | some v => .inr ((v, (0, ())), (D, (sh, (L, (kp, (a, (b, ())))))))) := by
  intro n
  induction n with
  | zero => intro i _ h; omega
  | succ n ih =>
    intro i hi hn
    show depotlaw33_ProxyShelf.t2 K (depotlaw33_ProxyShelf.l2 K n) _ = _
    by_cases h : i < L.length
    · have hlt : (i : Int) < (L.length : Int) := by omega
      have h0 : (0 : Int) ≤ (i : Int) := by omega
      have hw := wrapSucc (show i < 9223372036854775807 by omega)
      rw [lf_drop L k h]
      simp only [depotlaw33_ProxyShelf.t2, hlt, h0, decide_true, cond_true, Bool.and_self, Int.toNat_natCast, hw]
      by_cases c : (L.getD i pd0).1 = k
      · have hb : ((L.getD i pd0).1 == k) = true := by simp [-List.getD_eq_getElem?_getD, c]
        simp only [hb, cond_true, if_pos c]
      · have hb : ((L.getD i pd0).1 == k) = false := by simp [-List.getD_eq_getElem?_getD, c]
        simp only [hb, cond_false, if_neg c]
        exact ih (i + 1) (by omega) (by omega)
    · obtain rfl : i = L.length := by omega
      have hlt : ¬ ((L.length : Int) < (L.length : Int)) := by omega
      simp only [depotlaw33_ProxyShelf.t2, hlt, decide_false, cond_false]
      rw [drop_len]
      rfl
theorem get (K : Nat) (p : Nat) (k : List UInt8) (D : Mp) (sh : Int × Unit × Unit) (L : List Pr) (kp : Unit × Unit × Int × Unit) (a b : List Int) (hL : L.length ≤ 1000) (hK : 2000 ≤ K) :
    depotlaw33_ProxyShelf.l2 K K ((p, (k, (0, ()))), (D, (sh, (L, (kp, (a, (b, ()))))))) = some (match lf L k with | none => .inl ((), (D, (sh, (L, (kp, (a, (b, ()))))))) | some v => .inr ((v, (0, ())), (D, (sh, (L, (kp, (a, (b, ())))))))) := by
  have := get0 K p k D sh L kp a b hL K 0 (by omega) (by omega)
  simpa using this

/-- What was read is turned. -/
theorem turn0 (K : Nat) (l : List Pr) (key : List UInt8) (p q : Nat) (i : Int) (D : Mp) (sh : Int × Unit × Unit) (L : List Pr) (kp : Unit × Unit × Int × Unit) (a : List Int) : ∀ (n j : Nat) (b : List Int), b.length ≤ 1000 → j ≤ b.length → b.length - j < n →
    ∃ c, depotlaw33_ProxyShelf.l3 K n ((l, (key, (p, (q, (i, ((), ((j : Int), ()))))))), (D, (sh, (L, (kp, (a, (b, ()))))))) = some ((l, (key, (p, (q, (i, ()))))), (D, (sh, (L, (kp, (a, (c, ()))))))) := by
  intro n
  induction n with
  | zero => intro j b _ _ h; omega
  | succ n ih =>
    intro j b hb hj hn
    show ∃ c, depotlaw33_ProxyShelf.t3 K (depotlaw33_ProxyShelf.l3 K n) _ = _
    by_cases h : j < b.length
    · have hlt : (j : Int) < (b.length : Int) := by omega
      have h0 : (0 : Int) ≤ (j : Int) := by omega
      have hw := wrapSucc (show j < 9223372036854775807 by omega)
      simp only [depotlaw33_ProxyShelf.t3, hlt, h0, decide_true, cond_true, Bool.and_self, Int.toNat_natCast, hw]
      exact ih (j + 1) _ (by simpa using hb) (by simp; omega) (by simp; omega)
    · obtain rfl : j = b.length := by omega
      have hlt : ¬ ((b.length : Int) < (b.length : Int)) := by omega
      exact ⟨b, by simp only [depotlaw33_ProxyShelf.t3, hlt, decide_false, cond_false]⟩

/-- What a step makes of the shelf and of the list. -/
def nD (most : Int) (D : Mp) (k : List UInt8) (v : List Int) : Mp := if v.length = 0 then md D k else if (v.length : Int) > most then md D k else mp D k v
def nL (most : Int) (L : List Pr) (k : List UInt8) (v : List Int) : List Pr := if v.length = 0 then wo L k else if (v.length : Int) > most then wo L k else wo L k ++ [(k, (v, ()))]
theorem Good.next {D : Mp} {L : List Pr} {i : Nat} (h : Good D L i) (most : Int) (k : List UInt8) (v : List Int) (hv : v.length ≤ 300) : Good (nD most D k v) (nL most L k v) (i + 1) := by
  unfold nD nL
  by_cases c1 : v.length = 0
  · rw [if_pos c1, if_pos c1]; exact h.drop k
  · rw [if_neg c1, if_neg c1]
    by_cases c2 : (v.length : Int) > most
    · rw [if_pos c2, if_pos c2]; exact h.drop k
    · rw [if_neg c2, if_neg c2]; exact h.put k v hv

theorem step (K : Nat) (hK : 2000 ≤ K) (l : List Pr) (key : List UInt8) (p q i : Nat) (most : Int) (D : Mp) (L : List Pr) (hl : l.length ≤ 100) (hi : i < l.length) (hG : Good D L i) (rec : _) :
    (∃ r, depotlaw33_ProxyShelf.t4 (depotlaw33_ProxyShelf.l0 K) (depotlaw33_ProxyShelf.l1 K) (depotlaw33_ProxyShelf.l2 K) (depotlaw33_ProxyShelf.l3 K) K rec ((l, (key, (p, (q, ((i : Int), ()))))), (D, ((most, ((), ())), (L, (((), ((), (most, ()))), ()))))) = some (.inr ((true, ()), r))) ∨
    (∃ D' L', Good D' L' (i + 1) ∧ depotlaw33_ProxyShelf.t4 (depotlaw33_ProxyShelf.l0 K) (depotlaw33_ProxyShelf.l1 K) (depotlaw33_ProxyShelf.l2 K) (depotlaw33_ProxyShelf.l3 K) K rec ((l, (key, (p, (q, ((i : Int), ()))))), (D, ((most, ((), ())), (L, (((), ((), (most, ()))), ()))))) =
      rec ((l, (key, (p, (q, (((i + 1 : Nat) : Int), ()))))), (D', ((most, ((), ())), (L', (((), ((), (most, ()))), ())))))) := by
  have hlt : (i : Int) < (l.length : Int) := by omega
  have h0 : (0 : Int) ≤ (i : Int) := by omega
  have hw := wrapSucc (show i < 9223372036854775807 by omega)
  have hLl := hG.len
  obtain ⟨k, v, hE⟩ : ∃ k v, l.getD i ([], ([], ())) = (k, (v, ())) := ⟨_, _, rfl⟩
  simp only [depotlaw33_ProxyShelf.t4, hlt, h0, decide_true, cond_true, Bool.and_self, Int.toNat_natCast, hw, hE]
  by_cases c1 : (k.length : Int) > 300
  · left
    simp [c1, textsC]
  by_cases c2 : (v.length : Int) > 300
  · left
    simp [c1, c2, textsC]
  right
  have hv : v.length ≤ 300 := by omega
  have G := hG.next most k v hv
  refine ⟨nD most D k v, nL most L k v, G, ?_⟩
  have hsame := G.same key
  have hsmall := G.small key
  have hlen' := G.len
  have hwo : decide (((wo L k).length : Int) < (L.length : Int)) = (lf L k).isSome := by
    rw [← wo_len]; simp
  have hwl := wo_le L k
  have hq : ((mf D k).isSome == (lf L k).isSome) = true := by rw [hG.same]; simp
  simp only [c1, c2, decide_false, Bool.not_false, cond_true, bind_some', cond_false, List.nil_append]
  have r1 := (roomOf (n := 0) (m := v.length) (by omega) (by omega)).2
  by_cases z : v.length = 0
  · have e1 : nD most D k v = md D k := if_pos z
    have e2 : nL most L k v = wo L k := if_pos z
    rw [e1] at hsame hsmall
    rw [e2] at hsame hlen'
    rw [e1, e2]
    have hz : decide ((v.length : Int) = 0) = true := decide_eq_true (by omega)
    have hd := del K q k (md D k) (most, ((), ())) L ((), ((), (most, ()))) (by omega) hK
    simp only [hz, cond_true, hd, bind_some', hwo, hq, Bool.not_true, Bool.not_false, cond_false]
    cases hm : mf (md D k) key with
    | none =>
      rw [hm] at hsame
      have hg := get K q key (md D k) (most, ((), ())) (wo L k) ((), ((), (most, ()))) [] [] (by omega) hK
      rw [← hsame] at hg
      obtain ⟨c, ht⟩ := turn0 K l key p q (i : Int) (md D k) (most, ((), ())) (wo L k) ((), ((), (most, ()))) [] K 0 [] (by simp) (by simp) (by simp; omega)
      have ht : depotlaw33_ProxyShelf.l3 K K ((l, (key, (p, (q, ((i : Int), ((), (0, ()))))))), ((md D k), ((most, ((), ())), ((wo L k), (((), ((), (most, ()))), ([], ([], ()))))))) = _ := ht
      simp only [show mfind (eqv .str) (md D k) key = none from hm, Option.isSome_none, Bool.not_false, Bool.not_true, cond_true, cond_false, bind_some', hg, depotref03_Same, beq_self_eq_true, decide_true, ht, hw]
    | some w =>
      rw [hm] at hsame
      have hw3 := hsmall w hm
      have hr := (roomOf (n := 0) (m := w.length) (by omega) (by omega)).2
      have hg := get K q key (md D k) (most, ((), ())) (wo L k) ((), ((), (most, ()))) [] w (by omega) hK
      rw [← hsame] at hg
      obtain ⟨c, ht⟩ := turn0 K l key p q (i : Int) (md D k) (most, ((), ())) (wo L k) ((), ((), (most, ()))) [] K 0 w (by omega) (by simp) (by omega)
      have ht : depotlaw33_ProxyShelf.l3 K K ((l, (key, (p, (q, ((i : Int), ((), (0, ()))))))), ((md D k), ((most, ((), ())), ((wo L k), (((), ((), (most, ()))), ([], (w, ()))))))) = _ := ht
      simp only [show mfind (eqv .str) (md D k) key = some w from hm, Option.isSome_some, Option.getD_some, List.nil_append, Bool.not_false, Bool.not_true, cond_true, cond_false, bind_some', hr, hg, depotref03_Same, beq_self_eq_true, decide_true, ht, hw]
  have hz : decide ((v.length : Int) = 0) = false := decide_eq_false (by omega)
  simp only [hz, cond_false]
  by_cases b : (v.length : Int) > most
  · have e1 : nD most D k v = md D k := (if_neg z).trans (if_pos b)
    have e2 : nL most L k v = wo L k := (if_neg z).trans (if_pos b)
    rw [e1] at hsame hsmall
    rw [e2] at hsame hlen'
    rw [e1, e2]
    have hb : decide ((v.length : Int) > most) = true := decide_eq_true b
    have hd := del1 K q k (md D k) (most, ((), ())) L ((), ((), (most, ()))) (by omega) hK
    simp only [hb, cond_true, hd, bind_some', cond_false]
    cases hm : mf (md D k) key with
    | none =>
      rw [hm] at hsame
      have hg := get K q key (md D k) (most, ((), ())) (wo L k) ((), ((), (most, ()))) [] [] (by omega) hK
      rw [← hsame] at hg
      obtain ⟨c, ht⟩ := turn0 K l key p q (i : Int) (md D k) (most, ((), ())) (wo L k) ((), ((), (most, ()))) [] K 0 [] (by simp) (by simp) (by simp; omega)
      have ht : depotlaw33_ProxyShelf.l3 K K ((l, (key, (p, (q, ((i : Int), ((), (0, ()))))))), ((md D k), ((most, ((), ())), ((wo L k), (((), ((), (most, ()))), ([], ([], ()))))))) = _ := ht
      simp only [show mfind (eqv .str) (md D k) key = none from hm, Option.isSome_none, Bool.not_false, Bool.not_true, cond_true, cond_false, bind_some', hg, depotref03_Same, beq_self_eq_true, decide_true, ht, hw]
    | some w =>
      rw [hm] at hsame
      have hw3 := hsmall w hm
      have hr := (roomOf (n := 0) (m := w.length) (by omega) (by omega)).2
      have hg := get K q key (md D k) (most, ((), ())) (wo L k) ((), ((), (most, ()))) [] w (by omega) hK
      rw [← hsame] at hg
      obtain ⟨c, ht⟩ := turn0 K l key p q (i : Int) (md D k) (most, ((), ())) (wo L k) ((), ((), (most, ()))) [] K 0 w (by omega) (by simp) (by omega)
      have ht : depotlaw33_ProxyShelf.l3 K K ((l, (key, (p, (q, ((i : Int), ((), (0, ()))))))), ((md D k), ((most, ((), ())), ((wo L k), (((), ((), (most, ()))), ([], (w, ()))))))) = _ := ht
      simp only [show mfind (eqv .str) (md D k) key = some w from hm, Option.isSome_some, Option.getD_some, List.nil_append, Bool.not_false, Bool.not_true, cond_true, cond_false, bind_some', hr, hg, depotref03_Same, beq_self_eq_true, decide_true, ht, hw]
  · have e1 : nD most D k v = mp D k v := (if_neg z).trans (if_neg b)
    have e2 : nL most L k v = wo L k ++ [(k, (v, ()))] := (if_neg z).trans (if_neg b)
    rw [e1] at hsame hsmall
    rw [e2] at hsame hlen'
    rw [e1, e2]
    have hb : decide ((v.length : Int) > most) = false := decide_eq_false b
    have hd := del1 K q k (mp D k v) (most, ((), ())) L ((), ((), (most, ()))) (by omega) hK
    have hr2 := (roomOf (n := (wo L k).length) (m := 0) (by omega) (by omega)).1
    simp only [hb, cond_false, r1, cond_true, hd, bind_some', hr2]
    cases hm : mf (mp D k v) key with
    | none =>
      rw [hm] at hsame
      have hg := get K q key (mp D k v) (most, ((), ())) (wo L k ++ [(k, (v, ()))]) ((), ((), (most, ()))) [] [] (by omega) hK
      rw [← hsame] at hg
      obtain ⟨c, ht⟩ := turn0 K l key p q (i : Int) (mp D k v) (most, ((), ())) (wo L k ++ [(k, (v, ()))]) ((), ((), (most, ()))) [] K 0 [] (by simp) (by simp) (by simp; omega)
      have ht : depotlaw33_ProxyShelf.l3 K K ((l, (key, (p, (q, ((i : Int), ((), (0, ()))))))), ((mp D k v), ((most, ((), ())), ((wo L k ++ [(k, (v, ()))]), (((), ((), (most, ()))), ([], ([], ()))))))) = _ := ht
      simp only [show mfind (eqv .str) (mp D k v) key = none from hm, Option.isSome_none, Bool.not_false, Bool.not_true, cond_true, cond_false, bind_some', hg, depotref03_Same, beq_self_eq_true, decide_true, ht, hw]
    | some w =>
      rw [hm] at hsame
      have hw3 := hsmall w hm
      have hr := (roomOf (n := 0) (m := w.length) (by omega) (by omega)).2
      have hg := get K q key (mp D k v) (most, ((), ())) (wo L k ++ [(k, (v, ()))]) ((), ((), (most, ()))) [] w (by omega) hK
      rw [← hsame] at hg
      obtain ⟨c, ht⟩ := turn0 K l key p q (i : Int) (mp D k v) (most, ((), ())) (wo L k ++ [(k, (v, ()))]) ((), ((), (most, ()))) [] K 0 w (by omega) (by simp) (by omega)
      have ht : depotlaw33_ProxyShelf.l3 K K ((l, (key, (p, (q, ((i : Int), ((), (0, ()))))))), ((mp D k v), ((most, ((), ())), ((wo L k ++ [(k, (v, ()))]), (((), ((), (most, ()))), ([], (w, ()))))))) = _ := ht
      simp only [show mfind (eqv .str) (mp D k v) key = some w from hm, Option.isSome_some, Option.getD_some, List.nil_append, Bool.not_false, Bool.not_true, cond_true, cond_false, bind_some', hr, hg, depotref03_Same, beq_self_eq_true, decide_true, ht, hw]


theorem loop (K : Nat) (hK : 2000 ≤ K) (l : List Pr) (key : List UInt8) (p q : Nat) (most : Int) (hl : l.length ≤ 100) : ∀ (n i : Nat) (D : Mp) (L : List Pr), i ≤ l.length → l.length - i < n → Good D L i →
    (∃ r, depotlaw33_ProxyShelf.l4 K n ((l, (key, (p, (q, ((i : Int), ()))))), (D, ((most, ((), ())), (L, (((), ((), (most, ()))), ()))))) = some (.inr ((true, ()), r))) ∨
    (∃ r, depotlaw33_ProxyShelf.l4 K n ((l, (key, (p, (q, ((i : Int), ()))))), (D, ((most, ((), ())), (L, (((), ((), (most, ()))), ()))))) = some (.inl ((key, ()), r))) := by
  intro n
  induction n with
  | zero => intro i D L _ h; omega
  | succ n ih =>
    intro i D L hi hn hG
    by_cases h : i < l.length
    · rcases step K hK l key p q i most D L hl h hG (depotlaw33_ProxyShelf.l4 K n) with ⟨r, h1⟩ | ⟨D', L', hG', h1⟩
      · exact .inl ⟨r, h1⟩
      · have := ih (i + 1) D' L' (by omega) (by omega) hG'
        rw [← h1] at this
        exact this
    · obtain rfl : i = l.length := by omega
      have hlt : ¬ ((l.length : Int) < (l.length : Int)) := by omega
      refine .inr ⟨(D, ((most, ((), ())), (L, (((), ((), (most, ()))), ())))), ?_⟩
      show depotlaw33_ProxyShelf.t4 _ _ _ _ K _ _ = _
      simp only [depotlaw33_ProxyShelf.t4, hlt, decide_false, cond_false]

theorem proxyShelf (a0 : Int) (a1 : List Pr) (a2 : List UInt8) : ∃ k, depotlaw33_ProxyShelf k a0 a1 a2 = some true := by
  refine ⟨2000, ?_⟩
  unfold depotlaw33_ProxyShelf depotlaw33_ProxyShelf.tr
  by_cases h1 : (a1.length : Int) > 100
  · simp [h1, textsC]
  by_cases h2 : (a2.length : Int) > 300
  · simp [h1, h2, textsC]
  have hG : Good [] [] 0 := ⟨by simp, fun _ => rfl, by simp, fun k v h => by cases h⟩
  have := loop 2000 (by omega) a1 a2 0 0 a0 (by omega) 2000 0 [] [] (by omega) (by omega) hG
  simp only [h1, h2, decide_false, Bool.not_false, cond_true, cond_false, bind_some']
  rcases this with ⟨r, h⟩ | ⟨r, h⟩
  · have h : depotlaw33_ProxyShelf.l4 2000 2000 ((a1, (a2, (0, (0, (0, ()))))), ([], ((a0, ((), ())), ([], (((), ((), (a0, ()))), ()))))) = _ := h
    simp only [h, bind_some']
  · have h : depotlaw33_ProxyShelf.l4 2000 2000 ((a1, (a2, (0, (0, (0, ()))))), ([], ((a0, ((), ())), ([], (((), ((), (a0, ()))), ()))))) = _ := h
    simp only [h, bind_some', proxy_Shelf_Get, proxy_Shelf_Delete, proxy_Shelf_Put, decide_true, cond_true, textsC]
end Go.Proofs.X

