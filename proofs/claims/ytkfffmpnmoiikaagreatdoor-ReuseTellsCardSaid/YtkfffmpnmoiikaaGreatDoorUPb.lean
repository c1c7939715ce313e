/-
  A part of the proof. No condition.
-/
import Derived.Test.YtkfffmpnmoiikaaGreatDoorUPa
import Derived.Test.YtkfffmpnmoiikaaGreatDoorUP8
import Derived.Test.YtkfffmpnmoiikaaGreatDoorFc
/- Chapter 13 (control): the reference's side. No condition but on sizes. -/
set_option linter.unusedSimpArgs false
set_option linter.unusedVariables false
namespace Go.Proofs.X
open Go Go.Dp
theorem wfy (K : Nat) : (List.range 256).all (fun n => decide (wbU (K + 40) ((UInt8.ofNat n).toNat : Int) = some (isDig (UInt8.ofNat n)))) = true := by kernel_rfl
theorem we0 (K : Nat) (hK : 40 ≤ K) (b : UInt8) : wbU K (b.toNat : Int) = some (isDig b) := by
  have h := of_decide_eq_true (forall_byte (p := fun b => decide (wbU (K - 40 + 40) (b.toNat : Int) = some (isDig b))) (wfy (K - 40)) b)
  rwa [Nat.sub_add_cancel hK] at h
theorem u8sub (x : Nat) (h1 : 48 ≤ x) (h2 : x ≤ 57) : IntKind.wrap .u8 ((x : Int) - 48) = (x : Int) - 48 := by
  simp only [IntKind.wrap]; simp [IntKind.signed, IntKind.bits]; omega
theorem wdk {K : Nat} {s : List UInt8} (hs : s.length < 1000000) (hK : 1000000 + 100 ≤ K) : wr_ K s = some (secOf s) := by
  have H := loop_ex (l := wr_.l0 K) (wr_.t0 K) (fun _ _ => rfl)
    (fun x => ∃ (i : Nat) (n : Int), x = ((s, (n, ((i : Int), ()))), ()) ∧ i ≤ s.length ∧ 0 ≤ n ∧ n ≤ 2147483648 ∧ (s.take i).all isDig = true ∧ secF (s.drop i) n = secF s 0)
    (fun x => s.length - x.1.2.2.1.toNat)
    (fun r => (match r with | .inl z => (z.1.2.1, (decide ((List.length z.1.1 : Int) > 0), ())) | .inr z => (z.1.1, (z.1.2.1, ()))) = secOf s) ?_ K ((s, (0, (0, ()))), ()) ⟨0, 0, rfl, by omega, by omega, by omega, by simp, by simp⟩ (by simp; omega)
  · obtain ⟨r, h1, h2⟩ := H
    simp only [wr_, wr_.tr, h1, za', zb', zc', zd', ze', zf', zg', zh', zi', zj', zk', zl', zm', zn', zo', zp', zq', zr', zs', zt', ← h2]
    cases r <;> rfl
  · rintro x rec ⟨i, n, rfl, hi, h0, h1, hd, hf⟩ ih
    by_cases h : i < s.length
    · have hh : (i : Int) < (s.length : Int) := by omega
      have w1 := wrapSucc (show i < 9223372036854775807 by omega)
      have hg := we0 K (by omega) (s.getD i 0)
      by_cases c : isDig (s.getD i 0) = true
      · have c' := c
        simp only [isDig, Bool.and_eq_true, decide_eq_true_eq] at c'
        have e1 : IntKind.wrap .u8 (((s.getD i 0).toNat : Int) - 48) = ((s.getD i 0).toNat : Int) - 48 := u8sub _ (by omega) (by omega)
        have e2 : IntKind.wrap .i64 (((s.getD i 0).toNat : Int) - 48) = ((s.getD i 0).toNat : Int) - 48 := wrap64 (by omega) (by omega)
        have e3 : IntKind.wrap .i64 (n * 10) = n * 10 := wrap64 (by omega) (by omega)
        have e4 : IntKind.wrap .i64 (n * 10 + (((s.getD i 0).toNat : Int) - 48)) = n * 10 + (((s.getD i 0).toNat : Int) - 48) := wrap64 (by omega) (by omega)
        simp only [wr_.t0, za', zb', zc', zd', ze', zf', zg', zh', zi', zj', zk', zl', zm', zn', zo', zp', zq', zr', zs', zt', hh, hg, c, e1, e2, e3, e4, w1]
        have e5 : (if 2147483648 < n * 10 + (((s.getD i 0).toNat : Int) - 48) then 2147483648 else n * 10 + (((s.getD i 0).toNat : Int) - 48)) = min (n * 10 + (((s.getD i 0).toNat : Int) - 48)) 2147483648 := by
          simp only [Int.min_def]; split <;> split <;> omega
        rw [e5]
        refine ih _ ⟨i + 1, _, rfl, by omega, by omega, by omega, ?_, ?_⟩ (by simp; omega)
        · rw [take_get s 0 h, List.all_append, hd]; simpa using c
        · rw [← hf, drop_get s 0 h]; simp [secF]
      · have c : isDig (s.getD i 0) = false := by simpa using c
        simp only [wr_.t0, za', zb', zc', zd', ze', zf', zg', zh', zi', zj', zk', zl', zm', zn', zo', zp', zq', zr', zs', zt', hh, hg, c]
        refine ⟨_, rfl, ?_⟩
        have : s.all isDig = false := by
          rw [List.all_eq_false]
          exact ⟨_, wcW s 0 h, fun e => by rw [c] at e; cases e⟩
        simp only [secOf, this, za', zb', zc', zd', ze', zf', zg', zh', zi', zj', zk', zl', zm', zn', zo', zp', zq', zr', zs', zt']
    · have h2 : i = s.length := by omega
      subst h2
      simp only [wr_.t0, za', zb', zc', zd', ze', zf', zg', zh', zi', zj', zk', zl', zm', zn', zo', zp', zq', zr', zs', zt', Int.lt_irrefl]
      refine ⟨_, rfl, ?_⟩
      rw [List.take_length] at hd
      rw [List.drop_length] at hf
      have e : n = secF s 0 := hf
      simp only [secOf, hd, if_true, e]
      cases s <;> simp <;> omega
theorem wfI (s : List UInt8) (h : (secOf s).2.1 = false) : (secOf s).1 = 0 := by
  unfold secOf at h ⊢
  by_cases c : s.all isDig = true
  · simp only [c, if_true] at h ⊢
    have : s = [] := by simpa using h
    subst this
    rfl
  · simp only [c, Bool.false_eq_true, if_false]
theorem wha (v : List UInt8) : secV v 0 = (secOf v).1 := by
  unfold secV
  split
  · rfl
  · rename_i h; exact (wfI v (by simpa using h)).symm
theorem wf8 (K : Nat) (a b : Int) : wb6 K a b = some (leastI a b) := by
  by_cases h1 : a < 0 <;> by_cases h2 : b < 0 <;> simp only [wb6, za', zb', zc', zd', ze', zf', zg', zh', zi', zj', zk', zl', zm', zn', zo', zp', zq', zr', zs', zt', h1, h2, leastI, and_self, and_true, and_false, true_and, false_and] <;> congr 1 <;> (repeat' split) <;> omega
abbrev El := List UInt8 × List UInt8
def hasE (es : List El) (nm : List UInt8) : Bool := es.any fun p => p.1 == nm
def leastE (es : List El) (nm : List UInt8) (n : Int) : Int := es.foldl (fun n p => if (p.1 == nm) = true then leastI n (secV p.2 0) else n) n
def greatE (es : List El) (nm : List UInt8) (n : Int) : Int := es.foldl (fun n p => if (p.1 == nm) = true then (if secV p.2 2147483648 > n then secV p.2 2147483648 else n) else n) n
theorem bcomm (a b : List UInt8) : (a == b) = (b == a) := by
  by_cases h : a = b
  · rw [h]
  · have h1 : (a == b) = false := by simpa using h
    have h2 : (b == a) = false := by simpa using Ne.symm h
    rw [h1, h2]
theorem b5 : ∀ c a b x y : Bool, ((c || a || b) || (x || y)) = (c || ((a || x) || (b || y))) := by decide
theorem wgO : ∀ (es : List El) (c : Ctl), es.foldl stepC c = (c.1 || hasE es nm0, c.2.1 || hasE es nm1, c.2.2.1 || hasE es nm2, c.2.2.2.1 || hasE es nm3, c.2.2.2.2.1 || (hasE es nm4 || hasE es nm5), c.2.2.2.2.2.1 || hasE es nm6, leastE es nm7 c.2.2.2.2.2.2.1, leastE es nm8 c.2.2.2.2.2.2.2.1, greatE es nm9 c.2.2.2.2.2.2.2.2.1, ()) := by
  intro es
  induction es with
  | nil => intro c; simp [hasE, leastE, greatE]
  | cons p es ih =>
    intro c
    rw [List.foldl_cons, ih, whJ]
    simp only [bcomm _ p.1]
    simp only [hasE, leastE, greatE, List.any_cons, List.foldl_cons, Bool.or_assoc]
    refine congrArg (Prod.mk _) (congrArg (Prod.mk _) (congrArg (Prod.mk _) (congrArg (Prod.mk _) ?_)))
    have := b5 c.2.2.2.2.1 (p.1 == nm4) (p.1 == nm5) (es.any fun p => p.1 == nm4) (es.any fun p => p.1 == nm5)
    simp only [Bool.or_assoc] at this
    rw [this]
def elsV (vs : List (List UInt8)) : List El := vs.flatMap fun v => elemsOf (splitS v).1
theorem wg7 : ∀ (vs : List (List UInt8)) (c : Ctl), foldV c vs = (elsV vs).foldl stepC c := by
  intro vs
  induction vs with
  | nil => intro c; rfl
  | cons v vs ih =>
    intro c
    have e : elsV (v :: vs) = elemsOf (splitS v).1 ++ elsV vs := by simp [elsV]
    rw [e, List.foldl_append, ← ih]
    rfl
def refV (vs : List (List UInt8)) : Ctl :=
  (!fineV vs || hasE (elsV vs) nm0, !fineV vs || hasE (elsV vs) nm1, hasE (elsV vs) nm2, hasE (elsV vs) nm3, hasE (elsV vs) nm4 || hasE (elsV vs) nm5, hasE (elsV vs) nm6, leastE (elsV vs) nm7 (-1), leastE (elsV vs) nm8 (-1), greatE (elsV vs) nm9 (-1), ())
theorem wgz (vs : List (List UInt8)) : parseV vs = refV vs := by
  unfold parseV refV
  rw [wg7, wgO]
  cases fineV vs <;> simp [ctl0]
/-! The reference's loops. -/
theorem wiK {K : Nat} (fine : Bool) (vals : List (List UInt8)) (ix : Int) (z1 z2 : List (List UInt8)) (P : List El) (xs : List (List UInt8)) (hx : ∀ x ∈ xs, x.length < 1000000) (hl : xs.length < 1000000) (hP : P.length < 900000000000) (hK : 1000000 + 100 ≤ K) :
    wc_.l0 K K (((), ((), (fine, (vals, (ix, (xs, (0, ()))))))), (z1, (z2, (P.map (·.1), (P.map (·.2), ()))))) = some (((), ((), (fine, (vals, (ix, ()))))), (z1, (z2, ((P ++ elemsOf xs).map (·.1), ((P ++ elemsOf xs).map (·.2), ()))))) := by
  have H := idx_rule (l := wc_.l0 K) (wc_.t0 K) (fun _ _ => rfl) xs.length
    (fun i => (((), ((), (fine, (vals, (ix, (xs, ((i : Int), ()))))))), (z1, (z2, ((P ++ elemsOf (xs.take i)).map (·.1), ((P ++ elemsOf (xs.take i)).map (·.2), ())))))) (fun i => (((), ((), (fine, (vals, (ix, ()))))), (z1, (z2, ((P ++ elemsOf xs).map (·.1), ((P ++ elemsOf xs).map (·.2), ())))))) ?_ K 0 (by omega) (by omega)
  · simpa [elemsOf] using H
  · intro i rec hi ih
    by_cases h : i < xs.length
    · have hh : (i : Int) < (xs.length : Int) := by omega
      have w1 := wrapSucc (show i < 9223372036854775807 by omega)
      have hm := hx _ (wcW xs [] h)
      have ih' := ih h
      have et : elemsOf (xs.take (i + 1)) = elemsOf (xs.take i) ++ elemsOf [xs.getD i []] := by rw [take_get xs [] h]; simp only [elemsOf, List.filterMap_append]
      have hlen : (elemsOf (xs.take i)).length ≤ i := by
        have h1 := List.length_filterMap_le (fun x => if (paramS x).2.2.2.1 = 0 then some ((paramS x).1, (paramS x).2.1) else none) (xs.take i)
        have h2 : (xs.take i).length ≤ i := by simp; omega
        exact Nat.le_trans h1 h2
      rw [et] at ih'
      have hb : (P ++ elemsOf (xs.take i)).length ≤ 900001000000 := by rw [List.length_append]; omega
      have hm16 : ∀ a : Nat, a ≤ 900001000000 → (a + 1) * 16 ≤ maxRoom := fun a ha => by simp only [maxRoom]; omega
      have r1 : (((P ++ elemsOf (xs.take i)).map (·.1)).length + 1) * 16 ≤ maxRoom := hm16 _ (by rw [List.length_map]; exact hb)
      have r2 : (((P ++ elemsOf (xs.take i)).map (·.2)).length + 1) * 16 ≤ maxRoom := hm16 _ (by rw [List.length_map]; exact hb)
      have hp := weY (K := K) (s := xs.getD i []) hm hK
      by_cases c : (paramS (xs.getD i [])).2.2.2.1 = 0
      · have e : elemsOf [xs.getD i []] = [((paramS (xs.getD i [])).1, (paramS (xs.getD i [])).2.1)] := by simp only [elemsOf, List.filterMap_cons, c, if_true, List.filterMap_nil]
        have mj : ∀ (Q : List El) (e : El), (Q ++ [e]).map (·.1) = Q.map (·.1) ++ [e.1] := fun Q e => by simp
        have mk : ∀ (Q : List El) (e : El), (Q ++ [e]).map (·.2) = Q.map (·.2) ++ [e.2] := fun Q e => by simp
        rw [e, ← List.append_assoc, mj, mk] at ih'
        simp only [wc_.t0, za', zb', zc', zd', ze', zf', zg', zh', zi', zj', zk', zl', zm', zn', zo', zp', zq', zr', zs', zt', hh, hp, c, r1, r2, w1]
        exact ih'
      · have e : elemsOf [xs.getD i []] = [] := by simp only [elemsOf, List.filterMap_cons, c, if_false, List.filterMap_nil]
        rw [e, List.append_nil] at ih'
        simp only [wc_.t0, za', zb', zc', zd', ze', zf', zg', zh', zi', zj', zk', zl', zm', zn', zo', zp', zq', zr', zs', zt', hh, hp, c, w1]
        exact ih'
    · have h2 : i = xs.length := by omega
      subst h2
      simp only [wc_.t0, za', zb', zc', zd', ze', zf', zg', zh', zi', zj', zk', zl', zm', zn', zo', zp', zq', zr', zs', zt', Int.lt_irrefl, List.take_length]
theorem wgI {m : Nat} : ∀ (vs : List (List UInt8)), (∀ v ∈ vs, v.length ≤ m) → (elsV vs).length ≤ vs.length * (m + 1) := by
  intro vs
  induction vs with
  | nil => intro _; simp [elsV]
  | cons v vs ih =>
    intro h
    have h1 := ih fun x hx => h x (List.mem_cons_of_mem _ hx)
    have h2 := h v (by simp)
    have h3 := wc4 v
    have h4 : (elemsOf (splitS v).1).length ≤ (splitS v).1.length := List.length_filterMap_le _ _
    have e : elsV (v :: vs) = elemsOf (splitS v).1 ++ elsV vs := by simp [elsV]
    rw [e, List.length_append, List.length_cons, Nat.succ_mul]
    omega
theorem wiJ {K : Nat} (z1 z2 : List (List UInt8)) (vs : List (List UInt8)) (hx : ∀ x ∈ vs, x.length ≤ 99999) (hl : vs.length < 1000000) (hK : 1000000 + 100 ≤ K) :
    wc_.l1 K K (((), ((), (true, (vs, (0, ()))))), (z1, (z2, ([], ([], ()))))) = some (((), ((), (fineV vs, ()))), (z1, (z2, ((elsV vs).map (·.1), ((elsV vs).map (·.2), ()))))) := by
  have H := idx_rule (l := wc_.l1 K) (wc_.t1 (wc_.l0 K) K) (fun _ _ => rfl) vs.length
    (fun i => (((), ((), (fineV (vs.take i), (vs, ((i : Int), ()))))), (z1, (z2, ((elsV (vs.take i)).map (·.1), ((elsV (vs.take i)).map (·.2), ())))))) (fun i => (((), ((), (fineV vs, ()))), (z1, (z2, ((elsV vs).map (·.1), ((elsV vs).map (·.2), ())))))) ?_ K 0 (by omega) (by omega)
  · exact H
  · intro i rec hi ih
    by_cases h : i < vs.length
    · have hh : (i : Int) < (vs.length : Int) := by omega
      have w1 := wrapSucc (show i < 9223372036854775807 by omega)
      have hm := hx _ (wcW vs [] h)
      have ih' := ih h
      have hsc := wc4 (vs.getD i [])
      have hsi := wc5 (vs.getD i [])
      have hlen := wgI (m := 99999) (vs.take i) fun v hv => hx v (List.mem_of_mem_take hv)
      have hti : (vs.take i).length ≤ i := by simp; omega
      have hmul : (vs.take i).length * (99999 + 1) ≤ 1000000 * 100000 := Nat.mul_le_mul (by omega) (by omega)
      have et : elsV (vs.take (i + 1)) = elsV (vs.take i) ++ elemsOf (splitS (vs.getD i [])).1 := by rw [take_get vs [] h]; simp [elsV]
      have ef : fineV (vs.take (i + 1)) = (fineV (vs.take i) && decide ((splitS (vs.getD i [])).2.1 = 0)) := by rw [take_get vs [] h]; simp [fineV]
      rw [et, ef] at ih'
      have hs := wdj (K := K) (s := vs.getD i []) (by omega) (by omega)
      have h0 := fun (fine : Bool) => wiK (K := K) fine vs (i : Int) z1 z2 (elsV (vs.take i)) (splitS (vs.getD i [])).1 (fun x hx => by have := hsi x hx; omega) (by omega) (by omega) hK
      cases hf : fineV (vs.take i)
      · rw [hf] at ih'
        simp only [wc_.t1, za', zb', zc', zd', ze', zf', zg', zh', zi', zj', zk', zl', zm', zn', zo', zp', zq', zr', zs', zt', hh, hs, hf, h0, w1]
        exact ih'
      · rw [hf] at ih'
        simp only [wc_.t1, za', zb', zc', zd', ze', zf', zg', zh', zi', zj', zk', zl', zm', zn', zo', zp', zq', zr', zs', zt', hh, hs, hf, h0, w1]
        simp only [za', zb', zc', zd', ze', zf', zg', zh', zi', zj', zk', zl', zm', zn', zo', zp', zq', zr', zs', zt'] at ih'
        exact ih'
    · have h2 : i = vs.length := by omega
      subst h2
      simp only [wc_.t1, za', zb', zc', zd', ze', zf', zg', zh', zi', zj', zk', zl', zm', zn', zo', zp', zq', zr', zs', zt', Int.lt_irrefl, List.take_length]
theorem wgL {K : Nat} (es : List El) (nm : List UInt8) (hl : es.length < 1000000000000) (hK : 1000000000000 + 100 ≤ K) : wq_ K (es.map (·.1)) nm = some (hasE es nm) := by
  have H := idx_rule (l := wq_.l0 K) (wq_.t0 K) (fun _ _ => rfl) es.length
    (fun i => ((es.map (·.1), (nm, ((i : Int), ()))), ())) (fun i => if hasE (es.drop i) nm then .inr ((true, ()), ()) else .inl ((), ())) ?_ K 0 (by omega) (by omega)
  · rw [List.drop_zero] at H
    simp only [wq_, wq_.tr]
    change Option.bind (wq_.l0 K K ((es.map (·.1), (nm, (((0 : Nat) : Int), ()))), ())) _ = _
    rw [H]
    cases hasE es nm <;> rfl
  · intro i rec hi ih
    by_cases h : i < es.length
    · have hh : (i : Int) < ((es.map (·.1)).length : Int) := by rw [List.length_map]; omega
      have w1 := wrapSucc (show i < 9223372036854775807 by omega)
      have ih' := ih h
      have hg : (es.map (·.1)).getD i [] = (es.getD i ([], [])).1 := by simp [List.getD_eq_getElem?_getD, h]
      have hd : es.drop i = es.getD i ([], []) :: es.drop (i + 1) := drop_get es _ h
      rw [hd, hasE, List.any_cons]
      cases c : (es.getD i ([], [])).1 == nm with
      | true => simp only [wq_.t0, za', zb', zc', zd', ze', zf', zg', zh', zi', zj', zk', zl', zm', zn', zo', zp', zq', zr', zs', zt', hh, hg, c, Bool.true_or]
      | false =>
        simp only [wq_.t0, za', zb', zc', zd', ze', zf', zg', zh', zi', zj', zk', zl', zm', zn', zo', zp', zq', zr', zs', zt', hh, hg, c, w1, Bool.false_or]
        exact ih'
    · have h2 : i = es.length := by omega
      subst h2
      simp only [wq_.t0, za', zb', zc', zd', ze', zf', zg', zh', zi', zj', zk', zl', zm', zn', zo', zp', zq', zr', zs', zt', List.length_map, Int.lt_irrefl, List.drop_length, hasE, List.any_nil]
theorem wgd (es : List El) (p : El) (nm : List UInt8) (n : Int) : leastE (es ++ [p]) nm n = if (p.1 == nm) = true then leastI (leastE es nm n) (secV p.2 0) else leastE es nm n := by simp only [leastE, List.foldl_append, List.foldl_cons, List.foldl_nil]
theorem wgp (es : List El) (p : El) (nm : List UInt8) (n : Int) : greatE (es ++ [p]) nm n = if (p.1 == nm) = true then (if secV p.2 2147483648 > greatE es nm n then secV p.2 2147483648 else greatE es nm n) else greatE es nm n := by unfold greatE; rw [List.foldl_append]; rfl
theorem wf1 {K : Nat} (es : List El) (nm : List UInt8) (hl : es.length < 1000000000000) (he : ∀ p ∈ es, p.2.length < 1000000) (hK : 1000000000000 + 100 ≤ K) : wp_ K (es.map (·.1)) (es.map (·.2)) nm = some (leastE es nm (-1)) := by
  have H := idx_rule (l := wp_.l0 K) (wp_.t0 K) (fun _ _ => rfl) es.length
    (fun i => ((es.map (·.1), (es.map (·.2), (nm, (leastE (es.take i) nm (-1), ((i : Int), ()))))), ())) (fun i => ((leastE es nm (-1), ()), ())) ?_ K 0 (by omega) (by omega)
  · simp only [wp_, wp_.tr]
    change Option.bind (wp_.l0 K K ((es.map (·.1), (es.map (·.2), (nm, (leastE (es.take 0) nm (-1), (((0 : Nat) : Int), ()))))), ())) _ = _
    rw [H]
    rfl
  · intro i rec hi ih
    by_cases h : i < es.length
    · have hh : (i : Int) < ((es.map (·.1)).length : Int) := by rw [List.length_map]; omega
      have hh2 : (i : Int) < ((es.map (·.2)).length : Int) := by rw [List.length_map]; omega
      have w1 := wrapSucc (show i < 9223372036854775807 by omega)
      have ih' := ih h
      have hm := he _ (wcW es ([], []) h)
      have hs := wdk (K := K) hm (by omega)
      have hg : (es.map (·.1)).getD i [] = (es.getD i ([], [])).1 := by simp [List.getD_eq_getElem?_getD, h]
      have hg2 : (es.map (·.2)).getD i [] = (es.getD i ([], [])).2 := by simp [List.getD_eq_getElem?_getD, h]
      rw [take_get es ([], []) h, wgd, wha] at ih'
      cases c : (es.getD i ([], [])).1 == nm with
      | true =>
        rw [c, if_pos rfl] at ih'
        simp only [wp_.t0, za', zb', zc', zd', ze', zf', zg', zh', zi', zj', zk', zl', zm', zn', zo', zp', zq', zr', zs', zt', hh, hh2, hg, hg2, c, hs, wf8, w1]
        exact ih'
      | false =>
        rw [c, if_neg (by simp)] at ih'
        simp only [wp_.t0, za', zb', zc', zd', ze', zf', zg', zh', zi', zj', zk', zl', zm', zn', zo', zp', zq', zr', zs', zt', hh, hg, c, w1]
        exact ih'
    · have h2 : i = es.length := by omega
      subst h2
      simp only [wp_.t0, za', zb', zc', zd', ze', zf', zg', zh', zi', zj', zk', zl', zm', zn', zo', zp', zq', zr', zs', zt', List.length_map, Int.lt_irrefl, List.take_length]
theorem weN {K : Nat} (es : List El) (nm : List UInt8) (hl : es.length < 1000000000000) (he : ∀ p ∈ es, p.2.length < 1000000) (hK : 1000000000000 + 100 ≤ K) : wi_ K (es.map (·.1)) (es.map (·.2)) nm = some (greatE es nm (-1)) := by
  have H := idx_rule (l := wi_.l0 K) (wi_.t0 K) (fun _ _ => rfl) es.length
    (fun i => ((es.map (·.1), (es.map (·.2), (nm, (greatE (es.take i) nm (-1), ((i : Int), ()))))), ())) (fun i => ((greatE es nm (-1), ()), ())) ?_ K 0 (by omega) (by omega)
  · simp only [wi_, wi_.tr]
    change Option.bind (wi_.l0 K K ((es.map (·.1), (es.map (·.2), (nm, (greatE (es.take 0) nm (-1), (((0 : Nat) : Int), ()))))), ())) _ = _
    rw [H]
    rfl
  · intro i rec hi ih
    by_cases h : i < es.length
    · have hh : (i : Int) < ((es.map (·.1)).length : Int) := by rw [List.length_map]; omega
      have hh2 : (i : Int) < ((es.map (·.2)).length : Int) := by rw [List.length_map]; omega
      have w1 := wrapSucc (show i < 9223372036854775807 by omega)
      have ih' := ih h
      have hm := he _ (wcW es ([], []) h)
      have hs := wdk (K := K) hm (by omega)
      have hg : (es.map (·.1)).getD i [] = (es.getD i ([], [])).1 := by simp [List.getD_eq_getElem?_getD, h]
      have hg2 : (es.map (·.2)).getD i [] = (es.getD i ([], [])).2 := by simp [List.getD_eq_getElem?_getD, h]
      rw [take_get es ([], []) h, wgp] at ih'
      cases c : (es.getD i ([], [])).1 == nm with
      | true =>
        rw [c, if_pos rfl] at ih'
        simp only [secV] at ih'
        cases c2 : (secOf (es.getD i ([], [])).2).2.1 with
        | true =>
          simp only [c2, if_true] at ih'
          simp only [wi_.t0, za', zb', zc', zd', ze', zf', zg', zh', zi', zj', zk', zl', zm', zn', zo', zp', zq', zr', zs', zt', hh, hh2, hg, hg2, c, hs, c2, w1]
          exact ih'
        | false =>
          simp only [c2, Bool.false_eq_true, if_false] at ih'
          simp only [wi_.t0, za', zb', zc', zd', ze', zf', zg', zh', zi', zj', zk', zl', zm', zn', zo', zp', zq', zr', zs', zt', hh, hh2, hg, hg2, c, hs, c2, w1]
          exact ih'
      | false =>
        rw [c, if_neg (by simp)] at ih'
        simp only [wi_.t0, za', zb', zc', zd', ze', zf', zg', zh', zi', zj', zk', zl', zm', zn', zo', zp', zq', zr', zs', zt', hh, hg, c, w1]
        exact ih'
    · have h2 : i = es.length := by omega
      subst h2
      simp only [wi_.t0, za', zb', zc', zd', ze', zf', zg', zh', zi', zj', zk', zl', zm', zn', zo', zp', zq', zr', zs', zt', List.length_map, Int.lt_irrefl, List.take_length]
theorem whQ {m : Nat} {vs : List (List UInt8)} (h : ∀ v ∈ vs, v.length ≤ m) : ∀ p ∈ elsV vs, p.2.length ≤ m := by
  intro p hp
  obtain ⟨v, hv, hp⟩ := List.mem_flatMap.1 hp
  obtain ⟨x, hx, hp⟩ := List.mem_filterMap.1 hp
  have h1 := wc5 v x hx
  have h2 := wfc x
  have h3 := h v hv
  by_cases c : (paramS x).2.2.2.1 = 0
  · rw [if_pos c] at hp
    cases hp
    show (paramS x).2.1.length ≤ m
    omega
  · rw [if_neg c] at hp; cases hp
theorem wdz {K : Nat} {l : List Fld} (h : sized l) (hK : 1000000000000 + 100 ≤ K) : w9_ K l = some (parseC l) := by
  have hlen := h.1
  have h3 := wdc l hdr
  have hb : ∀ v ∈ allOf l hdr, v.length ≤ 99999 := wc8 fun f hf => by have := (h.2 f hf).2; omega
  have hA : wo_ K l [67, 97, 99, 104, 101, 45, 67, 111, 110, 116, 114, 111, 108] = some (allOf l hdr) := wc6 h.1 (fun f hf => by have := (h.2 f hf).1; omega) (name := hdr) (by decide) (by omega)
  have h1 := wiJ (K := K) [] [] (allOf l hdr) hb (by omega) (by omega)
  have hE : wc_ K l = some ((elsV (allOf l hdr)).map (·.1), (elsV (allOf l hdr)).map (·.2), fineV (allOf l hdr), ()) := by
    simp only [wc_, wc_.tr, hA, za', zb', zc', zd', ze', zf', zg', zh', zi', zj', zk', zl', zm', zn', zo', zp', zq', zr', zs', zt']
    rw [h1]
    rfl
  have hl1 := wgI (m := 99999) (allOf l hdr) hb
  have hmul : (allOf l hdr).length * (99999 + 1) ≤ 1000000 * 100000 := Nat.mul_le_mul (by omega) (by omega)
  have hl : (elsV (allOf l hdr)).length < 1000000000000 := by omega
  have he : ∀ p ∈ elsV (allOf l hdr), p.2.length < 1000000 := fun p hp => by have := whQ hb p hp; omega
  rw [parseC, wgz]
  have H := fun nm => wgL (K := K) (elsV (allOf l hdr)) nm hl hK
  have L := fun nm => wf1 (K := K) (elsV (allOf l hdr)) nm hl he hK
  have G := fun nm => weN (K := K) (elsV (allOf l hdr)) nm hl he hK
  simp only [w9_, hE, H, L, G, za', zb', zc', zd', ze', zf', zg', zh', zi', zj', zk', zl', zm', zn', zo', zp', zq', zr', zs', zt']
  unfold refV nm0 nm1 nm2 nm3 nm4 nm5 nm6 nm7 nm8 nm9
  generalize hasE (elsV (allOf l hdr)) [109, 117, 115, 116, 45, 114, 101, 118, 97, 108, 105, 100, 97, 116, 101] = m4
  cases fineV (allOf l hdr) <;> cases m4 <;> simp only [za', zb', zc', zd', ze', zf', zg', zh', zi', zj', zk', zl', zm', zn', zo', zp', zq', zr', zs', zt', Bool.true_or, Bool.false_or]
theorem we4 {K : Nat} {l : List Fld} (h : sized l) (hK : 1000000000000 + 100 ≤ K) : wby K l = some (askedC l) := by
  have hlen := h.1
  have hA : wo_ K l [67, 97, 99, 104, 101, 45, 67, 111, 110, 116, 114, 111, 108] = some (allOf l hdr) := wc6 h.1 (fun f hf => by have := (h.2 f hf).1; omega) (name := hdr) (by decide) (by omega)
  have hH : wQ_ K l [80, 114, 97, 103, 109, 97] [110, 111, 45, 99, 97, 99, 104, 101] = some (hasOf l [80, 114, 97, 103, 109, 97] nm1) := wfR h (name := [80, 114, 97, 103, 109, 97]) (item := nm1) (by decide) (by decide) (by omega)
  simp only [wby, wdz h hK, hA, za', zb', zc', zd', ze', zf', zg', zh', zi', zj', zk', zl', zm', zn', zo', zp', zq', zr', zs', zt']
  have e : (getOf l hdr).2.1 = decide ((allOf l hdr).length > 0) := rfl
  unfold askedC
  rw [e]
  by_cases c : (allOf l hdr).length = 0
  · have c1 : ((allOf l hdr).length : Int) = 0 := by omega
    have c2 : ¬ (allOf l hdr).length > 0 := by omega
    simp only [c1, c2, za', zb', zc', zd', ze', zf', zg', zh', zi', zj', zk', zl', zm', zn', zo', zp', zq', zr', zs', zt', hH]
    cases hasOf l [80, 114, 97, 103, 109, 97] nm1
    · simp only [za', zb', zc', zd', ze', zf', zg', zh', zi', zj', zk', zl', zm', zn', zo', zp', zq', zr', zs', zt', and_false, Bool.false_eq_true]
    · simp only [za', zb', zc', zd', ze', zf', zg', zh', zi', zj', zk', zl', zm', zn', zo', zp', zq', zr', zs', zt', and_self]
  · have c1 : ¬ ((allOf l hdr).length : Int) = 0 := by omega
    have c2 : (allOf l hdr).length > 0 := by omega
    simp only [c1, c2, za', zb', zc', zd', ze', zf', zg', zh', zi', zj', zk', zl', zm', zn', zo', zp', zq', zr', zs', zt', Bool.true_eq_false, false_and]
end Go.Proofs.X
