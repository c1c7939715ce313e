/-
  A part of the proof. No condition.
-/
import Derived.Test.YtkfffmpnmoiikaaGreatDoorOPn
import Derived.Test.YtkfffmpnmoiikaaGreatDoorOP7
import Derived.Test.YtkfffmpnmoiikaaGreatDoorOPp
/- Chapter 19 (conds): what a client has, what the cache asks, what a 304 changes. No condition but on sizes. -/
set_option linter.unusedSimpArgs false
set_option linter.unusedVariables false
namespace Go.Proofs.X
open Go Go.Dp
abbrev Req := List UInt8 × List UInt8 × Int × List Fld × List UInt8 × Unit
def nTag : List UInt8 := [69, 84, 97, 103]
def tagO (l : List Fld) : Tg × Bool × Unit := if (allOf l nTag).length = 1 then parT ((allOf l nTag).getD 0 []) else ((false, [], ()), false, ())
theorem wed {K : Nat} {r : Rep} (h : sized r.2.2.2.1) (hK : 1000000 + 100 ≤ K) : wb8 K r = some (tagO r.2.2.2.1) := by
  have hA : wR_ K r.2.2.2.1 [69, 84, 97, 103] = some (allOf r.2.2.2.1 nTag) := wcv h.1 (fun f hf => by have := (h.2 f hf).1; omega) (name := nTag) (by decide) (by omega)
  have hb : ∀ v ∈ allOf r.2.2.2.1 nTag, v.length ≤ 99999 := wcm fun f hf => by have := (h.2 f hf).2; omega
  simp only [wb8, hA, za', zb', zc', zd', ze', zf', zg', zh', zi', zj', zk', zl', zm', zn', zo', zp', zq', zr', zs', zt']
  unfold tagO
  by_cases c : (allOf r.2.2.2.1 nTag).length = 1
  · have hm := hb _ (wce (allOf r.2.2.2.1 nTag) [] (i := 0) (by omega))
    have hP := wc0 (K := K) (s := (allOf r.2.2.2.1 nTag).getD 0 []) (by omega) (by omega)
    have c1 : ((allOf r.2.2.2.1 nTag).length : Int) = 1 := by omega
    have c2 : (0 : Int) < ((allOf r.2.2.2.1 nTag).length : Int) := by omega
    rw [if_pos c]
    simp only [c1, za', zb', zc', zd', ze', zf', zg', zh', zi', zj', zk', zl', zm', zn', zo', zp', zq', zr', zs', zt', Nat.zero_le, Nat.le_refl, Int.le_refl, show (0 : Int) < 1 by decide, hP]
  · have c1 : ¬ ((allOf r.2.2.2.1 nTag).length : Int) = 1 := by omega
    rw [if_neg c]
    simp only [c1, za', zb', zc', zd', ze', zf', zg', zh', zi', zj', zk', zl', zm', zn', zo', zp', zq', zr', zs', zt']
theorem wc7 {K : Nat} {r : Rep} (h : sized r.2.2.2.1) (hK : 1000000 + 100 ≤ K) : wbl K r = some (tagO r.2.2.2.1) := by
  have hA : ww_ K r.2.2.2.1 [69, 84, 97, 103] = some (allOf r.2.2.2.1 nTag) := wcD h.1 (fun f hf => by have := (h.2 f hf).1; omega) (name := nTag) (by decide) (by omega)
  have hb : ∀ v ∈ allOf r.2.2.2.1 nTag, v.length ≤ 99999 := wcm fun f hf => by have := (h.2 f hf).2; omega
  simp only [wbl, hA, za', zb', zc', zd', ze', zf', zg', zh', zi', zj', zk', zl', zm', zn', zo', zp', zq', zr', zs', zt']
  unfold tagO
  by_cases c : (allOf r.2.2.2.1 nTag).length = 1
  · have hm := hb _ (wce (allOf r.2.2.2.1 nTag) [] (i := 0) (by omega))
    have hP := wcN (K := K) (s := (allOf r.2.2.2.1 nTag).getD 0 []) (by omega) (by omega)
    have c1 : ((allOf r.2.2.2.1 nTag).length : Int) = 1 := by omega
    have c2 : (0 : Int) < ((allOf r.2.2.2.1 nTag).length : Int) := by omega
    rw [if_pos c]
    simp only [c1, za', zb', zc', zd', ze', zf', zg', zh', zi', zj', zk', zl', zm', zn', zo', zp', zq', zr', zs', zt', Nat.zero_le, Nat.le_refl, Int.le_refl, show (0 : Int) < 1 by decide, hP]
  · have c1 : ¬ ((allOf r.2.2.2.1 nTag).length : Int) = 1 := by omega
    rw [if_neg c]
    simp only [c1, za', zb', zc', zd', ze', zf', zg', zh', zi', zj', zk', zl', zm', zn', zo', zp', zq', zr', zs', zt']
theorem wfN (s : List UInt8) : (parT s).1.2.1.length ≤ s.length := by
  unfold parT
  split
  · have h1 := length_cut_le (restT s) 1 ((restT s).length - 1)
    have h2 := wdj s
    show (innT (restT s)).length ≤ _
    unfold innT; omega
  · simp
theorem weR {l : List Fld} (h : sized l) : (tagO l).1.2.1.length ≤ 99999 := by
  unfold tagO
  split
  · rename_i c
    have hb : ∀ v ∈ allOf l nTag, v.length ≤ 99999 := wcm fun f hf => by have := (h.2 f hf).2; omega
    have hm := hb _ (wce (allOf l nTag) [] (i := 0) (by omega))
    have := wfN ((allOf l nTag).getD 0 [])
    omega
  · simp
/-! What a client is told. -/
def keepL (l : List Fld) (names : List (List UInt8)) : List Fld := l.flatMap fun f => (names.filter fun n => same f.1 n).map fun _ => f
theorem wgj {K : Nat} (names : List (List UInt8)) (l : List Fld) (ll i0 : Int) (f : Fld) (out : List Fld) (hl : names.length < 1000) (hn : ∀ n ∈ names, n.length < 1000000) (hf : f.1.length < 1000000) (ho : out.length < 1000000000) (hK : 1000000 ≤ K) :
    wE_.l0 K K ((names, ((), (0, (l, (ll, (i0, (names, ((names.length : Int), (0, ()))))))))), ([], (out, (f, ())))) = some ((names, ((), (l, (ll, (i0, ()))))), ([], (out ++ (names.filter fun n => same f.1 n).map fun _ => f, (f, ())))) := by
  have H := idx_rule (l := wE_.l0 K) (wE_.t0 K) (fun _ _ => rfl) names.length
    (fun j => ((names, ((), ((0 : Nat), (l, (ll, (i0, (names, ((names.length : Int), ((j : Int), ()))))))))), (([] : List Fld), (out ++ ((names.take j).filter fun n => same f.1 n).map fun _ => f, (f, ())))))
    (fun _ => ((names, ((), (l, (ll, (i0, ()))))), ([], (out ++ (names.filter fun n => same f.1 n).map fun _ => f, (f, ()))))) ?_ K 0 (by omega) (by omega)
  · simpa only [List.take_zero, List.filter_nil, List.map_nil, List.append_nil, Int.natCast_zero] using H
  · intro j rec hj ih
    by_cases h : j < names.length
    · have hh : (j : Int) < (names.length : Int) := by omega
      have w1 := wrapSucc (show j < 9223372036854775807 by omega)
      have hm := hn _ (wce names [] h)
      have hc := wcy (K := K) (a := f.1) (b := names.getD j []) (by omega) (by omega) (by omega) (by omega)
      have hlen : ((names.take j).filter fun n => same f.1 n).length ≤ j := by
        have := List.length_filter_le (fun n => same f.1 n) (names.take j); simp at this; omega
      have hmax : ((out ++ ((names.take j).filter fun n => same f.1 n).map fun _ => f).length + 1) * 32 ≤ maxRoom := by simp only [List.length_append, List.length_map, maxRoom]; omega
      have ih' := ih h
      rw [take_get names [] h, List.filter_append] at ih'
      by_cases c : same f.1 (names.getD j []) = true
      · rw [List.filter_cons, if_pos c, List.filter_nil, List.map_append, List.map_cons, List.map_nil, ← List.append_assoc] at ih'
        simp only [wE_.t0, za', zb', zc', zd', ze', zf', zg', zh', zi', zj', zk', zl', zm', zn', zo', zp', zq', zr', zs', zt', hh, hc, c, hmax, w1]
        exact ih'
      · rw [List.filter_cons, if_neg c, List.filter_nil, List.append_nil] at ih'
        simp only [wE_.t0, za', zb', zc', zd', ze', zf', zg', zh', zi', zj', zk', zl', zm', zn', zo', zp', zq', zr', zs', zt', hh, hc, c, w1]
        exact ih'
    · have h2 : j = names.length := by omega
      subst h2
      simp only [wE_.t0, za', zb', zc', zd', ze', zf', zg', zh', zi', zj', zk', zl', zm', zn', zo', zp', zq', zr', zs', zt', Int.lt_irrefl, List.take_length]
theorem wfj (l : List Fld) (names : List (List UInt8)) : (keepL l names).length ≤ l.length * names.length := by
  unfold keepL
  induction l with
  | nil => simp
  | cons f l ih =>
    rw [List.flatMap_cons, List.length_append, List.length_map, List.length_cons, Nat.succ_mul]
    have := List.length_filter_le (fun n => same f.1 n) names
    omega
theorem wd0 {K : Nat} {l : List Fld} {names : List (List UInt8)} (h : sized l) (hl : l.length ≤ 1000) (hnl : names.length < 1000) (hn : ∀ n ∈ names, n.length < 1000000) (hK : 1000000 ≤ K) : wE_ K l names = some (keepL l names) := by
  have H := idx_rule (l := wE_.l1 K) (wE_.t1 (wE_.l0 K) K) (fun _ _ => rfl) l.length
    (fun i => ((names, ((), (l, ((l.length : Int), ((i : Int), ()))))), (([] : List Fld), (keepL (l.take i) names, ())))) (fun _ => (((), ()), ([], (keepL l names, ())))) ?_ K 0 (by omega) (by omega)
  · simp only [List.take_zero, Int.natCast_zero] at H
    rw [show keepL [] names = [] from rfl] at H
    simp only [wE_, wE_.tr, H, za', zb', zc', zd', ze', zf', zg', zh', zi', zj', zk', zl', zm', zn', zo', zp', zq', zr', zs', zt']
  · intro i rec hi ih
    by_cases h1 : i < l.length
    · have hh : (i : Int) < (l.length : Int) := by omega
      have w1 := wrapSucc (show i < 9223372036854775807 by omega)
      have hm := h.2 _ (wce l (([], [], ()) : Fld) h1)
      have hk := wfj (l.take i) names
      have hk2 : (l.take i).length * names.length ≤ 1000 * 1000 := Nat.mul_le_mul (by simp; omega) (by omega)
      have hL := wgj (K := K) names l (l.length : Int) (i : Int) (l.getD i (([], [], ()) : Fld)) (keepL (l.take i) names) hnl hn (by omega) (by omega) hK
      have e : keepL (l.take (i + 1)) names = keepL (l.take i) names ++ (names.filter fun n => same (l.getD i (([], [], ()) : Fld)).1 n).map fun _ => l.getD i (([], [], ()) : Fld) := by
        rw [take_get l (([], [], ()) : Fld) h1]; simp [keepL]
      have ih' := ih h1
      rw [e] at ih'
      simp only [wE_.t1, za', zb', zc', zd', ze', zf', zg', zh', zi', zj', zk', zl', zm', zn', zo', zp', zq', zr', zs', zt', hh, hL, w1]
      exact ih'
    · have h2 : i = l.length := by omega
      subst h2
      simp only [wE_.t1, za', zb', zc', zd', ze', zf', zg', zh', zi', zj', zk', zl', zm', zn', zo', zp', zq', zr', zs', zt', Int.lt_irrefl, List.take_length]
def onlyOf (l : List Fld) (names : List (List UInt8)) : List Fld := l.filter fun f => anySame f.1 names
theorem wc8 (a n : List UInt8) (r : List (List UInt8)) : anySame a (n :: r) = (same a n || anySame a r) := rfl
theorem wfP (a : List UInt8) (f : Fld) : ∀ names : List (List UInt8), (names.map lower).Nodup → ((names.filter fun n => same a n).map fun _ => f) = if anySame a names then [f] else [] := by
  intro names
  induction names with
  | nil => intro _; rfl
  | cons n r ih =>
    intro hd
    rw [List.map_cons, List.nodup_cons] at hd
    rw [wc8, List.filter_cons]
    by_cases c : same a n = true
    · have hr : r.filter (fun m => same a m) = [] := by
        rw [List.filter_eq_nil_iff]
        intro m hm e
        apply hd.1
        have h1 : lower a = lower n := by simpa [same] using c
        have h2 : lower a = lower m := by simpa [same] using e
        rw [← h1, h2]
        exact List.mem_map.2 ⟨m, hm, rfl⟩
      simp only [c, if_true, Bool.true_or, List.map_cons, hr, List.map_nil]
    · have c' : same a n = false := by simpa using c
      rw [if_neg c, c', Bool.false_or]
      exact ih hd.2
theorem wfb {l : List Fld} {names : List (List UInt8)} (hd : (names.map lower).Nodup) : keepL l names = onlyOf l names := by
  unfold keepL onlyOf
  induction l with
  | nil => rfl
  | cons f l ih =>
    rw [List.flatMap_cons, List.filter_cons, ih, wfP f.1 f names hd]
    split <;> simp
def nn : List (List UInt8) := [[67, 97, 99, 104, 101, 45, 67, 111, 110, 116, 114, 111, 108], [67, 111, 110, 116, 101, 110, 116, 45, 76, 111, 99, 97, 116, 105, 111, 110], [68, 97, 116, 101], [69, 84, 97, 103], [69, 120, 112, 105, 114, 101, 115], [86, 97, 114, 121], [65, 103, 101]]
def notWord : List UInt8 := [78, 111, 116, 32, 77, 111, 100, 105, 102, 105, 101, 100]
theorem usual304 {K : Nat} (hK : 100 ≤ K) : wbo K 304 = some notWord := by
  have : ∀ K, wbo (K + 100) 304 = some notWord := fun K => by kernel_rfl
  have h := this (K - 100)
  rwa [Nat.sub_add_cancel hK] at h
def notM (r : Rep) : Rep := (304, notWord, 1, onlyOf r.2.2.2.1 nn, [], ())
theorem wfL : (nn.map lower).Nodup := by decide
theorem wcK {K : Nat} {r : Rep} (h : sized r.2.2.2.1) (hl : r.2.2.2.1.length ≤ 1000) (hK : 1000000 ≤ K) : w3_ K r = some (notM r) := by
  have hk : wE_ K r.2.2.2.1 [[67, 97, 99, 104, 101, 45, 67, 111, 110, 116, 114, 111, 108], [67, 111, 110, 116, 101, 110, 116, 45, 76, 111, 99, 97, 116, 105, 111, 110], [68, 97, 116, 101], [69, 84, 97, 103], [69, 120, 112, 105, 114, 101, 115], [86, 97, 114, 121], [65, 103, 101]] = some (onlyOf r.2.2.2.1 nn) := by
    rw [← wfb wfL]; exact wd0 (names := nn) h hl (by decide) (by decide) hK
  simp only [w3_, hk, usual304 (K := K) (by omega), za', zb', zc', zd', ze', zf', zg', zh', zi', zj', zk', zl', zm', zn', zo', zp', zq', zr', zs', zt', notM]
theorem wdx {K : Nat} {a : List UInt8} {ns : List (List UInt8)} (ha : a.length < 1000000) (hn : ∀ n ∈ ns, n.length < 1000000) (hl : ns.length < 1000) (hK : 1000000 ≤ K) : wt_ K a ns = some (anySame a ns) := by
  have H := idx_rule (l := wt_.l0 K) (wt_.t0 K) (fun _ _ => rfl) ns.length
    (fun i => ((a, (ns, ((i : Int), ()))), ())) (fun i => if anySame a (ns.drop i) then .inr ((true, ()), ()) else .inl ((), ())) ?_ K 0 (by omega) (by omega)
  · simp only [List.drop_zero, Int.natCast_zero] at H
    simp only [wt_, wt_.tr]
    rw [H]
    cases anySame a ns <;> simp only [za', zb', zc', zd', ze', zf', zg', zh', zi', zj', zk', zl', zm', zn', zo', zp', zq', zr', zs', zt']
  · intro i rec hi ih
    by_cases h1 : i < ns.length
    · have hh : (i : Int) < (ns.length : Int) := by omega
      have w1 := wrapSucc (show i < 9223372036854775807 by omega)
      have hm := hn _ (wce ns [] h1)
      have hS := wcx (K := K) (a := ns.getD i []) (b := a) (by omega) (by omega) (by omega) (by omega)
      rw [wfi] at hS
      have ih' := ih h1
      rw [drop_get ns [] h1, wc8]
      cases d : same a (ns.getD i []) with
      | true => simp only [wt_.t0, za', zb', zc', zd', ze', zf', zg', zh', zi', zj', zk', zl', zm', zn', zo', zp', zq', zr', zs', zt', hh, hS, d, Bool.true_or]
      | false =>
        simp only [wt_.t0, za', zb', zc', zd', ze', zf', zg', zh', zi', zj', zk', zl', zm', zn', zo', zp', zq', zr', zs', zt', hh, hS, d, w1, Bool.false_or]
        exact ih'
    · have h2 : i = ns.length := by omega
      subst h2
      simp only [wt_.t0, za', zb', zc', zd', ze', zf', zg', zh', zi', zj', zk', zl', zm', zn', zo', zp', zq', zr', zs', zt', Int.lt_irrefl, drop_len, anySame, List.any_nil]
theorem wcJ {K : Nat} {r : Rep} (h : sized r.2.2.2.1) (hK : 1000000 ≤ K) : wf_ K r = some (notM r) := by
  have H := idx_rule (l := wf_.l0 K) (wf_.t0 K) (fun _ _ => rfl) r.2.2.2.1.length
    (fun i => ((r, ((0 : Nat), ((0 : Nat), ((i : Int), ())))), (((0 : Int), (([] : List UInt8), ((0 : Int), (([] : List Fld), (([] : List UInt8), ()))))), (onlyOf (r.2.2.2.1.take i) nn, ((304, ([78, 111, 116, 32, 77, 111, 100, 105, 102, 105, 101, 100], (1, ((), ([], ()))))), ())))))
    (fun _ => ((0, (0, ())), ((0, ([], (0, ([], ([], ()))))), (onlyOf r.2.2.2.1 nn, ((304, ([78, 111, 116, 32, 77, 111, 100, 105, 102, 105, 101, 100], (1, ((), ([], ()))))), ()))))) ?_ K 0 (by omega) (by have := h.1; omega)
  · simp only [List.take_zero, Int.natCast_zero] at H
    rw [show onlyOf [] nn = [] from rfl] at H
    simp only [wf_, wf_.tr, H, za', zb', zc', zd', ze', zf', zg', zh', zi', zj', zk', zl', zm', zn', zo', zp', zq', zr', zs', zt', notM, notWord]
  · intro i rec hi ih
    by_cases h1 : i < r.2.2.2.1.length
    · have hh : (i : Int) < (r.2.2.2.1.length : Int) := by omega
      have hlr := h.1
      have w1 := wrapSucc (show i < 9223372036854775807 by omega)
      have hm := h.2 _ (wce r.2.2.2.1 (([], [], ()) : Fld) h1)
      have hN : wt_ K (r.2.2.2.1.getD i (([], [], ()) : Fld)).1 [[67, 97, 99, 104, 101, 45, 67, 111, 110, 116, 114, 111, 108], [67, 111, 110, 116, 101, 110, 116, 45, 76, 111, 99, 97, 116, 105, 111, 110], [68, 97, 116, 101], [69, 84, 97, 103], [69, 120, 112, 105, 114, 101, 115], [86, 97, 114, 121], [65, 103, 101]] = some (anySame (r.2.2.2.1.getD i (([], [], ()) : Fld)).1 nn) := wdx (ns := nn) (by omega) (by decide) (by decide) hK
      have hlen : (onlyOf (r.2.2.2.1.take i) nn).length ≤ i := by
        have := List.length_filter_le (fun f : Fld => anySame f.1 nn) (r.2.2.2.1.take i); simp at this; unfold onlyOf; omega
      have hmax : ((onlyOf (r.2.2.2.1.take i) nn).length + 1) * 32 ≤ maxRoom := by simp only [maxRoom]; omega
      have e : onlyOf (r.2.2.2.1.take (i + 1)) nn = onlyOf (r.2.2.2.1.take i) nn ++ (if anySame (r.2.2.2.1.getD i (([], [], ()) : Fld)).1 nn then [r.2.2.2.1.getD i (([], [], ()) : Fld)] else []) := by
        simp only [onlyOf, take_get r.2.2.2.1 (([], [], ()) : Fld) h1, List.filter_append, List.filter_cons, List.filter_nil]
      have ih' := ih h1
      rw [e] at ih'
      cases d : anySame (r.2.2.2.1.getD i (([], [], ()) : Fld)).1 nn with
      | true =>
        rw [d, if_pos rfl] at ih'
        simp only [wf_.t0, za', zb', zc', zd', ze', zf', zg', zh', zi', zj', zk', zl', zm', zn', zo', zp', zq', zr', zs', zt', hh, hN, d, hmax, w1]
        exact ih'
      | false =>
        rw [d, if_neg (by decide), List.append_nil] at ih'
        simp only [wf_.t0, za', zb', zc', zd', ze', zf', zg', zh', zi', zj', zk', zl', zm', zn', zo', zp', zq', zr', zs', zt', hh, hN, d, w1]
        exact ih'
    · have h2 : i = r.2.2.2.1.length := by omega
      subst h2
      simp only [wf_.t0, za', zb', zc', zd', ze', zf', zg', zh', zi', zj', zk', zl', zm', zn', zo', zp', zq', zr', zs', zt', Int.lt_irrefl, List.take_length]
end Go.Proofs.X
