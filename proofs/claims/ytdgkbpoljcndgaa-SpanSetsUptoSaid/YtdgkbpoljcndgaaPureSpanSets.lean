/- The statement SpanSets over numbers and lists alone: the sets that Norm, Join, Meet and Less make are the reference's, for lists of at most 1048576 spans. -/
import Derived.Test.YtdgkbpoljcndgaaQSpanSetsx9
namespace Go.Proofs.Ytdgkbpoljcndgaa.Pure
open Go Go.RowKit Go.Proofs.Ytdgkbpoljcndgaa.QSpanSets Go.Proofs.YtdgkbpoljcndgaaW.PrintWords Go.Proofs.YtdgkbpoljcndgaaW.PrintLast Go.Proofs.YtdgkbpoljcndgaaW.PrintMore
set_option linter.unusedVariables false
set_option linter.unusedSimpArgs false
/-- a right span that is not empty -/
def okS (x : S95) : Prop := 0 ≤ x.f0 ∧ 0 < x.f1 ∧ x.f0 + x.f1 ≤ 65536
instance (x : S95) : Decidable (okS x) := by unfold okS; exact inferInstance
theorem good_val (x : S95) : span_good.f x.f0 x.f1 = some (decide (okS x)) := by
  have hw : ∀ y : Int, 0 ≤ y → y ≤ 65536 → wrap64 (65536 - y) = 65536 - y := fun y h0 h1 => by unfold wrap64; omega
  have h : span_Check.f x.f0 x.f1 = some (if 0 ≤ x.f0 ∧ 0 ≤ x.f1 ∧ x.f0 + x.f1 ≤ 65536 then 0 else 4) := by
    unfold span_Check.f
    by_cases h1 : 0 ≤ x.f1 ∧ x.f1 ≤ 65536
    · rw [hw x.f1 h1.1 h1.2]
      repeat' split
      all_goals first | rfl | omega
    · repeat' split
      all_goals first | rfl | omega
  unfold span_good.f okS
  rw [h, Option.bind_some]
  by_cases hc : 0 ≤ x.f0 ∧ 0 ≤ x.f1 ∧ x.f0 + x.f1 ≤ 65536
  · rw [if_pos hc, if_pos rfl]
    congr 1
    exact decide_eq_decide.2 ⟨fun h => by omega, fun h => by omega⟩
  · rw [if_neg hc, if_neg (by decide)]
    congr 1
    exact (decide_eq_false (by omega)).symm
/-- the bytes of a span -/
def bytesS (x : S95) : List Int := (List.range x.f1.toNat).map fun (i : Nat) => x.f0 + (i : Int)
def laid (l : List S95) : List Int := (l.filter fun x => decide (okS x)).flatMap bytesS
/-- a span put behind others: joined, if it touches the last one -/
def put (o : List S95) (x n : Int) : List S95 := match o.getLast? with
  | some y => if y.f0 + y.f1 = x then o.dropLast ++ [⟨y.f0, y.f1 + n⟩] else o ++ [⟨x, n⟩]
  | none => [⟨x, n⟩]
theorem put_nil (x n : Int) : put [] x n = [⟨x, n⟩] := rfl
theorem put_join (o : List S95) (y : S95) (x n : Int) (h : y.f0 + y.f1 = x) : put (o ++ [y]) x n = o ++ [⟨y.f0, y.f1 + n⟩] := by simp [put, h]
theorem put_new (o : List S95) (y : S95) (x n : Int) (h : ¬ y.f0 + y.f1 = x) : put (o ++ [y]) x n = o ++ [y] ++ [⟨x, n⟩] := by simp [put, h]
theorem last_of (o : List S95) : o = [] ∨ ∃ p y, o = p ++ [y] := by
  by_cases h : o = []
  · exact Or.inl h
  · exact Or.inr ⟨o.dropLast, o.getLast h, (List.dropLast_concat_getLast h).symm⟩
theorem put_put (o : List S95) (x n : Int) : put (put o x n) (x + n) 1 = put o x (n + 1) := by
  rcases last_of o with rfl | ⟨p, y, rfl⟩
  · rw [put_nil, put_nil]; exact put_join [] ⟨x, n⟩ _ 1 rfl
  · by_cases h : y.f0 + y.f1 = x
    · rw [put_join p y x n h, put_join p y x (n + 1) h, put_join p _ _ 1 (by show y.f0 + (y.f1 + n) = _; omega)]
      simp only [List.append_cancel_left_eq, List.cons.injEq, S95.mk.injEq, and_true, true_and]; omega
    · rw [put_new p y x n h, put_new p y x (n + 1) h, put_join (p ++ [y]) ⟨x, n⟩ _ 1 rfl]
theorem put_ne (o : List S95) (x n : Int) : put o x n ≠ [] := by
  rcases last_of o with rfl | ⟨p, y, rfl⟩
  · simp [put]
  · by_cases h : y.f0 + y.f1 = x
    · rw [put_join p y x n h]; simp
    · rw [put_new p y x n h]; simp
/-- the end of the last one -/
def endOf (o : List S95) : Option Int := o.getLast?.map fun y => y.f0 + y.f1
theorem end_put (o : List S95) (x n : Int) : endOf (put o x n) = some (x + n) := by
  rcases last_of o with rfl | ⟨p, y, rfl⟩
  · rw [put_nil]; rfl
  · by_cases h : y.f0 + y.f1 = x
    · rw [put_join p y x n h]; simp [endOf]; omega
    · rw [put_new p y x n h]; simp [endOf]
theorem range_bytes (a : Int) : ∀ (n : Nat), bytesS ⟨a, (n + 1 : Nat)⟩ = bytesS ⟨a, (n : Nat)⟩ ++ [a + (n : Int)] := by
  intro n; simp [bytesS, List.range_succ]
theorem put_bytes (o : List S95) (a : Int) : ∀ (n : Nat), (bytesS ⟨a, ((n + 1 : Nat) : Int)⟩).foldl (fun o b => put o b 1) o = put o a ((n + 1 : Nat) : Int)
  | 0 => by simp [bytesS, List.range_succ]
  | n + 1 => by
    rw [range_bytes, List.foldl_append, put_bytes o a n]
    show put (put o a _) (a + ((n + 1 : Nat) : Int)) 1 = _
    rw [put_put]; rfl
theorem bytes_of (x : S95) (h : 0 < x.f1) (o : List S95) : (bytesS x).foldl (fun o b => put o b 1) o = put o x.f0 x.f1 := by
  obtain ⟨a, n⟩ := x
  simp only at h
  obtain ⟨m, rfl⟩ : ∃ m : Nat, n = ((m + 1 : Nat) : Int) := ⟨(n - 1).toNat, by omega⟩
  exact put_bytes o a m
/-- spans glued -/
def glueP (o : List S95) : List S95 → List S95
  | [] => o
  | x :: l => glueP (if okS x then put o x.f0 x.f1 else o) l
def gluedP (o : List S95) (l : List Int) : List S95 := l.foldl (fun o b => put o b 1) o
theorem laid_nil : laid [] = [] := rfl
theorem laid_ok (x : S95) (l : List S95) (h : okS x) : laid (x :: l) = bytesS x ++ laid l := by simp [laid, h]
theorem laid_no (x : S95) (l : List S95) (h : ¬ okS x) : laid (x :: l) = laid l := by simp [laid, h]
theorem glue_laid (l : List S95) : ∀ o, glueP o l = gluedP o (laid l) := by
  induction l with
  | nil => intro o; rfl
  | cons x l ih =>
    intro o
    unfold glueP
    by_cases h : okS x
    · rw [if_pos h, laid_ok x l h, ih]
      unfold gluedP
      rw [List.foldl_append, bytes_of x h.2.1]
    · rw [if_neg h, laid_no x l h, ih]
theorem bytes_len (x : S95) : (bytesS x).length = x.f1.toNat := by simp [bytesS]
/-- the pieces of n bytes from off on -/
def cutP (off n : Int) (o : List S95) : List S95 → List S95
  | [] => o
  | x :: l => if okS x then
      if x.f1 ≤ off then cutP (off - x.f1) n o l
      else if n - min n (x.f1 - off) = 0 then o ++ [⟨x.f0 + off, min n (x.f1 - off)⟩] else cutP 0 (n - min n (x.f1 - off)) (o ++ [⟨x.f0 + off, min n (x.f1 - off)⟩]) l
    else cutP off n o l
theorem laid_app (a b : List S95) : laid (a ++ b) = laid a ++ laid b := by simp [laid]
theorem laid_one (x : S95) (h : okS x) : laid [x] = bytesS x := by simp [laid, h]
theorem bytes_cut (x : S95) (o k : Nat) (h : ((o + k : Nat) : Int) ≤ x.f1) : ((bytesS x).drop o).take k = bytesS ⟨x.f0 + (o : Int), (k : Int)⟩ := by
  apply List.ext_getElem
  · simp [bytes_len]; omega
  · intro i h1 h2
    simp [bytesS]; omega
theorem cut_laid (l : List S95) : ∀ (o : List S95) (off n : Nat), 0 < n → laid (cutP (off : Int) (n : Int) o l) = laid o ++ ((laid l).drop off).take n := by
  induction l with
  | nil => intro o off n hn; simp [cutP, laid_nil]
  | cons x l ih =>
    intro o off n hn
    unfold cutP
    by_cases h : okS x
    · have h' := h
      unfold okS at h'
      rw [if_pos h, laid_ok x l h]
      obtain ⟨m, hm⟩ : ∃ m : Nat, x.f1 = (m : Int) := ⟨x.f1.toNat, by omega⟩
      by_cases h1 : x.f1 ≤ (off : Int)
      · rw [if_pos h1, show (off : Int) - x.f1 = ((off - m : Nat) : Int) by omega, ih o _ n hn, List.drop_append, List.drop_of_length_le (l := bytesS x) (by rw [bytes_len]; omega), List.nil_append, bytes_len, show off - x.f1.toNat = off - m by omega]
      · rw [if_neg h1]
        have hoff : off < m := by omega
        obtain ⟨k, hk⟩ : ∃ k : Nat, k = min n (m - off) := ⟨_, rfl⟩
        have hkm : min (n : Int) (x.f1 - (off : Int)) = (k : Int) := by omega
        have hok : okS ⟨x.f0 + (off : Int), (k : Int)⟩ := by unfold okS; simp only; omega
        rw [hkm, List.drop_append, show off - (bytesS x).length = 0 by rw [bytes_len]; omega, List.drop_zero, List.take_append, List.length_drop, bytes_len]
        by_cases h2 : (n : Int) - (k : Int) = 0
        · obtain rfl : n = k := by omega
          rw [if_pos h2, laid_app, laid_one _ hok, bytes_cut x off n (by omega), show n - (x.f1.toNat - off) = 0 by omega, List.take_zero, List.append_nil]
        · have hk2 : k = m - off := by omega
          rw [if_neg h2, show (n : Int) - (k : Int) = ((n - k : Nat) : Int) by omega, show (0 : Int) = ((0 : Nat) : Int) from rfl, ih _ 0 (n - k) (by omega), laid_app, laid_one _ hok, List.drop_zero, ← bytes_cut x off k (by omega), List.append_assoc, show n - (x.f1.toNat - off) = n - k by omega,
            List.take_of_length_le (i := n) (by simp [bytes_len]; omega), List.take_of_length_le (i := k) (by simp [bytes_len]; omega)]
    · rw [if_neg h, laid_no x l h]; exact ih o off n hn
/-- the reference's part -/
def partP (all : List Int) (off n : Int) : List Int := if 0 ≤ off then (all.drop off.toNat).take n.toNat else []
theorem sum_len (l : List S95) : ((laid l).length : Int) = ((l.filter fun x => decide (okS x)).map (·.f1)).sum := by
  induction l with
  | nil => rfl
  | cons x l ih =>
    by_cases h : okS x
    · have h' := h
      unfold okS at h'
      rw [laid_ok x l h, List.length_append, bytes_len]
      simp [h, ← ih]; omega
    · rw [laid_no x l h, ih]; simp [h]
theorem mem_laid (l : List S95) (b : Int) : b ∈ laid l ↔ ∃ x ∈ l, okS x ∧ x.f0 ≤ b ∧ b < x.f0 + x.f1 := by
  unfold laid
  simp only [List.mem_flatMap, List.mem_filter, decide_eq_true_eq, bytesS, List.mem_map, List.mem_range]
  constructor
  · rintro ⟨x, ⟨hx, hk⟩, i, hi, rfl⟩; exact ⟨x, hx, hk, by omega, by omega⟩
  · rintro ⟨x, hx, hk, h1, h2⟩; exact ⟨x, ⟨hx, hk⟩, (b - x.f0).toNat, by omega, by omega⟩
def memS (l : List S95) (b : Int) : Prop := ∃ x ∈ l, x.f0 ≤ b ∧ b < x.f0 + x.f1
/-- apart and in order -/
def Sep (l : List S95) : Prop := (∀ x ∈ l, 0 < x.f1) ∧ l.Pairwise (fun x y => x.f0 + x.f1 < y.f0)
theorem memS_app (a b : List S95) (i : Int) : memS (a ++ b) i ↔ memS a i ∨ memS b i := by
  unfold memS
  constructor
  · rintro ⟨x, hx, h⟩
    rcases List.mem_append.1 hx with h1 | h1
    · exact Or.inl ⟨x, h1, h⟩
    · exact Or.inr ⟨x, h1, h⟩
  · rintro (⟨x, hx, h⟩ | ⟨x, hx, h⟩)
    · exact ⟨x, List.mem_append_left _ hx, h⟩
    · exact ⟨x, List.mem_append_right _ hx, h⟩
theorem memS_one (x : S95) (i : Int) : memS [x] i ↔ x.f0 ≤ i ∧ i < x.f0 + x.f1 := by simp [memS]
theorem memS_nil (i : Int) : ¬ memS [] i := by simp [memS]
theorem memS_cons (x : S95) (l : List S95) (i : Int) : memS (x :: l) i ↔ (x.f0 ≤ i ∧ i < x.f0 + x.f1) ∨ memS l i := by simp [memS]
theorem Sep_nil : Sep [] := ⟨by simp, List.Pairwise.nil⟩
theorem Sep_cons {x : S95} {l : List S95} : Sep (x :: l) ↔ 0 < x.f1 ∧ (∀ y ∈ l, x.f0 + x.f1 < y.f0) ∧ Sep l := by
  unfold Sep
  rw [List.pairwise_cons]
  constructor
  · rintro ⟨h1, h2, h3⟩
    exact ⟨h1 x (by simp), h2, fun y hy => h1 y (by simp [hy]), h3⟩
  · rintro ⟨h1, h2, h3, h4⟩
    exact ⟨fun y hy => (List.mem_cons.1 hy).elim (fun h => h ▸ h1) (h3 y), h2, h4⟩
theorem Sep_app {a b : List S95} : Sep (a ++ b) ↔ Sep a ∧ Sep b ∧ ∀ x ∈ a, ∀ y ∈ b, x.f0 + x.f1 < y.f0 := by
  unfold Sep
  rw [List.pairwise_append]
  constructor
  · rintro ⟨h1, h2, h3, h4⟩
    exact ⟨⟨fun x hx => h1 x (List.mem_append_left _ hx), h2⟩, ⟨fun x hx => h1 x (List.mem_append_right _ hx), h3⟩, h4⟩
  · rintro ⟨⟨h1, h2⟩, ⟨h3, h4⟩, h5⟩
    exact ⟨fun x hx => (List.mem_append.1 hx).elim (h1 x) (h3 x), h2, h4, h5⟩
theorem Sep_one {x : S95} : Sep [x] ↔ 0 < x.f1 := by simp [Sep_cons, Sep_nil]
/-- two such lists of the same numbers are one -/
theorem Sep_eq : ∀ (a b : List S95), Sep a → Sep b → (∀ i, memS a i ↔ memS b i) → a = b
  | [], [], _, _, _ => rfl
  | [], y :: b, _, hb, h => absurd ((h y.f0).2 ((memS_cons _ _ _).2 (Or.inl ⟨by omega, by have := (Sep_cons.1 hb).1; omega⟩))) (memS_nil _)
  | x :: a, [], ha, _, h => absurd ((h x.f0).1 ((memS_cons _ _ _).2 (Or.inl ⟨by omega, by have := (Sep_cons.1 ha).1; omega⟩))) (memS_nil _)
  | x :: a, y :: b, ha, hb, h => by
    have h0 : ∀ (x y : S95) (a b : List S95), Sep (x :: a) → Sep (y :: b) → (∀ i, memS (x :: a) i ↔ memS (y :: b) i) → y.f0 ≤ x.f0 := by
      intro x y a b ha hb h
      have hx := (Sep_cons.1 ha).1
      obtain ⟨z, hz, h1, h2⟩ := (h x.f0).1 ((memS_cons _ _ _).2 (Or.inl ⟨by omega, by omega⟩))
      rcases List.mem_cons.1 hz with rfl | hz
      · exact h1
      · have := (Sep_cons.1 hb).2.1 z hz
        have := (Sep_cons.1 hb).1
        omega
    have e0 : x.f0 = y.f0 := Int.le_antisymm (h0 y x b a hb ha fun i => (h i).symm) (h0 x y a b ha hb h)
    have h1 : ∀ (x y : S95) (a b : List S95), x.f0 = y.f0 → Sep (x :: a) → Sep (y :: b) → (∀ i, memS (x :: a) i ↔ memS (y :: b) i) → ¬ x.f1 < y.f1 := by
      intro x y a b e ha hb h hlt
      have hx := (Sep_cons.1 ha).1
      rcases (memS_cons _ _ _).1 ((h (x.f0 + x.f1)).2 ((memS_cons _ _ _).2 (Or.inl ⟨by omega, by omega⟩))) with ⟨_, h2⟩ | ⟨z, hz, h2, h3⟩
      · omega
      · have := (Sep_cons.1 ha).2.1 z hz
        omega
    have e1 : x.f1 = y.f1 := by
      have := h1 x y a b e0 ha hb h
      have := h1 y x b a e0.symm hb ha fun i => (h i).symm
      omega
    have exy : x = y := by cases x; cases y; simp_all
    subst exy
    have h2 : ∀ (a b : List S95), Sep (x :: a) → Sep (x :: b) → (∀ i, memS (x :: a) i ↔ memS (x :: b) i) → ∀ i, memS a i → memS b i := by
      rintro a b ha hb h i ⟨z, hz, hi⟩
      rcases (memS_cons _ _ _).1 ((h i).1 ((memS_cons _ _ _).2 (Or.inr ⟨z, hz, hi⟩))) with h3 | h3
      · have := (Sep_cons.1 ha).2.1 z hz
        omega
      · exact h3
    rw [Sep_eq a b (Sep_cons.1 ha).2.2 (Sep_cons.1 hb).2.2 fun i => ⟨h2 a b ha hb h i, h2 b a hb ha (fun i => (h i).symm) i⟩]
/-- a span joined to those that are there -/
def mstep (o : List S95) (s : S95) : List S95 := match o.getLast? with
  | some y => if s.f0 ≤ y.f0 + y.f1 then o.dropLast ++ [⟨y.f0, max (y.f0 + y.f1) (s.f0 + s.f1) - y.f0⟩] else o ++ [s]
  | none => [s]
def mergeP (o : List S95) (l : List S95) : List S95 := l.foldl mstep o
theorem mstep_join (o : List S95) (y s : S95) (h : s.f0 ≤ y.f0 + y.f1) : mstep (o ++ [y]) s = o ++ [⟨y.f0, max (y.f0 + y.f1) (s.f0 + s.f1) - y.f0⟩] := by simp [mstep, h]
theorem mstep_new (o : List S95) (y s : S95) (h : ¬ s.f0 ≤ y.f0 + y.f1) : mstep (o ++ [y]) s = o ++ [y] ++ [s] := by simp [mstep, h]
theorem merge_go : ∀ (l o : List S95) (y : S95), Sep (o ++ [y]) → l.Pairwise (fun a b => a.f0 ≤ b.f0) → (∀ s ∈ l, 0 < s.f1 ∧ y.f0 ≤ s.f0) →
    Sep (mergeP (o ++ [y]) l) ∧ ∀ i, memS (mergeP (o ++ [y]) l) i ↔ memS (o ++ [y]) i ∨ memS l i
  | [], o, y, hS, _, _ => ⟨hS, fun i => ⟨Or.inl, fun h => h.elim id fun h => absurd h (memS_nil i)⟩⟩
  | s :: l, o, y, hS, hl, hp => by
    obtain ⟨hs1, hs2⟩ := hp s (by simp)
    obtain ⟨hl1, hl2⟩ := List.pairwise_cons.1 hl
    obtain ⟨hSo, hSy, hoy⟩ := Sep_app.1 hS
    have hy := Sep_one.1 hSy
    by_cases h : s.f0 ≤ y.f0 + y.f1
    · have e : mergeP (o ++ [y]) (s :: l) = mergeP (o ++ [⟨y.f0, max (y.f0 + y.f1) (s.f0 + s.f1) - y.f0⟩]) l := by unfold mergeP; rw [List.foldl_cons, mstep_join o y s h]
      have hS2 : Sep (o ++ [⟨y.f0, max (y.f0 + y.f1) (s.f0 + s.f1) - y.f0⟩]) := Sep_app.2 ⟨hSo, Sep_one.2 (by simp only; omega), fun x hx z hz => by obtain rfl := List.mem_singleton.1 hz; exact hoy x hx y (by simp)⟩
      obtain ⟨g1, g2⟩ := merge_go l o ⟨y.f0, max (y.f0 + y.f1) (s.f0 + s.f1) - y.f0⟩ hS2 hl2 (fun t ht => ⟨(hp t (by simp [ht])).1, by have := hl1 t ht; simp only; omega⟩)
      rw [e]
      refine ⟨g1, fun i => ?_⟩
      rw [g2 i, memS_app, memS_app, memS_one, memS_one, memS_cons]
      constructor
      · rintro ((h1 | h1) | h1)
        · exact Or.inl (Or.inl h1)
        · simp only at h1
          by_cases h2 : i < y.f0 + y.f1
          · exact Or.inl (Or.inr ⟨h1.1, h2⟩)
          · exact Or.inr (Or.inl ⟨by omega, by omega⟩)
        · exact Or.inr (Or.inr h1)
      · rintro ((h1 | h1) | (h1 | h1))
        · exact Or.inl (Or.inl h1)
        · exact Or.inl (Or.inr ⟨h1.1, by simp only; omega⟩)
        · exact Or.inl (Or.inr ⟨by simp only; omega, by simp only; omega⟩)
        · exact Or.inr h1
    · have e : mergeP (o ++ [y]) (s :: l) = mergeP ((o ++ [y]) ++ [s]) l := by unfold mergeP; rw [List.foldl_cons, mstep_new o y s h]
      have hS2 : Sep ((o ++ [y]) ++ [s]) := Sep_app.2 ⟨hS, Sep_one.2 hs1, fun x hx z hz => by
        obtain rfl := List.mem_singleton.1 hz
        rcases List.mem_append.1 hx with h3 | h3
        · have := hoy x h3 y (by simp); omega
        · obtain rfl := List.mem_singleton.1 h3; omega⟩
      obtain ⟨g1, g2⟩ := merge_go l (o ++ [y]) s hS2 hl2 (fun t ht => ⟨(hp t (by simp [ht])).1, hl1 t ht⟩)
      rw [e]
      refine ⟨g1, fun i => ?_⟩
      rw [g2 i, memS_app, memS_one, memS_cons, or_assoc]
theorem merge_all (l : List S95) (hl : l.Pairwise (fun a b => a.f0 ≤ b.f0)) (hp : ∀ s ∈ l, 0 < s.f1) : Sep (mergeP [] l) ∧ ∀ i, memS (mergeP [] l) i ↔ memS l i := by
  cases l with
  | nil => exact ⟨Sep_nil, fun i => Iff.rfl⟩
  | cons s l =>
    obtain ⟨hl1, hl2⟩ := List.pairwise_cons.1 hl
    obtain ⟨g1, g2⟩ := merge_go l [] s (Sep_one.2 (hp s (by simp))) hl2 (fun t ht => ⟨hp t (by simp [ht]), hl1 t ht⟩)
    have e : mergeP [] (s :: l) = mergeP ([] ++ [s]) l := rfl
    rw [e]
    refine ⟨g1, fun i => ?_⟩
    rw [g2 i, memS_app, memS_one, memS_cons]
    exact ⟨fun h => h.elim (fun h => h.elim (fun h => absurd h (memS_nil i)) Or.inl) Or.inr, fun h => h.elim (fun h => Or.inl (Or.inr h)) Or.inr⟩
/-- what is in both -/
def meetP : List S95 → List S95 → List S95
  | x :: a, y :: b =>
    (if max x.f0 y.f0 < min (x.f0 + x.f1) (y.f0 + y.f1) then [⟨max x.f0 y.f0, min (x.f0 + x.f1) (y.f0 + y.f1) - max x.f0 y.f0⟩] else []) ++
      (if x.f0 + x.f1 < y.f0 + y.f1 then meetP a (y :: b) else meetP (x :: a) b)
  | _, _ => []
termination_by a b => a.length + b.length
theorem meetP_nil (b : List S95) : meetP [] b = [] := by unfold meetP; rfl
theorem meetP_nil2 (a : List S95) : meetP a [] = [] := by unfold meetP; cases a <;> rfl
theorem meet_low : ∀ (n : Nat) (a b : List S95), a.length + b.length = n → ∀ z ∈ meetP a b, (∃ x ∈ a, x.f0 ≤ z.f0) ∧ ∃ y ∈ b, y.f0 ≤ z.f0
  | n, [], b, _, z, hz => by rw [meetP_nil] at hz; exact absurd hz (by simp)
  | n, x :: a, [], _, z, hz => by rw [meetP_nil2] at hz; exact absurd hz (by simp)
  | 0, x :: a, y :: b, hn, z, hz => by simp at hn
  | n + 1, x :: a, y :: b, hn, z, hz => by
    unfold meetP at hz
    rcases List.mem_append.1 hz with h | h
    · split at h
      · obtain rfl := List.mem_singleton.1 h
        exact ⟨⟨x, by simp, by simp only; omega⟩, y, by simp, by simp only; omega⟩
      · exact absurd h (by simp)
    · split at h
      · obtain ⟨⟨u, hu, h1⟩, h2⟩ := meet_low n a (y :: b) (by simp at hn ⊢; omega) z h
        exact ⟨⟨u, by simp [hu], h1⟩, h2⟩
      · obtain ⟨h1, ⟨u, hu, h2⟩⟩ := meet_low n (x :: a) b (by simp at hn ⊢; omega) z h
        exact ⟨h1, u, by simp [hu], h2⟩
theorem meet_all : ∀ (n : Nat) (a b : List S95), a.length + b.length = n → Sep a → Sep b → Sep (meetP a b) ∧ ∀ i, memS (meetP a b) i ↔ memS a i ∧ memS b i
  | n, [], b, _, _, _ => by rw [meetP_nil]; exact ⟨Sep_nil, fun i => ⟨fun h => absurd h (memS_nil i), fun h => h.1⟩⟩
  | n, x :: a, [], _, _, _ => by rw [meetP_nil2]; exact ⟨Sep_nil, fun i => ⟨fun h => absurd h (memS_nil i), fun h => h.2⟩⟩
  | 0, x :: a, y :: b, hn, _, _ => by simp at hn
  | n + 1, x :: a, y :: b, hn, ha, hb => by
    obtain ⟨hx, hxa, hSa⟩ := Sep_cons.1 ha
    obtain ⟨hy, hyb, hSb⟩ := Sep_cons.1 hb
    obtain ⟨P, hP⟩ : ∃ P, P = (if max x.f0 y.f0 < min (x.f0 + x.f1) (y.f0 + y.f1) then [(⟨max x.f0 y.f0, min (x.f0 + x.f1) (y.f0 + y.f1) - max x.f0 y.f0⟩ : S95)] else []) := ⟨_, rfl⟩
    have hPS : Sep P := by rw [hP]; split; · exact Sep_one.2 (by simp only; omega)
                           · exact Sep_nil
    have hPm : ∀ i, memS P i ↔ (x.f0 ≤ i ∧ i < x.f0 + x.f1) ∧ (y.f0 ≤ i ∧ i < y.f0 + y.f1) := by
      intro i; rw [hP]; split
      · rw [memS_one]; simp only; omega
      · exact ⟨fun h => absurd h (memS_nil i), fun h => by omega⟩
    have hPe : ∀ z ∈ P, z.f0 + z.f1 = min (x.f0 + x.f1) (y.f0 + y.f1) := by
      intro z hz; rw [hP] at hz; split at hz
      · obtain rfl := List.mem_singleton.1 hz; simp only; omega
      · exact absurd hz (by simp)
    have e : meetP (x :: a) (y :: b) = P ++ (if x.f0 + x.f1 < y.f0 + y.f1 then meetP a (y :: b) else meetP (x :: a) b) := by rw [hP]; conv => lhs; unfold meetP
    rw [e]
    by_cases h : x.f0 + x.f1 < y.f0 + y.f1
    · rw [if_pos h]
      obtain ⟨g1, g2⟩ := meet_all n a (y :: b) (by simp at hn ⊢; omega) hSa hb
      refine ⟨Sep_app.2 ⟨hPS, g1, fun z hz u hu => ?_⟩, fun i => ?_⟩
      · obtain ⟨⟨v, hv, h1⟩, _⟩ := meet_low n a (y :: b) (by simp at hn ⊢; omega) u hu
        have := hxa v hv
        have := hPe z hz
        omega
      · rw [memS_app, hPm i, g2 i, memS_cons x, memS_cons y]
        constructor
        · rintro (⟨h1, h2⟩ | ⟨h1, h2⟩)
          · exact ⟨Or.inl h1, Or.inl h2⟩
          · exact ⟨Or.inr h1, h2⟩
        · rintro ⟨h1 | h1, h2 | h2⟩
          · exact Or.inl ⟨h1, h2⟩
          · obtain ⟨v, hv, h3, h4⟩ := h2
            have := hyb v hv
            omega
          · exact Or.inr ⟨h1, Or.inl h2⟩
          · exact Or.inr ⟨h1, Or.inr h2⟩
    · rw [if_neg h]
      obtain ⟨g1, g2⟩ := meet_all n (x :: a) b (by simp at hn ⊢; omega) ha hSb
      refine ⟨Sep_app.2 ⟨hPS, g1, fun z hz u hu => ?_⟩, fun i => ?_⟩
      · obtain ⟨_, v, hv, h1⟩ := meet_low n (x :: a) b (by simp at hn ⊢; omega) u hu
        have := hyb v hv
        have := hPe z hz
        omega
      · rw [memS_app, hPm i, g2 i, memS_cons x, memS_cons y]
        constructor
        · rintro (⟨h1, h2⟩ | ⟨h1, h2⟩)
          · exact ⟨Or.inl h1, Or.inl h2⟩
          · exact ⟨h1, Or.inr h2⟩
        · rintro ⟨h1 | h1, h2 | h2⟩
          · exact Or.inl ⟨h1, h2⟩
          · exact Or.inr ⟨Or.inl h1, h2⟩
          · obtain ⟨v, hv, h3, h4⟩ := h1
            have := hxa v hv
            omega
          · exact Or.inr ⟨Or.inr h1, h2⟩
/-- numbers in order, glued -/
theorem glued_go : ∀ (l : List Int) (o : List S95), Sep o → (∀ z ∈ o, ∀ b ∈ l, z.f0 + z.f1 ≤ b) → l.Pairwise (· < ·) → Sep (gluedP o l) ∧ ∀ i, memS (gluedP o l) i ↔ memS o i ∨ i ∈ l
  | [], o, hS, _, _ => ⟨hS, fun i => by simp [gluedP]⟩
  | b :: l, o, hS, hz, hl => by
    obtain ⟨hl1, hl2⟩ := List.pairwise_cons.1 hl
    have key : Sep (put o b 1) ∧ (∀ z ∈ put o b 1, z.f0 + z.f1 ≤ b + 1) ∧ ∀ i, memS (put o b 1) i ↔ memS o i ∨ i = b := by
      rcases last_of o with rfl | ⟨p, y, rfl⟩
      · rw [put_nil]
        refine ⟨Sep_one.2 (by simp), fun z hz => by obtain rfl := List.mem_singleton.1 hz; simp only; omega, fun i => ?_⟩
        rw [memS_one]; simp only
        exact ⟨fun h => Or.inr (by omega), fun h => h.elim (fun h => absurd h (memS_nil i)) fun h => by omega⟩
      · obtain ⟨h1, h2, h3⟩ := Sep_app.1 hS
        have hy := Sep_one.1 h2
        have hyb := hz y (by simp) b (by simp)
        by_cases h : y.f0 + y.f1 = b
        · rw [put_join p y b 1 h]
          refine ⟨Sep_app.2 ⟨h1, Sep_one.2 (by simp only; omega), fun x hx z hz => by obtain rfl := List.mem_singleton.1 hz; exact h3 x hx y (by simp)⟩, fun z hz2 => ?_, fun i => ?_⟩
          · rcases List.mem_append.1 hz2 with h4 | h4
            · have := hz z (by simp [h4]) b (by simp); omega
            · obtain rfl := List.mem_singleton.1 h4; simp only; omega
          · rw [memS_app, memS_app, memS_one, memS_one, or_assoc]; simp only
            refine or_congr Iff.rfl ?_; omega
        · rw [put_new p y b 1 h]
          refine ⟨Sep_app.2 ⟨hS, Sep_one.2 (by simp), fun x hx z hz2 => ?_⟩, fun z hz2 => ?_, fun i => ?_⟩
          · obtain rfl := List.mem_singleton.1 hz2
            rcases List.mem_append.1 hx with h4 | h4
            · have := h3 x h4 y (by simp); simp only; omega
            · obtain rfl := List.mem_singleton.1 h4; simp only; omega
          · rcases List.mem_append.1 hz2 with h4 | h4
            · have := hz z h4 b (by simp); omega
            · obtain rfl := List.mem_singleton.1 h4; simp only; omega
          · rw [memS_app, memS_one]; simp only
            refine or_congr Iff.rfl ?_; omega
    obtain ⟨g1, g2⟩ := glued_go l (put o b 1) key.1 (fun z hz c hc => by have := key.2.1 z hz; have := hl1 c hc; omega) hl2
    have e : gluedP o (b :: l) = gluedP (put o b 1) l := rfl
    rw [e]
    refine ⟨g1, fun i => ?_⟩
    rw [g2 i, key.2.2 i, List.mem_cons, or_assoc]
theorem drop_span (l : List S95) (i : Nat) (h : i < l.length) : l.drop i = rd_T95 l (i : Int) :: l.drop (i + 1) := by
  rw [List.drop_eq_getElem_cons h]
  simp [rd_T95, List.getD_eq_getElem?_getD, h]
theorem up (i n : Nat) (h : i < n) (hn : n ≤ 4611686018427387904) : wrap64 ((i : Int) + 1) = ((i + 1 : Nat) : Int) := by unfold wrap64; omega
theorem right_val (x : S95) : wrackref1_Right.f x.f0 x.f1 = some (decide (0 ≤ x.f0 ∧ 0 ≤ x.f1 ∧ x.f0 + x.f1 ≤ 65536)) := by
  unfold wrackref1_Right.f
  by_cases h : (0 ≤ x.f0 ∧ 0 ≤ x.f1) ∧ (x.f0 ≤ 65536 ∧ x.f1 ≤ 65536)
  · rw [if_pos h.1.1, if_pos h.1.2, if_pos h.2.1, if_pos h.2.2]
    congr 1
    refine decide_eq_decide.2 ?_
    unfold wrap64; omega
  · repeat' split
    all_goals first | (congr 1; exact (decide_eq_false (by omega)).symm) | (exfalso; omega)
theorem last_rd (p : List S95) (y : S95) : rd_T95 (p ++ [y]) (p.length : Int) = y := by
  simp [rd_T95, List.getD_eq_getElem?_getD]
theorem last_set (p : List S95) (y z : S95) : (p ++ [y]).set (p.length : Int).toNat z = p ++ [z] := by
  simp
def inS (x : S95) : Prop := 0 ≤ x.f0 ∧ 0 ≤ x.f1 ∧ x.f0 + x.f1 ≤ 65536
/-- the right ones -/
def oks (l : List S95) : List S95 := l.filter fun x => decide (okS x)
theorem oks_in (l : List S95) : ∀ x ∈ oks l, okS x := fun x hx => by have := (List.mem_filter.1 hx).2; simpa using this
theorem mem_oks (l : List S95) (i : Int) (h : memS (oks l) i) : 0 ≤ i ∧ i < 65536 := by
  obtain ⟨x, hx, h1, h2⟩ := h
  have := oks_in l x hx
  unfold okS at this
  omega
def normP (l : List S95) : List S95 := mergeP [] (sortedS (oks l))
theorem oks_cons (x : S95) (l : List S95) : oks (x :: l) = (if okS x then [x] else []) ++ oks l := by
  unfold oks
  by_cases h : okS x <;> simp [h]
theorem oks_app (a b : List S95) : oks (a ++ b) = oks a ++ oks b := by simp [oks]
theorem mstep_in (o : List S95) (s : S95) (h : ∀ y ∈ o, inS y) (hs : inS s) : (∀ y ∈ mstep o s, inS y) ∧ (mstep o s).length ≤ o.length + 1 := by
  rcases last_of o with rfl | ⟨p, y, rfl⟩
  · exact ⟨fun y hy => by obtain rfl := List.mem_singleton.1 hy; exact hs, by simp [mstep]⟩
  · have hy := h y (by simp)
    unfold inS at hy hs
    by_cases hj : s.f0 ≤ y.f0 + y.f1
    · rw [mstep_join p y s hj]
      refine ⟨fun z hz => ?_, by simp⟩
      rcases List.mem_append.1 hz with hz | hz
      · exact h z (by simp [hz])
      · obtain rfl := List.mem_singleton.1 hz; unfold inS; simp only; omega
    · rw [mstep_new p y s hj]
      refine ⟨fun z hz => ?_, by simp⟩
      rcases List.mem_append.1 hz with hz | hz
      · exact h z hz
      · obtain rfl := List.mem_singleton.1 hz; exact hs
theorem merge_in (l : List S95) : ∀ (o : List S95), (∀ y ∈ o, inS y) → (∀ s ∈ l, inS s) → (∀ y ∈ mergeP o l, inS y) ∧ (mergeP o l).length ≤ o.length + l.length := by
  induction l with
  | nil => intro o h _; exact ⟨h, by simp [mergeP]⟩
  | cons s l ih =>
    intro o h hl
    obtain ⟨g1, g2⟩ := mstep_in o s h (hl s (by simp))
    obtain ⟨k1, k2⟩ := ih (mstep o s) g1 (fun t ht => hl t (by simp [ht]))
    exact ⟨k1, by show (mergeP (mstep o s) l).length ≤ _; simp only [List.length_cons]; omega⟩
theorem ok_in {x : S95} (h : okS x) : inS x := by unfold okS at h; unfold inS; omega
theorem perm_oks (l : List S95) : (sortedS (oks l)).Perm (oks l) := sortedS_perm _ fun x hx => by have := oks_in l x hx; unfold okS at this; omega
theorem norm_facts (l : List S95) : Sep (normP l) ∧ (∀ i, memS (normP l) i ↔ memS (oks l) i) ∧ (∀ y ∈ normP l, inS y) ∧ (normP l).length ≤ l.length := by
  have hp := perm_oks l
  obtain ⟨g1, g2⟩ := merge_all (sortedS (oks l)) (sortedS_in_order _) (fun s hs => by have := oks_in l s (hp.mem_iff.1 hs); unfold okS at this; omega)
  obtain ⟨k1, k2⟩ := merge_in (sortedS (oks l)) [] (by simp) (fun s hs => ok_in (oks_in l s (hp.mem_iff.1 hs)))
  refine ⟨g1, fun i => (g2 i).trans ?_, k1, ?_⟩
  · unfold memS
    exact ⟨fun ⟨x, hx, h⟩ => ⟨x, hp.mem_iff.1 hx, h⟩, fun ⟨x, hx, h⟩ => ⟨x, hp.mem_iff.2 hx, h⟩⟩
  · rw [sortedS_len] at k2
    have : (oks l).length ≤ l.length := List.length_filter_le _ _
    simp at k2
    exact Nat.le_trans k2 this
theorem norm_l1 (s : List S95) (hn : s.length ≤ 8796093022208) (hs : ∀ x ∈ s, okS x) : ∀ (d i : Nat) (o : List S95), i + d = s.length → o.length ≤ i → (∀ y ∈ o, inS y) →
    Ev (fun k => span_Norm.l1 k o s (s.length : Int) (i : Int)) (mergeP o (s.drop i))
  | 0, i, o, hi, ho, hq => by
    refine Ev.step (f := fun _ => some _) (fun k => ?_) (Ev.now _)
    simp only [span_Norm.l1]
    rw [if_neg (by omega), List.drop_of_length_le (by omega)]; rfl
  | d + 1, i, o, hi, ho, hq => by
    have hx0 : okS (rd_T95 s (i : Int)) := hs _ (by unfold rd_T95; rw [Int.toNat_natCast, List.getD_eq_getElem?_getD, List.getElem?_eq_getElem (by omega)]; simp)
    rw [drop_span s i (by omega)]
    generalize hx : rd_T95 s (i : Int) = x at hx0 ⊢
    have hx1 := hx0
    unfold okS at hx1
    obtain ⟨g1, g2⟩ := mstep_in o x hq (ok_in hx0)
    have ih := norm_l1 s hn hs d (i + 1) (mstep o x) (by omega) (by omega) g1
    have hu := up i s.length (by omega) (by omega)
    have hj : Ev (fun k => span_Norm.j2 k o (wrap64 ((o.length : Int) - 1)) s (s.length : Int) (i : Int) (match o.getLast? with | some y => decide (x.f0 ≤ y.f0 + y.f1) | none => false) x.f0 x.f1) (mergeP o (x :: s.drop (i + 1))) := by
      refine Ev.step (fun k => ?_) ih
      simp only [span_Norm.j2]
      rcases last_of o with rfl | ⟨p, y, rfl⟩
      · rw [if_neg (by simp), if_pos (by simp), hu]; rfl
      · have hy := hq y (by simp)
        unfold inS at hy
        rw [show (p ++ [y]).getLast? = some y by simp]
        simp only [List.length_append, List.length_singleton] at ho ⊢
        rw [show wrap64 (((p.length + 1 : Nat) : Int) - 1) = (p.length : Int) by unfold wrap64; omega, last_rd]
        by_cases hc : x.f0 ≤ y.f0 + y.f1
        · rw [if_pos (decide_eq_true hc), if_pos (by omega), if_pos (by omega), mstep_join p y x hc]
          unfold span_end.f
          rw [Option.bind_some, Option.bind_some, last_set, hu, show wrap64 (y.f0 + y.f1) = y.f0 + y.f1 by unfold wrap64; omega, show wrap64 (x.f0 + x.f1) = x.f0 + x.f1 by unfold wrap64; omega,
            show mx (y.f0 + y.f1) (x.f0 + x.f1) = max (y.f0 + y.f1) (x.f0 + x.f1) by unfold mx; split <;> omega, show wrap64 (max (y.f0 + y.f1) (x.f0 + x.f1) - y.f0) = max (y.f0 + y.f1) (x.f0 + x.f1) - y.f0 by unfold wrap64; omega]
        · rw [if_neg (by simpa using hc), if_pos (by omega), mstep_new p y x hc, hu]
    refine Ev.step (fun k => ?_) hj
    simp only [span_Norm.l1]
    rw [if_pos (by omega), if_pos (by omega), if_pos (by omega), hx]
    rcases last_of o with rfl | ⟨p, y, rfl⟩
    · rw [show wrap64 ((([] : List S95).length : Int) - 1) = -1 by unfold wrap64; simp only [List.length_nil]; omega, if_neg (by omega)]; rfl
    · have hy := hq y (by simp)
      unfold inS at hy
      rw [show (p ++ [y]).getLast? = some y by simp]
      simp only [List.length_append, List.length_singleton] at ho ⊢
      rw [show wrap64 (((p.length + 1 : Nat) : Int) - 1) = (p.length : Int) by unfold wrap64; omega, if_pos (by omega), if_pos (by omega), if_pos (by omega), last_rd]
      unfold span_end.f
      rw [Option.bind_some, show wrap64 (y.f0 + y.f1) = y.f0 + y.f1 by unfold wrap64; omega]
theorem norm_l0 (l : List S95) (hn : l.length ≤ 8796093022208) (all : List S95) (hall : ∀ x ∈ all, okS x) : ∀ (d i : Nat) (o : List S95), i + d = l.length → o.length ≤ i → o ++ oks (l.drop i) = all →
    Ev (fun k => span_Norm.l0 k o l (l.length : Int) (i : Int)) (mergeP [] (sortedS all))
  | 0, i, o, hi, ho, he => by
    rw [List.drop_of_length_le (by omega)] at he
    have he : o = all := by rw [← he]; simp [oks]
    subst he
    have hlen := sortedS_len o
    have hperm : (sortedS o).Perm o := sortedS_perm _ fun x hx => by have := hall x hx; unfold okS at this; omega
    have hb := norm_l1 (sortedS o) (by omega) (fun x hx => hall x (hperm.mem_iff.1 hx)) (sortedS o).length 0 [] (by omega) (by simp) (by simp)
    rw [List.drop_zero, hlen] at hb
    refine Ev.step (f := fun k => span_Norm.l1 k [] (sortedS o) (o.length : Int) 0) (fun k => ?_) hb
    simp only [span_Norm.l0]
    rw [if_neg (by omega)]
    unfold slices_SortFunc_spans.f
    rw [if_pos ⟨fun x hx => by have := hall x hx; unfold okS at this; omega, by omega⟩, Option.bind_some]
  | d + 1, i, o, hi, ho, he => by
    rw [drop_span l i (by omega), oks_cons] at he
    have hu := up i l.length (by omega) (by omega)
    generalize hx : rd_T95 l (i : Int) = x at he
    by_cases hk : okS x
    · rw [if_pos hk, ← List.append_assoc] at he
      refine Ev.step (fun k => ?_) (norm_l0 l hn all hall d (i + 1) (o ++ [x]) (by omega) (by simp; omega) he)
      simp only [span_Norm.l0]
      rw [if_pos (by omega), if_pos (by omega), if_pos (by omega), hx, good_val, Option.bind_some, decide_eq_true hk, if_pos rfl, if_pos (by omega), hu]
    · rw [if_neg hk, List.nil_append] at he
      refine Ev.step (fun k => ?_) (norm_l0 l hn all hall d (i + 1) o (by omega) (by omega) he)
      simp only [span_Norm.l0]
      rw [if_pos (by omega), if_pos (by omega), if_pos (by omega), hx, good_val, Option.bind_some, decide_eq_false hk, if_neg (by decide), hu]
theorem norm_ev (l : List S95) (hn : l.length ≤ 8796093022208) : Ev (fun k => span_Norm.f k l) (normP l) :=
  norm_l0 l hn (oks l) (oks_in l) l.length 0 [] (by omega) (by simp) (by simp)
theorem join_ev (a b : List S95) (hn : a.length + b.length ≤ 8796093022208) : Ev (fun k => span_Join.f k a b) (normP (a ++ b)) := by
  unfold span_Join.f slices_Concat_spans.f
  refine Ev.congr (fun k => by rw [if_pos (by unfold totLen; simp; omega), Option.bind_some]) ?_
  have e := norm_ev (a ++ b) (by simp; omega)
  refine Ev.bind (f := fun _ t => some t) (a := normP (a ++ b)) ?_ (Ev.now _)
  exact Ev.congr (fun k => by simp) e
/-! marks -/
theorem rdB (m : List Bool) (i : Nat) : rdOf false m (i : Int) = m.getD i false := by unfold rdOf; rw [Int.toNat_natCast]
theorem getD_set (m : List Bool) (i j : Nat) (v : Bool) (hi : i < m.length) : (m.set i v).getD j false = if i = j then v else m.getD j false := by
  rw [List.getD_eq_getElem?_getD, List.getD_eq_getElem?_getD, List.getElem?_set]
  by_cases h : i = j
  · rw [if_pos h, if_pos h, if_pos hi]; rfl
  · rw [if_neg h, if_neg h]
def Good (m : List Bool) (S : Int → Prop) : Prop := m.length = 65536 ∧ ∀ i : Nat, i < 65536 → (m.getD i false = true ↔ S (i : Int))
theorem marks_in (l : List S95) (i : Nat) (x : S95) (hx : inS x) (hi : i < l.length) (hn : l.length ≤ 4611686018427387904) (S : Int → Prop) : ∀ (d j : Nat) (m : List Bool), (j : Int) + (d : Int) = x.f1 → Good m (fun b => S b ∨ (x.f0 ≤ b ∧ b < x.f0 + (j : Int))) →
    ∃ m', Good m' (fun b => S b ∨ (x.f0 ≤ b ∧ b < x.f0 + x.f1)) ∧ ∀ r, Ev (fun k => wrackref1_Marks.l0 k m' l (l.length : Int) ((i + 1 : Nat) : Int)) r → Ev (fun k => wrackref1_Marks.l1 k m l (l.length : Int) (i : Int) x.f1 (j : Int) x.f0 x.f1) r
  | 0, j, m, hj, hg => by
    refine ⟨m, ?_, fun r e => Ev.step (fun k => ?_) e⟩
    · rwa [show x.f1 = (j : Int) by omega]
    · simp only [wrackref1_Marks.l1]
      rw [if_neg (by omega), up i l.length hi hn]
  | d + 1, j, m, hj, hg => by
    unfold inS at hx
    have hw : wrap64 (x.f0 + (j : Int)) = ((x.f0.toNat + j : Nat) : Int) := by unfold wrap64; omega
    have hlt : x.f0.toNat + j < 65536 := by omega
    have hg2 : Good (m.set (x.f0.toNat + j) true) (fun b => S b ∨ (x.f0 ≤ b ∧ b < x.f0 + ((j + 1 : Nat) : Int))) := by
      refine ⟨by rw [List.length_set]; exact hg.1, fun b hb => ?_⟩
      rw [getD_set _ _ _ _ (by rw [hg.1]; exact hlt)]
      by_cases h : x.f0.toNat + j = b
      · rw [if_pos h]; exact ⟨fun _ => Or.inr (by omega), fun _ => rfl⟩
      · rw [if_neg h, hg.2 b hb]
        exact or_congr Iff.rfl ⟨fun h => by omega, fun h => by omega⟩
    obtain ⟨m', g1, g2⟩ := marks_in l i x hx hi hn S d (j + 1) _ (by omega) hg2
    refine ⟨m', g1, fun r e => Ev.step (fun k => ?_) (g2 r e)⟩
    simp only [wrackref1_Marks.l1]
    rw [if_pos (by omega), hw, if_pos (by omega), if_pos (by rw [hg.1]; omega), Int.toNat_natCast, up j (j + 2) (by omega) (by omega)]
theorem marks_l0 (l : List S95) (hn : l.length ≤ 4611686018427387904) : ∀ (d i : Nat) (m : List Bool) (S : Int → Prop), i + d = l.length → Good m S →
    ∃ m', Good m' (fun b => S b ∨ memS (oks (l.drop i)) b) ∧ Ev (fun k => wrackref1_Marks.l0 k m l (l.length : Int) (i : Int)) m'
  | 0, i, m, S, hi, hg => by
    refine ⟨m, ?_, Ev.step (f := fun _ => some _) (fun k => ?_) (Ev.now _)⟩
    · rw [List.drop_of_length_le (by omega)]
      exact ⟨hg.1, fun b hb => (hg.2 b hb).trans ⟨Or.inl, fun h => h.elim id fun h => absurd h (memS_nil _)⟩⟩
    · simp only [wrackref1_Marks.l0]
      rw [if_neg (by omega)]
  | d + 1, i, m, S, hi, hg => by
    rw [drop_span l i (by omega), oks_cons]
    generalize hx : rd_T95 l (i : Int) = x
    by_cases hr : 0 ≤ x.f0 ∧ 0 ≤ x.f1 ∧ x.f0 + x.f1 ≤ 65536
    · have hg0 : Good m (fun b => S b ∨ (x.f0 ≤ b ∧ b < x.f0 + ((0 : Nat) : Int))) := ⟨hg.1, fun b hb => (hg.2 b hb).trans ⟨Or.inl, fun h => h.elim id fun h => by omega⟩⟩
      obtain ⟨m1, g1, g2⟩ := marks_in l i x hr (by omega) hn S x.f1.toNat 0 m (by omega) hg0
      obtain ⟨m', g3, g4⟩ := marks_l0 l hn d (i + 1) m1 _ (by omega) g1
      refine ⟨m', ⟨g3.1, fun b hb => (g3.2 b hb).trans ?_⟩, Ev.step (fun k => ?_) (g2 _ g4)⟩
      · show (S (b : Int) ∨ x.f0 ≤ (b : Int) ∧ (b : Int) < x.f0 + x.f1) ∨ memS (oks (l.drop (i + 1))) (b : Int) ↔ S (b : Int) ∨ memS ((if okS x then [x] else []) ++ oks (l.drop (i + 1))) (b : Int)
        rw [memS_app, or_assoc]
        refine or_congr Iff.rfl (or_congr ?_ Iff.rfl)
        by_cases hk : okS x
        · rw [if_pos hk, memS_one]
        · rw [if_neg hk]
          exact ⟨fun h => by unfold okS at hk; omega, fun h => absurd h (memS_nil _)⟩
      · simp only [wrackref1_Marks.l0]
        rw [if_pos (by omega), if_pos (by omega), if_pos (by omega), hx, right_val, Option.bind_some, decide_eq_true hr, if_pos rfl]; rfl
    · obtain ⟨m', g3, g4⟩ := marks_l0 l hn d (i + 1) m S (by omega) hg
      refine ⟨m', ⟨g3.1, fun b hb => (g3.2 b hb).trans ?_⟩, Ev.step (fun k => ?_) g4⟩
      · rw [if_neg (by unfold okS; omega), List.nil_append]
      · simp only [wrackref1_Marks.l0]
        rw [if_pos (by omega), if_pos (by omega), if_pos (by omega), hx, right_val, Option.bind_some, decide_eq_false hr, if_neg (by decide), up i l.length (by omega) hn]
theorem marks_ev (l : List S95) (hn : l.length ≤ 4611686018427387904) : ∃ m, Good m (memS (oks l)) ∧ Ev (fun k => wrackref1_Marks.f k l) m := by
  have h0 : Good (List.replicate 65536 false) (fun _ => False) := ⟨List.length_replicate, fun i hi => by rw [List.getD_eq_getElem?_getD, List.getElem?_replicate, if_pos hi]; simp⟩
  obtain ⟨m, g1, g2⟩ := marks_l0 l hn l.length 0 _ _ (by omega) h0
  rw [List.drop_zero] at g1
  refine ⟨m, ⟨g1.1, fun b hb => (g1.2 b hb).trans ⟨fun h => h.elim False.elim id, Or.inr⟩⟩, ?_⟩
  refine Ev.congr (fun k => ?_) g2
  unfold wrackref1_Marks.f
  rw [if_pos (by decide)]; rfl
/-! the spans of what is marked -/
def idxF (m : List Bool) : Nat → Nat → List Int
  | 0, _ => []
  | d + 1, i => (if m.getD i false = true then [(i : Int)] else []) ++ idxF m d (i + 1)
theorem mem_idxF (m : List Bool) : ∀ (d i : Nat) (b : Int), b ∈ idxF m d i ↔ ∃ j : Nat, i ≤ j ∧ j < i + d ∧ m.getD j false = true ∧ b = (j : Int)
  | 0, i, b => by simp [idxF]; omega
  | d + 1, i, b => by
    unfold idxF
    rw [List.mem_append, mem_idxF m d (i + 1) b]
    constructor
    · rintro (h | ⟨j, h1, h2, h3, h4⟩)
      · by_cases hc : m.getD i false = true
        · rw [if_pos hc] at h
          exact ⟨i, Nat.le_refl _, by omega, hc, by simpa using h⟩
        · rw [if_neg hc] at h; simp at h
      · exact ⟨j, by omega, by omega, h3, h4⟩
    · rintro ⟨j, h1, h2, h3, h4⟩
      by_cases he : j = i
      · subst he; left; rw [if_pos h3]; simp [h4]
      · exact Or.inr ⟨j, by omega, by omega, h3, h4⟩
theorem idxF_order (m : List Bool) : ∀ (d i : Nat), (idxF m d i).Pairwise (· < ·)
  | 0, i => by simp [idxF]
  | d + 1, i => by
    unfold idxF
    rw [List.pairwise_append]
    refine ⟨by split <;> simp, idxF_order m d (i + 1), fun x hx y hy => ?_⟩
    obtain ⟨j, h1, _, _, h4⟩ := (mem_idxF m d (i + 1) y).1 hy
    split at hx
    · have := List.mem_singleton.1 hx; omega
    · simp at hx
def setP (m : List Bool) : List S95 := gluedP [] (idxF m m.length 0)
theorem put_in (o : List S95) (x n : Int) (h : ∀ y ∈ o, inS y) (h0 : 0 ≤ x) (h1 : 0 ≤ n) (h2 : x + n ≤ 65536) : (∀ y ∈ put o x n, inS y) ∧ (put o x n).length ≤ o.length + 1 := by
  rcases last_of o with rfl | ⟨p, y, rfl⟩
  · rw [put_nil]
    exact ⟨fun y hy => by obtain rfl := List.mem_singleton.1 hy; exact ⟨h0, h1, h2⟩, by simp⟩
  · have hy := h y (by simp)
    unfold inS at hy
    by_cases hj : y.f0 + y.f1 = x
    · rw [put_join p y x n hj]
      refine ⟨fun z hz => ?_, by simp⟩
      rcases List.mem_append.1 hz with hz | hz
      · exact h z (by simp [hz])
      · obtain rfl := List.mem_singleton.1 hz; unfold inS; simp only; omega
    · rw [put_new p y x n hj]
      refine ⟨fun z hz => ?_, by simp⟩
      rcases List.mem_append.1 hz with hz | hz
      · exact h z hz
      · obtain rfl := List.mem_singleton.1 hz; exact ⟨h0, h1, h2⟩
theorem set_l0 (m : List Bool) (hm : m.length = 65536) : ∀ (d i : Nat) (o : List S95), i + d = 65536 → o.length ≤ i → (∀ y ∈ o, inS y) →
    (0 < i → m.getD (i - 1) false = true → o ≠ []) → (∀ p y, o = p ++ [y] → (y.f0 + y.f1 = (i : Int) ↔ (0 < i ∧ m.getD (i - 1) false = true)) ∧ y.f0 + y.f1 ≤ (i : Int)) →
    Ev (fun k => wrackref1_Set.l0 k m o m (m.length : Int) (i : Int)) (gluedP o (idxF m d i))
  | 0, i, o, hi, ho, hq, hne, hl => by
    refine Ev.step (f := fun _ => some _) (fun k => ?_) (Ev.now _)
    simp only [wrackref1_Set.l0]
    rw [if_neg (by omega)]; rfl
  | d + 1, i, o, hi, ho, hq, hne, hl => by
    have hu := up i m.length (by omega) (by omega)
    unfold idxF
    by_cases hc : m.getD i false = true
    · rw [if_pos hc]
      show Ev _ (gluedP (put o (i : Int) 1) (idxF m d (i + 1)))
      obtain ⟨g1, g2⟩ := put_in o (i : Int) 1 hq (by omega) (by omega) (by omega)
      have hend := end_put o (i : Int) 1
      refine Ev.step (fun k => ?_) (set_l0 m hm d (i + 1) (put o (i : Int) 1) (by omega) (by omega) g1 (fun _ _ => put_ne _ _ _) (fun p y hp => ?_))
      · simp only [wrackref1_Set.l0]
        rw [if_pos (by omega), if_pos (by omega), if_pos (by omega), rdB, if_pos hc, hu]
        by_cases hi0 : i = 0
        · subst hi0
          rw [if_neg (by omega), if_pos (by omega)]
          have : o = [] := List.eq_nil_of_length_eq_zero (by omega)
          subst this; rfl
        · rw [if_pos (by omega), show wrap64 ((i : Int) - 1) = ((i - 1 : Nat) : Int) by unfold wrap64; omega, if_pos (by omega), if_pos (by omega), rdB]
          by_cases hb : m.getD (i - 1) false = true
          · rw [if_pos hb]
            rcases last_of o with rfl | ⟨p, y, rfl⟩
            · exact absurd rfl (hne (by omega) hb)
            · have he := ((hl p y rfl).1).2 ⟨by omega, hb⟩
              have hy := hq y (by simp)
              unfold inS at hy
              simp only [List.length_append, List.length_singleton] at ho ⊢
              rw [show wrap64 (((p.length + 1 : Nat) : Int) - 1) = (p.length : Int) by unfold wrap64; omega, if_pos (by omega), if_pos (by omega), last_rd, last_set, put_join p y _ _ he, show wrap64 (y.f1 + 1) = y.f1 + 1 by unfold wrap64; omega]
          · rw [if_neg hb, if_pos (by omega)]
            rcases last_of o with rfl | ⟨p, y, rfl⟩
            · rfl
            · rw [put_new p y _ _ (fun he => hb (((hl p y rfl).1).1 he).2)]
      · rw [hp] at hend
        simp [endOf] at hend
        refine ⟨⟨fun _ => ⟨by omega, by rw [Nat.add_sub_cancel]; exact hc⟩, fun _ => by omega⟩, by omega⟩
    · rw [if_neg hc]
      refine Ev.step (fun k => ?_) (set_l0 m hm d (i + 1) o (by omega) (by omega) hq (fun _ h => absurd h (by rw [Nat.add_sub_cancel]; exact hc)) (fun p y hp => ?_))
      · simp only [wrackref1_Set.l0]
        rw [if_pos (by omega), if_pos (by omega), if_pos (by omega), rdB, if_neg hc, hu]
      · have := (hl p y hp).2
        refine ⟨⟨fun h => by omega, fun h => absurd h.2 (by rw [Nat.add_sub_cancel]; exact hc)⟩, by omega⟩
theorem set_ev (m : List Bool) (hm : m.length = 65536) : Ev (fun k => wrackref1_Set.f k m) (setP m) := by
  unfold setP
  have e := set_l0 m hm 65536 0 [] (by omega) (by simp) (by simp) (fun h => by omega) (fun p y hp => by simp at hp)
  rw [hm]
  exact e
theorem is_set (A : List S95) (S : Int → Prop) (m : List Bool) (hA : Sep A) (hS : ∀ i, memS A i ↔ S i) (hb : ∀ i, S i → 0 ≤ i ∧ i < 65536) (hm : Good m S) : setP m = A := by
  unfold setP
  obtain ⟨g1, g2⟩ := glued_go (idxF m m.length 0) [] Sep_nil (by simp) (idxF_order m _ _)
  refine Sep_eq _ _ g1 hA fun i => ?_
  rw [g2 i, hS i, mem_idxF]
  constructor
  · rintro (h | ⟨j, _, h2, h3, rfl⟩)
    · exact absurd h (memS_nil _)
    · exact (hm.2 j (by rw [hm.1] at h2; omega)).1 h3
  · intro h
    obtain ⟨h1, h2⟩ := hb i h
    obtain ⟨j, rfl⟩ := Int.eq_ofNat_of_zero_le h1
    exact Or.inr ⟨j, Nat.zero_le _, by rw [hm.1]; omega, (hm.2 j (by omega)).2 h, rfl⟩
theorem same_l0 (l : List S95) (hn : l.length ≤ 4611686018427387904) : ∀ (d i : Nat), i + d = l.length → Ev (fun k => wrackref1_SameSpans.l0 k l l (l.length : Int) (i : Int)) true
  | 0, i, hi => by
    refine Ev.step (f := fun _ => some _) (fun k => ?_) (Ev.now _)
    simp only [wrackref1_SameSpans.l0]
    rw [if_neg (by omega)]
  | d + 1, i, hi => by
    refine Ev.step (fun k => ?_) (same_l0 l hn d (i + 1) (by omega))
    simp only [wrackref1_SameSpans.l0]
    rw [if_pos (by omega), if_pos (by omega), if_pos (by omega), if_pos (by omega), if_neg (by simp), up i l.length (by omega) hn]
theorem same_ev (l : List S95) (hn : l.length ≤ 4611686018427387904) : Ev (fun k => wrackref1_SameSpans.f k l l) true := by
  refine Ev.congr (fun k => ?_) (same_l0 l hn l.length 0 (by omega))
  unfold wrackref1_SameSpans.f
  rw [if_pos rfl]; rfl
/-! what is in both -/
theorem meet_l0 (A B : List S95) (ha : A.length ≤ 4398046511104) (hb : B.length ≤ 4398046511104) (hA : ∀ x ∈ A, inS x) (hB : ∀ x ∈ B, inS x) : ∀ (d i j : Nat) (o : List S95), i + j + d = A.length + B.length → i ≤ A.length → j ≤ B.length → o.length ≤ i + j →
    Ev (fun k => span_Meet.l0 k A B o (i : Int) (j : Int)) (o ++ meetP (A.drop i) (B.drop j)) := by
  have stop : ∀ (i j : Nat) (o : List S95), i ≤ A.length → j ≤ B.length → ¬ (i < A.length ∧ j < B.length) → Ev (fun k => span_Meet.l0 k A B o (i : Int) (j : Int)) (o ++ meetP (A.drop i) (B.drop j)) := by
    intro i j o hi hj hn
    have hj1 : Ev (fun k => span_Meet.j1 k A B o (i : Int) (j : Int) false) (o ++ meetP (A.drop i) (B.drop j)) := by
      refine Ev.step (f := fun _ => some _) (fun k => ?_) (Ev.now _)
      simp only [span_Meet.j1]
      rw [if_neg (by decide)]
      by_cases h1 : i < A.length
      · rw [List.drop_of_length_le (l := B) (by omega), meetP_nil2, List.append_nil]
      · rw [List.drop_of_length_le (l := A) (by omega), meetP_nil, List.append_nil]
    refine Ev.step (fun k => ?_) hj1
    simp only [span_Meet.l0]
    by_cases h1 : i < A.length
    · rw [if_pos (by omega), decide_eq_false (by omega)]
    · rw [if_neg (by omega)]
  intro d
  induction d with
  | zero => intro i j o h hi hj ho; exact stop i j o hi hj (by omega)
  | succ d ih =>
    intro i j o h hi hj ho
    by_cases hc : i < A.length ∧ j < B.length
    · obtain ⟨h1, h2⟩ := hc
      have hx0 : inS (rd_T95 A (i : Int)) := hA _ (by unfold rd_T95; rw [Int.toNat_natCast, List.getD_eq_getElem?_getD, List.getElem?_eq_getElem h1]; simp)
      have hy0 : inS (rd_T95 B (j : Int)) := hB _ (by unfold rd_T95; rw [Int.toNat_natCast, List.getD_eq_getElem?_getD, List.getElem?_eq_getElem h2]; simp)
      have hda := drop_span A i h1
      have hdb := drop_span B j h2
      generalize hx : rd_T95 A (i : Int) = x at hx0 hda
      generalize hy : rd_T95 B (j : Int) = y at hy0 hdb
      unfold inS at hx0 hy0
      have ex : span_end.f x.f0 x.f1 = some (x.f0 + x.f1) := by unfold span_end.f; rw [show wrap64 (x.f0 + x.f1) = x.f0 + x.f1 by unfold wrap64; omega]
      have ey : span_end.f y.f0 y.f1 = some (y.f0 + y.f1) := by unfold span_end.f; rw [show wrap64 (y.f0 + y.f1) = y.f0 + y.f1 by unfold wrap64; omega]
      have hm : meetP (A.drop i) (B.drop j) = (if max x.f0 y.f0 < min (x.f0 + x.f1) (y.f0 + y.f1) then [(⟨max x.f0 y.f0, min (x.f0 + x.f1) (y.f0 + y.f1) - max x.f0 y.f0⟩ : S95)] else []) ++ (if x.f0 + x.f1 < y.f0 + y.f1 then meetP (A.drop (i + 1)) (B.drop j) else meetP (A.drop i) (B.drop (j + 1))) := by
        rw [hda, hdb]; conv => lhs; unfold meetP
      have hj2 : ∀ o' : List S95, o'.length ≤ i + j + 1 → Ev (fun k => span_Meet.j2 k A B o' (i : Int) (j : Int)) (o' ++ (if x.f0 + x.f1 < y.f0 + y.f1 then meetP (A.drop (i + 1)) (B.drop j) else meetP (A.drop i) (B.drop (j + 1)))) := by
        intro o' ho'
        by_cases hlt : x.f0 + x.f1 < y.f0 + y.f1
        · rw [if_pos hlt]
          refine Ev.step (fun k => ?_) (ih (i + 1) j o' (by omega) (by omega) hj (by omega))
          simp only [span_Meet.j2]
          rw [if_pos (by omega), if_pos (by omega), hx, ex, Option.bind_some, if_pos (by omega), if_pos (by omega), hy, ey, Option.bind_some, if_pos hlt, up i A.length h1 (by omega)]
        · rw [if_neg hlt]
          refine Ev.step (fun k => ?_) (ih i (j + 1) o' (by omega) hi (by omega) (by omega))
          simp only [span_Meet.j2]
          rw [if_pos (by omega), if_pos (by omega), hx, ex, Option.bind_some, if_pos (by omega), if_pos (by omega), hy, ey, Option.bind_some, if_neg hlt, up j B.length h2 (by omega)]
      have hmx : mx x.f0 y.f0 = max x.f0 y.f0 := by unfold mx; split <;> omega
      have hmn : mn (x.f0 + x.f1) (y.f0 + y.f1) = min (x.f0 + x.f1) (y.f0 + y.f1) := by unfold mn; split <;> omega
      have hj1 : Ev (fun k => span_Meet.j1 k A B o (i : Int) (j : Int) true) (o ++ meetP (A.drop i) (B.drop j)) := by
        rw [hm, ← List.append_assoc]
        by_cases hp : max x.f0 y.f0 < min (x.f0 + x.f1) (y.f0 + y.f1)
        · rw [if_pos hp]
          refine Ev.step (fun k => ?_) (hj2 (o ++ [⟨max x.f0 y.f0, min (x.f0 + x.f1) (y.f0 + y.f1) - max x.f0 y.f0⟩]) (by simp; omega))
          simp only [span_Meet.j1]
          rw [if_pos True.intro, if_pos (by omega), if_pos (by omega), if_pos (by omega), if_pos (by omega), hx, hy, ex, Option.bind_some, ey, Option.bind_some, hmx, hmn, if_pos hp, if_pos (by omega),
            show wrap64 (min (x.f0 + x.f1) (y.f0 + y.f1) - max x.f0 y.f0) = min (x.f0 + x.f1) (y.f0 + y.f1) - max x.f0 y.f0 by unfold wrap64; omega]
        · rw [if_neg hp, List.append_nil]
          refine Ev.step (fun k => ?_) (hj2 o (by omega))
          simp only [span_Meet.j1]
          rw [if_pos True.intro, if_pos (by omega), if_pos (by omega), if_pos (by omega), if_pos (by omega), hx, hy, ex, Option.bind_some, ey, Option.bind_some, hmx, hmn, if_neg hp]
      refine Ev.step (fun k => ?_) hj1
      simp only [span_Meet.l0]
      rw [if_pos (by omega), decide_eq_true (by omega)]
    · exact stop i j o hi hj hc
theorem meet_ev (a b : List S95) (ha : a.length ≤ 4398046511104) (hb : b.length ≤ 4398046511104) : Ev (fun k => span_Meet.f k a b) (meetP (normP a) (normP b)) := by
  obtain ⟨_, _, a3, a4⟩ := norm_facts a
  obtain ⟨_, _, b3, b4⟩ := norm_facts b
  unfold span_Meet.f
  refine Ev.bind (norm_ev a (by omega)) ?_
  refine Ev.bind (norm_ev b (by omega)) ?_
  have e := meet_l0 (normP a) (normP b) (by omega) (by omega) a3 b3 ((normP a).length + (normP b).length) 0 0 [] (by omega) (by omega) (by omega) (by simp)
  rw [List.drop_zero, List.drop_zero, List.nil_append] at e
  exact e
theorem meet_set (a b : List S95) : Sep (meetP (normP a) (normP b)) ∧ ∀ i, memS (meetP (normP a) (normP b)) i ↔ memS (oks a) i ∧ memS (oks b) i := by
  obtain ⟨a1, a2, _, _⟩ := norm_facts a
  obtain ⟨b1, b2, _, _⟩ := norm_facts b
  obtain ⟨g1, g2⟩ := meet_all _ (normP a) (normP b) rfl a1 b1
  exact ⟨g1, fun i => by rw [g2 i, a2 i, b2 i]⟩
/-! what is in one and not in the other -/
def restP : Int → List S95 → List S95
  | at_, [] => [⟨at_, 65536 - at_⟩]
  | at_, s :: B => ⟨at_, s.f0 - at_⟩ :: restP (s.f0 + s.f1) B
theorem restP_len : ∀ (B : List S95) (p : Int), (restP p B).length = B.length + 1
  | [], p => rfl
  | s :: B, p => by simp [restP, restP_len B]
theorem rest_mem : ∀ (B : List S95) (p : Int), 0 ≤ p → p ≤ 65536 → Sep B → (∀ x ∈ B, inS x) → (∀ x ∈ B, p ≤ x.f0) → ∀ i, memS (oks (restP p B)) i ↔ p ≤ i ∧ i < 65536 ∧ ¬ memS B i
  | [], p, h0, h1, _, _, _, i => by
    unfold restP
    rw [oks_cons]
    show memS ((if okS ⟨p, 65536 - p⟩ then [⟨p, 65536 - p⟩] else []) ++ []) i ↔ _
    rw [List.append_nil]
    have hn := memS_nil i
    by_cases hk : okS ⟨p, 65536 - p⟩
    · rw [if_pos hk, memS_one]; simp only
      exact ⟨fun h => ⟨h.1, by omega, hn⟩, fun h => ⟨h.1, by omega⟩⟩
    · rw [if_neg hk]
      unfold okS at hk
      simp only at hk
      exact ⟨fun h => absurd h hn, fun h => by omega⟩
  | s :: B, p, h0, h1, hS, hI, hp, i => by
    obtain ⟨s1, s2, s3⟩ := Sep_cons.1 hS
    have hs := hI s (by simp)
    have hps := hp s (by simp)
    unfold inS at hs
    have ih := rest_mem B (s.f0 + s.f1) (by omega) (by omega) s3 (fun x hx => hI x (by simp [hx])) (fun x hx => by have := s2 x hx; omega) i
    have hlow : ∀ j, memS B j → s.f0 + s.f1 < j := fun j ⟨x, hx, h2, _⟩ => by have := s2 x hx; omega
    unfold restP
    rw [oks_cons, memS_app, ih, memS_cons]
    by_cases hk : okS ⟨p, s.f0 - p⟩
    · rw [if_pos hk, memS_one]; simp only
      constructor
      · rintro (h | ⟨h2, h3, h4⟩)
        · exact ⟨by omega, by omega, fun h5 => h5.elim (fun h6 => by omega) (fun h6 => by have := hlow i h6; omega)⟩
        · exact ⟨by omega, h3, fun h5 => h5.elim (fun h6 => by omega) h4⟩
      · rintro ⟨h2, h3, h4⟩
        by_cases h5 : i < s.f0
        · exact Or.inl (by omega)
        · exact Or.inr ⟨by have : ¬ (s.f0 ≤ i ∧ i < s.f0 + s.f1) := fun h => h4 (Or.inl h); omega, h3, fun h => h4 (Or.inr h)⟩
    · rw [if_neg hk]
      unfold okS at hk
      simp only at hk
      constructor
      · rintro (h | ⟨h2, h3, h4⟩)
        · exact absurd h (memS_nil i)
        · exact ⟨by omega, h3, fun h5 => h5.elim (fun h6 => by omega) h4⟩
      · rintro ⟨h2, h3, h4⟩
        exact Or.inr ⟨by have : ¬ (s.f0 ≤ i ∧ i < s.f0 + s.f1) := fun h => h4 (Or.inl h); omega, h3, fun h => h4 (Or.inr h)⟩
theorem less_l0 (a B : List S95) (ha : a.length ≤ 4398046511104) (hb : B.length ≤ 2199023255552) (hB : ∀ x ∈ B, inS x) (all : List S95) (hall : all.length ≤ 4398046511104) : ∀ (d i : Nat) (p : Int) (o : List S95), i + d = B.length → o.length ≤ i → 0 ≤ p → p ≤ 65536 → o ++ restP p (B.drop i) = all →
    Ev (fun k => span_Less.l0 k a o p B (B.length : Int) (i : Int)) (meetP (normP a) (normP all))
  | 0, i, p, o, hi, ho, h0, h1, he => by
    rw [List.drop_of_length_le (by omega)] at he
    refine Ev.step (f := fun k => (span_Meet.f k a all).bind fun t => some t) (fun k => ?_) (Ev.bind (f := fun _ t => some t) (meet_ev a all ha hall) (Ev.now _))
    simp only [span_Less.l0]
    rw [if_neg (by omega), if_pos (by omega), show wrap64 (65536 - p) = 65536 - p by unfold wrap64; omega, ← he]; rfl
  | d + 1, i, p, o, hi, ho, h0, h1, he => by
    have hx0 : inS (rd_T95 B (i : Int)) := hB _ (by unfold rd_T95; rw [Int.toNat_natCast, List.getD_eq_getElem?_getD, List.getElem?_eq_getElem (by omega)]; simp)
    rw [drop_span B i (by omega)] at he
    generalize hx : rd_T95 B (i : Int) = x at hx0 he
    unfold inS at hx0
    unfold restP at he
    refine Ev.step (fun k => ?_) (less_l0 a B ha hb hB all hall d (i + 1) (x.f0 + x.f1) (o ++ [⟨p, x.f0 - p⟩]) (by omega) (by simp; omega) (by omega) (by omega) (by rw [List.append_assoc]; exact he))
    simp only [span_Less.l0]
    rw [if_pos (by omega), if_pos (by omega), if_pos (by omega), if_pos (by omega), hx]
    unfold span_end.f
    rw [Option.bind_some, show wrap64 (x.f0 + x.f1) = x.f0 + x.f1 by unfold wrap64; omega, show wrap64 (x.f0 - p) = x.f0 - p by unfold wrap64; omega, up i B.length (by omega) (by omega)]
theorem less_ev (a b : List S95) (ha : a.length ≤ 4398046511104) (hb : b.length ≤ 2199023255552) : Ev (fun k => span_Less.f k a b) (meetP (normP a) (normP (restP 0 (normP b)))) := by
  obtain ⟨_, _, b3, b4⟩ := norm_facts b
  unfold span_Less.f
  refine Ev.bind (norm_ev b (by omega)) ?_
  exact less_l0 a (normP b) ha (by omega) b3 _ (by rw [restP_len]; omega) (normP b).length 0 0 [] (by omega) (by simp) (by omega) (by omega) (by rw [List.drop_zero]; rfl)
theorem less_set (a b : List S95) : ∀ i, memS (meetP (normP a) (normP (restP 0 (normP b)))) i ↔ memS (oks a) i ∧ ¬ memS (oks b) i := by
  intro i
  obtain ⟨b1, b2, b3, _⟩ := norm_facts b
  rw [(meet_set a (restP 0 (normP b))).2 i, rest_mem (normP b) 0 (by omega) (by omega) b1 b3 (fun x hx => (b3 x hx).1) i, b2 i]
  exact ⟨fun ⟨h1, h2⟩ => ⟨h1, h2.2.2⟩, fun ⟨h1, h2⟩ => ⟨h1, (mem_oks a i h1).1, (mem_oks a i h1).2, h2⟩⟩
/-! the statement -/
theorem check_val (s0 s1 : Int) : span_Check.f s0 s1 = some (if 0 ≤ s0 ∧ 0 ≤ s1 ∧ s0 + s1 ≤ 65536 then 0 else 4) := by
  have hw : ∀ y : Int, 0 ≤ y → y ≤ 65536 → wrap64 (65536 - y) = 65536 - y := fun y h0 h1 => by unfold wrap64; omega
  unfold span_Check.f
  by_cases h1 : 0 ≤ s1 ∧ s1 ≤ 65536
  · rw [hw s1 h1.1 h1.2]
    repeat' split
    all_goals first | rfl | omega
  · repeat' split
    all_goals first | rfl | omega
theorem main_l0 (a b : List S95) (ha : a.length ≤ 1048576) (hb : b.length ≤ 1048576) (s0 s1 : Int) (x y : List Bool) (hx : Good x (memS (oks a))) (hy : Good y (memS (oks b))) : ∀ (d i : Nat) (e m l : List Bool), i + d = 65536 →
    e.length = 65536 → m.length = 65536 → l.length = 65536 →
    (∀ j, j < i → e.getD j false = (x.getD j false || y.getD j false) ∧ m.getD j false = (x.getD j false && y.getD j false) ∧ l.getD j false = (x.getD j false && !(y.getD j false))) →
    Ev (fun k => wracklaw1_SpanSets.l0 k a b (if 0 ≤ s0 ∧ 0 ≤ s1 ∧ s0 + s1 ≤ 65536 then 0 else 4) x y e m l (65536 : Int) (i : Int) s0 s1) true
  | 0, i, e, m, l, hi, he, hm, hl, hj => by
    have hgx : ∀ j : Nat, j < 65536 → (x.getD j false = true ↔ memS (oks a) (j : Int)) := hx.2
    have hgy : ∀ j : Nat, j < 65536 → (y.getD j false = true ↔ memS (oks b) (j : Int)) := hy.2
    have ge : Good e (memS (oks (a ++ b))) := ⟨he, fun j hj2 => by rw [(hj j (by omega)).1, Bool.or_eq_true, hgx j hj2, hgy j hj2, oks_app, memS_app]⟩
    have gm : Good m (fun i => memS (oks a) i ∧ memS (oks b) i) := ⟨hm, fun j hj2 => by rw [(hj j (by omega)).2.1, Bool.and_eq_true, hgx j hj2, hgy j hj2]⟩
    have gl : Good l (fun i => memS (oks a) i ∧ ¬ memS (oks b) i) := ⟨hl, fun j hj2 => by rw [(hj j (by omega)).2.2, Bool.and_eq_true, hgx j hj2, Bool.not_eq_true', ← Bool.not_eq_true, hgy j hj2]⟩
    obtain ⟨a1, a2, _, a4⟩ := norm_facts a
    obtain ⟨c1, c2, _, c4⟩ := norm_facts (a ++ b)
    have ex := is_set (normP a) _ x a1 a2 (mem_oks a) hx
    have ee := is_set (normP (a ++ b)) _ e c1 c2 (mem_oks (a ++ b)) ge
    have em := is_set (meetP (normP a) (normP b)) _ m (meet_set a b).1 (meet_set a b).2 (fun i h => mem_oks a i h.1) gm
    have el := is_set (meetP (normP a) (normP (restP 0 (normP b)))) _ l (meet_set a _).1 (less_set a b) (fun i h => mem_oks a i h.1) gl
    have sx := set_ev x hx.1
    have se := set_ev e he
    have sm := set_ev m hm
    have sl := set_ev l hl
    rw [ex] at sx
    rw [ee] at se
    rw [em] at sm
    rw [el] at sl
    have short : ∀ (q : List Bool), q.length = 65536 → (setP q).length ≤ 65536 := by
      intro q hq
      have glen : ∀ (z : List Int) (o : List S95), (gluedP o z).length ≤ o.length + z.length := by
        intro z
        induction z with
        | nil => intro o; simp [gluedP]
        | cons v z ih =>
          intro o
          have h : (put o v 1).length ≤ o.length + 1 := by
            rcases last_of o with rfl | ⟨p, y, rfl⟩
            · simp [put_nil]
            · by_cases hj : y.f0 + y.f1 = v
              · rw [put_join p y v 1 hj]; simp
              · rw [put_new p y v 1 hj]; simp
          have := ih (put o v 1)
          show (gluedP (put o v 1) z).length ≤ _
          simp only [List.length_cons]; omega
      have ilen : ∀ (d i : Nat), (idxF q d i).length ≤ d := by
        intro d
        induction d with
        | zero => intro i; simp [idxF]
        | succ d ih => intro i; unfold idxF; have := ih (i + 1); rw [List.length_append]; split <;> simp <;> omega
      have h1 := glen (idxF q q.length 0) []
      have h2 := ilen q.length 0
      unfold setP
      simp at h1
      omega
    have q1 := same_ev (normP a) (by omega)
    have q2 := same_ev (normP (a ++ b)) (by rw [List.length_append] at c4; omega)
    have q3 := same_ev (meetP (normP a) (normP b)) (by rw [← em]; have := short m hm; omega)
    have q4 := same_ev (meetP (normP a) (normP (restP 0 (normP b)))) (by rw [← el]; have := short l hl; omega)
    refine Ev.step (f := fun k => (span_Norm.f k a).bind fun t220 => ((wrackref1_Set.f k x).bind fun t223 => ((wrackref1_SameSpans.f k t220 t223).bind fun t226 => (if t226 = true then ((span_Join.f k a b).bind fun t227 => ((wrackref1_Set.f k e).bind fun t230 => ((wrackref1_SameSpans.f k t227 t230).bind fun t233 => (if t233 = true then ((span_Meet.f k a b).bind fun t234 => ((wrackref1_Set.f k m).bind fun t237 => ((wrackref1_SameSpans.f k t234 t237).bind fun t240 => (if t240 = true then ((span_Less.f k a b).bind fun t241 => ((wrackref1_Set.f k l).bind fun t244 => ((wrackref1_SameSpans.f k t241 t244).bind fun t247 => (some t247)))) else (some false))))) else (some false))))) else (some false))))) (fun k => ?_) ?_
    · simp only [wracklaw1_SpanSets.l0]
      rw [if_neg (by omega)]
      unfold wracklaw1_spans.f
      rw [Option.bind_some, if_pos rfl, check_val, Option.bind_some, if_pos rfl]
    · refine Ev.bind (norm_ev a (by omega)) ?_
      refine Ev.bind sx ?_
      refine Ev.bind q1 ?_
      refine Ev.congr (fun k => if_pos rfl) ?_
      refine Ev.bind (join_ev a b (by omega)) ?_
      refine Ev.bind se ?_
      refine Ev.bind q2 ?_
      refine Ev.congr (fun k => if_pos rfl) ?_
      refine Ev.bind (meet_ev a b (by omega) (by omega)) ?_
      refine Ev.bind sm ?_
      refine Ev.bind q3 ?_
      refine Ev.congr (fun k => if_pos rfl) ?_
      refine Ev.bind (less_ev a b (by omega) (by omega)) ?_
      refine Ev.bind sl ?_
      exact Ev.bind q4 (Ev.now true)
  | d + 1, i, e, m, l, hi, he, hm, hl, hj => by
    have hx1 := hx.1
    have hy1 := hy.1
    have hu := up i 65536 (by omega) (by omega)
    have set3 : ∀ (u v w : Bool), u = (x.getD i false || y.getD i false) → v = (x.getD i false && y.getD i false) → w = (x.getD i false && !(y.getD i false)) →
        ∀ j, j < i + 1 → (e.set i u).getD j false = (x.getD j false || y.getD j false) ∧ (m.set i v).getD j false = (x.getD j false && y.getD j false) ∧ (l.set i w).getD j false = (x.getD j false && !(y.getD j false)) := by
      intro u v w hu2 hv hw j hj2
      rw [getD_set _ _ _ _ (by omega), getD_set _ _ _ _ (by omega), getD_set _ _ _ _ (by omega)]
      by_cases h : i = j
      · subst h; rw [if_pos rfl, if_pos rfl, if_pos rfl]; exact ⟨hu2, hv, hw⟩
      · rw [if_neg h, if_neg h, if_neg h]; exact hj j (by omega)
    by_cases hc : x.getD i false = true
    · refine Ev.step (fun k => ?_) (main_l0 a b ha hb s0 s1 x y hx hy d (i + 1) (e.set i true) (m.set i (y.getD i false)) (l.set i (!(y.getD i false))) (by omega) (by rw [List.length_set]; exact he) (by rw [List.length_set]; exact hm) (by rw [List.length_set]; exact hl)
        (set3 _ _ _ (by rw [hc]; rfl) (by rw [hc]; rfl) (by rw [hc]; rfl)))
      simp only [wracklaw1_SpanSets.l0]
      rw [if_pos (by omega), if_pos (by omega), if_pos (by omega), rdB, rdB, if_pos hc, if_pos (by omega), if_pos (by omega), if_pos (by omega), if_pos (by omega), hu, Int.toNat_natCast]
    · have hc' := Bool.eq_false_iff.2 hc
      refine Ev.step (fun k => ?_) (main_l0 a b ha hb s0 s1 x y hx hy d (i + 1) (e.set i (y.getD i false)) (m.set i false) (l.set i false) (by omega) (by rw [List.length_set]; exact he) (by rw [List.length_set]; exact hm) (by rw [List.length_set]; exact hl)
        (set3 _ _ _ (by rw [hc']; rfl) (by rw [hc']; rfl) (by rw [hc']; rfl)))
      simp only [wracklaw1_SpanSets.l0]
      rw [if_pos (by omega), if_pos (by omega), if_pos (by omega), rdB, rdB, if_neg hc, if_pos (by omega), if_pos (by omega), if_pos (by omega), if_pos (by omega), hu, Int.toNat_natCast]
theorem SpanSets (s0 s1 : Int) (a b : List S95) (ha : a.length ≤ 1048576) (hb : b.length ≤ 1048576) : ∃ k, wracklaw1_SpanSets.f k s0 s1 a b = some true := by
  apply Ev.rounds
  obtain ⟨x, hx, mx⟩ := marks_ev a (by omega)
  obtain ⟨y, hy, my⟩ := marks_ev b (by omega)
  have hx1 := hx.1
  have hj : Ev (fun k => wracklaw1_SpanSets.j0 k a b (if 0 ≤ s0 ∧ 0 ≤ s1 ∧ s0 + s1 ≤ 65536 then 0 else 4) s0 s1) true := by
    refine Ev.step (f := fun k => (wrackref1_Marks.f k a).bind fun t189 => ((wrackref1_Marks.f k b).bind fun t192 => (if 0 ≤ (t189.length : Int) then (if ((t189.length : Int) : Int).toNat ≤ 281474976710656 then (wracklaw1_SpanSets.l0 k a b (if 0 ≤ s0 ∧ 0 ≤ s1 ∧ s0 + s1 ≤ 65536 then 0 else 4) t189 t192 (List.replicate ((t189.length : Int) : Int).toNat false) (List.replicate ((t189.length : Int) : Int).toNat false) (List.replicate ((t189.length : Int) : Int).toNat false) (t189.length : Int) 0 s0 s1) else (none)) else (none)))) (fun k => rfl) ?_
    refine Ev.bind mx ?_
    refine Ev.bind my ?_
    refine Ev.congr (fun k => by rw [if_pos (by omega), hx1, if_pos (by decide)]) ?_
    exact main_l0 a b ha hb s0 s1 x y hx hy 65536 0 _ _ _ (by omega) List.length_replicate List.length_replicate List.length_replicate (fun j h => by omega)
  have hr := right_val ⟨s0, s1⟩
  simp only at hr
  unfold wracklaw1_SpanSets.f
  refine Ev.congr (fun k => ?_) hj
  rw [hr, Option.bind_some]
  by_cases h : 0 ≤ s0 ∧ 0 ≤ s1 ∧ s0 + s1 ≤ 65536
  · rw [decide_eq_true h, if_pos rfl, if_pos h]
  · rw [decide_eq_false h, if_neg (by decide), if_neg h]
end Go.Proofs.Ytdgkbpoljcndgaa.Pure
