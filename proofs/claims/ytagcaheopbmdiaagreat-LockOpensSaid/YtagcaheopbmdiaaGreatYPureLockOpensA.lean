/- Sources: what they say, in plain Lean. No condition. -/
import Derived.Test.YtagcaheopbmdiaaGreatYSumTreePlain
import Derived.Test.YtagcaheopbmdiaaGreatYQLockOpensx1
import Derived.Test.YtagcaheopbmdiaaGreatYQLockOpensx2
import Derived.Test.YtagcaheopbmdiaaGreatYQLockOpensx3
import Derived.Test.YtagcaheopbmdiaaGreatYQLockOpensx4
import Derived.Test.YtagcaheopbmdiaaGreatYQLockOpensx5
import Derived.Test.YtagcaheopbmdiaaGreatYQLockOpensx6
import Derived.Test.YtagcaheopbmdiaaGreatYQLockOpensx7
import Derived.Test.YtagcaheopbmdiaaGreatYQLockOpensx8
import Derived.Test.YtagcaheopbmdiaaGreatYQLockOpensx9
import Derived.Test.YtagcaheopbmdiaaGreatYQLockOpensx10
import Derived.Test.YtagcaheopbmdiaaGreatYQLockOpensx11
import Derived.Test.YtagcaheopbmdiaaGreatYQLockOpensx12
import Derived.Test.YtagcaheopbmdiaaGreatYQLockOpensx13
import Derived.Test.YtagcaheopbmdiaaGreatYQLockOpensx14
import Derived.WalkLawsBesides
import Derived.LoopN
namespace Go.Proofs.YtagcaheopbmdiaaGreat.Pure
open Go Go.RowKit Go.Maps Go.Proofs.YtagcaheopbmdiaaGreat.QLockOpens Go.Proofs.YtagcaheopbmdiaaGreatW.PrintWords Go.Proofs.YtagcaheopbmdiaaGreatW.PrintLast Go.Proofs.YtagcaheopbmdiaaGreatW.PrintMore
set_option linter.unusedVariables false
set_option linter.unusedSimpArgs false
theorem q0zf : type_of% @decide_eq_false := @decide_eq_false
/-- a right span that is not empty -/
def okS (x : S52) : Prop := 0 ≤ x.f0 ∧ 0 < x.f1 ∧ x.f0 + x.f1 ≤ 65536
instance (x : S52) : Decidable (okS x) := by unfold okS; exact inferInstance
theorem good_val (x : S52) : span_good.f x.f0 x.f1 = some (decide (okS x)) := by
 have hw : ∀ y : Int, 0 ≤ y → y ≤ 65536 → wrap64 (65536 - y) = 65536 - y := fun y h0 h1 => by unfold wrap64; omega
 have h : span_Check.f x.f0 x.f1 = some (if 0 ≤ x.f0 ∧ 0 ≤ x.f1 ∧ x.f0 + x.f1 ≤ 65536 then 0 else 4) := by
  unfold span_Check.f
  by_cases h1 : 0 ≤ x.f1 ∧ x.f1 ≤ 65536
  ·
   rw [hw x.f1 h1.1 h1.2]
   repeat' split
   all_goals first | rfl | omega
  ·
   repeat' split
   all_goals first | rfl | omega
 unfold span_good.f okS
 rw [h, Option.bind_some]
 by_cases hc : 0 ≤ x.f0 ∧ 0 ≤ x.f1 ∧ x.f0 + x.f1 ≤ 65536
 ·
  rw [if_pos hc, if_pos rfl]
  congr 1
  exact decide_eq_decide.2 ⟨fun h => by omega, fun h => by omega⟩
 ·
  rw [if_neg hc, if_neg (by decide)]
  congr 1
  exact (q0zf (by omega)).symm
/-- the bytes of a span -/
def bytesS (x : S52) : List Int := (List.range x.f1.toNat).map fun (i : Nat) => x.f0 + (i : Int)
def laid (l : List S52) : List Int := (l.filter fun x => decide (okS x)).flatMap bytesS
/-- a span put behind others: joined, if it touches the last one -/
def put (o : List S52) (x n : Int) : List S52 := match o.getLast? with
 | some y => if y.f0 + y.f1 = x then o.dropLast ++ [⟨y.f0, y.f1 + n⟩] else o ++ [⟨x, n⟩]
 | none => [⟨x, n⟩]
theorem put_nil (x n : Int) : put [] x n = [⟨x, n⟩] := rfl
theorem put_join (o : List S52) (y : S52) (x n : Int) (h : y.f0 + y.f1 = x) : put (o ++ [y]) x n = o ++ [⟨y.f0, y.f1 + n⟩] := by simp [put, h]
theorem put_new (o : List S52) (y : S52) (x n : Int) (h : ¬ y.f0 + y.f1 = x) : put (o ++ [y]) x n = o ++ [y] ++ [⟨x, n⟩] := by simp [put, h]
theorem last_of (o : List S52) : o = [] ∨ ∃ p y, o = p ++ [y] := by
 by_cases h : o = []
 · exact Or.inl h
 · exact Or.inr ⟨o.dropLast, o.getLast h, (List.dropLast_concat_getLast h).symm⟩
theorem put_put (o : List S52) (x n : Int) : put (put o x n) (x + n) 1 = put o x (n + 1) := by
 rcases last_of o with rfl | ⟨p, y, rfl⟩
 · rw [put_nil, put_nil]; exact put_join [] ⟨x, n⟩ _ 1 rfl
 ·
  by_cases h : y.f0 + y.f1 = x
  ·
   rw [put_join p y x n h, put_join p y x (n + 1) h, put_join p _ _ 1 (by show y.f0 + (y.f1 + n) = _; omega)]
   simp only [List.append_cancel_left_eq, List.cons.injEq, S52.mk.injEq, and_true,true_and]; omega
  · rw [put_new p y x n h, put_new p y x (n + 1) h, put_join (p ++ [y]) ⟨x, n⟩ _ 1 rfl]
theorem put_ne (o : List S52) (x n : Int) : put o x n ≠ [] := by
 rcases last_of o with rfl | ⟨p, y, rfl⟩
 · simp [put]
 ·
  by_cases h : y.f0 + y.f1 = x
  · rw [put_join p y x n h]; simp
  · rw [put_new p y x n h]; simp
/-- the end of the last one -/
def endOf (o : List S52) : Option Int := o.getLast?.map fun y => y.f0 + y.f1
theorem end_put (o : List S52) (x n : Int) : endOf (put o x n) = some (x + n) := by
 rcases last_of o with rfl | ⟨p, y, rfl⟩
 · rw [put_nil]; rfl
 ·
  by_cases h : y.f0 + y.f1 = x
  · rw [put_join p y x n h]; simp [endOf]; omega
  · rw [put_new p y x n h]; simp [endOf]
theorem range_bytes (a : Int) : ∀ (n : Nat), bytesS ⟨a, (n + 1 : Nat)⟩ = bytesS ⟨a, (n : Nat)⟩ ++ [a + (n : Int)] := by
 intro n; simp [bytesS, List.range_succ]
theorem put_bytes (o : List S52) (a : Int) : ∀ (n : Nat), (bytesS ⟨a, ((n + 1 : Nat) : Int)⟩).foldl (fun o b => put o b 1) o = put o a ((n + 1 : Nat) : Int)
 | 0 => by simp [bytesS, List.range_succ]
 | n + 1 => by
  rw [range_bytes, List.foldl_append, put_bytes o a n]
  show put (put o a _) (a + ((n + 1 : Nat) : Int)) 1 = _
  rw [put_put]; rfl
theorem bytes_of (x : S52) (h : 0 < x.f1) (o : List S52) : (bytesS x).foldl (fun o b => put o b 1) o = put o x.f0 x.f1 := by
 obtain ⟨a, n⟩ := x
 simp only at h
 obtain ⟨m, rfl⟩ : ∃ m : Nat, n = ((m + 1 : Nat) : Int) := ⟨(n - 1).toNat, by omega⟩
 exact put_bytes o a m
/-- spans glued -/
def glueP (o : List S52) : List S52 → List S52
 | [] => o
 | x :: l => glueP (if okS x then put o x.f0 x.f1 else o) l
def gluedP (o : List S52) (l : List Int) : List S52 := l.foldl (fun o b => put o b 1) o
theorem laid_nil : laid [] = [] := rfl
theorem laid_ok (x : S52) (l : List S52) (h : okS x) : laid (x :: l) = bytesS x ++ laid l := by simp [laid, h]
theorem laid_no (x : S52) (l : List S52) (h : ¬ okS x) : laid (x :: l) = laid l := by simp [laid, h]
theorem glue_laid (l : List S52) : ∀ o, glueP o l = gluedP o (laid l) := by
 induction l with
 | nil => intro o; rfl
 | cons x l ih =>
  intro o
  unfold glueP
  by_cases h : okS x
  ·
   rw [if_pos h, laid_ok x l h, ih]
   unfold gluedP
   rw [List.foldl_append, bytes_of x h.2.1]
  · rw [if_neg h, laid_no x l h, ih]
theorem bytes_len (x : S52) : (bytesS x).length = x.f1.toNat := by simp [bytesS]
theorem laid_app (a b : List S52) : laid (a ++ b) = laid a ++ laid b := by simp [laid]
theorem laid_one (x : S52) (h : okS x) : laid [x] = bytesS x := by simp [laid, h]
theorem mem_laid (l : List S52) (b : Int) : b ∈ laid l ↔ ∃ x ∈ l, okS x ∧ x.f0 ≤ b ∧ b < x.f0 + x.f1 := by
 unfold laid
 simp only [List.mem_flatMap, List.mem_filter, decide_eq_true_eq, bytesS, List.mem_map, List.mem_range]
 constructor
 · rintro ⟨x, ⟨hx, hk⟩, i, hi, rfl⟩; exact ⟨x, hx, hk, by omega, by omega⟩
 · rintro ⟨x, hx, hk, h1, h2⟩; exact ⟨x, ⟨hx, hk⟩, (b - x.f0).toNat, by omega, by omega⟩
def memS (l : List S52) (b : Int) : Prop := ∃ x ∈ l, x.f0 ≤ b ∧ b < x.f0 + x.f1
/-- apart and in order -/
def Sep (l : List S52) : Prop := (∀ x ∈ l, 0 < x.f1) ∧ l.Pairwise (fun x y => x.f0 + x.f1 < y.f0)
theorem memS_app (a b : List S52) (i : Int) : memS (a ++ b) i ↔ memS a i ∨ memS b i := by
 unfold memS
 constructor
 ·
  rintro ⟨x, hx, h⟩
  rcases List.mem_append.1 hx with h1 | h1
  · exact Or.inl ⟨x, h1, h⟩
  · exact Or.inr ⟨x, h1, h⟩
 ·
  rintro (⟨x, hx, h⟩ | ⟨x, hx, h⟩)
  · exact ⟨x, List.mem_append_left _ hx, h⟩
  · exact ⟨x, List.mem_append_right _ hx, h⟩
theorem memS_one (x : S52) (i : Int) : memS [x] i ↔ x.f0 ≤ i ∧ i < x.f0 + x.f1 := by simp [memS]
theorem memS_nil (i : Int) : ¬ memS [] i := by simp [memS]
theorem memS_cons (x : S52) (l : List S52) (i : Int) : memS (x :: l) i ↔ (x.f0 ≤ i ∧ i < x.f0 + x.f1) ∨ memS l i := by simp [memS]
theorem Sep_nil : Sep [] := ⟨by simp, List.Pairwise.nil⟩
theorem Sep_cons {x : S52} {l : List S52} : Sep (x :: l) ↔ 0 < x.f1 ∧ (∀ y ∈ l, x.f0 + x.f1 < y.f0) ∧ Sep l := by
 unfold Sep
 rw [List.pairwise_cons]
 constructor
 ·
  rintro ⟨h1, h2, h3⟩
  exact ⟨h1 x (by simp), h2, fun y hy => h1 y (by simp [hy]), h3⟩
 ·
  rintro ⟨h1, h2, h3, h4⟩
  exact ⟨fun y hy => (List.mem_cons.1 hy).elim (fun h => h ▸ h1) (h3 y), h2, h4⟩
theorem Sep_app {a b : List S52} : Sep (a ++ b) ↔ Sep a ∧ Sep b ∧ ∀ x ∈ a, ∀ y ∈ b, x.f0 + x.f1 < y.f0 := by
 unfold Sep
 rw [List.pairwise_append]
 constructor
 ·
  rintro ⟨h1, h2, h3, h4⟩
  exact ⟨⟨fun x hx => h1 x (List.mem_append_left _ hx), h2⟩, ⟨fun x hx => h1 x (List.mem_append_right _ hx), h3⟩, h4⟩
 ·
  rintro ⟨⟨h1, h2⟩, ⟨h3, h4⟩, h5⟩
  exact ⟨fun x hx => (List.mem_append.1 hx).elim (h1 x) (h3 x), h2, h4, h5⟩
theorem Sep_one {x : S52} : Sep [x] ↔ 0 < x.f1 := by simp [Sep_cons, Sep_nil]
/-- a span joined to those that are there -/
def mstep (o : List S52) (s : S52) : List S52 := match o.getLast? with
 | some y => if s.f0 ≤ y.f0 + y.f1 then o.dropLast ++ [⟨y.f0, max (y.f0 + y.f1) (s.f0 + s.f1) - y.f0⟩] else o ++ [s]
 | none => [s]
def mergeP (o : List S52) (l : List S52) : List S52 := l.foldl mstep o
theorem mstep_join (o : List S52) (y s : S52) (h : s.f0 ≤ y.f0 + y.f1) : mstep (o ++ [y]) s = o ++ [⟨y.f0, max (y.f0 + y.f1) (s.f0 + s.f1) - y.f0⟩] := by simp [mstep, h]
theorem mstep_new (o : List S52) (y s : S52) (h : ¬ s.f0 ≤ y.f0 + y.f1) : mstep (o ++ [y]) s = o ++ [y] ++ [s] := by simp [mstep, h]
theorem merge_go : ∀ (l o : List S52) (y : S52), Sep (o ++ [y]) → l.Pairwise (fun a b => a.f0 ≤ b.f0) → (∀ s ∈ l, 0 < s.f1 ∧ y.f0 ≤ s.f0) →
  Sep (mergeP (o ++ [y]) l) ∧ ∀ i, memS (mergeP (o ++ [y]) l) i ↔ memS (o ++ [y]) i ∨ memS l i
 | [], o, y, hS, _, _ => ⟨hS, fun i => ⟨Or.inl, fun h => h.elim id fun h => absurd h (memS_nil i)⟩⟩
 | s :: l, o, y, hS, hl, hp => by
  obtain ⟨hs1, hs2⟩ := hp s (by simp)
  obtain ⟨hl1, hl2⟩ := List.pairwise_cons.1 hl
  obtain ⟨hSo, hSy, hoy⟩ := Sep_app.1 hS
  have hy := Sep_one.1 hSy
  by_cases h : s.f0 ≤ y.f0 + y.f1
  ·
   have e : mergeP (o ++ [y]) (s :: l) = mergeP (o ++ [⟨y.f0, max (y.f0 + y.f1) (s.f0 + s.f1) - y.f0⟩]) l := by unfold mergeP; rw [List.foldl_cons, mstep_join o y s h]
   have hS2 : Sep (o ++ [⟨y.f0, max (y.f0 + y.f1) (s.f0 + s.f1) - y.f0⟩]) := Sep_app.2 ⟨hSo, Sep_one.2 (by simp only; omega), fun x hx z hz => by obtain rfl := List.mem_singleton.1 hz; exact hoy x hx y (by simp)⟩
   obtain ⟨g1, g2⟩ := merge_go l o ⟨y.f0, max (y.f0 + y.f1) (s.f0 + s.f1) - y.f0⟩ hS2 hl2 (fun t ht => ⟨(hp t (by simp [ht])).1, by have := hl1 t ht; simp only; omega⟩)
   rw [e]
   refine ⟨g1, fun i => ?_⟩
   rw [g2 i, memS_app, memS_app, memS_one, memS_one, memS_cons]
   constructor
   ·
    rintro ((h1 | h1) | h1)
    · exact Or.inl (Or.inl h1)
    ·
     simp only at h1
     by_cases h2 : i < y.f0 + y.f1
     · exact Or.inl (Or.inr ⟨h1.1, h2⟩)
     · exact Or.inr (Or.inl ⟨by omega, by omega⟩)
    · exact Or.inr (Or.inr h1)
   ·
    rintro ((h1 | h1) | (h1 | h1))
    · exact Or.inl (Or.inl h1)
    · exact Or.inl (Or.inr ⟨h1.1, by simp only; omega⟩)
    · exact Or.inl (Or.inr ⟨by simp only; omega, by simp only; omega⟩)
    · exact Or.inr h1
  ·
   have e : mergeP (o ++ [y]) (s :: l) = mergeP ((o ++ [y]) ++ [s]) l := by unfold mergeP; rw [List.foldl_cons, mstep_new o y s h]
   have hS2 : Sep ((o ++ [y]) ++ [s]) := Sep_app.2 ⟨hS, Sep_one.2 hs1, fun x hx z hz => by
    obtain rfl := List.mem_singleton.1 hz
    rcases List.mem_append.1 hx with h3 | h3
    · have := hoy x h3 y (by simp); omega
    · obtain rfl := List.mem_singleton.1 h3; omega⟩
   obtain ⟨g1, g2⟩ := merge_go l (o ++ [y]) s hS2 hl2 (fun t ht => ⟨(hp t (by simp [ht])).1, hl1 t ht⟩)
   rw [e]
   refine ⟨g1, fun i => ?_⟩
   rw [g2 i, memS_app, memS_one, memS_cons, or_assoc]
theorem merge_all (l : List S52) (hl : l.Pairwise (fun a b => a.f0 ≤ b.f0)) (hp : ∀ s ∈ l, 0 < s.f1) : Sep (mergeP [] l) ∧ ∀ i, memS (mergeP [] l) i ↔ memS l i := by
 cases l with
 | nil => exact ⟨Sep_nil, fun i => Iff.rfl⟩
 | cons s l =>
  obtain ⟨hl1, hl2⟩ := List.pairwise_cons.1 hl
  obtain ⟨g1, g2⟩ := merge_go l [] s (Sep_one.2 (hp s (by simp))) hl2 (fun t ht => ⟨hp t (by simp [ht]), hl1 t ht⟩)
  have e : mergeP [] (s :: l) = mergeP ([] ++ [s]) l := rfl
  rw [e]
  refine ⟨g1, fun i => ?_⟩
  rw [g2 i, memS_app, memS_one, memS_cons]
  exact ⟨fun h => h.elim (fun h => h.elim (fun h => absurd h (memS_nil i)) Or.inl) Or.inr, fun h => h.elim (fun h => Or.inl (Or.inr h)) Or.inr⟩
/-- what is in both -/
def meetP : List S52 → List S52 → List S52
 | x :: a, y :: b =>
  (if max x.f0 y.f0 < min (x.f0 + x.f1) (y.f0 + y.f1) then [⟨max x.f0 y.f0, min (x.f0 + x.f1) (y.f0 + y.f1) - max x.f0 y.f0⟩] else []) ++
   (if x.f0 + x.f1 < y.f0 + y.f1 then meetP a (y :: b) else meetP (x :: a) b)
 | _, _ => []
termination_by a b => a.length + b.length
theorem meetP_nil (b : List S52) : meetP [] b = [] := by unfold meetP; rfl
theorem meetP_nil2 (a : List S52) : meetP a [] = [] := by unfold meetP; cases a <;> rfl
theorem meet_low : ∀ (n : Nat) (a b : List S52), a.length + b.length = n → ∀ z ∈ meetP a b, (∃ x ∈ a, x.f0 ≤ z.f0) ∧ ∃ y ∈ b, y.f0 ≤ z.f0
 | n, [], b, _, z, hz => by rw [meetP_nil] at hz; exact absurd hz (by simp)
 | n, x :: a, [], _, z, hz => by rw [meetP_nil2] at hz; exact absurd hz (by simp)
 | 0, x :: a, y :: b, hn, z, hz => by simp at hn
 | n + 1, x :: a, y :: b, hn, z, hz => by
  unfold meetP at hz
  rcases List.mem_append.1 hz with h | h
  ·
   split at h
   ·
    obtain rfl := List.mem_singleton.1 h
    exact ⟨⟨x, by simp, by simp only; omega⟩, y, by simp, by simp only; omega⟩
   · exact absurd h (by simp)
  ·
   split at h
   ·
    obtain ⟨⟨u, hu, h1⟩, h2⟩ := meet_low n a (y :: b) (by simp at hn ⊢; omega) z h
    exact ⟨⟨u, by simp [hu], h1⟩, h2⟩
   ·
    obtain ⟨h1, ⟨u, hu, h2⟩⟩ := meet_low n (x :: a) b (by simp at hn ⊢; omega) z h
    exact ⟨h1, u, by simp [hu], h2⟩
theorem meet_all : ∀ (n : Nat) (a b : List S52), a.length + b.length = n → Sep a → Sep b → Sep (meetP a b) ∧ ∀ i, memS (meetP a b) i ↔ memS a i ∧ memS b i
  | n, [], b, _, _, _ => by rw [meetP_nil]; exact ⟨Sep_nil, fun i => ⟨fun h => absurd h (memS_nil i), fun h => h.1⟩⟩
  | n, x :: a, [], _, _, _ => by rw [meetP_nil2]; exact ⟨Sep_nil, fun i => ⟨fun h => absurd h (memS_nil i), fun h => h.2⟩⟩
  | 0, x :: a, y :: b, hn, _, _ => by simp at hn
  | n + 1, x :: a, y :: b, hn, ha, hb => by
    obtain ⟨hx, hxa, hSa⟩ := Sep_cons.1 ha
    obtain ⟨hy, hyb, hSb⟩ := Sep_cons.1 hb
    obtain ⟨P, hP⟩ : ∃ P, P = (if max x.f0 y.f0 < min (x.f0 + x.f1) (y.f0 + y.f1) then [(⟨max x.f0 y.f0, min (x.f0 + x.f1) (y.f0 + y.f1) - max x.f0 y.f0⟩ : S52)] else []) := ⟨_, rfl⟩
    have hPS : Sep P := by rw [hP]; split; · exact Sep_one.2 (by simp only; omega)
                           · exact Sep_nil
    have hPm : ∀ i, memS P i ↔ (x.f0 ≤ i ∧ i < x.f0 + x.f1) ∧ (y.f0 ≤ i ∧ i < y.f0 + y.f1) := by
      intro i; rw [hP]; split
      · rw [memS_one]; simp only; omega
      · exact ⟨fun h => absurd h (memS_nil i), fun h => by omega⟩
    have hPe : ∀ z ∈ P, z.f0 + z.f1 = min (x.f0 + x.f1) (y.f0 + y.f1) := by
      intro z hz; rw [hP] at hz; split at hz
      · obtain rfl := List.mem_singleton.1 hz; simp only; omega
      · exact absurd hz (by simp)
    have e : meetP (x :: a) (y :: b) = P ++ (if x.f0 + x.f1 < y.f0 + y.f1 then meetP a (y :: b) else meetP (x :: a) b) := by rw [hP]; conv => lhs; unfold meetP
    rw [e]
    by_cases h : x.f0 + x.f1 < y.f0 + y.f1
    · rw [if_pos h]
      obtain ⟨g1, g2⟩ := meet_all n a (y :: b) (by simp at hn ⊢; omega) hSa hb
      refine ⟨Sep_app.2 ⟨hPS, g1, fun z hz u hu => ?_⟩, fun i => ?_⟩
      · obtain ⟨⟨v, hv, h1⟩, _⟩ := meet_low n a (y :: b) (by simp at hn ⊢; omega) u hu
        have := hxa v hv
        have := hPe z hz
        omega
      · rw [memS_app, hPm i, g2 i, memS_cons x, memS_cons y]
        constructor
        · rintro (⟨h1, h2⟩ | ⟨h1, h2⟩)
          · exact ⟨Or.inl h1, Or.inl h2⟩
          · exact ⟨Or.inr h1, h2⟩
        · rintro ⟨h1 | h1, h2 | h2⟩
          · exact Or.inl ⟨h1, h2⟩
          · obtain ⟨v, hv, h3, h4⟩ := h2
            have := hyb v hv
            omega
          · exact Or.inr ⟨h1, Or.inl h2⟩
          · exact Or.inr ⟨h1, Or.inr h2⟩
    · rw [if_neg h]
      obtain ⟨g1, g2⟩ := meet_all n (x :: a) b (by simp at hn ⊢; omega) ha hSb
      refine ⟨Sep_app.2 ⟨hPS, g1, fun z hz u hu => ?_⟩, fun i => ?_⟩
      · obtain ⟨_, v, hv, h1⟩ := meet_low n (x :: a) b (by simp at hn ⊢; omega) u hu
        have := hyb v hv
        have := hPe z hz
        omega
      · rw [memS_app, hPm i, g2 i, memS_cons x, memS_cons y]
        constructor
        · rintro (⟨h1, h2⟩ | ⟨h1, h2⟩)
          · exact ⟨Or.inl h1, Or.inl h2⟩
          · exact ⟨h1, Or.inr h2⟩
        · rintro ⟨h1 | h1, h2 | h2⟩
          · exact Or.inl ⟨h1, h2⟩
          · exact Or.inr ⟨Or.inl h1, h2⟩
          · obtain ⟨v, hv, h3, h4⟩ := h1
            have := hxa v hv
            omega
          · exact Or.inr ⟨Or.inr h1, h2⟩
theorem drop_span (l : List S52) (i : Nat) (h : i < l.length) : l.drop i = rd_T52 l (i : Int) :: l.drop (i + 1) := by
 rw [List.drop_eq_getElem_cons h]
 simp [rd_T52, List.getD_eq_getElem?_getD, h]
theorem up (i n : Nat) (h : i < n) (hn : n ≤ 4611686018427387904) : wrap64 ((i : Int) + 1) = ((i + 1 : Nat) : Int) := by unfold wrap64; omega
theorem right_val (x : S52) : wrackref1_Right.f x.f0 x.f1 = some (decide (0 ≤ x.f0 ∧ 0 ≤ x.f1 ∧ x.f0 + x.f1 ≤ 65536)) := by
 unfold wrackref1_Right.f
 by_cases h : (0 ≤ x.f0 ∧ 0 ≤ x.f1) ∧ (x.f0 ≤ 65536 ∧ x.f1 ≤ 65536)
 ·
  rw [if_pos h.1.1, if_pos h.1.2, if_pos h.2.1, if_pos h.2.2]
  congr 1
  refine decide_eq_decide.2 ?_
  unfold wrap64; omega
 ·
  repeat' split
  all_goals first | (congr 1; exact (q0zf (by omega)).symm) | (exfalso; omega)
theorem last_rd (p : List S52) (y : S52) : rd_T52 (p ++ [y]) (p.length : Int) = y := by
 simp [rd_T52, List.getD_eq_getElem?_getD]
theorem last_set (p : List S52) (y z : S52) : (p ++ [y]).set (p.length : Int).toNat z = p ++ [z] := by
 simp
def inS (x : S52) : Prop := 0 ≤ x.f0 ∧ 0 ≤ x.f1 ∧ x.f0 + x.f1 ≤ 65536
/-- the right ones -/
def oks (l : List S52) : List S52 := l.filter fun x => decide (okS x)
theorem oks_in (l : List S52) : ∀ x ∈ oks l, okS x := fun x hx => by have := (List.mem_filter.1 hx).2; simpa using this
def normP (l : List S52) : List S52 := mergeP [] (sortedS (oks l))
theorem oks_cons (x : S52) (l : List S52) : oks (x :: l) = (if okS x then [x] else []) ++ oks l := by
 unfold oks
 by_cases h : okS x <;> simp [h]
theorem mstep_in (o : List S52) (s : S52) (h : ∀ y ∈ o, inS y) (hs : inS s) : (∀ y ∈ mstep o s, inS y) ∧ (mstep o s).length ≤ o.length + 1 := by
 rcases last_of o with rfl | ⟨p, y, rfl⟩
 · exact ⟨fun y hy => by obtain rfl := List.mem_singleton.1 hy; exact hs, by simp [mstep]⟩
 ·
  have hy := h y (by simp)
  unfold inS at hy hs
  by_cases hj : s.f0 ≤ y.f0 + y.f1
  ·
   rw [mstep_join p y s hj]
   refine ⟨fun z hz => ?_, by simp⟩
   rcases List.mem_append.1 hz with hz | hz
   · exact h z (by simp [hz])
   · obtain rfl := List.mem_singleton.1 hz; unfold inS; simp only; omega
  ·
   rw [mstep_new p y s hj]
   refine ⟨fun z hz => ?_, by simp⟩
   rcases List.mem_append.1 hz with hz | hz
   · exact h z hz
   · obtain rfl := List.mem_singleton.1 hz; exact hs
theorem merge_in (l : List S52) : ∀ (o : List S52), (∀ y ∈ o, inS y) → (∀ s ∈ l, inS s) → (∀ y ∈ mergeP o l, inS y) ∧ (mergeP o l).length ≤ o.length + l.length := by
 induction l with
 | nil => intro o h _; exact ⟨h, by simp [mergeP]⟩
 | cons s l ih =>
  intro o h hl
  obtain ⟨g1, g2⟩ := mstep_in o s h (hl s (by simp))
  obtain ⟨k1, k2⟩ := ih (mstep o s) g1 (fun t ht => hl t (by simp [ht]))
  exact ⟨k1, by show (mergeP (mstep o s) l).length ≤ _; simp only [List.length_cons]; omega⟩
theorem ok_in {x : S52} (h : okS x) : inS x := by unfold okS at h; unfold inS; omega
theorem perm_oks (l : List S52) : (sortedS (oks l)).Perm (oks l) := sortedS_perm _ fun x hx => by have := oks_in l x hx; unfold okS at this; omega
theorem norm_facts (l : List S52) : Sep (normP l) ∧ (∀ i, memS (normP l) i ↔ memS (oks l) i) ∧ (∀ y ∈ normP l, inS y) ∧ (normP l).length ≤ l.length := by
 have hp := perm_oks l
 obtain ⟨g1, g2⟩ := merge_all (sortedS (oks l)) (sortedS_in_order _) (fun s hs => by have := oks_in l s (hp.mem_iff.1 hs); unfold okS at this; omega)
 obtain ⟨k1, k2⟩ := merge_in (sortedS (oks l)) [] (by simp) (fun s hs => ok_in (oks_in l s (hp.mem_iff.1 hs)))
 refine ⟨g1, fun i => (g2 i).trans ?_, k1, ?_⟩
 ·
  unfold memS
  exact ⟨fun ⟨x, hx, h⟩ => ⟨x, hp.mem_iff.1 hx, h⟩, fun ⟨x, hx, h⟩ => ⟨x, hp.mem_iff.2 hx, h⟩⟩
 ·
  rw [sortedS_len] at k2
  have : (oks l).length ≤ l.length := List.length_filter_le _ _
  simp at k2
  exact Nat.le_trans k2 this
theorem norm_l1 (s : List S52) (hn : s.length ≤ 8796093022208) (hs : ∀ x ∈ s, okS x) : ∀ (d i : Nat) (o : List S52), i + d = s.length → o.length ≤ i → (∀ y ∈ o, inS y) →
  Ev (fun k => span_Norm.l1 k o s (s.length : Int) (i : Int)) (mergeP o (s.drop i))
 | 0, i, o, hi, ho, hq => by
  refine Ev.step (f := fun _ => some _) (fun k => ?_) (Ev.now _)
  simp only [span_Norm.l1]
  rw [if_neg (by omega), List.drop_of_length_le (by omega)]; rfl
 | d + 1, i, o, hi, ho, hq => by
  have hx0 : okS (rd_T52 s (i : Int)) := hs _ (by unfold rd_T52; rw [Int.toNat_natCast, List.getD_eq_getElem?_getD, List.getElem?_eq_getElem (by omega)]; simp)
  rw [drop_span s i (by omega)]
  generalize hx : rd_T52 s (i : Int) = x at hx0 ⊢
  have hx1 := hx0
  unfold okS at hx1
  obtain ⟨g1, g2⟩ := mstep_in o x hq (ok_in hx0)
  have ih := norm_l1 s hn hs d (i + 1) (mstep o x) (by omega) (by omega) g1
  have hu := up i s.length (by omega) (by omega)
  have hj : Ev (fun k => span_Norm.j2 k o (wrap64 ((o.length : Int) - 1)) s (s.length : Int) (i : Int) (match o.getLast? with | some y => decide (x.f0 ≤ y.f0 + y.f1) | none => false) x.f0 x.f1) (mergeP o (x :: s.drop (i + 1))) := by
   refine Ev.step (fun k => ?_) ih
   simp only [span_Norm.j2]
   rcases last_of o with rfl | ⟨p, y, rfl⟩
   · rw [if_neg (by simp), if_pos (by simp), hu]; rfl
   ·
    have hy := hq y (by simp)
    unfold inS at hy
    rw [show (p ++ [y]).getLast? = some y by simp]
    simp only [List.length_append, List.length_singleton] at ho ⊢
    rw [show wrap64 (((p.length + 1 : Nat) : Int) - 1) = (p.length : Int) by unfold wrap64; omega, last_rd]
    by_cases hc : x.f0 ≤ y.f0 + y.f1
    ·
     rw [if_pos (decide_eq_true hc), if_pos (by omega), if_pos (by omega), mstep_join p y x hc]
     unfold span_end.f
     rw [Option.bind_some, Option.bind_some, last_set, hu, show wrap64 (y.f0 + y.f1) = y.f0 + y.f1 by unfold wrap64; omega, show wrap64 (x.f0 + x.f1) = x.f0 + x.f1 by unfold wrap64; omega,
      show mx (y.f0 + y.f1) (x.f0 + x.f1) = max (y.f0 + y.f1) (x.f0 + x.f1) by unfold mx; split <;> omega, show wrap64 (max (y.f0 + y.f1) (x.f0 + x.f1) - y.f0) = max (y.f0 + y.f1) (x.f0 + x.f1) - y.f0 by unfold wrap64; omega]
    · rw [if_neg (by simpa using hc), if_pos (by omega), mstep_new p y x hc, hu]
  refine Ev.step (fun k => ?_) hj
  simp only [span_Norm.l1]
  rw [if_pos (by omega), if_pos (by omega), if_pos (by omega), hx]
  rcases last_of o with rfl | ⟨p, y, rfl⟩
  · rw [show wrap64 ((([] : List S52).length : Int) - 1) = -1 by unfold wrap64; simp only [List.length_nil]; omega, if_neg (by omega)]; rfl
  ·
   have hy := hq y (by simp)
   unfold inS at hy
   rw [show (p ++ [y]).getLast? = some y by simp]
   simp only [List.length_append, List.length_singleton] at ho ⊢
   rw [show wrap64 (((p.length + 1 : Nat) : Int) - 1) = (p.length : Int) by unfold wrap64; omega, if_pos (by omega), if_pos (by omega), if_pos (by omega), last_rd]
   unfold span_end.f
   rw [Option.bind_some, show wrap64 (y.f0 + y.f1) = y.f0 + y.f1 by unfold wrap64; omega]
theorem norm_l0 (l : List S52) (hn : l.length ≤ 8796093022208) (all : List S52) (hall : ∀ x ∈ all, okS x) : ∀ (d i : Nat) (o : List S52), i + d = l.length → o.length ≤ i → o ++ oks (l.drop i) = all →
  Ev (fun k => span_Norm.l0 k o l (l.length : Int) (i : Int)) (mergeP [] (sortedS all))
 | 0, i, o, hi, ho, he => by
  rw [List.drop_of_length_le (by omega)] at he
  have he : o = all := by rw [← he]; simp [oks]
  subst he
  have hlen := sortedS_len o
  have hperm : (sortedS o).Perm o := sortedS_perm _ fun x hx => by have := hall x hx; unfold okS at this; omega
  have hb := norm_l1 (sortedS o) (by omega) (fun x hx => hall x (hperm.mem_iff.1 hx)) (sortedS o).length 0 [] (by omega) (by simp) (by simp)
  rw [List.drop_zero, hlen] at hb
  refine Ev.step (f := fun k => span_Norm.l1 k [] (sortedS o) (o.length : Int) 0) (fun k => ?_) hb
  simp only [span_Norm.l0]
  rw [if_neg (by omega)]
  unfold slices_SortFunc_spans.f
  rw [if_pos ⟨fun x hx => by have := hall x hx; unfold okS at this; omega, by omega⟩, Option.bind_some]
 | d + 1, i, o, hi, ho, he => by
  rw [drop_span l i (by omega), oks_cons] at he
  have hu := up i l.length (by omega) (by omega)
  generalize hx : rd_T52 l (i : Int) = x at he
  by_cases hk : okS x
  ·
   rw [if_pos hk, ← List.append_assoc] at he
   refine Ev.step (fun k => ?_) (norm_l0 l hn all hall d (i + 1) (o ++ [x]) (by omega) (by simp; omega) he)
   simp only [span_Norm.l0]
   rw [if_pos (by omega), if_pos (by omega), if_pos (by omega), hx, good_val, Option.bind_some, decide_eq_true hk, if_pos rfl, if_pos (by omega), hu]
  ·
   rw [if_neg hk, List.nil_append] at he
   refine Ev.step (fun k => ?_) (norm_l0 l hn all hall d (i + 1) o (by omega) (by omega) he)
   simp only [span_Norm.l0]
   rw [if_pos (by omega), if_pos (by omega), if_pos (by omega), hx, good_val, Option.bind_some, q0zf hk, if_neg (by decide), hu]
theorem norm_ev (l : List S52) (hn : l.length ≤ 8796093022208) : Ev (fun k => span_Norm.f k l) (normP l) :=
 norm_l0 l hn (oks l) (oks_in l) l.length 0 [] (by omega) (by simp) (by simp)
theorem rdB (m : List Bool) (i : Nat) : rdOf false m (i : Int) = m.getD i false := by unfold rdOf; rw [Int.toNat_natCast]
theorem getD_set (m : List Bool) (i j : Nat) (v : Bool) (hi : i < m.length) : (m.set i v).getD j false = if i = j then v else m.getD j false := by
 rw [List.getD_eq_getElem?_getD, List.getD_eq_getElem?_getD, List.getElem?_set]
 by_cases h : i = j
 · rw [if_pos h, if_pos h, if_pos hi]; rfl
 · rw [if_neg h, if_neg h]
def Good (m : List Bool) (S : Int → Prop) : Prop := m.length = 65536 ∧ ∀ i : Nat, i < 65536 → (m.getD i false = true ↔ S (i : Int))
theorem marks_in (l : List S52) (i : Nat) (x : S52) (hx : inS x) (hi : i < l.length) (hn : l.length ≤ 4611686018427387904) (S : Int → Prop) : ∀ (d j : Nat) (m : List Bool), (j : Int) + (d : Int) = x.f1 → Good m (fun b => S b ∨ (x.f0 ≤ b ∧ b < x.f0 + (j : Int))) →
  ∃ m', Good m' (fun b => S b ∨ (x.f0 ≤ b ∧ b < x.f0 + x.f1)) ∧ ∀ r, Ev (fun k => wrackref1_Marks.l0 k m' l (l.length : Int) ((i + 1 : Nat) : Int)) r → Ev (fun k => wrackref1_Marks.l1 k m l (l.length : Int) (i : Int) x.f1 (j : Int) x.f0 x.f1) r
 | 0, j, m, hj, hg => by
  refine ⟨m, ?_, fun r e => Ev.step (fun k => ?_) e⟩
  · rwa [show x.f1 = (j : Int) by omega]
  ·
   simp only [wrackref1_Marks.l1]
   rw [if_neg (by omega), up i l.length hi hn]
 | d + 1, j, m, hj, hg => by
  unfold inS at hx
  have hw : wrap64 (x.f0 + (j : Int)) = ((x.f0.toNat + j : Nat) : Int) := by unfold wrap64; omega
  have hlt : x.f0.toNat + j < 65536 := by omega
  have hg2 : Good (m.set (x.f0.toNat + j) true) (fun b => S b ∨ (x.f0 ≤ b ∧ b < x.f0 + ((j + 1 : Nat) : Int))) := by
   refine ⟨by rw [List.length_set]; exact hg.1, fun b hb => ?_⟩
   rw [getD_set _ _ _ _ (by rw [hg.1]; exact hlt)]
   by_cases h : x.f0.toNat + j = b
   · rw [if_pos h]; exact ⟨fun _ => Or.inr (by omega), fun _ => rfl⟩
   ·
    rw [if_neg h, hg.2 b hb]
    exact or_congr Iff.rfl ⟨fun h => by omega, fun h => by omega⟩
  obtain ⟨m', g1, g2⟩ := marks_in l i x hx hi hn S d (j + 1) _ (by omega) hg2
  refine ⟨m', g1, fun r e => Ev.step (fun k => ?_) (g2 r e)⟩
  simp only [wrackref1_Marks.l1]
  rw [if_pos (by omega), hw, if_pos (by omega), if_pos (by rw [hg.1]; omega), Int.toNat_natCast, up j (j + 2) (by omega) (by omega)]
theorem marks_l0 (l : List S52) (hn : l.length ≤ 4611686018427387904) : ∀ (d i : Nat) (m : List Bool) (S : Int → Prop), i + d = l.length → Good m S →
  ∃ m', Good m' (fun b => S b ∨ memS (oks (l.drop i)) b) ∧ Ev (fun k => wrackref1_Marks.l0 k m l (l.length : Int) (i : Int)) m'
 | 0, i, m, S, hi, hg => by
  refine ⟨m, ?_, Ev.step (f := fun _ => some _) (fun k => ?_) (Ev.now _)⟩
  ·
   rw [List.drop_of_length_le (by omega)]
   exact ⟨hg.1, fun b hb => (hg.2 b hb).trans ⟨Or.inl, fun h => h.elim id fun h => absurd h (memS_nil _)⟩⟩
  ·
   simp only [wrackref1_Marks.l0]
   rw [if_neg (by omega)]
 | d + 1, i, m, S, hi, hg => by
  rw [drop_span l i (by omega), oks_cons]
  generalize hx : rd_T52 l (i : Int) = x
  by_cases hr : 0 ≤ x.f0 ∧ 0 ≤ x.f1 ∧ x.f0 + x.f1 ≤ 65536
  ·
   have hg0 : Good m (fun b => S b ∨ (x.f0 ≤ b ∧ b < x.f0 + ((0 : Nat) : Int))) := ⟨hg.1, fun b hb => (hg.2 b hb).trans ⟨Or.inl, fun h => h.elim id fun h => by omega⟩⟩
   obtain ⟨m1, g1, g2⟩ := marks_in l i x hr (by omega) hn S x.f1.toNat 0 m (by omega) hg0
   obtain ⟨m', g3, g4⟩ := marks_l0 l hn d (i + 1) m1 _ (by omega) g1
   refine ⟨m', ⟨g3.1, fun b hb => (g3.2 b hb).trans ?_⟩, Ev.step (fun k => ?_) (g2 _ g4)⟩
   ·
    show (S (b : Int) ∨ x.f0 ≤ (b : Int) ∧ (b : Int) < x.f0 + x.f1) ∨ memS (oks (l.drop (i + 1))) (b : Int) ↔ S (b : Int) ∨ memS ((if okS x then [x] else []) ++ oks (l.drop (i + 1))) (b : Int)
    rw [memS_app, or_assoc]
    refine or_congr Iff.rfl (or_congr ?_ Iff.rfl)
    by_cases hk : okS x
    · rw [if_pos hk, memS_one]
    ·
     rw [if_neg hk]
     exact ⟨fun h => by unfold okS at hk; omega, fun h => absurd h (memS_nil _)⟩
   ·
    simp only [wrackref1_Marks.l0]
    rw [if_pos (by omega), if_pos (by omega), if_pos (by omega), hx, right_val, Option.bind_some, decide_eq_true hr, if_pos rfl]; rfl
  ·
   obtain ⟨m', g3, g4⟩ := marks_l0 l hn d (i + 1) m S (by omega) hg
   refine ⟨m', ⟨g3.1, fun b hb => (g3.2 b hb).trans ?_⟩, Ev.step (fun k => ?_) g4⟩
   · rw [if_neg (by unfold okS; omega), List.nil_append]
   ·
    simp only [wrackref1_Marks.l0]
    rw [if_pos (by omega), if_pos (by omega), if_pos (by omega), hx, right_val, Option.bind_some, q0zf hr, if_neg (by decide), up i l.length (by omega) hn]
theorem marks_ev (l : List S52) (hn : l.length ≤ 4611686018427387904) : ∃ m, Good m (memS (oks l)) ∧ Ev (fun k => wrackref1_Marks.f k l) m := by
 have h0 : Good (List.replicate 65536 false) (fun _ => False) := ⟨List.length_replicate, fun i hi => by rw [List.getD_eq_getElem?_getD, List.getElem?_replicate, if_pos hi]; simp⟩
 obtain ⟨m, g1, g2⟩ := marks_l0 l hn l.length 0 _ _ (by omega) h0
 rw [List.drop_zero] at g1
 refine ⟨m, ⟨g1.1, fun b hb => (g1.2 b hb).trans ⟨fun h => h.elim False.elim id, Or.inr⟩⟩, ?_⟩
 refine Ev.congr (fun k => ?_) g2
 unfold wrackref1_Marks.f
 rw [if_pos (by decide)]; rfl
theorem put_in (o : List S52) (x n : Int) (h : ∀ y ∈ o, inS y) (h0 : 0 ≤ x) (h1 : 0 ≤ n) (h2 : x + n ≤ 65536) : (∀ y ∈ put o x n, inS y) ∧ (put o x n).length ≤ o.length + 1 := by
 rcases last_of o with rfl | ⟨p, y, rfl⟩
 ·
  rw [put_nil]
  exact ⟨fun y hy => by obtain rfl := List.mem_singleton.1 hy; exact ⟨h0, h1, h2⟩, by simp⟩
 ·
  have hy := h y (by simp)
  unfold inS at hy
  by_cases hj : y.f0 + y.f1 = x
  ·
   rw [put_join p y x n hj]
   refine ⟨fun z hz => ?_, by simp⟩
   rcases List.mem_append.1 hz with hz | hz
   · exact h z (by simp [hz])
   · obtain rfl := List.mem_singleton.1 hz; unfold inS; simp only; omega
  ·
   rw [put_new p y x n hj]
   refine ⟨fun z hz => ?_, by simp⟩
   rcases List.mem_append.1 hz with hz | hz
   · exact h z hz
   · obtain rfl := List.mem_singleton.1 hz; exact ⟨h0, h1, h2⟩
theorem same_l0 (l : List S52) (hn : l.length ≤ 4611686018427387904) : ∀ (d i : Nat), i + d = l.length → Ev (fun k => wrackref1_SameSpans.l0 k l l (l.length : Int) (i : Int)) true
 | 0, i, hi => by
  refine Ev.step (f := fun _ => some _) (fun k => ?_) (Ev.now _)
  simp only [wrackref1_SameSpans.l0]
  rw [if_neg (by omega)]
 | d + 1, i, hi => by
  refine Ev.step (fun k => ?_) (same_l0 l hn d (i + 1) (by omega))
  simp only [wrackref1_SameSpans.l0]
  rw [if_pos (by omega), if_pos (by omega), if_pos (by omega), if_pos (by omega), if_neg (by simp), up i l.length (by omega) hn]
theorem same_ev (l : List S52) (hn : l.length ≤ 4611686018427387904) : Ev (fun k => wrackref1_SameSpans.f k l l) true := by
 refine Ev.congr (fun k => ?_) (same_l0 l hn l.length 0 (by omega))
 unfold wrackref1_SameSpans.f
 rw [if_pos rfl]; rfl
theorem meet_l0 (A B : List S52) (ha : A.length + B.length ≤ 8796093022208) (hA : ∀ x ∈ A, inS x) (hB : ∀ x ∈ B, inS x) : ∀ (d i j : Nat) (o : List S52), i + j + d = A.length + B.length → i ≤ A.length → j ≤ B.length → o.length ≤ i + j →
  Ev (fun k => span_Meet.l0 k A B o (i : Int) (j : Int)) (o ++ meetP (A.drop i) (B.drop j)) := by
 have stop : ∀ (i j : Nat) (o : List S52), i ≤ A.length → j ≤ B.length → ¬ (i < A.length ∧ j < B.length) → Ev (fun k => span_Meet.l0 k A B o (i : Int) (j : Int)) (o ++ meetP (A.drop i) (B.drop j)) := by
  intro i j o hi hj hn
  have hj1 : Ev (fun k => span_Meet.j1 k A B o (i : Int) (j : Int) false) (o ++ meetP (A.drop i) (B.drop j)) := by
   refine Ev.step (f := fun _ => some _) (fun k => ?_) (Ev.now _)
   simp only [span_Meet.j1]
   rw [if_neg (by decide)]
   by_cases h1 : i < A.length
   · rw [List.drop_of_length_le (l := B) (by omega), meetP_nil2, List.append_nil]
   · rw [List.drop_of_length_le (l := A) (by omega), meetP_nil, List.append_nil]
  refine Ev.step (fun k => ?_) hj1
  simp only [span_Meet.l0]
  by_cases h1 : i < A.length
  · rw [if_pos (by omega), q0zf (by omega)]
  · rw [if_neg (by omega)]
 intro d
 induction d with
 | zero => intro i j o h hi hj ho; exact stop i j o hi hj (by omega)
 | succ d ih =>
  intro i j o h hi hj ho
  by_cases hc : i < A.length ∧ j < B.length
  ·
   obtain ⟨h1, h2⟩ := hc
   have hx0 : inS (rd_T52 A (i : Int)) := hA _ (by unfold rd_T52; rw [Int.toNat_natCast, List.getD_eq_getElem?_getD, List.getElem?_eq_getElem h1]; simp)
   have hy0 : inS (rd_T52 B (j : Int)) := hB _ (by unfold rd_T52; rw [Int.toNat_natCast, List.getD_eq_getElem?_getD, List.getElem?_eq_getElem h2]; simp)
   have hda := drop_span A i h1
   have hdb := drop_span B j h2
   generalize hx : rd_T52 A (i : Int) = x at hx0 hda
   generalize hy : rd_T52 B (j : Int) = y at hy0 hdb
   unfold inS at hx0 hy0
   have ex : span_end.f x.f0 x.f1 = some (x.f0 + x.f1) := by unfold span_end.f; rw [show wrap64 (x.f0 + x.f1) = x.f0 + x.f1 by unfold wrap64; omega]
   have ey : span_end.f y.f0 y.f1 = some (y.f0 + y.f1) := by unfold span_end.f; rw [show wrap64 (y.f0 + y.f1) = y.f0 + y.f1 by unfold wrap64; omega]
   have hm : meetP (A.drop i) (B.drop j) = (if max x.f0 y.f0 < min (x.f0 + x.f1) (y.f0 + y.f1) then [(⟨max x.f0 y.f0, min (x.f0 + x.f1) (y.f0 + y.f1) - max x.f0 y.f0⟩ : S52)] else []) ++ (if x.f0 + x.f1 < y.f0 + y.f1 then meetP (A.drop (i + 1)) (B.drop j) else meetP (A.drop i) (B.drop (j + 1))) := by
    rw [hda, hdb]; conv => lhs; unfold meetP
   have hj2 : ∀ o' : List S52, o'.length ≤ i + j + 1 → Ev (fun k => span_Meet.j2 k A B o' (i : Int) (j : Int)) (o' ++ (if x.f0 + x.f1 < y.f0 + y.f1 then meetP (A.drop (i + 1)) (B.drop j) else meetP (A.drop i) (B.drop (j + 1)))) := by
    intro o' ho'
    by_cases hlt : x.f0 + x.f1 < y.f0 + y.f1
    ·
     rw [if_pos hlt]
     refine Ev.step (fun k => ?_) (ih (i + 1) j o' (by omega) (by omega) hj (by omega))
     simp only [span_Meet.j2]
     rw [if_pos (by omega), if_pos (by omega), hx, ex, Option.bind_some, if_pos (by omega), if_pos (by omega), hy, ey, Option.bind_some, if_pos hlt, up i A.length h1 (by omega)]
    ·
     rw [if_neg hlt]
     refine Ev.step (fun k => ?_) (ih i (j + 1) o' (by omega) hi (by omega) (by omega))
     simp only [span_Meet.j2]
     rw [if_pos (by omega), if_pos (by omega), hx, ex, Option.bind_some, if_pos (by omega), if_pos (by omega), hy, ey, Option.bind_some, if_neg hlt, up j B.length h2 (by omega)]
   have hmx : mx x.f0 y.f0 = max x.f0 y.f0 := by unfold mx; split <;> omega
   have hmn : mn (x.f0 + x.f1) (y.f0 + y.f1) = min (x.f0 + x.f1) (y.f0 + y.f1) := by unfold mn; split <;> omega
   have hj1 : Ev (fun k => span_Meet.j1 k A B o (i : Int) (j : Int) true) (o ++ meetP (A.drop i) (B.drop j)) := by
    rw [hm, ← List.append_assoc]
    by_cases hp : max x.f0 y.f0 < min (x.f0 + x.f1) (y.f0 + y.f1)
    ·
     rw [if_pos hp]
     refine Ev.step (fun k => ?_) (hj2 (o ++ [⟨max x.f0 y.f0, min (x.f0 + x.f1) (y.f0 + y.f1) - max x.f0 y.f0⟩]) (by simp; omega))
     simp only [span_Meet.j1]
     rw [if_pos True.intro, if_pos (by omega), if_pos (by omega), if_pos (by omega), if_pos (by omega), hx, hy, ex, Option.bind_some, ey, Option.bind_some, hmx, hmn, if_pos hp, if_pos (by omega),
      show wrap64 (min (x.f0 + x.f1) (y.f0 + y.f1) - max x.f0 y.f0) = min (x.f0 + x.f1) (y.f0 + y.f1) - max x.f0 y.f0 by unfold wrap64; omega]
    ·
     rw [if_neg hp, List.append_nil]
     refine Ev.step (fun k => ?_) (hj2 o (by omega))
     simp only [span_Meet.j1]
     rw [if_pos True.intro, if_pos (by omega), if_pos (by omega), if_pos (by omega), if_pos (by omega), hx, hy, ex, Option.bind_some, ey, Option.bind_some, hmx, hmn, if_neg hp]
   refine Ev.step (fun k => ?_) hj1
   simp only [span_Meet.l0]
   rw [if_pos (by omega), decide_eq_true (by omega)]
  · exact stop i j o hi hj hc
theorem meet_ev (a b : List S52) (ha : a.length + b.length ≤ 8796093022208) : Ev (fun k => span_Meet.f k a b) (meetP (normP a) (normP b)) := by
 obtain ⟨_, _, a3, a4⟩ := norm_facts a
 obtain ⟨_, _, b3, b4⟩ := norm_facts b
 unfold span_Meet.f
 refine Ev.bind (norm_ev a (by omega)) ?_
 refine Ev.bind (norm_ev b (by omega)) ?_
 have e := meet_l0 (normP a) (normP b) (by omega) a3 b3 ((normP a).length + (normP b).length) 0 0 [] (by omega) (by omega) (by omega) (by simp)
 rw [List.drop_zero, List.drop_zero, List.nil_append] at e
 exact e
theorem meet_set (a b : List S52) : Sep (meetP (normP a) (normP b)) ∧ ∀ i, memS (meetP (normP a) (normP b)) i ↔ memS (oks a) i ∧ memS (oks b) i := by
 obtain ⟨a1, a2, _, _⟩ := norm_facts a
 obtain ⟨b1, b2, _, _⟩ := norm_facts b
 obtain ⟨g1, g2⟩ := meet_all _ (normP a) (normP b) rfl a1 b1
 exact ⟨g1, fun i => by rw [g2 i, a2 i, b2 i]⟩
theorem check_val (s0 s1 : Int) : span_Check.f s0 s1 = some (if 0 ≤ s0 ∧ 0 ≤ s1 ∧ s0 + s1 ≤ 65536 then 0 else 4) := by
 have hw : ∀ y : Int, 0 ≤ y → y ≤ 65536 → wrap64 (65536 - y) = 65536 - y := fun y h0 h1 => by unfold wrap64; omega
 unfold span_Check.f
 by_cases h1 : 0 ≤ s1 ∧ s1 ≤ 65536
 ·
  rw [hw s1 h1.1 h1.2]
  repeat' split
  all_goals first | rfl | omega
 ·
  repeat' split
  all_goals first | rfl | omega
theorem drop_int (l : List Int) (i : Nat) (h : i < l.length) : l.drop i = rd l (i : Int) :: l.drop (i + 1) := by
 rw [List.drop_eq_getElem_cons h]
 simp [rd, List.getD_eq_getElem?_getD, h]
theorem glue_l0 (l : List S52) (hn : l.length ≤ 8796093022208) : ∀ (d i : Nat) (o : List S52), i + d = l.length → o.length ≤ i → (∀ y ∈ o, inS y) →
  Ev (fun k => span_Glue.l0 k o l (l.length : Int) (i : Int)) (glueP o (l.drop i))
 | 0, i, o, hi, h0, hq => by
  refine Ev.step (f := fun _ => some _) (fun k => ?_) (Ev.now _)
  simp only [span_Glue.l0]
  rw [if_neg (by omega), List.drop_of_length_le (by omega)]; rfl
 | d + 1, i, o, hi, h0, hq => by
  rw [drop_span l i (by omega)]
  generalize hx : rd_T52 l (i : Int) = x
  unfold glueP
  by_cases hk : okS x
  ·
   have hk' := hk
   unfold okS at hk'
   rw [if_pos hk]
   obtain ⟨g1, g2⟩ := put_in o x.f0 x.f1 hq hk'.1 (by omega) hk'.2.2
   refine Ev.step (fun k => ?_) (glue_l0 l hn d (i + 1) (put o x.f0 x.f1) (by omega) (by omega) g1)
   simp only [span_Glue.l0]
   rw [if_pos (by omega), if_pos (by omega), if_pos (by omega), hx, good_val, Option.bind_some, decide_eq_true hk, if_pos rfl, up i l.length (by omega) (by omega)]
   rcases last_of o with rfl | ⟨p, y, rfl⟩
   · rw [put_nil, show wrap64 ((([] : List S52).length : Int) - 1) = -1 by unfold wrap64; simp only [List.length_nil]; omega, if_neg (by omega), if_pos (by simp)]; rfl
   ·
    have hy := hq y (by simp)
    unfold inS at hy
    simp only [List.length_append, List.length_singleton] at h0 ⊢
    rw [show wrap64 (((p.length + 1 : Nat) : Int) - 1) = (p.length : Int) by unfold wrap64; omega, if_pos (by omega), if_pos (by omega), if_pos (by omega), last_rd, last_set]
    unfold span_end.f
    rw [Option.bind_some, show wrap64 (y.f0 + y.f1) = y.f0 + y.f1 by unfold wrap64; omega, show wrap64 (y.f1 + x.f1) = y.f1 + x.f1 by unfold wrap64; omega]
    by_cases hj : y.f0 + y.f1 = x.f0
    · rw [if_pos hj, put_join p y _ _ hj]
    · rw [if_neg hj, put_new p y _ _ hj, if_pos (by omega)]
  ·
   rw [if_neg hk]
   refine Ev.step (fun k => ?_) (glue_l0 l hn d (i + 1) o (by omega) (by omega) hq)
   simp only [span_Glue.l0]
   rw [if_pos (by omega), if_pos (by omega), if_pos (by omega), hx, good_val, Option.bind_some, q0zf hk, if_neg (by decide), up i l.length (by omega) (by omega)]
theorem glue_ev (l : List S52) (hn : l.length ≤ 8796093022208) : Ev (fun k => span_Glue.f k l) (gluedP [] (laid l)) := by
 rw [← glue_laid]
 exact glue_l0 l hn l.length 0 [] (by omega) (by simp) (by simp)
theorem glued_l0 (l : List Int) (hn : l.length ≤ 200000) (hb : ∀ b ∈ l, 0 ≤ b ∧ b < 65536) : ∀ (d i : Nat) (o : List S52), i + d = l.length → o.length ≤ i → (∀ y ∈ o, inS y) →
  (i = 0 → o = []) → (0 < i → ∃ p y, o = p ++ [y] ∧ y.f0 + y.f1 = rd l ((i : Int) - 1) + 1) →
  Ev (fun k => wrackref1_Glued.l0 k l o l (l.length : Int) (i : Int)) (gluedP o (l.drop i))
 | 0, i, o, hi, h0, hq, he, hp => by
  refine Ev.step (f := fun _ => some _) (fun k => ?_) (Ev.now _)
  simp only [wrackref1_Glued.l0]
  rw [if_neg (by omega), List.drop_of_length_le (by omega)]; rfl
 | d + 1, i, o, hi, h0, hq, he, hp => by
  have hxb : 0 ≤ rd l (i : Int) ∧ rd l (i : Int) < 65536 := hb _ (by unfold rd; rw [Int.toNat_natCast, List.getD_eq_getElem?_getD, List.getElem?_eq_getElem (by omega)]; simp)
  rw [drop_int l i (by omega)]
  show Ev _ (gluedP (put o (rd l (i : Int)) 1) (l.drop (i + 1)))
  obtain ⟨g1, g2⟩ := put_in o (rd l (i : Int)) 1 hq hxb.1 (by omega) (by omega)
  have hlast : ∃ p y, put o (rd l (i : Int)) 1 = p ++ [y] ∧ y.f0 + y.f1 = rd l (((i + 1 : Nat) : Int) - 1) + 1 := by
   have e := end_put o (rd l (i : Int)) 1
   rcases last_of (put o (rd l (i : Int)) 1) with h | ⟨p, y, h⟩
   · exact absurd h (put_ne _ _ _)
   ·
    refine ⟨p, y, h, ?_⟩
    rw [h] at e
    simp [endOf] at e
    rw [show ((i + 1 : Nat) : Int) - 1 = (i : Int) by omega]
    omega
  refine Ev.step (fun k => ?_) (glued_l0 l hn hb d (i + 1) _ (by omega) (by omega) g1 (by omega) (fun _ => hlast))
  simp only [wrackref1_Glued.l0]
  rw [if_pos (by omega), if_pos (by omega), if_pos (by omega), up i l.length (by omega) (by omega)]
  by_cases hi0 : i = 0
  ·
   obtain rfl := he hi0
   rw [if_neg (by omega), if_pos (by simp), put_nil]; rfl
  ·
   obtain ⟨p, y, rfl, hy⟩ := hp (by omega)
   have hyi := hq y (by simp)
   unfold inS at hyi
   simp only [List.length_append, List.length_singleton] at h0 ⊢
   rw [if_pos (by omega), show wrap64 ((i : Int) - 1) = (i : Int) - 1 by unfold wrap64; omega, if_pos (by omega), if_pos (by omega), show wrap64 (((p.length + 1 : Nat) : Int) - 1) = (p.length : Int) by unfold wrap64; omega,
    show wrap64 (rd l ((i : Int) - 1) + 1) = y.f0 + y.f1 by rw [hy]; unfold wrap64; omega]
   by_cases hj : y.f0 + y.f1 = rd l (i : Int)
   · rw [if_pos hj.symm, if_pos (by omega), if_pos (by omega), last_rd, last_set, put_join p y _ _ hj, show wrap64 (y.f1 + 1) = y.f1 + 1 by unfold wrap64; omega]
   · rw [if_neg (fun h => hj h.symm), if_pos (by omega), put_new p y _ _ hj]
theorem glued_ev (l : List Int) (hn : l.length ≤ 200000) (hb : ∀ b ∈ l, 0 ≤ b ∧ b < 65536) : Ev (fun k => wrackref1_Glued.f k l) (gluedP [] l) :=
 glued_l0 l hn hb l.length 0 [] (by omega) (by simp) (by simp) (fun _ => rfl) (fun h => absurd h (by omega))
theorem glued_short (l : List Int) : ∀ o, (gluedP o l).length ≤ o.length + l.length := by
 induction l with
 | nil => intro o; simp [gluedP]
 | cons b l ih =>
  intro o
  have h : (put o b 1).length ≤ o.length + 1 := by
   rcases last_of o with rfl | ⟨p, y, rfl⟩
   · simp [put_nil]
   ·
    by_cases hj : y.f0 + y.f1 = b
    · rw [put_join p y b 1 hj]; simp
    · rw [put_new p y b 1 hj]; simp
  have := ih (put o b 1)
  show (gluedP (put o b 1) l).length ≤ _
  simp only [List.length_cons]; omega
theorem laid_in (l : List S52) : ∀ b ∈ laid l, 0 ≤ b ∧ b < 65536 := by
 intro b hb
 obtain ⟨x, _, hk, h1, h2⟩ := (mem_laid l b).1 hb
 unfold okS at hk
 omega
/-- a range lies within so many bytes -/
def inR (n off k : Int) : Prop := 0 ≤ off ∧ 0 ≤ k ∧ off + k ≤ n
instance (n off k : Int) : Decidable (inR n off k) := by unfold inR; exact inferInstance
theorem within_val (n : Nat) (hn : n ≤ 65536) (off k : Int) : source_within.f off k (n : Int) = some (decide (inR n off k)) := by
 unfold source_within.f
 by_cases h0 : off ≥ 0
 ·
  by_cases h1 : k ≥ 0
  ·
   by_cases h2 : k ≤ (n : Int)
   ·
    rw [if_pos h0, if_pos h1, if_pos h2, show wrap64 ((n : Int) - k) = (n : Int) - k by unfold wrap64; omega]
    congr 1
    exact decide_eq_decide.2 ⟨fun h => ⟨h0, h1, by omega⟩, fun h => by have := h.2.2; omega⟩
   · rw [if_pos h0, if_pos h1, if_neg h2, q0zf (fun h => by have := h.2.2; omega)]
  · rw [if_pos h0, if_neg h1, q0zf (fun h => h1 h.2.1)]
 · rw [if_neg h0, q0zf (fun h => h0 h.1)]
/-- is a byte of a range marked? -/
def hit (bad : List Bool) (off k : Int) : Bool := ((bad.drop off.toNat).take k.toNat).any id
theorem hit_iff (bad : List Bool) (off k : Int) (h0 : 0 ≤ off) (h1 : 0 ≤ k) (h2 : off + k ≤ bad.length) : hit bad off k = true ↔ ∃ i : Nat, off ≤ (i : Int) ∧ (i : Int) < off + k ∧ bad.getD i false = true := by
 unfold hit
 rw [List.any_eq_true]
 constructor
 ·
  rintro ⟨x, hx, hx2⟩
  obtain ⟨j, hj, rfl⟩ := List.getElem_of_mem hx
  rw [List.length_take, List.length_drop] at hj
  rw [List.getElem_take, List.getElem_drop] at hx2
  refine ⟨off.toNat + j, by omega, by omega, ?_⟩
  rw [List.getD_eq_getElem?_getD, List.getElem?_eq_getElem (by omega)]
  exact hx2
 ·
  rintro ⟨i, hi0, hi1, hi⟩
  have hl : i < bad.length := by omega
  rw [List.getD_eq_getElem?_getD, List.getElem?_eq_getElem hl] at hi
  refine ⟨true,?_, rfl⟩
  rw [List.mem_iff_getElem]
  refine ⟨i - off.toNat, by rw [List.length_take, List.length_drop]; omega, ?_⟩
  rw [List.getElem_take, List.getElem_drop]
  simp only [show off.toNat + (i - off.toNat) = i by omega]
  exact hi
/-- what a source says: the error of a reading, the bytes, the road -/
def readErr (n : Nat) (bad : List Bool) (off k : Int) : Int := if inR n off k then (if hit bad off k = true then 19 else 0) else 4
def readRow (b : List Int) (bad : List Bool) (off k : Int) : List Int := if readErr b.length bad off k = 0 then (b.drop off.toNat).take k.toNat else []
def roadRow (fr : List Int) (off k : Int) : List S52 := if inR fr.length off k then gluedP [] ((fr.drop off.toNat).take k.toNat) else []
/-- the bytes that cannot be read -/
def isBad (l : List S52) (i : Nat) : Bool := (oks l).any fun x => decide (x.f0 ≤ (i : Int) ∧ (i : Int) < x.f0 + x.f1)
theorem isBad_iff (l : List S52) (i : Nat) : isBad l i = true ↔ memS (oks l) (i : Int) := by
 unfold isBad memS
 rw [List.any_eq_true]
 constructor
 · rintro ⟨x, hx, h⟩; exact ⟨x, hx, of_decide_eq_true h⟩
 · rintro ⟨x, hx, h⟩; exact ⟨x, hx, decide_eq_true h⟩
def badOf (n : Nat) (l : List S52) : List Bool := (List.range n).map (isBad l)
theorem badOf_len (n : Nat) (l : List S52) : (badOf n l).length = n := by simp [badOf]
theorem badOf_get (n : Nat) (l : List S52) (i : Nat) (h : i < n) : (badOf n l).getD i false = isBad l i := by
 unfold badOf
 rw [List.getD_eq_getElem?_getD, List.getElem?_map, List.getElem?_range h]; rfl
theorem oks_norm (l : List S52) : oks (normP l) = normP l := by
 obtain ⟨h1, _, h3, _⟩ := norm_facts l
 unfold oks
 rw [List.filter_eq_self]
 intro x hx
 have a := h1.1 x hx
 have b := h3 x hx
 unfold inS at b
 exact decide_eq_true ⟨b.1, a, b.2.2⟩
theorem meet_hit (l : List S52) (n : Nat) (hn : n ≤ 65536) (off k : Int) (h : inR n off k) : (meetP (normP (normP l)) (normP [⟨off, k⟩]) ≠ []) ↔ hit (badOf n l) off k = true := by
 obtain ⟨hsep, hmem⟩ := meet_set (normP l) [⟨off, k⟩]
 unfold inR at h
 rw [hit_iff _ _ _ h.1 h.2.1 (by rw [badOf_len]; exact h.2.2)]
 rw [oks_norm] at hmem
 have hone : ∀ i, memS (oks [⟨off, k⟩]) i ↔ off ≤ i ∧ i < off + k := by
  intro i
  unfold oks memS
  by_cases hk : okS ⟨off, k⟩
  · simp [hk]
  ·
   simp only [List.filter_cons, q0zf hk]
   unfold okS at hk
   simp only at hk
   constructor
   · rintro ⟨x, hx, _⟩; simp at hx
   · intro hh; exact absurd ⟨h.1, by omega, by omega⟩ hk
 constructor
 ·
  intro hne
  obtain ⟨x, r, hx⟩ := List.exists_cons_of_ne_nil hne
  have hpos := hsep.1 x (by rw [hx]; simp)
  have h1 := (hmem x.f0).1 ⟨x, by rw [hx]; simp, by omega, by omega⟩
  have h2 := (hone _).1 h1.2
  have h3 := ((norm_facts l).2.1 _).1 h1.1
  obtain ⟨i, hi⟩ := Int.eq_ofNat_of_zero_le (show 0 ≤ x.f0 by omega)
  rw [hi] at h2 h3
  exact ⟨i, h2.1, h2.2, by rw [badOf_get _ _ _ (by omega)]; exact (isBad_iff l i).2 h3⟩
 ·
  rintro ⟨i, hi0, hi1, hi⟩ he
  rw [badOf_get _ _ _ (by omega)] at hi
  have h3 := ((norm_facts l).2.1 _).2 ((isBad_iff l i).1 hi)
  have := (hmem i).2 ⟨h3, (hone _).2 ⟨hi0, hi1⟩⟩
  rw [he] at this
  obtain ⟨x, hx, _⟩ := this
  simp at hx
/-- the numbers from 0 on -/
def idx (n : Nat) : List Int := (List.range n).map fun (i : Nat) => (i : Int)
theorem idx_len (n : Nat) : (idx n).length = n := by simp [idx]
theorem road_one (n : Nat) (hn : n ≤ 65536) (off k : Int) (h : inR n off k) : laid [⟨off, k⟩] = ((idx n).drop off.toNat).take k.toNat := by
 unfold inR at h
 have hb : ((idx n).drop off.toNat).take k.toNat = bytesS ⟨off, k⟩ := by
  unfold bytesS idx
  apply List.ext_getElem?
  intro j
  by_cases hj : j < k.toNat
  ·
   rw [List.getElem?_take_of_lt hj, List.getElem?_drop, List.getElem?_map, List.getElem?_range (by omega), List.getElem?_map, List.getElem?_range hj]
   simp only [Option.map_some]
   congr 1
   omega
  · rw [List.getElem?_eq_none (by rw [List.length_take]; omega), List.getElem?_eq_none (by simp; omega)]
 rw [hb]
 by_cases hk : 0 < k
 · exact laid_one _ ⟨h.1, hk, by show off + k ≤ 65536; omega⟩
 ·
  have hk0 : k = 0 := by omega
  subst hk0
  rw [laid_no _ _ (by unfold okS; simp)]
  simp [laid_nil, bytesS]
end Go.Proofs.YtagcaheopbmdiaaGreat.Pure
