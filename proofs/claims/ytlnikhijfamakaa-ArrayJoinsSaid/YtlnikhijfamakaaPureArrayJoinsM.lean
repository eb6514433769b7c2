/- Arrays joined: spans glued. No condition. -/
import Derived.Test.YtlnikhijfamakaaPureArrayJoinsL
import Derived.WalkLawsBesides
import Derived.LoopN
namespace Go.Proofs.Ytlnikhijfamakaa.Pure
open Go.Proofs.Ytlnikhijfamakaa.ArrayPlain
open Go Go.RowKit Go.Maps Go.Proofs.Ytlnikhijfamakaa.QArrayJoins Go.Proofs.YtlnikhijfamakaaW.PrintWords Go.Proofs.YtlnikhijfamakaaW.PrintLast Go.Proofs.YtlnikhijfamakaaW.PrintMore
set_option linter.unusedVariables false
set_option linter.unusedSimpArgs false
/-- a right span that is not empty -/
def okS (x : S41) : Prop := 0 ≤ x.f0 ∧ 0 < x.f1 ∧ x.f0 + x.f1 ≤ 65536
instance (x : S41) : Decidable (okS x) := by unfold okS; exact inferInstance
theorem good_val (x : S41) : span_good.f x.f0 x.f1 = some (decide (okS x)) := by
  have hw : ∀ y : Int, 0 ≤ y → y ≤ 65536 → wrap64 (65536 - y) = 65536 - y := fun y h0 h1 => by unfold wrap64; omega
  have h : span_Check.f x.f0 x.f1 = some (if 0 ≤ x.f0 ∧ 0 ≤ x.f1 ∧ x.f0 + x.f1 ≤ 65536 then 0 else 4) := by
    unfold span_Check.f
    by_cases h1 : 0 ≤ x.f1 ∧ x.f1 ≤ 65536
    · rw [hw x.f1 h1.1 h1.2]
      repeat' split
      all_goals first | rfl | omega
    · repeat' split
      all_goals first | rfl | omega
  unfold span_good.f okS
  rw [h, Option.bind_some]
  by_cases hc : 0 ≤ x.f0 ∧ 0 ≤ x.f1 ∧ x.f0 + x.f1 ≤ 65536
  · rw [if_pos hc, if_pos rfl]
    congr 1
    exact decide_eq_decide.2 ⟨fun h => by omega, fun h => by omega⟩
  · rw [if_neg hc, if_neg (by decide)]
    congr 1
    exact (decide_eq_false (by omega)).symm
/-- the bytes of a span -/
def bytesS (x : S41) : List Int := (List.range x.f1.toNat).map fun (i : Nat) => x.f0 + (i : Int)
def laid (l : List S41) : List Int := (l.filter fun x => decide (okS x)).flatMap bytesS
/-- a span put behind others: joined, if it touches the last one -/
def put (o : List S41) (x n : Int) : List S41 := match o.getLast? with
  | some y => if y.f0 + y.f1 = x then o.dropLast ++ [⟨y.f0, y.f1 + n⟩] else o ++ [⟨x, n⟩]
  | none => [⟨x, n⟩]
theorem put_nil (x n : Int) : put [] x n = [⟨x, n⟩] := rfl
theorem put_join (o : List S41) (y : S41) (x n : Int) (h : y.f0 + y.f1 = x) : put (o ++ [y]) x n = o ++ [⟨y.f0, y.f1 + n⟩] := by simp [put, h]
theorem put_new (o : List S41) (y : S41) (x n : Int) (h : ¬ y.f0 + y.f1 = x) : put (o ++ [y]) x n = o ++ [y] ++ [⟨x, n⟩] := by simp [put, h]
theorem last_of (o : List S41) : o = [] ∨ ∃ p y, o = p ++ [y] := by
  by_cases h : o = []
  · exact Or.inl h
  · exact Or.inr ⟨o.dropLast, o.getLast h, (List.dropLast_concat_getLast h).symm⟩
theorem put_put (o : List S41) (x n : Int) : put (put o x n) (x + n) 1 = put o x (n + 1) := by
  rcases last_of o with rfl | ⟨p, y, rfl⟩
  · rw [put_nil, put_nil]; exact put_join [] ⟨x, n⟩ _ 1 rfl
  · by_cases h : y.f0 + y.f1 = x
    · rw [put_join p y x n h, put_join p y x (n + 1) h, put_join p _ _ 1 (by show y.f0 + (y.f1 + n) = _; omega)]
      simp only [List.append_cancel_left_eq, List.cons.injEq, S41.mk.injEq, and_true, true_and]; omega
    · rw [put_new p y x n h, put_new p y x (n + 1) h, put_join (p ++ [y]) ⟨x, n⟩ _ 1 rfl]
theorem put_ne (o : List S41) (x n : Int) : put o x n ≠ [] := by
  rcases last_of o with rfl | ⟨p, y, rfl⟩
  · simp [put]
  · by_cases h : y.f0 + y.f1 = x
    · rw [put_join p y x n h]; simp
    · rw [put_new p y x n h]; simp
/-- the end of the last one -/
def endOf (o : List S41) : Option Int := o.getLast?.map fun y => y.f0 + y.f1
theorem end_put (o : List S41) (x n : Int) : endOf (put o x n) = some (x + n) := by
  rcases last_of o with rfl | ⟨p, y, rfl⟩
  · rw [put_nil]; rfl
  · by_cases h : y.f0 + y.f1 = x
    · rw [put_join p y x n h]; simp [endOf]; omega
    · rw [put_new p y x n h]; simp [endOf]
theorem range_bytes (a : Int) : ∀ (n : Nat), bytesS ⟨a, (n + 1 : Nat)⟩ = bytesS ⟨a, (n : Nat)⟩ ++ [a + (n : Int)] := by
  intro n; simp [bytesS, List.range_succ]
theorem put_bytes (o : List S41) (a : Int) : ∀ (n : Nat), (bytesS ⟨a, ((n + 1 : Nat) : Int)⟩).foldl (fun o b => put o b 1) o = put o a ((n + 1 : Nat) : Int)
  | 0 => by simp [bytesS, List.range_succ]
  | n + 1 => by
    rw [range_bytes, List.foldl_append, put_bytes o a n]
    show put (put o a _) (a + ((n + 1 : Nat) : Int)) 1 = _
    rw [put_put]; rfl
theorem bytes_of (x : S41) (h : 0 < x.f1) (o : List S41) : (bytesS x).foldl (fun o b => put o b 1) o = put o x.f0 x.f1 := by
  obtain ⟨a, n⟩ := x
  simp only at h
  obtain ⟨m, rfl⟩ : ∃ m : Nat, n = ((m + 1 : Nat) : Int) := ⟨(n - 1).toNat, by omega⟩
  exact put_bytes o a m
/-- spans glued -/
def glueP (o : List S41) : List S41 → List S41
  | [] => o
  | x :: l => glueP (if okS x then put o x.f0 x.f1 else o) l
def gluedP (o : List S41) (l : List Int) : List S41 := l.foldl (fun o b => put o b 1) o
theorem laid_nil : laid [] = [] := rfl
theorem laid_ok (x : S41) (l : List S41) (h : okS x) : laid (x :: l) = bytesS x ++ laid l := by simp [laid, h]
theorem laid_no (x : S41) (l : List S41) (h : ¬ okS x) : laid (x :: l) = laid l := by simp [laid, h]
theorem glue_laid (l : List S41) : ∀ o, glueP o l = gluedP o (laid l) := by
  induction l with
  | nil => intro o; rfl
  | cons x l ih =>
    intro o
    unfold glueP
    by_cases h : okS x
    · rw [if_pos h, laid_ok x l h, ih]
      unfold gluedP
      rw [List.foldl_append, bytes_of x h.2.1]
    · rw [if_neg h, laid_no x l h, ih]
theorem bytes_len (x : S41) : (bytesS x).length = x.f1.toNat := by simp [bytesS]
/-- the pieces of n bytes from off on -/
def cutP (off n : Int) (o : List S41) : List S41 → List S41
  | [] => o
  | x :: l => if okS x then
      if x.f1 ≤ off then cutP (off - x.f1) n o l
      else if n - min n (x.f1 - off) = 0 then o ++ [⟨x.f0 + off, min n (x.f1 - off)⟩] else cutP 0 (n - min n (x.f1 - off)) (o ++ [⟨x.f0 + off, min n (x.f1 - off)⟩]) l
    else cutP off n o l
theorem laid_app (a b : List S41) : laid (a ++ b) = laid a ++ laid b := by simp [laid]
theorem laid_one (x : S41) (h : okS x) : laid [x] = bytesS x := by simp [laid, h]
theorem bytes_cut (x : S41) (o k : Nat) (h : ((o + k : Nat) : Int) ≤ x.f1) : ((bytesS x).drop o).take k = bytesS ⟨x.f0 + (o : Int), (k : Int)⟩ := by
  apply List.ext_getElem
  · simp [bytes_len]; omega
  · intro i h1 h2
    simp [bytesS]; omega
theorem cut_laid (l : List S41) : ∀ (o : List S41) (off n : Nat), 0 < n → laid (cutP (off : Int) (n : Int) o l) = laid o ++ ((laid l).drop off).take n := by
  induction l with
  | nil => intro o off n hn; simp [cutP, laid_nil]
  | cons x l ih =>
    intro o off n hn
    unfold cutP
    by_cases h : okS x
    · have h' := h
      unfold okS at h'
      rw [if_pos h, laid_ok x l h]
      obtain ⟨m, hm⟩ : ∃ m : Nat, x.f1 = (m : Int) := ⟨x.f1.toNat, by omega⟩
      by_cases h1 : x.f1 ≤ (off : Int)
      · rw [if_pos h1, show (off : Int) - x.f1 = ((off - m : Nat) : Int) by omega, ih o _ n hn, List.drop_append, List.drop_of_length_le (l := bytesS x) (by rw [bytes_len]; omega), List.nil_append, bytes_len, show off - x.f1.toNat = off - m by omega]
      · rw [if_neg h1]
        have hoff : off < m := by omega
        obtain ⟨k, hk⟩ : ∃ k : Nat, k = min n (m - off) := ⟨_, rfl⟩
        have hkm : min (n : Int) (x.f1 - (off : Int)) = (k : Int) := by omega
        have hok : okS ⟨x.f0 + (off : Int), (k : Int)⟩ := by unfold okS; simp only; omega
        rw [hkm, List.drop_append, show off - (bytesS x).length = 0 by rw [bytes_len]; omega, List.drop_zero, List.take_append, List.length_drop, bytes_len]
        by_cases h2 : (n : Int) - (k : Int) = 0
        · obtain rfl : n = k := by omega
          rw [if_pos h2, laid_app, laid_one _ hok, bytes_cut x off n (by omega), show n - (x.f1.toNat - off) = 0 by omega, List.take_zero, List.append_nil]
        · have hk2 : k = m - off := by omega
          rw [if_neg h2, show (n : Int) - (k : Int) = ((n - k : Nat) : Int) by omega, show (0 : Int) = ((0 : Nat) : Int) from rfl, ih _ 0 (n - k) (by omega), laid_app, laid_one _ hok, List.drop_zero, ← bytes_cut x off k (by omega), List.append_assoc, show n - (x.f1.toNat - off) = n - k by omega,
            List.take_of_length_le (i := n) (by simp [bytes_len]; omega), List.take_of_length_le (i := k) (by simp [bytes_len]; omega)]
    · rw [if_neg h, laid_no x l h]; exact ih o off n hn
/-- the reference's part -/
def partP (all : List Int) (off n : Int) : List Int := if 0 ≤ off then (all.drop off.toNat).take n.toNat else []
theorem sum_len (l : List S41) : ((laid l).length : Int) = ((l.filter fun x => decide (okS x)).map (·.f1)).sum := by
  induction l with
  | nil => rfl
  | cons x l ih =>
    by_cases h : okS x
    · have h' := h
      unfold okS at h'
      rw [laid_ok x l h, List.length_append, bytes_len]
      simp [h, ← ih]; omega
    · rw [laid_no x l h, ih]; simp [h]
theorem mem_laid (l : List S41) (b : Int) : b ∈ laid l ↔ ∃ x ∈ l, okS x ∧ x.f0 ≤ b ∧ b < x.f0 + x.f1 := by
  unfold laid
  simp only [List.mem_flatMap, List.mem_filter, decide_eq_true_eq, bytesS, List.mem_map, List.mem_range]
  constructor
  · rintro ⟨x, ⟨hx, hk⟩, i, hi, rfl⟩; exact ⟨x, hx, hk, by omega, by omega⟩
  · rintro ⟨x, hx, hk, h1, h2⟩; exact ⟨x, ⟨hx, hk⟩, (b - x.f0).toNat, by omega, by omega⟩
theorem drop_span (l : List S41) (i : Nat) (h : i < l.length) : l.drop i = rd_T41 l (i : Int) :: l.drop (i + 1) := by
  rw [List.drop_eq_getElem_cons h]
  simp [rd_T41, List.getD_eq_getElem?_getD, h]
theorem up (i n : Nat) (h : i < n) (hn : n ≤ 4611686018427387904) : wrap64 ((i : Int) + 1) = ((i + 1 : Nat) : Int) := by unfold wrap64; omega
theorem last_rd (p : List S41) (y : S41) : rd_T41 (p ++ [y]) (p.length : Int) = y := by
  simp [rd_T41, List.getD_eq_getElem?_getD]
theorem last_set (p : List S41) (y z : S41) : (p ++ [y]).set (p.length : Int).toNat z = p ++ [z] := by
  simp
def inS (x : S41) : Prop := 0 ≤ x.f0 ∧ 0 ≤ x.f1 ∧ x.f0 + x.f1 ≤ 65536
theorem put_in (o : List S41) (x n : Int) (h : ∀ y ∈ o, inS y) (h0 : 0 ≤ x) (h1 : 0 ≤ n) (h2 : x + n ≤ 65536) : (∀ y ∈ put o x n, inS y) ∧ (put o x n).length ≤ o.length + 1 := by
  rcases last_of o with rfl | ⟨p, y, rfl⟩
  · rw [put_nil]
    exact ⟨fun y hy => by obtain rfl := List.mem_singleton.1 hy; exact ⟨h0, h1, h2⟩, by simp⟩
  · have hy := h y (by simp)
    unfold inS at hy
    by_cases hj : y.f0 + y.f1 = x
    · rw [put_join p y x n hj]
      refine ⟨fun z hz => ?_, by simp⟩
      rcases List.mem_append.1 hz with hz | hz
      · exact h z (by simp [hz])
      · obtain rfl := List.mem_singleton.1 hz; unfold inS; simp only; omega
    · rw [put_new p y x n hj]
      refine ⟨fun z hz => ?_, by simp⟩
      rcases List.mem_append.1 hz with hz | hz
      · exact h z hz
      · obtain rfl := List.mem_singleton.1 hz; exact ⟨h0, h1, h2⟩
theorem same_l0 (l : List S41) (hn : l.length ≤ 4611686018427387904) : ∀ (d i : Nat), i + d = l.length → Ev (fun k => wrackref1_SameSpans.l0 k l l (l.length : Int) (i : Int)) true
  | 0, i, hi => by
    refine Ev.step (f := fun _ => some _) (fun k => ?_) (Ev.now _)
    simp only [wrackref1_SameSpans.l0]
    rw [if_neg (by omega)]
  | d + 1, i, hi => by
    refine Ev.step (fun k => ?_) (same_l0 l hn d (i + 1) (by omega))
    simp only [wrackref1_SameSpans.l0]
    rw [if_pos (by omega), if_pos (by omega), if_pos (by omega), if_pos (by omega), if_neg (by simp), up i l.length (by omega) hn]
theorem same_ev (l : List S41) (hn : l.length ≤ 4611686018427387904) : Ev (fun k => wrackref1_SameSpans.f k l l) true := by
  refine Ev.congr (fun k => ?_) (same_l0 l hn l.length 0 (by omega))
  unfold wrackref1_SameSpans.f
  rw [if_pos rfl]; rfl
/-! what is in both -/
theorem end_val (x : S41) (h : okS x) : span_end.f x.f0 x.f1 = some (x.f0 + x.f1) := by
  unfold okS at h
  unfold span_end.f wrap64
  congr 1; omega
theorem drop_int (l : List Int) (i : Nat) (h : i < l.length) : l.drop i = rd l (i : Int) :: l.drop (i + 1) := by
  rw [List.drop_eq_getElem_cons h]
  simp [rd, List.getD_eq_getElem?_getD, h]
theorem glue_l0 (l : List S41) (hn : l.length ≤ 8796093022208) : ∀ (d i : Nat) (o : List S41), i + d = l.length → o.length ≤ i → (∀ y ∈ o, inS y) →
    Ev (fun k => span_Glue.l0 k o l (l.length : Int) (i : Int)) (glueP o (l.drop i))
  | 0, i, o, hi, h0, hq => by
    refine Ev.step (f := fun _ => some _) (fun k => ?_) (Ev.now _)
    simp only [span_Glue.l0]
    rw [if_neg (by omega), List.drop_of_length_le (by omega)]; rfl
  | d + 1, i, o, hi, h0, hq => by
    rw [drop_span l i (by omega)]
    generalize hx : rd_T41 l (i : Int) = x
    unfold glueP
    by_cases hk : okS x
    · have hk' := hk
      unfold okS at hk'
      rw [if_pos hk]
      obtain ⟨g1, g2⟩ := put_in o x.f0 x.f1 hq hk'.1 (by omega) hk'.2.2
      refine Ev.step (fun k => ?_) (glue_l0 l hn d (i + 1) (put o x.f0 x.f1) (by omega) (by omega) g1)
      simp only [span_Glue.l0]
      rw [if_pos (by omega), if_pos (by omega), if_pos (by omega), hx, good_val, Option.bind_some, decide_eq_true hk, if_pos rfl, up i l.length (by omega) (by omega)]
      rcases last_of o with rfl | ⟨p, y, rfl⟩
      · rw [put_nil, show wrap64 ((([] : List S41).length : Int) - 1) = -1 by unfold wrap64; simp only [List.length_nil]; omega, if_neg (by omega), if_pos (by simp)]; rfl
      · have hy := hq y (by simp)
        unfold inS at hy
        simp only [List.length_append, List.length_singleton] at h0 ⊢
        rw [show wrap64 (((p.length + 1 : Nat) : Int) - 1) = (p.length : Int) by unfold wrap64; omega, if_pos (by omega), if_pos (by omega), if_pos (by omega), last_rd, last_set]
        unfold span_end.f
        rw [Option.bind_some, show wrap64 (y.f0 + y.f1) = y.f0 + y.f1 by unfold wrap64; omega, show wrap64 (y.f1 + x.f1) = y.f1 + x.f1 by unfold wrap64; omega]
        by_cases hj : y.f0 + y.f1 = x.f0
        · rw [if_pos hj, put_join p y _ _ hj]
        · rw [if_neg hj, put_new p y _ _ hj, if_pos (by omega)]
    · rw [if_neg hk]
      refine Ev.step (fun k => ?_) (glue_l0 l hn d (i + 1) o (by omega) (by omega) hq)
      simp only [span_Glue.l0]
      rw [if_pos (by omega), if_pos (by omega), if_pos (by omega), hx, good_val, Option.bind_some, decide_eq_false hk, if_neg (by decide), up i l.length (by omega) (by omega)]
theorem glue_ev (l : List S41) (hn : l.length ≤ 8796093022208) : Ev (fun k => span_Glue.f k l) (gluedP [] (laid l)) := by
  rw [← glue_laid]
  exact glue_l0 l hn l.length 0 [] (by omega) (by simp) (by simp)
theorem glued_l0 (l : List Int) (hn : l.length ≤ 200000) (hb : ∀ b ∈ l, 0 ≤ b ∧ b < 65536) : ∀ (d i : Nat) (o : List S41), i + d = l.length → o.length ≤ i → (∀ y ∈ o, inS y) →
    (i = 0 → o = []) → (0 < i → ∃ p y, o = p ++ [y] ∧ y.f0 + y.f1 = rd l ((i : Int) - 1) + 1) →
    Ev (fun k => wrackref1_Glued.l0 k l o l (l.length : Int) (i : Int)) (gluedP o (l.drop i))
  | 0, i, o, hi, h0, hq, he, hp => by
    refine Ev.step (f := fun _ => some _) (fun k => ?_) (Ev.now _)
    simp only [wrackref1_Glued.l0]
    rw [if_neg (by omega), List.drop_of_length_le (by omega)]; rfl
  | d + 1, i, o, hi, h0, hq, he, hp => by
    have hxb : 0 ≤ rd l (i : Int) ∧ rd l (i : Int) < 65536 := hb _ (by unfold rd; rw [Int.toNat_natCast, List.getD_eq_getElem?_getD, List.getElem?_eq_getElem (by omega)]; simp)
    rw [drop_int l i (by omega)]
    show Ev _ (gluedP (put o (rd l (i : Int)) 1) (l.drop (i + 1)))
    obtain ⟨g1, g2⟩ := put_in o (rd l (i : Int)) 1 hq hxb.1 (by omega) (by omega)
    have hlast : ∃ p y, put o (rd l (i : Int)) 1 = p ++ [y] ∧ y.f0 + y.f1 = rd l (((i + 1 : Nat) : Int) - 1) + 1 := by
      have e := end_put o (rd l (i : Int)) 1
      rcases last_of (put o (rd l (i : Int)) 1) with h | ⟨p, y, h⟩
      · exact absurd h (put_ne _ _ _)
      · refine ⟨p, y, h, ?_⟩
        rw [h] at e
        simp [endOf] at e
        rw [show ((i + 1 : Nat) : Int) - 1 = (i : Int) by omega]
        omega
    refine Ev.step (fun k => ?_) (glued_l0 l hn hb d (i + 1) _ (by omega) (by omega) g1 (by omega) (fun _ => hlast))
    simp only [wrackref1_Glued.l0]
    rw [if_pos (by omega), if_pos (by omega), if_pos (by omega), up i l.length (by omega) (by omega)]
    by_cases hi0 : i = 0
    · obtain rfl := he hi0
      rw [if_neg (by omega), if_pos (by simp), put_nil]; rfl
    · obtain ⟨p, y, rfl, hy⟩ := hp (by omega)
      have hyi := hq y (by simp)
      unfold inS at hyi
      simp only [List.length_append, List.length_singleton] at h0 ⊢
      rw [if_pos (by omega), show wrap64 ((i : Int) - 1) = (i : Int) - 1 by unfold wrap64; omega, if_pos (by omega), if_pos (by omega), show wrap64 (((p.length + 1 : Nat) : Int) - 1) = (p.length : Int) by unfold wrap64; omega,
        show wrap64 (rd l ((i : Int) - 1) + 1) = y.f0 + y.f1 by rw [hy]; unfold wrap64; omega]
      by_cases hj : y.f0 + y.f1 = rd l (i : Int)
      · rw [if_pos hj.symm, if_pos (by omega), if_pos (by omega), last_rd, last_set, put_join p y _ _ hj, show wrap64 (y.f1 + 1) = y.f1 + 1 by unfold wrap64; omega]
      · rw [if_neg (fun h => hj h.symm), if_pos (by omega), put_new p y _ _ hj]
theorem glued_ev (l : List Int) (hn : l.length ≤ 200000) (hb : ∀ b ∈ l, 0 ≤ b ∧ b < 65536) : Ev (fun k => wrackref1_Glued.f k l) (gluedP [] l) :=
  glued_l0 l hn hb l.length 0 [] (by omega) (by simp) (by simp) (fun _ => rfl) (fun h => absurd h (by omega))
theorem glued_short (l : List Int) : ∀ o, (gluedP o l).length ≤ o.length + l.length := by
  induction l with
  | nil => intro o; simp [gluedP]
  | cons b l ih =>
    intro o
    have h : (put o b 1).length ≤ o.length + 1 := by
      rcases last_of o with rfl | ⟨p, y, rfl⟩
      · simp [put_nil]
      · by_cases hj : y.f0 + y.f1 = b
        · rw [put_join p y b 1 hj]; simp
        · rw [put_new p y b 1 hj]; simp
    have := ih (put o b 1)
    show (gluedP (put o b 1) l).length ≤ _
    simp only [List.length_cons]; omega
theorem laid_in (l : List S41) : ∀ b ∈ laid l, 0 ≤ b ∧ b < 65536 := by
  intro b hb
  obtain ⟨x, _, hk, h1, h2⟩ := (mem_laid l b).1 hb
  unfold okS at hk
  omega
end Go.Proofs.Ytlnikhijfamakaa.Pure
