/- The statement SpanLists over numbers and lists alone . -/
import Derived.Test.YtdgkbpoljcndgaaQSpanListsx7
namespace Go.Proofs.Ytdgkbpoljcndgaa.Pure
open Go Go.RowKit Go.Proofs.Ytdgkbpoljcndgaa.QSpanLists Go.Proofs.YtdgkbpoljcndgaaW.PrintWords Go.Proofs.YtdgkbpoljcndgaaW.PrintLast Go.Proofs.YtdgkbpoljcndgaaW.PrintMore
set_option linter.unusedVariables false
set_option linter.unusedSimpArgs false
/-- a right span that is not empty -/
def okS (x : S95) : Prop := 0 ≤ x.f0 ∧ 0 < x.f1 ∧ x.f0 + x.f1 ≤ 65536
instance (x : S95) : Decidable (okS x) := by unfold okS; exact inferInstance
theorem good_val (x : S95) : span_good.f x.f0 x.f1 = some (decide (okS x)) := by
  have hw : ∀ y : Int, 0 ≤ y → y ≤ 65536 → wrap64 (65536 - y) = 65536 - y := fun y h0 h1 => by unfold wrap64; omega
  have h : span_Check.f x.f0 x.f1 = some (if 0 ≤ x.f0 ∧ 0 ≤ x.f1 ∧ x.f0 + x.f1 ≤ 65536 then 0 else 4) := by
    unfold span_Check.f
    by_cases h1 : 0 ≤ x.f1 ∧ x.f1 ≤ 65536
    · rw [hw x.f1 h1.1 h1.2]
      repeat' split
      all_goals first | rfl | omega
    · repeat' split
      all_goals first | rfl | omega
  unfold span_good.f okS
  rw [h, Option.bind_some]
  by_cases hc : 0 ≤ x.f0 ∧ 0 ≤ x.f1 ∧ x.f0 + x.f1 ≤ 65536
  · rw [if_pos hc, if_pos rfl]
    congr 1
    exact decide_eq_decide.2 ⟨fun h => by omega, fun h => by omega⟩
  · rw [if_neg hc, if_neg (by decide)]
    congr 1
    exact (decide_eq_false (by omega)).symm
theorem end_val (x : S95) (h : okS x) : span_end.f x.f0 x.f1 = some (x.f0 + x.f1) := by
  unfold okS at h
  unfold span_end.f wrap64
  congr 1; omega
/-- the bytes of the right spans, one after the other -/
def bytesS (x : S95) : List Int := (List.range x.f1.toNat).map fun (i : Nat) => x.f0 + (i : Int)
def laid (l : List S95) : List Int := (l.filter fun x => decide (okS x)).flatMap bytesS
/-- a span put behind others: joined, if it touches the last one -/
def put (o : List S95) (x n : Int) : List S95 := match o.getLast? with
  | some y => if y.f0 + y.f1 = x then o.dropLast ++ [⟨y.f0, y.f1 + n⟩] else o ++ [⟨x, n⟩]
  | none => [⟨x, n⟩]
theorem put_nil (x n : Int) : put [] x n = [⟨x, n⟩] := rfl
theorem put_join (o : List S95) (y : S95) (x n : Int) (h : y.f0 + y.f1 = x) : put (o ++ [y]) x n = o ++ [⟨y.f0, y.f1 + n⟩] := by simp [put, h]
theorem put_new (o : List S95) (y : S95) (x n : Int) (h : ¬ y.f0 + y.f1 = x) : put (o ++ [y]) x n = o ++ [y] ++ [⟨x, n⟩] := by simp [put, h]
theorem last_of (o : List S95) : o = [] ∨ ∃ p y, o = p ++ [y] := by
  by_cases h : o = []
  · exact Or.inl h
  · exact Or.inr ⟨o.dropLast, o.getLast h, (List.dropLast_concat_getLast h).symm⟩
theorem put_put (o : List S95) (x n : Int) : put (put o x n) (x + n) 1 = put o x (n + 1) := by
  rcases last_of o with rfl | ⟨p, y, rfl⟩
  · rw [put_nil, put_nil]; exact put_join [] ⟨x, n⟩ _ 1 rfl
  · by_cases h : y.f0 + y.f1 = x
    · rw [put_join p y x n h, put_join p y x (n + 1) h, put_join p _ _ 1 (by show y.f0 + (y.f1 + n) = _; omega)]
      simp only [List.append_cancel_left_eq, List.cons.injEq, S95.mk.injEq, and_true, true_and]; omega
    · rw [put_new p y x n h, put_new p y x (n + 1) h, put_join (p ++ [y]) ⟨x, n⟩ _ 1 rfl]
theorem put_ne (o : List S95) (x n : Int) : put o x n ≠ [] := by
  rcases last_of o with rfl | ⟨p, y, rfl⟩
  · simp [put]
  · by_cases h : y.f0 + y.f1 = x
    · rw [put_join p y x n h]; simp
    · rw [put_new p y x n h]; simp
/-- the end of the last one -/
def endOf (o : List S95) : Option Int := o.getLast?.map fun y => y.f0 + y.f1
theorem end_put (o : List S95) (x n : Int) : endOf (put o x n) = some (x + n) := by
  rcases last_of o with rfl | ⟨p, y, rfl⟩
  · rw [put_nil]; rfl
  · by_cases h : y.f0 + y.f1 = x
    · rw [put_join p y x n h]; simp [endOf]; omega
    · rw [put_new p y x n h]; simp [endOf]
theorem range_bytes (a : Int) : ∀ (n : Nat), bytesS ⟨a, (n + 1 : Nat)⟩ = bytesS ⟨a, (n : Nat)⟩ ++ [a + (n : Int)] := by
  intro n; simp [bytesS, List.range_succ]
theorem put_bytes (o : List S95) (a : Int) : ∀ (n : Nat), (bytesS ⟨a, ((n + 1 : Nat) : Int)⟩).foldl (fun o b => put o b 1) o = put o a ((n + 1 : Nat) : Int)
  | 0 => by simp [bytesS, List.range_succ]
  | n + 1 => by
    rw [range_bytes, List.foldl_append, put_bytes o a n]
    show put (put o a _) (a + ((n + 1 : Nat) : Int)) 1 = _
    rw [put_put]; rfl
theorem bytes_of (x : S95) (h : 0 < x.f1) (o : List S95) : (bytesS x).foldl (fun o b => put o b 1) o = put o x.f0 x.f1 := by
  obtain ⟨a, n⟩ := x
  simp only at h
  obtain ⟨m, rfl⟩ : ∃ m : Nat, n = ((m + 1 : Nat) : Int) := ⟨(n - 1).toNat, by omega⟩
  exact put_bytes o a m
/-- spans glued -/
def glueP (o : List S95) : List S95 → List S95
  | [] => o
  | x :: l => glueP (if okS x then put o x.f0 x.f1 else o) l
def gluedP (o : List S95) (l : List Int) : List S95 := l.foldl (fun o b => put o b 1) o
theorem laid_nil : laid [] = [] := rfl
theorem laid_ok (x : S95) (l : List S95) (h : okS x) : laid (x :: l) = bytesS x ++ laid l := by simp [laid, h]
theorem laid_no (x : S95) (l : List S95) (h : ¬ okS x) : laid (x :: l) = laid l := by simp [laid, h]
theorem glue_laid (l : List S95) : ∀ o, glueP o l = gluedP o (laid l) := by
  induction l with
  | nil => intro o; rfl
  | cons x l ih =>
    intro o
    unfold glueP
    by_cases h : okS x
    · rw [if_pos h, laid_ok x l h, ih]
      unfold gluedP
      rw [List.foldl_append, bytes_of x h.2.1]
    · rw [if_neg h, laid_no x l h, ih]
theorem bytes_len (x : S95) : (bytesS x).length = x.f1.toNat := by simp [bytesS]
/-- the pieces of n bytes from off on -/
def cutP (off n : Int) (o : List S95) : List S95 → List S95
  | [] => o
  | x :: l => if okS x then
      if x.f1 ≤ off then cutP (off - x.f1) n o l
      else if n - min n (x.f1 - off) = 0 then o ++ [⟨x.f0 + off, min n (x.f1 - off)⟩] else cutP 0 (n - min n (x.f1 - off)) (o ++ [⟨x.f0 + off, min n (x.f1 - off)⟩]) l
    else cutP off n o l
theorem laid_app (a b : List S95) : laid (a ++ b) = laid a ++ laid b := by simp [laid]
theorem laid_one (x : S95) (h : okS x) : laid [x] = bytesS x := by simp [laid, h]
theorem bytes_cut (x : S95) (o k : Nat) (h : ((o + k : Nat) : Int) ≤ x.f1) : ((bytesS x).drop o).take k = bytesS ⟨x.f0 + (o : Int), (k : Int)⟩ := by
  apply List.ext_getElem
  · simp [bytes_len]; omega
  · intro i h1 h2
    simp [bytesS]; omega
theorem cut_laid (l : List S95) : ∀ (o : List S95) (off n : Nat), 0 < n → laid (cutP (off : Int) (n : Int) o l) = laid o ++ ((laid l).drop off).take n := by
  induction l with
  | nil => intro o off n hn; simp [cutP, laid_nil]
  | cons x l ih =>
    intro o off n hn
    unfold cutP
    by_cases h : okS x
    · have h' := h
      unfold okS at h'
      rw [if_pos h, laid_ok x l h]
      obtain ⟨m, hm⟩ : ∃ m : Nat, x.f1 = (m : Int) := ⟨x.f1.toNat, by omega⟩
      by_cases h1 : x.f1 ≤ (off : Int)
      · rw [if_pos h1, show (off : Int) - x.f1 = ((off - m : Nat) : Int) by omega, ih o _ n hn, List.drop_append, List.drop_of_length_le (l := bytesS x) (by rw [bytes_len]; omega), List.nil_append, bytes_len, show off - x.f1.toNat = off - m by omega]
      · rw [if_neg h1]
        have hoff : off < m := by omega
        obtain ⟨k, hk⟩ : ∃ k : Nat, k = min n (m - off) := ⟨_, rfl⟩
        have hkm : min (n : Int) (x.f1 - (off : Int)) = (k : Int) := by omega
        have hok : okS ⟨x.f0 + (off : Int), (k : Int)⟩ := by unfold okS; simp only; omega
        rw [hkm, List.drop_append, show off - (bytesS x).length = 0 by rw [bytes_len]; omega, List.drop_zero, List.take_append, List.length_drop, bytes_len]
        by_cases h2 : (n : Int) - (k : Int) = 0
        · obtain rfl : n = k := by omega
          rw [if_pos h2, laid_app, laid_one _ hok, bytes_cut x off n (by omega), show n - (x.f1.toNat - off) = 0 by omega, List.take_zero, List.append_nil]
        · have hk2 : k = m - off := by omega
          rw [if_neg h2, show (n : Int) - (k : Int) = ((n - k : Nat) : Int) by omega, show (0 : Int) = ((0 : Nat) : Int) from rfl, ih _ 0 (n - k) (by omega), laid_app, laid_one _ hok, List.drop_zero, ← bytes_cut x off k (by omega), List.append_assoc, show n - (x.f1.toNat - off) = n - k by omega,
            List.take_of_length_le (i := n) (by simp [bytes_len]; omega), List.take_of_length_le (i := k) (by simp [bytes_len]; omega)]
    · rw [if_neg h, laid_no x l h]; exact ih o off n hn
/-- the reference's part -/
def partP (all : List Int) (off n : Int) : List Int := if 0 ≤ off then (all.drop off.toNat).take n.toNat else []
theorem sum_len (l : List S95) : ((laid l).length : Int) = ((l.filter fun x => decide (okS x)).map (·.f1)).sum := by
  induction l with
  | nil => rfl
  | cons x l ih =>
    by_cases h : okS x
    · have h' := h
      unfold okS at h'
      rw [laid_ok x l h, List.length_append, bytes_len]
      simp [h, ← ih]; omega
    · rw [laid_no x l h, ih]; simp [h]
theorem mem_laid (l : List S95) (b : Int) : b ∈ laid l ↔ ∃ x ∈ l, okS x ∧ x.f0 ≤ b ∧ b < x.f0 + x.f1 := by
  unfold laid
  simp only [List.mem_flatMap, List.mem_filter, decide_eq_true_eq, bytesS, List.mem_map, List.mem_range]
  constructor
  · rintro ⟨x, ⟨hx, hk⟩, i, hi, rfl⟩; exact ⟨x, hx, hk, by omega, by omega⟩
  · rintro ⟨x, hx, hk, h1, h2⟩; exact ⟨x, ⟨hx, hk⟩, (b - x.f0).toNat, by omega, by omega⟩
theorem drop_span (l : List S95) (i : Nat) (h : i < l.length) : l.drop i = rd_T95 l (i : Int) :: l.drop (i + 1) := by
  rw [List.drop_eq_getElem_cons h]
  simp [rd_T95, List.getD_eq_getElem?_getD, h]
theorem drop_int (l : List Int) (i : Nat) (h : i < l.length) : l.drop i = rd l (i : Int) :: l.drop (i + 1) := by
  rw [List.drop_eq_getElem_cons h]
  simp [rd, List.getD_eq_getElem?_getD, h]
theorem up (i n : Nat) (h : i < n) (hn : n ≤ 4611686018427387904) : wrap64 ((i : Int) + 1) = ((i + 1 : Nat) : Int) := by unfold wrap64; omega
theorem right_val (x : S95) : wrackref1_Right.f x.f0 x.f1 = some (decide (0 ≤ x.f0 ∧ 0 ≤ x.f1 ∧ x.f0 + x.f1 ≤ 65536)) := by
  unfold wrackref1_Right.f
  by_cases h : (0 ≤ x.f0 ∧ 0 ≤ x.f1) ∧ (x.f0 ≤ 65536 ∧ x.f1 ≤ 65536)
  · rw [if_pos h.1.1, if_pos h.1.2, if_pos h.2.1, if_pos h.2.2]
    congr 1
    refine decide_eq_decide.2 ?_
    unfold wrap64; omega
  · repeat' split
    all_goals first | (congr 1; exact (decide_eq_false (by omega)).symm) | (exfalso; omega)
theorem heavy_l0 (l : List S95) (hn : l.length ≤ 4611686018427387904) : ∀ (d i : Nat) (n : Int), i + d = l.length → 0 ≤ n → n ≤ 200000 →
    ∃ b, Ev (fun k => wracklaw1_heavy.l0 k n l (l.length : Int) (i : Int)) b ∧ (b = false → n + ((laid (l.drop i)).length : Int) ≤ 200000)
  | 0, i, n, hi, h0, h1 => by
    refine ⟨false, Ev.step (f := fun _ => some _) (fun k => ?_) (Ev.now _), fun _ => ?_⟩
    · simp only [wracklaw1_heavy.l0]
      rw [if_neg (by omega)]
    · rw [List.drop_of_length_le (by omega)]; simp [laid_nil]; omega
  | d + 1, i, n, hi, h0, h1 => by
    rw [drop_span l i (by omega)]
    generalize hx : rd_T95 l (i : Int) = x
    by_cases hr : 0 ≤ x.f0 ∧ 0 ≤ x.f1 ∧ x.f0 + x.f1 ≤ 65536
    · have hw : wrap64 (n + x.f1) = n + x.f1 := by unfold wrap64; omega
      have hlen : (laid (x :: l.drop (i + 1))).length = x.f1.toNat + (laid (l.drop (i + 1))).length := by
        by_cases hk : okS x
        · rw [laid_ok _ _ hk, List.length_append, bytes_len]
        · rw [laid_no _ _ hk]; unfold okS at hk; omega
      by_cases hb : n + x.f1 > 200000
      · refine ⟨true, Ev.step (f := fun _ => some _) (fun k => ?_) (Ev.now _), fun h => by simp at h⟩
        simp only [wracklaw1_heavy.l0]
        rw [if_pos (by omega), if_pos (by omega), if_pos (by omega), hx, right_val, Option.bind_some, decide_eq_true hr, if_pos rfl, hw, if_pos hb]
      · obtain ⟨b, e, f⟩ := heavy_l0 l hn d (i + 1) (n + x.f1) (by omega) (by omega) (by omega)
        refine ⟨b, Ev.step (fun k => ?_) e, fun h => by have := f h; omega⟩
        simp only [wracklaw1_heavy.l0]
        rw [if_pos (by omega), if_pos (by omega), if_pos (by omega), hx, right_val, Option.bind_some, decide_eq_true hr, if_pos rfl, hw, if_neg hb, up i l.length (by omega) hn]
    · obtain ⟨b, e, f⟩ := heavy_l0 l hn d (i + 1) n (by omega) (by omega) (by omega)
      refine ⟨b, Ev.step (fun k => ?_) e, fun h => by rw [laid_no _ _ (by unfold okS; omega)]; exact f h⟩
      simp only [wracklaw1_heavy.l0]
      rw [if_pos (by omega), if_pos (by omega), if_pos (by omega), hx, right_val, Option.bind_some, decide_eq_false hr, if_neg (by decide), if_neg (by omega), up i l.length (by omega) hn]
theorem laid_l1 (l : List S95) (i : Nat) (x : S95) (m : Nat) (hm : x.f1 = (m : Int)) (h0 : 0 ≤ x.f0) (h1 : x.f0 + x.f1 ≤ 65536) (acc : List Int) (r : List Int) (ha : acc.length + m ≤ 200000) (hi : i < l.length) (hn : l.length ≤ 4611686018427387904)
    (he : Ev (fun k => wrackref1_Laid.l0 k (acc ++ bytesS x) l (l.length : Int) ((i + 1 : Nat) : Int)) r) : ∀ (d j : Nat), j + d = m →
    Ev (fun k => wrackref1_Laid.l1 k (acc ++ bytesS ⟨x.f0, (j : Int)⟩) l (l.length : Int) (i : Int) x.f1 (j : Int) x.f0 x.f1) r
  | 0, j, hj => by
    refine Ev.step (fun k => ?_) he
    simp only [wrackref1_Laid.l1]
    rw [if_neg (by omega), up i l.length hi hn]
    have : x = ⟨x.f0, (j : Int)⟩ := by cases x; simp only [S95.mk.injEq, true_and]; simp only at hm; omega
    rw [← this]
  | d + 1, j, hj => by
    refine Ev.step (fun k => ?_) (laid_l1 l i x m hm h0 h1 acc r ha hi hn he d (j + 1) (by omega))
    simp only [wrackref1_Laid.l1]
    have hw : wrap64 (x.f0 + (j : Int)) = x.f0 + (j : Int) := by unfold wrap64; omega
    rw [if_pos (by omega), if_pos (by rw [List.length_append, bytes_len]; simp only; omega), hw, up j (m + 1) (by omega) (by omega), range_bytes, List.append_assoc]
theorem laid_l0 (l : List S95) (hn : l.length ≤ 4611686018427387904) : ∀ (d i : Nat) (acc : List Int), i + d = l.length → acc.length + (laid (l.drop i)).length ≤ 200000 →
    Ev (fun k => wrackref1_Laid.l0 k acc l (l.length : Int) (i : Int)) (acc ++ laid (l.drop i))
  | 0, i, acc, hi, ha => by
    refine Ev.step (f := fun _ => some _) (fun k => ?_) (Ev.now _)
    simp only [wrackref1_Laid.l0]
    rw [if_neg (by omega), List.drop_of_length_le (by omega), laid_nil, List.append_nil]
  | d + 1, i, acc, hi, ha => by
    rw [drop_span l i (by omega)] at ha ⊢
    generalize hx : rd_T95 l (i : Int) = x at ha ⊢
    by_cases hr : 0 ≤ x.f0 ∧ 0 ≤ x.f1 ∧ x.f0 + x.f1 ≤ 65536
    · have hl : laid (x :: l.drop (i + 1)) = bytesS x ++ laid (l.drop (i + 1)) := by
        by_cases hk : okS x
        · rw [laid_ok _ _ hk]
        · have : x.f1.toNat = 0 := by unfold okS at hk; omega
          rw [laid_no _ _ hk]; simp [bytesS, this]
      rw [hl] at ha ⊢
      have hb := bytes_len x
      rw [List.length_append] at ha
      have e := laid_l0 l hn d (i + 1) (acc ++ bytesS x) (by omega) (by rw [List.length_append]; omega)
      rw [List.append_assoc] at e
      have e2 := laid_l1 l i x x.f1.toNat (by omega) hr.1 hr.2.2 acc _ (by omega) (by omega) hn e x.f1.toNat 0 (by omega)
      refine Ev.step (fun k => ?_) e2
      simp only [wrackref1_Laid.l0]
      rw [if_pos (by omega), if_pos (by omega), if_pos (by omega), hx, right_val, Option.bind_some, decide_eq_true hr, if_pos rfl]
      simp [bytesS]
    · rw [laid_no _ _ (by unfold okS; omega)] at ha ⊢
      refine Ev.step (fun k => ?_) (laid_l0 l hn d (i + 1) acc (by omega) ha)
      simp only [wrackref1_Laid.l0]
      rw [if_pos (by omega), if_pos (by omega), if_pos (by omega), hx, right_val, Option.bind_some, decide_eq_false hr, if_neg (by decide), up i l.length (by omega) hn]
theorem count_l0 (l : List S95) (hn : l.length ≤ 4611686018427387904) : ∀ (d i : Nat) (n : Int), i + d = l.length → 0 ≤ n → n + ((laid (l.drop i)).length : Int) ≤ 200000 →
    Ev (fun k => span_Count.l0 k n l (l.length : Int) (i : Int)) (n + ((laid (l.drop i)).length : Int))
  | 0, i, n, hi, h0, ha => by
    refine Ev.step (f := fun _ => some _) (fun k => ?_) (Ev.now _)
    simp only [span_Count.l0]
    rw [if_neg (by omega), List.drop_of_length_le (by omega), laid_nil]; simp
  | d + 1, i, n, hi, h0, ha => by
    rw [drop_span l i (by omega)] at ha ⊢
    generalize hx : rd_T95 l (i : Int) = x at ha ⊢
    by_cases hk : okS x
    · have hk' := hk
      unfold okS at hk'
      have hb := bytes_len x
      rw [laid_ok _ _ hk, List.length_append] at ha ⊢
      have e := count_l0 l hn d (i + 1) (n + x.f1) (by omega) (by omega) (by omega)
      rw [show n + ((((bytesS x).length + (laid (l.drop (i + 1))).length : Nat)) : Int) = n + x.f1 + ((laid (l.drop (i + 1))).length : Int) by omega]
      refine Ev.step (fun k => ?_) e
      simp only [span_Count.l0]
      rw [if_pos (by omega), if_pos (by omega), if_pos (by omega), hx, good_val, Option.bind_some, decide_eq_true hk, if_pos rfl, up i l.length (by omega) hn, show wrap64 (n + x.f1) = n + x.f1 by unfold wrap64; omega]
    · rw [laid_no _ _ hk] at ha ⊢
      refine Ev.step (fun k => ?_) (count_l0 l hn d (i + 1) n (by omega) h0 ha)
      simp only [span_Count.l0]
      rw [if_pos (by omega), if_pos (by omega), if_pos (by omega), hx, good_val, Option.bind_some, decide_eq_false hk, if_neg (by decide), up i l.length (by omega) hn]
theorem index_l0 (l : List Int) (a : Int) (hn : l.length ≤ 4611686018427387904) : ∀ (d i : Nat), i + d = l.length →
    ∃ r, Ev (fun k => slices_Index_int_int.l0 k l a (l.length : Int) (i : Int)) r ∧ decide (r ≥ 0) = decide (a ∈ l.drop i)
  | 0, i, hi => by
    refine ⟨-1, Ev.step (f := fun _ => some _) (fun k => ?_) (Ev.now _), ?_⟩
    · simp only [slices_Index_int_int.l0]
      rw [if_neg (by omega)]
    · rw [List.drop_of_length_le (by omega)]; simp
  | d + 1, i, hi => by
    rw [drop_int l i (by omega)]
    generalize hx : rd l (i : Int) = x
    by_cases ha : a = x
    · refine ⟨(i : Int), Ev.step (f := fun _ => some _) (fun k => ?_) (Ev.now _), ?_⟩
      · simp only [slices_Index_int_int.l0]
        rw [if_pos (by omega), if_pos (by omega), if_pos (by omega), hx, if_pos ha]
      · rw [decide_eq_true (by omega), decide_eq_true (by rw [ha]; simp)]
    · obtain ⟨r, e, f⟩ := index_l0 l a hn d (i + 1) (by omega)
      refine ⟨r, Ev.step (fun k => ?_) e, ?_⟩
      · simp only [slices_Index_int_int.l0]
        rw [if_pos (by omega), if_pos (by omega), if_pos (by omega), hx, if_neg ha, up i l.length (by omega) hn]
      · rw [f]; exact decide_eq_decide.2 ⟨fun h => List.mem_cons_of_mem _ h, fun h => (List.mem_cons.1 h).elim (fun h => absurd h ha) id⟩
theorem has_val (l : List S95) (a : Int) : l.any (hasP a) = decide (a ∈ laid l) := by
  have hp : ∀ x : S95, hasP a x = decide (okS x ∧ x.f0 ≤ a ∧ a < x.f0 + x.f1) := by
    intro x
    unfold hasP
    rw [good_val]
    by_cases hk : okS x
    · rw [decide_eq_true hk, if_pos rfl]
      have hk' := hk
      unfold okS at hk'
      rw [show wrap64 (x.f0 + x.f1) = x.f0 + x.f1 by unfold wrap64; omega]
      by_cases h : x.f0 ≤ a
      · rw [if_pos h]; exact decide_eq_decide.2 ⟨fun g => ⟨hk, h, g⟩, fun g => g.2.2⟩
      · rw [if_neg h]; exact (decide_eq_false fun g => h g.2.1).symm
    · rw [decide_eq_false hk, if_neg (by simp)]; exact (decide_eq_false fun g => hk g.1).symm
  rw [Bool.eq_iff_iff, List.any_eq_true, decide_eq_true_iff, mem_laid]
  simp only [hp, decide_eq_true_eq]
theorem last_rd (p : List S95) (y : S95) : rd_T95 (p ++ [y]) (p.length : Int) = y := by
  simp [rd_T95, List.getD_eq_getElem?_getD]
theorem last_set (p : List S95) (y z : S95) : (p ++ [y]).set (p.length : Int).toNat z = p ++ [z] := by
  simp
def inS (x : S95) : Prop := 0 ≤ x.f0 ∧ 0 ≤ x.f1 ∧ x.f0 + x.f1 ≤ 65536
theorem put_in (o : List S95) (x n : Int) (h : ∀ y ∈ o, inS y) (h0 : 0 ≤ x) (h1 : 0 ≤ n) (h2 : x + n ≤ 65536) : (∀ y ∈ put o x n, inS y) ∧ (put o x n).length ≤ o.length + 1 := by
  rcases last_of o with rfl | ⟨p, y, rfl⟩
  · rw [put_nil]
    exact ⟨fun y hy => by obtain rfl := List.mem_singleton.1 hy; exact ⟨h0, h1, h2⟩, by simp⟩
  · have hy := h y (by simp)
    unfold inS at hy
    by_cases hj : y.f0 + y.f1 = x
    · rw [put_join p y x n hj]
      refine ⟨fun z hz => ?_, by simp⟩
      rcases List.mem_append.1 hz with hz | hz
      · exact h z (by simp [hz])
      · obtain rfl := List.mem_singleton.1 hz; unfold inS; simp only; omega
    · rw [put_new p y x n hj]
      refine ⟨fun z hz => ?_, by simp⟩
      rcases List.mem_append.1 hz with hz | hz
      · exact h z hz
      · obtain rfl := List.mem_singleton.1 hz; exact ⟨h0, h1, h2⟩
theorem glue_l0 (l : List S95) (hn : l.length ≤ 8796093022208) : ∀ (d i : Nat) (o : List S95), i + d = l.length → o.length ≤ i → (∀ y ∈ o, inS y) →
    Ev (fun k => span_Glue.l0 k o l (l.length : Int) (i : Int)) (glueP o (l.drop i))
  | 0, i, o, hi, h0, hq => by
    refine Ev.step (f := fun _ => some _) (fun k => ?_) (Ev.now _)
    simp only [span_Glue.l0]
    rw [if_neg (by omega), List.drop_of_length_le (by omega)]; rfl
  | d + 1, i, o, hi, h0, hq => by
    rw [drop_span l i (by omega)]
    generalize hx : rd_T95 l (i : Int) = x
    unfold glueP
    by_cases hk : okS x
    · have hk' := hk
      unfold okS at hk'
      rw [if_pos hk]
      obtain ⟨g1, g2⟩ := put_in o x.f0 x.f1 hq hk'.1 (by omega) hk'.2.2
      refine Ev.step (fun k => ?_) (glue_l0 l hn d (i + 1) (put o x.f0 x.f1) (by omega) (by omega) g1)
      simp only [span_Glue.l0]
      rw [if_pos (by omega), if_pos (by omega), if_pos (by omega), hx, good_val, Option.bind_some, decide_eq_true hk, if_pos rfl, up i l.length (by omega) (by omega)]
      rcases last_of o with rfl | ⟨p, y, rfl⟩
      · rw [put_nil, show wrap64 ((([] : List S95).length : Int) - 1) = -1 by unfold wrap64; simp only [List.length_nil]; omega, if_neg (by omega), if_pos (by simp)]; rfl
      · have hy := hq y (by simp)
        unfold inS at hy
        simp only [List.length_append, List.length_singleton] at h0 ⊢
        rw [show wrap64 (((p.length + 1 : Nat) : Int) - 1) = (p.length : Int) by unfold wrap64; omega, if_pos (by omega), if_pos (by omega), if_pos (by omega), last_rd, last_set]
        unfold span_end.f
        rw [Option.bind_some, show wrap64 (y.f0 + y.f1) = y.f0 + y.f1 by unfold wrap64; omega, show wrap64 (y.f1 + x.f1) = y.f1 + x.f1 by unfold wrap64; omega]
        by_cases hj : y.f0 + y.f1 = x.f0
        · rw [if_pos hj, put_join p y _ _ hj]
        · rw [if_neg hj, put_new p y _ _ hj, if_pos (by omega)]
    · rw [if_neg hk]
      refine Ev.step (fun k => ?_) (glue_l0 l hn d (i + 1) o (by omega) (by omega) hq)
      simp only [span_Glue.l0]
      rw [if_pos (by omega), if_pos (by omega), if_pos (by omega), hx, good_val, Option.bind_some, decide_eq_false hk, if_neg (by decide), up i l.length (by omega) (by omega)]
theorem glue_ev (l : List S95) (hn : l.length ≤ 8796093022208) : Ev (fun k => span_Glue.f k l) (gluedP [] (laid l)) := by
  rw [← glue_laid]
  exact glue_l0 l hn l.length 0 [] (by omega) (by simp) (by simp)
theorem glued_l0 (l : List Int) (hn : l.length ≤ 200000) (hb : ∀ b ∈ l, 0 ≤ b ∧ b < 65536) : ∀ (d i : Nat) (o : List S95), i + d = l.length → o.length ≤ i → (∀ y ∈ o, inS y) →
    (i = 0 → o = []) → (0 < i → ∃ p y, o = p ++ [y] ∧ y.f0 + y.f1 = rd l ((i : Int) - 1) + 1) →
    Ev (fun k => wrackref1_Glued.l0 k l o l (l.length : Int) (i : Int)) (gluedP o (l.drop i))
  | 0, i, o, hi, h0, hq, he, hp => by
    refine Ev.step (f := fun _ => some _) (fun k => ?_) (Ev.now _)
    simp only [wrackref1_Glued.l0]
    rw [if_neg (by omega), List.drop_of_length_le (by omega)]; rfl
  | d + 1, i, o, hi, h0, hq, he, hp => by
    have hxb : 0 ≤ rd l (i : Int) ∧ rd l (i : Int) < 65536 := hb _ (by unfold rd; rw [Int.toNat_natCast, List.getD_eq_getElem?_getD, List.getElem?_eq_getElem (by omega)]; simp)
    rw [drop_int l i (by omega)]
    show Ev _ (gluedP (put o (rd l (i : Int)) 1) (l.drop (i + 1)))
    obtain ⟨g1, g2⟩ := put_in o (rd l (i : Int)) 1 hq hxb.1 (by omega) (by omega)
    have hlast : ∃ p y, put o (rd l (i : Int)) 1 = p ++ [y] ∧ y.f0 + y.f1 = rd l (((i + 1 : Nat) : Int) - 1) + 1 := by
      have e := end_put o (rd l (i : Int)) 1
      rcases last_of (put o (rd l (i : Int)) 1) with h | ⟨p, y, h⟩
      · exact absurd h (put_ne _ _ _)
      · refine ⟨p, y, h, ?_⟩
        rw [h] at e
        simp [endOf] at e
        rw [show ((i + 1 : Nat) : Int) - 1 = (i : Int) by omega]
        omega
    refine Ev.step (fun k => ?_) (glued_l0 l hn hb d (i + 1) _ (by omega) (by omega) g1 (by omega) (fun _ => hlast))
    simp only [wrackref1_Glued.l0]
    rw [if_pos (by omega), if_pos (by omega), if_pos (by omega), up i l.length (by omega) (by omega)]
    by_cases hi0 : i = 0
    · obtain rfl := he hi0
      rw [if_neg (by omega), if_pos (by simp), put_nil]; rfl
    · obtain ⟨p, y, rfl, hy⟩ := hp (by omega)
      have hyi := hq y (by simp)
      unfold inS at hyi
      simp only [List.length_append, List.length_singleton] at h0 ⊢
      rw [if_pos (by omega), show wrap64 ((i : Int) - 1) = (i : Int) - 1 by unfold wrap64; omega, if_pos (by omega), if_pos (by omega), show wrap64 (((p.length + 1 : Nat) : Int) - 1) = (p.length : Int) by unfold wrap64; omega,
        show wrap64 (rd l ((i : Int) - 1) + 1) = y.f0 + y.f1 by rw [hy]; unfold wrap64; omega]
      by_cases hj : y.f0 + y.f1 = rd l (i : Int)
      · rw [if_pos hj.symm, if_pos (by omega), if_pos (by omega), last_rd, last_set, put_join p y _ _ hj, show wrap64 (y.f1 + 1) = y.f1 + 1 by unfold wrap64; omega]
      · rw [if_neg (fun h => hj h.symm), if_pos (by omega), put_new p y _ _ hj]
theorem glued_ev (l : List Int) (hn : l.length ≤ 200000) (hb : ∀ b ∈ l, 0 ≤ b ∧ b < 65536) : Ev (fun k => wrackref1_Glued.f k l) (gluedP [] l) :=
  glued_l0 l hn hb l.length 0 [] (by omega) (by simp) (by simp) (fun _ => rfl) (fun h => absurd h (by omega))
theorem same_l0 (l : List S95) (hn : l.length ≤ 4611686018427387904) : ∀ (d i : Nat), i + d = l.length → Ev (fun k => wrackref1_SameSpans.l0 k l l (l.length : Int) (i : Int)) true
  | 0, i, hi => by
    refine Ev.step (f := fun _ => some _) (fun k => ?_) (Ev.now _)
    simp only [wrackref1_SameSpans.l0]
    rw [if_neg (by omega)]
  | d + 1, i, hi => by
    refine Ev.step (fun k => ?_) (same_l0 l hn d (i + 1) (by omega))
    simp only [wrackref1_SameSpans.l0]
    rw [if_pos (by omega), if_pos (by omega), if_pos (by omega), if_pos (by omega), if_neg (by simp), up i l.length (by omega) hn]
theorem same_ev (l : List S95) (hn : l.length ≤ 4611686018427387904) : Ev (fun k => wrackref1_SameSpans.f k l l) true := by
  refine Ev.congr (fun k => ?_) (same_l0 l hn l.length 0 (by omega))
  unfold wrackref1_SameSpans.f
  rw [if_pos rfl]; rfl
theorem glued_short (l : List Int) : ∀ o, (gluedP o l).length ≤ o.length + l.length := by
  induction l with
  | nil => intro o; simp [gluedP]
  | cons b l ih =>
    intro o
    have h : (put o b 1).length ≤ o.length + 1 := by
      rcases last_of o with rfl | ⟨p, y, rfl⟩
      · simp [put_nil]
      · by_cases hj : y.f0 + y.f1 = b
        · rw [put_join p y b 1 hj]; simp
        · rw [put_new p y b 1 hj]; simp
    have := ih (put o b 1)
    show (gluedP (put o b 1) l).length ≤ _
    simp only [List.length_cons]; omega
theorem slice_l0 (l : List S95) (hn : l.length ≤ 8796093022208) : ∀ (d i : Nat) (off n : Int) (o : List S95), i + d = l.length → o.length ≤ i → 0 ≤ off → off ≤ 9223372036854775807 → 0 < n → n ≤ 9223372036854775807 →
    Ev (fun k => span_Slice.l0 k off n o l (l.length : Int) (i : Int)) (gluedP [] (laid (cutP off n o (l.drop i))))
  | 0, i, off, n, o, hi, ho, h0, h1, h2, h3 => by
    refine Ev.step (f := fun k => (span_Glue.f k o).bind fun t => some t) (fun k => ?_) (Ev.bind (f := fun _ t => some t) ?_ (Ev.now _))
    · simp only [span_Slice.l0]
      rw [if_neg (by omega)]
    · rw [List.drop_of_length_le (by omega)]
      exact glue_ev o (by omega)
  | d + 1, i, off, n, o, hi, ho, h0, h1, h2, h3 => by
    rw [drop_span l i (by omega)]
    generalize hx : rd_T95 l (i : Int) = x
    unfold cutP
    by_cases hk : okS x
    · have hk' := hk
      unfold okS at hk'
      rw [if_pos hk]
      by_cases hf : x.f1 ≤ off
      · rw [if_pos hf]
        refine Ev.step (fun k => ?_) (slice_l0 l hn d (i + 1) (off - x.f1) n o (by omega) (by omega) (by omega) (by omega) h2 h3)
        simp only [span_Slice.l0]
        rw [if_pos (by omega), if_pos (by omega), if_pos (by omega), hx, good_val, Option.bind_some, decide_eq_true hk, if_pos rfl, if_pos (by omega), up i l.length (by omega) (by omega), show wrap64 (off - x.f1) = off - x.f1 by unfold wrap64; omega]
      · rw [if_neg hf]
        have hmn : mn n (wrap64 (x.f1 - off)) = min n (x.f1 - off) := by
          rw [show wrap64 (x.f1 - off) = x.f1 - off by unfold wrap64; omega]
          unfold mn; split <;> omega
        generalize hm : min n (x.f1 - off) = m at hmn ⊢
        have hw : wrap64 (n - m) = n - m := by unfold wrap64; omega
        have hw2 : wrap64 (x.f0 + off) = x.f0 + off := by unfold wrap64; omega
        by_cases hz : n - m = 0
        · rw [if_pos hz]
          refine Ev.step (f := fun k => (span_Glue.f k (o ++ [⟨x.f0 + off, m⟩])).bind fun t => some t) (fun k => ?_) (Ev.bind (f := fun _ t => some t) (glue_ev _ (by simp; omega)) (Ev.now _))
          simp only [span_Slice.l0]
          rw [if_pos (by omega), if_pos (by omega), if_pos (by omega), hx, good_val, Option.bind_some, decide_eq_true hk, if_pos rfl, if_neg (by omega), if_pos (by omega), Option.bind_some, hmn, hw, hw2, if_pos hz]
        · rw [if_neg hz]
          refine Ev.step (fun k => ?_) (slice_l0 l hn d (i + 1) 0 (n - m) (o ++ [⟨x.f0 + off, m⟩]) (by omega) (by simp; omega) (by omega) (by omega) (by omega) (by omega))
          simp only [span_Slice.l0]
          rw [if_pos (by omega), if_pos (by omega), if_pos (by omega), hx, good_val, Option.bind_some, decide_eq_true hk, if_pos rfl, if_neg (by omega), if_pos (by omega), Option.bind_some, hmn, hw, hw2, if_neg hz, up i l.length (by omega) (by omega)]
    · rw [if_neg hk]
      refine Ev.step (fun k => ?_) (slice_l0 l hn d (i + 1) off n o (by omega) (by omega) h0 h1 h2 h3)
      simp only [span_Slice.l0]
      rw [if_pos (by omega), if_pos (by omega), if_pos (by omega), hx, good_val, Option.bind_some, decide_eq_false hk, if_neg (by decide), up i l.length (by omega) (by omega)]
theorem slice_ev (l : List S95) (hn : l.length ≤ 8796093022208) (off n : Int) (h0 : off ≤ 9223372036854775807) (h1 : n ≤ 9223372036854775807) :
    Ev (fun k => span_Slice.f k l off n) (gluedP [] (partP (laid l) off n)) := by
  unfold span_Slice.f
  by_cases hneg : off < 0
  · refine Ev.congr (fun k => if_pos hneg) ?_
    refine Ev.step (f := fun _ => some []) (fun k => by simp [span_Slice.j0]) ?_
    unfold partP
    rw [if_neg (by omega)]
    exact Ev.now _
  · refine Ev.congr (fun k => if_neg hneg) ?_
    by_cases hz : n ≤ 0
    · refine Ev.step (f := fun _ => some []) (fun k => by simp [span_Slice.j0, hz]) ?_
      unfold partP
      rw [if_pos (by omega), show n.toNat = 0 by omega, List.take_zero]
      exact Ev.now _
    · have e := slice_l0 l hn l.length 0 off n [] (by omega) (by simp) (by omega) h0 (by omega) h1
      have hc := cut_laid l [] off.toNat n.toNat (by omega)
      rw [show ((off.toNat : Nat) : Int) = off by omega, show ((n.toNat : Nat) : Int) = n by omega, laid_nil, List.nil_append] at hc
      rw [List.drop_zero, hc] at e
      unfold partP
      rw [if_pos (by omega)]
      refine Ev.step (fun k => ?_) e
      simp only [span_Slice.j0]
      rw [if_neg (by simp; omega)]; rfl
theorem part_step (all : List Int) (off n : Int) (i : Nat) (hi : i < all.length) (h0 : 0 ≤ off) : partP (all.take (i + 1)) off n = partP (all.take i) off n ++ (if off ≤ (i : Int) ∧ (i : Int) - off < n then [rd all (i : Int)] else []) := by
  have ht : all.take (i + 1) = all.take i ++ [rd all (i : Int)] := by
    rw [List.take_succ_eq_append_getElem hi]; simp [rd, List.getD_eq_getElem?_getD, hi]
  unfold partP
  rw [if_pos h0, if_pos h0, ht, List.drop_append, List.take_append, List.length_drop, List.length_take]
  congr 1
  by_cases h : off ≤ (i : Int) ∧ (i : Int) - off < n
  · rw [if_pos h, show off.toNat - min i all.length = 0 by omega, List.drop_zero, List.take_of_length_le (by simp; omega)]
  · rw [if_neg h]
    by_cases h2 : off ≤ (i : Int)
    · rw [show n.toNat - (min i all.length - off.toNat) = 0 by omega, List.take_zero]
    · rw [List.drop_of_length_le (by simp; omega), List.take_nil]
theorem part_sub (all : List Int) (off n : Int) : ∀ b ∈ partP all off n, b ∈ all := by
  intro b hb
  unfold partP at hb
  split at hb
  · exact List.mem_of_mem_drop (List.mem_of_mem_take hb)
  · exact absurd hb (by simp)
theorem part_len (all : List Int) (off n : Int) : (partP all off n).length ≤ all.length := by
  unfold partP
  split
  · rw [List.length_take, List.length_drop]; omega
  · simp
theorem laid_in (l : List S95) : ∀ b ∈ laid l, 0 ≤ b ∧ b < 65536 := by
  intro b hb
  obtain ⟨x, _, hk, h1, h2⟩ := (mem_laid l b).1 hb
  unfold okS at hk
  omega
theorem main_l0 (l : List S95) (hl : l.length ≤ 8796093022208) (off n : Int) (w1 : off ≤ 9223372036854775807) (w2 : n ≤ 9223372036854775807) (h : (laid l).length ≤ 200000) : ∀ (d i : Nat), i + d = (laid l).length →
    Ev (fun k => wracklaw1_SpanLists.l0 k l off n (laid l) (partP ((laid l).take i) off n) ((laid l).length : Int) (i : Int)) true
  | 0, i, hi => by
    have hc : Ev (fun k => span_Count.f k l) ((laid l).length : Int) := by
      have e := count_l0 l (by omega) l.length 0 0 (by omega) (by omega) (by rw [List.drop_zero]; omega)
      rw [List.drop_zero, Int.zero_add] at e
      exact e
    obtain ⟨r, e1, e2⟩ := index_l0 (laid l) off (by omega) (laid l).length 0 (by omega)
    rw [List.drop_zero] at e2
    have hcon : Ev (fun k => slices_Contains_int_int.f k (laid l) off) (decide (off ∈ laid l)) := by
      refine Ev.bind (f := fun _ t => some (decide (t ≥ 0))) e1 ?_
      rw [e2]
      exact Ev.now _
    have hhas : Ev (fun _ => span_Has.f l off) (decide (off ∈ laid l)) := Ev.congr (f := fun _ => some _) (fun _ => by unfold span_Has.f; rw [if_pos (by omega), has_val]) (Ev.now _)
    rw [List.take_of_length_le (by omega)]
    have hg := glued_ev (laid l) h (laid_in l)
    have hp := glued_ev (partP (laid l) off n) (by have := part_len (laid l) off n; omega) (fun b hb => laid_in l b (part_sub _ _ _ b hb))
    have hs1 := same_ev (gluedP [] (laid l)) (by have := glued_short (laid l) []; simp at this; omega)
    have hs2 := same_ev (gluedP [] (partP (laid l) off n)) (by have := glued_short (partP (laid l) off n) []; have := part_len (laid l) off n; simp at *; omega)
    refine Ev.step (fun k => ?_) (Ev.bind hc (f := fun k t166 => if t166 = ((laid l).length : Int) then ((span_Has.f l off).bind fun t167 => ((slices_Contains_int_int.f k (laid l) off).bind fun t168 => (if (t167 == t168) = true then ((span_Glue.f k l).bind fun t169 => ((wrackref1_Glued.f k (laid l)).bind fun t172 => ((wrackref1_SameSpans.f k t169 t172).bind fun t175 => (if t175 = true then ((span_Slice.f k l off n).bind fun t176 => ((wrackref1_Glued.f k (partP (laid l) off n)).bind fun t179 => ((wrackref1_SameSpans.f k t176 t179).bind fun t182 => (some t182)))) else (some false))))) else (some false)))) else (some false)) ?_)
    · simp only [wracklaw1_SpanLists.l0]
      rw [if_neg (by omega)]
    · refine Ev.congr (fun k => if_pos rfl) ?_
      refine Ev.bind hhas ?_
      refine Ev.bind hcon ?_
      refine Ev.congr (fun k => if_pos (by simp)) ?_
      refine Ev.bind (glue_ev l hl) ?_
      refine Ev.bind hg ?_
      refine Ev.bind hs1 ?_
      refine Ev.congr (fun k => if_pos rfl) ?_
      refine Ev.bind (slice_ev l hl off n w1 w2) ?_
      refine Ev.bind hp ?_
      exact Ev.bind hs2 (Ev.now true)
  | d + 1, i, hi => by
    have hu := up i (laid l).length (by omega) (by omega)
    refine Ev.step (fun k => ?_) (main_l0 l hl off n w1 w2 h d (i + 1) (by omega))
    simp only [wracklaw1_SpanLists.l0]
    rw [if_pos (by omega), hu]
    by_cases h0 : off ≥ 0
    · rw [if_pos h0, part_step (laid l) off n i (by omega) h0]
      by_cases h1 : (i : Int) ≥ off
      · rw [if_pos h1, show wrap64 ((i : Int) - off) = (i : Int) - off by unfold wrap64; omega]
        by_cases h2 : (i : Int) - off < n
        · rw [if_pos h2, if_pos (by omega), if_pos (by omega), if_pos (by have := part_len ((laid l).take i) off n; rw [List.length_take] at this; omega), if_pos ⟨h1, h2⟩]
        · rw [if_neg h2, if_neg (fun g => h2 g.2), List.append_nil]
      · rw [if_neg h1, if_neg (fun g => h1 g.1), List.append_nil]
    · rw [if_neg h0]
      unfold partP
      rw [if_neg (by omega), if_neg (by omega)]
theorem SpanLists (l : List S95) (off n : Int) (hl : l.length * 16 ≤ 140737488351232) (w1 : off ≤ 9223372036854775807) (w2 : n ≤ 9223372036854775807) : ∃ k, wracklaw1_SpanLists.f k l off n = some true := by
  apply Ev.rounds
  unfold wracklaw1_SpanLists.f
  refine Ev.congr (fun k => by unfold wracklaw1_spans.f; rw [Option.bind_some, if_pos rfl]) ?_
  obtain ⟨b, e, f⟩ := heavy_l0 l (by omega) l.length 0 0 (by omega) (by omega) (by omega)
  refine Ev.bind e ?_
  cases b with
  | true => exact Ev.congr (fun k => if_pos rfl) (Ev.now _)
  | false =>
    have h := f rfl
    rw [List.drop_zero] at h
    refine Ev.congr (fun k => if_neg (by decide)) ?_
    have e2 := laid_l0 l (by omega) l.length 0 [] (by omega) (by rw [List.drop_zero]; simp; omega)
    rw [List.drop_zero, List.nil_append] at e2
    refine Ev.bind (f := fun k t159 => wracklaw1_SpanLists.l0 k l off n t159 ([] : List Int) (t159.length : Int) 0) e2 ?_
    have e3 := main_l0 l (by omega) off n w1 w2 (by omega) (laid l).length 0 (by omega)
    rw [List.take_zero, show partP [] off n = [] by unfold partP; split <;> simp] at e3
    exact e3
end Go.Proofs.Ytdgkbpoljcndgaa.Pure
