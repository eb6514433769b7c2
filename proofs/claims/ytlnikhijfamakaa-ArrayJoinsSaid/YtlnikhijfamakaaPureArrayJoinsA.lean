/- Arrays joined: the places of an array, in plain Lean. No condition. -/
import Derived.Test.YtlnikhijfamakaaQArrayJoinsx
import Derived.WalkLawsBesides
import Derived.LoopN
namespace Go.Proofs.Ytlnikhijfamakaa.Pure
open Go.Proofs.Ytlnikhijfamakaa.ArrayPlain
open Go Go.RowKit Go.Maps Go.Proofs.Ytlnikhijfamakaa.QArrayJoins Go.Proofs.YtlnikhijfamakaaW.PrintWords Go.Proofs.YtlnikhijfamakaaW.PrintLast Go.Proofs.YtlnikhijfamakaaW.PrintMore
set_option linter.unusedVariables false
set_option linter.unusedSimpArgs false
set_option maxHeartbeats 4000000 in
theorem check_val (q : Nat) (k m c : Int) (l : Bool) : array_Check.f (q + 3) k m c l = some (arrErrOf k m c l) := by
  simp only [array_Check.f, array_Check.j0, array_Check.j1, array_Check.j2, arrErrOf, arrLeast, decide_eq_true_eq]
  repeat' split
  all_goals first | rfl | omega | (simp_all; done) | (simp_all; omega)
def widthOf (k m : Int) : Int := if k = 1 then 1 else if k = 2 then m - 1 else m
def parOf (k m : Int) (l : Bool) (r : Int) : Int := if k = 2 then (if l = true then r % m else m - 1 - r % m) else -1
def stepOf (p j : Int) : Int := if p ≥ 0 ∧ j ≥ p then j + 1 else j
/-- the members that a row uses -/
def rowFrom (k p : Int) : Nat → Int → List Int
  | 0, _ => []
  | d + 1, i => if i = p then rowFrom k p d (i + 1) else if k = 1 then (if i = 0 then i :: rowFrom k p d (i + 1) else rowFrom k p d (i + 1)) else i :: rowFrom k p d (i + 1)
theorem rowFrom_len (k p : Int) : ∀ (d : Nat) (i : Int), (rowFrom k p d i).length ≤ d
  | 0, _ => Nat.le_refl _
  | d + 1, i => by
    have := rowFrom_len k p d (i + 1)
    unfold rowFrom
    repeat' split
    all_goals (try simp only [List.length_cons])
    all_goals omega
theorem rows_all : ∀ m : Fin 9, ∀ k : Fin 3, ∀ p : Fin 9, 2 ≤ m.val → (k.val = 2 → p.val < m.val) → ∀ j : Fin 8, (j.val : Int) < widthOf k.val m.val →
    ((rowFrom k.val (if k.val = 2 then (p.val : Int) else -1) m.val 0).length : Int) = widthOf k.val m.val ∧
    (rowFrom k.val (if k.val = 2 then (p.val : Int) else -1) m.val 0).getD j.val 0 = stepOf (if k.val = 2 then (p.val : Int) else -1) j.val := by decide +kernel
def Good (k m c : Int) (l : Bool) : Prop := 0 ≤ k ∧ k ≤ 2 ∧ 2 ≤ m ∧ m ≤ 8 ∧ 1 ≤ c ∧ c ≤ 16
theorem par_lt {k m c : Int} {l : Bool} (h : Good k m c l) (r : Int) (hk : k = 2) : 0 ≤ parOf k m l r ∧ parOf k m l r < m := by
  unfold Good at h
  unfold parOf
  have h1 := Int.emod_nonneg r (show m ≠ 0 by omega)
  have h2 := Int.emod_lt_of_pos r (show 0 < m by omega)
  rw [if_pos hk]
  split <;> omega
theorem width_pos {k m c : Int} {l : Bool} (h : Good k m c l) : 1 ≤ widthOf k m ∧ widthOf k m ≤ 8 := by
  unfold Good at h
  unfold widthOf
  repeat' split
  all_goals omega
theorem row_at {k m c : Int} {l : Bool} (h : Good k m c l) (r : Int) (j : Nat) (hj : (j : Int) < widthOf k m) :
    ((rowFrom k (parOf k m l r) m.toNat 0).length : Int) = widthOf k m ∧ (rowFrom k (parOf k m l r) m.toNat 0).getD j 0 = stepOf (parOf k m l r) j := by
  have hp := par_lt h r
  have hw := width_pos h
  unfold Good at h
  obtain ⟨k', rfl⟩ := Int.eq_ofNat_of_zero_le h.1
  obtain ⟨m', rfl⟩ := Int.eq_ofNat_of_zero_le (show 0 ≤ m by omega)
  have hpar : ∃ p : Nat, p < 9 ∧ ((k' : Int) = 2 → p < m') ∧ parOf k' m' l r = if k' = 2 then (p : Int) else -1 := by
    by_cases hk : (k' : Int) = 2
    · have := hp hk
      refine ⟨(parOf k' m' l r).toNat, by omega, by omega, ?_⟩
      rw [if_pos (by omega)]; omega
    · refine ⟨0, by omega, fun h => absurd h hk, ?_⟩
      rw [if_neg (by omega)]
      unfold parOf
      rw [if_neg hk]
  obtain ⟨p, hp9, hpm, hpe⟩ := hpar
  rw [hpe, Int.toNat_natCast]
  exact rows_all ⟨m', by omega⟩ ⟨k', by omega⟩ ⟨p, hp9⟩ (by show 2 ≤ m'; omega) (fun hk => by show p < m'; exact hpm (by simp at hk; omega)) ⟨j, by omega⟩ hj
/-- all rows from one on -/
def chunksFrom (k m : Int) (l : Bool) : Nat → Int → List S93
  | 0, _ => []
  | e + 1, r => (rowFrom k (parOf k m l r) m.toNat 0).map (fun x => (⟨x, r⟩ : S93)) ++ chunksFrom k m l e (r + 1)
def oddFrom (k m : Int) (l : Bool) : Nat → Int → List Int
  | 0, _ => []
  | e + 1, r => parOf k m l r :: oddFrom k m l e (r + 1)
theorem chunks_at {k m c : Int} {l : Bool} (h : Good k m c l) : ∀ (e : Nat) (r n : Nat), (n : Int) < e * widthOf k m →
    n < (chunksFrom k m l e r).length ∧ (chunksFrom k m l e r).getD n z93 = ⟨stepOf (parOf k m l ((r : Int) + n / widthOf k m)) (n % widthOf k m), (r : Int) + n / widthOf k m⟩
  | 0, r, n, hn => by simp at hn; omega
  | e + 1, r, n, hn => by
    have hw := width_pos h
    obtain ⟨hlen, _⟩ := row_at h r 0 (by omega)
    obtain ⟨W, hW⟩ : ∃ W, widthOf k m = W := ⟨_, rfl⟩
    rw [hW] at hn hw hlen ⊢
    unfold chunksFrom
    rw [List.length_append, List.length_map]
    by_cases hlt : (n : Int) < W
    · obtain ⟨_, hj⟩ := row_at h r n (by rw [hW]; exact hlt)
      refine ⟨by omega, ?_⟩
      rw [Int.ediv_eq_zero_of_lt (by omega) hlt, Int.emod_eq_of_lt (by omega) hlt, Int.add_zero]
      rw [List.getD_eq_getElem?_getD] at hj ⊢
      rw [List.getElem?_append_left (by rw [List.length_map]; omega), List.getElem?_map]
      rw [List.getElem?_eq_getElem (show n < (rowFrom k (parOf k m l r) m.toNat 0).length by omega)] at hj ⊢
      simp only [Option.map_some, Option.getD_some] at hj ⊢
      rw [hj]
    · have hle : (n : Int) - W = ((n - W.toNat : Nat) : Int) := by omega
      have hmul : ((e + 1 : Nat) : Int) * W = e * W + W := by rw [Int.natCast_add, Int.add_mul]; simp
      have ih := chunks_at h e (r + 1) (n - W.toNat) (by rw [hW, ← hle]; omega)
      rw [hW, ← hle] at ih
      have hd : ((n : Int) - W) / W = n / W - 1 := by
        have := Int.add_mul_ediv_right (n : Int) (-1) (show W ≠ 0 by omega)
        rw [show (n : Int) - W = n + (-1) * W by omega, this]; omega
      have hm : ((n : Int) - W) % W = n % W := by
        rw [show (n : Int) - W = n + (-1) * W by omega, Int.add_mul_emod_self_right]
      rw [hd, hm, show (((r + 1 : Nat) : Int) + ((n : Int) / W - 1)) = (r : Int) + n / W by omega] at ih
      refine ⟨by have := ih.1; simp at this; omega, ?_⟩
      rw [List.getD_eq_getElem?_getD, List.getElem?_append_right (by rw [List.length_map]; omega), List.length_map, ← List.getD_eq_getElem?_getD]
      rw [show n - (rowFrom k (parOf k m l r) m.toNat 0).length = n - W.toNat by omega]
      exact ih.2
theorem order_l1 (k m c : Int) (l : Bool) (p r rows : Int) (odd : List Int) (hm : m ≤ 8) (res : List S93 × List Int) : ∀ (d : Nat) (i : Int) (acc : List S93), i + d = m → 0 ≤ i → acc.length + d < 8796093022208 →
    Ev (fun q => wrackref1_Order.l0 q (acc ++ (rowFrom k p d i).map (fun x => (⟨x, r⟩ : S93))) odd rows (wrap64 (r + 1)) k m c l) res →
    Ev (fun q => wrackref1_Order.l1 q acc odd r p rows r m i k m c l) res
  | 0, i, acc, hi, h0, ha, hk => by
    refine Ev.step (fun q => ?_) hk
    simp only [wrackref1_Order.l1]
    rw [if_neg (by omega)]
    simp [rowFrom]
  | d + 1, i, acc, hi, h0, ha, hk => by
    have hw : wrap64 (i + 1) = i + 1 := by unfold wrap64; omega
    unfold rowFrom at hk
    by_cases hp : i = p
    · rw [if_pos hp] at hk
      refine Ev.step (fun q => ?_) (order_l1 k m c l p r rows odd hm res d (i + 1) acc (by omega) (by omega) (by omega) hk)
      simp only [wrackref1_Order.l1]
      rw [if_pos (by omega), if_pos hp, hw]
    · rw [if_neg hp] at hk
      by_cases hk1 : k = 1
      · rw [if_pos hk1] at hk
        by_cases hi0 : i = 0
        · rw [if_pos hi0, List.map_cons, ← List.singleton_append, ← List.append_assoc] at hk
          refine Ev.step (fun q => ?_) (order_l1 k m c l p r rows odd hm res d (i + 1) (acc ++ [⟨i, r⟩]) (by omega) (by omega) (by simp; omega) hk)
          simp only [wrackref1_Order.l1]
          rw [if_pos (by omega), if_neg hp, if_pos hk1, if_pos hi0, if_pos (by omega), hw]
        · rw [if_neg hi0] at hk
          refine Ev.step (fun q => ?_) (order_l1 k m c l p r rows odd hm res d (i + 1) acc (by omega) (by omega) (by omega) hk)
          simp only [wrackref1_Order.l1]
          rw [if_pos (by omega), if_neg hp, if_pos hk1, if_neg hi0, hw]
      · rw [if_neg hk1, List.map_cons, ← List.singleton_append, ← List.append_assoc] at hk
        refine Ev.step (fun q => ?_) (order_l1 k m c l p r rows odd hm res d (i + 1) (acc ++ [⟨i, r⟩]) (by omega) (by omega) (by simp; omega) hk)
        simp only [wrackref1_Order.l1]
        rw [if_pos (by omega), if_neg hp, if_neg hk1, if_pos (by omega), hw]
theorem order_l0 {k m c : Int} {l : Bool} (h : Good k m c l) (rows : Int) (hr : rows ≤ 1048576) : ∀ (e : Nat) (r : Int) (acc : List S93) (odd : List Int), r + e = rows → 0 ≤ r → acc.length + 8 * e < 8796093022208 → odd.length + e < 17592186044416 →
    Ev (fun q => wrackref1_Order.l0 q acc odd rows r k m c l) (acc ++ chunksFrom k m l e r, odd ++ oddFrom k m l e r)
  | 0, r, acc, odd, hi, h0, ha, ho => by
    refine Ev.step (f := fun _ => some _) (fun q => ?_) (Ev.now _)
    simp only [wrackref1_Order.l0]
    rw [if_neg (by omega)]
    simp [chunksFrom, oddFrom]
  | e + 1, r, acc, odd, hi, h0, ha, ho => by
    have hg := h
    unfold Good at hg
    have hw : wrap64 (r + 1) = r + 1 := by unfold wrap64; omega
    have hl := rowFrom_len k (parOf k m l r) m.toNat 0
    have ih := order_l0 h rows hr e (r + 1) (acc ++ (rowFrom k (parOf k m l r) m.toNat 0).map (fun x => (⟨x, r⟩ : S93))) (odd ++ [parOf k m l r]) (by omega) (by omega) (by rw [List.length_append, List.length_map]; omega) (by simp; omega)
    rw [List.append_assoc, List.append_assoc, List.singleton_append] at ih
    have h1 := order_l1 k m c l (parOf k m l r) r rows (odd ++ [parOf k m l r]) (by omega) _ m.toNat 0 acc (by omega) (by omega) (by omega) (by rw [hw]; exact ih)
    have hj : Ev (fun q => wrackref1_Order.j1 q acc odd r (parOf k m l r) rows r k m c l) (acc ++ chunksFrom k m l (e + 1) r, odd ++ oddFrom k m l (e + 1) r) := by
      refine Ev.step (fun q => ?_) h1
      simp only [wrackref1_Order.j1]
      rw [if_pos (by omega)]
    refine Ev.step (fun q => ?_) hj
    simp only [wrackref1_Order.l0]
    rw [if_pos (by omega)]
    unfold parOf
    by_cases hk : k = 2
    · have ht : Int.tmod r m = r % m := Int.tmod_eq_emod_of_nonneg h0
      have hm1 := Int.emod_nonneg r (show m ≠ 0 by omega)
      have hm2 := Int.emod_lt_of_pos r (show 0 < m by omega)
      rw [if_pos hk, if_neg (by omega), if_pos hk, ht, show wrap64 (wrap64 (m - 1) - r % m) = m - 1 - r % m by unfold wrap64; omega]
      split <;> rfl
    · rw [if_neg hk, if_neg hk]
theorem err_good {k m c : Int} {l : Bool} (h : arrErrOf k m c l = 0) : Good k m c l := by
  unfold Good
  unfold arrErrOf arrLeast at h
  repeat' (split at h)
  all_goals omega
theorem place_val {k m c : Int} {l : Bool} (h : Good k m c l) (off : Int) (h0 : 0 ≤ off) (h1 : off < 65536) :
    array_place.f k m c l off = some (stepOf (parOf k m l (off / (64 * c) / widthOf k m)) (off / (64 * c) % widthOf k m), off / (64 * c) / widthOf k m * (64 * c) + off % (64 * c)) := by
  have hg := h
  unfold Good at hg
  have hw := width_pos h
  have hc : wrap64 (c * 64) = 64 * c := by unfold wrap64; omega
  have hwid : array_width.f k m c l = some (widthOf k m) := by
    unfold array_width.f widthOf
    rw [show wrap64 (m - 1) = m - 1 by unfold wrap64; omega]
    repeat' split
    all_goals first | rfl | omega
  obtain ⟨W, hW⟩ : ∃ W, widthOf k m = W := ⟨_, rfl⟩
  rw [hW] at hwid hw ⊢
  obtain ⟨C, hC⟩ : ∃ C, 64 * c = C := ⟨_, rfl⟩
  rw [hC] at hc ⊢
  have hn0 := Int.ediv_nonneg h0 (show 0 ≤ C by omega)
  have hn1 : off / C ≤ off := Int.ediv_le_self _ h0
  have e1 : wrap64 (Int.tdiv off C) = off / C := by rw [Int.tdiv_eq_ediv_of_nonneg h0]; unfold wrap64; omega
  obtain ⟨n, hn⟩ : ∃ n, off / C = n := ⟨_, rfl⟩
  rw [hn] at e1 hn0 hn1 ⊢
  have hq0 := Int.ediv_nonneg hn0 (show 0 ≤ W by omega)
  have hq1 : n / W ≤ n := Int.ediv_le_self _ hn0
  have e2 : wrap64 (Int.tdiv n W) = n / W := by rw [Int.tdiv_eq_ediv_of_nonneg hn0]; unfold wrap64; omega
  have e3 : Int.tmod n W = n % W := Int.tmod_eq_emod_of_nonneg hn0
  have e4 : Int.tmod off C = off % C := Int.tmod_eq_emod_of_nonneg h0
  have hm0 := Int.emod_nonneg n (show W ≠ 0 by omega)
  have hm1 := Int.emod_lt_of_pos n (show 0 < W by omega)
  have hm2 := Int.emod_nonneg off (show C ≠ 0 by omega)
  have hm3 := Int.emod_lt_of_pos off (show 0 < C by omega)
  have hbig : 0 ≤ n / W * C ∧ n / W * C ≤ off := by
    refine ⟨Int.mul_nonneg hq0 (by omega), ?_⟩
    have a1 : n / W * C ≤ n * C := Int.mul_le_mul_of_nonneg_right hq1 (by omega)
    have a2 : n * C ≤ off := by rw [← hn]; exact Int.ediv_mul_le _ (by omega)
    omega
  have hodd : array_odd.f k m c l (n / W) = some (parOf k m l (n / W)) := by
    unfold array_odd.f parOf
    have ht : Int.tmod (n / W) m = n / W % m := Int.tmod_eq_emod_of_nonneg hq0
    have hx1 := Int.emod_nonneg (n / W) (show m ≠ 0 by omega)
    have hx2 := Int.emod_lt_of_pos (n / W) (show 0 < m by omega)
    rw [ht, show wrap64 (wrap64 (m - 1) - n / W % m) = m - 1 - n / W % m by unfold wrap64; omega]
    repeat' split
    all_goals first | rfl | omega
  unfold array_place.f array_chunk.f
  rw [Option.bind_some, hc, if_neg (by omega), hwid, Option.bind_some, if_neg (by omega), Option.bind_some, if_neg (by omega), e1, e2, hodd, Option.bind_some, e3, e4]
  have e5 : wrap64 (wrap64 (n / W * C) + off % C) = n / W * C + off % C := by
    rw [show wrap64 (n / W * C) = n / W * C by unfold wrap64; omega]
    unfold wrap64; omega
  have e6 : wrap64 (n % W + 1) = n % W + 1 := by unfold wrap64; omega
  rw [e5, e6]
  unfold stepOf
  repeat' split
  all_goals first | rfl | omega
theorem place_ev (k m c : Int) (l : Bool) (off : Int) : ∃ a b, Ev (fun q => array_Place.f q k m c l off) (a, b, if arrErrOf k m c l = 0 then (if off < 0 ∨ 65536 ≤ off then 4 else 0) else arrErrOf k m c l) ∧
    ((arrErrOf k m c l ≠ 0 ∨ off < 0 ∨ 65536 ≤ off) → a = 0 ∧ b = 0) ∧
    ((arrErrOf k m c l = 0 ∧ 0 ≤ off ∧ off < 65536) → a = stepOf (parOf k m l (off / (64 * c) / widthOf k m)) (off / (64 * c) % widthOf k m) ∧ b = off / (64 * c) / widthOf k m * (64 * c) + off % (64 * c)) := by
  have hch : Ev (fun q => array_Check.f q k m c l) (arrErrOf k m c l) := ⟨3, fun q hq => by obtain ⟨d, rfl⟩ := Nat.exists_eq_add_of_le hq; rw [Nat.add_comm]; exact check_val d k m c l⟩
  by_cases he : arrErrOf k m c l = 0
  · by_cases ho : off < 0 ∨ 65536 ≤ off
    · refine ⟨0, 0, ?_, fun _ => ⟨rfl, rfl⟩, fun h => by omega⟩
      unfold array_Place.f
      refine Ev.bind hch ?_
      refine Ev.congr (f := fun _ => some _) (fun q => ?_) (Ev.now _)
      rw [if_pos he, if_pos he, if_pos ho]
      split
      · rfl
      · rw [if_pos (by omega)]
    · refine ⟨_, _, ?_, fun h => by omega, fun _ => ⟨rfl, rfl⟩⟩
      unfold array_Place.f
      refine Ev.bind hch ?_
      refine Ev.congr (f := fun _ => some _) (fun q => ?_) (Ev.now _)
      rw [if_pos he, if_pos he, if_neg ho, if_neg (by omega), if_neg (by omega), place_val (err_good he) off (by omega) (by omega)]
      rfl
  · refine ⟨0, 0, ?_, fun _ => ⟨rfl, rfl⟩, fun h => absurd h.1 he⟩
    unfold array_Place.f
    refine Ev.bind hch ?_
    refine Ev.congr (f := fun _ => some _) (fun q => ?_) (Ev.now _)
    rw [if_neg he, if_neg he]
theorem arrays_ev : Ev (fun q => wracklaw1_arrays.f q) true := by
  unfold wracklaw1_arrays.f
  obtain ⟨a, b, hp, _, hok⟩ := place_ev 0 2 1 false 64
  obtain ⟨rfl, rfl⟩ := hok ⟨by decide, by decide, by decide⟩
  refine Ev.bind hp ?_
  refine Ev.congr (f := fun _ => some _) (fun q => ?_) (Ev.now _)
  decide
/-- the members that are missing -/
def goneP (i : Int) : List (List Int) → List Int
  | [] => []
  | b :: m => if b.length = 0 then i :: goneP (i + 1) m else goneP (i + 1) m
/-- the size of the members that are there: that of the first one -/
def sizeP : List (List Int) → Nat
  | [] => 0
  | b :: m => if b.length = 0 then sizeP m else b.length
/-- all members that are there have one size -/
def evenP (s : Nat) (m : List (List Int)) : Prop := ∀ b ∈ m, b.length = 0 ∨ b.length = s
instance (s : Nat) (m : List (List Int)) : Decidable (evenP s m) := by unfold evenP; exact inferInstance
theorem drop_L3 (l : List (List Int)) (i : Nat) (h : i < l.length) : l.drop i = rd_L3 l (i : Int) :: l.drop (i + 1) := by
  rw [List.drop_eq_getElem_cons h]
  simp [rd_L3, List.getD_eq_getElem?_getD, h]
theorem upA (i n : Nat) (h : i < n) (hn : n ≤ 4611686018427387904) : wrap64 ((i : Int) + 1) = ((i + 1 : Nat) : Int) := by unfold wrap64; omega
theorem goneP_len (i : Int) : ∀ m : List (List Int), (goneP i m).length ≤ m.length
  | [] => Nat.le_refl _
  | b :: m => by
    have h := goneP_len (i + 1) m
    unfold goneP
    split
    · rw [List.length_cons, List.length_cons]; omega
    · rw [List.length_cons]; omega
/-- what missing answers -/
def missR (l : List (List Int)) : List Int × Int × Bool := if evenP (sizeP l) l then (goneP 0 l, (sizeP l : Int), true) else ([], 0, false)
theorem miss_l0 (l : List (List Int)) (hl : l.length ≤ 5864062014805) : ∀ (d i : Nat) (acc : List Int) (s : Nat), i + d = l.length → acc.length ≤ i → (s = 0 → ∀ j, j < i → (rd_L3 l (j : Int)).length = 0) →
    (s ≠ 0 → sizeP l = s) → (s = 0 → sizeP l = sizeP (l.drop i)) → acc ++ goneP (i : Int) (l.drop i) = goneP 0 l → (evenP (sizeP l) l ↔ (s = 0 ∨ evenP s (l.drop i)) ∧ (s = 0 → evenP (sizeP (l.drop i)) (l.drop i))) →
    Ev (fun k => array_missing.l0 k acc (s : Int) l (l.length : Int) (i : Int)) (missR l)
  | 0, i, acc, s, hi, ha, h0, hs, hz, hg, he => by
    have hd : l.drop i = [] := List.drop_of_length_le (by omega)
    rw [hd] at hg hz he
    refine Ev.step (f := fun _ => some _) (fun k => ?_) (Ev.now _)
    simp only [array_missing.l0]
    rw [if_neg (by omega)]
    have hev : evenP (sizeP l) l := he.2 ⟨Or.inr (by intro b hb; simp at hb), fun _ => by intro b hb; simp at hb⟩
    unfold missR
    rw [if_pos hev, ← hg]
    by_cases e : s = 0
    · rw [hz e, e]; simp [goneP, sizeP]
    · rw [hs e]; simp [goneP]
  | d + 1, i, acc, s, hi, ha, h0, hs, hz, hg, he => by
    rw [drop_L3 l i (by omega)] at hg hz he
    generalize hx : rd_L3 l (i : Int) = x at hg hz he
    by_cases hx0 : x.length = 0
    · have e2 : goneP (i : Int) (x :: l.drop (i + 1)) = (i : Int) :: goneP ((i + 1 : Nat) : Int) (l.drop (i + 1)) := by
        rw [goneP, if_pos hx0]; rfl
      have e3 : sizeP (x :: l.drop (i + 1)) = sizeP (l.drop (i + 1)) := by rw [sizeP, if_pos hx0]
      have e4 : ∀ q, evenP q (x :: l.drop (i + 1)) ↔ evenP q (l.drop (i + 1)) := fun q => by
        unfold evenP
        constructor
        · intro h b hb; exact h b (List.mem_cons_of_mem _ hb)
        · intro h b hb
          rcases List.mem_cons.1 hb with rfl | hb
          · exact Or.inl hx0
          · exact h b hb
      rw [e2] at hg
      rw [e3] at hz he
      rw [e4, e4] at he
      refine Ev.step (fun k => ?_) (miss_l0 l hl d (i + 1) (acc ++ [(i : Int)]) s (by omega) (by simp; omega) (fun e j hj => by
        by_cases e5 : j = i
        · rw [e5, hx]; exact hx0
        · exact h0 e j (by omega)) hs hz (by rw [List.append_assoc]; exact hg) he)
      simp only [array_missing.l0]
      rw [if_pos (by omega), if_pos (by omega), if_pos (by omega), hx, if_pos (by omega), if_pos (by omega), upA i l.length (by omega) (by omega)]
    · have e2 : goneP (i : Int) (x :: l.drop (i + 1)) = goneP ((i + 1 : Nat) : Int) (l.drop (i + 1)) := by
        rw [goneP, if_neg hx0]; rfl
      rw [e2] at hg
      by_cases hs0 : s = 0
      · have e3 : sizeP (x :: l.drop (i + 1)) = x.length := by rw [sizeP, if_neg hx0]
        rw [e3] at hz he
        have hsl := hz hs0
        refine Ev.step (fun k => ?_) (miss_l0 l hl d (i + 1) acc x.length (by omega) (by omega) (fun e => absurd e hx0) (fun _ => hsl) (fun e => absurd e hx0) hg ?_)
        · simp only [array_missing.l0]
          rw [if_pos (by omega), if_pos (by omega), if_pos (by omega), hx, if_neg (by omega), if_pos (by omega), upA i l.length (by omega) (by omega)]
        · rw [he]
          constructor
          · intro h
            have h2 := h.2 hs0
            exact ⟨Or.inr fun b hb => h2 b (List.mem_cons_of_mem _ hb), fun e => absurd e hx0⟩
          · intro h
            refine ⟨Or.inl hs0, fun _ b hb => ?_⟩
            rcases List.mem_cons.1 hb with rfl | hb
            · exact Or.inr rfl
            · rcases h.1 with e | e
              · exact absurd e hx0
              · exact e b hb
      · by_cases hxs : x.length = s
        · refine Ev.step (fun k => ?_) (miss_l0 l hl d (i + 1) acc s (by omega) (by omega) (fun e => absurd e hs0) hs (fun e => absurd e hs0) hg ?_)
          · simp only [array_missing.l0]
            rw [if_pos (by omega), if_pos (by omega), if_pos (by omega), hx, if_neg (by omega), if_neg (by omega), if_pos (by omega), upA i l.length (by omega) (by omega)]
          · rw [he]
            constructor
            · intro h
              refine ⟨Or.inr fun b hb => ?_, fun e => absurd e hs0⟩
              rcases h.1 with e | e
              · exact absurd e hs0
              · exact e b (List.mem_cons_of_mem _ hb)
            · intro h
              refine ⟨Or.inr fun b hb => ?_, fun e => absurd e hs0⟩
              rcases List.mem_cons.1 hb with rfl | hb
              · exact Or.inr hxs
              · rcases h.1 with e | e
                · exact absurd e hs0
                · exact e b hb
        · have hne : ¬ evenP (sizeP l) l := fun h => by
            rcases (he.1 h).1 with e | e
            · exact hs0 e
            · rcases e x (by simp) with e | e
              · exact hx0 e
              · exact hxs e
          have hmr : missR l = ([], 0, false) := by unfold missR; rw [if_neg hne]
          rw [hmr]
          refine Ev.step (f := fun _ => some _) (fun k => ?_) (Ev.now _)
          simp only [array_missing.l0]
          rw [if_pos (by omega), if_pos (by omega), if_pos (by omega), hx, if_neg (by omega), if_neg (by omega), if_neg (by omega)]
theorem miss_ev (l : List (List Int)) (hl : l.length ≤ 5864062014805) : Ev (fun k => array_missing.f k l) (missR l) := by
  refine Ev.congr (fun k => ?_) (miss_l0 l hl l.length 0 [] 0 (by omega) (by simp) (fun _ j hj => absurd hj (by omega)) (fun h => absurd rfl h) (fun _ => rfl) rfl ⟨fun h => ⟨Or.inl rfl, fun _ => h⟩, fun h => h.2 rfl⟩)
  unfold array_missing.f
  rfl
end Go.Proofs.Ytlnikhijfamakaa.Pure
