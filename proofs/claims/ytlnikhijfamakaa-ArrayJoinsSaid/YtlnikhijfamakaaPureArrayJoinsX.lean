/- Arrays the reference's roads: joined. No condition. -/
import Derived.Test.YtlnikhijfamakaaPureArrayJoinsV
import Derived.WalkLawsBesides
import Derived.LoopN
namespace Go.Proofs.Ytlnikhijfamakaa.Pure
open Go.Proofs.Ytlnikhijfamakaa.ArrayPlain
open Go Go.RowKit Go.Maps Go.Proofs.Ytlnikhijfamakaa.QArrayJoins Go.Proofs.YtlnikhijfamakaaW.PrintWords Go.Proofs.YtlnikhijfamakaaW.PrintLast Go.Proofs.YtlnikhijfamakaaW.PrintMore
set_option linter.unusedVariables false
set_option linter.unusedSimpArgs false
theorem gluedB_l0 (l : List Int) (hn : l.length ≤ 1000000) (hb : ∀ b ∈ l, 0 ≤ b ∧ b < 65536) : ∀ (d i : Nat) (o : List S41), i + d = l.length → o.length ≤ i → (∀ y ∈ o, inS y) →
    (i = 0 → o = []) → (0 < i → ∃ p y, o = p ++ [y] ∧ y.f0 + y.f1 = rd l ((i : Int) - 1) + 1) →
    Ev (fun k => wrackref1_Glued.l0 k l o l (l.length : Int) (i : Int)) (gluedP o (l.drop i))
  | 0, i, o, hi, h0, hq, he, hp => by
    refine Ev.step (f := fun _ => some _) (fun k => ?_) (Ev.now _)
    simp only [wrackref1_Glued.l0]
    rw [if_neg (by omega), List.drop_of_length_le (by omega)]; rfl
  | d + 1, i, o, hi, h0, hq, he, hp => by
    have hxb : 0 ≤ rd l (i : Int) ∧ rd l (i : Int) < 65536 := hb _ (by unfold rd; rw [Int.toNat_natCast, List.getD_eq_getElem?_getD, List.getElem?_eq_getElem (by omega)]; simp)
    rw [drop_int l i (by omega)]
    show Ev _ (gluedP (put o (rd l (i : Int)) 1) (l.drop (i + 1)))
    obtain ⟨g1, g2⟩ := put_in o (rd l (i : Int)) 1 hq hxb.1 (by omega) (by omega)
    have hlast : ∃ p y, put o (rd l (i : Int)) 1 = p ++ [y] ∧ y.f0 + y.f1 = rd l (((i + 1 : Nat) : Int) - 1) + 1 := by
      have e := end_put o (rd l (i : Int)) 1
      rcases last_of (put o (rd l (i : Int)) 1) with h | ⟨p, y, h⟩
      · exact absurd h (put_ne _ _ _)
      · refine ⟨p, y, h, ?_⟩
        rw [h] at e
        simp [endOf] at e
        rw [show ((i + 1 : Nat) : Int) - 1 = (i : Int) by omega]
        omega
    refine Ev.step (fun k => ?_) (gluedB_l0 l hn hb d (i + 1) _ (by omega) (by omega) g1 (by omega) (fun _ => hlast))
    simp only [wrackref1_Glued.l0]
    rw [if_pos (by omega), if_pos (by omega), if_pos (by omega), up i l.length (by omega) (by omega)]
    by_cases hi0 : i = 0
    · obtain rfl := he hi0
      rw [if_neg (by omega), if_pos (by simp), put_nil]; rfl
    · obtain ⟨p, y, rfl, hy⟩ := hp (by omega)
      have hyi := hq y (by simp)
      unfold inS at hyi
      simp only [List.length_append, List.length_singleton] at h0 ⊢
      rw [if_pos (by omega), show wrap64 ((i : Int) - 1) = (i : Int) - 1 by unfold wrap64; omega, if_pos (by omega), if_pos (by omega), show wrap64 (((p.length + 1 : Nat) : Int) - 1) = (p.length : Int) by unfold wrap64; omega,
        show wrap64 (rd l ((i : Int) - 1) + 1) = y.f0 + y.f1 by rw [hy]; unfold wrap64; omega]
      by_cases hj : y.f0 + y.f1 = rd l (i : Int)
      · rw [if_pos hj.symm, if_pos (by omega), if_pos (by omega), last_rd, last_set, put_join p y _ _ hj, show wrap64 (y.f1 + 1) = y.f1 + 1 by unfold wrap64; omega]
      · rw [if_neg (fun h => hj h.symm), if_pos (by omega), put_new p y _ _ hj]
theorem gluedB_ev (l : List Int) (hn : l.length ≤ 1000000) (hb : ∀ b ∈ l, 0 ≤ b ∧ b < 65536) : Ev (fun k => wrackref1_Glued.f k l) (gluedP [] l) :=
  gluedB_l0 l hn hb l.length 0 [] (by omega) (by simp) (by simp) (fun _ => rfl) (fun h => absurd h (by omega))

def pieceW (from_ : List (List Int)) (o i k : Nat) : List Int := (List.range k).map fun j => rd (rd_L7 from_ ((o + j : Nat) : Int)) (i : Int)
def piecesW (from_ : List (List Int)) (o k n : Nat) : List Int := (List.range n).flatMap fun i => pieceW from_ o i k
def lenAt (from_ : List (List Int)) (o : Nat) : Nat := (rd_L7 from_ (o : Int)).length
/-- what Roads lays together -/
def roadF (from_ : List (List Int)) (Cn : Nat) : Nat → Nat → Nat → List Int
  | 0, _, _ => []
  | f + 1, o, n => if n = 0 then [] else piecesW from_ o (min n (Cn - o % Cn)) (lenAt from_ o) ++ roadF from_ Cn f (o + min n (Cn - o % Cn)) (n - min n (Cn - o % Cn))
theorem pieceW_len (from_ : List (List Int)) (o i k : Nat) : (pieceW from_ o i k).length = k := by unfold pieceW; simp
theorem piecesW_len (from_ : List (List Int)) (o k : Nat) : ∀ n, (piecesW from_ o k n).length = n * k
  | 0 => by simp [piecesW]
  | n + 1 => by
    have h := piecesW_len from_ o k n
    unfold piecesW at h ⊢
    rw [List.range_succ, List.flatMap_append, List.length_append, h, Nat.add_mul, Nat.one_mul]
    simp [pieceW]
section
variable (from_ : List (List Int)) (C : Int) (off n : Int)
set_option maxHeartbeats 2000000 in
theorem roads_l2 (o k i : Nat) (hoff : off = (o : Int)) (hk : k ≤ 65536) (hok : o + k ≤ from_.length) (hfl : from_.length ≤ 65536) (hrow : ∀ j, j < k → i < lenAt from_ (o + j)) (acc : List Int) (hacc : acc.length + k < 17592186044416) (cnt q : Int) (r : List S41)
    (he : Ev (fun t => wrackref1_Roads.l1 t from_ C off n (acc ++ pieceW from_ o i k) (k : Int) cnt (wrap64 (q + 1))) r) : ∀ (d j : Nat), j + d = k →
    Ev (fun t => wrackref1_Roads.l2 t from_ C off n (acc ++ pieceW from_ o i j) (k : Int) (i : Int) cnt q (k : Int) (j : Int)) r
  | 0, j, hj => by
    obtain rfl : j = k := by omega
    refine Ev.step (fun t => ?_) he
    simp only [wrackref1_Roads.l2]
    rw [if_neg (by omega)]
  | d + 1, j, hj => by
    have ih := roads_l2 o k i hoff hk hok hfl hrow acc hacc cnt q r he d (j + 1) (by omega)
    have hr := hrow j (by omega)
    unfold lenAt at hr
    have hp : pieceW from_ o i (j + 1) = pieceW from_ o i j ++ [rd (rd_L7 from_ ((o + j : Nat) : Int)) (i : Int)] := by
      unfold pieceW; rw [List.range_succ, List.map_append]; rfl
    rw [hp, ← List.append_assoc] at ih
    have lp := pieceW_len from_ o i j
    have f1 : ((o + j : Nat) : Int) < (from_.length : Int) := by omega
    have f2 : (i : Int) < ((rd_L7 from_ ((o + j : Nat) : Int)).length : Int) := by omega
    have f3 : (acc ++ pieceW from_ o i j).length < 17592186044416 := by rw [List.length_append, lp]; omega
    have f4 : (j : Int) < (k : Int) := by omega
    have f5 : (0 : Int) ≤ ((o + j : Nat) : Int) := by omega
    have f6 : (0 : Int) ≤ (i : Int) := by omega
    have g1 : ((o + j : Nat) : Int) ≤ 4611686018427387904 := by omega
    have g2 : (j : Int) + 1 ≤ 4611686018427387904 := by omega
    have g3 : (0 : Int) ≤ (j : Int) + 1 := by omega
    have hw : wrap64 (off + (j : Int)) = ((o + j : Nat) : Int) := by rw [hoff, ← Int.natCast_add]; exact wrapS _ f5 g1
    have hup : wrap64 ((j : Int) + 1) = ((j + 1 : Nat) : Int) := wrapS _ g3 g2
    refine Ev.step (fun t => ?_) ih
    clear ih he hrow
    simp only [wrackref1_Roads.l2]
    rw [if_pos f4, hw, if_pos f5, if_pos f1, if_pos f6, if_pos f2, if_pos f3, hup]
theorem roads_l1 (o k : Nat) (hoff : off = (o : Int)) (hk : k ≤ 65536) (hok : o + k ≤ from_.length) (hfl : from_.length ≤ 65536) (hrow : ∀ j, j < k → lenAt from_ (o + j) = lenAt from_ o) (hl8 : lenAt from_ o ≤ 8) (acc : List Int) (hacc : acc.length ≤ 100000000) (r : List S41)
    (he : Ev (fun t => wrackref1_Roads.l0 t from_ C (wrap64 (off + (k : Int))) (wrap64 (n - (k : Int))) (acc ++ piecesW from_ o k (lenAt from_ o))) r) : ∀ (d i : Nat), i + d = lenAt from_ o →
    Ev (fun t => wrackref1_Roads.l1 t from_ C off n (acc ++ piecesW from_ o k i) (k : Int) (lenAt from_ o : Int) (i : Int)) r
  | 0, i, hi => by
    obtain rfl : i = lenAt from_ o := by omega
    refine Ev.step (fun t => ?_) he
    simp only [wrackref1_Roads.l1]
    rw [if_neg (by omega)]
  | d + 1, i, hi => by
    have ih := roads_l1 o k hoff hk hok hfl hrow hl8 acc hacc r he d (i + 1) (by omega)
    have hp : piecesW from_ o k (i + 1) = piecesW from_ o k i ++ pieceW from_ o i k := by
      unfold piecesW; rw [List.range_succ, List.flatMap_append]; simp
    rw [hp, ← List.append_assoc] at ih
    have lp := piecesW_len from_ o k i
    have hle : i * k ≤ 8 * 65536 := Nat.mul_le_mul (by omega) hk
    have f1 : (i : Int) < (lenAt from_ o : Int) := by omega
    have f2 : ∀ j, j < k → i < lenAt from_ (o + j) := fun j hj => by rw [hrow j hj]; omega
    have f3 : (acc ++ piecesW from_ o k i).length + k < 17592186044416 := by rw [List.length_append, lp]; omega
    have g2 : (i : Int) + 1 ≤ 4611686018427387904 := by omega
    have g3 : (0 : Int) ≤ (i : Int) + 1 := by omega
    have f4 : 0 + k = k := by omega
    have hup : wrap64 ((i : Int) + 1) = ((i + 1 : Nat) : Int) := wrapS _ g3 g2
    have e2 := roads_l2 from_ C off n o k i hoff hk hok hfl f2 (acc ++ piecesW from_ o k i) f3 (lenAt from_ o : Int) (i : Int) r (by rw [hup]; exact ih) k 0 f4
    refine Ev.step (fun t => ?_) e2
    simp only [wrackref1_Roads.l1]
    rw [if_pos f1]
    simp [pieceW]
end
theorem roads_l0 (from_ : List (List Int)) (Cn : Nat) (hC : 0 < Cn) (hC2 : Cn ≤ 1024) (hfl : from_.length ≤ 65536) (hsame : ∀ o j, o + j < from_.length → o % Cn + j < Cn → lenAt from_ (o + j) = lenAt from_ o) (hl8 : ∀ o, o < from_.length → lenAt from_ o ≤ 8) (r : List S41) (full : List Int) (hfull : Ev (fun t => wrackref1_Glued.f t full) r) : ∀ (f o n : Nat) (acc : List Int), n ≤ f → o + n ≤ from_.length → acc.length + 8 * n ≤ 1000000 → acc ++ roadF from_ Cn f o n = full →
    Ev (fun t => wrackref1_Roads.l0 t from_ (Cn : Int) (o : Int) (n : Int) acc) r
  | 0, o, n, acc, hf, ho, ha, he => by
    obtain rfl : n = 0 := by omega
    have hf2 : acc = full := by rw [← he]; simp [roadF]
    refine Ev.step (f := fun t => (wrackref1_Glued.f t acc).bind fun u => some u) (fun t => ?_) (Ev.bind (f := fun _ u => some u) (by rw [hf2]; exact hfull) (Ev.now _))
    simp only [wrackref1_Roads.l0]
    rw [if_neg (by omega)]
  | f + 1, o, n, acc, hf, ho, ha, he => by
    by_cases hn : n = 0
    · subst hn
      have hf2 : acc = full := by rw [← he]; simp [roadF]
      refine Ev.step (f := fun t => (wrackref1_Glued.f t acc).bind fun u => some u) (fun t => ?_) (Ev.bind (f := fun _ u => some u) (by rw [hf2]; exact hfull) (Ev.now _))
      simp only [wrackref1_Roads.l0]
      rw [if_neg (by omega)]
    · have hm := Nat.mod_lt o hC
      obtain ⟨k, hk⟩ : ∃ k, k = min n (Cn - o % Cn) := ⟨_, rfl⟩
      have hkb : 1 ≤ k ∧ k ≤ n ∧ o % Cn + k ≤ Cn := by omega
      have hrf : roadF from_ Cn (f + 1) o n = piecesW from_ o k (lenAt from_ o) ++ roadF from_ Cn f (o + k) (n - k) := by
        rw [roadF, if_neg hn, ← hk]
      rw [hrf, ← List.append_assoc] at he
      have hlo := hl8 o (by omega)
      have lp := piecesW_len from_ o k (lenAt from_ o)
      have hle : lenAt from_ o * k ≤ 8 * k := Nat.mul_le_mul_right _ hlo
      have IH := roads_l0 from_ Cn hC hC2 hfl hsame hl8 r full hfull f (o + k) (n - k) (acc ++ piecesW from_ o k (lenAt from_ o)) (by omega) (by omega) (by rw [List.length_append, lp]; omega) he
      have q1 : ((o + k : Nat) : Int) ≤ 4611686018427387904 := by omega
      have q2 : ((n - k : Nat) : Int) ≤ 4611686018427387904 := by omega
      have q3 : ((Cn - o % Cn : Nat) : Int) ≤ 4611686018427387904 := by omega
      have q4 : (n : Int) - (k : Int) = ((n - k : Nat) : Int) := by omega
      have q5 : (Cn : Int) - ((o % Cn : Nat) : Int) = ((Cn - o % Cn : Nat) : Int) := by omega
      have p1 : k ≤ 65536 := by omega
      have p2 : o + k ≤ from_.length := by omega
      have p3 : ∀ j, j < k → lenAt from_ (o + j) = lenAt from_ o := fun j hj => hsame o j (by omega) (by omega)
      have p4 : acc.length ≤ 100000000 := by omega
      have p5 : 0 + lenAt from_ o = lenAt from_ o := by omega
      have p6 : (n : Int) > 0 := by omega
      have p7 : (Cn : Int) ≠ 0 := by omega
      have p8 : (0 : Int) ≤ (o : Int) := by omega
      have p9 : (o : Int) < (from_.length : Int) := by omega
      have pA : mn (n : Int) ((Cn - o % Cn : Nat) : Int) = (k : Int) := by unfold mn; split <;> omega
      clear hsame hl8 hkb hk hm hle lp hrf he
      have hw1 : wrap64 ((o : Int) + (k : Int)) = ((o + k : Nat) : Int) := by rw [← Int.natCast_add]; exact wrapS _ (Int.natCast_nonneg _) q1
      have hw2 : wrap64 ((n : Int) - (k : Int)) = ((n - k : Nat) : Int) := by rw [q4]; exact wrapS _ (Int.natCast_nonneg _) q2
      have hw3 : wrap64 ((Cn : Int) - ((o % Cn : Nat) : Int)) = ((Cn - o % Cn : Nat) : Int) := by rw [q5]; exact wrapS _ (Int.natCast_nonneg _) q3
      have e1 := roads_l1 from_ (Cn : Int) (o : Int) (n : Int) o k rfl p1 p2 hfl p3 hlo acc p4 r (by rw [hw1, hw2]; exact IH) (lenAt from_ o) 0 p5
      have htm : Int.tmod (o : Int) (Cn : Int) = ((o % Cn : Nat) : Int) := by rw [Int.tmod_eq_emod_of_nonneg p8]; rfl
      refine Ev.step (fun t => ?_) e1
      simp only [wrackref1_Roads.l0]
      rw [if_pos p6, if_neg p7, if_pos p8, if_pos p9, htm, hw3, pA]
      simp [piecesW, lenAt]
theorem roads_ev (from_ : List (List Int)) (Cn : Nat) (hC : 0 < Cn) (hC2 : Cn ≤ 1024) (hfl : from_.length ≤ 65536) (hsame : ∀ o j, o + j < from_.length → o % Cn + j < Cn → lenAt from_ (o + j) = lenAt from_ o) (hl8 : ∀ o, o < from_.length → lenAt from_ o ≤ 8) (o n : Nat) (ho : o + n ≤ from_.length) (hlen : (roadF from_ Cn n o n).length ≤ 1000000) (hin : ∀ b ∈ roadF from_ Cn n o n, 0 ≤ b ∧ b < 65536) :
    Ev (fun t => wrackref1_Roads.f t from_ (Cn : Int) (o : Int) (n : Int)) (gluedP [] (roadF from_ Cn n o n)) :=
  roads_l0 from_ Cn hC hC2 hfl hsame hl8 _ _ (gluedB_ev (roadF from_ Cn n o n) hlen hin) n o n [] (Nat.le_refl _) ho (by simp; omega) rfl
end Go.Proofs.Ytlnikhijfamakaa.Pure
