/- Packed layers: both roads lay the same. No condition. -/
import Derived.Test.YtgkjkhhppmnajaaZPurePackOpensK
import Derived.Lib.Bytes
import Derived.Lib.Repeat
import Derived.Lib.EndianBits
namespace Go.Proofs.Ytgkjkhhppmnajaa.Pure
open Go.Proofs.Ytgkjkhhppmnajaa.SumPlain Go.Maps
open Go Go.RowKit Go.Proofs.Ytgkjkhhppmnajaa.QPackOpens Go.Proofs.YtgkjkhhppmnajaaW.PrintWords Go.Proofs.YtgkjkhhppmnajaaW.PrintLast Go.Proofs.YtgkjkhhppmnajaaW.PrintMore
set_option linter.unusedVariables false
set_option linter.unusedSimpArgs false
theorem bytes_snoc (a n : Int) (hn : 0 ≤ n) : bytesS ⟨a, n + 1⟩ = bytesS ⟨a, n⟩ ++ [a + n] := by
 obtain ⟨m, rfl⟩ := Int.eq_ofNat_of_zero_le hn
 exact range_bytes a m
theorem laid_put (o : List S45) (q : Int) (ho : ∀ x ∈ o, okS x) (h0 : 0 ≤ q) (h1 : q < 65536) : (∀ x ∈ put o q 1, okS x) ∧ laid (put o q 1) = laid o ++ [q] := by
 have hq : okS ⟨q, 1⟩ := ⟨h0, by show (0 : Int) < 1; omega, by show q + 1 ≤ 65536; omega⟩
 have hb : bytesS ⟨q, 1⟩ = [q] := by simp [bytesS]
 rcases last_of o with rfl | ⟨p, y, rfl⟩
 ·
  rw [put_nil]
  refine ⟨fun x hx => by rw [List.mem_singleton] at hx; subst hx; exact hq, ?_⟩
  rw [laid_one _ hq, hb]; rfl
 ·
  have hy := ho y (by simp)
  by_cases hj : y.f0 + y.f1 = q
  ·
   rw [put_join p y q 1 hj]
   have hy2 : okS ⟨y.f0, y.f1 + 1⟩ := ⟨hy.1, by have := hy.2.1; show 0 < y.f1 + 1; omega, by show y.f0 + (y.f1 + 1) ≤ 65536; omega⟩
   refine ⟨fun x hx => ?_, ?_⟩
   ·
    rw [List.mem_append, List.mem_singleton] at hx
    rcases hx with hx | hx
    · exact ho x (by simp [hx])
    · subst hx; exact hy2
   · rw [laid_app, laid_app, laid_one _ hy2, laid_one _ hy, bytes_snoc y.f0 y.f1 (by have := hy.2.1; omega), hj, List.append_assoc]
  ·
   rw [put_new p y q 1 hj]
   refine ⟨fun x hx => ?_, ?_⟩
   ·
    rw [List.mem_append, List.mem_singleton] at hx
    rcases hx with hx | hx
    · exact ho x hx
    · subst hx; exact hq
   · rw [laid_app (p ++ [y]), laid_one _ hq, hb]
theorem laid_glued : ∀ (l : List Int) (o : List S45), (∀ x ∈ o, okS x) → (∀ q ∈ l, 0 ≤ q ∧ q < 65536) → (∀ x ∈ gluedP o l, okS x) ∧ laid (gluedP o l) = laid o ++ l
 | [], o, ho, _ => ⟨ho, by simp [gluedP]⟩
 | q :: l, o, ho, hl => by
  obtain ⟨h1, h2⟩ := laid_put o q ho (hl q (by simp)).1 (hl q (by simp)).2
  obtain ⟨h3, h4⟩ := laid_glued l (put o q 1) h1 (fun x hx => hl x (List.mem_cons_of_mem _ hx))
  exact ⟨h3, by show laid (gluedP (put o q 1) l) = _; rw [h4, h2, List.append_assoc]; rfl⟩
/-- what is laid of positions glued: the positions -/
theorem laid_glued0 (l : List Int) (hl : ∀ q ∈ l, 0 ≤ q ∧ q < 65536) : (∀ x ∈ gluedP [] l, okS x) ∧ laid (gluedP [] l) = l := laid_glued l [] (by simp) hl
theorem idx_cut (n o k : Nat) (h : o + k ≤ n) : ((idx n).drop o).take k = (List.range k).map fun (i : Nat) => (o : Int) + (i : Int) := by
 apply List.ext_getElem?
 intro j
 by_cases hj : j < k
 ·
  rw [List.getElem?_take_of_lt hj, List.getElem?_drop, List.getElem?_map, List.getElem?_range hj]
  unfold idx
  rw [List.getElem?_map, List.getElem?_range (by omega)]
  simp
 · rw [List.getElem?_eq_none (by rw [List.length_take]; omega), List.getElem?_eq_none (by simp; omega)]
/-- an image's road leads to the very bytes -/
theorem road_laid (n o k : Nat) (hn : n ≤ 65536) (h : o + k ≤ n) : laid (roadRow (idx n) (o : Int) (k : Int)) = laid [⟨(o : Int), (k : Int)⟩] := by
 have hR : inR ((idx n).length : Int) (o : Int) (k : Int) := by
  rw [idx_len]
  exact ⟨by omega, by omega, by omega⟩
 unfold roadRow
 rw [if_pos hR, Int.toNat_natCast, Int.toNat_natCast, idx_cut n o k h, (laid_glued0 _ (fun q hq => by
  obtain ⟨i, hi, rfl⟩ := List.mem_map.1 hq
  have := List.mem_range.1 hi
  omega)).2]
 by_cases hk : k = 0
 ·
  subst hk
  have hno : ¬ okS ⟨(o : Int), ((0 : Nat) : Int)⟩ := fun h2 => by unfold okS at h2; simp only at h2; omega
  rw [laid_no _ _ hno]
  rfl
 ·
  rw [laid_one _ (by unfold okS; simp only; omega)]
  unfold bytesS
  simp only [Int.toNat_natCast]
/-- units, one after the other -/
def unitsL (l : List S45) (a j : Nat) : List S45 := (List.range j).map fun (t : Nat) => rd_T45 l ((a + t : Nat) : Int)
theorem unitsL_succ (l : List S45) (a j : Nat) : unitsL l a (j + 1) = unitsL l a j ++ [rd_T45 l ((a + j : Nat) : Int)] := by
 unfold unitsL
 rw [List.range_succ, List.map_append]
 rfl
/-- both roads lay the same -/
theorem rows_laid (n : Nat) (hn : n ≤ 65536) (l : List S45) (hl : ∀ y ∈ l, 0 ≤ y.f0 ∧ 0 ≤ y.f1 ∧ y.f0 + y.f1 ≤ (n : Int)) (hh : 16 + 2 * l.length ≤ n) (a : Nat) : ∀ j, a + j ≤ l.length → laid (rowsR (idx n) l a j) = laid (⟨0, 16 + 2 * (l.length : Int)⟩ :: unitsL l a j)
 | 0, _ => by
  have h := road_laid n 0 (16 + 2 * l.length) hn (by omega)
  unfold rowsR
  rw [show (16 + 2 * (l.length : Int)) = ((16 + 2 * l.length : Nat) : Int) by omega]
  exact h
 | j + 1, hj => by
  have ih := rows_laid n hn l hl hh a j (by omega)
  have hm := hl (rd_T45 l ((a + j : Nat) : Int)) (rd_mem l (a + j) (by omega))
  obtain ⟨y, hy⟩ : ∃ y, y = rd_T45 l ((a + j : Nat) : Int) := ⟨_, rfl⟩
  rw [← hy] at hm
  have h := road_laid n y.f0.toNat y.f1.toNat hn (by omega)
  rw [Int.toNat_of_nonneg hm.1, Int.toNat_of_nonneg hm.2.1] at h
  rw [rowsR, laid_app, ih, unitsL_succ, ← hy, h, ← List.cons_append, laid_app]
end Go.Proofs.Ytgkjkhhppmnajaa.Pure
