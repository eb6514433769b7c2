/- Arrays the reference's whole: joined. No condition. -/
import Derived.Test.YtlnikhijfamakaaPureArrayJoinsE
import Derived.WalkLawsBesides
import Derived.LoopN
namespace Go.Proofs.Ytlnikhijfamakaa.Pure
open Go.Proofs.Ytlnikhijfamakaa.ArrayPlain
open Go Go.RowKit Go.Maps Go.Proofs.Ytlnikhijfamakaa.QArrayJoins Go.Proofs.YtlnikhijfamakaaW.PrintWords Go.Proofs.YtlnikhijfamakaaW.PrintLast Go.Proofs.YtlnikhijfamakaaW.PrintMore
set_option linter.unusedVariables false
set_option linter.unusedSimpArgs false
theorem wrapS (x : Int) (h0 : 0 ≤ x) (h1 : x ≤ 4611686018427387904) : wrap64 x = x := by unfold wrap64; omega
theorem whole_w1 (i s : Nat) (hi : i ≤ 8) (hs : s ≤ 65536) : wrap64 ((i : Int) * (s : Int)) = (i : Int) * (s : Int) := by
  rw [← Int.natCast_mul]
  have h := Nat.mul_le_mul hi hs
  exact wrapS _ (Int.natCast_nonneg _) (by omega)
theorem whole_w (i s a : Nat) (hi : i ≤ 8) (hs : s ≤ 65536) (ha : a ≤ 65536) : wrap64 ((i : Int) * (s : Int) + (a : Int)) = (i : Int) * (s : Int) + (a : Int) := by
  rw [← Int.natCast_mul, ← Int.natCast_add]
  have h := Nat.mul_le_mul hi hs
  exact wrapS _ (Int.natCast_nonneg _) (by omega)
def addB (mm : List (List Int)) (mN i : Nat) : Prop := if i = mN then 0 < (rd_L3 mm (i : Int)).length else (rd_L3 mm (mN : Int)).length = 0
instance (mm : List (List Int)) (mN i : Nat) : Decidable (addB mm mN i) := by unfold addB; exact inferInstance
/-- the value at a place of a member, out of the first members -/
def valL (mm : List (List Int)) (mN aN : Nat) : Nat → Int
  | 0 => 0
  | i + 1 => if addB mm mN i then bx (valL mm mN aN i) (rd (rd_L3 mm (i : Int)) (aN : Int)) else valL mm mN aN i
/-- its positions in the image -/
def plcL (mm : List (List Int)) (s mN aN : Nat) : Nat → List Int
  | 0 => []
  | i + 1 => if addB mm mN i then plcL mm s mN aN i ++ [(i : Int) * (s : Int) + (aN : Int)] else plcL mm s mN aN i
theorem plcL_len (mm : List (List Int)) (s mN aN : Nat) : ∀ i, (plcL mm s mN aN i).length ≤ i
  | 0 => Nat.le_refl _
  | i + 1 => by
    have := plcL_len mm s mN aN i
    unfold plcL
    split
    · rw [List.length_append, List.length_singleton]; omega
    · omega
section
variable (mm : List (List Int)) (s : Nat) (fi go C : Int) (k m c : Int) (l : Bool) (ch : List S93)
set_option maxHeartbeats 4000000 in
theorem whole_l3 (hM : mm.length ≤ 8) (hs : s ≤ 65536) (O : List Int) (F : List (List Int)) (mN aN : Nat) (hm : mN < mm.length) (ha : aN < s) (hin : ∀ i, i < mm.length → addB mm mN i → aN < (rd_L3 mm (i : Int)).length) (q j : Int) (x0 x1 : Int) (r : List Int × List (List Int) × Bool) (hO : O.length < 140737488355328) (hF : F.length < 5864062014805) (len : Int)
    (he : Ev (fun n => wrackref1_Whole.l2 n mm (s : Int) fi go C (O ++ [valL mm mN aN mm.length]) (F ++ [plcL mm s mN aN mm.length]) ch len q C (wrap64 (j + 1)) k m c l x0 x1) r) : ∀ (d i : Nat), i + d = mm.length →
    Ev (fun n => wrackref1_Whole.l3 n mm (s : Int) fi go C O F (aN : Int) (mN : Int) (plcL mm s mN aN i) (valL mm mN aN i) ch len q C j (mm.length : Int) (i : Int) k m c l x0 x1) r
  | 0, i, hi => by
    obtain rfl : i = mm.length := by omega
    refine Ev.step (fun n => ?_) he
    simp only [wrackref1_Whole.l3]
    rw [if_neg (by omega), if_pos (by omega), if_pos (by omega)]
  | d + 1, i, hi => by
    have ih := whole_l3 hM hs O F mN aN hm ha hin q j x0 x1 r hO hF len he d (i + 1) (by omega)
    have h1 : valL mm mN aN (i + 1) = if addB mm mN i then bx (valL mm mN aN i) (rd (rd_L3 mm (i : Int)) (aN : Int)) else valL mm mN aN i := rfl
    have h2 : plcL mm s mN aN (i + 1) = if addB mm mN i then plcL mm s mN aN i ++ [(i : Int) * (s : Int) + (aN : Int)] else plcL mm s mN aN i := rfl
    rw [h1, h2] at ih
    clear h1 h2 he
    have hpl := plcL_len mm s mN aN i
    have hadd := hin i (by omega)
    have fup := upA i mm.length (by omega) (by omega)
    have fi1 : (i : Int) < (mm.length : Int) := by omega
    have fi0 : (0 : Int) ≤ (i : Int) := by omega
    have fm1 : (mN : Int) < (mm.length : Int) := by omega
    have fm0 : (0 : Int) ≤ (mN : Int) := by omega
    have fa0 : (0 : Int) ≤ (aN : Int) := by omega
    have fpl : (plcL mm s mN aN i).length < 17592186044416 := by omega
    have hw2 := whole_w i s aN (by omega) hs (by omega)
    have hw1 := whole_w1 i s (by omega) hs
    refine Ev.step (fun n => ?_) ih
    clear ih hin
    simp only [wrackref1_Whole.l3]
    rw [if_pos fi1, fup]
    by_cases e : i = mN
    · subst e
      rw [if_pos rfl, if_pos fi0, if_pos fi1]
      by_cases h0 : 0 < (rd_L3 mm (i : Int)).length
      · have hb : addB mm i i := by unfold addB; rw [if_pos rfl]; exact h0
        have g1 : ((rd_L3 mm (i : Int)).length : Int) > 0 := Int.natCast_pos.2 h0
        have g2 : (aN : Int) < ((rd_L3 mm (i : Int)).length : Int) := Int.ofNat_lt.2 (hadd hb)
        rw [if_pos g1, if_pos fa0, if_pos g2, if_pos fpl, hw1, hw2, if_pos hb, if_pos hb]
        rfl
      · have hb : ¬ addB mm i i := by unfold addB; rw [if_pos rfl]; exact h0
        have g3 : ((rd_L3 mm (i : Int)).length : Int) = 0 := by rw [show (rd_L3 mm (i : Int)).length = 0 from Nat.eq_zero_of_not_pos h0]; rfl
        have g1 : ¬ ((rd_L3 mm (i : Int)).length : Int) > 0 := by rw [g3]; decide
        rw [if_neg g1, if_pos fi0, if_pos fi1, if_pos g3, if_neg hb, if_neg hb]
    · have fne : ¬ (i : Int) = (mN : Int) := fun h => e (Int.ofNat_inj.1 h)
      rw [if_neg fne, if_pos fm0, if_pos fm1]
      by_cases h0 : (rd_L3 mm (mN : Int)).length = 0
      · have hb : addB mm mN i := by unfold addB; rw [if_neg e]; exact h0
        have g3 : ((rd_L3 mm (mN : Int)).length : Int) = 0 := by rw [h0]; rfl
        have g2 : (aN : Int) < ((rd_L3 mm (i : Int)).length : Int) := Int.ofNat_lt.2 (hadd hb)
        rw [if_pos g3, if_pos fi0, if_pos fi1, if_pos fa0, if_pos g2, if_pos fpl, hw1, hw2, if_pos hb, if_pos hb]
        rfl
      · have hb : ¬ addB mm mN i := by unfold addB; rw [if_neg e]; exact h0
        have g3 : ¬ ((rd_L3 mm (mN : Int)).length : Int) = 0 := fun h => h0 (Int.ofNat_inj.1 h)
        rw [if_neg g3, if_neg hb, if_neg hb]
/-- a chunk's member -/
def memW (k fi : Int) (x : S93) : Nat := (if k = 1 then fi else x.f0).toNat
def chV (mm : List (List Int)) (k fi : Int) (Cn : Nat) (x : S93) (n : Nat) : List Int := (List.range n).map fun j => valL mm (memW k fi x) (x.f1.toNat * Cn + j) mm.length
def chP (mm : List (List Int)) (s : Nat) (k fi : Int) (Cn : Nat) (x : S93) (n : Nat) : List (List Int) := (List.range n).map fun j => plcL mm s (memW k fi x) (x.f1.toNat * Cn + j) mm.length
/-- a chunk lies within the members -/
def chOk (mm : List (List Int)) (s : Nat) (k fi : Int) (Cn : Nat) (x : S93) : Prop := 0 ≤ x.f1 ∧ x.f1.toNat * Cn + Cn ≤ s ∧ 0 ≤ (if k = 1 then fi else x.f0) ∧ (if k = 1 then fi else x.f0) < (mm.length : Int) ∧ ∀ i, i < mm.length → addB mm (memW k fi x) i → (rd_L3 mm (i : Int)).length = s
set_option maxHeartbeats 4000000 in
theorem whole_l2 (hM : mm.length ≤ 8) (hs : s ≤ 65536) (Cn : Nat) (hC : C = (Cn : Int)) (O : List Int) (F : List (List Int)) (hO : O.length + Cn < 140737488355328) (hF : F.length + Cn < 5864062014805) (x : S93) (hx : chOk mm s k fi Cn x) (q len : Int) (r : List Int × List (List Int) × Bool)
    (he : Ev (fun n => wrackref1_Whole.l1 n mm (s : Int) fi go C (O ++ chV mm k fi Cn x Cn) (F ++ chP mm s k fi Cn x Cn) ch len (wrap64 (q + 1)) k m c l) r) : ∀ (d j : Nat), j + d = Cn →
    Ev (fun n => wrackref1_Whole.l2 n mm (s : Int) fi go C (O ++ chV mm k fi Cn x j) (F ++ chP mm s k fi Cn x j) ch len q C (j : Int) k m c l x.f0 x.f1) r
  | 0, j, hj => by
    obtain rfl : j = Cn := by omega
    refine Ev.step (fun n => ?_) he
    simp only [wrackref1_Whole.l2]
    rw [if_neg (by omega)]
  | d + 1, j, hj => by
    have ih := whole_l2 hM hs Cn hC O F hO hF x hx q len r he d (j + 1) (by omega)
    obtain ⟨h0, h1, h2, h3, h4⟩ := hx
    have hv : chV mm k fi Cn x (j + 1) = chV mm k fi Cn x j ++ [valL mm (memW k fi x) (x.f1.toNat * Cn + j) mm.length] := by
      unfold chV; rw [List.range_succ, List.map_append]; rfl
    have hp : chP mm s k fi Cn x (j + 1) = chP mm s k fi Cn x j ++ [plcL mm s (memW k fi x) (x.f1.toNat * Cn + j) mm.length] := by
      unfold chP; rw [List.range_succ, List.map_append]; rfl
    have lv : (chV mm k fi Cn x j).length = j := by unfold chV; simp
    have lp : (chP mm s k fi Cn x j).length = j := by unfold chP; simp
    rw [hv, hp, ← List.append_assoc, ← List.append_assoc] at ih
    have hmw : ((memW k fi x : Nat) : Int) = if k = 1 then fi else x.f0 := by unfold memW; omega
    have e3 := whole_l3 mm s fi go C k m c l ch hM hs (O ++ chV mm k fi Cn x j) (F ++ chP mm s k fi Cn x j) (memW k fi x) (x.f1.toNat * Cn + j) (by omega) (by omega) (fun i hi ha => by rw [h4 i hi ha]; omega) q (j : Int) x.f0 x.f1 r (by rw [List.length_append, lv]; omega) (by rw [List.length_append, lp]; omega) len (by
      rw [show wrap64 ((j : Int) + 1) = ((j + 1 : Nat) : Int) from wrapS _ (by omega) (by omega)]
      exact ih) mm.length 0 (by omega)
    have hxc : x.f1 * C = ((x.f1.toNat * Cn : Nat) : Int) := by rw [hC, Int.natCast_mul, Int.toNat_of_nonneg h0]
    obtain ⟨pr, hpr⟩ : ∃ pr, pr = x.f1.toNat * Cn := ⟨_, rfl⟩
    rw [← hpr] at h1 hxc e3
    have hw1 : wrap64 (x.f1 * C) = (pr : Int) := by rw [hxc]; exact wrapS _ (by omega) (by omega)
    have hw2 : wrap64 ((pr : Int) + (j : Int)) = ((pr + j : Nat) : Int) := by rw [← Int.natCast_add]; exact wrapS _ (by omega) (by omega)
    refine Ev.step (fun n => ?_) (Ev.step (g := fun n => wrackref1_Whole.j3 n mm (s : Int) fi go C (O ++ chV mm k fi Cn x j) (F ++ chP mm s k fi Cn x j) ((pr + j : Nat) : Int) ((memW k fi x : Nat) : Int) ch len q C (j : Int) k m c l x.f0 x.f1) (fun n => ?_) e3)
    · simp only [wrackref1_Whole.l2]
      rw [if_pos (by omega), hw1, hw2, hmw]
      by_cases hk : k = 1
      · rw [if_pos hk, if_pos hk]
      · rw [if_neg hk, if_neg hk]
    · simp only [wrackref1_Whole.j3]
      rfl
end
end Go.Proofs.Ytlnikhijfamakaa.Pure
