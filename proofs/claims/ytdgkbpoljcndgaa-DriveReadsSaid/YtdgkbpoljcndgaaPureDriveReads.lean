/- The statement DriveReads, walked: a drive is read block by block, and beside it the reference counts; both come to the same, for all drives and blocks. No condition but what one argument may take. -/
import Derived.Test.YtdgkbpoljcndgaaQDriveReadsx
import Derived.WalkLawsBesides
import Derived.LoopN
namespace Go.Proofs.Ytdgkbpoljcndgaa.Pure
open Go Go.RowKit Go.Maps Go.Proofs.Ytdgkbpoljcndgaa.QDriveReads Go.Proofs.YtdgkbpoljcndgaaW.PrintWords Go.Proofs.YtdgkbpoljcndgaaW.PrintLast Go.Proofs.YtdgkbpoljcndgaaW.PrintMore
set_option linter.unusedVariables false
set_option linter.unusedSimpArgs false
theorem drop_fault (l : List S121) (i : Nat) (h : i < l.length) : l.drop i = rd_T121 l (i : Int) :: l.drop (i + 1) := by
  rw [List.drop_eq_getElem_cons h]
  simp [rd_T121, List.getD_eq_getElem?_getD, h]
theorem up (i n : Nat) (h : i < n) (hn : n ≤ 4611686018427387904) : wrap64 ((i : Int) + 1) = ((i + 1 : Nat) : Int) := by unfold wrap64; omega
/-- a fault's number is wrong -/
def badN (x : S121) : Prop := (x.f1 = 1 ∧ x.f2 ≠ 0) ∨ (x.f1 = 2 ∧ (x.f2 < 2 ∨ x.f2 > 16)) ∨ (x.f1 = 3 ∧ (x.f2 < 2 ∨ x.f2 > 100))
instance (x : S121) : Decidable (badN x) := by unfold badN; exact inferInstance
/-- the first error of faults, behind one of the block 'last' -/
def errF (n : Int) : Int → List S121 → Int
  | _, [] => 0
  | last, x :: l => if x.f0 < 0 ∨ x.f0 ≥ n then 4 else if x.f0 ≤ last then 11 else if ¬ (1 ≤ x.f1 ∧ x.f1 ≤ 3) then 1 else if badN x then 4 else errF n x.f0 l
def errD (data : List Int) (l : List S121) : Int := if (data.length : Int) > 65536 then 2 else if (data.length : Int) % 64 = 0 then errF ((data.length : Int) / 64) (-1) l else 3
theorem check_l0 (data : List Int) (l : List S121) (hd : (data.length : Int) ≤ 65536) (hn : l.length ≤ 4611686018427387904) : ∀ (d i : Nat) (last : Int), i + d = l.length →
    Ev (fun k => drive_Check.l0 k last l (l.length : Int) (i : Int) data l) (errF ((data.length : Int) / 64) last (l.drop i))
  | 0, i, last, hi => by
    refine Ev.step (f := fun _ => some _) (fun k => ?_) (Ev.now _)
    simp only [drive_Check.l0]
    rw [if_neg (by omega), List.drop_of_length_le (by omega)]; rfl
  | d + 1, i, last, hi => by
    have hw : wrap64 ((data.length : Int) / 64) = (data.length : Int) / 64 := by unfold wrap64; omega
    have ih := check_l0 data l hd hn d (i + 1)
    rw [drop_fault l i (by omega)]
    generalize hx : rd_T121 l (i : Int) = x
    have hu := up i l.length (by omega) hn
    unfold errF
    have j1 : ∀ b, b = decide (x.f0 < 0 ∨ x.f0 ≥ (data.length : Int) / 64) → Ev (fun k => drive_Check.j1 k last l (l.length : Int) (i : Int) b data l x.f0 x.f1 x.f2) (if x.f0 < 0 ∨ x.f0 ≥ (data.length : Int) / 64 then 4 else if x.f0 ≤ last then 11 else if ¬ (1 ≤ x.f1 ∧ x.f1 ≤ 3) then 1 else if badN x then 4 else errF ((data.length : Int) / 64) x.f0 (l.drop (i + 1))) := by
      rintro b rfl
      by_cases h1 : x.f0 < 0 ∨ x.f0 ≥ (data.length : Int) / 64
      · rw [if_pos h1, decide_eq_true h1]
        refine Ev.step (f := fun _ => some _) (fun k => ?_) (Ev.now _)
        simp only [drive_Check.j1, if_true]
      · rw [if_neg h1, decide_eq_false h1]
        by_cases h2 : x.f0 ≤ last
        · rw [if_pos h2]
          refine Ev.step (f := fun _ => some _) (fun k => ?_) (Ev.now _)
          simp only [drive_Check.j1]
          rw [if_neg (by decide), if_pos h2]
        · rw [if_neg h2]
          have j2 : ∀ b, b = decide (¬ (1 ≤ x.f1 ∧ x.f1 ≤ 3)) → Ev (fun k => drive_Check.j2 k l (l.length : Int) (i : Int) b data l x.f0 x.f1 x.f2) (if ¬ (1 ≤ x.f1 ∧ x.f1 ≤ 3) then 1 else if badN x then 4 else errF ((data.length : Int) / 64) x.f0 (l.drop (i + 1))) := by
            rintro b rfl
            by_cases h3 : ¬ (1 ≤ x.f1 ∧ x.f1 ≤ 3)
            · rw [if_pos h3, decide_eq_true h3]
              refine Ev.step (f := fun _ => some _) (fun k => ?_) (Ev.now _)
              simp only [drive_Check.j2, if_true]
            · rw [if_neg h3, decide_eq_false h3]
              have j4 : ∀ b, b = decide (x.f1 = 1 ∧ x.f2 ≠ 0 ∨ x.f1 = 2 ∧ (x.f2 < 2 ∨ x.f2 > 16)) → Ev (fun k => drive_Check.j4 k l (l.length : Int) (i : Int) b data l x.f0 x.f1 x.f2) (if badN x then 4 else errF ((data.length : Int) / 64) x.f0 (l.drop (i + 1))) := by
                rintro b rfl
                by_cases h4 : x.f1 = 1 ∧ x.f2 ≠ 0 ∨ x.f1 = 2 ∧ (x.f2 < 2 ∨ x.f2 > 16)
                · rw [decide_eq_true h4, if_pos (by unfold badN; omega)]
                  refine Ev.step (f := fun _ => some _) (fun k => ?_) (Ev.now _)
                  simp only [drive_Check.j4, if_true]
                · rw [decide_eq_false h4]
                  by_cases h5 : x.f1 = 3
                  · by_cases h6 : x.f2 < 2
                    · rw [if_pos (by unfold badN; omega)]
                      refine Ev.step (f := fun _ => some _) (fun k => ?_) (Ev.now _)
                      simp only [drive_Check.j4]
                      rw [if_neg (by decide), if_pos h5, if_pos h6]
                    · by_cases h7 : x.f2 > 100
                      · rw [if_pos (by unfold badN; omega)]
                        refine Ev.step (f := fun _ => some _) (fun k => ?_) (Ev.now _)
                        simp only [drive_Check.j4]
                        rw [if_neg (by decide), if_pos h5, if_neg h6, if_pos h7]
                      · rw [if_neg (by unfold badN; omega)]
                        refine Ev.step (fun k => ?_) (ih x.f0 (by omega))
                        simp only [drive_Check.j4]
                        rw [if_neg (by decide), if_pos h5, if_neg h6, if_neg h7, hu]
                  · rw [if_neg (by unfold badN; omega)]
                    refine Ev.step (fun k => ?_) (ih x.f0 (by omega))
                    simp only [drive_Check.j4]
                    rw [if_neg (by decide), if_neg h5, hu]
              have j3 : ∀ b, b = decide (x.f1 = 1 ∧ x.f2 ≠ 0) → Ev (fun k => drive_Check.j3 k l (l.length : Int) (i : Int) b data l x.f0 x.f1 x.f2) (if badN x then 4 else errF ((data.length : Int) / 64) x.f0 (l.drop (i + 1))) := by
                rintro b rfl
                by_cases h4 : x.f1 = 1 ∧ x.f2 ≠ 0
                · rw [decide_eq_true h4, if_pos (by unfold badN; omega)]
                  refine Ev.step (f := fun _ => some _) (fun k => ?_) (Ev.now _)
                  simp only [drive_Check.j3, if_true]
                · rw [decide_eq_false h4]
                  by_cases h5 : x.f1 = 2
                  · by_cases h6 : x.f2 < 2
                    · refine Ev.step (fun k => ?_) (j4 true (by simp; omega))
                      simp only [drive_Check.j3]
                      rw [if_neg (by decide), if_pos h5, if_pos h6]
                    · refine Ev.step (fun k => ?_) (j4 (decide (x.f2 > 16)) (decide_eq_decide.2 (by omega)))
                      simp only [drive_Check.j3]
                      rw [if_neg (by decide), if_pos h5, if_neg h6]
                  · refine Ev.step (fun k => ?_) (j4 false (by simp; omega))
                    simp only [drive_Check.j3]
                    rw [if_neg (by decide), if_neg h5]
              by_cases h4 : x.f1 = 1
              · refine Ev.step (fun k => ?_) (j3 (x.f2 != 0) (by rw [Bool.eq_iff_iff]; simp [h4]))
                simp only [drive_Check.j2]
                rw [if_neg (by decide), if_pos h4]
              · refine Ev.step (fun k => ?_) (j3 false (by simp [h4]))
                simp only [drive_Check.j2]
                rw [if_neg (by decide), if_neg h4]
          by_cases h3 : x.f1 < 1
          · refine Ev.step (fun k => ?_) (j2 true (by simp; omega))
            simp only [drive_Check.j1]
            rw [if_neg (by decide), if_neg h2, if_pos h3]
          · refine Ev.step (fun k => ?_) (j2 (decide (x.f1 > 3)) (decide_eq_decide.2 (by omega)))
            simp only [drive_Check.j1]
            rw [if_neg (by decide), if_neg h2, if_neg h3]
    by_cases h1 : x.f0 < 0
    · refine Ev.step (fun k => ?_) (j1 true (by simp [h1]))
      simp only [drive_Check.l0]
      rw [if_pos (by omega), if_pos (by omega), if_pos (by omega), hx, if_pos h1]
    · refine Ev.step (fun k => ?_) (j1 (decide (x.f0 ≥ (data.length : Int) / 64)) (decide_eq_decide.2 (by omega)))
      simp only [drive_Check.l0]
      rw [if_pos (by omega), if_pos (by omega), if_pos (by omega), hx, if_neg h1, hw]
theorem check_ev (data : List Int) (l : List S121) (hn : l.length ≤ 4611686018427387904) : Ev (fun k => drive_Check.f k data l) (errD data l) := by
  unfold drive_Check.f errD
  by_cases h1 : (data.length : Int) > 65536
  · rw [if_pos h1]; exact Ev.congr (fun k => if_pos h1) (Ev.now _)
  · rw [if_neg h1]
    refine Ev.congr (fun k => if_neg h1) ?_
    by_cases h2 : (data.length : Int) % 64 = 0
    · rw [if_pos h2]
      refine Ev.congr (fun k => if_pos h2) ?_
      exact check_l0 data l (by omega) hn l.length 0 (-1) (by omega)
    · rw [if_neg h2]; exact Ev.congr (fun k => if_neg h2) (Ev.now _)
def lastF (l : List S121) (i : Nat) : Int := if i = 0 then -1 else (rd_T121 l ((i : Int) - 1)).f0
theorem derr_l0 (data : List Int) (l : List S121) (hd : (data.length : Int) ≤ 65536) (hn : l.length ≤ 4611686018427387904) : ∀ (d i : Nat), i + d = l.length →
    Ev (fun k => wrackref1_DriveErr.l0 k l (l.length : Int) (i : Int) data l) (errF ((data.length : Int) / 64) (lastF l i) (l.drop i))
  | 0, i, hi => by
    refine Ev.step (f := fun _ => some _) (fun k => ?_) (Ev.now _)
    simp only [wrackref1_DriveErr.l0]
    rw [if_neg (by omega), List.drop_of_length_le (by omega)]; rfl
  | d + 1, i, hi => by
    have hw : wrap64 ((data.length : Int) / 64) = (data.length : Int) / 64 := by unfold wrap64; omega
    have hw1 : wrap64 ((data.length : Int) / 64 - 1) = (data.length : Int) / 64 - 1 := by unfold wrap64; omega
    have ih := derr_l0 data l hd hn d (i + 1) (by omega)
    have hl1 : lastF l (i + 1) = (rd_T121 l (i : Int)).f0 := by
      unfold lastF
      rw [if_neg (by omega), show ((i + 1 : Nat) : Int) - 1 = (i : Int) by omega]
    rw [hl1] at ih
    rw [drop_fault l i (by omega)]
    generalize hx : rd_T121 l (i : Int) = x at ih ⊢
    have hu := up i l.length (by omega) hn
    unfold errF
    have j2 : ¬ (x.f0 < 0 ∨ x.f0 ≥ (data.length : Int) / 64) → ∀ b, b = decide (x.f0 ≤ lastF l i) → Ev (fun k => wrackref1_DriveErr.j2 k l (l.length : Int) (i : Int) b data l x.f0 x.f1 x.f2) (if x.f0 ≤ lastF l i then 11 else if ¬ (1 ≤ x.f1 ∧ x.f1 ≤ 3) then 1 else if badN x then 4 else errF ((data.length : Int) / 64) x.f0 (l.drop (i + 1))) := by
      rintro h0 b rfl
      by_cases h2 : x.f0 ≤ lastF l i
      · rw [if_pos h2, decide_eq_true h2]
        refine Ev.step (f := fun _ => some _) (fun k => ?_) (Ev.now _)
        simp only [wrackref1_DriveErr.j2, if_true]
      · rw [if_neg h2, decide_eq_false h2]
        by_cases h3 : ¬ (1 ≤ x.f1 ∧ x.f1 ≤ 3)
        · rw [if_pos h3]
          refine Ev.step (f := fun _ => some _) (fun k => ?_) (Ev.now _)
          simp only [wrackref1_DriveErr.j2]
          rw [if_neg (by decide), if_neg (by omega), if_neg (by omega), if_neg (by omega)]
        · rw [if_neg h3]
          by_cases h4 : badN x
          · rw [if_pos h4]
            refine Ev.step (f := fun _ => some _) (fun k => ?_) (Ev.now _)
            unfold badN at h4
            simp only [wrackref1_DriveErr.j2]
            rw [if_neg (by decide)]
            repeat' split
            all_goals first | rfl | omega
          · rw [if_neg h4]
            refine Ev.step (fun k => ?_) ih
            unfold badN at h4
            simp only [wrackref1_DriveErr.j2]
            rw [if_neg (by decide), hu]
            repeat' split
            all_goals first | rfl | (exfalso; omega)
    have j1 : ∀ b, b = decide (x.f0 < 0 ∨ x.f0 ≥ (data.length : Int) / 64) → Ev (fun k => wrackref1_DriveErr.j1 k (i : Int) l (l.length : Int) (i : Int) b data l x.f0 x.f1 x.f2) (if x.f0 < 0 ∨ x.f0 ≥ (data.length : Int) / 64 then 4 else if x.f0 ≤ lastF l i then 11 else if ¬ (1 ≤ x.f1 ∧ x.f1 ≤ 3) then 1 else if badN x then 4 else errF ((data.length : Int) / 64) x.f0 (l.drop (i + 1))) := by
      rintro b rfl
      by_cases h1 : x.f0 < 0 ∨ x.f0 ≥ (data.length : Int) / 64
      · rw [if_pos h1, decide_eq_true h1]
        refine Ev.step (f := fun _ => some _) (fun k => ?_) (Ev.now _)
        simp only [wrackref1_DriveErr.j1, if_true]
      · rw [if_neg h1, decide_eq_false h1]
        by_cases hi0 : i = 0
        · refine Ev.step (fun k => ?_) (j2 h1 false (by unfold lastF; rw [if_pos hi0]; simp; omega))
          simp only [wrackref1_DriveErr.j1]
          rw [if_neg (by decide), if_neg (by omega)]
        · refine Ev.step (fun k => ?_) (j2 h1 (decide ((rd_T121 l ((i : Int) - 1)).f0 ≥ x.f0)) (by unfold lastF; rw [if_neg hi0]))
          simp only [wrackref1_DriveErr.j1]
          rw [if_neg (by decide), if_pos (by omega), show wrap64 ((i : Int) - 1) = (i : Int) - 1 by unfold wrap64; omega, if_pos (by omega), if_pos (by omega)]
    by_cases h1 : x.f0 < 0
    · refine Ev.step (fun k => ?_) (j1 true (by simp [h1]))
      simp only [wrackref1_DriveErr.l0]
      rw [if_pos (by omega), if_pos (by omega), if_pos (by omega), hx, if_pos h1]
    · refine Ev.step (fun k => ?_) (j1 (decide (x.f0 > (data.length : Int) / 64 - 1)) (decide_eq_decide.2 (by omega)))
      simp only [wrackref1_DriveErr.l0]
      rw [if_pos (by omega), if_pos (by omega), if_pos (by omega), hx, if_neg h1, hw, hw1]
theorem derr_ev (data : List Int) (l : List S121) (hn : l.length ≤ 4611686018427387904) : Ev (fun k => wrackref1_DriveErr.f k data l) (errD data l) := by
  unfold wrackref1_DriveErr.f errD
  by_cases h1 : (data.length : Int) > 65536
  · rw [if_pos h1]; exact Ev.congr (fun k => if_pos h1) (Ev.now _)
  · rw [if_neg h1]
    refine Ev.congr (fun k => if_neg h1) ?_
    by_cases h2 : (data.length : Int) % 64 = 0
    · rw [if_pos h2]
      refine Ev.congr (fun k => if_neg (by omega)) ?_
      exact derr_l0 data l (by omega) hn l.length 0 (by omega)
    · rw [if_neg h2]; exact Ev.congr (fun k => if_pos (by omega)) (Ev.now _)
/-- what right faults are -/
structure RightF (n : Int) (l : List S121) : Prop where
  range : ∀ x ∈ l, 0 ≤ x.f0 ∧ x.f0 < n
  order : l.Pairwise fun x y => x.f0 < y.f0
  kind : ∀ x ∈ l, 1 ≤ x.f1 ∧ x.f1 ≤ 3
  num : ∀ x ∈ l, ¬ badN x
theorem right_of : ∀ (l : List S121) (n last : Int), errF n last l = 0 → RightF n l ∧ ∀ x ∈ l, last < x.f0
  | [], n, last, _ => ⟨⟨by simp, List.Pairwise.nil, by simp, by simp⟩, by simp⟩
  | x :: l, n, last, h => by
    unfold errF at h
    by_cases h1 : x.f0 < 0 ∨ x.f0 ≥ n
    · rw [if_pos h1] at h; omega
    · rw [if_neg h1] at h
      by_cases h2 : x.f0 ≤ last
      · rw [if_pos h2] at h; omega
      · rw [if_neg h2] at h
        by_cases h3 : ¬ (1 ≤ x.f1 ∧ x.f1 ≤ 3)
        · rw [if_pos h3] at h; omega
        · rw [if_neg h3] at h
          by_cases h4 : badN x
          · rw [if_pos h4] at h; omega
          · rw [if_neg h4] at h
            obtain ⟨g1, g2⟩ := right_of l n x.f0 h
            refine ⟨⟨fun y hy => ?_, List.pairwise_cons.2 ⟨g2, g1.order⟩, fun y hy => ?_, fun y hy => ?_⟩, fun y hy => ?_⟩
            · rcases List.mem_cons.1 hy with rfl | hy
              · omega
              · exact g1.range y hy
            · rcases List.mem_cons.1 hy with rfl | hy
              · omega
              · exact g1.kind y hy
            · rcases List.mem_cons.1 hy with rfl | hy
              · exact h4
              · exact g1.num y hy
            · rcases List.mem_cons.1 hy with rfl | hy
              · omega
              · have := g2 y hy; omega
theorem rd_mem (l : List S121) (i : Nat) (h : i < l.length) : rd_T121 l (i : Int) ∈ l := by
  unfold rd_T121
  rw [Int.toNat_natCast, List.getD_eq_getElem?_getD, List.getElem?_eq_getElem h]; simp
theorem rd_lt (l : List S121) (hl : l.Pairwise fun x y => x.f0 < y.f0) (i j : Nat) (hij : i < j) (hj : j < l.length) : (rd_T121 l (i : Int)).f0 < (rd_T121 l (j : Int)).f0 := by
  have := List.pairwise_iff_getElem.1 hl i j (by omega) hj hij
  unfold rd_T121
  rw [Int.toNat_natCast, Int.toNat_natCast, List.getD_eq_getElem?_getD, List.getD_eq_getElem?_getD, List.getElem?_eq_getElem hj, List.getElem?_eq_getElem (by omega)]
  simpa using this
theorem bs_right (l : List S121) (a : Int) (hl : l.Pairwise fun x y => x.f0 < y.f0) (hr : ∀ x ∈ l, 0 ≤ x.f0 ∧ x.f0 < 65536) (ha : 0 ≤ a ∧ a < 65536) : ∀ (m i j : Nat), i ≤ j → j ≤ l.length → j - i < m →
    (∀ q : Nat, q < i → (rd_T121 l (q : Int)).f0 < a) → (∀ q : Nat, j ≤ q → q < l.length → a ≤ (rd_T121 l (q : Int)).f0) →
    bsF l a m i j ≤ l.length ∧ (∀ q : Nat, q < bsF l a m i j → (rd_T121 l (q : Int)).f0 < a) ∧ ∀ q : Nat, bsF l a m i j ≤ q → q < l.length → a ≤ (rd_T121 l (q : Int)).f0
  | 0, i, j, hij, hj, hm, h1, h2 => by omega
  | m + 1, i, j, hij, hj, hm, h1, h2 => by
    simp only [bsF]
    by_cases hlt : i < j
    · rw [if_pos hlt]
      have hmem := hr _ (rd_mem l ((i + j) / 2) (by omega))
      rw [show wrap64 ((rd_T121 l (((i + j) / 2 : Nat) : Int)).f0 - a) = (rd_T121 l (((i + j) / 2 : Nat) : Int)).f0 - a by unfold wrap64; omega]
      by_cases hc : (rd_T121 l (((i + j) / 2 : Nat) : Int)).f0 - a < 0
      · rw [if_pos hc]
        refine bs_right l a hl hr ha m _ j (by omega) hj (by omega) (fun q hq => ?_) h2
        by_cases he : q = (i + j) / 2
        · rw [he]; omega
        · have := rd_lt l hl q ((i + j) / 2) (by omega) (by omega); omega
      · rw [if_neg hc]
        refine bs_right l a hl hr ha m i _ (by omega) (by omega) (by omega) h1 (fun q hq hql => ?_)
        by_cases he : q = (i + j) / 2
        · rw [he]; omega
        · have := rd_lt l hl ((i + j) / 2) q (by omega) hql; omega
    · rw [if_neg hlt]
      exact ⟨by omega, h1, fun q hq hql => h2 q (by omega) hql⟩
/-- the fault of a block -/
def findF (l : List S121) (a : Int) : Option S121 := l.find? fun x => decide (x.f0 = a)
theorem fault_val (data : List Int) (l : List S121) (a : Int) (hl : l.Pairwise fun x y => x.f0 < y.f0) (hr : ∀ x ∈ l, 0 ≤ x.f0 ∧ x.f0 < 65536) (ha : 0 ≤ a ∧ a < 65536) (hn : l.length ≤ 140737488351232) :
    drive_fault.f data l a = some (match findF l a with | some x => (x.f0, x.f1, x.f2) | none => (0, 0, 0)) := by
  obtain ⟨b1, b2, b3⟩ := bs_right l a hl hr ha (l.length + 1) 0 l.length (by omega) (by omega) (by omega) (fun q hq => by omega) (fun q hq hql => by omega)
  unfold drive_fault.f slices_BinarySearchFunc_faults.f
  rw [if_pos hn, Option.bind_some]
  generalize bsF l a (l.length + 1) 0 l.length = R at b1 b2 b3 ⊢
  simp only
  by_cases hR : R < l.length
  · have hm := hr _ (rd_mem l R hR)
    rw [show wrap64 ((rd_T121 l (R : Int)).f0 - a) = (rd_T121 l (R : Int)).f0 - a by unfold wrap64; omega, decide_eq_true hR, Bool.true_and]
    by_cases he : (rd_T121 l (R : Int)).f0 - a = 0
    · have hf : findF l a = some (rd_T121 l (R : Int)) := by
        unfold findF
        rw [List.find?_eq_some_iff_getElem]
        refine ⟨by simp; omega, R, hR, ?_, fun q hq => ?_⟩
        · unfold rd_T121; rw [Int.toNat_natCast, List.getD_eq_getElem?_getD, List.getElem?_eq_getElem hR]; rfl
        · have h1 := b2 q hq
          unfold rd_T121 at h1
          rw [Int.toNat_natCast, List.getD_eq_getElem?_getD, List.getElem?_eq_getElem (by omega), Option.getD_some] at h1
          simp; omega
      rw [hf, if_pos (decide_eq_true he), if_pos (by omega), if_pos (by omega)]
    · have hf : findF l a = none := by
        unfold findF
        rw [List.find?_eq_none]
        intro x hx
        obtain ⟨q, hq, rfl⟩ := List.getElem_of_mem hx
        have hrd : rd_T121 l (q : Int) = l[q] := by unfold rd_T121; rw [Int.toNat_natCast, List.getD_eq_getElem?_getD, List.getElem?_eq_getElem hq]; rfl
        rw [← hrd]
        simp only [decide_eq_true_eq]
        intro hqa
        rcases Nat.lt_trichotomy q R with h | h | h
        · have := b2 q h; omega
        · subst h; omega
        · have h1 := rd_lt l hl R q h hq
          have := b3 R (Nat.le_refl _) hR
          omega
      rw [hf, if_neg (by simpa using he)]
  · have hf : findF l a = none := by
      unfold findF
      rw [List.find?_eq_none]
      intro x hx
      obtain ⟨q, hq, rfl⟩ := List.getElem_of_mem hx
      have hrd : rd_T121 l (q : Int) = l[q] := by unfold rd_T121; rw [Int.toNat_natCast, List.getD_eq_getElem?_getD, List.getElem?_eq_getElem hq]; rfl
      rw [← hrd]
      simp only [decide_eq_true_eq]
      have := b2 q (by omega)
      omega
    rw [hf, decide_eq_false hR, Bool.false_and, if_neg (by decide)]
/-- need and cost of a block -/
def needs (l : List S121) (a : Int) : Int × Int := match findF l a with | some x => (if x.f1 = 1 then (0, 1) else if x.f1 = 2 then (x.f2, 1) else (1, x.f2)) | none => (1, 1)
theorem needs_l0 (l : List S121) (a : Int) (hk : ∀ x ∈ l, 1 ≤ x.f1 ∧ x.f1 ≤ 3) (hn : l.length ≤ 4611686018427387904) : ∀ (d i : Nat), i + d = l.length →
    Ev (fun k => wrackref1_Needs.l0 k a l (l.length : Int) (i : Int)) (match findF (l.drop i) a with | some x => (if x.f1 = 1 then (0, 1) else if x.f1 = 2 then (x.f2, 1) else (1, x.f2)) | none => (1, 1))
  | 0, i, hi => by
    refine Ev.step (f := fun _ => some _) (fun k => ?_) (Ev.now _)
    simp only [wrackref1_Needs.l0]
    rw [if_neg (by omega), List.drop_of_length_le (by omega)]; rfl
  | d + 1, i, hi => by
    have hkx := hk _ (rd_mem l i (by omega))
    rw [drop_fault l i (by omega)]
    generalize hx : rd_T121 l (i : Int) = x at hkx ⊢
    have hu := up i l.length (by omega) hn
    by_cases h1 : x.f0 = a
    · have hf : findF (x :: l.drop (i + 1)) a = some x := by unfold findF; rw [List.find?_cons_of_pos (by simp [h1])]
      rw [hf]
      refine Ev.step (f := fun _ => some _) (fun k => ?_) (Ev.now _)
      simp only [wrackref1_Needs.l0]
      rw [if_pos (by omega), if_pos (by omega), if_pos (by omega), hx, if_pos h1, Option.bind_some, if_pos (by omega), if_pos (by simp; omega), Option.bind_some, if_pos (by simp; omega)]
      have h3 : x.f1 = 1 ∨ x.f1 = 2 ∨ x.f1 = 3 := by omega
      rcases h3 with h3 | h3 | h3
      · rw [h3]; rfl
      · rw [h3]; rfl
      · rw [h3]; rfl
    · have hf : findF (x :: l.drop (i + 1)) a = findF (l.drop (i + 1)) a := by unfold findF; rw [List.find?_cons_of_neg (by simp [h1])]
      rw [hf]
      refine Ev.step (fun k => ?_) (needs_l0 l a hk hn d (i + 1) (by omega))
      simp only [wrackref1_Needs.l0]
      rw [if_pos (by omega), if_pos (by omega), if_pos (by omega), hx, if_neg h1, hu]
theorem needs_ev (data : List Int) (l : List S121) (a : Int) (hk : ∀ x ∈ l, 1 ≤ x.f1 ∧ x.f1 ≤ 3) (hn : l.length ≤ 4611686018427387904) :
    Ev (fun k => wrackref1_Needs.f k data l a) (needs l a) :=
  needs_l0 l a hk hn l.length 0 (by omega)
theorem equalB_l0 (xs : List Int) (hn : xs.length ≤ 4611686018427387904) : ∀ (d i : Nat), i + d = xs.length →
    Ev (fun k => slices_Equal_byte_byte.l0 k xs xs (xs.length : Int) (i : Int)) true
  | 0, i, hi => by
    refine Ev.step (f := fun _ => some _) (fun k => ?_) (Ev.now _)
    simp only [slices_Equal_byte_byte.l0]
    rw [if_neg (by omega)]
  | d + 1, i, hi => by
    refine Ev.step (fun k => ?_) (equalB_l0 xs hn d (i + 1) (by omega))
    simp only [slices_Equal_byte_byte.l0]
    rw [if_pos (by omega), if_pos (by omega), if_pos (by omega), if_pos (by omega), up i xs.length (by omega) hn]
    simp
theorem equalB_ev (xs : List Int) (hn : xs.length ≤ 4611686018427387904) : Ev (fun k => slices_Equal_byte_byte.f k xs xs) true := by
  refine Ev.congr (fun k => ?_) (equalB_l0 xs hn xs.length 0 (by omega))
  unfold slices_Equal_byte_byte.f
  rw [if_pos rfl]; rfl
/-- the answer, for a right drive, of a block that is there -/
theorem ans_val (data : List Int) (l : List S121) (a t : Int) (hR : RightF ((data.length : Int) / 64) l) (hd : (data.length : Int) ≤ 65536) (ha : 0 ≤ a ∧ a < (data.length : Int) / 64) (ht : 1 ≤ t) (hn : l.length ≤ 140737488351232) :
    ansOf data l a t = some (if (needs l a).1 = 0 ∨ t < (needs l a).1 then ([], (needs l a).2, 19) else ((data.take ((a + 1) * 64).toNat).drop (a * 64).toNat, (needs l a).2, 0)) := by
  unfold ansOf
  rw [fault_val data l a hR.order (fun x hx => by have := hR.range x hx; omega) (by omega) hn, Option.bind_some]
  unfold needs
  cases hf : findF l a with
  | none =>
    have ht2 : ¬ t < 1 := by omega
    simp [ansBad, ansTime, ht2]
  | some x =>
    have hx : x ∈ l := List.mem_of_find?_eq_some hf
    have hk := hR.kind x hx
    have hb := hR.num x hx
    unfold badN at hb
    have h3 : x.f1 = 1 ∨ x.f1 = 2 ∨ x.f1 = 3 := by omega
    have ht2 : ¬ t < 1 := by omega
    rcases h3 with h3 | h3 | h3
    · simp [ansBad, ansTime, h3]
    · have h0 : ¬ x.f2 = 0 := by omega
      by_cases hlt : t < x.f2
      · simp [ansBad, ansTime, h3, hlt]
      · simp [ansBad, ansTime, h3, hlt, h0]
    · simp [ansBad, ansTime, h3, ht2]
/-- the answer at all inputs -/
def ansD (data : List Int) (l : List S121) (a t : Int) : List Int × Int × Int :=
  if errD data l = 0 then (if a < 0 ∨ a ≥ (data.length : Int) / 64 then ([], 0, 4) else if t < 1 then ([], 0, 1) else
    if (needs l a).1 = 0 ∨ t < (needs l a).1 then ([], (needs l a).2, 19) else ((data.take ((a + 1) * 64).toNat).drop (a * 64).toNat, (needs l a).2, 0))
  else ([], 0, errD data l)
theorem err_right (data : List Int) (l : List S121) (h : errD data l = 0) : (data.length : Int) ≤ 65536 ∧ (data.length : Int) % 64 = 0 ∧ RightF ((data.length : Int) / 64) l := by
  unfold errD at h
  by_cases h1 : (data.length : Int) > 65536
  · rw [if_pos h1] at h; omega
  · rw [if_neg h1] at h
    by_cases h2 : (data.length : Int) % 64 = 0
    · rw [if_pos h2] at h
      exact ⟨by omega, h2, (right_of l _ _ h).1⟩
    · rw [if_neg h2] at h; omega
theorem answer_ev (data : List Int) (l : List S121) (a t : Int) (hd : data.length ≤ 140737488351232) (hn : l.length ≤ 140737488351232) : Ev (fun k => drive_Answer.f k data l a t) (ansD data l a t) := by
  unfold drive_Answer.f
  refine Ev.bind (check_ev data l (by omega)) ?_
  refine Ev.congr (fun k => if_pos hd) ?_
  by_cases h0 : errD data l = 0
  · refine Ev.congr (fun k => if_pos h0) ?_
    obtain ⟨e1, e2, e3⟩ := err_right data l h0
    by_cases h1 : a < 0
    · have hv : ansD data l a t = ([], 0, 4) := by unfold ansD; rw [if_pos h0, if_pos (Or.inl h1)]
      rw [hv]; exact Ev.congr (fun k => if_pos h1) (Ev.now _)
    · refine Ev.congr (fun k => if_neg h1) ?_
      by_cases h2 : a ≥ (data.length : Int) / 64
      · have hv : ansD data l a t = ([], 0, 4) := by unfold ansD; rw [if_pos h0, if_pos (Or.inr h2)]
        rw [hv]; exact Ev.congr (fun k => if_pos h2) (Ev.now _)
      · refine Ev.congr (fun k => if_neg h2) ?_
        by_cases h3 : t < 1
        · have hv : ansD data l a t = ([], 0, 1) := by unfold ansD; rw [if_pos h0, if_neg (by omega), if_pos h3]
          rw [hv]; exact Ev.congr (fun k => if_pos h3) (Ev.now _)
        · refine Ev.congr (fun k => if_neg h3) ?_
          have hv : ansD data l a t = (if (needs l a).1 = 0 ∨ t < (needs l a).1 then ([], (needs l a).2, 19) else ((data.take ((a + 1) * 64).toNat).drop (a * 64).toNat, (needs l a).2, 0)) := by unfold ansD; rw [if_pos h0, if_neg (by omega), if_neg h3]
          rw [hv, ans_val data l a t e3 e1 (by omega) (by omega) hn]
          exact Ev.now _
  · have hv : ansD data l a t = ([], 0, errD data l) := by unfold ansD; rw [if_neg h0]
    rw [hv]
    exact Ev.congr (fun k => if_neg h0) (Ev.now _)
theorem drives_ev : Ev (fun k => wracklaw1_drives.f k) true := by
  have e1 := answer_ev (List.replicate 64 0) [⟨0, 2, 2⟩] 0 1 (by simp) (by simp)
  have e2 := answer_ev (List.replicate 64 0) [⟨0, 2, 2⟩] 0 2 (by simp) (by simp)
  have herr : errD (List.replicate 64 0) [⟨0, 2, 2⟩] = 0 := by decide
  have hnd : needs [⟨0, 2, 2⟩] 0 = (2, 1) := by decide
  have v1 : ansD (List.replicate 64 0) [⟨0, 2, 2⟩] 0 1 = ([], 1, 19) := by
    unfold ansD; rw [if_pos herr, hnd, if_neg (by simp), if_neg (by omega), if_pos (by omega)]
  have v2 : ansD (List.replicate 64 0) [⟨0, 2, 2⟩] 0 2 = (List.replicate 64 0, 1, 0) := by
    unfold ansD; rw [if_pos herr, hnd, if_neg (by simp), if_neg (by omega), if_neg (by omega)]; rfl
  rw [v1] at e1
  rw [v2] at e2
  have hw : wracklaw1_weak.f = some (List.replicate 64 0, [⟨0, 2, 2⟩]) := by unfold wracklaw1_weak.f; rw [if_pos (by decide)]
  unfold wracklaw1_drives.f
  refine Ev.congr (fun k => by rw [hw, Option.bind_some]) ?_
  refine Ev.bind e1 ?_
  refine Ev.congr (f := fun k => (drive_Answer.f k (List.replicate 64 0) [⟨0, 2, 2⟩] 0 2).bind fun bt137 => (if (19 : Int) = 19 then (if (([] : List Int).length : Int) = 0 then (if bt137.2.2 = 0 then (some ((bt137.1.length : Int) == 64)) else (some false)) else (some false)) else (some false))) (fun k => by rw [Option.bind_some]) ?_
  refine Ev.bind e2 ?_
  exact Ev.congr (f := fun _ => some true) (fun k => by simp) (Ev.now _)
theorem fault_needs (data : List Int) (l : List S121) (a : Int) (hR : RightF ((data.length : Int) / 64) l) (hd : (data.length : Int) ≤ 65536) (ha : 0 ≤ a ∧ a < (data.length : Int) / 64) (hn : l.length ≤ 140737488351232) :
    ∃ f0 f1 f2, drive_fault.f data l a = some (f0, f1, f2) ∧ ansTime f1 f2 = (needs l a).2 ∧ ∀ u, 1 ≤ u → ansBad f1 f2 u = decide ((needs l a).1 = 0 ∨ u < (needs l a).1) := by
  have hv := fault_val data l a hR.order (fun x hx => by have := hR.range x hx; omega) (by omega) hn
  cases hf : findF l a with
  | none =>
    rw [hf] at hv
    refine ⟨0, 0, 0, hv, by simp [ansTime, needs, hf], fun u hu => ?_⟩
    have hu2 : ¬ u < 1 := by omega
    simp [ansBad, needs, hf, hu2]
  | some x =>
    rw [hf] at hv
    have hx : x ∈ l := List.mem_of_find?_eq_some hf
    have hk := hR.kind x hx
    have hb := hR.num x hx
    unfold badN at hb
    refine ⟨x.f0, x.f1, x.f2, hv, ?_, fun u hu => ?_⟩
    · have h3 : x.f1 = 1 ∨ x.f1 = 2 ∨ x.f1 = 3 := by omega
      rcases h3 with h3 | h3 | h3 <;> simp [ansTime, needs, hf, h3]
    · have hu2 : ¬ u < 1 := by omega
      have h3 : x.f1 = 1 ∨ x.f1 = 2 ∨ x.f1 = 3 := by omega
      rcases h3 with h3 | h3 | h3
      · simp [ansBad, needs, hf, h3]
      · have h0 : ¬ x.f2 = 0 := by omega
        simp [ansBad, needs, hf, h3, h0]
      · simp [ansBad, needs, hf, h3, hu2]
theorem calls_of {α : Type} {g : Nat → Option α} {r : α} (h : Ev g r) : ∃ k, g k = some r := h.rounds
set_option maxHeartbeats 4000000 in
set_option maxRecDepth 100000 in
/-- a drive that is wrong -/
theorem main_err (A0 : Option Addr) (c0 : Nat) (data : List Int) (A1 : Option Addr) (c1 : Nat) (faults : List S121) (A2 : Option Addr) (c2 : Nat) (blocks : List Int) (ask : Int) (w : World)
    (hr0 : Kd.C (Kd.int .u8) w A0 data.length data) (hc0 : data.length ≤ c0) (hr1 : Kd.C k121 w A1 faults.length faults) (hc1 : faults.length ≤ c1) (hn : faults.length ≤ 4611686018427387904) (he : errD data faults ≠ 0) :
    Calls Try.prog 8 #[.agg #[.slice A0 data.length c0, .slice A1 faults.length c1], .slice A2 blocks.length c2, .int .i64 ask] w fun e w' => e = .returned (.bool true) ∧ Below w.heap.size w w' := by
  obtain ⟨k1, h1⟩ := (check_ev data faults hn).rounds
  obtain ⟨k2, h2⟩ := (derr_ev data faults hn).rounds
  obtain ⟨k3, h3⟩ := drives_ev.rounds
  obtain ⟨q, hq⟩ : ∃ q, errD data faults = q := ⟨_, rfl⟩
  rw [hq] at h1 h2 he
  have hu46 := Try.underlying46
  have hne : (q != 0) = true := bne_iff_ne.mpr he
  have HR0 := Aside0.mk hr0
  have HR1 := Aside0.mk hr1
  have HC0 := Aside0.mk hc0
  have HC1 := Aside0.mk hc1
  have H1 := Aside0.mk h1
  have H2 := Aside0.mk h2
  have H3 := Aside0.mk h3
  have HE := Aside0.mk he
  clear hr0 hr1 hc0 hc1 h1 h2 h3 he hq hn
  have HB := Aside0.mk (Below.refl w.heap.size w)
  go_enter Try.func8, Try.ntmps8
  go_wp2_with (first
    | ((with_reducible refine gate_dst (N := 3) rfl ?_); refine box_event ?hg (N := 3) ?hd (cs := #[.slice A0 data.length c0, .slice A1 faults.length c1]) (t := 46) ?hr ?_; (case hd => rfl); (case hg => rfl); (case hr => first | (go_simp; done) | (go_simp; rfl)); intro gb hg w1 hbox hb; have HB1 := Aside0.mk (below_step HB.out hb); have BK := Aside0.mk hbox; clear hg hb hbox HB; have HB := HB1; clear HB1; have hcz0 : w1.cell? ⟨gb, 0, none⟩ = some (.slice A0 data.length c0) := (blk_cell BK.out 0).trans rfl; have hcz1 : w1.cell? ⟨gb, 1, none⟩ = some (.slice A1 faults.length c1) := (blk_cell BK.out 1).trans rfl)
    | (go_at_call 43; refine (new_err k1 A0 c0 data A1 c1 faults q _ (Kd.C_below HR0.out HB.out) HC0.out (Kd.C_below HR1.out HB.out) HC1.out H1.out HE.out).mono ?_; rintro e w2 ⟨rfl, hb⟩; have HB1 := Aside0.mk (below_step HB.out hb); have BK1 := Aside0.mk (blk_below BK.out hb); clear hb HB BK hcz0 hcz1; have HB := HB1; have BK := BK1; clear HB1 BK1; have hcz0 : w2.cell? ⟨gb, 0, none⟩ = some (.slice A0 data.length c0) := (blk_cell BK.out 0).trans rfl; have hcz1 : w2.cell? ⟨gb, 1, none⟩ = some (.slice A1 faults.length c1) := (blk_cell BK.out 1).trans rfl)
    | (go_at_call 30; refine (wrackref1_DriveErr.calls k2 A0 c0 data A1 c1 faults q _ (Kd.C_below HR0.out HB.out) HC0.out (Kd.C_below HR1.out HB.out) HC1.out H2.out).mono ?_; rintro e w3 ⟨rfl, hb⟩; have HB1 := Aside0.mk (below_step HB.out hb); clear hb HB BK hcz0 hcz1; have HB := HB1; clear HB1)
    | (go_at_call 31; refine (wracklaw1_drives.calls k3 true _ H3.out).mono ?_; rintro e w4 ⟨rfl, hb⟩; have HB1 := Aside0.mk (below_step HB.out hb); clear hb HB; have HB := HB1; clear HB1))
  go_ret
  exact ⟨by simp, HB.out⟩
theorem _root_.Go.Proofs.Ytdgkbpoljcndgaa.QDriveReads.MapIs.more {w : World} {M N : Nat} {T : Int → Int} (h : MapIs w M T N) : MapIs w M T (N + 1) := by
  obtain ⟨D, h1, h2⟩ := h
  exact ⟨D, h1.mono (Nat.le_succ _), h2⟩
theorem _root_.Go.Proofs.Ytdgkbpoljcndgaa.QDriveReads.IsDisk.more {w : World} {L g M : Nat} {A0 : Option Addr} {c0 : Nat} {data : List Int} {A1 : Option Addr} {c1 : Nat} {faults : List S121} {T : Int → Int} {t : Int} {N : Nat} (h : IsDisk w L g M A0 c0 data A1 c1 faults T t N) : IsDisk w L g M A0 c0 data A1 c1 faults T t (N + 1) :=
  ⟨h.cells, h.ne, h.gl, h.ml, h.ll, h.map.more, h.cap0, h.cap1, h.rows⟩
/-- what a round keeps -/
def Round (w wr : World) (gb L g M : Nat) (A0 : Option Addr) (c0 : Nat) (data : List Int) (A1 : Option Addr) (c1 : Nat) (faults : List S121) (AN : Option Addr) (cN : Nat) (AF : Option Addr) (cF M2 : Nat) (T : Int → Int) (t : Int) (i : Nat) : Prop :=
  wr.heap[gb]? = some (.cells #[.slice A0 data.length c0, .slice A1 faults.length c1] 46 (0, 0)) ∧ IsDisk wr L g M AN cN data AF cF faults T t i ∧ MapIs wr M2 T i ∧ Below w.heap.size w wr ∧ ∀ j, 0 ≤ T j ∧ T j ≤ (i : Int)
set_option maxHeartbeats 16000000 in
set_option maxRecDepth 100000 in
/-- a drive that is right -/
theorem main_ok (A0 : Option Addr) (c0 : Nat) (data : List Int) (A1 : Option Addr) (c1 : Nat) (faults : List S121) (A2 : Option Addr) (c2 : Nat) (blocks : List Int) (ask : Int) (w : World)
    (hr0 : Kd.C (Kd.int .u8) w A0 data.length data) (hc0 : data.length ≤ c0) (hr1 : Kd.C k121 w A1 faults.length faults) (hc1 : faults.length ≤ c1) (hr2 : Kd.C (Kd.int .i64) w A2 blocks.length blocks) (hc2 : blocks.length ≤ c2) (hn : faults.length ≤ 5864062014805) (hask : (Lit.int .i64 ask).wf = true) (he : errD data faults = 0) :
    Calls Try.prog 8 #[.agg #[.slice A0 data.length c0, .slice A1 faults.length c1], .slice A2 blocks.length c2, .int .i64 ask] w fun e w' => e = .returned (.bool true) ∧ Below w.heap.size w w' := by
  obtain ⟨k1, h1⟩ := (check_ev data faults (by omega)).rounds
  obtain ⟨k2, h2⟩ := (derr_ev data faults (by omega)).rounds
  obtain ⟨k3, h3⟩ := drives_ev.rounds
  obtain ⟨e1, e2, e3⟩ := err_right data faults he
  rw [he] at h1 h2
  have hu46 := Try.underlying46
  have hmm := @run_makeMap Try.prog
  have HR0 := Aside0.mk hr0
  have HR1 := Aside0.mk hr1
  have HR2 := Aside0.mk hr2
  have HC0 := Aside0.mk hc0
  have HC1 := Aside0.mk hc1
  have HC2 := Aside0.mk hc2
  have H1 := Aside0.mk h1
  have H2 := Aside0.mk h2
  have H3 := Aside0.mk h3
  have HRT := Aside0.mk e3
  have HLEN := Aside0.mk e1
  have HN := Aside0.mk hn
  have HASK := Aside0.mk hask
  obtain ⟨n, hnn⟩ : ∃ n : Int, (data.length : Int) / 64 = n := ⟨_, rfl⟩
  have hn0 : 0 ≤ n := by omega
  have hn1 : n ≤ 1024 := by omega
  have hq : Int.tdiv (data.length : Int) 64 = n := by rw [Int.tdiv_eq_ediv_of_nonneg (by omega)]; exact hnn
  have hq2 : IntKind.i64.wrap n = n := by rw [i64_w]; unfold wrap64; omega
  have HNN := Aside0.mk hnn
  clear h1 h2 h3 he hn e1 e2 e3 hask hnn hr0 hr1 hr2 hc0 hc1
  have HB := Aside0.mk (Below.refl w.heap.size w)
  obtain ⟨i3, hi3, hz0, hz1, hz2⟩ := info_parts (show (Try.prog.info? 3).map (fun i => (i.zero, i.size, i.bytes)) = some (some (.int .i64 0), 1, 8) by kernel_rfl)
  obtain ⟨i5, hi5, hy0, hy1, hy2⟩ := info_parts info5
  by_cases hle : (blocks.length : Int) ≤ 60
  · have hle1 := eq_true hle
    have hcutB : ∀ W : World, (Instr.slice 37 (.slice A2 blocks.length c2) none (some (.int .i64 (blocks.length : Int))) none).run Try.prog W = .ok (.slice A2 blocks.length c2) W := fun W => by
      have := cut_to (P := Try.prog) 37 3 .i64 Try.underlying37 hi3 A2 blocks.length c2 (blocks.length : Int) (by omega) (by omega) hc2 W
      simpa using this
    have hLN : blocks.length ≤ 60 := by omega
    have hLB : blocks.length ≤ blocks.length := by omega
    go_enter Try.func8, Try.ntmps8
    go_wp2_with (first
      | ((with_reducible refine gate_dst (N := 3) rfl ?_); refine box_event ?hg (N := 3) ?hd (cs := #[.slice A0 data.length c0, .slice A1 faults.length c1]) (t := 46) ?hr ?_; (case hd => rfl); (case hg => rfl); (case hr => first | (go_simp; done) | (go_simp; rfl)); intro gb hg w1 hbox hb; have HB1 := Aside0.mk (below_step HB.out hb); have BK := Aside0.mk hbox; clear hg hb hbox HB; have HB := HB1; clear HB1; have hcz0 : w1.cell? ⟨gb, 0, none⟩ = some (.slice A0 data.length c0) := (blk_cell BK.out 0).trans rfl; have hcz1 : w1.cell? ⟨gb, 1, none⟩ = some (.slice A1 faults.length c1) := (blk_cell BK.out 1).trans rfl)
      | (go_at_call 43; refine (new_ok k1 A0 c0 data A1 c1 faults _ (Kd.C_below HR0.out HB.out) HC0.out (Kd.C_below HR1.out HB.out) HC1.out H1.out (by have := HLEN.out; omega) HN.out).mono ?_; rintro e w2 ⟨g, M, AN, cN, AF, cF, rfl, hgw, hMw, hdisk, hb⟩; have hgbw := blk_lt BK.out; have HB1 := Aside0.mk (below_step HB.out hb); have BK1 := Aside0.mk (blk_below BK.out hb); obtain ⟨L, hL, hdisk⟩ : ∃ L, w2.heap.size = L ∧ IsDisk w2 L g M AN cN data AF cF faults (fun _ => 0) 0 0 := ⟨_, rfl, hdisk⟩; have DISK := Aside0.mk hdisk; have hgbg : gb ≠ g := (by omega); have hgbM : gb ≠ M := (by omega); have hwg : w.heap.size ≤ g := (by have := HB.out.size; omega); have hwM : w.heap.size ≤ M := (by have := HB.out.size; omega); have hgbL : gb < L := (by have := hb.size; omega); have hwL : w.heap.size ≤ L := (by have := HB1.out.size; omega); clear hb hdisk HB BK hcz0 hcz1; have HB := HB1; have BK := BK1; clear HB1 BK1; have hcz0 : w2.cell? ⟨gb, 0, none⟩ = some (.slice A0 data.length c0) := (blk_cell BK.out 0).trans rfl; have hcz1 : w2.cell? ⟨gb, 1, none⟩ = some (.slice A1 faults.length c1) := (blk_cell BK.out 1).trans rfl)
      | (go_at_call 30; refine (wrackref1_DriveErr.calls k2 A0 c0 data A1 c1 faults 0 _ (Kd.C_below HR0.out HB.out) HC0.out (Kd.C_below HR1.out HB.out) HC1.out H2.out).mono ?_; rintro e w3 ⟨rfl, hb⟩; have HB1 := Aside0.mk (below_step HB.out hb); have BK1 := Aside0.mk (blk_below BK.out hb); have DISK1 := Aside0.mk (DISK.out.below hb); have hL3 := Nat.le_trans (Nat.le_of_eq hL.symm) hb.size; clear hb HB BK DISK hcz0 hcz1; have HB := HB1; have BK := BK1; have DISK := DISK1; clear HB1 BK1 DISK1)
      | (go_at_call 31; refine (wracklaw1_drives.calls k3 true _ H3.out).mono ?_; rintro e w4 ⟨rfl, hb⟩; have HB1 := Aside0.mk (below_step HB.out hb); have BK1 := Aside0.mk (blk_below BK.out hb); have DISK1 := Aside0.mk (DISK.out.below hb); have hL4 := Nat.le_trans hL3 hb.size; clear hb HB BK DISK; have HB := HB1; have BK := BK1; have DISK := DISK1; clear HB1 BK1 DISK1; have hcz0 : w4.cell? ⟨gb, 0, none⟩ = some (.slice A0 data.length c0) := (blk_cell BK.out 0).trans rfl)
      | (go_at_call 44; refine (blocks_calls DISK.out (by have := HLEN.out; omega)).mono ?_; rintro e w5 ⟨rfl, hw⟩; replace hw := hw.symm; subst hw; rw [HNN.out]))
    have hmap := MapIs.made w4
    have hbM := below_alloc (Below.refl w4.heap.size w4) (.map #[] 0)
    have hgl := DISK.out.gl
    have hml := DISK.out.ml
    have hwM4 : w.heap.size ≤ w4.heap.size := by omega
    have hdl : data.length ≤ 140737488351232 := by have := HLEN.out; omega
    have hM2g : w4.heap.size ≠ g := by omega
    have hM2M : w4.heap.size ≠ M := by omega
    have hM2b : gb ≠ w4.heap.size := by omega
    have hLM2 : L ≤ w4.heap.size := by omega
    have hstart : Round w (w4.alloc (.map #[] 0)) gb L g M A0 c0 data A1 c1 faults AN cN AF cF w4.heap.size (fun _ => 0) 0 0 := ⟨(hbM.block gb (by omega)).trans BK.out, DISK.out.move (Nat.le_trans (by omega) hbM.size) (fun j hj => hbM.block j (by omega)), hmap, below_then HB.out hwM4 hbM, fun j => by show (0:Int) ≤ 0 ∧ (0:Int) ≤ ((0:Nat):Int); omega⟩
    clear BK DISK HB hmap hbM hcz0 hgl hml hL3 hL4
    generalize w4.alloc (.map #[] 0) = w6 at hstart ⊢
    generalize w4.heap.size = M2 at hstart hM2g hM2M hM2b hLM2 hwM4 ⊢
    have hwM2 := hwM4
    clear hwM4
    replace hstart := Aside0.mk hstart
    go_loopw [12, 69] (fun vt vi wr => ∃ (i : Nat) (T : Int → Int) (t : Int), i ≤ blocks.length ∧ vi = .int .i64 (i : Int) ∧ vt = .int .i64 t ∧ Aside0 (Round w wr gb L g M A0 c0 data A1 c1 faults AN cN AF cF M2 T t i)) (fun _ vi _ => blocks.length - (intOf vi).toNat)
    case atStart => exact ⟨0, fun _ => 0, 0, Nat.zero_le _, rfl, rfl, hstart⟩
    case round =>
      clear hstart
      obtain ⟨i, T, t, hi, rfl, rfl, hRnd⟩ := hrel
      obtain ⟨q1, q2, q3, q4, q5⟩ := hRnd.out
      clear hRnd
      have rBK := Aside0.mk q1
      have rD := Aside0.mk q2
      have rM := Aside0.mk q3
      have rB := Aside0.mk q4
      have rT := Aside0.mk q5
      clear q1 q2 q3 q4 q5
      by_cases hlt : i < blocks.length
      · obtain ⟨ad, hA, hx⟩ := Kd.at_int (Kd.C_below HR2.out rB.out) (i : Int) (by omega) (by omega)
        subst hA
        obtain ⟨x, hxe⟩ : ∃ x, rd blocks (i : Int) = x := ⟨_, rfl⟩
        rw [hxe] at hx
        clear hxe
        simp only [Int.toNat_natCast] at hx
        have hlti : (i : Int) < (blocks.length : Int) := by omega
        have hnx : IntKind.i64.wrap ((i : Int) + 1) = (i : Int) + 1 := by rw [i64_w]; unfold wrap64; omega
        have hrel0 : Round w wr gb L g M A0 c0 data A1 c1 faults AN cN AF cF M2 T t (i + 1) := ⟨rBK.out, rD.out.more, rM.out.more, rB.out, fun j => ⟨(rT.out j).1, by have := (rT.out j).2; omega⟩⟩
        replace hrel0 := Aside0.mk hrel0
        by_cases hneg : x < 0
        · have HX := Aside0.mk (show x < 0 ∨ x ≥ (data.length : Int) / 64 from Or.inl hneg)
          have hd1 := decide_eq_true hneg
          clear hneg
          go_wp2_with (first | (go_at_call 45; refine (read_out rD.out hdl x HX.out).mono ?_; rintro e w' ⟨rfl, hw⟩; replace hw := hw.symm; subst hw))
          go_roundw
          case rel => exact ⟨i + 1, T, t, by omega, by go_num, rfl, hrel0⟩
          case measure => simp [intOf]; omega
        · have hd1 := decide_eq_false hneg
          by_cases hge : n ≤ x
          · have HX := Aside0.mk (show x < 0 ∨ x ≥ (data.length : Int) / 64 from Or.inr (by rw [HNN.out]; exact hge))
            have hd2 := decide_eq_true hge
            clear hneg hge
            go_wp2_with (first | (go_at_call 45; refine (read_out rD.out hdl x HX.out).mono ?_; rintro e w' ⟨rfl, hw⟩; replace hw := hw.symm; subst hw))
            go_roundw
            case rel => exact ⟨i + 1, T, t, by omega, by go_num, rfl, hrel0⟩
            case measure => simp [intOf]; omega
          · have hd2 := decide_eq_false hge
            have hwx : (Lit.int .i64 x).wf = true := wf_i64 (by omega) (by omega)
            have hTx := rT.out x
            have hnn := HNN.out
            obtain ⟨f0, f1, f2, hf, htm, hbd⟩ := fault_needs data faults x HRT.out HLEN.out ⟨by omega, by omega⟩ (by have := HN.out; omega)
            obtain ⟨⟨need, cost⟩, hnc⟩ : ∃ p, needs faults x = p := ⟨_, rfl⟩
            obtain ⟨kn, hkn⟩ := (needs_ev data faults x HRT.out.kind (by have := HN.out; omega)).rounds
            rw [hnc] at htm hbd hkn
            simp only at htm hbd
            obtain ⟨u, hu⟩ : ∃ u, T x + 1 = u := ⟨_, rfl⟩
            have hread := read_in rD.out hdl x f0 f1 f2 hf (by omega) (by omega) (by omega) (by omega) (by omega)
            rw [hu, htm, hbd u (by omega)] at hread
            have hwu : (Lit.int .i64 u).wf = true := wf_i64 (by omega) (by omega)
            have hadd : IntKind.i64.wrap (T x + 1) = u := by rw [i64_w, hu]; unfold wrap64; omega
            obtain ⟨tn, htn⟩ : ∃ tn, IntKind.i64.wrap (t + cost) = tn := ⟨_, rfl⟩
            have htn2 : wrap64 (t + cost) = tn := by rw [← i64_w]; exact htn
            rw [htn2] at hread
            have hT2 : ∀ j, 0 ≤ (if j = x then u else T j) ∧ (if j = x then u else T j) ≤ ((i + 1 : Nat) : Int) := by
              intro j
              have := rT.out j
              split <;> omega
            replace hT2 := Aside0.mk hT2
            replace hkn := Aside0.mk hkn
            replace hu := Aside0.mk hu
            have HXR := Aside0.mk (show 0 ≤ x ∧ x < n by omega)
            clear htm hbd hnc hf htn2 hneg hge hrel0 hTx
            by_cases hb0 : need = 0
            · have hz1 : (need == 0) = true := beq_iff_eq.mpr hb0
              rw [decide_eq_true (Or.inl hb0), if_pos rfl, if_pos rfl] at hread
              clear hb0
              go_wp2_with (first
                | (go_at_call 45; refine hread.mono ?_; rintro e w1 ⟨v0_, rfl, hRv, hD1, hB1, hO1⟩; obtain ⟨Av, cv, eV⟩ := Kd.R_slice hRv; simp only [List.length_nil] at eV; subst eV; have hM1 := rM.out.same (hO1 M2 rM.out.lt hM2g hM2M); have look1 := hM1.look x hwx; have hbk1 := (hO1 gb (blk_lt rBK.out) hgbg hgbM).trans rBK.out; obtain ⟨w2, hup, hM2, hg2⟩ := hM1.upd (by unfold maxLen; omega) x u hwx hwu; have hD2 := Aside0.mk (hD1.move hg2.size fun j hj => hg2.block j (Nat.lt_of_lt_of_le hj hD1.ll) (by simp; omega)); have hbk2 := Aside0.mk ((hg2.block gb (blk_lt hbk1) (by simp; omega)).trans hbk1); have hB2 := Aside0.mk (((rB.out.trans (hB1 _ hwg hwM rB.out.size)).grown hg2 (Nat.le_trans rB.out.size (hB1 _ hwg hwM rB.out.size).size) (fun k e => by cases e; omega))); have hRV := Aside0.mk hRv; have hG2 := Aside0.mk hg2; have hMM2 := Aside0.mk hM2; have hSZ1 := Aside0.mk (hB1 _ hwg hwM rB.out.size).size; clear hRv hD1 hB1 hO1 hM1 hbk1 hg2 hM2; have hcz0 : w2.cell? ⟨gb, 0, none⟩ = some (.slice A0 data.length c0) := (blk_cell hbk2.out 0).trans rfl; have hcz1 : w2.cell? ⟨gb, 1, none⟩ = some (.slice A1 faults.length c1) := (blk_cell hbk2.out 1).trans rfl)
                | (go_at_call 33; refine (wrackref1_Needs.calls kn A0 c0 data A1 c1 faults x need cost _ (Kd.C_below HR0.out hB2.out) HC0.out (Kd.C_below HR1.out hB2.out) HC1.out hkn.out).mono ?_; rintro e w3 ⟨rfl, hb3⟩; have look3 := (hMM2.out.same (hb3.block M2 hMM2.out.lt)).look x hwx; simp only [if_true] at look3; have hbk3 := blk_below hbk2.out hb3; clear hcz0 hcz1; have hcz0 : w3.cell? ⟨gb, 0, none⟩ = some (.slice A0 data.length c0) := (blk_cell hbk3 0).trans rfl; have hcz1 : w3.cell? ⟨gb, 1, none⟩ = some (.slice A1 faults.length c1) := (blk_cell hbk3 1).trans rfl; have hB3 := Aside0.mk (below_step hB2.out hb3); have hBK3 := Aside0.mk hbk3; have hb3' := Aside0.mk hb3; clear hb3 hbk3))
              go_roundw
              case rel => exact ⟨i + 1, (fun j => if j = x then u else T j), tn, by omega, by go_num, rfl, ⟨hBK3.out, hD2.out.below hb3'.out, hMM2.out.same (hb3'.out.block M2 hMM2.out.lt), hB3.out, hT2.out⟩⟩
              case measure => simp [intOf]; omega
            · have hz1 : (need == 0) = false := beq_eq_false_iff_ne.mpr hb0
              by_cases hb1 : u < need
              · have hz2 := decide_eq_true hb1
                rw [decide_eq_true (Or.inr hb1), if_pos rfl, if_pos rfl] at hread
                clear hb0 hb1
                go_wp2_with (first
                  | (go_at_call 45; refine hread.mono ?_; rintro e w1 ⟨v0_, rfl, hRv, hD1, hB1, hO1⟩; obtain ⟨Av, cv, eV⟩ := Kd.R_slice hRv; simp only [List.length_nil] at eV; subst eV; have hM1 := rM.out.same (hO1 M2 rM.out.lt hM2g hM2M); have look1 := hM1.look x hwx; have hbk1 := (hO1 gb (blk_lt rBK.out) hgbg hgbM).trans rBK.out; obtain ⟨w2, hup, hM2, hg2⟩ := hM1.upd (by unfold maxLen; omega) x u hwx hwu; have hD2 := Aside0.mk (hD1.move hg2.size fun j hj => hg2.block j (Nat.lt_of_lt_of_le hj hD1.ll) (by simp; omega)); have hbk2 := Aside0.mk ((hg2.block gb (blk_lt hbk1) (by simp; omega)).trans hbk1); have hB2 := Aside0.mk (((rB.out.trans (hB1 _ hwg hwM rB.out.size)).grown hg2 (Nat.le_trans rB.out.size (hB1 _ hwg hwM rB.out.size).size) (fun k e => by cases e; omega))); have hRV := Aside0.mk hRv; have hG2 := Aside0.mk hg2; have hMM2 := Aside0.mk hM2; have hSZ1 := Aside0.mk (hB1 _ hwg hwM rB.out.size).size; clear hRv hD1 hB1 hO1 hM1 hbk1 hg2 hM2; have hcz0 : w2.cell? ⟨gb, 0, none⟩ = some (.slice A0 data.length c0) := (blk_cell hbk2.out 0).trans rfl; have hcz1 : w2.cell? ⟨gb, 1, none⟩ = some (.slice A1 faults.length c1) := (blk_cell hbk2.out 1).trans rfl)
                  | (go_at_call 33; refine (wrackref1_Needs.calls kn A0 c0 data A1 c1 faults x need cost _ (Kd.C_below HR0.out hB2.out) HC0.out (Kd.C_below HR1.out hB2.out) HC1.out hkn.out).mono ?_; rintro e w3 ⟨rfl, hb3⟩; have look3 := (hMM2.out.same (hb3.block M2 hMM2.out.lt)).look x hwx; simp only [if_true] at look3; have hbk3 := blk_below hbk2.out hb3; clear hcz0 hcz1; have hcz0 : w3.cell? ⟨gb, 0, none⟩ = some (.slice A0 data.length c0) := (blk_cell hbk3 0).trans rfl; have hcz1 : w3.cell? ⟨gb, 1, none⟩ = some (.slice A1 faults.length c1) := (blk_cell hbk3 1).trans rfl; have hB3 := Aside0.mk (below_step hB2.out hb3); have hBK3 := Aside0.mk hbk3; have hb3' := Aside0.mk hb3; clear hb3 hbk3))
                go_roundw
                case rel => exact ⟨i + 1, (fun j => if j = x then u else T j), tn, by omega, by go_num, rfl, ⟨hBK3.out, hD2.out.below hb3'.out, hMM2.out.same (hb3'.out.block M2 hMM2.out.lt), hB3.out, hT2.out⟩⟩
                case measure => simp [intOf]; omega
              · have hz2 := decide_eq_false hb1
                rw [decide_eq_false (by omega), if_neg (by decide), if_neg (by decide)] at hread
                obtain ⟨hx0, hxn⟩ := HXR.out
                have hcx1 : IntKind.i64.wrap (64 * x) = x * 64 := by rw [i64_w]; unfold wrap64; omega
                have hcx2 : IntKind.i64.wrap (x * 64 + 64) = (x + 1) * 64 := by rw [i64_w]; unfold wrap64; omega
                have hcutD := cut_mid (P := Try.prog) 22 5 .i64 .i64 Try.underlying22 hi5 1 hy1 A0 data.length c0 (x * 64) ((x + 1) * 64) (by omega) (by omega) (by omega) HC0.out
                rw [show ((x + 1) * 64).toNat - (x * 64).toNat = 64 by omega] at hcutD
                obtain ⟨r, hr⟩ : ∃ r, (data.take ((x + 1) * 64).toNat).drop (x * 64).toNat = r := ⟨_, rfl⟩
                have hl64 : r.length = 64 := by rw [← hr, List.length_drop, List.length_take]; omega
                rw [hr] at hread
                obtain ⟨kq, hkq⟩ := (equalB_ev r (by omega)).rounds
                have hEq : ∀ (W : World) (Av : Option Addr) (cv : Nat), Kd.C (Kd.int .u8) W Av r.length r → r.length ≤ cv → Kd.C (Kd.int .u8) W A0 data.length data →
                    Calls Try.prog 34 #[.slice Av 64 cv, .slice (if c0 = (x * 64).toNat then A0 else A0.map (·.add ((x * 64).toNat * 1))) 64 (c0 - (x * 64).toNat)] W fun e w' => e = .returned (.bool true) ∧ ∃ n, w' = W.drewN n := by
                  intro W Av cv hCv hcv hCd
                  have hm := Kd.C_mid (lo := (x * 64).toNat) (hi := ((x + 1) * 64).toNat) hCd (by omega) (by omega) HC0.out
                  rw [hr] at hm
                  have := slices_Equal_byte_byte.calls kq Av cv r _ (c0 - (x * 64).toNat) r true W hCv hcv hm (by have := HC0.out; omega) hkq
                  rw [hl64] at this
                  refine this.mono ?_
                  rintro e w' ⟨rfl, hD⟩
                  exact ⟨rfl, hD.out⟩
                generalize (if c0 = (x * 64).toNat then A0 else A0.map (·.add ((x * 64).toNat * 1))) = AC at hcutD hEq
                replace hr := Aside0.mk hr
                clear hb0 hb1 hx0 hxn
                go_wp2_with (first
                  | (go_at_call 45; refine hread.mono ?_; rintro e w1 ⟨v0_, rfl, hRv, hD1, hB1, hO1⟩; obtain ⟨Av, cv, eV⟩ := Kd.R_slice hRv; rw [hl64] at eV; subst eV; have hM1 := rM.out.same (hO1 M2 rM.out.lt hM2g hM2M); have look1 := hM1.look x hwx; have hbk1 := (hO1 gb (blk_lt rBK.out) hgbg hgbM).trans rBK.out; obtain ⟨w2, hup, hM2, hg2⟩ := hM1.upd (by unfold maxLen; omega) x u hwx hwu; have hD2 := Aside0.mk (hD1.move hg2.size fun j hj => hg2.block j (Nat.lt_of_lt_of_le hj hD1.ll) (by simp; omega)); have hbk2 := Aside0.mk ((hg2.block gb (blk_lt hbk1) (by simp; omega)).trans hbk1); have hB2 := Aside0.mk (((rB.out.trans (hB1 _ hwg hwM rB.out.size)).grown hg2 (Nat.le_trans rB.out.size (hB1 _ hwg hwM rB.out.size).size) (fun k e => by cases e; omega))); have hRV := Aside0.mk hRv; have hG2 := Aside0.mk hg2; have hMM2 := Aside0.mk hM2; have hSZ1 := Aside0.mk (hB1 _ hwg hwM rB.out.size).size; clear hRv hD1 hB1 hO1 hM1 hbk1 hg2 hM2; have hcz0 : w2.cell? ⟨gb, 0, none⟩ = some (.slice A0 data.length c0) := (blk_cell hbk2.out 0).trans rfl; have hcz1 : w2.cell? ⟨gb, 1, none⟩ = some (.slice A1 faults.length c1) := (blk_cell hbk2.out 1).trans rfl)
                  | (go_at_call 33; refine (wrackref1_Needs.calls kn A0 c0 data A1 c1 faults x need cost _ (Kd.C_below HR0.out hB2.out) HC0.out (Kd.C_below HR1.out hB2.out) HC1.out hkn.out).mono ?_; rintro e w3 ⟨rfl, hb3⟩; have look3 := (hMM2.out.same (hb3.block M2 hMM2.out.lt)).look x hwx; simp only [if_true] at look3; have hbk3 := blk_below hbk2.out hb3; clear hcz0 hcz1; have hcz0 : w3.cell? ⟨gb, 0, none⟩ = some (.slice A0 data.length c0) := (blk_cell hbk3 0).trans rfl; have hcz1 : w3.cell? ⟨gb, 1, none⟩ = some (.slice A1 faults.length c1) := (blk_cell hbk3 1).trans rfl; have hB3 := Aside0.mk (below_step hB2.out hb3); have hBK3 := Aside0.mk hbk3; have hb3' := Aside0.mk hb3; clear hb3 hbk3)
                  | (go_at_call 34; have hC1 := rows_of hRV.out w3 fun j hj hj2 => (hb3'.out.block j (Nat.lt_of_lt_of_le hj2 hG2.out.size)).trans (hG2.out.block j hj2 (by have := rM.out.lt; simp; omega)); have hC2 := (Kd.R_reads' hRV.out).2.1; have hE := hEq w3 Av cv hC1 (Nat.le_trans (Nat.le_of_eq hl64) hC2) (Kd.C_below HR0.out hB3.out); refine hE.mono ?_; rintro e w4 ⟨rfl, ⟨nd, rfl⟩⟩))
                go_roundw
                case rel => exact ⟨i + 1, (fun j => if j = x then u else T j), tn, by omega, by go_num, rfl, ⟨hBK3.out, (hD2.out.below hb3'.out).below (pw_below_drewN (Below.refl _ _) nd), (hMM2.out.same (hb3'.out.block M2 hMM2.out.lt)).same rfl, pw_below_drewN hB3.out nd, hT2.out⟩⟩
                case measure => simp [intOf]; omega
      · obtain rfl : i = blocks.length := by omega
        have rDd := Aside0.mk (rD.out.below (below_drew (Below.refl _ _)))
        obtain ⟨ta, hta⟩ : ∃ ta, T ask = ta := ⟨_, rfl⟩
        have hTries := tries_calls rDd.out ask HASK.out
        rw [hta] at hTries
        have q0 : (Instr.lookup 67 (.map (some M2)) (.int .i64 ask) false).run Try.prog wr.drew = .ok (.int .i64 ta) wr.drew := by
          have hm : MapIs wr.drew M2 T _ := rM.out.same rfl
          have := hm.look ask HASK.out
          rw [hta] at this; exact this
        go_wp2
        refine start_ (n := 14) (S := fun w' => (Instr.lookup 67 (.map (some M2)) (.int .i64 ask) false).run Try.prog w' = .ok (.int .i64 ta) w') (ds := []) #[false, false, false, false, false, false, false, false, false, false, false, false, false, false] (by kernel_rfl) rfl rfl (q0) (fun hHeld => ?_)
        refine pure_ (i := 0) (N := some 138) (v := ?_) (a' := ?_) #[true, false, false, false, false, false, false, false, false, false, false, false, false, false] rfl rfl (by kernel_rfl) (fun _ _ _ h => h) (Or.inl ⟨by rfl, ?_⟩) ?_ ?_
        rotate_left
        · intro w'
          go_simp
          with_reducible rfl
        rotate_left
        · simp only [Act.put, List.setIfInBounds_toArray, List.set_cons_zero, List.set_cons_succ, i64_w, i32_w]
          rfl
        refine pure_ (i := 2) (N := some 140) (v := ?_) (a' := ?_) #[true, false, true, false, false, false, false, false, false, false, false, false, false, false] rfl rfl (by kernel_rfl) (fun _ _ _ h => h) (Or.inl ⟨by rfl, ?_⟩) ?_ ?_
        rotate_left
        · intro w'
          go_simp
          with_reducible rfl
        rotate_left
        · simp only [Act.put, List.setIfInBounds_toArray, List.set_cons_zero, List.set_cons_succ, i64_w, i32_w]
          rfl
        refine one_ (i := 1) (N := some 139) #[true, true, true, false, false, false, false, false, false, false, false, false, false, false] rfl rfl (by kernel_rfl) (by decide) (fun K hK => ?_)
        refine goes_ Try.func46 (by kernel_rfl) rfl #[.pointer (some ⟨g, 0, none⟩)] (by rfl) rfl rfl (by simp only [List.map_toArray, List.map_cons, List.map_nil]; rfl) ?_
        with_reducible refine (time_calls rDd.out).mono ?_
        rintro e w' ⟨rfl, hw⟩
        replace hw := hw.symm
        subst hw
        refine ⟨_, rfl, ?_⟩
        refine hK.out _ _ (q0) (fun hHeld => ?_)
        clear hK K
        refine norm_ (a' := ?_) ?_ ?_
        rotate_left
        · show Act.put _ (some 139) _ = _
          simp only [Act.put, List.setIfInBounds_toArray, List.set_cons_zero, List.set_cons_succ, i64_w, i32_w]
          rfl
        refine pure_ (i := 3) (N := some 141) (v := ?_) (a' := ?_) #[true, true, true, true, false, false, false, false, false, false, false, false, false, false] rfl rfl (by kernel_rfl) (fun _ _ _ h => h) (Or.inl ⟨by rfl, ?_⟩) ?_ ?_
        rotate_left
        · intro w'
          go_simp
          with_reducible rfl
        rotate_left
        · simp only [Act.put, List.setIfInBounds_toArray, List.set_cons_zero, List.set_cons_succ, i64_w, i32_w]
          rfl
        refine pure_ (i := 4) (N := some 142) (v := ?_) (a' := ?_) #[true, true, true, true, true, false, false, false, false, false, false, false, false, false] rfl rfl (by kernel_rfl) (fun _ _ _ h => h) (Or.inl ⟨by rfl, ?_⟩) ?_ ?_
        rotate_left
        · intro w'
          go_simp
          with_reducible rfl
        rotate_left
        · simp only [Act.put, List.setIfInBounds_toArray, List.set_cons_zero, List.set_cons_succ, i64_w, i32_w]
          rfl
        refine pure_ (i := 5) (N := some 143) (v := ?_) (a' := ?_) #[true, true, true, true, true, true, false, false, false, false, false, false, false, false] rfl rfl (by kernel_rfl) (fun _ _ _ h => h) (Or.inl ⟨by rfl, ?_⟩) ?_ ?_
        rotate_left
        · intro w'
          go_simp
          with_reducible rfl
        rotate_left
        · simp only [Act.put, List.setIfInBounds_toArray, List.set_cons_zero, List.set_cons_succ, i64_w, i32_w]
          rfl
        refine pure_ (i := 6) (N := some 144) (v := ?_) (a' := ?_) #[true, true, true, true, true, true, true, false, false, false, false, false, false, false] rfl rfl (by kernel_rfl) (fun _ _ _ h => h) (Or.inl ⟨by rfl, ?_⟩) ?_ ?_
        rotate_left
        · intro w'
          go_simp
          with_reducible rfl
        rotate_left
        · simp only [Act.put, List.setIfInBounds_toArray, List.set_cons_zero, List.set_cons_succ, i64_w, i32_w]
          rfl
        refine pure_ (i := 8) (N := some 146) (v := ?_) (a' := ?_) #[true, true, true, true, true, true, true, false, true, false, false, false, false, false] rfl rfl (by kernel_rfl) (fun _ _ _ h => h) (Or.inl ⟨by rfl, ?_⟩) ?_ ?_
        rotate_left
        · intro w'
          go_simp
          with_reducible rfl
        rotate_left
        · simp only [Act.put, List.setIfInBounds_toArray, List.set_cons_zero, List.set_cons_succ, i64_w, i32_w]
          rfl
        refine pure_ (i := 9) (N := some 147) (v := ?_) (a' := ?_) #[true, true, true, true, true, true, true, false, true, true, false, false, false, false] rfl rfl (by kernel_rfl) (fun _ _ _ h => h) (Or.inl ⟨by rfl, ?_⟩) ?_ ?_
        rotate_left
        · intro w'
          go_simp
          with_reducible rfl
        rotate_left
        · simp only [Act.put, List.setIfInBounds_toArray, List.set_cons_zero, List.set_cons_succ, i64_w, i32_w]
          rfl
        refine take_ (i := 10) (N := some 148) (v := ?_) (a' := ?_) #[true, true, true, true, true, true, true, false, true, true, true, false, false, false] rfl rfl (by kernel_rfl) (fun _ _ _ h => h) (Or.inl ⟨by rfl, ?_⟩) hHeld ?_ ?_
        rotate_left
        · intro w' s0
          go_simp
          with_reducible rfl
        rotate_left
        · simp only [Act.put, List.setIfInBounds_toArray, List.set_cons_zero, List.set_cons_succ, i64_w, i32_w]
          rfl
        refine one_ (i := 7) (N := some 145) #[true, true, true, true, true, true, true, true, true, true, true, false, false, false] rfl rfl (by kernel_rfl) (by decide) (fun K hK => ?_)
        refine goes_ Try.func47 (by kernel_rfl) rfl #[.pointer (some ⟨g, 0, none⟩), .int .i64 ask] (by rfl) rfl rfl (by simp only [List.map_toArray, List.map_cons, List.map_nil]; rfl) ?_
        with_reducible refine (hTries).mono ?_
        rintro e w' ⟨rfl, hw⟩
        replace hw := hw.symm
        subst hw
        refine ⟨_, rfl, ?_⟩
        refine hK.out _ _ (q0) (fun hHeld => ?_)
        clear hK K
        refine norm_ (a' := ?_) ?_ ?_
        rotate_left
        · show Act.put _ (some 145) _ = _
          simp only [Act.put, List.setIfInBounds_toArray, List.set_cons_zero, List.set_cons_succ, i64_w, i32_w]
          rfl
        refine pure_ (i := 11) (N := some 149) (v := ?_) (a' := ?_) #[true, true, true, true, true, true, true, true, true, true, true, true, false, false] rfl rfl (by kernel_rfl) (fun _ _ _ h => h) (Or.inl ⟨by rfl, ?_⟩) ?_ ?_
        rotate_left
        · intro w'
          go_simp
          with_reducible rfl
        rotate_left
        · simp only [Act.put, List.setIfInBounds_toArray, List.set_cons_zero, List.set_cons_succ, i64_w, i32_w]
          rfl
        refine pure_ (i := 12) (N := some 150) (v := ?_) (a' := ?_) #[true, true, true, true, true, true, true, true, true, true, true, true, true, false] rfl rfl (by kernel_rfl) (fun _ _ _ h => h) (Or.inl ⟨by rfl, ?_⟩) ?_ ?_
        rotate_left
        · intro w'
          go_simp
          with_reducible rfl
        rotate_left
        · simp only [Act.put, List.setIfInBounds_toArray, List.set_cons_zero, List.set_cons_succ, i64_w, i32_w]
          rfl
        refine pure_ (i := 13) (N := some 6) (v := ?_) (a' := ?_) #[true, true, true, true, true, true, true, true, true, true, true, true, true, true] rfl rfl (by kernel_rfl) (fun _ _ _ h => h) (Or.inl ⟨by rfl, ?_⟩) ?_ ?_
        rotate_left
        · intro w'
          go_simp
          with_reducible rfl
        rotate_left
        · simp only [Act.put, List.setIfInBounds_toArray, List.set_cons_zero, List.set_cons_succ, i64_w, i32_w]
          rfl
        refine done_ (by kernel_rfl) ?_
        go_wp2
        go_ret
        exact ⟨by simp, below_drew rB.out⟩
  · have hle1 := eq_false hle
    have hcutB : ∀ W : World, (Instr.slice 37 (.slice A2 blocks.length c2) none (some (.int .i64 (60 : Int))) none).run Try.prog W = .ok (.slice A2 60 c2) W := fun W => by
      have := cut_to (P := Try.prog) 37 3 .i64 Try.underlying37 hi3 A2 blocks.length c2 (60 : Int) (by omega) (by omega) hc2 W
      simpa using this
    have hLN : 60 ≤ 60 := by omega
    have hLB : 60 ≤ blocks.length := by omega
    go_enter Try.func8, Try.ntmps8
    go_wp2_with (first
      | ((with_reducible refine gate_dst (N := 3) rfl ?_); refine box_event ?hg (N := 3) ?hd (cs := #[.slice A0 data.length c0, .slice A1 faults.length c1]) (t := 46) ?hr ?_; (case hd => rfl); (case hg => rfl); (case hr => first | (go_simp; done) | (go_simp; rfl)); intro gb hg w1 hbox hb; have HB1 := Aside0.mk (below_step HB.out hb); have BK := Aside0.mk hbox; clear hg hb hbox HB; have HB := HB1; clear HB1; have hcz0 : w1.cell? ⟨gb, 0, none⟩ = some (.slice A0 data.length c0) := (blk_cell BK.out 0).trans rfl; have hcz1 : w1.cell? ⟨gb, 1, none⟩ = some (.slice A1 faults.length c1) := (blk_cell BK.out 1).trans rfl)
      | (go_at_call 43; refine (new_ok k1 A0 c0 data A1 c1 faults _ (Kd.C_below HR0.out HB.out) HC0.out (Kd.C_below HR1.out HB.out) HC1.out H1.out (by have := HLEN.out; omega) HN.out).mono ?_; rintro e w2 ⟨g, M, AN, cN, AF, cF, rfl, hgw, hMw, hdisk, hb⟩; have hgbw := blk_lt BK.out; have HB1 := Aside0.mk (below_step HB.out hb); have BK1 := Aside0.mk (blk_below BK.out hb); obtain ⟨L, hL, hdisk⟩ : ∃ L, w2.heap.size = L ∧ IsDisk w2 L g M AN cN data AF cF faults (fun _ => 0) 0 0 := ⟨_, rfl, hdisk⟩; have DISK := Aside0.mk hdisk; have hgbg : gb ≠ g := (by omega); have hgbM : gb ≠ M := (by omega); have hwg : w.heap.size ≤ g := (by have := HB.out.size; omega); have hwM : w.heap.size ≤ M := (by have := HB.out.size; omega); have hgbL : gb < L := (by have := hb.size; omega); have hwL : w.heap.size ≤ L := (by have := HB1.out.size; omega); clear hb hdisk HB BK hcz0 hcz1; have HB := HB1; have BK := BK1; clear HB1 BK1; have hcz0 : w2.cell? ⟨gb, 0, none⟩ = some (.slice A0 data.length c0) := (blk_cell BK.out 0).trans rfl; have hcz1 : w2.cell? ⟨gb, 1, none⟩ = some (.slice A1 faults.length c1) := (blk_cell BK.out 1).trans rfl)
      | (go_at_call 30; refine (wrackref1_DriveErr.calls k2 A0 c0 data A1 c1 faults 0 _ (Kd.C_below HR0.out HB.out) HC0.out (Kd.C_below HR1.out HB.out) HC1.out H2.out).mono ?_; rintro e w3 ⟨rfl, hb⟩; have HB1 := Aside0.mk (below_step HB.out hb); have BK1 := Aside0.mk (blk_below BK.out hb); have DISK1 := Aside0.mk (DISK.out.below hb); have hL3 := Nat.le_trans (Nat.le_of_eq hL.symm) hb.size; clear hb HB BK DISK hcz0 hcz1; have HB := HB1; have BK := BK1; have DISK := DISK1; clear HB1 BK1 DISK1)
      | (go_at_call 31; refine (wracklaw1_drives.calls k3 true _ H3.out).mono ?_; rintro e w4 ⟨rfl, hb⟩; have HB1 := Aside0.mk (below_step HB.out hb); have BK1 := Aside0.mk (blk_below BK.out hb); have DISK1 := Aside0.mk (DISK.out.below hb); have hL4 := Nat.le_trans hL3 hb.size; clear hb HB BK DISK; have HB := HB1; have BK := BK1; have DISK := DISK1; clear HB1 BK1 DISK1; have hcz0 : w4.cell? ⟨gb, 0, none⟩ = some (.slice A0 data.length c0) := (blk_cell BK.out 0).trans rfl)
      | (go_at_call 44; refine (blocks_calls DISK.out (by have := HLEN.out; omega)).mono ?_; rintro e w5 ⟨rfl, hw⟩; replace hw := hw.symm; subst hw; rw [HNN.out]))
    have hmap := MapIs.made w4
    have hbM := below_alloc (Below.refl w4.heap.size w4) (.map #[] 0)
    have hgl := DISK.out.gl
    have hml := DISK.out.ml
    have hwM4 : w.heap.size ≤ w4.heap.size := by omega
    have hdl : data.length ≤ 140737488351232 := by have := HLEN.out; omega
    have hM2g : w4.heap.size ≠ g := by omega
    have hM2M : w4.heap.size ≠ M := by omega
    have hM2b : gb ≠ w4.heap.size := by omega
    have hLM2 : L ≤ w4.heap.size := by omega
    have hstart : Round w (w4.alloc (.map #[] 0)) gb L g M A0 c0 data A1 c1 faults AN cN AF cF w4.heap.size (fun _ => 0) 0 0 := ⟨(hbM.block gb (by omega)).trans BK.out, DISK.out.move (Nat.le_trans (by omega) hbM.size) (fun j hj => hbM.block j (by omega)), hmap, below_then HB.out hwM4 hbM, fun j => by show (0:Int) ≤ 0 ∧ (0:Int) ≤ ((0:Nat):Int); omega⟩
    clear BK DISK HB hmap hbM hcz0 hgl hml hL3 hL4
    generalize w4.alloc (.map #[] 0) = w6 at hstart ⊢
    generalize w4.heap.size = M2 at hstart hM2g hM2M hM2b hLM2 hwM4 ⊢
    have hwM2 := hwM4
    clear hwM4
    replace hstart := Aside0.mk hstart
    go_loopw [12, 69] (fun vt vi wr => ∃ (i : Nat) (T : Int → Int) (t : Int), i ≤ 60 ∧ vi = .int .i64 (i : Int) ∧ vt = .int .i64 t ∧ Aside0 (Round w wr gb L g M A0 c0 data A1 c1 faults AN cN AF cF M2 T t i)) (fun _ vi _ => 60 - (intOf vi).toNat)
    case atStart => exact ⟨0, fun _ => 0, 0, Nat.zero_le _, rfl, rfl, hstart⟩
    case round =>
      clear hstart
      obtain ⟨i, T, t, hi, rfl, rfl, hRnd⟩ := hrel
      obtain ⟨q1, q2, q3, q4, q5⟩ := hRnd.out
      clear hRnd
      have rBK := Aside0.mk q1
      have rD := Aside0.mk q2
      have rM := Aside0.mk q3
      have rB := Aside0.mk q4
      have rT := Aside0.mk q5
      clear q1 q2 q3 q4 q5
      by_cases hlt : i < 60
      · obtain ⟨ad, hA, hx⟩ := Kd.at_int (Kd.C_below HR2.out rB.out) (i : Int) (by omega) (by omega)
        subst hA
        obtain ⟨x, hxe⟩ : ∃ x, rd blocks (i : Int) = x := ⟨_, rfl⟩
        rw [hxe] at hx
        clear hxe
        simp only [Int.toNat_natCast] at hx
        have hlti : (i : Int) < (60 : Int) := by omega
        have hnx : IntKind.i64.wrap ((i : Int) + 1) = (i : Int) + 1 := by rw [i64_w]; unfold wrap64; omega
        have hrel0 : Round w wr gb L g M A0 c0 data A1 c1 faults AN cN AF cF M2 T t (i + 1) := ⟨rBK.out, rD.out.more, rM.out.more, rB.out, fun j => ⟨(rT.out j).1, by have := (rT.out j).2; omega⟩⟩
        replace hrel0 := Aside0.mk hrel0
        by_cases hneg : x < 0
        · have HX := Aside0.mk (show x < 0 ∨ x ≥ (data.length : Int) / 64 from Or.inl hneg)
          have hd1 := decide_eq_true hneg
          clear hneg
          go_wp2_with (first | (go_at_call 45; refine (read_out rD.out hdl x HX.out).mono ?_; rintro e w' ⟨rfl, hw⟩; replace hw := hw.symm; subst hw))
          go_roundw
          case rel => exact ⟨i + 1, T, t, by omega, by go_num, rfl, hrel0⟩
          case measure => simp [intOf]; omega
        · have hd1 := decide_eq_false hneg
          by_cases hge : n ≤ x
          · have HX := Aside0.mk (show x < 0 ∨ x ≥ (data.length : Int) / 64 from Or.inr (by rw [HNN.out]; exact hge))
            have hd2 := decide_eq_true hge
            clear hneg hge
            go_wp2_with (first | (go_at_call 45; refine (read_out rD.out hdl x HX.out).mono ?_; rintro e w' ⟨rfl, hw⟩; replace hw := hw.symm; subst hw))
            go_roundw
            case rel => exact ⟨i + 1, T, t, by omega, by go_num, rfl, hrel0⟩
            case measure => simp [intOf]; omega
          · have hd2 := decide_eq_false hge
            have hwx : (Lit.int .i64 x).wf = true := wf_i64 (by omega) (by omega)
            have hTx := rT.out x
            have hnn := HNN.out
            obtain ⟨f0, f1, f2, hf, htm, hbd⟩ := fault_needs data faults x HRT.out HLEN.out ⟨by omega, by omega⟩ (by have := HN.out; omega)
            obtain ⟨⟨need, cost⟩, hnc⟩ : ∃ p, needs faults x = p := ⟨_, rfl⟩
            obtain ⟨kn, hkn⟩ := (needs_ev data faults x HRT.out.kind (by have := HN.out; omega)).rounds
            rw [hnc] at htm hbd hkn
            simp only at htm hbd
            obtain ⟨u, hu⟩ : ∃ u, T x + 1 = u := ⟨_, rfl⟩
            have hread := read_in rD.out hdl x f0 f1 f2 hf (by omega) (by omega) (by omega) (by omega) (by omega)
            rw [hu, htm, hbd u (by omega)] at hread
            have hwu : (Lit.int .i64 u).wf = true := wf_i64 (by omega) (by omega)
            have hadd : IntKind.i64.wrap (T x + 1) = u := by rw [i64_w, hu]; unfold wrap64; omega
            obtain ⟨tn, htn⟩ : ∃ tn, IntKind.i64.wrap (t + cost) = tn := ⟨_, rfl⟩
            have htn2 : wrap64 (t + cost) = tn := by rw [← i64_w]; exact htn
            rw [htn2] at hread
            have hT2 : ∀ j, 0 ≤ (if j = x then u else T j) ∧ (if j = x then u else T j) ≤ ((i + 1 : Nat) : Int) := by
              intro j
              have := rT.out j
              split <;> omega
            replace hT2 := Aside0.mk hT2
            replace hkn := Aside0.mk hkn
            replace hu := Aside0.mk hu
            have HXR := Aside0.mk (show 0 ≤ x ∧ x < n by omega)
            clear htm hbd hnc hf htn2 hneg hge hrel0 hTx
            by_cases hb0 : need = 0
            · have hz1 : (need == 0) = true := beq_iff_eq.mpr hb0
              rw [decide_eq_true (Or.inl hb0), if_pos rfl, if_pos rfl] at hread
              clear hb0
              go_wp2_with (first
                | (go_at_call 45; refine hread.mono ?_; rintro e w1 ⟨v0_, rfl, hRv, hD1, hB1, hO1⟩; obtain ⟨Av, cv, eV⟩ := Kd.R_slice hRv; simp only [List.length_nil] at eV; subst eV; have hM1 := rM.out.same (hO1 M2 rM.out.lt hM2g hM2M); have look1 := hM1.look x hwx; have hbk1 := (hO1 gb (blk_lt rBK.out) hgbg hgbM).trans rBK.out; obtain ⟨w2, hup, hM2, hg2⟩ := hM1.upd (by unfold maxLen; omega) x u hwx hwu; have hD2 := Aside0.mk (hD1.move hg2.size fun j hj => hg2.block j (Nat.lt_of_lt_of_le hj hD1.ll) (by simp; omega)); have hbk2 := Aside0.mk ((hg2.block gb (blk_lt hbk1) (by simp; omega)).trans hbk1); have hB2 := Aside0.mk (((rB.out.trans (hB1 _ hwg hwM rB.out.size)).grown hg2 (Nat.le_trans rB.out.size (hB1 _ hwg hwM rB.out.size).size) (fun k e => by cases e; omega))); have hRV := Aside0.mk hRv; have hG2 := Aside0.mk hg2; have hMM2 := Aside0.mk hM2; have hSZ1 := Aside0.mk (hB1 _ hwg hwM rB.out.size).size; clear hRv hD1 hB1 hO1 hM1 hbk1 hg2 hM2; have hcz0 : w2.cell? ⟨gb, 0, none⟩ = some (.slice A0 data.length c0) := (blk_cell hbk2.out 0).trans rfl; have hcz1 : w2.cell? ⟨gb, 1, none⟩ = some (.slice A1 faults.length c1) := (blk_cell hbk2.out 1).trans rfl)
                | (go_at_call 33; refine (wrackref1_Needs.calls kn A0 c0 data A1 c1 faults x need cost _ (Kd.C_below HR0.out hB2.out) HC0.out (Kd.C_below HR1.out hB2.out) HC1.out hkn.out).mono ?_; rintro e w3 ⟨rfl, hb3⟩; have look3 := (hMM2.out.same (hb3.block M2 hMM2.out.lt)).look x hwx; simp only [if_true] at look3; have hbk3 := blk_below hbk2.out hb3; clear hcz0 hcz1; have hcz0 : w3.cell? ⟨gb, 0, none⟩ = some (.slice A0 data.length c0) := (blk_cell hbk3 0).trans rfl; have hcz1 : w3.cell? ⟨gb, 1, none⟩ = some (.slice A1 faults.length c1) := (blk_cell hbk3 1).trans rfl; have hB3 := Aside0.mk (below_step hB2.out hb3); have hBK3 := Aside0.mk hbk3; have hb3' := Aside0.mk hb3; clear hb3 hbk3))
              go_roundw
              case rel => exact ⟨i + 1, (fun j => if j = x then u else T j), tn, by omega, by go_num, rfl, ⟨hBK3.out, hD2.out.below hb3'.out, hMM2.out.same (hb3'.out.block M2 hMM2.out.lt), hB3.out, hT2.out⟩⟩
              case measure => simp [intOf]; omega
            · have hz1 : (need == 0) = false := beq_eq_false_iff_ne.mpr hb0
              by_cases hb1 : u < need
              · have hz2 := decide_eq_true hb1
                rw [decide_eq_true (Or.inr hb1), if_pos rfl, if_pos rfl] at hread
                clear hb0 hb1
                go_wp2_with (first
                  | (go_at_call 45; refine hread.mono ?_; rintro e w1 ⟨v0_, rfl, hRv, hD1, hB1, hO1⟩; obtain ⟨Av, cv, eV⟩ := Kd.R_slice hRv; simp only [List.length_nil] at eV; subst eV; have hM1 := rM.out.same (hO1 M2 rM.out.lt hM2g hM2M); have look1 := hM1.look x hwx; have hbk1 := (hO1 gb (blk_lt rBK.out) hgbg hgbM).trans rBK.out; obtain ⟨w2, hup, hM2, hg2⟩ := hM1.upd (by unfold maxLen; omega) x u hwx hwu; have hD2 := Aside0.mk (hD1.move hg2.size fun j hj => hg2.block j (Nat.lt_of_lt_of_le hj hD1.ll) (by simp; omega)); have hbk2 := Aside0.mk ((hg2.block gb (blk_lt hbk1) (by simp; omega)).trans hbk1); have hB2 := Aside0.mk (((rB.out.trans (hB1 _ hwg hwM rB.out.size)).grown hg2 (Nat.le_trans rB.out.size (hB1 _ hwg hwM rB.out.size).size) (fun k e => by cases e; omega))); have hRV := Aside0.mk hRv; have hG2 := Aside0.mk hg2; have hMM2 := Aside0.mk hM2; have hSZ1 := Aside0.mk (hB1 _ hwg hwM rB.out.size).size; clear hRv hD1 hB1 hO1 hM1 hbk1 hg2 hM2; have hcz0 : w2.cell? ⟨gb, 0, none⟩ = some (.slice A0 data.length c0) := (blk_cell hbk2.out 0).trans rfl; have hcz1 : w2.cell? ⟨gb, 1, none⟩ = some (.slice A1 faults.length c1) := (blk_cell hbk2.out 1).trans rfl)
                  | (go_at_call 33; refine (wrackref1_Needs.calls kn A0 c0 data A1 c1 faults x need cost _ (Kd.C_below HR0.out hB2.out) HC0.out (Kd.C_below HR1.out hB2.out) HC1.out hkn.out).mono ?_; rintro e w3 ⟨rfl, hb3⟩; have look3 := (hMM2.out.same (hb3.block M2 hMM2.out.lt)).look x hwx; simp only [if_true] at look3; have hbk3 := blk_below hbk2.out hb3; clear hcz0 hcz1; have hcz0 : w3.cell? ⟨gb, 0, none⟩ = some (.slice A0 data.length c0) := (blk_cell hbk3 0).trans rfl; have hcz1 : w3.cell? ⟨gb, 1, none⟩ = some (.slice A1 faults.length c1) := (blk_cell hbk3 1).trans rfl; have hB3 := Aside0.mk (below_step hB2.out hb3); have hBK3 := Aside0.mk hbk3; have hb3' := Aside0.mk hb3; clear hb3 hbk3))
                go_roundw
                case rel => exact ⟨i + 1, (fun j => if j = x then u else T j), tn, by omega, by go_num, rfl, ⟨hBK3.out, hD2.out.below hb3'.out, hMM2.out.same (hb3'.out.block M2 hMM2.out.lt), hB3.out, hT2.out⟩⟩
                case measure => simp [intOf]; omega
              · have hz2 := decide_eq_false hb1
                rw [decide_eq_false (by omega), if_neg (by decide), if_neg (by decide)] at hread
                obtain ⟨hx0, hxn⟩ := HXR.out
                have hcx1 : IntKind.i64.wrap (64 * x) = x * 64 := by rw [i64_w]; unfold wrap64; omega
                have hcx2 : IntKind.i64.wrap (x * 64 + 64) = (x + 1) * 64 := by rw [i64_w]; unfold wrap64; omega
                have hcutD := cut_mid (P := Try.prog) 22 5 .i64 .i64 Try.underlying22 hi5 1 hy1 A0 data.length c0 (x * 64) ((x + 1) * 64) (by omega) (by omega) (by omega) HC0.out
                rw [show ((x + 1) * 64).toNat - (x * 64).toNat = 64 by omega] at hcutD
                obtain ⟨r, hr⟩ : ∃ r, (data.take ((x + 1) * 64).toNat).drop (x * 64).toNat = r := ⟨_, rfl⟩
                have hl64 : r.length = 64 := by rw [← hr, List.length_drop, List.length_take]; omega
                rw [hr] at hread
                obtain ⟨kq, hkq⟩ := (equalB_ev r (by omega)).rounds
                have hEq : ∀ (W : World) (Av : Option Addr) (cv : Nat), Kd.C (Kd.int .u8) W Av r.length r → r.length ≤ cv → Kd.C (Kd.int .u8) W A0 data.length data →
                    Calls Try.prog 34 #[.slice Av 64 cv, .slice (if c0 = (x * 64).toNat then A0 else A0.map (·.add ((x * 64).toNat * 1))) 64 (c0 - (x * 64).toNat)] W fun e w' => e = .returned (.bool true) ∧ ∃ n, w' = W.drewN n := by
                  intro W Av cv hCv hcv hCd
                  have hm := Kd.C_mid (lo := (x * 64).toNat) (hi := ((x + 1) * 64).toNat) hCd (by omega) (by omega) HC0.out
                  rw [hr] at hm
                  have := slices_Equal_byte_byte.calls kq Av cv r _ (c0 - (x * 64).toNat) r true W hCv hcv hm (by have := HC0.out; omega) hkq
                  rw [hl64] at this
                  refine this.mono ?_
                  rintro e w' ⟨rfl, hD⟩
                  exact ⟨rfl, hD.out⟩
                generalize (if c0 = (x * 64).toNat then A0 else A0.map (·.add ((x * 64).toNat * 1))) = AC at hcutD hEq
                replace hr := Aside0.mk hr
                clear hb0 hb1 hx0 hxn
                go_wp2_with (first
                  | (go_at_call 45; refine hread.mono ?_; rintro e w1 ⟨v0_, rfl, hRv, hD1, hB1, hO1⟩; obtain ⟨Av, cv, eV⟩ := Kd.R_slice hRv; rw [hl64] at eV; subst eV; have hM1 := rM.out.same (hO1 M2 rM.out.lt hM2g hM2M); have look1 := hM1.look x hwx; have hbk1 := (hO1 gb (blk_lt rBK.out) hgbg hgbM).trans rBK.out; obtain ⟨w2, hup, hM2, hg2⟩ := hM1.upd (by unfold maxLen; omega) x u hwx hwu; have hD2 := Aside0.mk (hD1.move hg2.size fun j hj => hg2.block j (Nat.lt_of_lt_of_le hj hD1.ll) (by simp; omega)); have hbk2 := Aside0.mk ((hg2.block gb (blk_lt hbk1) (by simp; omega)).trans hbk1); have hB2 := Aside0.mk (((rB.out.trans (hB1 _ hwg hwM rB.out.size)).grown hg2 (Nat.le_trans rB.out.size (hB1 _ hwg hwM rB.out.size).size) (fun k e => by cases e; omega))); have hRV := Aside0.mk hRv; have hG2 := Aside0.mk hg2; have hMM2 := Aside0.mk hM2; have hSZ1 := Aside0.mk (hB1 _ hwg hwM rB.out.size).size; clear hRv hD1 hB1 hO1 hM1 hbk1 hg2 hM2; have hcz0 : w2.cell? ⟨gb, 0, none⟩ = some (.slice A0 data.length c0) := (blk_cell hbk2.out 0).trans rfl; have hcz1 : w2.cell? ⟨gb, 1, none⟩ = some (.slice A1 faults.length c1) := (blk_cell hbk2.out 1).trans rfl)
                  | (go_at_call 33; refine (wrackref1_Needs.calls kn A0 c0 data A1 c1 faults x need cost _ (Kd.C_below HR0.out hB2.out) HC0.out (Kd.C_below HR1.out hB2.out) HC1.out hkn.out).mono ?_; rintro e w3 ⟨rfl, hb3⟩; have look3 := (hMM2.out.same (hb3.block M2 hMM2.out.lt)).look x hwx; simp only [if_true] at look3; have hbk3 := blk_below hbk2.out hb3; clear hcz0 hcz1; have hcz0 : w3.cell? ⟨gb, 0, none⟩ = some (.slice A0 data.length c0) := (blk_cell hbk3 0).trans rfl; have hcz1 : w3.cell? ⟨gb, 1, none⟩ = some (.slice A1 faults.length c1) := (blk_cell hbk3 1).trans rfl; have hB3 := Aside0.mk (below_step hB2.out hb3); have hBK3 := Aside0.mk hbk3; have hb3' := Aside0.mk hb3; clear hb3 hbk3)
                  | (go_at_call 34; have hC1 := rows_of hRV.out w3 fun j hj hj2 => (hb3'.out.block j (Nat.lt_of_lt_of_le hj2 hG2.out.size)).trans (hG2.out.block j hj2 (by have := rM.out.lt; simp; omega)); have hC2 := (Kd.R_reads' hRV.out).2.1; have hE := hEq w3 Av cv hC1 (Nat.le_trans (Nat.le_of_eq hl64) hC2) (Kd.C_below HR0.out hB3.out); refine hE.mono ?_; rintro e w4 ⟨rfl, ⟨nd, rfl⟩⟩))
                go_roundw
                case rel => exact ⟨i + 1, (fun j => if j = x then u else T j), tn, by omega, by go_num, rfl, ⟨hBK3.out, (hD2.out.below hb3'.out).below (pw_below_drewN (Below.refl _ _) nd), (hMM2.out.same (hb3'.out.block M2 hMM2.out.lt)).same rfl, pw_below_drewN hB3.out nd, hT2.out⟩⟩
                case measure => simp [intOf]; omega
      · obtain rfl : i = 60 := by omega
        have rDd := Aside0.mk (rD.out.below (below_drew (Below.refl _ _)))
        obtain ⟨ta, hta⟩ : ∃ ta, T ask = ta := ⟨_, rfl⟩
        have hTries := tries_calls rDd.out ask HASK.out
        rw [hta] at hTries
        have q0 : (Instr.lookup 67 (.map (some M2)) (.int .i64 ask) false).run Try.prog wr.drew = .ok (.int .i64 ta) wr.drew := by
          have hm : MapIs wr.drew M2 T _ := rM.out.same rfl
          have := hm.look ask HASK.out
          rw [hta] at this; exact this
        go_wp2
        refine start_ (n := 14) (S := fun w' => (Instr.lookup 67 (.map (some M2)) (.int .i64 ask) false).run Try.prog w' = .ok (.int .i64 ta) w') (ds := []) #[false, false, false, false, false, false, false, false, false, false, false, false, false, false] (by kernel_rfl) rfl rfl (q0) (fun hHeld => ?_)
        refine pure_ (i := 0) (N := some 138) (v := ?_) (a' := ?_) #[true, false, false, false, false, false, false, false, false, false, false, false, false, false] rfl rfl (by kernel_rfl) (fun _ _ _ h => h) (Or.inl ⟨by rfl, ?_⟩) ?_ ?_
        rotate_left
        · intro w'
          go_simp
          with_reducible rfl
        rotate_left
        · simp only [Act.put, List.setIfInBounds_toArray, List.set_cons_zero, List.set_cons_succ, i64_w, i32_w]
          rfl
        refine pure_ (i := 2) (N := some 140) (v := ?_) (a' := ?_) #[true, false, true, false, false, false, false, false, false, false, false, false, false, false] rfl rfl (by kernel_rfl) (fun _ _ _ h => h) (Or.inl ⟨by rfl, ?_⟩) ?_ ?_
        rotate_left
        · intro w'
          go_simp
          with_reducible rfl
        rotate_left
        · simp only [Act.put, List.setIfInBounds_toArray, List.set_cons_zero, List.set_cons_succ, i64_w, i32_w]
          rfl
        refine one_ (i := 1) (N := some 139) #[true, true, true, false, false, false, false, false, false, false, false, false, false, false] rfl rfl (by kernel_rfl) (by decide) (fun K hK => ?_)
        refine goes_ Try.func46 (by kernel_rfl) rfl #[.pointer (some ⟨g, 0, none⟩)] (by rfl) rfl rfl (by simp only [List.map_toArray, List.map_cons, List.map_nil]; rfl) ?_
        with_reducible refine (time_calls rDd.out).mono ?_
        rintro e w' ⟨rfl, hw⟩
        replace hw := hw.symm
        subst hw
        refine ⟨_, rfl, ?_⟩
        refine hK.out _ _ (q0) (fun hHeld => ?_)
        clear hK K
        refine norm_ (a' := ?_) ?_ ?_
        rotate_left
        · show Act.put _ (some 139) _ = _
          simp only [Act.put, List.setIfInBounds_toArray, List.set_cons_zero, List.set_cons_succ, i64_w, i32_w]
          rfl
        refine pure_ (i := 3) (N := some 141) (v := ?_) (a' := ?_) #[true, true, true, true, false, false, false, false, false, false, false, false, false, false] rfl rfl (by kernel_rfl) (fun _ _ _ h => h) (Or.inl ⟨by rfl, ?_⟩) ?_ ?_
        rotate_left
        · intro w'
          go_simp
          with_reducible rfl
        rotate_left
        · simp only [Act.put, List.setIfInBounds_toArray, List.set_cons_zero, List.set_cons_succ, i64_w, i32_w]
          rfl
        refine pure_ (i := 4) (N := some 142) (v := ?_) (a' := ?_) #[true, true, true, true, true, false, false, false, false, false, false, false, false, false] rfl rfl (by kernel_rfl) (fun _ _ _ h => h) (Or.inl ⟨by rfl, ?_⟩) ?_ ?_
        rotate_left
        · intro w'
          go_simp
          with_reducible rfl
        rotate_left
        · simp only [Act.put, List.setIfInBounds_toArray, List.set_cons_zero, List.set_cons_succ, i64_w, i32_w]
          rfl
        refine pure_ (i := 5) (N := some 143) (v := ?_) (a' := ?_) #[true, true, true, true, true, true, false, false, false, false, false, false, false, false] rfl rfl (by kernel_rfl) (fun _ _ _ h => h) (Or.inl ⟨by rfl, ?_⟩) ?_ ?_
        rotate_left
        · intro w'
          go_simp
          with_reducible rfl
        rotate_left
        · simp only [Act.put, List.setIfInBounds_toArray, List.set_cons_zero, List.set_cons_succ, i64_w, i32_w]
          rfl
        refine pure_ (i := 6) (N := some 144) (v := ?_) (a' := ?_) #[true, true, true, true, true, true, true, false, false, false, false, false, false, false] rfl rfl (by kernel_rfl) (fun _ _ _ h => h) (Or.inl ⟨by rfl, ?_⟩) ?_ ?_
        rotate_left
        · intro w'
          go_simp
          with_reducible rfl
        rotate_left
        · simp only [Act.put, List.setIfInBounds_toArray, List.set_cons_zero, List.set_cons_succ, i64_w, i32_w]
          rfl
        refine pure_ (i := 8) (N := some 146) (v := ?_) (a' := ?_) #[true, true, true, true, true, true, true, false, true, false, false, false, false, false] rfl rfl (by kernel_rfl) (fun _ _ _ h => h) (Or.inl ⟨by rfl, ?_⟩) ?_ ?_
        rotate_left
        · intro w'
          go_simp
          with_reducible rfl
        rotate_left
        · simp only [Act.put, List.setIfInBounds_toArray, List.set_cons_zero, List.set_cons_succ, i64_w, i32_w]
          rfl
        refine pure_ (i := 9) (N := some 147) (v := ?_) (a' := ?_) #[true, true, true, true, true, true, true, false, true, true, false, false, false, false] rfl rfl (by kernel_rfl) (fun _ _ _ h => h) (Or.inl ⟨by rfl, ?_⟩) ?_ ?_
        rotate_left
        · intro w'
          go_simp
          with_reducible rfl
        rotate_left
        · simp only [Act.put, List.setIfInBounds_toArray, List.set_cons_zero, List.set_cons_succ, i64_w, i32_w]
          rfl
        refine take_ (i := 10) (N := some 148) (v := ?_) (a' := ?_) #[true, true, true, true, true, true, true, false, true, true, true, false, false, false] rfl rfl (by kernel_rfl) (fun _ _ _ h => h) (Or.inl ⟨by rfl, ?_⟩) hHeld ?_ ?_
        rotate_left
        · intro w' s0
          go_simp
          with_reducible rfl
        rotate_left
        · simp only [Act.put, List.setIfInBounds_toArray, List.set_cons_zero, List.set_cons_succ, i64_w, i32_w]
          rfl
        refine one_ (i := 7) (N := some 145) #[true, true, true, true, true, true, true, true, true, true, true, false, false, false] rfl rfl (by kernel_rfl) (by decide) (fun K hK => ?_)
        refine goes_ Try.func47 (by kernel_rfl) rfl #[.pointer (some ⟨g, 0, none⟩), .int .i64 ask] (by rfl) rfl rfl (by simp only [List.map_toArray, List.map_cons, List.map_nil]; rfl) ?_
        with_reducible refine (hTries).mono ?_
        rintro e w' ⟨rfl, hw⟩
        replace hw := hw.symm
        subst hw
        refine ⟨_, rfl, ?_⟩
        refine hK.out _ _ (q0) (fun hHeld => ?_)
        clear hK K
        refine norm_ (a' := ?_) ?_ ?_
        rotate_left
        · show Act.put _ (some 145) _ = _
          simp only [Act.put, List.setIfInBounds_toArray, List.set_cons_zero, List.set_cons_succ, i64_w, i32_w]
          rfl
        refine pure_ (i := 11) (N := some 149) (v := ?_) (a' := ?_) #[true, true, true, true, true, true, true, true, true, true, true, true, false, false] rfl rfl (by kernel_rfl) (fun _ _ _ h => h) (Or.inl ⟨by rfl, ?_⟩) ?_ ?_
        rotate_left
        · intro w'
          go_simp
          with_reducible rfl
        rotate_left
        · simp only [Act.put, List.setIfInBounds_toArray, List.set_cons_zero, List.set_cons_succ, i64_w, i32_w]
          rfl
        refine pure_ (i := 12) (N := some 150) (v := ?_) (a' := ?_) #[true, true, true, true, true, true, true, true, true, true, true, true, true, false] rfl rfl (by kernel_rfl) (fun _ _ _ h => h) (Or.inl ⟨by rfl, ?_⟩) ?_ ?_
        rotate_left
        · intro w'
          go_simp
          with_reducible rfl
        rotate_left
        · simp only [Act.put, List.setIfInBounds_toArray, List.set_cons_zero, List.set_cons_succ, i64_w, i32_w]
          rfl
        refine pure_ (i := 13) (N := some 6) (v := ?_) (a' := ?_) #[true, true, true, true, true, true, true, true, true, true, true, true, true, true] rfl rfl (by kernel_rfl) (fun _ _ _ h => h) (Or.inl ⟨by rfl, ?_⟩) ?_ ?_
        rotate_left
        · intro w'
          go_simp
          with_reducible rfl
        rotate_left
        · simp only [Act.put, List.setIfInBounds_toArray, List.set_cons_zero, List.set_cons_succ, i64_w, i32_w]
          rfl
        refine done_ (by kernel_rfl) ?_
        go_wp2
        go_ret
        exact ⟨by simp, below_drew rB.out⟩
/-- every drive -/
theorem main_calls (A0 : Option Addr) (c0 : Nat) (data : List Int) (A1 : Option Addr) (c1 : Nat) (faults : List S121) (A2 : Option Addr) (c2 : Nat) (blocks : List Int) (ask : Int) (w : World)
    (hr0 : Kd.C (Kd.int .u8) w A0 data.length data) (hc0 : data.length ≤ c0) (hr1 : Kd.C k121 w A1 faults.length faults) (hc1 : faults.length ≤ c1) (hr2 : Kd.C (Kd.int .i64) w A2 blocks.length blocks) (hc2 : blocks.length ≤ c2) (hn : faults.length * 24 ≤ 140737488351232) (hask : (Lit.int .i64 ask).wf = true) :
    Calls Try.prog 8 #[.agg #[.slice A0 data.length c0, .slice A1 faults.length c1], .slice A2 blocks.length c2, .int .i64 ask] w fun e w' => e = .returned (.bool true) ∧ Below w.heap.size w w' := by
  by_cases he : errD data faults = 0
  · exact main_ok A0 c0 data A1 c1 faults A2 c2 blocks ask w hr0 hc0 hr1 hc1 hr2 hc2 (by omega) hask he
  · exact main_err A0 c0 data A1 c1 faults A2 c2 blocks ask w hr0 hc0 hr1 hc1 (by omega) he
end Go.Proofs.Ytdgkbpoljcndgaa.Pure
