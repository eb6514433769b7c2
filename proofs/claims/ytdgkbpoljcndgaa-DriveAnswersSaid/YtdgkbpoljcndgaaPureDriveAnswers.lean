/- The statement DriveAnswers over numbers and lists alone: Check and Answer are the reference's. No condition. -/
import Derived.Test.YtdgkbpoljcndgaaQDriveAnswersx5
namespace Go.Proofs.Ytdgkbpoljcndgaa.Pure
open Go Go.RowKit Go.Proofs.Ytdgkbpoljcndgaa.QDriveAnswers Go.Proofs.YtdgkbpoljcndgaaW.PrintWords Go.Proofs.YtdgkbpoljcndgaaW.PrintLast Go.Proofs.YtdgkbpoljcndgaaW.PrintMore
set_option linter.unusedVariables false
set_option linter.unusedSimpArgs false
theorem drop_fault (l : List S121) (i : Nat) (h : i < l.length) : l.drop i = rd_T121 l (i : Int) :: l.drop (i + 1) := by
  rw [List.drop_eq_getElem_cons h]
  simp [rd_T121, List.getD_eq_getElem?_getD, h]
theorem up (i n : Nat) (h : i < n) (hn : n ≤ 4611686018427387904) : wrap64 ((i : Int) + 1) = ((i + 1 : Nat) : Int) := by unfold wrap64; omega
/-- a fault's number is wrong -/
def badN (x : S121) : Prop := (x.f1 = 1 ∧ x.f2 ≠ 0) ∨ (x.f1 = 2 ∧ (x.f2 < 2 ∨ x.f2 > 16)) ∨ (x.f1 = 3 ∧ (x.f2 < 2 ∨ x.f2 > 100))
instance (x : S121) : Decidable (badN x) := by unfold badN; exact inferInstance
/-- the first error of faults, behind one of the block 'last' -/
def errF (n : Int) : Int → List S121 → Int
  | _, [] => 0
  | last, x :: l => if x.f0 < 0 ∨ x.f0 ≥ n then 4 else if x.f0 ≤ last then 11 else if ¬ (1 ≤ x.f1 ∧ x.f1 ≤ 3) then 1 else if badN x then 4 else errF n x.f0 l
def errD (data : List Int) (l : List S121) : Int := if (data.length : Int) > 65536 then 2 else if (data.length : Int) % 64 = 0 then errF ((data.length : Int) / 64) (-1) l else 3
theorem check_l0 (data : List Int) (l : List S121) (hd : (data.length : Int) ≤ 65536) (hn : l.length ≤ 4611686018427387904) : ∀ (d i : Nat) (last : Int), i + d = l.length →
    Ev (fun k => drive_Check.l0 k last l (l.length : Int) (i : Int) data l) (errF ((data.length : Int) / 64) last (l.drop i))
  | 0, i, last, hi => by
    refine Ev.step (f := fun _ => some _) (fun k => ?_) (Ev.now _)
    simp only [drive_Check.l0]
    rw [if_neg (by omega), List.drop_of_length_le (by omega)]; rfl
  | d + 1, i, last, hi => by
    have hw : wrap64 ((data.length : Int) / 64) = (data.length : Int) / 64 := by unfold wrap64; omega
    have ih := check_l0 data l hd hn d (i + 1)
    rw [drop_fault l i (by omega)]
    generalize hx : rd_T121 l (i : Int) = x
    have hu := up i l.length (by omega) hn
    unfold errF
    have j1 : ∀ b, b = decide (x.f0 < 0 ∨ x.f0 ≥ (data.length : Int) / 64) → Ev (fun k => drive_Check.j1 k last l (l.length : Int) (i : Int) b data l x.f0 x.f1 x.f2) (if x.f0 < 0 ∨ x.f0 ≥ (data.length : Int) / 64 then 4 else if x.f0 ≤ last then 11 else if ¬ (1 ≤ x.f1 ∧ x.f1 ≤ 3) then 1 else if badN x then 4 else errF ((data.length : Int) / 64) x.f0 (l.drop (i + 1))) := by
      rintro b rfl
      by_cases h1 : x.f0 < 0 ∨ x.f0 ≥ (data.length : Int) / 64
      · rw [if_pos h1, decide_eq_true h1]
        refine Ev.step (f := fun _ => some _) (fun k => ?_) (Ev.now _)
        simp only [drive_Check.j1, if_true]
      · rw [if_neg h1, decide_eq_false h1]
        by_cases h2 : x.f0 ≤ last
        · rw [if_pos h2]
          refine Ev.step (f := fun _ => some _) (fun k => ?_) (Ev.now _)
          simp only [drive_Check.j1]
          rw [if_neg (by decide), if_pos h2]
        · rw [if_neg h2]
          have j2 : ∀ b, b = decide (¬ (1 ≤ x.f1 ∧ x.f1 ≤ 3)) → Ev (fun k => drive_Check.j2 k l (l.length : Int) (i : Int) b data l x.f0 x.f1 x.f2) (if ¬ (1 ≤ x.f1 ∧ x.f1 ≤ 3) then 1 else if badN x then 4 else errF ((data.length : Int) / 64) x.f0 (l.drop (i + 1))) := by
            rintro b rfl
            by_cases h3 : ¬ (1 ≤ x.f1 ∧ x.f1 ≤ 3)
            · rw [if_pos h3, decide_eq_true h3]
              refine Ev.step (f := fun _ => some _) (fun k => ?_) (Ev.now _)
              simp only [drive_Check.j2, if_true]
            · rw [if_neg h3, decide_eq_false h3]
              have j4 : ∀ b, b = decide (x.f1 = 1 ∧ x.f2 ≠ 0 ∨ x.f1 = 2 ∧ (x.f2 < 2 ∨ x.f2 > 16)) → Ev (fun k => drive_Check.j4 k l (l.length : Int) (i : Int) b data l x.f0 x.f1 x.f2) (if badN x then 4 else errF ((data.length : Int) / 64) x.f0 (l.drop (i + 1))) := by
                rintro b rfl
                by_cases h4 : x.f1 = 1 ∧ x.f2 ≠ 0 ∨ x.f1 = 2 ∧ (x.f2 < 2 ∨ x.f2 > 16)
                · rw [decide_eq_true h4, if_pos (by unfold badN; omega)]
                  refine Ev.step (f := fun _ => some _) (fun k => ?_) (Ev.now _)
                  simp only [drive_Check.j4, if_true]
                · rw [decide_eq_false h4]
                  by_cases h5 : x.f1 = 3
                  · by_cases h6 : x.f2 < 2
                    · rw [if_pos (by unfold badN; omega)]
                      refine Ev.step (f := fun _ => some _) (fun k => ?_) (Ev.now _)
                      simp only [drive_Check.j4]
                      rw [if_neg (by decide), if_pos h5, if_pos h6]
                    · by_cases h7 : x.f2 > 100
                      · rw [if_pos (by unfold badN; omega)]
                        refine Ev.step (f := fun _ => some _) (fun k => ?_) (Ev.now _)
                        simp only [drive_Check.j4]
                        rw [if_neg (by decide), if_pos h5, if_neg h6, if_pos h7]
                      · rw [if_neg (by unfold badN; omega)]
                        refine Ev.step (fun k => ?_) (ih x.f0 (by omega))
                        simp only [drive_Check.j4]
                        rw [if_neg (by decide), if_pos h5, if_neg h6, if_neg h7, hu]
                  · rw [if_neg (by unfold badN; omega)]
                    refine Ev.step (fun k => ?_) (ih x.f0 (by omega))
                    simp only [drive_Check.j4]
                    rw [if_neg (by decide), if_neg h5, hu]
              have j3 : ∀ b, b = decide (x.f1 = 1 ∧ x.f2 ≠ 0) → Ev (fun k => drive_Check.j3 k l (l.length : Int) (i : Int) b data l x.f0 x.f1 x.f2) (if badN x then 4 else errF ((data.length : Int) / 64) x.f0 (l.drop (i + 1))) := by
                rintro b rfl
                by_cases h4 : x.f1 = 1 ∧ x.f2 ≠ 0
                · rw [decide_eq_true h4, if_pos (by unfold badN; omega)]
                  refine Ev.step (f := fun _ => some _) (fun k => ?_) (Ev.now _)
                  simp only [drive_Check.j3, if_true]
                · rw [decide_eq_false h4]
                  by_cases h5 : x.f1 = 2
                  · by_cases h6 : x.f2 < 2
                    · refine Ev.step (fun k => ?_) (j4 true (by simp; omega))
                      simp only [drive_Check.j3]
                      rw [if_neg (by decide), if_pos h5, if_pos h6]
                    · refine Ev.step (fun k => ?_) (j4 (decide (x.f2 > 16)) (decide_eq_decide.2 (by omega)))
                      simp only [drive_Check.j3]
                      rw [if_neg (by decide), if_pos h5, if_neg h6]
                  · refine Ev.step (fun k => ?_) (j4 false (by simp; omega))
                    simp only [drive_Check.j3]
                    rw [if_neg (by decide), if_neg h5]
              by_cases h4 : x.f1 = 1
              · refine Ev.step (fun k => ?_) (j3 (x.f2 != 0) (by rw [Bool.eq_iff_iff]; simp [h4]))
                simp only [drive_Check.j2]
                rw [if_neg (by decide), if_pos h4]
              · refine Ev.step (fun k => ?_) (j3 false (by simp [h4]))
                simp only [drive_Check.j2]
                rw [if_neg (by decide), if_neg h4]
          by_cases h3 : x.f1 < 1
          · refine Ev.step (fun k => ?_) (j2 true (by simp; omega))
            simp only [drive_Check.j1]
            rw [if_neg (by decide), if_neg h2, if_pos h3]
          · refine Ev.step (fun k => ?_) (j2 (decide (x.f1 > 3)) (decide_eq_decide.2 (by omega)))
            simp only [drive_Check.j1]
            rw [if_neg (by decide), if_neg h2, if_neg h3]
    by_cases h1 : x.f0 < 0
    · refine Ev.step (fun k => ?_) (j1 true (by simp [h1]))
      simp only [drive_Check.l0]
      rw [if_pos (by omega), if_pos (by omega), if_pos (by omega), hx, if_pos h1]
    · refine Ev.step (fun k => ?_) (j1 (decide (x.f0 ≥ (data.length : Int) / 64)) (decide_eq_decide.2 (by omega)))
      simp only [drive_Check.l0]
      rw [if_pos (by omega), if_pos (by omega), if_pos (by omega), hx, if_neg h1, hw]
theorem check_ev (data : List Int) (l : List S121) (hn : l.length ≤ 4611686018427387904) : Ev (fun k => drive_Check.f k data l) (errD data l) := by
  unfold drive_Check.f errD
  by_cases h1 : (data.length : Int) > 65536
  · rw [if_pos h1]; exact Ev.congr (fun k => if_pos h1) (Ev.now _)
  · rw [if_neg h1]
    refine Ev.congr (fun k => if_neg h1) ?_
    by_cases h2 : (data.length : Int) % 64 = 0
    · rw [if_pos h2]
      refine Ev.congr (fun k => if_pos h2) ?_
      exact check_l0 data l (by omega) hn l.length 0 (-1) (by omega)
    · rw [if_neg h2]; exact Ev.congr (fun k => if_neg h2) (Ev.now _)
def lastF (l : List S121) (i : Nat) : Int := if i = 0 then -1 else (rd_T121 l ((i : Int) - 1)).f0
theorem derr_l0 (data : List Int) (l : List S121) (hd : (data.length : Int) ≤ 65536) (hn : l.length ≤ 4611686018427387904) : ∀ (d i : Nat), i + d = l.length →
    Ev (fun k => wrackref1_DriveErr.l0 k l (l.length : Int) (i : Int) data l) (errF ((data.length : Int) / 64) (lastF l i) (l.drop i))
  | 0, i, hi => by
    refine Ev.step (f := fun _ => some _) (fun k => ?_) (Ev.now _)
    simp only [wrackref1_DriveErr.l0]
    rw [if_neg (by omega), List.drop_of_length_le (by omega)]; rfl
  | d + 1, i, hi => by
    have hw : wrap64 ((data.length : Int) / 64) = (data.length : Int) / 64 := by unfold wrap64; omega
    have hw1 : wrap64 ((data.length : Int) / 64 - 1) = (data.length : Int) / 64 - 1 := by unfold wrap64; omega
    have ih := derr_l0 data l hd hn d (i + 1) (by omega)
    have hl1 : lastF l (i + 1) = (rd_T121 l (i : Int)).f0 := by
      unfold lastF
      rw [if_neg (by omega), show ((i + 1 : Nat) : Int) - 1 = (i : Int) by omega]
    rw [hl1] at ih
    rw [drop_fault l i (by omega)]
    generalize hx : rd_T121 l (i : Int) = x at ih ⊢
    have hu := up i l.length (by omega) hn
    unfold errF
    have j2 : ¬ (x.f0 < 0 ∨ x.f0 ≥ (data.length : Int) / 64) → ∀ b, b = decide (x.f0 ≤ lastF l i) → Ev (fun k => wrackref1_DriveErr.j2 k l (l.length : Int) (i : Int) b data l x.f0 x.f1 x.f2) (if x.f0 ≤ lastF l i then 11 else if ¬ (1 ≤ x.f1 ∧ x.f1 ≤ 3) then 1 else if badN x then 4 else errF ((data.length : Int) / 64) x.f0 (l.drop (i + 1))) := by
      rintro h0 b rfl
      by_cases h2 : x.f0 ≤ lastF l i
      · rw [if_pos h2, decide_eq_true h2]
        refine Ev.step (f := fun _ => some _) (fun k => ?_) (Ev.now _)
        simp only [wrackref1_DriveErr.j2, if_true]
      · rw [if_neg h2, decide_eq_false h2]
        by_cases h3 : ¬ (1 ≤ x.f1 ∧ x.f1 ≤ 3)
        · rw [if_pos h3]
          refine Ev.step (f := fun _ => some _) (fun k => ?_) (Ev.now _)
          simp only [wrackref1_DriveErr.j2]
          rw [if_neg (by decide), if_neg (by omega), if_neg (by omega), if_neg (by omega)]
        · rw [if_neg h3]
          by_cases h4 : badN x
          · rw [if_pos h4]
            refine Ev.step (f := fun _ => some _) (fun k => ?_) (Ev.now _)
            unfold badN at h4
            simp only [wrackref1_DriveErr.j2]
            rw [if_neg (by decide)]
            repeat' split
            all_goals first | rfl | omega
          · rw [if_neg h4]
            refine Ev.step (fun k => ?_) ih
            unfold badN at h4
            simp only [wrackref1_DriveErr.j2]
            rw [if_neg (by decide), hu]
            repeat' split
            all_goals first | rfl | (exfalso; omega)
    have j1 : ∀ b, b = decide (x.f0 < 0 ∨ x.f0 ≥ (data.length : Int) / 64) → Ev (fun k => wrackref1_DriveErr.j1 k (i : Int) l (l.length : Int) (i : Int) b data l x.f0 x.f1 x.f2) (if x.f0 < 0 ∨ x.f0 ≥ (data.length : Int) / 64 then 4 else if x.f0 ≤ lastF l i then 11 else if ¬ (1 ≤ x.f1 ∧ x.f1 ≤ 3) then 1 else if badN x then 4 else errF ((data.length : Int) / 64) x.f0 (l.drop (i + 1))) := by
      rintro b rfl
      by_cases h1 : x.f0 < 0 ∨ x.f0 ≥ (data.length : Int) / 64
      · rw [if_pos h1, decide_eq_true h1]
        refine Ev.step (f := fun _ => some _) (fun k => ?_) (Ev.now _)
        simp only [wrackref1_DriveErr.j1, if_true]
      · rw [if_neg h1, decide_eq_false h1]
        by_cases hi0 : i = 0
        · refine Ev.step (fun k => ?_) (j2 h1 false (by unfold lastF; rw [if_pos hi0]; simp; omega))
          simp only [wrackref1_DriveErr.j1]
          rw [if_neg (by decide), if_neg (by omega)]
        · refine Ev.step (fun k => ?_) (j2 h1 (decide ((rd_T121 l ((i : Int) - 1)).f0 ≥ x.f0)) (by unfold lastF; rw [if_neg hi0]))
          simp only [wrackref1_DriveErr.j1]
          rw [if_neg (by decide), if_pos (by omega), show wrap64 ((i : Int) - 1) = (i : Int) - 1 by unfold wrap64; omega, if_pos (by omega), if_pos (by omega)]
    by_cases h1 : x.f0 < 0
    · refine Ev.step (fun k => ?_) (j1 true (by simp [h1]))
      simp only [wrackref1_DriveErr.l0]
      rw [if_pos (by omega), if_pos (by omega), if_pos (by omega), hx, if_pos h1]
    · refine Ev.step (fun k => ?_) (j1 (decide (x.f0 > (data.length : Int) / 64 - 1)) (decide_eq_decide.2 (by omega)))
      simp only [wrackref1_DriveErr.l0]
      rw [if_pos (by omega), if_pos (by omega), if_pos (by omega), hx, if_neg h1, hw, hw1]
theorem derr_ev (data : List Int) (l : List S121) (hn : l.length ≤ 4611686018427387904) : Ev (fun k => wrackref1_DriveErr.f k data l) (errD data l) := by
  unfold wrackref1_DriveErr.f errD
  by_cases h1 : (data.length : Int) > 65536
  · rw [if_pos h1]; exact Ev.congr (fun k => if_pos h1) (Ev.now _)
  · rw [if_neg h1]
    refine Ev.congr (fun k => if_neg h1) ?_
    by_cases h2 : (data.length : Int) % 64 = 0
    · rw [if_pos h2]
      refine Ev.congr (fun k => if_neg (by omega)) ?_
      exact derr_l0 data l (by omega) hn l.length 0 (by omega)
    · rw [if_neg h2]; exact Ev.congr (fun k => if_pos (by omega)) (Ev.now _)
/-- what right faults are -/
structure RightF (n : Int) (l : List S121) : Prop where
  range : ∀ x ∈ l, 0 ≤ x.f0 ∧ x.f0 < n
  order : l.Pairwise fun x y => x.f0 < y.f0
  kind : ∀ x ∈ l, 1 ≤ x.f1 ∧ x.f1 ≤ 3
  num : ∀ x ∈ l, ¬ badN x
theorem right_of : ∀ (l : List S121) (n last : Int), errF n last l = 0 → RightF n l ∧ ∀ x ∈ l, last < x.f0
  | [], n, last, _ => ⟨⟨by simp, List.Pairwise.nil, by simp, by simp⟩, by simp⟩
  | x :: l, n, last, h => by
    unfold errF at h
    by_cases h1 : x.f0 < 0 ∨ x.f0 ≥ n
    · rw [if_pos h1] at h; omega
    · rw [if_neg h1] at h
      by_cases h2 : x.f0 ≤ last
      · rw [if_pos h2] at h; omega
      · rw [if_neg h2] at h
        by_cases h3 : ¬ (1 ≤ x.f1 ∧ x.f1 ≤ 3)
        · rw [if_pos h3] at h; omega
        · rw [if_neg h3] at h
          by_cases h4 : badN x
          · rw [if_pos h4] at h; omega
          · rw [if_neg h4] at h
            obtain ⟨g1, g2⟩ := right_of l n x.f0 h
            refine ⟨⟨fun y hy => ?_, List.pairwise_cons.2 ⟨g2, g1.order⟩, fun y hy => ?_, fun y hy => ?_⟩, fun y hy => ?_⟩
            · rcases List.mem_cons.1 hy with rfl | hy
              · omega
              · exact g1.range y hy
            · rcases List.mem_cons.1 hy with rfl | hy
              · omega
              · exact g1.kind y hy
            · rcases List.mem_cons.1 hy with rfl | hy
              · exact h4
              · exact g1.num y hy
            · rcases List.mem_cons.1 hy with rfl | hy
              · omega
              · have := g2 y hy; omega
theorem rd_mem (l : List S121) (i : Nat) (h : i < l.length) : rd_T121 l (i : Int) ∈ l := by
  unfold rd_T121
  rw [Int.toNat_natCast, List.getD_eq_getElem?_getD, List.getElem?_eq_getElem h]; simp
theorem rd_lt (l : List S121) (hl : l.Pairwise fun x y => x.f0 < y.f0) (i j : Nat) (hij : i < j) (hj : j < l.length) : (rd_T121 l (i : Int)).f0 < (rd_T121 l (j : Int)).f0 := by
  have := List.pairwise_iff_getElem.1 hl i j (by omega) hj hij
  unfold rd_T121
  rw [Int.toNat_natCast, Int.toNat_natCast, List.getD_eq_getElem?_getD, List.getD_eq_getElem?_getD, List.getElem?_eq_getElem hj, List.getElem?_eq_getElem (by omega)]
  simpa using this
theorem bs_right (l : List S121) (a : Int) (hl : l.Pairwise fun x y => x.f0 < y.f0) (hr : ∀ x ∈ l, 0 ≤ x.f0 ∧ x.f0 < 65536) (ha : 0 ≤ a ∧ a < 65536) : ∀ (m i j : Nat), i ≤ j → j ≤ l.length → j - i < m →
    (∀ q : Nat, q < i → (rd_T121 l (q : Int)).f0 < a) → (∀ q : Nat, j ≤ q → q < l.length → a ≤ (rd_T121 l (q : Int)).f0) →
    bsF l a m i j ≤ l.length ∧ (∀ q : Nat, q < bsF l a m i j → (rd_T121 l (q : Int)).f0 < a) ∧ ∀ q : Nat, bsF l a m i j ≤ q → q < l.length → a ≤ (rd_T121 l (q : Int)).f0
  | 0, i, j, hij, hj, hm, h1, h2 => by omega
  | m + 1, i, j, hij, hj, hm, h1, h2 => by
    simp only [bsF]
    by_cases hlt : i < j
    · rw [if_pos hlt]
      have hmem := hr _ (rd_mem l ((i + j) / 2) (by omega))
      rw [show wrap64 ((rd_T121 l (((i + j) / 2 : Nat) : Int)).f0 - a) = (rd_T121 l (((i + j) / 2 : Nat) : Int)).f0 - a by unfold wrap64; omega]
      by_cases hc : (rd_T121 l (((i + j) / 2 : Nat) : Int)).f0 - a < 0
      · rw [if_pos hc]
        refine bs_right l a hl hr ha m _ j (by omega) hj (by omega) (fun q hq => ?_) h2
        by_cases he : q = (i + j) / 2
        · rw [he]; omega
        · have := rd_lt l hl q ((i + j) / 2) (by omega) (by omega); omega
      · rw [if_neg hc]
        refine bs_right l a hl hr ha m i _ (by omega) (by omega) (by omega) h1 (fun q hq hql => ?_)
        by_cases he : q = (i + j) / 2
        · rw [he]; omega
        · have := rd_lt l hl ((i + j) / 2) q (by omega) hql; omega
    · rw [if_neg hlt]
      exact ⟨by omega, h1, fun q hq hql => h2 q (by omega) hql⟩
/-- the fault of a block -/
def findF (l : List S121) (a : Int) : Option S121 := l.find? fun x => decide (x.f0 = a)
theorem fault_val (data : List Int) (l : List S121) (a : Int) (hl : l.Pairwise fun x y => x.f0 < y.f0) (hr : ∀ x ∈ l, 0 ≤ x.f0 ∧ x.f0 < 65536) (ha : 0 ≤ a ∧ a < 65536) (hn : l.length ≤ 140737488351232) :
    drive_fault.f data l a = some (match findF l a with | some x => (x.f0, x.f1, x.f2) | none => (0, 0, 0)) := by
  obtain ⟨b1, b2, b3⟩ := bs_right l a hl hr ha (l.length + 1) 0 l.length (by omega) (by omega) (by omega) (fun q hq => by omega) (fun q hq hql => by omega)
  unfold drive_fault.f slices_BinarySearchFunc_faults.f
  rw [if_pos hn, Option.bind_some]
  generalize bsF l a (l.length + 1) 0 l.length = R at b1 b2 b3 ⊢
  simp only
  by_cases hR : R < l.length
  · have hm := hr _ (rd_mem l R hR)
    rw [show wrap64 ((rd_T121 l (R : Int)).f0 - a) = (rd_T121 l (R : Int)).f0 - a by unfold wrap64; omega, decide_eq_true hR, Bool.true_and]
    by_cases he : (rd_T121 l (R : Int)).f0 - a = 0
    · have hf : findF l a = some (rd_T121 l (R : Int)) := by
        unfold findF
        rw [List.find?_eq_some_iff_getElem]
        refine ⟨by simp; omega, R, hR, ?_, fun q hq => ?_⟩
        · unfold rd_T121; rw [Int.toNat_natCast, List.getD_eq_getElem?_getD, List.getElem?_eq_getElem hR]; rfl
        · have h1 := b2 q hq
          unfold rd_T121 at h1
          rw [Int.toNat_natCast, List.getD_eq_getElem?_getD, List.getElem?_eq_getElem (by omega), Option.getD_some] at h1
          simp; omega
      rw [hf, if_pos (decide_eq_true he), if_pos (by omega), if_pos (by omega)]
    · have hf : findF l a = none := by
        unfold findF
        rw [List.find?_eq_none]
        intro x hx
        obtain ⟨q, hq, rfl⟩ := List.getElem_of_mem hx
        have hrd : rd_T121 l (q : Int) = l[q] := by unfold rd_T121; rw [Int.toNat_natCast, List.getD_eq_getElem?_getD, List.getElem?_eq_getElem hq]; rfl
        rw [← hrd]
        simp only [decide_eq_true_eq]
        intro hqa
        rcases Nat.lt_trichotomy q R with h | h | h
        · have := b2 q h; omega
        · subst h; omega
        · have h1 := rd_lt l hl R q h hq
          have := b3 R (Nat.le_refl _) hR
          omega
      rw [hf, if_neg (by simpa using he)]
  · have hf : findF l a = none := by
      unfold findF
      rw [List.find?_eq_none]
      intro x hx
      obtain ⟨q, hq, rfl⟩ := List.getElem_of_mem hx
      have hrd : rd_T121 l (q : Int) = l[q] := by unfold rd_T121; rw [Int.toNat_natCast, List.getD_eq_getElem?_getD, List.getElem?_eq_getElem hq]; rfl
      rw [← hrd]
      simp only [decide_eq_true_eq]
      have := b2 q (by omega)
      omega
    rw [hf, decide_eq_false hR, Bool.false_and, if_neg (by decide)]
/-- need and cost of a block -/
def needs (l : List S121) (a : Int) : Int × Int := match findF l a with | some x => (if x.f1 = 1 then (0, 1) else if x.f1 = 2 then (x.f2, 1) else (1, x.f2)) | none => (1, 1)
theorem needs_l0 (l : List S121) (a : Int) (hk : ∀ x ∈ l, 1 ≤ x.f1 ∧ x.f1 ≤ 3) (hn : l.length ≤ 4611686018427387904) : ∀ (d i : Nat), i + d = l.length →
    Ev (fun k => wrackref1_Needs.l0 k a l (l.length : Int) (i : Int)) (match findF (l.drop i) a with | some x => (if x.f1 = 1 then (0, 1) else if x.f1 = 2 then (x.f2, 1) else (1, x.f2)) | none => (1, 1))
  | 0, i, hi => by
    refine Ev.step (f := fun _ => some _) (fun k => ?_) (Ev.now _)
    simp only [wrackref1_Needs.l0]
    rw [if_neg (by omega), List.drop_of_length_le (by omega)]; rfl
  | d + 1, i, hi => by
    have hkx := hk _ (rd_mem l i (by omega))
    rw [drop_fault l i (by omega)]
    generalize hx : rd_T121 l (i : Int) = x at hkx ⊢
    have hu := up i l.length (by omega) hn
    by_cases h1 : x.f0 = a
    · have hf : findF (x :: l.drop (i + 1)) a = some x := by unfold findF; rw [List.find?_cons_of_pos (by simp [h1])]
      rw [hf]
      refine Ev.step (f := fun _ => some _) (fun k => ?_) (Ev.now _)
      simp only [wrackref1_Needs.l0]
      rw [if_pos (by omega), if_pos (by omega), if_pos (by omega), hx, if_pos h1, Option.bind_some, if_pos (by omega), if_pos (by simp; omega), Option.bind_some, if_pos (by simp; omega)]
      have h3 : x.f1 = 1 ∨ x.f1 = 2 ∨ x.f1 = 3 := by omega
      rcases h3 with h3 | h3 | h3
      · rw [h3]; rfl
      · rw [h3]; rfl
      · rw [h3]; rfl
    · have hf : findF (x :: l.drop (i + 1)) a = findF (l.drop (i + 1)) a := by unfold findF; rw [List.find?_cons_of_neg (by simp [h1])]
      rw [hf]
      refine Ev.step (fun k => ?_) (needs_l0 l a hk hn d (i + 1) (by omega))
      simp only [wrackref1_Needs.l0]
      rw [if_pos (by omega), if_pos (by omega), if_pos (by omega), hx, if_neg h1, hu]
theorem needs_ev (data : List Int) (l : List S121) (a : Int) (hk : ∀ x ∈ l, 1 ≤ x.f1 ∧ x.f1 ≤ 3) (hn : l.length ≤ 4611686018427387904) :
    Ev (fun k => wrackref1_Needs.f k data l a) (needs l a) :=
  needs_l0 l a hk hn l.length 0 (by omega)
theorem equalB_l0 (xs : List Int) (hn : xs.length ≤ 4611686018427387904) : ∀ (d i : Nat), i + d = xs.length →
    Ev (fun k => slices_Equal_byte_byte.l0 k xs xs (xs.length : Int) (i : Int)) true
  | 0, i, hi => by
    refine Ev.step (f := fun _ => some _) (fun k => ?_) (Ev.now _)
    simp only [slices_Equal_byte_byte.l0]
    rw [if_neg (by omega)]
  | d + 1, i, hi => by
    refine Ev.step (fun k => ?_) (equalB_l0 xs hn d (i + 1) (by omega))
    simp only [slices_Equal_byte_byte.l0]
    rw [if_pos (by omega), if_pos (by omega), if_pos (by omega), if_pos (by omega), up i xs.length (by omega) hn]
    simp
theorem equalB_ev (xs : List Int) (hn : xs.length ≤ 4611686018427387904) : Ev (fun k => slices_Equal_byte_byte.f k xs xs) true := by
  refine Ev.congr (fun k => ?_) (equalB_l0 xs hn xs.length 0 (by omega))
  unfold slices_Equal_byte_byte.f
  rw [if_pos rfl]; rfl
/-- the answer, for a right drive, of a block that is there -/
theorem ans_val (data : List Int) (l : List S121) (a t : Int) (hR : RightF ((data.length : Int) / 64) l) (hd : (data.length : Int) ≤ 65536) (ha : 0 ≤ a ∧ a < (data.length : Int) / 64) (ht : 1 ≤ t) (hn : l.length ≤ 140737488351232) :
    ansOf data l a t = some (if (needs l a).1 = 0 ∨ t < (needs l a).1 then ([], (needs l a).2, 19) else ((data.take ((a + 1) * 64).toNat).drop (a * 64).toNat, (needs l a).2, 0)) := by
  unfold ansOf
  rw [fault_val data l a hR.order (fun x hx => by have := hR.range x hx; omega) (by omega) hn, Option.bind_some]
  unfold needs
  cases hf : findF l a with
  | none =>
    have ht2 : ¬ t < 1 := by omega
    simp [ansBad, ansTime, ht2]
  | some x =>
    have hx : x ∈ l := List.mem_of_find?_eq_some hf
    have hk := hR.kind x hx
    have hb := hR.num x hx
    unfold badN at hb
    have h3 : x.f1 = 1 ∨ x.f1 = 2 ∨ x.f1 = 3 := by omega
    have ht2 : ¬ t < 1 := by omega
    rcases h3 with h3 | h3 | h3
    · simp [ansBad, ansTime, h3]
    · have h0 : ¬ x.f2 = 0 := by omega
      by_cases hlt : t < x.f2
      · simp [ansBad, ansTime, h3, hlt]
      · simp [ansBad, ansTime, h3, hlt, h0]
    · simp [ansBad, ansTime, h3, ht2]
/-- the answer at all inputs -/
def ansD (data : List Int) (l : List S121) (a t : Int) : List Int × Int × Int :=
  if errD data l = 0 then (if a < 0 ∨ a ≥ (data.length : Int) / 64 then ([], 0, 4) else if t < 1 then ([], 0, 1) else
    if (needs l a).1 = 0 ∨ t < (needs l a).1 then ([], (needs l a).2, 19) else ((data.take ((a + 1) * 64).toNat).drop (a * 64).toNat, (needs l a).2, 0))
  else ([], 0, errD data l)
theorem err_right (data : List Int) (l : List S121) (h : errD data l = 0) : (data.length : Int) ≤ 65536 ∧ (data.length : Int) % 64 = 0 ∧ RightF ((data.length : Int) / 64) l := by
  unfold errD at h
  by_cases h1 : (data.length : Int) > 65536
  · rw [if_pos h1] at h; omega
  · rw [if_neg h1] at h
    by_cases h2 : (data.length : Int) % 64 = 0
    · rw [if_pos h2] at h
      exact ⟨by omega, h2, (right_of l _ _ h).1⟩
    · rw [if_neg h2] at h; omega
theorem answer_ev (data : List Int) (l : List S121) (a t : Int) (hd : data.length ≤ 140737488351232) (hn : l.length ≤ 140737488351232) : Ev (fun k => drive_Answer.f k data l a t) (ansD data l a t) := by
  unfold drive_Answer.f
  refine Ev.bind (check_ev data l (by omega)) ?_
  refine Ev.congr (fun k => if_pos hd) ?_
  by_cases h0 : errD data l = 0
  · refine Ev.congr (fun k => if_pos h0) ?_
    obtain ⟨e1, e2, e3⟩ := err_right data l h0
    by_cases h1 : a < 0
    · have hv : ansD data l a t = ([], 0, 4) := by unfold ansD; rw [if_pos h0, if_pos (Or.inl h1)]
      rw [hv]; exact Ev.congr (fun k => if_pos h1) (Ev.now _)
    · refine Ev.congr (fun k => if_neg h1) ?_
      by_cases h2 : a ≥ (data.length : Int) / 64
      · have hv : ansD data l a t = ([], 0, 4) := by unfold ansD; rw [if_pos h0, if_pos (Or.inr h2)]
        rw [hv]; exact Ev.congr (fun k => if_pos h2) (Ev.now _)
      · refine Ev.congr (fun k => if_neg h2) ?_
        by_cases h3 : t < 1
        · have hv : ansD data l a t = ([], 0, 1) := by unfold ansD; rw [if_pos h0, if_neg (by omega), if_pos h3]
          rw [hv]; exact Ev.congr (fun k => if_pos h3) (Ev.now _)
        · refine Ev.congr (fun k => if_neg h3) ?_
          have hv : ansD data l a t = (if (needs l a).1 = 0 ∨ t < (needs l a).1 then ([], (needs l a).2, 19) else ((data.take ((a + 1) * 64).toNat).drop (a * 64).toNat, (needs l a).2, 0)) := by unfold ansD; rw [if_pos h0, if_neg (by omega), if_neg h3]
          rw [hv, ans_val data l a t e3 e1 (by omega) (by omega) hn]
          exact Ev.now _
  · have hv : ansD data l a t = ([], 0, errD data l) := by unfold ansD; rw [if_neg h0]
    rw [hv]
    exact Ev.congr (fun k => if_neg h0) (Ev.now _)
theorem drives_ev : Ev (fun k => wracklaw1_drives.f k) true := by
  have e1 := answer_ev (List.replicate 64 0) [⟨0, 2, 2⟩] 0 1 (by simp) (by simp)
  have e2 := answer_ev (List.replicate 64 0) [⟨0, 2, 2⟩] 0 2 (by simp) (by simp)
  have herr : errD (List.replicate 64 0) [⟨0, 2, 2⟩] = 0 := by decide
  have hnd : needs [⟨0, 2, 2⟩] 0 = (2, 1) := by decide
  have v1 : ansD (List.replicate 64 0) [⟨0, 2, 2⟩] 0 1 = ([], 1, 19) := by
    unfold ansD; rw [if_pos herr, hnd, if_neg (by simp), if_neg (by omega), if_pos (by omega)]
  have v2 : ansD (List.replicate 64 0) [⟨0, 2, 2⟩] 0 2 = (List.replicate 64 0, 1, 0) := by
    unfold ansD; rw [if_pos herr, hnd, if_neg (by simp), if_neg (by omega), if_neg (by omega)]; rfl
  rw [v1] at e1
  rw [v2] at e2
  have hw : wracklaw1_weak.f = some (List.replicate 64 0, [⟨0, 2, 2⟩]) := by unfold wracklaw1_weak.f; rw [if_pos (by decide)]
  unfold wracklaw1_drives.f
  refine Ev.congr (fun k => by rw [hw, Option.bind_some]) ?_
  refine Ev.bind e1 ?_
  refine Ev.congr (f := fun k => (drive_Answer.f k (List.replicate 64 0) [⟨0, 2, 2⟩] 0 2).bind fun bt137 => (if (19 : Int) = 19 then (if (([] : List Int).length : Int) = 0 then (if bt137.2.2 = 0 then (some ((bt137.1.length : Int) == 64)) else (some false)) else (some false)) else (some false))) (fun k => by rw [Option.bind_some]) ?_
  refine Ev.bind e2 ?_
  exact Ev.congr (f := fun _ => some true) (fun k => by simp) (Ev.now _)
theorem j2_ev (data : List Int) (l : List S121) (a t : Int) (b : List Int) (time e x10 : Int)
    (h : (x10 = 0 ∧ (errD data l = 0 ∧ ¬ (a < 0 ∨ a ≥ (data.length : Int) / 64) ∧ 1 ≤ t ∧ (b, time, e) = (if (needs l a).1 = 0 ∨ t < (needs l a).1 then ([], (needs l a).2, 19) else ((data.take ((a + 1) * 64).toNat).drop (a * 64).toNat, (needs l a).2, 0)))) ∨ (x10 ≠ 0 ∧ b = [] ∧ time = 0 ∧ e = x10)) (hn : l.length ≤ 140737488351232) :
    Ev (fun k => wracklaw1_DriveAnswers.j2 k a t b time e x10 data l) true := by
  rcases h with ⟨h0, he, hr, ht, hb⟩ | ⟨h0, rfl, rfl, rfl⟩
  · obtain ⟨e1, e2, e3⟩ := err_right data l he
    refine Ev.step (f := fun k => (wrackref1_Needs.f k data l a).bind fun bt164 => (if bt164.1 = 0 then (if e = 19 then (if (b.length : Int) = 0 then (some (time == bt164.2)) else (some false)) else (some false)) else (if t < bt164.1 then (if e = 19 then (if (b.length : Int) = 0 then (some (time == bt164.2)) else (some false)) else (some false)) else (if e = 0 then (if time = bt164.2 then (if 0 ≤ (wrap64 (64 * a)) then (if (wrap64 (64 * a)) ≤ (wrap64 ((wrap64 (64 * a)) + 64)) then (if (wrap64 ((wrap64 (64 * a)) + 64)) ≤ (data.length : Int) then ((slices_Equal_byte_byte.f k b ((data.take ((wrap64 ((wrap64 (64 * a)) + 64)) : Int).toNat).drop ((wrap64 (64 * a)) : Int).toNat)).bind fun t167 => (some t167)) else (none)) else (none)) else (none)) else (some false)) else (some false))))) (fun k => ?_) ?_
    · simp only [wracklaw1_DriveAnswers.j2]
      rw [if_pos h0]
    · refine Ev.bind (needs_ev data l a e3.kind (by omega)) ?_
      by_cases h1 : (needs l a).1 = 0
      · rw [if_pos (Or.inl h1)] at hb
        simp only [Prod.mk.injEq] at hb
        obtain ⟨rfl, rfl, rfl⟩ := hb
        exact Ev.congr (f := fun _ => some true) (fun k => by simp [h1]) (Ev.now _)
      · refine Ev.congr (fun k => if_neg h1) ?_
        by_cases h2 : t < (needs l a).1
        · rw [if_pos (Or.inr h2)] at hb
          simp only [Prod.mk.injEq] at hb
          obtain ⟨rfl, rfl, rfl⟩ := hb
          refine Ev.congr (fun k => if_pos h2) ?_
          exact Ev.congr (f := fun _ => some true) (fun k => by simp) (Ev.now _)
        · rw [if_neg (by omega)] at hb
          simp only [Prod.mk.injEq] at hb
          obtain ⟨rfl, rfl, rfl⟩ := hb
          have w1 : wrap64 (64 * a) = a * 64 := by unfold wrap64; omega
          have w2 : wrap64 (a * 64 + 64) = (a + 1) * 64 := by unfold wrap64; omega
          refine Ev.congr (fun k => if_neg h2) ?_
          refine Ev.congr (f := fun k => (slices_Equal_byte_byte.f k ((data.take ((a + 1) * 64).toNat).drop (a * 64).toNat) ((data.take ((a + 1) * 64).toNat).drop (a * 64).toNat)).bind fun t167 => some t167) (fun k => ?_) ?_
          · rw [if_pos rfl, if_pos rfl, w1, w2, if_pos (by omega), if_pos (by omega), if_pos (by omega)]
          · exact Ev.bind (f := fun _ t => some t) (equalB_ev _ (by simp; omega)) (Ev.now true)
  · refine Ev.step (f := fun _ => some true) (fun k => ?_) (Ev.now _)
    simp only [wracklaw1_DriveAnswers.j2]
    simp [h0]
theorem DriveAnswers (data : List Int) (l : List S121) (a t : Int) (hd : data.length ≤ 140737488351232) (hn : l.length ≤ 140737488351232) : ∃ k, wracklaw1_DriveAnswers.f k data l a t = some true := by
  apply Ev.rounds
  unfold wracklaw1_DriveAnswers.f
  refine Ev.bind (answer_ev data l a t hd hn) ?_
  refine Ev.bind (derr_ev data l (by omega)) ?_
  refine Ev.bind drives_ev ?_
  refine Ev.congr (fun k => if_pos rfl) ?_
  refine Ev.bind (check_ev data l (by omega)) ?_
  have hj0 : Ev (fun k => wracklaw1_DriveAnswers.j0 k a t (ansD data l a t).1 (ansD data l a t).2.1 (ansD data l a t).2.2 (errD data l) false data l) true := by
    by_cases h0 : errD data l = 0
    · obtain ⟨e1, e2, e3⟩ := err_right data l h0
      have hw : wrap64 ((data.length : Int) / 64) = (data.length : Int) / 64 := by unfold wrap64; omega
      have hj1 : ∀ b, b = decide (a < 0 ∨ a ≥ (data.length : Int) / 64) → Ev (fun k => wracklaw1_DriveAnswers.j1 k a t (ansD data l a t).1 (ansD data l a t).2.1 (ansD data l a t).2.2 0 b data l) true := by
        rintro b rfl
        unfold ansD
        rw [if_pos h0]
        by_cases h1 : a < 0 ∨ a ≥ (data.length : Int) / 64
        · rw [if_pos h1, decide_eq_true h1]
          refine Ev.step (fun k => ?_) (j2_ev data l a t [] 0 4 4 (Or.inr ⟨by omega, rfl, rfl, rfl⟩) hn)
          simp only [wracklaw1_DriveAnswers.j1, if_true]
        · rw [if_neg h1, decide_eq_false h1]
          by_cases h2 : t < 1
          · rw [if_pos h2]
            refine Ev.step (fun k => ?_) (j2_ev data l a t [] 0 1 1 (Or.inr ⟨by omega, rfl, rfl, rfl⟩) hn)
            simp only [wracklaw1_DriveAnswers.j1]
            rw [if_neg (by decide), if_pos (by omega)]
          · rw [if_neg h2]
            obtain ⟨p, hp⟩ : ∃ p : List Int × Int × Int, (if (needs l a).1 = 0 ∨ t < (needs l a).1 then (([] : List Int), (needs l a).2, (19 : Int)) else ((data.take ((a + 1) * 64).toNat).drop (a * 64).toNat, (needs l a).2, 0)) = p := ⟨_, rfl⟩
            rw [hp]
            obtain ⟨p1, p2, p3⟩ := p
            refine Ev.step (fun k => ?_) (j2_ev data l a t p1 p2 p3 0 (Or.inl ⟨rfl, h0, h1, by omega, hp.symm⟩) hn)
            simp only [wracklaw1_DriveAnswers.j1]
            rw [if_neg (by decide), if_neg (by omega)]
      by_cases h1 : a < 0
      · refine Ev.step (fun k => ?_) (hj1 true (by simp [h1]))
        simp only [wracklaw1_DriveAnswers.j0]
        rw [if_neg (by decide), h0, if_pos rfl, if_pos h1]
      · refine Ev.step (fun k => ?_) (hj1 (decide (a ≥ (data.length : Int) / 64)) (decide_eq_decide.2 (by omega)))
        simp only [wracklaw1_DriveAnswers.j0]
        rw [if_neg (by decide), h0, if_pos rfl, if_neg h1, hw]
    · have ha : ansD data l a t = ([], 0, errD data l) := by unfold ansD; rw [if_neg h0]
      rw [ha]
      refine Ev.step (fun k => ?_) (j2_ev data l a t [] 0 (errD data l) (errD data l) (Or.inr ⟨h0, rfl, rfl, rfl⟩) hn)
      simp only [wracklaw1_DriveAnswers.j0]
      rw [if_neg (by decide), if_neg h0]
  exact Ev.congr (fun k => by rw [show (errD data l != errD data l) = false by simp]) hj0
end Go.Proofs.Ytdgkbpoljcndgaa.Pure
