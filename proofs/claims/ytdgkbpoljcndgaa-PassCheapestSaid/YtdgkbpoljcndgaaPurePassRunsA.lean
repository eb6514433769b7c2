/- A drive that is read by a plan: what an attempt does, in plain Lean; the job of the program, its places. No condition. -/
import Derived.Test.YtdgkbpoljcndgaaQPassRunsx
import Derived.WalkLawsBesides
import Derived.LoopN
namespace Go.Proofs.Ytdgkbpoljcndgaa.Pure
open Go Go.RowKit Go.Maps Go.Proofs.Ytdgkbpoljcndgaa.QPassRuns Go.Proofs.YtdgkbpoljcndgaaW.PrintWords Go.Proofs.YtdgkbpoljcndgaaW.PrintLast Go.Proofs.YtdgkbpoljcndgaaW.PrintMore
set_option linter.unusedVariables false
set_option linter.unusedSimpArgs false
theorem drop_fault (l : List S121) (i : Nat) (h : i < l.length) : l.drop i = rd_T121 l (i : Int) :: l.drop (i + 1) := by
  rw [List.drop_eq_getElem_cons h]
  simp [rd_T121, List.getD_eq_getElem?_getD, h]
theorem up (i n : Nat) (h : i < n) (hn : n ≤ 4611686018427387904) : wrap64 ((i : Int) + 1) = ((i + 1 : Nat) : Int) := by unfold wrap64; omega
/-- a fault's number is wrong -/
def badN (x : S121) : Prop := (x.f1 = 1 ∧ x.f2 ≠ 0) ∨ (x.f1 = 2 ∧ (x.f2 < 2 ∨ x.f2 > 16)) ∨ (x.f1 = 3 ∧ (x.f2 < 2 ∨ x.f2 > 100))
instance (x : S121) : Decidable (badN x) := by unfold badN; exact inferInstance
/-- the first error of faults, behind one of the block 'last' -/
def errF (n : Int) : Int → List S121 → Int
  | _, [] => 0
  | last, x :: l => if x.f0 < 0 ∨ x.f0 ≥ n then 4 else if x.f0 ≤ last then 11 else if ¬ (1 ≤ x.f1 ∧ x.f1 ≤ 3) then 1 else if badN x then 4 else errF n x.f0 l
def errD (data : List Int) (l : List S121) : Int := if (data.length : Int) > 65536 then 2 else if (data.length : Int) % 64 = 0 then errF ((data.length : Int) / 64) (-1) l else 3
theorem check_l0 (data : List Int) (l : List S121) (hd : (data.length : Int) ≤ 65536) (hn : l.length ≤ 4611686018427387904) : ∀ (d i : Nat) (last : Int), i + d = l.length →
    Ev (fun k => drive_Check.l0 k last l (l.length : Int) (i : Int) data l) (errF ((data.length : Int) / 64) last (l.drop i))
  | 0, i, last, hi => by
    refine Ev.step (f := fun _ => some _) (fun k => ?_) (Ev.now _)
    simp only [drive_Check.l0]
    rw [if_neg (by omega), List.drop_of_length_le (by omega)]; rfl
  | d + 1, i, last, hi => by
    have hw : wrap64 ((data.length : Int) / 64) = (data.length : Int) / 64 := by unfold wrap64; omega
    have ih := check_l0 data l hd hn d (i + 1)
    rw [drop_fault l i (by omega)]
    generalize hx : rd_T121 l (i : Int) = x
    have hu := up i l.length (by omega) hn
    unfold errF
    have j1 : ∀ b, b = decide (x.f0 < 0 ∨ x.f0 ≥ (data.length : Int) / 64) → Ev (fun k => drive_Check.j1 k last l (l.length : Int) (i : Int) b data l x.f0 x.f1 x.f2) (if x.f0 < 0 ∨ x.f0 ≥ (data.length : Int) / 64 then 4 else if x.f0 ≤ last then 11 else if ¬ (1 ≤ x.f1 ∧ x.f1 ≤ 3) then 1 else if badN x then 4 else errF ((data.length : Int) / 64) x.f0 (l.drop (i + 1))) := by
      rintro b rfl
      by_cases h1 : x.f0 < 0 ∨ x.f0 ≥ (data.length : Int) / 64
      · rw [if_pos h1, decide_eq_true h1]
        refine Ev.step (f := fun _ => some _) (fun k => ?_) (Ev.now _)
        simp only [drive_Check.j1, if_true]
      · rw [if_neg h1, decide_eq_false h1]
        by_cases h2 : x.f0 ≤ last
        · rw [if_pos h2]
          refine Ev.step (f := fun _ => some _) (fun k => ?_) (Ev.now _)
          simp only [drive_Check.j1]
          rw [if_neg (by decide), if_pos h2]
        · rw [if_neg h2]
          have j2 : ∀ b, b = decide (¬ (1 ≤ x.f1 ∧ x.f1 ≤ 3)) → Ev (fun k => drive_Check.j2 k l (l.length : Int) (i : Int) b data l x.f0 x.f1 x.f2) (if ¬ (1 ≤ x.f1 ∧ x.f1 ≤ 3) then 1 else if badN x then 4 else errF ((data.length : Int) / 64) x.f0 (l.drop (i + 1))) := by
            rintro b rfl
            by_cases h3 : ¬ (1 ≤ x.f1 ∧ x.f1 ≤ 3)
            · rw [if_pos h3, decide_eq_true h3]
              refine Ev.step (f := fun _ => some _) (fun k => ?_) (Ev.now _)
              simp only [drive_Check.j2, if_true]
            · rw [if_neg h3, decide_eq_false h3]
              have j4 : ∀ b, b = decide (x.f1 = 1 ∧ x.f2 ≠ 0 ∨ x.f1 = 2 ∧ (x.f2 < 2 ∨ x.f2 > 16)) → Ev (fun k => drive_Check.j4 k l (l.length : Int) (i : Int) b data l x.f0 x.f1 x.f2) (if badN x then 4 else errF ((data.length : Int) / 64) x.f0 (l.drop (i + 1))) := by
                rintro b rfl
                by_cases h4 : x.f1 = 1 ∧ x.f2 ≠ 0 ∨ x.f1 = 2 ∧ (x.f2 < 2 ∨ x.f2 > 16)
                · rw [decide_eq_true h4, if_pos (by unfold badN; omega)]
                  refine Ev.step (f := fun _ => some _) (fun k => ?_) (Ev.now _)
                  simp only [drive_Check.j4, if_true]
                · rw [decide_eq_false h4]
                  by_cases h5 : x.f1 = 3
                  · by_cases h6 : x.f2 < 2
                    · rw [if_pos (by unfold badN; omega)]
                      refine Ev.step (f := fun _ => some _) (fun k => ?_) (Ev.now _)
                      simp only [drive_Check.j4]
                      rw [if_neg (by decide), if_pos h5, if_pos h6]
                    · by_cases h7 : x.f2 > 100
                      · rw [if_pos (by unfold badN; omega)]
                        refine Ev.step (f := fun _ => some _) (fun k => ?_) (Ev.now _)
                        simp only [drive_Check.j4]
                        rw [if_neg (by decide), if_pos h5, if_neg h6, if_pos h7]
                      · rw [if_neg (by unfold badN; omega)]
                        refine Ev.step (fun k => ?_) (ih x.f0 (by omega))
                        simp only [drive_Check.j4]
                        rw [if_neg (by decide), if_pos h5, if_neg h6, if_neg h7, hu]
                  · rw [if_neg (by unfold badN; omega)]
                    refine Ev.step (fun k => ?_) (ih x.f0 (by omega))
                    simp only [drive_Check.j4]
                    rw [if_neg (by decide), if_neg h5, hu]
              have j3 : ∀ b, b = decide (x.f1 = 1 ∧ x.f2 ≠ 0) → Ev (fun k => drive_Check.j3 k l (l.length : Int) (i : Int) b data l x.f0 x.f1 x.f2) (if badN x then 4 else errF ((data.length : Int) / 64) x.f0 (l.drop (i + 1))) := by
                rintro b rfl
                by_cases h4 : x.f1 = 1 ∧ x.f2 ≠ 0
                · rw [decide_eq_true h4, if_pos (by unfold badN; omega)]
                  refine Ev.step (f := fun _ => some _) (fun k => ?_) (Ev.now _)
                  simp only [drive_Check.j3, if_true]
                · rw [decide_eq_false h4]
                  by_cases h5 : x.f1 = 2
                  · by_cases h6 : x.f2 < 2
                    · refine Ev.step (fun k => ?_) (j4 true (by simp; omega))
                      simp only [drive_Check.j3]
                      rw [if_neg (by decide), if_pos h5, if_pos h6]
                    · refine Ev.step (fun k => ?_) (j4 (decide (x.f2 > 16)) (decide_eq_decide.2 (by omega)))
                      simp only [drive_Check.j3]
                      rw [if_neg (by decide), if_pos h5, if_neg h6]
                  · refine Ev.step (fun k => ?_) (j4 false (by simp; omega))
                    simp only [drive_Check.j3]
                    rw [if_neg (by decide), if_neg h5]
              by_cases h4 : x.f1 = 1
              · refine Ev.step (fun k => ?_) (j3 (x.f2 != 0) (by rw [Bool.eq_iff_iff]; simp [h4]))
                simp only [drive_Check.j2]
                rw [if_neg (by decide), if_pos h4]
              · refine Ev.step (fun k => ?_) (j3 false (by simp [h4]))
                simp only [drive_Check.j2]
                rw [if_neg (by decide), if_neg h4]
          by_cases h3 : x.f1 < 1
          · refine Ev.step (fun k => ?_) (j2 true (by simp; omega))
            simp only [drive_Check.j1]
            rw [if_neg (by decide), if_neg h2, if_pos h3]
          · refine Ev.step (fun k => ?_) (j2 (decide (x.f1 > 3)) (decide_eq_decide.2 (by omega)))
            simp only [drive_Check.j1]
            rw [if_neg (by decide), if_neg h2, if_neg h3]
    by_cases h1 : x.f0 < 0
    · refine Ev.step (fun k => ?_) (j1 true (by simp [h1]))
      simp only [drive_Check.l0]
      rw [if_pos (by omega), if_pos (by omega), if_pos (by omega), hx, if_pos h1]
    · refine Ev.step (fun k => ?_) (j1 (decide (x.f0 ≥ (data.length : Int) / 64)) (decide_eq_decide.2 (by omega)))
      simp only [drive_Check.l0]
      rw [if_pos (by omega), if_pos (by omega), if_pos (by omega), hx, if_neg h1, hw]
theorem check_ev (data : List Int) (l : List S121) (hn : l.length ≤ 4611686018427387904) : Ev (fun k => drive_Check.f k data l) (errD data l) := by
  unfold drive_Check.f errD
  by_cases h1 : (data.length : Int) > 65536
  · rw [if_pos h1]; exact Ev.congr (fun k => if_pos h1) (Ev.now _)
  · rw [if_neg h1]
    refine Ev.congr (fun k => if_neg h1) ?_
    by_cases h2 : (data.length : Int) % 64 = 0
    · rw [if_pos h2]
      refine Ev.congr (fun k => if_pos h2) ?_
      exact check_l0 data l (by omega) hn l.length 0 (-1) (by omega)
    · rw [if_neg h2]; exact Ev.congr (fun k => if_neg h2) (Ev.now _)
def lastF (l : List S121) (i : Nat) : Int := if i = 0 then -1 else (rd_T121 l ((i : Int) - 1)).f0
theorem derr_l0 (data : List Int) (l : List S121) (hd : (data.length : Int) ≤ 65536) (hn : l.length ≤ 4611686018427387904) : ∀ (d i : Nat), i + d = l.length →
    Ev (fun k => wrackref1_DriveErr.l0 k l (l.length : Int) (i : Int) data l) (errF ((data.length : Int) / 64) (lastF l i) (l.drop i))
  | 0, i, hi => by
    refine Ev.step (f := fun _ => some _) (fun k => ?_) (Ev.now _)
    simp only [wrackref1_DriveErr.l0]
    rw [if_neg (by omega), List.drop_of_length_le (by omega)]; rfl
  | d + 1, i, hi => by
    have hw : wrap64 ((data.length : Int) / 64) = (data.length : Int) / 64 := by unfold wrap64; omega
    have hw1 : wrap64 ((data.length : Int) / 64 - 1) = (data.length : Int) / 64 - 1 := by unfold wrap64; omega
    have ih := derr_l0 data l hd hn d (i + 1) (by omega)
    have hl1 : lastF l (i + 1) = (rd_T121 l (i : Int)).f0 := by
      unfold lastF
      rw [if_neg (by omega), show ((i + 1 : Nat) : Int) - 1 = (i : Int) by omega]
    rw [hl1] at ih
    rw [drop_fault l i (by omega)]
    generalize hx : rd_T121 l (i : Int) = x at ih ⊢
    have hu := up i l.length (by omega) hn
    unfold errF
    have j2 : ¬ (x.f0 < 0 ∨ x.f0 ≥ (data.length : Int) / 64) → ∀ b, b = decide (x.f0 ≤ lastF l i) → Ev (fun k => wrackref1_DriveErr.j2 k l (l.length : Int) (i : Int) b data l x.f0 x.f1 x.f2) (if x.f0 ≤ lastF l i then 11 else if ¬ (1 ≤ x.f1 ∧ x.f1 ≤ 3) then 1 else if badN x then 4 else errF ((data.length : Int) / 64) x.f0 (l.drop (i + 1))) := by
      rintro h0 b rfl
      by_cases h2 : x.f0 ≤ lastF l i
      · rw [if_pos h2, decide_eq_true h2]
        refine Ev.step (f := fun _ => some _) (fun k => ?_) (Ev.now _)
        simp only [wrackref1_DriveErr.j2, if_true]
      · rw [if_neg h2, decide_eq_false h2]
        by_cases h3 : ¬ (1 ≤ x.f1 ∧ x.f1 ≤ 3)
        · rw [if_pos h3]
          refine Ev.step (f := fun _ => some _) (fun k => ?_) (Ev.now _)
          simp only [wrackref1_DriveErr.j2]
          rw [if_neg (by decide), if_neg (by omega), if_neg (by omega), if_neg (by omega)]
        · rw [if_neg h3]
          by_cases h4 : badN x
          · rw [if_pos h4]
            refine Ev.step (f := fun _ => some _) (fun k => ?_) (Ev.now _)
            unfold badN at h4
            simp only [wrackref1_DriveErr.j2]
            rw [if_neg (by decide)]
            repeat' split
            all_goals first | rfl | omega
          · rw [if_neg h4]
            refine Ev.step (fun k => ?_) ih
            unfold badN at h4
            simp only [wrackref1_DriveErr.j2]
            rw [if_neg (by decide), hu]
            repeat' split
            all_goals first | rfl | (exfalso; omega)
    have j1 : ∀ b, b = decide (x.f0 < 0 ∨ x.f0 ≥ (data.length : Int) / 64) → Ev (fun k => wrackref1_DriveErr.j1 k (i : Int) l (l.length : Int) (i : Int) b data l x.f0 x.f1 x.f2) (if x.f0 < 0 ∨ x.f0 ≥ (data.length : Int) / 64 then 4 else if x.f0 ≤ lastF l i then 11 else if ¬ (1 ≤ x.f1 ∧ x.f1 ≤ 3) then 1 else if badN x then 4 else errF ((data.length : Int) / 64) x.f0 (l.drop (i + 1))) := by
      rintro b rfl
      by_cases h1 : x.f0 < 0 ∨ x.f0 ≥ (data.length : Int) / 64
      · rw [if_pos h1, decide_eq_true h1]
        refine Ev.step (f := fun _ => some _) (fun k => ?_) (Ev.now _)
        simp only [wrackref1_DriveErr.j1, if_true]
      · rw [if_neg h1, decide_eq_false h1]
        by_cases hi0 : i = 0
        · refine Ev.step (fun k => ?_) (j2 h1 false (by unfold lastF; rw [if_pos hi0]; simp; omega))
          simp only [wrackref1_DriveErr.j1]
          rw [if_neg (by decide), if_neg (by omega)]
        · refine Ev.step (fun k => ?_) (j2 h1 (decide ((rd_T121 l ((i : Int) - 1)).f0 ≥ x.f0)) (by unfold lastF; rw [if_neg hi0]))
          simp only [wrackref1_DriveErr.j1]
          rw [if_neg (by decide), if_pos (by omega), show wrap64 ((i : Int) - 1) = (i : Int) - 1 by unfold wrap64; omega, if_pos (by omega), if_pos (by omega)]
    by_cases h1 : x.f0 < 0
    · refine Ev.step (fun k => ?_) (j1 true (by simp [h1]))
      simp only [wrackref1_DriveErr.l0]
      rw [if_pos (by omega), if_pos (by omega), if_pos (by omega), hx, if_pos h1]
    · refine Ev.step (fun k => ?_) (j1 (decide (x.f0 > (data.length : Int) / 64 - 1)) (decide_eq_decide.2 (by omega)))
      simp only [wrackref1_DriveErr.l0]
      rw [if_pos (by omega), if_pos (by omega), if_pos (by omega), hx, if_neg h1, hw, hw1]
theorem derr_ev (data : List Int) (l : List S121) (hn : l.length ≤ 4611686018427387904) : Ev (fun k => wrackref1_DriveErr.f k data l) (errD data l) := by
  unfold wrackref1_DriveErr.f errD
  by_cases h1 : (data.length : Int) > 65536
  · rw [if_pos h1]; exact Ev.congr (fun k => if_pos h1) (Ev.now _)
  · rw [if_neg h1]
    refine Ev.congr (fun k => if_neg h1) ?_
    by_cases h2 : (data.length : Int) % 64 = 0
    · rw [if_pos h2]
      refine Ev.congr (fun k => if_neg (by omega)) ?_
      exact derr_l0 data l (by omega) hn l.length 0 (by omega)
    · rw [if_neg h2]; exact Ev.congr (fun k => if_pos (by omega)) (Ev.now _)
/-- what right faults are -/
structure RightF (n : Int) (l : List S121) : Prop where
  range : ∀ x ∈ l, 0 ≤ x.f0 ∧ x.f0 < n
  order : l.Pairwise fun x y => x.f0 < y.f0
  kind : ∀ x ∈ l, 1 ≤ x.f1 ∧ x.f1 ≤ 3
  num : ∀ x ∈ l, ¬ badN x
theorem right_of : ∀ (l : List S121) (n last : Int), errF n last l = 0 → RightF n l ∧ ∀ x ∈ l, last < x.f0
  | [], n, last, _ => ⟨⟨by simp, List.Pairwise.nil, by simp, by simp⟩, by simp⟩
  | x :: l, n, last, h => by
    unfold errF at h
    by_cases h1 : x.f0 < 0 ∨ x.f0 ≥ n
    · rw [if_pos h1] at h; omega
    · rw [if_neg h1] at h
      by_cases h2 : x.f0 ≤ last
      · rw [if_pos h2] at h; omega
      · rw [if_neg h2] at h
        by_cases h3 : ¬ (1 ≤ x.f1 ∧ x.f1 ≤ 3)
        · rw [if_pos h3] at h; omega
        · rw [if_neg h3] at h
          by_cases h4 : badN x
          · rw [if_pos h4] at h; omega
          · rw [if_neg h4] at h
            obtain ⟨g1, g2⟩ := right_of l n x.f0 h
            refine ⟨⟨fun y hy => ?_, List.pairwise_cons.2 ⟨g2, g1.order⟩, fun y hy => ?_, fun y hy => ?_⟩, fun y hy => ?_⟩
            · rcases List.mem_cons.1 hy with rfl | hy
              · omega
              · exact g1.range y hy
            · rcases List.mem_cons.1 hy with rfl | hy
              · omega
              · exact g1.kind y hy
            · rcases List.mem_cons.1 hy with rfl | hy
              · exact h4
              · exact g1.num y hy
            · rcases List.mem_cons.1 hy with rfl | hy
              · omega
              · have := g2 y hy; omega
theorem rd_mem (l : List S121) (i : Nat) (h : i < l.length) : rd_T121 l (i : Int) ∈ l := by
  unfold rd_T121
  rw [Int.toNat_natCast, List.getD_eq_getElem?_getD, List.getElem?_eq_getElem h]; simp
theorem rd_lt (l : List S121) (hl : l.Pairwise fun x y => x.f0 < y.f0) (i j : Nat) (hij : i < j) (hj : j < l.length) : (rd_T121 l (i : Int)).f0 < (rd_T121 l (j : Int)).f0 := by
  have := List.pairwise_iff_getElem.1 hl i j (by omega) hj hij
  unfold rd_T121
  rw [Int.toNat_natCast, Int.toNat_natCast, List.getD_eq_getElem?_getD, List.getD_eq_getElem?_getD, List.getElem?_eq_getElem hj, List.getElem?_eq_getElem (by omega)]
  simpa using this
theorem bs_right (l : List S121) (a : Int) (hl : l.Pairwise fun x y => x.f0 < y.f0) (hr : ∀ x ∈ l, 0 ≤ x.f0 ∧ x.f0 < 65536) (ha : 0 ≤ a ∧ a < 65536) : ∀ (m i j : Nat), i ≤ j → j ≤ l.length → j - i < m →
    (∀ q : Nat, q < i → (rd_T121 l (q : Int)).f0 < a) → (∀ q : Nat, j ≤ q → q < l.length → a ≤ (rd_T121 l (q : Int)).f0) →
    bsF l a m i j ≤ l.length ∧ (∀ q : Nat, q < bsF l a m i j → (rd_T121 l (q : Int)).f0 < a) ∧ ∀ q : Nat, bsF l a m i j ≤ q → q < l.length → a ≤ (rd_T121 l (q : Int)).f0
  | 0, i, j, hij, hj, hm, h1, h2 => by omega
  | m + 1, i, j, hij, hj, hm, h1, h2 => by
    simp only [bsF]
    by_cases hlt : i < j
    · rw [if_pos hlt]
      have hmem := hr _ (rd_mem l ((i + j) / 2) (by omega))
      rw [show wrap64 ((rd_T121 l (((i + j) / 2 : Nat) : Int)).f0 - a) = (rd_T121 l (((i + j) / 2 : Nat) : Int)).f0 - a by unfold wrap64; omega]
      by_cases hc : (rd_T121 l (((i + j) / 2 : Nat) : Int)).f0 - a < 0
      · rw [if_pos hc]
        refine bs_right l a hl hr ha m _ j (by omega) hj (by omega) (fun q hq => ?_) h2
        by_cases he : q = (i + j) / 2
        · rw [he]; omega
        · have := rd_lt l hl q ((i + j) / 2) (by omega) (by omega); omega
      · rw [if_neg hc]
        refine bs_right l a hl hr ha m i _ (by omega) (by omega) (by omega) h1 (fun q hq hql => ?_)
        by_cases he : q = (i + j) / 2
        · rw [he]; omega
        · have := rd_lt l hl ((i + j) / 2) q (by omega) hql; omega
    · rw [if_neg hlt]
      exact ⟨by omega, h1, fun q hq hql => h2 q (by omega) hql⟩
/-- the fault of a block -/
def findF (l : List S121) (a : Int) : Option S121 := l.find? fun x => decide (x.f0 = a)
theorem fault_val (data : List Int) (l : List S121) (a : Int) (hl : l.Pairwise fun x y => x.f0 < y.f0) (hr : ∀ x ∈ l, 0 ≤ x.f0 ∧ x.f0 < 65536) (ha : 0 ≤ a ∧ a < 65536) (hn : l.length ≤ 140737488351232) :
    drive_fault.f data l a = some (match findF l a with | some x => (x.f0, x.f1, x.f2) | none => (0, 0, 0)) := by
  obtain ⟨b1, b2, b3⟩ := bs_right l a hl hr ha (l.length + 1) 0 l.length (by omega) (by omega) (by omega) (fun q hq => by omega) (fun q hq hql => by omega)
  unfold drive_fault.f slices_BinarySearchFunc_faults.f
  rw [if_pos hn, Option.bind_some]
  generalize bsF l a (l.length + 1) 0 l.length = R at b1 b2 b3 ⊢
  simp only
  by_cases hR : R < l.length
  · have hm := hr _ (rd_mem l R hR)
    rw [show wrap64 ((rd_T121 l (R : Int)).f0 - a) = (rd_T121 l (R : Int)).f0 - a by unfold wrap64; omega, decide_eq_true hR, Bool.true_and]
    by_cases he : (rd_T121 l (R : Int)).f0 - a = 0
    · have hf : findF l a = some (rd_T121 l (R : Int)) := by
        unfold findF
        rw [List.find?_eq_some_iff_getElem]
        refine ⟨by simp; omega, R, hR, ?_, fun q hq => ?_⟩
        · unfold rd_T121; rw [Int.toNat_natCast, List.getD_eq_getElem?_getD, List.getElem?_eq_getElem hR]; rfl
        · have h1 := b2 q hq
          unfold rd_T121 at h1
          rw [Int.toNat_natCast, List.getD_eq_getElem?_getD, List.getElem?_eq_getElem (by omega), Option.getD_some] at h1
          simp; omega
      rw [hf, if_pos (decide_eq_true he), if_pos (by omega), if_pos (by omega)]
    · have hf : findF l a = none := by
        unfold findF
        rw [List.find?_eq_none]
        intro x hx
        obtain ⟨q, hq, rfl⟩ := List.getElem_of_mem hx
        have hrd : rd_T121 l (q : Int) = l[q] := by unfold rd_T121; rw [Int.toNat_natCast, List.getD_eq_getElem?_getD, List.getElem?_eq_getElem hq]; rfl
        rw [← hrd]
        simp only [decide_eq_true_eq]
        intro hqa
        rcases Nat.lt_trichotomy q R with h | h | h
        · have := b2 q h; omega
        · subst h; omega
        · have h1 := rd_lt l hl R q h hq
          have := b3 R (Nat.le_refl _) hR
          omega
      rw [hf, if_neg (by simpa using he)]
  · have hf : findF l a = none := by
      unfold findF
      rw [List.find?_eq_none]
      intro x hx
      obtain ⟨q, hq, rfl⟩ := List.getElem_of_mem hx
      have hrd : rd_T121 l (q : Int) = l[q] := by unfold rd_T121; rw [Int.toNat_natCast, List.getD_eq_getElem?_getD, List.getElem?_eq_getElem hq]; rfl
      rw [← hrd]
      simp only [decide_eq_true_eq]
      have := b2 q (by omega)
      omega
    rw [hf, decide_eq_false hR, Bool.false_and, if_neg (by decide)]
/-- need and cost of a block -/
def needs (l : List S121) (a : Int) : Int × Int := match findF l a with | some x => (if x.f1 = 1 then (0, 1) else if x.f1 = 2 then (x.f2, 1) else (1, x.f2)) | none => (1, 1)
theorem needs_l0 (l : List S121) (a : Int) (hk : ∀ x ∈ l, 1 ≤ x.f1 ∧ x.f1 ≤ 3) (hn : l.length ≤ 4611686018427387904) : ∀ (d i : Nat), i + d = l.length →
    Ev (fun k => wrackref1_Needs.l0 k a l (l.length : Int) (i : Int)) (match findF (l.drop i) a with | some x => (if x.f1 = 1 then (0, 1) else if x.f1 = 2 then (x.f2, 1) else (1, x.f2)) | none => (1, 1))
  | 0, i, hi => by
    refine Ev.step (f := fun _ => some _) (fun k => ?_) (Ev.now _)
    simp only [wrackref1_Needs.l0]
    rw [if_neg (by omega), List.drop_of_length_le (by omega)]; rfl
  | d + 1, i, hi => by
    have hkx := hk _ (rd_mem l i (by omega))
    rw [drop_fault l i (by omega)]
    generalize hx : rd_T121 l (i : Int) = x at hkx ⊢
    have hu := up i l.length (by omega) hn
    by_cases h1 : x.f0 = a
    · have hf : findF (x :: l.drop (i + 1)) a = some x := by unfold findF; rw [List.find?_cons_of_pos (by simp [h1])]
      rw [hf]
      refine Ev.step (f := fun _ => some _) (fun k => ?_) (Ev.now _)
      simp only [wrackref1_Needs.l0]
      rw [if_pos (by omega), if_pos (by omega), if_pos (by omega), hx, if_pos h1, Option.bind_some, if_pos (by omega), if_pos (by simp; omega), Option.bind_some, if_pos (by simp; omega)]
      have h3 : x.f1 = 1 ∨ x.f1 = 2 ∨ x.f1 = 3 := by omega
      rcases h3 with h3 | h3 | h3
      · rw [h3]; rfl
      · rw [h3]; rfl
      · rw [h3]; rfl
    · have hf : findF (x :: l.drop (i + 1)) a = findF (l.drop (i + 1)) a := by unfold findF; rw [List.find?_cons_of_neg (by simp [h1])]
      rw [hf]
      refine Ev.step (fun k => ?_) (needs_l0 l a hk hn d (i + 1) (by omega))
      simp only [wrackref1_Needs.l0]
      rw [if_pos (by omega), if_pos (by omega), if_pos (by omega), hx, if_neg h1, hu]
theorem needs_ev (data : List Int) (l : List S121) (a : Int) (hk : ∀ x ∈ l, 1 ≤ x.f1 ∧ x.f1 ≤ 3) (hn : l.length ≤ 4611686018427387904) :
    Ev (fun k => wrackref1_Needs.f k data l a) (needs l a) :=
  needs_l0 l a hk hn l.length 0 (by omega)
theorem equalB_l0 (xs : List Int) (hn : xs.length ≤ 4611686018427387904) : ∀ (d i : Nat), i + d = xs.length →
    Ev (fun k => slices_Equal_byte_byte.l0 k xs xs (xs.length : Int) (i : Int)) true
  | 0, i, hi => by
    refine Ev.step (f := fun _ => some _) (fun k => ?_) (Ev.now _)
    simp only [slices_Equal_byte_byte.l0]
    rw [if_neg (by omega)]
  | d + 1, i, hi => by
    refine Ev.step (fun k => ?_) (equalB_l0 xs hn d (i + 1) (by omega))
    simp only [slices_Equal_byte_byte.l0]
    rw [if_pos (by omega), if_pos (by omega), if_pos (by omega), if_pos (by omega), up i xs.length (by omega) hn]
    simp
theorem equalB_ev (xs : List Int) (hn : xs.length ≤ 4611686018427387904) : Ev (fun k => slices_Equal_byte_byte.f k xs xs) true := by
  refine Ev.congr (fun k => ?_) (equalB_l0 xs hn xs.length 0 (by omega))
  unfold slices_Equal_byte_byte.f
  rw [if_pos rfl]; rfl
/-- the answer, for a right drive, of a block that is there -/
theorem ans_val (data : List Int) (l : List S121) (a t : Int) (hR : RightF ((data.length : Int) / 64) l) (hd : (data.length : Int) ≤ 65536) (ha : 0 ≤ a ∧ a < (data.length : Int) / 64) (ht : 1 ≤ t) (hn : l.length ≤ 140737488351232) :
    ansOf data l a t = some (if (needs l a).1 = 0 ∨ t < (needs l a).1 then ([], (needs l a).2, 19) else ((data.take ((a + 1) * 64).toNat).drop (a * 64).toNat, (needs l a).2, 0)) := by
  unfold ansOf
  rw [fault_val data l a hR.order (fun x hx => by have := hR.range x hx; omega) (by omega) hn, Option.bind_some]
  unfold needs
  cases hf : findF l a with
  | none =>
    have ht2 : ¬ t < 1 := by omega
    simp [ansBad, ansTime, ht2]
  | some x =>
    have hx : x ∈ l := List.mem_of_find?_eq_some hf
    have hk := hR.kind x hx
    have hb := hR.num x hx
    unfold badN at hb
    have h3 : x.f1 = 1 ∨ x.f1 = 2 ∨ x.f1 = 3 := by omega
    have ht2 : ¬ t < 1 := by omega
    rcases h3 with h3 | h3 | h3
    · simp [ansBad, ansTime, h3]
    · have h0 : ¬ x.f2 = 0 := by omega
      by_cases hlt : t < x.f2
      · simp [ansBad, ansTime, h3, hlt]
      · simp [ansBad, ansTime, h3, hlt, h0]
    · simp [ansBad, ansTime, h3, ht2]
/-- the answer at all inputs -/
def ansD (data : List Int) (l : List S121) (a t : Int) : List Int × Int × Int :=
  if errD data l = 0 then (if a < 0 ∨ a ≥ (data.length : Int) / 64 then ([], 0, 4) else if t < 1 then ([], 0, 1) else
    if (needs l a).1 = 0 ∨ t < (needs l a).1 then ([], (needs l a).2, 19) else ((data.take ((a + 1) * 64).toNat).drop (a * 64).toNat, (needs l a).2, 0))
  else ([], 0, errD data l)
theorem err_right (data : List Int) (l : List S121) (h : errD data l = 0) : (data.length : Int) ≤ 65536 ∧ (data.length : Int) % 64 = 0 ∧ RightF ((data.length : Int) / 64) l := by
  unfold errD at h
  by_cases h1 : (data.length : Int) > 65536
  · rw [if_pos h1] at h; omega
  · rw [if_neg h1] at h
    by_cases h2 : (data.length : Int) % 64 = 0
    · rw [if_pos h2] at h
      exact ⟨by omega, h2, (right_of l _ _ h).1⟩
    · rw [if_neg h2] at h; omega
theorem answer_ev (data : List Int) (l : List S121) (a t : Int) (hd : data.length ≤ 140737488351232) (hn : l.length ≤ 140737488351232) : Ev (fun k => drive_Answer.f k data l a t) (ansD data l a t) := by
  unfold drive_Answer.f
  refine Ev.bind (check_ev data l (by omega)) ?_
  refine Ev.congr (fun k => if_pos hd) ?_
  by_cases h0 : errD data l = 0
  · refine Ev.congr (fun k => if_pos h0) ?_
    obtain ⟨e1, e2, e3⟩ := err_right data l h0
    by_cases h1 : a < 0
    · have hv : ansD data l a t = ([], 0, 4) := by unfold ansD; rw [if_pos h0, if_pos (Or.inl h1)]
      rw [hv]; exact Ev.congr (fun k => if_pos h1) (Ev.now _)
    · refine Ev.congr (fun k => if_neg h1) ?_
      by_cases h2 : a ≥ (data.length : Int) / 64
      · have hv : ansD data l a t = ([], 0, 4) := by unfold ansD; rw [if_pos h0, if_pos (Or.inr h2)]
        rw [hv]; exact Ev.congr (fun k => if_pos h2) (Ev.now _)
      · refine Ev.congr (fun k => if_neg h2) ?_
        by_cases h3 : t < 1
        · have hv : ansD data l a t = ([], 0, 1) := by unfold ansD; rw [if_pos h0, if_neg (by omega), if_pos h3]
          rw [hv]; exact Ev.congr (fun k => if_pos h3) (Ev.now _)
        · refine Ev.congr (fun k => if_neg h3) ?_
          have hv : ansD data l a t = (if (needs l a).1 = 0 ∨ t < (needs l a).1 then ([], (needs l a).2, 19) else ((data.take ((a + 1) * 64).toNat).drop (a * 64).toNat, (needs l a).2, 0)) := by unfold ansD; rw [if_pos h0, if_neg (by omega), if_neg h3]
          rw [hv, ans_val data l a t e3 e1 (by omega) (by omega) hn]
          exact Ev.now _
  · have hv : ansD data l a t = ([], 0, errD data l) := by unfold ansD; rw [if_neg h0]
    rw [hv]
    exact Ev.congr (fun k => if_neg h0) (Ev.now _)
theorem fault_needs (data : List Int) (l : List S121) (a : Int) (hR : RightF ((data.length : Int) / 64) l) (hd : (data.length : Int) ≤ 65536) (ha : 0 ≤ a ∧ a < (data.length : Int) / 64) (hn : l.length ≤ 140737488351232) :
    ∃ f0 f1 f2, drive_fault.f data l a = some (f0, f1, f2) ∧ ansTime f1 f2 = (needs l a).2 ∧ ∀ u, 1 ≤ u → ansBad f1 f2 u = decide ((needs l a).1 = 0 ∨ u < (needs l a).1) := by
  have hv := fault_val data l a hR.order (fun x hx => by have := hR.range x hx; omega) (by omega) hn
  cases hf : findF l a with
  | none =>
    rw [hf] at hv
    refine ⟨0, 0, 0, hv, by simp [ansTime, needs, hf], fun u hu => ?_⟩
    have hu2 : ¬ u < 1 := by omega
    simp [ansBad, needs, hf, hu2]
  | some x =>
    rw [hf] at hv
    have hx : x ∈ l := List.mem_of_find?_eq_some hf
    have hk := hR.kind x hx
    have hb := hR.num x hx
    unfold badN at hb
    refine ⟨x.f0, x.f1, x.f2, hv, ?_, fun u hu => ?_⟩
    · have h3 : x.f1 = 1 ∨ x.f1 = 2 ∨ x.f1 = 3 := by omega
      rcases h3 with h3 | h3 | h3 <;> simp [ansTime, needs, hf, h3]
    · have hu2 : ¬ u < 1 := by omega
      have h3 : x.f1 = 1 ∨ x.f1 = 2 ∨ x.f1 = 3 := by omega
      rcases h3 with h3 | h3 | h3
      · simp [ansBad, needs, hf, h3]
      · have h0 : ¬ x.f2 = 0 := by omega
        simp [ansBad, needs, hf, h3, h0]
      · simp [ansBad, needs, hf, h3, hu2]
/-- what is known of a drive that is being read by a plan -/
structure PS where
  st : List Int
  dat : List Int
  rd : List Int
  tr : Int → Int
  tm : Int
/-- an attempt -/
def att (data : List Int) (faults : List S121) (s : PS) (k : Nat) : PS × Bool :=
  if (needs faults k).1 = 0 ∨ s.tr k + 1 < (needs faults k).1 then
    (⟨s.st.set k 2, s.dat, s.rd ++ [(k : Int)], fun j => if j = (k : Int) then s.tr k + 1 else s.tr j, wrap64 (s.tm + (needs faults k).2)⟩, false)
  else
    (⟨s.st.set k 1, s.dat.take (64 * k) ++ ((data.take ((((k : Int) + 1) * 64).toNat)).drop (((k : Int) * 64).toNat) ++ s.dat.drop (64 * k + 64)), s.rd ++ [(k : Int)], fun j => if j = (k : Int) then s.tr k + 1 else s.tr j, wrap64 (s.tm + (needs faults k).2)⟩, true)
def iter {α : Type} (f : α → Nat → α) (a : α) : Nat → α
  | 0 => a
  | i + 1 => f (iter f a i) i
def skipped (s : PS) (k : Nat) : PS := { s with st := s.st.set k 3 }
def stepF (data : List Int) (faults : List S121) (skip : Int) (p : PS × Int) (k : Nat) : PS × Int :=
  if 0 < p.2 then (skipped p.1 k, p.2 - 1) else if (att data faults p.1 k).2 = true then ((att data faults p.1 k).1, p.2) else ((att data faults p.1 k).1, skip)
def stepB (data : List Int) (faults : List S121) (n : Nat) (p : PS × Bool) (i : Nat) : PS × Bool :=
  if p.1.st.getD (n - 1 - i) 0 ≠ 3 then (p.1, false) else if p.2 = true then p else ((att data faults p.1 (n - 1 - i)).1, !(att data faults p.1 (n - 1 - i)).2)
def stepE (data : List Int) (faults : List S121) (state : Int) (s : PS) (k : Nat) : PS :=
  if s.st.getD k 0 = state then (att data faults s k).1 else s
def passes (data : List Int) (faults : List S121) (n : Nat) (skip tries : Int) : PS :=
  let s0 : PS := ⟨List.replicate n 0, List.replicate (64 * n) 0, [], fun _ => 0, 0⟩
  let s1 := (iter (stepF data faults skip) (s0, 0) n).1
  let s2 := (iter (stepB data faults n) (s1, false) n).1
  let s3 := iter (stepE data faults 3) s2 n
  iter (fun s _ => iter (stepE data faults 2) s n) s3 (tries - 1).toNat
/-- sizes, and how many attempts there may have been -/
structure Sized (n N : Nat) (s : PS) : Prop where
  st : s.st.length = n
  dat : s.dat.length = 64 * n
  tr : ∀ j, 0 ≤ s.tr j ∧ s.tr j ≤ (N : Int)
  rd : s.rd.length ≤ N
theorem Sized.more {n N N' : Nat} {s : PS} (h : Sized n N s) (hN : N ≤ N') : Sized n N' s := ⟨h.st, h.dat, fun j => ⟨(h.tr j).1, by have := (h.tr j).2; omega⟩, Nat.le_trans h.rd hN⟩
theorem Sized.skipped {n N : Nat} {s : PS} (h : Sized n N s) (k : Nat) : Sized n N (skipped s k) := ⟨by simp [Pure.skipped, h.st], h.dat, h.tr, h.rd⟩
theorem Sized.att {n N : Nat} {s : PS} (h : Sized n N s) (data : List Int) (faults : List S121) (hd : data.length = 64 * n) (k : Nat) (hk : k < n) : Sized n (N + 1) (att data faults s k).1 := by
  have htr : ∀ j, 0 ≤ (if j = (k : Int) then s.tr k + 1 else s.tr j) ∧ (if j = (k : Int) then s.tr k + 1 else s.tr j) ≤ ((N + 1 : Nat) : Int) := by
    intro j
    have h1 := h.tr j
    have h2 := h.tr k
    split <;> omega
  have hrd : (s.rd ++ [(k : Int)]).length ≤ N + 1 := by have := h.rd; simp; omega
  unfold Pure.att
  split
  · exact ⟨by simp [h.st], h.dat, htr, hrd⟩
  · refine ⟨by simp [h.st], ?_, htr, hrd⟩
    have := h.dat
    simp only [List.length_append, List.length_take, List.length_drop]
    omega
section
variable {P : Program} {ops : Array Oper} {rest : List Oper} {o : Oper} {a : Act} {Q : Exit → Act → World → Prop} {α : Type}
/-- copy onto the middle of a row of scalars of one's own -/
theorem copy_run {enc : α → Value} {h1 : ∀ x, (enc x).oneCell' = true} (d : α) {W : World} (base : Nat) (t t' ty e : TypeId)
    (ht : P.underlying t = some (.slice e)) (hinfo : (P.info? e).map (·.size) = some 1)
    {g n cap lo k c2 : Nat} {xs ys : List α} {A : Option Addr} {m c : Nat} {ok : Nat → Prop}
    (HO : (Kd.scalar enc h1).R e W base ok (.slice (some ⟨g, 0, none⟩) n cap) xs) (HR : (Kd.scalar enc h1).C W A m ys) (hk : lo + k ≤ n) (hm : m ≤ k) (hm0 : 0 < m) :
    ∃ w1, (Builtin.copy_ #[t, t'] ty #[.slice (some ⟨g, lo, none⟩) k c2, .slice A m c]).run P W = .ok (goInt ((m : Nat) : Int)) w1 ∧ (Kd.scalar enc h1).R e w1 base ok (.slice (some ⟨g, 0, none⟩) n cap) (xs.take lo ++ (ys ++ xs.drop (lo + m))) ∧ W.grownBy w1 (some g) := by
  have hR := Kd.reads_of_C (enc := enc) (d := d) (h1 := h1) HR
  have hym : ys.length = m := hR.1
  obtain ⟨hn, _⟩ := Kd.R_reads' HO
  have hown := Kd.own_of_R HO
  obtain ⟨ad, hA, hc⟩ := hR.2.2 hm0
  rcases hown.2 with ⟨hv, _⟩ | ⟨g', cap', cur, hv, hb, hh, hnc, hcm, hcs, htake⟩
  · simp at hv
  simp only [Value.slice.injEq, Option.some.injEq, Addr.mk.injEq, and_true, true_and] at hv
  obtain ⟨hg, _, hcap⟩ := hv
  subst hg
  have hcs1 : cur.size = cap' := by omega
  have hsrc : ∀ j u, (encs enc ys)[j]? = some u → W.cell? (ad.add j) = some u := by
    intro j u hu
    have hj : j < ys.length := by
      rcases Nat.lt_or_ge j ys.length with h | h
      · exact h
      · rw [List.getElem?_eq_none (by rw [encs_length]; exact h)] at hu
        cases hu
    rw [encs_get (d := d) _ j hj] at hu
    rw [hc j (by omega), ← hu]
  have hkl : (encs enc ys).length = m := by rw [encs_length]; exact hym
  have hr := run_copy_cells (P := P) W t t' ty e g lo k c2 ad m c (encs enc ys) ht hinfo (by rw [hkl]; exact (Nat.min_eq_left hm).symm) hsrc
    (fun j hj => by rw [cell_of_row W g _ cur e (0, 0) hh]; simp; omega) (fun j _ => blk_frozen hh _) (by intro u hu; simp only [encs, List.mem_map] at hu; obtain ⟨q, _, rfl⟩ := hu; exact h1 q)
  obtain ⟨cur', h3, h4, h5⟩ := setCells_row (encs enc ys) lo W cur hh (by rw [hkl]; omega)
  obtain ⟨s1, s2, s3, s4⟩ := setCells_same g (encs enc ys) lo W
  have hln : (xs.take lo ++ (ys ++ xs.drop (lo + m))).length = xs.length := by
    simp only [List.length_append, List.length_take, List.length_drop]; omega
  refine ⟨_, by rw [hA, hr, hkl], ?_, ⟨s1, s2, s3, by rw [s4]; exact Nat.le_refl _, fun i _ hi => setCells_far _ _ i (fun he => hi (by rw [he]))⟩⟩
  refine Kd.R_of_own ?_ HO.1
  rw [hln, hn]
  refine ⟨by rw [encs_length, hln, Nat.mul_one], .inr ⟨g, cap, cur', rfl, hb, h3, by omega, by omega, by omega, ?_⟩⟩
  have htk : cur.toList.take xs.length = encs enc xs := by rw [← htake, Nat.mul_one]
  have hdr : cur.toList.drop xs.length = cur.toList.drop xs.length := rfl
  have hcur : cur.toList = encs enc xs ++ cur.toList.drop xs.length := by rw [← htk, List.take_append_drop]
  rw [h5, hkl, Nat.mul_one, hcur]
  have he : (encs enc xs).length = xs.length := encs_length _
  have t1 : (encs enc xs ++ cur.toList.drop xs.length).take lo = (encs enc xs).take lo := List.take_append_of_le_length (by rw [he]; omega)
  have t2 : (encs enc xs ++ cur.toList.drop xs.length).drop (lo + m) = (encs enc xs).drop (lo + m) ++ cur.toList.drop xs.length := List.drop_append_of_le_length (by rw [he]; omega)
  rw [t1, t2]
  rw [show encs enc (xs.take lo ++ (ys ++ xs.drop (lo + m))) = (encs enc xs).take lo ++ encs enc ys ++ (encs enc xs).drop (lo + m) by simp [encs, List.map_take, List.map_drop]]
  rw [← List.append_assoc, List.take_append_of_le_length (by simp only [List.length_append, List.length_take, List.length_drop, he, hkl]; omega)]
  rw [List.take_of_length_le (by simp only [List.length_append, List.length_take, List.length_drop, he, hkl]; omega)]
theorem copy_event {W w1 : World} {v : Value} (hgd : o.guard = none) {s x : Operand} {t t' : TypeId} (ho : o.op = .call { callee := .builtin .copy, args := #[s, x], argTypes := #[t, t'] }) {vs vx : Value} (hs : a.eval s = vs) (hx : a.eval x = vx)
    (hr : (Builtin.copy_ #[t, t'] o.type #[vs, vx]).run P W = .ok v w1) (h : wpList P ops Q rest (a.put o.dst v) w1) : wpList P ops Q (o :: rest) a W := by
  refine wpList_plain hgd fun K hK => ?_
  unfold Oper.wp execOp
  simp only [ho, resolve, invoke, builtin, Sem.run_bind, Sem.run_pure, Result.andThen_ok, List.map_toArray, List.map_cons, List.map_nil, hs, hx, hr]
  exact hK _ _ h
end
theorem _root_.Go.Proofs.Ytdgkbpoljcndgaa.QPassRuns.MapIs.more {w : World} {M N : Nat} {T : Int → Int} (h : MapIs w M T N) : MapIs w M T (N + 1) := by
  obtain ⟨D, h1, h2⟩ := h
  exact ⟨D, h1.mono (Nat.le_succ _), h2⟩
theorem _root_.Go.Proofs.Ytdgkbpoljcndgaa.QPassRuns.IsDisk.more {w : World} {L g M : Nat} {A0 : Option Addr} {c0 : Nat} {data : List Int} {A1 : Option Addr} {c1 : Nat} {faults : List S121} {T : Int → Int} {t : Int} {N : Nat} (h : IsDisk w L g M A0 c0 data A1 c1 faults T t N) : IsDisk w L g M A0 c0 data A1 c1 faults T t (N + 1) :=
  ⟨h.cells, h.ne, h.gl, h.ml, h.ll, h.map.more, h.cap0, h.cap1, h.rows⟩
/-- the places of a job -/
structure JE where
  b : Nat
  L : Nat
  g : Nat
  M : Nat
  j : Nat
  A0 : Option Addr
  c0 : Nat
  data : List Int
  A1 : Option Addr
  c1 : Nat
  faults : List S121
  n : Nat
  AS : Option Addr
  cS : Nat
  AD : Option Addr
  cD : Nat
  skip : Int
  tries : Int
def JE.vS (E : JE) : Value := .slice E.AS E.n E.cS
def JE.vD (E : JE) : Value := .slice E.AD (64 * E.n) E.cD
/-- a job -/
structure IsJob (E : JE) (w : World) (vR : Value) (s : PS) (N : Nat) : Prop where
  disk : IsDisk w E.L E.g E.M E.A0 E.c0 E.data E.A1 E.c1 E.faults s.tr s.tm N
  blk : w.heap[E.j]? = some (.cells #[E.vS, E.vD, vR, .int .i64 0, .pointer (some ⟨E.g, 0, none⟩), .int .i64 E.skip, .int .i64 E.tries] 133 (0, 0))
  S : (Kd.int .i64).R 3 w E.L (fun k => some k = E.vS.ownBlock) E.vS s.st
  D : (Kd.int .u8).R 5 w E.L (fun k => some k = E.vD.ownBlock) E.vD s.dat
  R : (Kd.int .i64).R 3 w E.L (fun k => some k = vR.ownBlock ∧ some k ≠ E.vS.ownBlock) vR s.rd
  jl : E.L ≤ E.j
  bg : E.b ≤ E.g
  bm : E.b ≤ E.M
  bl : E.b ≤ E.L
section
variable {E : JE} {w W w1 : World} {vR : Value} {s : PS} {N : Nat}
theorem IsJob.jlt (h : IsJob E w vR s N) : E.j < w.heap.size := blk_lt h.blk
theorem IsJob.nj (h : IsJob E w vR s N) : some E.j ≠ vR.ownBlock := Kd.R_ne h.R h.blk (by decide)
theorem IsJob.nS (h : IsJob E w vR s N) : vR.ownBlock = none ∨ vR.ownBlock ≠ E.vS.ownBlock := by
  cases hv : vR.ownBlock with
  | none => exact .inl rfl
  | some k => exact .inr (fun he => (h.R.1 k hv).2 (by rw [← he]))
/-- other blocks are written -/
theorem IsJob.step (h : IsJob E w vR s N) (hs : w.heap.size ≤ W.heap.size) (hd : ∀ i, i < E.L → W.heap[i]? = w.heap[i]?) (hj : W.heap[E.j]? = w.heap[E.j]?)
    (hS : ∀ k, some k = E.vS.ownBlock → W.heap[k]? = w.heap[k]?) (hD : ∀ k, some k = E.vD.ownBlock → W.heap[k]? = w.heap[k]?) (hR : ∀ k, some k = vR.ownBlock → W.heap[k]? = w.heap[k]?) : IsJob E W vR s N :=
  ⟨h.disk.move hs hd, hj.trans h.blk, Kd.R_move h.S hS, Kd.R_move h.D hD, Kd.R_move h.R fun k hk => hR k hk.1, h.jl, h.bg, h.bm, h.bl⟩
theorem IsJob.below (h : IsJob E w vR s N) (hb : Below w.heap.size w W) : IsJob E W vR s N :=
  h.step hb.size (fun i hi => hb.block i (Nat.lt_of_lt_of_le hi h.disk.ll)) (hb.block _ h.jlt) (fun k hk => hb.block k (Kd.R_lt h.S k hk.symm)) (fun k hk => hb.block k (Kd.R_lt h.D k hk.symm)) (fun k hk => hb.block k (Kd.R_lt h.R k hk.symm))
theorem IsJob.drew (h : IsJob E w vR s N) : IsJob E w.drew vR s N := h.below (below_drew (Below.refl _ _))
/-- the disk has been read -/
theorem IsJob.read (h : IsJob E w vR s N) {tr : Int → Int} {tm : Int} {N' : Nat} (hk : IsDisk W E.L E.g E.M E.A0 E.c0 E.data E.A1 E.c1 E.faults tr tm N') (hb : ∀ i, i < w.heap.size → i ≠ E.g → i ≠ E.M → W.heap[i]? = w.heap[i]?) :
    IsJob E W vR { s with tr := tr, tm := tm } N' := by
  have far : ∀ i, E.L ≤ i → i < w.heap.size → W.heap[i]? = w.heap[i]? := fun i h1 h2 => hb i h2 (by have := h.disk.gl; omega) (by have := h.disk.ml; omega)
  exact ⟨hk, (far _ h.jl h.jlt).trans h.blk, Kd.R_move h.S fun k hk => far k (Kd.R_base h.S k hk.symm) (Kd.R_lt h.S k hk.symm), Kd.R_move h.D fun k hk => far k (Kd.R_base h.D k hk.symm) (Kd.R_lt h.D k hk.symm),
    Kd.R_move h.R fun k hk => far k (Kd.R_base h.R k hk.1.symm) (Kd.R_lt h.R k hk.1.symm), h.jl, h.bg, h.bm, h.bl⟩
/-- a block has been appended to the reads, and the reads are stored -/
theorem IsJob.reads (h : IsJob E W vR s N) {v1 : Value} {x : Int} (hr : (Kd.int .i64).R 3 w1 E.L (fun k => some k ≠ E.vS.ownBlock) v1 (s.rd ++ [x])) (hg : W.grownBy w1 vR.ownBlock) (ha : v1.ownBlock = vR.ownBlock ∨ ∃ b, v1.ownBlock = some b ∧ W.heap.size ≤ b) :
    w1.heap[E.j]? = some (.cells #[E.vS, E.vD, vR, .int .i64 0, .pointer (some ⟨E.g, 0, none⟩), .int .i64 E.skip, .int .i64 E.tries] 133 (0, 0)) ∧ IsJob E (w1.setCell ⟨E.j, 2, none⟩ v1) v1 { s with rd := s.rd ++ [x] } N := by
  have hj : w1.heap[E.j]? = some (.cells #[E.vS, E.vD, vR, .int .i64 0, .pointer (some ⟨E.g, 0, none⟩), .int .i64 E.skip, .int .i64 E.tries] 133 (0, 0)) := (hg.block _ h.jlt h.nj).trans h.blk
  refine ⟨hj, ?_⟩
  have oth : ∀ k, k < W.heap.size → k ≠ E.j → some k ≠ vR.ownBlock → (w1.setCell ⟨E.j, 2, none⟩ v1).heap[k]? = W.heap[k]? := fun k h1 h2 h3 => (Below.heap_setCell w1 ⟨E.j, 2, none⟩ v1 k h2).trans (hg.block k h1 h3)
  have hjS : some E.j ≠ E.vS.ownBlock := Kd.R_ne h.S h.blk (by decide)
  have hjD : some E.j ≠ E.vD.ownBlock := Kd.R_ne h.D h.blk (by decide)
  have hsz : (w1.setCell ⟨E.j, 2, none⟩ v1).heap.size = w1.heap.size := by simp [World.setCell]
  have hRD : ∀ k, some k = E.vD.ownBlock → some k ≠ vR.ownBlock := by
    intro k hk he
    obtain ⟨c1, e1⟩ := Kd.R_typed h.D k hk.symm
    obtain ⟨c2, e2⟩ := Kd.R_typed h.R k he.symm
    rw [e1] at e2
    injection e2 with e2
    injection e2 with _ e2
    exact absurd e2 (by decide)
  refine ⟨h.disk.move (by rw [hsz]; exact hg.size) (fun i hi => oth i (Nat.lt_of_lt_of_le hi h.disk.ll) (by have := h.jl; omega) (fun he => by have := Kd.R_base h.R i he.symm; omega)), blk_put hj 2 _ rfl,
    Kd.R_move h.S fun k hk => oth k (Kd.R_lt h.S k hk.symm) (fun he => hjS (by rw [← he]; exact hk)) (fun he => (h.R.1 k he.symm).2 hk),
    Kd.R_move h.D fun k hk => oth k (Kd.R_lt h.D k hk.symm) (fun he => hjD (by rw [← he]; exact hk)) (hRD k hk), ?_, h.jl, h.bg, h.bm, h.bl⟩
  have hj1 : some E.j ≠ v1.ownBlock := Kd.R_ne hr hj (by decide)
  have h2 := Kd.R_tight2 (d := Kd.int .i64) rfl hr
  exact Kd.R_move h2 fun k hk => Below.heap_setCell w1 ⟨E.j, 2, none⟩ v1 k (fun (he : k = E.j) => hj1 (by rw [← he]; exact hk.1))
/-- a state is written -/
theorem IsJob.state (h : IsJob E W vR s N) {S : Nat} (hS : E.AS = some ⟨S, 0, none⟩) (k : Nat) (x : Int) : IsJob E (W.setCell ⟨S, k, none⟩ (.int .i64 x)) vR { s with st := s.st.set k x } N := by
  have hown : E.vS.ownBlock = some S := by simp [JE.vS, hS, Value.ownBlock]
  have hj : E.j ≠ S := fun he => Kd.R_ne h.S h.blk (by decide) (by rw [hown, he])
  have hsz : (W.setCell ⟨S, k, none⟩ (.int .i64 x)).heap.size = W.heap.size := by simp [World.setCell]
  have oth : ∀ i, i ≠ S → (W.setCell ⟨S, k, none⟩ (.int .i64 x)).heap[i]? = W.heap[i]? := fun i hi => Below.heap_setCell W ⟨S, k, none⟩ _ i hi
  have hL := Kd.R_base h.S S hown
  have hDS : ∀ k, some k = E.vD.ownBlock → k ≠ S := by
    intro k hk he
    obtain ⟨c1, e1⟩ := Kd.R_typed h.D k hk.symm
    obtain ⟨c2, e2⟩ := Kd.R_typed h.S k (by rw [he]; exact hown)
    rw [e1] at e2
    injection e2 with e2
    injection e2 with _ e2
    exact absurd e2 (by decide)
  have hs := h.S
  unfold JE.vS at hs hown
  rw [hS] at hs
  have hput := (Kd.R_putg (enc := Value.int .i64) (h1 := fun _ => rfl) hs (k : Int) x).1
  simp only [Int.toNat_natCast] at hput
  refine ⟨h.disk.move (by rw [hsz]; exact Nat.le_refl _) (fun i hi => oth i (by omega)), (oth _ hj).trans h.blk, ?_, Kd.R_move h.D fun k hk => oth k (hDS k hk), Kd.R_move h.R fun k hk => oth k (fun he => hk.2 (by rw [he]; unfold JE.vS; rw [hown])), h.jl, h.bg, h.bm, h.bl⟩
  unfold JE.vS
  rw [hS]
  exact hput
/-- the row of bytes is written -/
theorem IsJob.bytes (h : IsJob E W vR s N) {D : Nat} (hD : E.AD = some ⟨D, 0, none⟩) {dat : List Int} (hr : (Kd.int .u8).R 5 w1 E.L (fun k => some k = E.vD.ownBlock) E.vD dat) (hg : W.grownBy w1 (some D)) : IsJob E w1 vR { s with dat := dat } N := by
  have hown : E.vD.ownBlock = some D := by simp [JE.vD, hD, Value.ownBlock]
  have hj : E.j ≠ D := fun he => Kd.R_ne h.D h.blk (by decide) (by rw [hown, he])
  have hL := Kd.R_base h.D D hown
  have hne : ∀ k, (∃ c : Array Value, W.heap[k]? = some (.cells c 3 (0, 0))) → k ≠ D := by
    rintro k ⟨c1, e1⟩ he
    obtain ⟨c2, e2⟩ := Kd.R_typed h.D k (by rw [he]; exact hown)
    rw [e1] at e2
    injection e2 with e2
    injection e2 with _ e2
    exact absurd e2 (by decide)
  have oth : ∀ i, i < W.heap.size → i ≠ D → w1.heap[i]? = W.heap[i]? := fun i h1 h2 => hg.block i h1 (by simpa using h2)
  exact ⟨h.disk.move hg.size (fun i hi => oth i (Nat.lt_of_lt_of_le hi h.disk.ll) (by omega)), (oth _ h.jlt hj).trans h.blk, Kd.R_move h.S fun k hk => oth k (Kd.R_lt h.S k hk.symm) (hne k (Kd.R_typed h.S k hk.symm)), hr,
    Kd.R_move h.R fun k hk => oth k (Kd.R_lt h.R k hk.1.symm) (hne k (Kd.R_typed h.R k hk.1.symm)), h.jl, h.bg, h.bm, h.bl⟩
end
/-- the drive of a job is right -/
structure RightJ (E : JE) : Prop where
  right : RightF ((E.data.length : Int) / 64) E.faults
  size : (E.data.length : Int) ≤ 65536
  len : E.data.length = 64 * E.n
  few : E.faults.length ≤ 5864062014805
set_option maxHeartbeats 8000000 in
set_option maxRecDepth 100000 in
/-- an attempt -/
theorem try_calls {E : JE} {w : World} {vR : Value} {s : PS} {N : Nat} (h : IsJob E w vR s N) (hz : Sized E.n N s) (hE : RightJ E) (hN : N ≤ 1000000) (k : Nat) (hk : k < E.n) :
    Calls Try.prog 112 #[.pointer (some ⟨E.j, 0, none⟩), .int .i64 (k : Int)] w fun e w' => e = .returned (.bool (att E.data E.faults s k).2) ∧ ∃ vR', IsJob E w' vR' (att E.data E.faults s k).1 (N + 1) ∧ Below E.b w w' := by
  obtain ⟨AR, cR, eR⟩ := Kd.R_slice h.R
  subst eR
  have hs := hE.size
  have hl := hE.len
  have hf1 := hE.few
  obtain ⟨f0, f1, f2, hf, htm, hbd⟩ := fault_needs E.data E.faults (k : Int) hE.right hE.size ⟨by omega, by omega⟩ (by omega)
  obtain ⟨⟨need, cost⟩, hnc⟩ : ∃ p, needs E.faults (k : Int) = p := ⟨_, rfl⟩
  have hread := read_in h.disk (by omega) (k : Int) f0 f1 f2 hf (by omega) (by omega) (by omega) (hz.tr _).1 (by have := (hz.tr (k : Int)).2; omega)
  rw [hnc] at htm hbd
  simp only at htm hbd
  have hTk := hz.tr (k : Int)
  obtain ⟨u, hu⟩ : ∃ u, s.tr (k : Int) + 1 = u := ⟨_, rfl⟩
  rw [hu, htm, hbd u (by omega)] at hread
  obtain ⟨S, cS', hvS, hbS, hSlt, _⟩ := Kd.R_form h.S (by rw [hz.st]; omega)
  obtain ⟨D, cD', hvD, hbD, _, _⟩ := Kd.R_form h.D (by rw [hz.dat]; omega)
  have hAS : E.AS = some ⟨S, 0, none⟩ := by simp only [JE.vS, Value.slice.injEq] at hvS; exact hvS.1
  have hAD : E.AD = some ⟨D, 0, none⟩ := by simp only [JE.vD, Value.slice.injEq] at hvD; exact hvD.1
  obtain ⟨i5, hi5, hy0, hy1, hy2⟩ := info_parts info5
  obtain ⟨hcD1, hcD2, _⟩ := Kd.R_reads' h.D
  have hcut := cut_from (P := Try.prog) 22 5 .i64 Try.underlying22 hi5 1 hy1 E.AD (64 * E.n) E.cD ((k : Int) * 64) (by omega) (by omega)
  rw [show ((k : Int) * 64).toNat = 64 * k by omega, if_neg (by omega), hAD] at hcut
  have hmul : IntKind.i64.wrap ((k : Int) * 64) = (k : Int) * 64 := by rw [i64_w]; unfold wrap64; omega
  have c4 : w.cell? ⟨E.j, 4, none⟩ = some (.pointer (some ⟨E.g, 0, none⟩)) := (blk_cell h.blk 4).trans rfl
  have HVS := Aside0.mk (show E.vS = .slice (some ⟨S, 0, none⟩) E.n E.cS by unfold JE.vS; rw [hAS])
  have HVD := Aside0.mk (show E.vD = .slice (some ⟨D, 0, none⟩) (64 * E.n) E.cD by unfold JE.vD; rw [hAD])
  have hkn : (k : Int) < (E.n : Int) := by omega
  have HJ := Aside0.mk h
  have HZ := Aside0.mk hz
  have HN := Aside0.mk hN
  have HK := Aside0.mk hk
  have HU := Aside0.mk hu
  have HNC := Aside0.mk hnc
  have HAS := Aside0.mk hAS
  have HAD := Aside0.mk hAD
  have HL := Aside0.mk hl
  have HR := Aside0.mk hE
  have HS := Aside0.mk hs
  have HBS := Aside0.mk hbS
  have HBD := Aside0.mk hbD
  clear hs hl hf1 hf htm hbd hTk hu hnc hvS hvD hbS hbD hAS hAD h hz hN hk hE hcD1 hcD2
  by_cases hb : need = 0 ∨ u < need
  · rw [decide_eq_true hb, if_pos rfl, if_pos rfl] at hread
    have HBB := Aside0.mk hb
    clear hb
    go_enter Try.func112, Try.ntmps112
    go_wp2_with (first
      | (go_at_call 45; refine hread.mono ?_; rintro e w1 ⟨v0_, rfl, hRv, hD1, hB1, hO1⟩; obtain ⟨Av, cv, eV⟩ := Kd.R_slice hRv; subst eV; have J1 := Aside0.mk (HJ.out.read hD1 hO1); have HB := Aside0.mk (hB1 E.b HJ.out.bg HJ.out.bm (Nat.le_trans HJ.out.bl HJ.out.disk.ll)); clear hRv hD1 hB1 hO1 c4; have c2 : w1.cell? ⟨E.j, 2, none⟩ = some (.slice AR s.rd.length cR) := (blk_cell J1.out.blk 2).trans rfl)
      | ((with_reducible refine gate_builtin (b := .append) (xs := #[.tmp 21, .tmp 23]) rfl ?_); at_builtin; refine Kd.R_append (Kd.int .i64) (w0 := w1) E.L rfl (.tmp 21) (.tmp 23) 37 3 (.int .i64 0) 8 rfl Try.underlying37 info3 rfl (by decide) (by decide) (.slice AR s.rd.length cR) s.rd (k : Int) [.int .i64 (k : Int)] (fun i => some i ≠ E.vS.ownBlock) (fun _ => False) rfl rfl rfl (fun _ h => h.elim) (fun i hi he => absurd (Kd.R_lt J1.out.S i he.symm) (by omega)) (Kd.R_mono J1.out.R fun i hi => hi.2) (Below.refl _ _) J1.out.disk.ll (by have := HZ.out.rd; have := HN.out; omega) ?_; intro v1 w2 hR2 hB2 hG2 hat2; obtain ⟨AR2, cR2, eV2⟩ := Kd.R_slice hR2; rw [show (s.rd ++ [(k : Int)]).length = s.rd.length + 1 by simp] at eV2; subst eV2; obtain ⟨hj2, J2⟩ := J1.out.reads hR2 hG2 hat2; replace J2 := Aside0.mk J2; have HB2 := Aside0.mk (HB.out.grown hG2 (Nat.le_trans J1.out.bl J1.out.disk.ll) (fun i e => Nat.le_trans J1.out.bl (Kd.R_base J1.out.R i e))); have d2 : w2.cell? ⟨E.j, 2, none⟩ = some (.slice AR s.rd.length cR) := (blk_cell hj2 2).trans rfl; have e2 := blk_frozen hj2 2; clear hR2 hB2 hG2 hat2 hj2 c2)
      | ((with_reducible refine gate_store (t := 37) (p := 27) rfl ?_); refine store_event (t := 37) (p := 27) (v := ?vo) (w1 := w2.setCell ⟨E.j, 2, none⟩ (.slice AR2 (s.rd.length + 1) cR2)) ?hg ?ho ?hn ?hr ?_; (case ho => rfl); (case hg => rfl); (case hn => rfl); (case hr => first | (go_simp; done) | (go_simp; rfl)); intro w3 hw; have J3 := J2.out; have HB3 := HB2.out.setCell (p := ⟨E.j, 2, none⟩) (Nat.le_trans J1.out.bl J1.out.jl : E.b ≤ E.j) (.slice AR2 (s.rd.length + 1) cR2); rw [← hw] at J3 HB3; replace J3 := Aside0.mk J3; replace HB3 := Aside0.mk HB3; clear hw d2 e2; have c0 : w3.cell? ⟨E.j, 0, none⟩ = some (.slice (some ⟨S, 0, none⟩) E.n E.cS) := (blk_cell J3.out.blk 0).trans (congrArg some HVS.out); obtain ⟨f0_, f1_⟩ := Kd.R_celln (enc := Value.int .i64) (h1 := fun _ => rfl) (0 : Int) (by have := J3.out.S; unfold JE.vS at this; rw [HAS.out] at this; exact this) (k : Int) (by omega) (by have := HK.out; omega); simp only [Int.toNat_natCast] at f0_ f1_))
    go_ret
    unfold att
    rw [if_pos (by rw [HNC.out, HU.out]; exact HBB.out)]
    have := J3.out.state HAS.out k 2
    refine ⟨rfl, ⟨.slice AR2 (s.rd.length + 1) cR2, ?_⟩, HB3.out.setCell (p := ⟨S, k, none⟩) (Nat.le_trans J3.out.bl HBS.out : E.b ≤ S) (.int .i64 2)⟩
    rw [HU.out, HNC.out]
    exact this
  · obtain ⟨r, hr⟩ : ∃ r, (E.data.take (((k : Int) + 1) * 64).toNat).drop ((k : Int) * 64).toNat = r := ⟨_, rfl⟩
    rw [decide_eq_false hb, if_neg (by decide), if_neg (by decide), hr] at hread
    have hl64 : r.length = 64 := by have := HL.out; have := HK.out; rw [← hr, List.length_drop, List.length_take]; omega
    have HBB := Aside0.mk hb
    have HRR := Aside0.mk hr
    clear hb hr
    go_enter Try.func112, Try.ntmps112
    go_wp2_with (first
      | (go_at_call 45; refine hread.mono ?_; rintro e w1 ⟨v0_, rfl, hRv, hD1, hB1, hO1⟩; obtain ⟨Av, cv, eV⟩ := Kd.R_slice hRv; rw [hl64] at eV; subst eV; have J1 := Aside0.mk (HJ.out.read hD1 hO1); have HB := Aside0.mk (hB1 E.b HJ.out.bg HJ.out.bm (Nat.le_trans HJ.out.bl HJ.out.disk.ll)); have hRV := Aside0.mk hRv; clear hRv hD1 hB1 hO1 c4; have c2 : w1.cell? ⟨E.j, 2, none⟩ = some (.slice AR s.rd.length cR) := (blk_cell J1.out.blk 2).trans rfl)
      | ((with_reducible refine gate_builtin (b := .append) (xs := #[.tmp 21, .tmp 23]) rfl ?_); at_builtin; refine Kd.R_append (Kd.int .i64) (w0 := w1) E.L rfl (.tmp 21) (.tmp 23) 37 3 (.int .i64 0) 8 rfl Try.underlying37 info3 rfl (by decide) (by decide) (.slice AR s.rd.length cR) s.rd (k : Int) [.int .i64 (k : Int)] (fun i => some i ≠ E.vS.ownBlock) (fun _ => False) rfl rfl rfl (fun _ h => h.elim) (fun i hi he => absurd (Kd.R_lt J1.out.S i he.symm) (by omega)) (Kd.R_mono J1.out.R fun i hi => hi.2) (Below.refl _ _) J1.out.disk.ll (by have := HZ.out.rd; have := HN.out; omega) ?_; intro v1 w2 hR2 hB2 hG2 hat2; obtain ⟨AR2, cR2, eV2⟩ := Kd.R_slice hR2; rw [show (s.rd ++ [(k : Int)]).length = s.rd.length + 1 by simp] at eV2; subst eV2; obtain ⟨hj2, J2⟩ := J1.out.reads hR2 hG2 hat2; replace J2 := Aside0.mk J2; have HB2 := Aside0.mk (HB.out.grown hG2 (Nat.le_trans J1.out.bl J1.out.disk.ll) (fun i e => Nat.le_trans J1.out.bl (Kd.R_base J1.out.R i e))); have d2 : w2.cell? ⟨E.j, 2, none⟩ = some (.slice AR s.rd.length cR) := (blk_cell hj2 2).trans rfl; have e2 := blk_frozen hj2 2; have HG2 := Aside0.mk hG2; clear hR2 hB2 hG2 hat2 hj2 c2)
      | ((with_reducible refine gate_store (t := 37) (p := 27) rfl ?_); refine store_event (t := 37) (p := 27) (v := ?vo) (w1 := w2.setCell ⟨E.j, 2, none⟩ (.slice AR2 (s.rd.length + 1) cR2)) ?hg ?ho ?hn ?hr ?_; (case ho => rfl); (case hg => rfl); (case hn => rfl); (case hr => first | (go_simp; done) | (go_simp; rfl)); intro w3 hw; have hK3 : ∀ i, w.heap.size ≤ i → i < w1.heap.size → w3.heap[i]? = w1.heap[i]? := (fun i h1 h2 => by rw [hw]; exact (Below.heap_setCell w2 ⟨E.j, 2, none⟩ _ i (fun (he : i = E.j) => by have := HJ.out.jlt; omega)).trans (HG2.out.block i h2 (fun he => by have := Kd.R_lt HJ.out.R i he.symm; omega))); replace hK3 := Aside0.mk hK3; have J3 := J2.out; have HB3 := HB2.out.setCell (p := ⟨E.j, 2, none⟩) (Nat.le_trans J1.out.bl J1.out.jl : E.b ≤ E.j) (.slice AR2 (s.rd.length + 1) cR2); rw [← hw] at J3 HB3; replace J3 := Aside0.mk J3; replace HB3 := Aside0.mk HB3; clear hw d2 e2; have c0 : w3.cell? ⟨E.j, 0, none⟩ = some (.slice (some ⟨S, 0, none⟩) E.n E.cS) := (blk_cell J3.out.blk 0).trans (congrArg some HVS.out); obtain ⟨f0_, f1_⟩ := Kd.R_celln (enc := Value.int .i64) (h1 := fun _ => rfl) (0 : Int) (by have := J3.out.S; unfold JE.vS at this; rw [HAS.out] at this; exact this) (k : Int) (by omega) (by have := HK.out; omega); simp only [Int.toNat_natCast] at f0_ f1_; have J4 := J3.out.state HAS.out k 2; have HB4 := HB3.out.setCell (p := ⟨S, k, none⟩) (Nat.le_trans J3.out.bl HBS.out : E.b ≤ S) (.int .i64 2); have J5 := J4.state HAS.out k 1; have HB5 := HB4.setCell (p := ⟨S, k, none⟩) (Nat.le_trans J3.out.bl HBS.out : E.b ≤ S) (.int .i64 1); have c04 : (w3.setCell ⟨S, k, none⟩ (.int .i64 2)).cell? ⟨E.j, 0, none⟩ = some (.slice (some ⟨S, 0, none⟩) E.n E.cS) := (blk_cell J4.blk 0).trans (congrArg some HVS.out); obtain ⟨f04, f14⟩ := Kd.R_celln (enc := Value.int .i64) (h1 := fun _ => rfl) (0 : Int) (by have := J4.S; unfold JE.vS at this; rw [HAS.out] at this; exact this) (k : Int) (by omega) (by have := HK.out; omega); simp only [Int.toNat_natCast] at f04 f14; have c15 : ((w3.setCell ⟨S, k, none⟩ (.int .i64 2)).setCell ⟨S, k, none⟩ (.int .i64 1)).cell? ⟨E.j, 1, none⟩ = some (.slice (some ⟨D, 0, none⟩) (64 * E.n) E.cD) := (blk_cell J5.blk 1).trans (congrArg some HVD.out); have hCv := rows_of hRV.out ((w3.setCell ⟨S, k, none⟩ (.int .i64 2)).setCell ⟨S, k, none⟩ (.int .i64 1)) fun i h1 h2 => (Below.heap_setCell _ ⟨S, k, none⟩ _ i (fun (he : i = S) => by omega)).trans ((Below.heap_setCell w3 ⟨S, k, none⟩ _ i (fun (he : i = S) => by omega)).trans (hK3.out i h1 h2)); obtain ⟨w6, hr6, hD6, hg6⟩ := copy_run (P := Try.prog) (enc := Value.int .u8) (h1 := fun _ => rfl) (0 : Int) E.L 22 22 3 5 Try.underlying22 (by rw [hi5]; simp [hy1]) (lo := 64 * k) (k := 64 * E.n - 64 * k) (c2 := E.cD - 64 * k) (c := cv) (by have := J5.D; rw [HVD.out] at this; exact this) hCv (by have := HK.out; omega) (by have := HK.out; omega) (by omega); rw [hl64] at hr6; have J6 := Aside0.mk (J5.bytes HAD.out (by rw [HVD.out]; exact hD6) hg6); have HB6 := Aside0.mk (HB5.grown hg6 (Nat.le_trans J3.out.bl J5.disk.ll) (fun i e => by cases e; exact Nat.le_trans J3.out.bl HBD.out)); clear hD6 hg6; replace J4 := Aside0.mk J4; replace J5 := Aside0.mk J5; replace HB4 := Aside0.mk HB4; replace HB5 := Aside0.mk HB5))
    go_ret
    unfold att
    rw [if_neg (by rw [HNC.out, HU.out]; exact HBB.out)]
    have := J6.out
    refine ⟨rfl, ⟨.slice AR2 (s.rd.length + 1) cR2, ?_⟩, HB6.out⟩
    rw [HU.out, HNC.out, HRR.out]
    rw [hl64] at this
    simp only [List.set_set] at this
    exact this
section
variable {E : JE} {w W : World} {vR : Value} {s : PS} {N : Nat}
theorem IsJob.more (h : IsJob E w vR s N) : IsJob E w vR s (N + 1) := ⟨h.disk.more, h.blk, h.S, h.D, h.R, h.jl, h.bg, h.bm, h.bl⟩
theorem IsJob.row (h : IsJob E w vR s N) (hz : Sized E.n N s) (hn : 0 < E.n) : ∃ S, E.AS = some ⟨S, 0, none⟩ ∧ E.L ≤ S := by
  obtain ⟨S, cS, hv, hb, _, _⟩ := Kd.R_form h.S (by rw [hz.st]; exact hn)
  simp only [JE.vS, Value.slice.injEq] at hv
  exact ⟨S, hv.1, hb⟩
theorem IsJob.cell (h : IsJob E w vR s N) {S : Nat} (hS : E.AS = some ⟨S, 0, none⟩) (i : Nat) (hi : i < E.n) : w.cell? ⟨S, i, none⟩ = some (.int .i64 (s.st.getD i 0)) ∧ w.frozen? ⟨S, i, none⟩ = false := by
  have := h.S
  unfold JE.vS at this
  rw [hS] at this
  have := Kd.R_celln (enc := Value.int .i64) (h1 := fun _ => rfl) (0 : Int) this (i : Int) (by omega) (by omega)
  simpa [rdOf] using this
theorem IsJob.states (h : IsJob E w vR s N) : w.cell? ⟨E.j, 0, none⟩ = some (.slice E.AS E.n E.cS) := (blk_cell h.blk 0).trans rfl
end
/-- where a loop stands -/
structure At (E : JE) (w wr : World) (vR : Value) (s : PS) (N : Nat) : Prop where
  job : IsJob E wr vR s N
  sized : Sized E.n N s
  below : Below E.b w wr
set_option maxHeartbeats 8000000 in
set_option maxRecDepth 100000 in
/-- an attempt for each block with a state -/
theorem each_calls {E : JE} {w : World} {vR : Value} {s : PS} {N : Nat} (h : IsJob E w vR s N) (hz : Sized E.n N s) (hE : RightJ E) (hN : N ≤ 900000) (state : Int) :
    Calls Try.prog 94 #[.pointer (some ⟨E.j, 0, none⟩), .int .i64 state] w fun e w' => e = .returned (.tuple #[]) ∧ ∃ vR', At E w w' vR' (iter (stepE E.data E.faults state) s E.n) (N + E.n) := by
  have hlen := hE.len
  have hsize := hE.size
  have hn : E.n ≤ 1024 := by omega
  have c0 := h.states
  have hstart := Aside0.mk (⟨h, hz, Below.refl _ _⟩ : At E w w vR s N)
  replace hE := Aside0.mk hE
  replace hN := Aside0.mk hN
  clear h hz hlen hsize
  go_enter Try.func94, Try.ntmps94
  go_wp2
  clear c0
  go_loopw [11] (fun vi wr => ∃ (i : Nat) (v : Value), i ≤ E.n ∧ vi = .int .i64 (i : Int) ∧ Aside0 (At E w wr v (iter (stepE E.data E.faults state) s i) (N + i))) (fun vi _ => E.n - (intOf vi).toNat)
  case atStart => exact ⟨0, vR, Nat.zero_le _, rfl, hstart⟩
  case round =>
    clear hstart
    obtain ⟨i, v, hi, rfl, hA⟩ := hrel
    obtain ⟨cur, hcur⟩ : ∃ cur, iter (stepE E.data E.faults state) s i = cur := ⟨_, rfl⟩
    rw [hcur] at hA
    by_cases hlt : i < E.n
    · obtain ⟨S, hAS, hSL⟩ := hA.out.job.row hA.out.sized (by omega)
      have c0 := hA.out.job.states
      obtain ⟨f0, _⟩ := hA.out.job.cell hAS i hlt
      rw [hAS] at c0
      have hlti : (i : Int) < (E.n : Int) := by omega
      have hnx : IntKind.i64.wrap ((i : Int) + 1) = (i : Int) + 1 := by rw [i64_w]; unfold wrap64; omega
      obtain ⟨x, hx⟩ : ∃ x, cur.st.getD i 0 = x := ⟨_, rfl⟩
      rw [hx] at f0
      have hstep : iter (stepE E.data E.faults state) s (i + 1) = (if x = state then (att E.data E.faults cur i).1 else cur) := by
        show stepE E.data E.faults state (iter (stepE E.data E.faults state) s i) i = _
        rw [hcur]; unfold stepE; rw [hx]
      have HAS := Aside0.mk hAS
      replace hcur := Aside0.mk hcur
      replace hx := Aside0.mk hx
      clear hAS
      by_cases hst : x = state
      · have hb1 : (x == state) = true := beq_iff_eq.mpr hst
        rw [if_pos hst] at hstep
        replace hstep := Aside0.mk hstep
        clear hst
        go_wp2_with (first | (go_at_call 112; refine (try_calls hA.out.job hA.out.sized hE.out (by have := hN.out; omega) i hlt).mono ?_; rintro e w1 ⟨rfl, v1, hj1, hb1_⟩; have hA1 := Aside0.mk (⟨hj1, hA.out.sized.att _ _ hE.out.len i hlt, hA.out.below.trans hb1_⟩ : At E w w1 v1 (att E.data E.faults cur i).1 (N + i + 1)); clear hj1 hb1_ c0 f0))
        go_roundw
        case rel => exact ⟨i + 1, v1, by omega, by go_num, by rw [hstep.out]; exact hA1⟩
        case measure => simp [intOf]; omega
      · have hb1 : (x == state) = false := beq_eq_false_iff_ne.mpr hst
        rw [if_neg hst] at hstep
        replace hstep := Aside0.mk hstep
        clear hst
        go_wp2
        go_roundw
        case rel => exact ⟨i + 1, v, by omega, by go_num, by rw [hstep.out]; exact ⟨⟨hA.out.job.more, hA.out.sized.more (by omega), hA.out.below⟩⟩⟩
        case measure => simp [intOf]; omega
    · obtain rfl : i = E.n := by omega
      go_wp2
      go_end0
      exact ⟨rfl, v, by rw [hcur]; exact hA.out⟩
set_option maxHeartbeats 8000000 in
set_option maxRecDepth 100000 in
/-- from the end on -/
theorem back_calls {E : JE} {w : World} {vR : Value} {s : PS} {N : Nat} (h : IsJob E w vR s N) (hz : Sized E.n N s) (hE : RightJ E) (hN : N ≤ 900000) :
    Calls Try.prog 93 #[.pointer (some ⟨E.j, 0, none⟩)] w fun e w' => e = .returned (.tuple #[]) ∧ ∃ vR', At E w w' vR' (iter (stepB E.data E.faults E.n) (s, false) E.n).1 (N + E.n) := by
  have hlen := hE.len
  have hsize := hE.size
  have hn : E.n ≤ 1024 := by omega
  have c0 := h.states
  have hw0 : IntKind.i64.wrap ((E.n : Int) - 1) = (E.n : Int) - 1 := by rw [i64_w]; unfold wrap64; omega
  have hstart := Aside0.mk (⟨h, hz, Below.refl _ _⟩ : At E w w vR s N)
  replace hE := Aside0.mk hE
  replace hN := Aside0.mk hN
  clear h hz hlen hsize
  go_enter Try.func93, Try.ntmps93
  go_wp2
  clear c0 hw0
  go_loopw [2, 3] (fun vg vi wr => ∃ (i : Nat) (v : Value) (b : Bool) (cur : PS), i ≤ E.n ∧ vi = .int .i64 ((E.n : Int) - 1 - (i : Int)) ∧ vg = .bool b ∧ iter (stepB E.data E.faults E.n) (s, false) i = (cur, b) ∧ Aside0 (At E w wr v cur (N + i))) (fun _ vi _ => (intOf vi + 1).toNat)
  case atStart => exact ⟨0, vR, false, s, Nat.zero_le _, by go_num, rfl, rfl, hstart⟩
  case round =>
    clear hstart
    obtain ⟨i, v, b, cur, hi, rfl, rfl, hcur, hA⟩ := hrel
    obtain ⟨p, hp⟩ : ∃ p : Int, (E.n : Int) - 1 - (i : Int) = p := ⟨_, rfl⟩
    rw [hp]
    by_cases hlt : i < E.n
    · obtain ⟨S, hAS, hSL⟩ := hA.out.job.row hA.out.sized (by omega)
      have c0 := hA.out.job.states
      obtain ⟨k, hk⟩ : ∃ k : Nat, E.n - 1 - i = k := ⟨_, rfl⟩
      have hkn : k < E.n := by omega
      obtain rfl : p = (k : Int) := by omega
      obtain ⟨f0, _⟩ := hA.out.job.cell hAS k hkn
      rw [hAS] at c0
      have hp0 : (0 : Int) ≤ (k : Int) := by omega
      have hlti : (k : Int) < (E.n : Int) := by omega
      have hnx : IntKind.i64.wrap ((k : Int) - 1) = (E.n : Int) - 1 - ((i + 1 : Nat) : Int) := by rw [i64_w]; unfold wrap64; omega
      obtain ⟨x, hx⟩ : ∃ x, cur.st.getD k 0 = x := ⟨_, rfl⟩
      rw [hx] at f0
      have hstep : iter (stepB E.data E.faults E.n) (s, false) (i + 1) = (if x ≠ 3 then (cur, false) else if b = true then (cur, b) else ((att E.data E.faults cur k).1, !(att E.data E.faults cur k).2)) := by
        show stepB E.data E.faults E.n (iter (stepB E.data E.faults E.n) (s, false) i) i = _
        rw [hcur]; unfold stepB; rw [hk]; rw [hx]
      replace hcur := Aside0.mk hcur
      replace hx := Aside0.mk hx
      replace hp := Aside0.mk hp
      replace hk := Aside0.mk hk
      have HNX := Aside0.mk hnx
      clear hAS
      by_cases hst : x = 3
      · have hb1 : (x != 3) = false := by rw [hst]; rfl
        rw [if_neg (by simp [hst])] at hstep
        clear hst
        cases b with
        | true =>
          rw [if_pos rfl] at hstep
          replace hstep := Aside0.mk hstep
          go_wp2
          go_roundw
          case rel => exact ⟨i + 1, v, true, cur, by omega, congrArg (Value.int .i64) (by omega), rfl, hstep.out, ⟨⟨hA.out.job.more, hA.out.sized.more (by omega), hA.out.below⟩⟩⟩
          case measure => simp [intOf]; have := HNX.out; have := hp.out; omega
        | false =>
          rw [if_neg (by simp)] at hstep
          replace hstep := Aside0.mk hstep
          go_wp2_with (first | (go_at_call 112; refine (try_calls hA.out.job hA.out.sized hE.out (by have := hN.out; omega) k hkn).mono ?_; rintro e w1 ⟨rfl, v1, hj1, hb1_⟩; have hA1 := Aside0.mk (⟨hj1, hA.out.sized.att _ _ hE.out.len k hkn, hA.out.below.trans hb1_⟩ : At E w w1 v1 (att E.data E.faults cur k).1 (N + i + 1)); clear hj1 hb1_ c0 f0))
          go_roundw
          case rel => exact ⟨i + 1, v1, _, _, by omega, congrArg (Value.int .i64) (by omega), rfl, hstep.out, hA1⟩
          case measure => simp [intOf]; have := HNX.out; have := hp.out; omega
      · have hb1 : (x != 3) = true := bne_iff_ne.mpr hst
        rw [if_pos hst] at hstep
        replace hstep := Aside0.mk hstep
        clear hst
        go_wp2
        go_roundw
        case rel => exact ⟨i + 1, v, false, cur, by omega, congrArg (Value.int .i64) (by omega), rfl, hstep.out, ⟨⟨hA.out.job.more, hA.out.sized.more (by omega), hA.out.below⟩⟩⟩
        case measure => simp [intOf]; have := HNX.out; have := hp.out; omega
    · obtain rfl : i = E.n := by omega
      have hp0 : ¬ (0 : Int) ≤ p := by omega
      go_wp2
      go_end0
      exact ⟨rfl, v, by first | exact hA.out | (rw [hcur]; exact hA.out)⟩
/-- the inner loop: q blocks have been skipped behind block i -/
structure FwdIn (E : JE) (w : World) (s : PS) (N i sk : Nat) (wq : World) (q p : Nat) (v : Value) (cu : PS) : Prop where
  pe : p = i + q
  it : iter (stepF E.data E.faults E.skip) (s, 0) (i + 1 + q) = (cu, (sk : Int) - (q : Int))
  at_ : At E w wq v cu (N + (i + 1 + q))
set_option maxHeartbeats 8000000 in
set_option maxRecDepth 100000 in
/-- from the first block on -/
theorem fwd_calls {E : JE} {w : World} {vR : Value} {s : PS} {N : Nat} (h : IsJob E w vR s N) (hz : Sized E.n N s) (hE : RightJ E) (hN : N ≤ 900000) (hs0 : 0 ≤ E.skip) (hs1 : E.skip ≤ 64) :
    Calls Try.prog 92 #[.pointer (some ⟨E.j, 0, none⟩)] w fun e w' => e = .returned (.tuple #[]) ∧ ∃ vR', At E w w' vR' (iter (stepF E.data E.faults E.skip) (s, 0) E.n).1 (N + E.n) := by
  have hlen := hE.len
  have hsize := hE.size
  have hn : E.n ≤ 1024 := by omega
  obtain ⟨m1, hm1⟩ : ∃ m1 : Int, (E.n : Int) - 1 = m1 := ⟨_, rfl⟩
  have hw0 : wrap64 ((E.n : Int) - 1) = m1 := by unfold wrap64; omega
  have HM1 := Aside0.mk hm1
  have hstart := Aside0.mk (⟨h, hz, Below.refl _ _⟩ : At E w w vR s N)
  replace hE := Aside0.mk hE
  replace hN := Aside0.mk hN
  clear h hz hlen hsize hm1
  go_enter Try.func92, Try.ntmps92
  go_wp2
  go_loopw [2] (fun vi wr => ∃ (i : Nat) (v : Value) (c : Int) (cur : PS), i ≤ E.n ∧ vi = .int .i64 (i : Int) ∧ (c = 0 ∨ i = E.n) ∧ iter (stepF E.data E.faults E.skip) (s, 0) i = (cur, c) ∧ Aside0 (At E w wr v cur (N + i))) (fun vi _ => E.n - (intOf vi).toNat)
  case atStart => exact ⟨0, vR, 0, s, Nat.zero_le _, rfl, .inl rfl, rfl, hstart⟩
  case round =>
    clear hstart
    obtain ⟨i, v, c, cur, hi, rfl, hc, hcur, hA⟩ := hrel
    have c0 := hA.out.job.states
    by_cases hlt : i < E.n
    · obtain rfl : c = 0 := by omega
      clear hc
      have hlti : (i : Int) < (E.n : Int) := by omega
      have hnx : IntKind.i64.wrap ((i : Int) + 1) = (i : Int) + 1 := by rw [i64_w]; unfold wrap64; omega
      have hstep : iter (stepF E.data E.faults E.skip) (s, 0) (i + 1) = (if (att E.data E.faults cur i).2 = true then ((att E.data E.faults cur i).1, 0) else ((att E.data E.faults cur i).1, E.skip)) := by
        show stepF E.data E.faults E.skip (iter (stepF E.data E.faults E.skip) (s, 0) i) i = _
        rw [hcur]; unfold stepF; rw [if_neg (by simp)]
      have htry := try_calls hA.out.job hA.out.sized hE.out (by have := hN.out; omega) i hlt
      obtain ⟨S, hAS, hSL⟩ := hA.out.job.row hA.out.sized (by omega)
      have hsz := Aside0.mk (hA.out.sized.att E.data E.faults hE.out.len i hlt)
      obtain ⟨⟨s1, ok⟩, hatt⟩ : ∃ p, att E.data E.faults cur i = p := ⟨_, rfl⟩
      rw [hatt] at htry hstep hsz
      simp only at htry hstep hsz
      have HAS := Aside0.mk hAS
      replace hcur := Aside0.mk hcur
      replace hatt := Aside0.mk hatt
      clear hAS
      cases ok with
      | true =>
        rw [if_pos rfl] at hstep
        replace hstep := Aside0.mk hstep
        go_wp2_with (first | (go_at_call 112; refine htry.mono ?_; rintro e w1 ⟨rfl, v1, hj1, hb1_⟩; have hA1 := Aside0.mk (⟨hj1, hsz.out, hA.out.below.trans hb1_⟩ : At E w w1 v1 s1 (N + i + 1)); clear hj1 hb1_ c0))
        go_roundw
        case rel => exact ⟨i + 1, v1, 0, s1, by omega, by go_num, .inl rfl, hstep.out, hA1⟩
        case measure => simp [intOf]; omega
      | false =>
        rw [if_neg (by simp)] at hstep
        replace hstep := Aside0.mk hstep
        obtain ⟨rem, hrem⟩ : ∃ rem : Nat, E.n - 1 - i = rem := ⟨_, rfl⟩
        have hw1 : wrap64 (m1 - (i : Int)) = (rem : Int) := by have := HM1.out; unfold wrap64; omega
        replace hrem := Aside0.mk hrem
        obtain ⟨sk, hsk⟩ : ∃ sk : Nat, E.skip = (sk : Int) := ⟨E.skip.toNat, by omega⟩
        have c5 : ∀ W : World, ∀ v, ∀ z, ∀ M, IsJob E W v z M → W.cell? ⟨E.j, 5, none⟩ = some (.int .i64 (sk : Int)) := fun W v z M hJ => ((blk_cell hJ.blk 5).trans rfl).trans (by rw [← hsk]; rfl)
        replace c5 := Aside0.mk c5
        have HSK := Aside0.mk hsk
        clear hsk
        by_cases hle : (sk : Int) ≤ (rem : Int)
        · have hle1 := eq_true hle
          have hM1 : sk ≤ sk := by omega
          have hM2 : sk ≤ rem := by omega
          have hM3 : sk = sk ∨ sk = rem := by omega
          go_wp2_with (first | (go_at_call 112; refine htry.mono ?_; rintro e w1 ⟨rfl, v1, hj1, hb1_⟩; have c01 := hj1.drew.states; have c51 := c5.out w1.drew _ _ _ hj1.drew; rw [HAS.out] at c01; have hA1 := Aside0.mk (⟨hj1.drew, hsz.out, below_drew (hA.out.below.trans hb1_)⟩ : At E w w1.drew v1 s1 (N + i + 1)); clear hj1 hb1_ c0))
          refine start_ (n := 16) (S := fun w' => w'.cell? ⟨E.j, 0, none⟩ = some (.slice (some ⟨S, 0, none⟩) E.n E.cS) ∧ w'.cell? ⟨E.j, 5, none⟩ = some (.int .i64 (sk : Int))) (ds := []) #[false, false, false, false, false, false, false, false, false, false, false, false, false, false, false, false] (by kernel_rfl) rfl rfl ⟨c01, c51⟩ (fun hHeld => ?_)
          refine pure_ (i := 0) (N := some 16) (v := ?_) (a' := ?_) #[true, false, false, false, false, false, false, false, false, false, false, false, false, false, false, false] rfl rfl (by kernel_rfl) (fun _ _ _ h => h) (Or.inl ⟨by rfl, ?_⟩) ?_ ?_
          rotate_left
          · intro w'
            go_simp
            with_reducible rfl
          rotate_left
          · simp only [Act.put, List.setIfInBounds_toArray, List.set_cons_zero, List.set_cons_succ, i64_w, i32_w]
            rfl
          refine pure_ (i := 1) (N := some 17) (v := ?_) (a' := ?_) #[true, true, false, false, false, false, false, false, false, false, false, false, false, false, false, false] rfl rfl (by kernel_rfl) (fun _ _ _ h => h) (Or.inl ⟨by rfl, ?_⟩) ?_ ?_
          rotate_left
          · intro w'
            go_simp
            with_reducible rfl
          rotate_left
          · simp only [Act.put, List.setIfInBounds_toArray, List.set_cons_zero, List.set_cons_succ, i64_w, i32_w]
            rfl
          refine pure_ (i := 2) (N := some 18) (v := ?_) (a' := ?_) #[true, true, true, false, false, false, false, false, false, false, false, false, false, false, false, false] rfl rfl (by kernel_rfl) (fun _ _ _ h => h) (Or.inl ⟨by rfl, ?_⟩) ?_ ?_
          rotate_left
          · intro w'
            go_simp
            with_reducible rfl
          rotate_left
          · simp only [Act.put, List.setIfInBounds_toArray, List.set_cons_zero, List.set_cons_succ, i64_w, i32_w]
            rfl
          refine pure_ (i := 3) (N := some 19) (v := ?_) (a' := ?_) #[true, true, true, true, false, false, false, false, false, false, false, false, false, false, false, false] rfl rfl (by kernel_rfl) (fun _ _ _ h => h) (Or.inl ⟨by rfl, ?_⟩) ?_ ?_
          rotate_left
          · intro w'
            go_simp
            with_reducible rfl
          rotate_left
          · simp only [Act.put, List.setIfInBounds_toArray, List.set_cons_zero, List.set_cons_succ, i64_w, i32_w]
            rfl
          refine pure_ (i := 5) (N := some 21) (v := ?_) (a' := ?_) #[true, true, true, true, false, true, false, false, false, false, false, false, false, false, false, false] rfl rfl (by kernel_rfl) (fun _ _ _ h => h) (Or.inl ⟨by rfl, ?_⟩) ?_ ?_
          rotate_left
          · intro w'
            go_simp
            with_reducible rfl
          rotate_left
          · simp only [Act.put, List.setIfInBounds_toArray, List.set_cons_zero, List.set_cons_succ, i64_w, i32_w]
            rfl
          refine pure_ (i := 6) (N := some 22) (v := ?_) (a' := ?_) #[true, true, true, true, false, true, true, false, false, false, false, false, false, false, false, false] rfl rfl (by kernel_rfl) (fun _ _ _ h => h) (Or.inl ⟨by rfl, ?_⟩) ?_ ?_
          rotate_left
          · intro w'
            go_simp
            with_reducible rfl
          rotate_left
          · simp only [Act.put, List.setIfInBounds_toArray, List.set_cons_zero, List.set_cons_succ, i64_w, i32_w]
            rfl
          refine pure_ (i := 7) (N := some 23) (v := ?_) (a' := ?_) #[true, true, true, true, false, true, true, true, false, false, false, false, false, false, false, false] rfl rfl (by kernel_rfl) (fun _ _ _ h => h) (Or.inl ⟨by rfl, ?_⟩) ?_ ?_
          rotate_left
          · intro w'
            go_simp
            with_reducible rfl
          rotate_left
          · simp only [Act.put, List.setIfInBounds_toArray, List.set_cons_zero, List.set_cons_succ, i64_w, i32_w]
            rfl
          refine pure_ (i := 8) (N := some 24) (v := ?_) (a' := ?_) #[true, true, true, true, false, true, true, true, true, false, false, false, false, false, false, false] rfl rfl (by kernel_rfl) (fun _ _ _ h => h) (Or.inl ⟨by rfl, ?_⟩) ?_ ?_
          rotate_left
          · intro w'
            go_simp
            with_reducible rfl
          rotate_left
          · simp only [Act.put, List.setIfInBounds_toArray, List.set_cons_zero, List.set_cons_succ, i64_w, i32_w]
            rfl
          refine pure_ (i := 12) (N := some 28) (v := ?_) (a' := ?_) #[true, true, true, true, false, true, true, true, true, false, false, false, true, false, false, false] rfl rfl (by kernel_rfl) (fun _ _ _ h => h) (Or.inl ⟨by rfl, ?_⟩) ?_ ?_
          rotate_left
          · intro w'
            go_simp
            with_reducible rfl
          rotate_left
          · simp only [Act.put, List.setIfInBounds_toArray, List.set_cons_zero, List.set_cons_succ, i64_w, i32_w]
            rfl
          refine pure_ (i := 15) (N := some 31) (v := ?_) (a' := ?_) #[true, true, true, true, false, true, true, true, true, false, false, false, true, false, false, true] rfl rfl (by kernel_rfl) (fun _ _ _ h => h) (Or.inl ⟨by rfl, ?_⟩) ?_ ?_
          rotate_left
          · intro w'
            go_simp
            with_reducible rfl
          rotate_left
          · simp only [Act.put, List.setIfInBounds_toArray, List.set_cons_zero, List.set_cons_succ, i64_w, i32_w]
            rfl
          refine take_ (i := 4) (N := some 20) (v := ?_) (a' := ?_) #[true, true, true, true, true, true, true, true, true, false, false, false, true, false, false, true] rfl rfl (by kernel_rfl) (fun _ _ _ h => h) (Or.inl ⟨by rfl, ?_⟩) hHeld ?_ ?_
          rotate_left
          · rintro w' ⟨s0, s1⟩
            go_simp
            with_reducible rfl
          rotate_left
          · simp only [Act.put, List.setIfInBounds_toArray, List.set_cons_zero, List.set_cons_succ, i64_w, i32_w]
            rfl
          refine take_ (i := 9) (N := some 25) (v := ?_) (a' := ?_) #[true, true, true, true, true, true, true, true, true, true, false, false, true, false, false, true] rfl rfl (by kernel_rfl) (fun _ _ _ h => h) (Or.inl ⟨by rfl, ?_⟩) hHeld ?_ ?_
          rotate_left
          · rintro w' ⟨s0, s1⟩
            go_simp
            with_reducible rfl
          rotate_left
          · simp only [Act.put, List.setIfInBounds_toArray, List.set_cons_zero, List.set_cons_succ, i64_w, i32_w]
            rfl
          refine pure_ (i := 10) (N := some 26) (v := ?_) (a' := ?_) #[true, true, true, true, true, true, true, true, true, true, true, false, true, false, false, true] rfl rfl (by kernel_rfl) (fun _ _ _ h => h) (Or.inl ⟨by rfl, ?_⟩) ?_ ?_
          rotate_left
          · intro w'
            go_simp
            with_reducible rfl
          rotate_left
          · simp only [Act.put, List.setIfInBounds_toArray, List.set_cons_zero, List.set_cons_succ, i64_w, i32_w]
            rfl
          refine pure_ (i := 11) (N := some 27) (v := ?_) (a' := ?_) #[true, true, true, true, true, true, true, true, true, true, true, true, true, false, false, true] rfl rfl (by kernel_rfl) (fun _ _ _ h => h) (Or.inl ⟨by rfl, ?_⟩) ?_ ?_
          rotate_left
          · intro w'
            go_simp
            with_reducible rfl
          rotate_left
          · simp only [Act.put, List.setIfInBounds_toArray, List.set_cons_zero, List.set_cons_succ, i64_w, i32_w]
            rfl
          refine pure_ (i := 13) (N := some 29) (v := ?_) (a' := ?_) #[true, true, true, true, true, true, true, true, true, true, true, true, true, true, false, true] rfl rfl (by kernel_rfl) (fun _ _ _ h => h) (Or.inl ⟨by rfl, ?_⟩) ?_ ?_
          rotate_left
          · intro w'
            go_simp
            with_reducible rfl
          rotate_left
          · simp only [Act.put, List.setIfInBounds_toArray, List.set_cons_zero, List.set_cons_succ, i64_w, i32_w]
            rfl
          refine pure_ (i := 14) (N := some 30) (v := ?_) (a' := ?_) #[true, true, true, true, true, true, true, true, true, true, true, true, true, true, true, true] rfl rfl (by kernel_rfl) (fun _ _ _ h => h) (Or.inl ⟨by rfl, ?_⟩) ?_ ?_
          rotate_left
          · intro w'
            go_simp
            with_reducible rfl
          rotate_left
          · simp only [Act.put, List.setIfInBounds_toArray, List.set_cons_zero, List.set_cons_succ, i64_w, i32_w]
            rfl
          refine done_ (by kernel_rfl) ?_
          clear c01 c51
          generalize w1.drew = wd at hA1 ⊢
          go_wp2
          go_loopw [2, 31] (fun va vq wq => ∃ (q p : Nat) (v : Value) (cu : PS), q ≤ sk ∧ va = .int .i64 (p : Int) ∧ vq = .int .i64 (q : Int) ∧ Aside0 (FwdIn E w s N i sk wq q p v cu)) (fun _ vq _ => sk - (intOf vq).toNat)
          case atStart => exact ⟨0, i, v1, s1, Nat.zero_le _, rfl, rfl, ⟨rfl, by rw [show i + 1 + 0 = i + 1 from rfl, hstep.out, HSK.out]; simp, hA1.out⟩⟩
          case round =>
            obtain ⟨q, p, v2, cu, hq, rfl, rfl, hQ⟩ := hrel
            by_cases hqm : q < sk
            · have hqi : (q : Int) < (sk : Int) := by omega
              obtain ⟨r, hr⟩ : ∃ r : Nat, i + 1 + q = r := ⟨_, rfl⟩
              have hrn : r < E.n := by have := hrem.out; omega
              have hpr : IntKind.i64.wrap ((p : Int) + 1) = (r : Int) := by have := hQ.out.pe; rw [i64_w]; unfold wrap64; omega
              have hqx : IntKind.i64.wrap ((q : Int) + 1) = (q : Int) + 1 := by rw [i64_w]; unfold wrap64; omega
              have hri : (r : Int) < (E.n : Int) := by omega
              have cq := hQ.out.at_.job.states
              rw [HAS.out] at cq
              obtain ⟨fq, gq⟩ := hQ.out.at_.job.cell HAS.out r hrn
              have hAq : At E w (wr.setCell ⟨S, r, none⟩ (.int .i64 3)) v2 (skipped cu r) (N + (i + 1 + q)) := ⟨hQ.out.at_.job.state HAS.out r 3, hQ.out.at_.sized.skipped r, hQ.out.at_.below.setCell (p := ⟨S, r, none⟩) (Nat.le_trans hQ.out.at_.job.bl hSL : E.b ≤ S) (.int .i64 3)⟩
              have hsq : iter (stepF E.data E.faults E.skip) (s, 0) (i + 1 + (q + 1)) = (skipped cu r, (sk : Int) - ((q + 1 : Nat) : Int)) := by
                show stepF E.data E.faults E.skip (iter (stepF E.data E.faults E.skip) (s, 0) (i + 1 + q)) (i + 1 + q) = _
                rw [hQ.out.it, hr]; unfold stepF; rw [if_pos (by show (0 : Int) < (sk : Int) - (q : Int); omega)]
                show (skipped cu r, (sk : Int) - (q : Int) - 1) = _
                congr 1; omega
              replace hAq := Aside0.mk hAq
              replace hsq := Aside0.mk hsq
              have HQ1 := Aside0.mk hQ.out.pe
              replace hr := Aside0.mk hr
              clear hQ
              go_wp2
              go_roundw
              case rel => exact ⟨q + 1, r, v2, skipped cu r, by omega, rfl, by go_num, ⟨by have := hr.out; omega, hsq.out, ⟨hAq.out.job.more, hAq.out.sized.more (by omega), hAq.out.below⟩⟩⟩
              case measure => simp [intOf]; omega
            · obtain rfl : sk = q := by omega
              obtain ⟨r, hr⟩ : ∃ r : Nat, i + 1 + sk = r := ⟨_, rfl⟩
              have hpr : IntKind.i64.wrap ((p : Int) + 1) = (r : Int) := by have := hQ.out.pe; have := hrem.out; rw [i64_w]; unfold wrap64; omega
              replace hr := Aside0.mk hr
              go_wp2
              go_roundw
              case rel => exact ⟨r, v2, (sk : Int) - (sk : Int), cu, by have := hr.out; have := hrem.out; omega, rfl, by have := hr.out; have := hrem.out; omega, by have := hQ.out.it; rw [hr.out] at this; exact this, ⟨by have := hQ.out.at_; rw [hr.out] at this; exact this⟩⟩
              case measure => simp [intOf]; have := hr.out; omega
        · have hle1 := eq_false hle
          have hM1 : rem ≤ sk := by omega
          have hM2 : rem ≤ rem := by omega
          have hM3 : rem = sk ∨ rem = rem := by omega
          go_wp2_with (first | (go_at_call 112; refine htry.mono ?_; rintro e w1 ⟨rfl, v1, hj1, hb1_⟩; have c01 := hj1.drew.states; have c51 := c5.out w1.drew _ _ _ hj1.drew; rw [HAS.out] at c01; have hA1 := Aside0.mk (⟨hj1.drew, hsz.out, below_drew (hA.out.below.trans hb1_)⟩ : At E w w1.drew v1 s1 (N + i + 1)); clear hj1 hb1_ c0))
          refine start_ (n := 16) (S := fun w' => w'.cell? ⟨E.j, 0, none⟩ = some (.slice (some ⟨S, 0, none⟩) E.n E.cS) ∧ w'.cell? ⟨E.j, 5, none⟩ = some (.int .i64 (sk : Int))) (ds := []) #[false, false, false, false, false, false, false, false, false, false, false, false, false, false, false, false] (by kernel_rfl) rfl rfl ⟨c01, c51⟩ (fun hHeld => ?_)
          refine pure_ (i := 0) (N := some 16) (v := ?_) (a' := ?_) #[true, false, false, false, false, false, false, false, false, false, false, false, false, false, false, false] rfl rfl (by kernel_rfl) (fun _ _ _ h => h) (Or.inl ⟨by rfl, ?_⟩) ?_ ?_
          rotate_left
          · intro w'
            go_simp
            with_reducible rfl
          rotate_left
          · simp only [Act.put, List.setIfInBounds_toArray, List.set_cons_zero, List.set_cons_succ, i64_w, i32_w]
            rfl
          refine pure_ (i := 1) (N := some 17) (v := ?_) (a' := ?_) #[true, true, false, false, false, false, false, false, false, false, false, false, false, false, false, false] rfl rfl (by kernel_rfl) (fun _ _ _ h => h) (Or.inl ⟨by rfl, ?_⟩) ?_ ?_
          rotate_left
          · intro w'
            go_simp
            with_reducible rfl
          rotate_left
          · simp only [Act.put, List.setIfInBounds_toArray, List.set_cons_zero, List.set_cons_succ, i64_w, i32_w]
            rfl
          refine pure_ (i := 2) (N := some 18) (v := ?_) (a' := ?_) #[true, true, true, false, false, false, false, false, false, false, false, false, false, false, false, false] rfl rfl (by kernel_rfl) (fun _ _ _ h => h) (Or.inl ⟨by rfl, ?_⟩) ?_ ?_
          rotate_left
          · intro w'
            go_simp
            with_reducible rfl
          rotate_left
          · simp only [Act.put, List.setIfInBounds_toArray, List.set_cons_zero, List.set_cons_succ, i64_w, i32_w]
            rfl
          refine pure_ (i := 3) (N := some 19) (v := ?_) (a' := ?_) #[true, true, true, true, false, false, false, false, false, false, false, false, false, false, false, false] rfl rfl (by kernel_rfl) (fun _ _ _ h => h) (Or.inl ⟨by rfl, ?_⟩) ?_ ?_
          rotate_left
          · intro w'
            go_simp
            with_reducible rfl
          rotate_left
          · simp only [Act.put, List.setIfInBounds_toArray, List.set_cons_zero, List.set_cons_succ, i64_w, i32_w]
            rfl
          refine pure_ (i := 5) (N := some 21) (v := ?_) (a' := ?_) #[true, true, true, true, false, true, false, false, false, false, false, false, false, false, false, false] rfl rfl (by kernel_rfl) (fun _ _ _ h => h) (Or.inl ⟨by rfl, ?_⟩) ?_ ?_
          rotate_left
          · intro w'
            go_simp
            with_reducible rfl
          rotate_left
          · simp only [Act.put, List.setIfInBounds_toArray, List.set_cons_zero, List.set_cons_succ, i64_w, i32_w]
            rfl
          refine pure_ (i := 6) (N := some 22) (v := ?_) (a' := ?_) #[true, true, true, true, false, true, true, false, false, false, false, false, false, false, false, false] rfl rfl (by kernel_rfl) (fun _ _ _ h => h) (Or.inl ⟨by rfl, ?_⟩) ?_ ?_
          rotate_left
          · intro w'
            go_simp
            with_reducible rfl
          rotate_left
          · simp only [Act.put, List.setIfInBounds_toArray, List.set_cons_zero, List.set_cons_succ, i64_w, i32_w]
            rfl
          refine pure_ (i := 7) (N := some 23) (v := ?_) (a' := ?_) #[true, true, true, true, false, true, true, true, false, false, false, false, false, false, false, false] rfl rfl (by kernel_rfl) (fun _ _ _ h => h) (Or.inl ⟨by rfl, ?_⟩) ?_ ?_
          rotate_left
          · intro w'
            go_simp
            with_reducible rfl
          rotate_left
          · simp only [Act.put, List.setIfInBounds_toArray, List.set_cons_zero, List.set_cons_succ, i64_w, i32_w]
            rfl
          refine pure_ (i := 8) (N := some 24) (v := ?_) (a' := ?_) #[true, true, true, true, false, true, true, true, true, false, false, false, false, false, false, false] rfl rfl (by kernel_rfl) (fun _ _ _ h => h) (Or.inl ⟨by rfl, ?_⟩) ?_ ?_
          rotate_left
          · intro w'
            go_simp
            with_reducible rfl
          rotate_left
          · simp only [Act.put, List.setIfInBounds_toArray, List.set_cons_zero, List.set_cons_succ, i64_w, i32_w]
            rfl
          refine pure_ (i := 12) (N := some 28) (v := ?_) (a' := ?_) #[true, true, true, true, false, true, true, true, true, false, false, false, true, false, false, false] rfl rfl (by kernel_rfl) (fun _ _ _ h => h) (Or.inl ⟨by rfl, ?_⟩) ?_ ?_
          rotate_left
          · intro w'
            go_simp
            with_reducible rfl
          rotate_left
          · simp only [Act.put, List.setIfInBounds_toArray, List.set_cons_zero, List.set_cons_succ, i64_w, i32_w]
            rfl
          refine pure_ (i := 15) (N := some 31) (v := ?_) (a' := ?_) #[true, true, true, true, false, true, true, true, true, false, false, false, true, false, false, true] rfl rfl (by kernel_rfl) (fun _ _ _ h => h) (Or.inl ⟨by rfl, ?_⟩) ?_ ?_
          rotate_left
          · intro w'
            go_simp
            with_reducible rfl
          rotate_left
          · simp only [Act.put, List.setIfInBounds_toArray, List.set_cons_zero, List.set_cons_succ, i64_w, i32_w]
            rfl
          refine take_ (i := 4) (N := some 20) (v := ?_) (a' := ?_) #[true, true, true, true, true, true, true, true, true, false, false, false, true, false, false, true] rfl rfl (by kernel_rfl) (fun _ _ _ h => h) (Or.inl ⟨by rfl, ?_⟩) hHeld ?_ ?_
          rotate_left
          · rintro w' ⟨s0, s1⟩
            go_simp
            with_reducible rfl
          rotate_left
          · simp only [Act.put, List.setIfInBounds_toArray, List.set_cons_zero, List.set_cons_succ, i64_w, i32_w]
            rfl
          refine take_ (i := 9) (N := some 25) (v := ?_) (a' := ?_) #[true, true, true, true, true, true, true, true, true, true, false, false, true, false, false, true] rfl rfl (by kernel_rfl) (fun _ _ _ h => h) (Or.inl ⟨by rfl, ?_⟩) hHeld ?_ ?_
          rotate_left
          · rintro w' ⟨s0, s1⟩
            go_simp
            with_reducible rfl
          rotate_left
          · simp only [Act.put, List.setIfInBounds_toArray, List.set_cons_zero, List.set_cons_succ, i64_w, i32_w]
            rfl
          refine pure_ (i := 10) (N := some 26) (v := ?_) (a' := ?_) #[true, true, true, true, true, true, true, true, true, true, true, false, true, false, false, true] rfl rfl (by kernel_rfl) (fun _ _ _ h => h) (Or.inl ⟨by rfl, ?_⟩) ?_ ?_
          rotate_left
          · intro w'
            go_simp
            with_reducible rfl
          rotate_left
          · simp only [Act.put, List.setIfInBounds_toArray, List.set_cons_zero, List.set_cons_succ, i64_w, i32_w]
            rfl
          refine pure_ (i := 11) (N := some 27) (v := ?_) (a' := ?_) #[true, true, true, true, true, true, true, true, true, true, true, true, true, false, false, true] rfl rfl (by kernel_rfl) (fun _ _ _ h => h) (Or.inl ⟨by rfl, ?_⟩) ?_ ?_
          rotate_left
          · intro w'
            go_simp
            with_reducible rfl
          rotate_left
          · simp only [Act.put, List.setIfInBounds_toArray, List.set_cons_zero, List.set_cons_succ, i64_w, i32_w]
            rfl
          refine pure_ (i := 13) (N := some 29) (v := ?_) (a' := ?_) #[true, true, true, true, true, true, true, true, true, true, true, true, true, true, false, true] rfl rfl (by kernel_rfl) (fun _ _ _ h => h) (Or.inl ⟨by rfl, ?_⟩) ?_ ?_
          rotate_left
          · intro w'
            go_simp
            with_reducible rfl
          rotate_left
          · simp only [Act.put, List.setIfInBounds_toArray, List.set_cons_zero, List.set_cons_succ, i64_w, i32_w]
            rfl
          refine pure_ (i := 14) (N := some 30) (v := ?_) (a' := ?_) #[true, true, true, true, true, true, true, true, true, true, true, true, true, true, true, true] rfl rfl (by kernel_rfl) (fun _ _ _ h => h) (Or.inl ⟨by rfl, ?_⟩) ?_ ?_
          rotate_left
          · intro w'
            go_simp
            with_reducible rfl
          rotate_left
          · simp only [Act.put, List.setIfInBounds_toArray, List.set_cons_zero, List.set_cons_succ, i64_w, i32_w]
            rfl
          refine done_ (by kernel_rfl) ?_
          clear c01 c51
          generalize w1.drew = wd at hA1 ⊢
          go_wp2
          go_loopw [2, 31] (fun va vq wq => ∃ (q p : Nat) (v : Value) (cu : PS), q ≤ rem ∧ va = .int .i64 (p : Int) ∧ vq = .int .i64 (q : Int) ∧ Aside0 (FwdIn E w s N i sk wq q p v cu)) (fun _ vq _ => rem - (intOf vq).toNat)
          case atStart => exact ⟨0, i, v1, s1, Nat.zero_le _, rfl, rfl, ⟨rfl, by rw [show i + 1 + 0 = i + 1 from rfl, hstep.out, HSK.out]; simp, hA1.out⟩⟩
          case round =>
            obtain ⟨q, p, v2, cu, hq, rfl, rfl, hQ⟩ := hrel
            by_cases hqm : q < rem
            · have hqi : (q : Int) < (rem : Int) := by omega
              obtain ⟨r, hr⟩ : ∃ r : Nat, i + 1 + q = r := ⟨_, rfl⟩
              have hrn : r < E.n := by have := hrem.out; omega
              have hpr : IntKind.i64.wrap ((p : Int) + 1) = (r : Int) := by have := hQ.out.pe; rw [i64_w]; unfold wrap64; omega
              have hqx : IntKind.i64.wrap ((q : Int) + 1) = (q : Int) + 1 := by rw [i64_w]; unfold wrap64; omega
              have hri : (r : Int) < (E.n : Int) := by omega
              have cq := hQ.out.at_.job.states
              rw [HAS.out] at cq
              obtain ⟨fq, gq⟩ := hQ.out.at_.job.cell HAS.out r hrn
              have hAq : At E w (wr.setCell ⟨S, r, none⟩ (.int .i64 3)) v2 (skipped cu r) (N + (i + 1 + q)) := ⟨hQ.out.at_.job.state HAS.out r 3, hQ.out.at_.sized.skipped r, hQ.out.at_.below.setCell (p := ⟨S, r, none⟩) (Nat.le_trans hQ.out.at_.job.bl hSL : E.b ≤ S) (.int .i64 3)⟩
              have hsq : iter (stepF E.data E.faults E.skip) (s, 0) (i + 1 + (q + 1)) = (skipped cu r, (sk : Int) - ((q + 1 : Nat) : Int)) := by
                show stepF E.data E.faults E.skip (iter (stepF E.data E.faults E.skip) (s, 0) (i + 1 + q)) (i + 1 + q) = _
                rw [hQ.out.it, hr]; unfold stepF; rw [if_pos (by show (0 : Int) < (sk : Int) - (q : Int); omega)]
                show (skipped cu r, (sk : Int) - (q : Int) - 1) = _
                congr 1; omega
              replace hAq := Aside0.mk hAq
              replace hsq := Aside0.mk hsq
              have HQ1 := Aside0.mk hQ.out.pe
              replace hr := Aside0.mk hr
              clear hQ
              go_wp2
              go_roundw
              case rel => exact ⟨q + 1, r, v2, skipped cu r, by omega, rfl, by go_num, ⟨by have := hr.out; omega, hsq.out, ⟨hAq.out.job.more, hAq.out.sized.more (by omega), hAq.out.below⟩⟩⟩
              case measure => simp [intOf]; omega
            · obtain rfl : rem = q := by omega
              obtain ⟨r, hr⟩ : ∃ r : Nat, i + 1 + rem = r := ⟨_, rfl⟩
              have hpr : IntKind.i64.wrap ((p : Int) + 1) = (r : Int) := by have := hQ.out.pe; have := hrem.out; rw [i64_w]; unfold wrap64; omega
              replace hr := Aside0.mk hr
              go_wp2
              go_roundw
              case rel => exact ⟨r, v2, (sk : Int) - (rem : Int), cu, by have := hr.out; have := hrem.out; omega, rfl, by have := hr.out; have := hrem.out; omega, by have := hQ.out.it; rw [hr.out] at this; exact this, ⟨by have := hQ.out.at_; rw [hr.out] at this; exact this⟩⟩
              case measure => simp [intOf]; have := hr.out; omega
    · obtain rfl : i = E.n := by omega
      go_wp2
      go_end0
      exact ⟨rfl, v, by first | exact hA.out | (rw [hcur]; exact hA.out)⟩
end Go.Proofs.Ytdgkbpoljcndgaa.Pure
