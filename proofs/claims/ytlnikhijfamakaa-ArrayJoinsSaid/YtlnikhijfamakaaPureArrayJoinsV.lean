/- Arrays the reference's whole, told: joined. No condition. -/
import Derived.Test.YtlnikhijfamakaaPureArrayJoinsW
import Derived.WalkLawsBesides
import Derived.LoopN
namespace Go.Proofs.Ytlnikhijfamakaa.Pure
open Go.Proofs.Ytlnikhijfamakaa.ArrayPlain
open Go Go.RowKit Go.Maps Go.Proofs.Ytlnikhijfamakaa.QArrayJoins Go.Proofs.YtlnikhijfamakaaW.PrintWords Go.Proofs.YtlnikhijfamakaaW.PrintLast Go.Proofs.YtlnikhijfamakaaW.PrintMore
set_option linter.unusedVariables false
set_option linter.unusedSimpArgs false
theorem take_ch (ch : List S93) (i : Nat) (h : i < ch.length) : ch.take (i + 1) = ch.take i ++ [rd_T93 ch (i : Int)] := by
  rw [List.take_add_one]
  simp [rd_T93, List.getD_eq_getElem?_getD, h]
theorem rd_ch (ch : List S93) (i : Nat) (h : i < ch.length) : rd_T93 ch (i : Int) ∈ ch := by
  unfold rd_T93
  rw [Int.toNat_natCast, List.getD_eq_getElem?_getD, List.getElem?_eq_getElem h]
  exact List.getElem_mem h
/-- the last member that is missing -/
def lastG (go i : Int) : List (List Int) → Int
  | [] => go
  | b :: m => if b.length = 0 then lastG i (i + 1) m else lastG go (i + 1) m
section
variable (mm : List (List Int)) (s : Nat) (fi go C : Int) (k m c : Int) (l : Bool) (ch : List S93)
def allV (mm : List (List Int)) (k fi : Int) (Cn : Nat) (ch : List S93) : List Int := ch.flatMap fun x => chV mm k fi Cn x Cn
def allP (mm : List (List Int)) (s : Nat) (k fi : Int) (Cn : Nat) (ch : List S93) : List (List Int) := ch.flatMap fun x => chP mm s k fi Cn x Cn
theorem allV_len (mm : List (List Int)) (k fi : Int) (Cn : Nat) : ∀ ch : List S93, (allV mm k fi Cn ch).length = ch.length * Cn
  | [] => by simp [allV]
  | x :: ch => by
    have h := allV_len mm k fi Cn ch
    unfold allV at h ⊢
    rw [List.flatMap_cons, List.length_append, h, List.length_cons, Nat.add_mul, Nat.one_mul]
    unfold chV
    simp
    omega
theorem allP_len (mm : List (List Int)) (s : Nat) (k fi : Int) (Cn : Nat) : ∀ ch : List S93, (allP mm s k fi Cn ch).length = ch.length * Cn
  | [] => by simp [allP]
  | x :: ch => by
    have h := allP_len mm s k fi Cn ch
    unfold allP at h ⊢
    rw [List.flatMap_cons, List.length_append, h, List.length_cons, Nat.add_mul, Nat.one_mul]
    unfold chP
    simp
    omega
set_option maxHeartbeats 2000000 in
theorem whole_l1 (hM : mm.length ≤ 8) (hs : s ≤ 65536) (Cn : Nat) (hC : C = (Cn : Int)) (hok : ∀ x ∈ ch, chOk mm s k fi Cn x) (hb : ch.length * Cn ≤ 1000000) (hcl : ch.length ≤ 1000000) : ∀ (d q : Nat), q + d = ch.length →
    Ev (fun n => wrackref1_Whole.l1 n mm (s : Int) fi go C (allV mm k fi Cn (ch.take q)) (allP mm s k fi Cn (ch.take q)) ch (ch.length : Int) (q : Int) k m c l) (allV mm k fi Cn ch, allP mm s k fi Cn ch, if go < 0 then true else (k == 1))
  | 0, q, hq => by
    obtain rfl : q = ch.length := by omega
    rw [List.take_length]
    refine Ev.step (f := fun _ => some _) (fun n => ?_) (Ev.now _)
    simp only [wrackref1_Whole.l1]
    rw [if_neg (by omega)]
    by_cases h : go < 0
    · rw [if_pos h, if_pos h]
    · rw [if_neg h, if_neg h]
  | d + 1, q, hq => by
    have ih := whole_l1 hM hs Cn hC hok hb hcl d (q + 1) (by omega)
    have hx := hok _ (rd_ch ch q (by omega))
    have hv : allV mm k fi Cn (ch.take (q + 1)) = allV mm k fi Cn (ch.take q) ++ chV mm k fi Cn (rd_T93 ch (q : Int)) Cn := by
      unfold allV; rw [take_ch ch q (by omega), List.flatMap_append]; simp
    have hp : allP mm s k fi Cn (ch.take (q + 1)) = allP mm s k fi Cn (ch.take q) ++ chP mm s k fi Cn (rd_T93 ch (q : Int)) Cn := by
      unfold allP; rw [take_ch ch q (by omega), List.flatMap_append]; simp
    rw [hv, hp] at ih
    have lv := allV_len mm k fi Cn (ch.take q)
    have lp := allP_len mm s k fi Cn (ch.take q)
    have hle : (ch.take q).length * Cn + Cn ≤ 1000000 := by
      rw [List.length_take, Nat.min_eq_left (by omega)]
      have h2 : (q + 1) * Cn ≤ ch.length * Cn := Nat.mul_le_mul_right _ (by omega)
      rw [Nat.add_mul, Nat.one_mul] at h2
      omega
    have hup : wrap64 ((q : Int) + 1) = ((q + 1 : Nat) : Int) := wrapS _ (by omega) (by omega)
    have e2 := whole_l2 mm s fi go C k m c l ch hM hs Cn hC (allV mm k fi Cn (ch.take q)) (allP mm s k fi Cn (ch.take q)) (by rw [lv]; omega) (by rw [lp]; omega) (rd_T93 ch (q : Int)) hx (q : Int) (ch.length : Int) _ (by rw [hup]; exact ih) Cn 0 (by omega)
    refine Ev.step (fun n => ?_) e2
    clear e2 ih lv lp hle hv hp
    simp only [wrackref1_Whole.l1]
    rw [if_pos (by omega), if_pos (by omega), if_pos (by omega)]
    simp [chV, chP, hC]
theorem whole_l0 (hl : mm.length ≤ 8) (hsh : ∀ i, i < mm.length → (rd_L3 mm (i : Int)).length ≤ 140737488355328) (S : Nat) (Fi G : Int) (r : List Int × List (List Int) × Bool) (he : Ev (fun n => wrackref1_Whole.l0 n mm (S : Int) Fi G mm (mm.length : Int) (mm.length : Int) k m c l) r) : ∀ (d i sz : Nat) (fi go : Int), i + d = mm.length →
    ((fi = -1 ∧ sz = 0 ∧ sizeP (mm.drop i) = S ∧ firstP (i : Int) (mm.drop i) = Fi) ∨ (0 ≤ fi ∧ sz = S ∧ fi = Fi)) → lastG go (i : Int) (mm.drop i) = G →
    Ev (fun n => wrackref1_Whole.l0 n mm (sz : Int) fi go mm (mm.length : Int) (i : Int) k m c l) r
  | 0, i, sz, fi, go, hi, hc, hg => by
    obtain rfl : i = mm.length := by omega
    rw [List.drop_length] at hc hg
    have hg2 : go = G := hg
    rcases hc with ⟨h1, h2, h3, h4⟩ | ⟨h1, h2, h3⟩
    · have h3' : 0 = S := h3
      have h4' : -1 = Fi := h4
      rw [h2, h1, hg2, h3', h4']
      exact he
    · rw [h2, h3, hg2]
      exact he
  | d + 1, i, sz, fi, go, hi, hc, hg => by
    have hdl := drop_L3 mm i (by omega)
    rw [hdl] at hc hg
    have fup := upA i mm.length (by omega) (by omega)
    generalize hx : rd_L3 mm (i : Int) = x at hc hg
    have hup : (i : Int) + 1 = ((i + 1 : Nat) : Int) := rfl
    by_cases h0 : x.length = 0
    · have e1 : sizeP (x :: mm.drop (i + 1)) = sizeP (mm.drop (i + 1)) := by rw [sizeP, if_pos h0]
      have e2 : firstP (i : Int) (x :: mm.drop (i + 1)) = firstP ((i + 1 : Nat) : Int) (mm.drop (i + 1)) := by rw [firstP, if_neg (by omega), hup]
      have e3 : lastG go (i : Int) (x :: mm.drop (i + 1)) = lastG (i : Int) ((i + 1 : Nat) : Int) (mm.drop (i + 1)) := by rw [lastG, if_pos h0, hup]
      rw [e1, e2] at hc
      rw [e3] at hg
      refine Ev.step (fun n => ?_) (whole_l0 hl hsh S Fi G r he d (i + 1) sz fi (i : Int) (by omega) hc hg)
      simp only [wrackref1_Whole.l0]
      rw [if_pos (by omega), if_pos (by omega), if_pos (by omega), hx, if_pos (by omega), fup]
    · have e1 : sizeP (x :: mm.drop (i + 1)) = x.length := by rw [sizeP, if_neg h0]
      have e2 : firstP (i : Int) (x :: mm.drop (i + 1)) = (i : Int) := by rw [firstP, if_pos (by omega)]
      have e3 : lastG go (i : Int) (x :: mm.drop (i + 1)) = lastG go ((i + 1 : Nat) : Int) (mm.drop (i + 1)) := by rw [lastG, if_neg h0, hup]
      rw [e1, e2] at hc
      rw [e3] at hg
      rcases hc with ⟨h1, h2, h3, h4⟩ | ⟨h1, h2, h3⟩
      · refine Ev.step (fun n => ?_) (whole_l0 hl hsh S Fi G r he d (i + 1) x.length (i : Int) go (by omega) (Or.inr ⟨by omega, h3, h4⟩) hg)
        simp only [wrackref1_Whole.l0]
        rw [if_pos (by omega), if_pos (by omega), if_pos (by omega), hx, if_neg (by omega), if_pos (by omega), fup]
      · refine Ev.step (fun n => ?_) (whole_l0 hl hsh S Fi G r he d (i + 1) sz fi go (by omega) (Or.inr ⟨h1, h2, h3⟩) hg)
        simp only [wrackref1_Whole.l0]
        rw [if_pos (by omega), if_pos (by omega), if_pos (by omega), hx, if_neg (by omega), if_neg (by omega), fup]
end
/-- the reference's whole -/
theorem whole_ev (mm : List (List Int)) (k m c : Int) (l : Bool) (hg : Good k m c l) (hl : mm.length ≤ 8) (hsh : ∀ i, i < mm.length → (rd_L3 mm (i : Int)).length ≤ 140737488355328) (Cn rows : Nat) (hC : (Cn : Int) = 64 * c) (hS : sizeP mm = rows * Cn) (hS2 : sizeP mm ≤ 65536) (hok : ∀ x ∈ chunksFrom k m l rows 0, chOk mm (sizeP mm) k (firstP 0 mm) Cn x) (hb : (chunksFrom k m l rows 0).length * Cn ≤ 1000000) :
    Ev (fun n => wrackref1_Whole.f n mm k m c l) (allV mm k (firstP 0 mm) Cn (chunksFrom k m l rows 0), allP mm (sizeP mm) k (firstP 0 mm) Cn (chunksFrom k m l rows 0), if lastG (-1) 0 mm < 0 then true else (k == 1)) := by
  have hg2 := hg
  unfold Good at hg2
  have hCb : 64 ≤ Cn := by omega
  have hrows : rows ≤ 65536 := by
    have h1 : rows * 1 ≤ rows * Cn := Nat.mul_le_mul_left _ (by omega)
    omega
  have hcl : (chunksFrom k m l rows 0).length ≤ 1000000 := by
    have h1 : (chunksFrom k m l rows 0).length * 1 ≤ (chunksFrom k m l rows 0).length * Cn := Nat.mul_le_mul_left _ (by omega)
    omega
  have ho := order_l0 hg (rows : Int) (by omega) rows 0 [] [] (by omega) (by omega) (by simp; omega) (by simp; omega)
  simp only [List.nil_append] at ho
  have e1 := whole_l1 mm (sizeP mm) (firstP 0 mm) (lastG (-1) 0 mm) (64 * c) k m c l (chunksFrom k m l rows 0) hl hS2 Cn hC.symm hok hb hcl (chunksFrom k m l rows 0).length 0 (by omega)
  simp only [List.take_zero] at e1
  have hw : wrap64 (64 * c) = 64 * c := wrapS _ (by omega) (by omega)
  have htd : Int.tdiv ((sizeP mm : Nat) : Int) (64 * c) = (rows : Int) := by
    rw [Int.tdiv_eq_ediv_of_nonneg (by omega), ← hC, hS, Int.natCast_mul]
    exact Int.mul_ediv_cancel _ (by omega)
  have hwr : wrap64 (rows : Int) = (rows : Int) := wrapS _ (by omega) (by omega)
  have hend : Ev (fun n => wrackref1_Whole.l0 n mm ((sizeP mm : Nat) : Int) (firstP 0 mm) (lastG (-1) 0 mm) mm (mm.length : Int) (mm.length : Int) k m c l) (allV mm k (firstP 0 mm) Cn (chunksFrom k m l rows 0), allP mm (sizeP mm) k (firstP 0 mm) Cn (chunksFrom k m l rows 0), if lastG (-1) 0 mm < 0 then true else (k == 1)) := by
    refine Ev.step (f := fun n => (wrackref1_Order.f n k m c l (rows : Int)).bind fun (bt : List S93 × List Int) => wrackref1_Whole.l1 n mm ((sizeP mm : Nat) : Int) (firstP 0 mm) (lastG (-1) 0 mm) (64 * c) [] [] bt.1 (bt.1.length : Int) 0 k m c l) (fun n => ?_) (Ev.bind (f := fun n (bt : List S93 × List Int) => wrackref1_Whole.l1 n mm ((sizeP mm : Nat) : Int) (firstP 0 mm) (lastG (-1) 0 mm) (64 * c) [] [] bt.1 (bt.1.length : Int) 0 k m c l) (by simpa [wrackref1_Order.f] using ho) (by simpa [allV, allP] using e1))
    simp only [wrackref1_Whole.l0]
    rw [if_neg (by omega), hw, if_neg (by omega), htd, hwr]
  have h0 := whole_l0 mm k m c l hl hsh (sizeP mm) (firstP 0 mm) (lastG (-1) 0 mm) _ hend mm.length 0 0 (-1) (-1) (by omega) (Or.inl ⟨rfl, rfl, rfl, rfl⟩) rfl
  exact h0
end Go.Proofs.Ytlnikhijfamakaa.Pure
