/- Arrays the reference's error: joined. No condition. -/
import Derived.Test.YtlnikhijfamakaaPureArrayJoinsJ
import Derived.WalkLawsBesides
import Derived.LoopN
namespace Go.Proofs.Ytlnikhijfamakaa.Pure
open Go.Proofs.Ytlnikhijfamakaa.ArrayPlain
open Go Go.RowKit Go.Maps Go.Proofs.Ytlnikhijfamakaa.QArrayJoins Go.Proofs.YtlnikhijfamakaaW.PrintWords Go.Proofs.YtlnikhijfamakaaW.PrintLast Go.Proofs.YtlnikhijfamakaaW.PrintMore
set_option linter.unusedVariables false
set_option linter.unusedSimpArgs false
def finJ (k m : Int) (s g : Nat) : Int := if (s : Int) * m > 65536 then 2 else if (k = 0 ∧ g > 0) ∨ (k = 1 ∧ (g : Int) = m) ∨ (k = 2 ∧ g > 1) then 20 else 0
/-- the reference's loop -/
def jE (k m C : Int) (s g : Nat) : List (List Int) → Int
  | [] => finJ k m s g
  | b :: rest => if b.length = 0 then jE k m C s (g + 1) rest else if (s > 0 ∧ b.length ≠ s) ∨ (b.length : Int) % C > 0 then 3 else jE k m C b.length g rest
theorem goneP_len_any (i j : Int) : ∀ mm : List (List Int), (goneP i mm).length = (goneP j mm).length
  | [] => rfl
  | b :: mm => by
    have h := goneP_len_any (i + 1) (j + 1) mm
    unfold goneP
    split
    · rw [List.length_cons, List.length_cons, h]
    · exact h
theorem jE_pos (k m C : Int) (hC : 0 < C) (s : Nat) (hs : 0 < s) (hsC : (s : Int) % C = 0) : ∀ (mm : List (List Int)) (g : Nat), jE k m C s g mm = if evenP s mm then finJ k m s (g + (goneP 0 mm).length) else 3
  | [], g => by
    rw [if_pos (by intro b hb; simp at hb)]
    rfl
  | b :: mm, g => by
    have ih := jE_pos k m C hC s hs hsC mm
    unfold jE
    by_cases h0 : b.length = 0
    · rw [if_pos h0, ih (g + 1)]
      have e : evenP s (b :: mm) ↔ evenP s mm := ⟨fun h x hx => h x (List.mem_cons_of_mem _ hx), fun h x hx => by
        rcases List.mem_cons.1 hx with rfl | hx
        · exact Or.inl h0
        · exact h x hx⟩
      have e2 : (goneP 0 (b :: mm)).length = (goneP 0 mm).length + 1 := by
        rw [goneP, if_pos h0, List.length_cons, goneP_len_any (0 + 1) 0]
      by_cases h : evenP s mm
      · rw [if_pos h, if_pos (e.2 h), e2]
        congr 1
        omega
      · rw [if_neg h, if_neg (fun h2 => h (e.1 h2))]
    · rw [if_neg h0]
      by_cases h1 : b.length = s
      · rw [if_neg (by rw [h1]; omega), h1, ih g]
        have e : evenP s (b :: mm) ↔ evenP s mm := ⟨fun h x hx => h x (List.mem_cons_of_mem _ hx), fun h x hx => by
          rcases List.mem_cons.1 hx with rfl | hx
          · exact Or.inr h1
          · exact h x hx⟩
        have e2 : (goneP 0 (b :: mm)).length = (goneP 0 mm).length := by
          rw [goneP, if_neg h0, goneP_len_any (0 + 1) 0]
        by_cases h : evenP s mm
        · rw [if_pos h, if_pos (e.2 h), e2]
        · rw [if_neg h, if_neg (fun h2 => h (e.1 h2))]
      · rw [if_pos (Or.inl ⟨hs, h1⟩), if_neg]
        intro h
        rcases h b (by simp) with h | h
        · exact h0 h
        · exact h1 h
theorem jE_zero (k m C : Int) (hC : 0 < C) : ∀ (mm : List (List Int)) (g : Nat), jE k m C 0 g mm = if evenP (sizeP mm) mm ∧ (sizeP mm : Int) % C = 0 then finJ k m (sizeP mm) (g + (goneP 0 mm).length) else 3
  | [], g => by
    rw [if_pos ⟨by intro b hb; simp at hb, by simp [sizeP]⟩]
    rfl
  | b :: mm, g => by
    unfold jE
    by_cases h0 : b.length = 0
    · rw [if_pos h0, jE_zero k m C hC mm (g + 1)]
      have es : sizeP (b :: mm) = sizeP mm := by rw [sizeP, if_pos h0]
      have e : evenP (sizeP mm) (b :: mm) ↔ evenP (sizeP mm) mm := ⟨fun h x hx => h x (List.mem_cons_of_mem _ hx), fun h x hx => by
        rcases List.mem_cons.1 hx with rfl | hx
        · exact Or.inl h0
        · exact h x hx⟩
      have e2 : (goneP 0 (b :: mm)).length = (goneP 0 mm).length + 1 := by
        rw [goneP, if_pos h0, List.length_cons, goneP_len_any (0 + 1) 0]
      rw [es, e2]
      by_cases h : evenP (sizeP mm) mm ∧ (sizeP mm : Int) % C = 0
      · rw [if_pos h, if_pos ⟨e.2 h.1, h.2⟩]
        congr 1
        omega
      · rw [if_neg h, if_neg (fun h2 => h ⟨e.1 h2.1, h2.2⟩)]
    · rw [if_neg h0]
      have es : sizeP (b :: mm) = b.length := by rw [sizeP, if_neg h0]
      have e2 : (goneP 0 (b :: mm)).length = (goneP 0 mm).length := by
        rw [goneP, if_neg h0, goneP_len_any (0 + 1) 0]
      have hm := Int.emod_nonneg (b.length : Int) (show C ≠ 0 by omega)
      rw [es, e2]
      by_cases h1 : (b.length : Int) % C = 0
      · rw [if_neg (by omega), jE_pos k m C hC b.length (by omega) h1 mm g]
        have e : evenP b.length (b :: mm) ↔ evenP b.length mm := ⟨fun h x hx => h x (List.mem_cons_of_mem _ hx), fun h x hx => by
          rcases List.mem_cons.1 hx with rfl | hx
          · exact Or.inr rfl
          · exact h x hx⟩
        by_cases h : evenP b.length mm
        · rw [if_pos h, if_pos ⟨e.2 h, h1⟩]
        · rw [if_neg h, if_neg (fun h2 => h (e.1 h2.1))]
      · rw [if_pos (Or.inr (by omega)), if_neg (fun h => h1 h.2)]
theorem jE_ev (k m c : Int) (l : Bool) (mm : List (List Int)) (hl : mm.length ≤ 5864062014805) (hg : Good k m c l) (hsh : ∀ i, i < mm.length → (rd_L3 mm (i : Int)).length ≤ 140737488355328) : ∀ (d i s g : Nat), i + d = mm.length → s ≤ 140737488355328 → g ≤ i →
    Ev (fun q => wrackref1_JoinErr.l0 q (s : Int) (g : Int) mm (mm.length : Int) (i : Int) k m c l) (jE k m (64 * c) s g (mm.drop i))
  | 0, i, s, g, hi, hs, hgi => by
    unfold Good at hg
    rw [List.drop_of_length_le (by omega)]
    refine Ev.step (f := fun _ => some _) (fun q => ?_) (Ev.now _)
    simp only [wrackref1_JoinErr.l0, jE, finJ]
    have hw : wrap64 ((s : Int) * m) = (s : Int) * m := by
      have h1 : (s : Int) * m ≤ 140737488355328 * 8 := Int.mul_le_mul (by omega) hg.2.2.2.1 (by omega) (by omega)
      have h2 : 0 ≤ (s : Int) * m := Int.mul_nonneg (by omega) (by omega)
      unfold wrap64; omega
    rw [if_neg (by omega), hw]
    by_cases h1 : (s : Int) * m > 65536
    · rw [if_pos h1, if_pos h1]
    · rw [if_neg h1, if_neg h1]
      repeat' split
      all_goals first | rfl | omega
  | d + 1, i, s, g, hi, hs, hgi => by
    have hg2 := hg
    unfold Good at hg2
    have hsi := hsh i (by omega)
    rw [drop_L3 mm i (by omega)]
    generalize hx : rd_L3 mm (i : Int) = x at hsi ⊢
    have hw : wrap64 (64 * c) = 64 * c := by unfold wrap64; omega
    unfold jE
    by_cases h0 : x.length = 0
    · rw [if_pos h0]
      refine Ev.step (fun q => ?_) (jE_ev k m c l mm hl hg hsh d (i + 1) s (g + 1) (by omega) hs (by omega))
      simp only [wrackref1_JoinErr.l0]
      rw [if_pos (by omega), if_pos (by omega), if_pos (by omega), hx, if_pos (by omega), upA i mm.length (by omega) (by omega), show wrap64 ((g : Int) + 1) = ((g + 1 : Nat) : Int) by unfold wrap64; omega]
    · rw [if_neg h0]
      by_cases h1 : (s > 0 ∧ x.length ≠ s) ∨ (x.length : Int) % (64 * c) > 0
      · rw [if_pos h1]
        refine Ev.step (f := fun _ => some _) (fun q => ?_) (Ev.now _)
        simp only [wrackref1_JoinErr.l0]
        rw [if_pos (by omega), if_pos (by omega), if_pos (by omega), hx, if_neg (by omega), hw]
        by_cases h2 : (s : Int) > 0
        · rw [if_pos h2]
          by_cases h3 : (x.length : Int) = (s : Int)
          · rw [if_pos h3, if_neg (by omega), if_pos (by omega)]
          · rw [if_neg h3]
        · rw [if_neg h2, if_neg (by omega), if_pos (by omega)]
      · rw [if_neg h1]
        refine Ev.step (fun q => ?_) (jE_ev k m c l mm hl hg hsh d (i + 1) x.length g (by omega) hsi (by omega))
        simp only [wrackref1_JoinErr.l0]
        rw [if_pos (by omega), if_pos (by omega), if_pos (by omega), hx, if_neg (by omega), hw, upA i mm.length (by omega) (by omega)]
        by_cases h2 : (s : Int) > 0
        · rw [if_pos h2, if_pos (by omega), if_neg (by omega), if_neg (by omega)]
        · rw [if_neg h2, if_neg (by omega), if_neg (by omega)]
theorem joinErr_ev (k m c : Int) (l : Bool) (hk : -9223372036854775808 ≤ k ∧ k ≤ 9223372036854775807) (mm : List (List Int)) (hl : mm.length ≤ 5864062014805) (hsh : ∀ i, i < mm.length → (rd_L3 mm (i : Int)).length ≤ 140737488355328) :
    Ev (fun q => wrackref1_JoinErr.f q mm k m c l) (joinR k m c l mm) := by
  have hA : wrackref1_ArrayErr.f k m c l = some (arrErrOf k m c l) := by unfold wrackref1_ArrayErr.f; rw [if_pos hk]
  by_cases hE : arrErrOf k m c l = 0
  · have hg := err_good hE
    have hg2 := hg
    unfold Good at hg2
    by_cases h1 : (mm.length : Int) = m
    · refine Ev.congr (fun q => ?_) (r := joinR k m c l mm) (f := fun q => wrackref1_JoinErr.l0 q 0 0 mm (mm.length : Int) 0 k m c l) ?_
      · unfold wrackref1_JoinErr.f
        rw [hA, Option.bind_some, if_pos hE, if_pos h1]
      · have h := jE_ev k m c l mm hl hg hsh mm.length 0 0 0 (by omega) (by omega) (by omega)
        rw [List.drop_zero, jE_zero k m (64 * c) (by omega)] at h
        have e : joinR k m c l mm = if evenP (sizeP mm) mm ∧ (sizeP mm : Int) % (64 * c) = 0 then finJ k m (sizeP mm) (0 + (goneP 0 mm).length) else 3 := by
          unfold joinR
          rw [if_neg (by rw [hE]; decide)]
          by_cases h2 : evenP (sizeP mm) mm ∧ (sizeP mm : Int) % (64 * c) = 0
          · rw [if_pos h2, if_neg (by rintro (h | h | h) <;> first | exact h h1 | exact h h2.1 | exact h h2.2)]
            unfold finJ lostMax
            have hgl := goneP_len 0 mm
            have hdm : 65536 / m < (sizeP mm : Int) ↔ (sizeP mm : Int) * m > 65536 := by
              rw [gt_iff_lt, ← Int.ediv_lt_iff_lt_mul (by omega)]
            by_cases h3 : 65536 / m < (sizeP mm : Int)
            · rw [if_pos h3, if_pos (hdm.1 h3)]
            · rw [if_neg h3, if_neg (fun h => h3 (hdm.2 h)), Nat.zero_add]
              repeat' split
              all_goals first | rfl | omega
          · rw [if_neg h2, if_pos]
            by_cases h3 : evenP (sizeP mm) mm
            · exact Or.inr (Or.inr fun h => h2 ⟨h3, h⟩)
            · exact Or.inr (Or.inl h3)
        rw [e]
        exact h
    · have e : joinR k m c l mm = 3 := by unfold joinR; rw [if_neg (by rw [hE]; decide), if_pos (Or.inl h1)]
      rw [e]
      refine Ev.congr (fun q => ?_) (Ev.now _)
      unfold wrackref1_JoinErr.f
      rw [hA, Option.bind_some, if_pos hE, if_neg h1]
  · have e : joinR k m c l mm = arrErrOf k m c l := by unfold joinR; rw [if_pos hE]
    rw [e]
    refine Ev.congr (fun q => ?_) (Ev.now _)
    unfold wrackref1_JoinErr.f
    rw [hA, Option.bind_some, if_neg hE]
end Go.Proofs.Ytlnikhijfamakaa.Pure
