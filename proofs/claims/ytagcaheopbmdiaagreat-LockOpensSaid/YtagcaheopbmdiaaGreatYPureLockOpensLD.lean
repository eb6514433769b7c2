/- Sealed layers: heads and a key that is changed, as the program and the reference compute them. No condition. -/
import Derived.Test.YtagcaheopbmdiaaGreatYPureLockOpensLC
namespace Go.Proofs.YtagcaheopbmdiaaGreat.Lk
open Go Go.RowKit Go.Proofs.YtagcaheopbmdiaaGreat.QLockOpens Go.Proofs.YtagcaheopbmdiaaGreatW.PrintWords Go.Proofs.YtagcaheopbmdiaaGreatW.PrintLast Go.Proofs.YtagcaheopbmdiaaGreatW.PrintMore Go.Proofs.YtagcaheopbmdiaaGreat.SumPlain
set_option linter.unusedVariables false
set_option linter.unusedSimpArgs false
def keysP (b : List Int) : Int := leK ((b.drop 8).take 4)
def formOk (b : List Int) : Prop := 128 ≤ b.length ∧ b.take 4 = [108, 111, 99, 107] ∧ leK ((b.drop 12).take 4) = 0 ∧ 1 ≤ keysP b ∧ keysP b ≤ 4 ∧ leK ((b.drop 4).take 4) ≤ (b.length : Int) - 128
instance (b : List Int) : Decidable (formOk b) := by unfold formOk; infer_instance
theorem lock_word (b : List Int) (hb : Bytes b) : (strOfNums (b.take 4)).toList = [108, 111, 99, 107] ↔ b.take 4 = [108, 111, 99, 107] := by
 have h := kstr_eq (b.take 4) [108, 111, 99, 107] (kb_tk hb 4) (fun y hy => by simp at hy; omega)
 rw [← h]
 rw [show (strOfNums [108, 111, 99, 107]).toList = [108, 111, 99, 107] by rw [Go.Lib.strOfNums_toList]; rfl]
def slotsP (b : List Int) (key : ByteArray) : Int × Int × Bool := openL b key (keysP b).toNat 0
theorem u64_wrap (n : Int) : U64 (IntKind.u64.wrap n) := by rw [IntKind.wrap_u64]; exact ⟨by omega, by omega⟩
theorem slots_at (b : List Int) (h : formOk b) (key : ByteArray) (ho : (slotsP b key).2.2 = true) : ∃ i : Nat, (slotsP b key).1 = (i : Int) ∧ i < 4 := by
 obtain ⟨j, h1, _, h3⟩ := (openL_u64 b key (keysP b).toNat 0).2 ho
 have := h.2.2.2.2.1
 exact ⟨j, h1, by omega⟩
theorem khas_lock (H : List Int) (hb : Bytes H) (hl : 4 ≤ H.length) : strings_HasPrefix.f (strOfNums H) (⟨#[108, 111, 99, 107]⟩ : ByteArray) = some (decide (H.take 4 = [108, 111, 99, 107])) := by
 unfold strings_HasPrefix.f stringslite_HasPrefix.f
 have e4 : ((⟨#[108, 111, 99, 107]⟩ : ByteArray).size : Int) = 4 := by decide
 rw [e4, if_pos (by rw [str_size]; omega), if_pos (by decide), if_pos (by rw [str_size]; omega), Option.bind_some]
 congr 1
 rw [show (4 : Int).toNat = 4 from rfl, kstr_cut, List.drop_zero]
 have h := kstr_eq (H.take 4) [108, 111, 99, 107] (kb_tk hb 4) (fun y hy => by simp at hy; omega)
 rw [show (⟨#[108, 111, 99, 107]⟩ : ByteArray) = strOfNums [108, 111, 99, 107] by decide]
 by_cases c : H.take 4 = [108, 111, 99, 107]
 · rw [decide_eq_true c, beq_iff_eq.2 (h.2 c)]
 ·
  rw [decide_eq_false c]
  exact beq_eq_false_iff_ne.2 (fun h2 => c (h.1 h2))
theorem fill4 : wrackref1_Filled.f (⟨#[]⟩ : ByteArray) 4 = some (strOfNums [0, 0, 0, 0]) := by decide +kernel
theorem leK_zero : ∀ (l : List Int), Bytes l → (leK l = 0 ↔ l = List.replicate l.length 0)
 | [], _ => by simp [leK]
 | x :: l, h => by
  have hx : 0 ≤ x ∧ x ≤ 255 := h x (by simp)
  have hl : Bytes l := fun y hy => h y (by simp [hy])
  have ih := leK_zero l hl
  have hp := (leK_pos l hl).1
  rw [List.length_cons, List.replicate_succ, List.cons.injEq, ← ih]
  rw [show leK (x :: l) = x + 256 * leK l from rfl]
  omega
theorem lockof_ev (b : List Int) (hb : Bytes b) (hbl : b.length ≤ 140737488351232) : ∃ n keys : Int, Ev (fun k => wrackref1_LockOf.f k (strOfNums (b.take 128)) (b.length : Int)) (n, keys, decide (formOk b)) ∧ (formOk b → keys = keysP b ∧ n = leK ((b.drop 4).take 4)) := by
 by_cases c0 : b.length < 128
 ·
  refine ⟨0, 0, ?_, fun h => absurd h.1 (by omega)⟩
  rw [decide_eq_false (fun h => absurd h.1 (by omega))]
  unfold wrackref1_LockOf.f
  refine Ev.congr (fun k => if_neg (by rw [str_size, List.length_take]; omega)) ?_
  exact Ev.step (f := fun k => some (0, 0, false)) (fun k => by simp [wrackref1_LockOf.j0]) (Ev.now _)
 have hH : (b.take 128).length = 128 := by rw [List.length_take]; omega
 have hbH := kb_tk hb 128
 have ht4 : (b.take 128).take 4 = b.take 4 := by rw [List.take_take]; rfl
 have hd : ∀ o, o + 4 ≤ 128 → ((b.take 128).take (o + 4)).drop o = (b.drop o).take 4 := fun o ho => by rw [List.take_take, Nat.min_eq_left (by omega), List.drop_take, Nat.add_sub_cancel_left]
 have hj : ∀ x1, Ev (fun k => wrackref1_LockOf.j0 k (strOfNums (b.take 128)) x1 true) (0, 0, false) := fun x1 => Ev.step (f := fun k => some (0, 0, false)) (fun k => by simp [wrackref1_LockOf.j0]) (Ev.now _)
 unfold wrackref1_LockOf.f
 by_cases c1 : b.take 4 = [108, 111, 99, 107]
 ·
  by_cases c2 : leK ((b.drop 12).take 4) = 0
  ·
   refine ⟨leK ((b.drop 4).take 4), leK ((b.drop 8).take 4), ?_, fun _ => ⟨rfl, rfl⟩⟩
   refine Ev.congr (fun k => if_pos (by rw [str_size, hH]; rfl)) ?_
   refine Ev.congr (fun k => by rw [khas_lock _ hbH (by omega), ht4, decide_eq_true c1, Option.bind_some, if_pos rfl, if_pos (by decide), if_pos (by rw [str_size, hH]; decide), fill4, Option.bind_some]) ?_
   have e12 : ((strOfNums (b.take 128)).extract 12 16).toList = (strOfNums [0, 0, 0, 0]).toList := by
    rw [kstr_cut, hd 12 (by omega), kstr_eq _ _ (kb_cut hb _ _) (fun y hy => by simp at hy; omega)]
    have := (leK_zero _ (kb_cut hb 12 4)).1 c2
    rw [show ((b.drop 12).take 4).length = 4 by rw [List.length_take, List.length_drop]; omega] at this
    exact this
   rw [e12, show ((strOfNums [0, 0, 0, 0]).toList != (strOfNums [0, 0, 0, 0]).toList) = false by simp]
   refine Ev.step (f := fun k => (wrackref1_Number.f k (strOfNums ((b.drop 4).take 4))).bind fun t177 => (if 8 ≤ 12 then (if 12 ≤ ((strOfNums (b.take 128)).size : Int) then ((wrackref1_Number.f k (strOfNums ((b.drop 8).take 4))).bind fun t178 => (if t177 ≤ (wrap64 ((b.length : Int) - 128)) then (if t178 ≥ 1 then (some (t177, t178, decide (t178 ≤ 4))) else (some (t177, t178, false))) else (some (t177, t178, false)))) else (none)) else (none))) (fun k => ?_) ?_
   ·
    simp only [wrackref1_LockOf.j0]
    rw [if_neg (by decide), if_pos (by decide), if_pos (by rw [str_size, hH]; decide), kstr_cut, hd 4 (by omega), kstr_cut, hd 8 (by omega)]
   refine Ev.bind (knum_ev _ (kb_cut hb _ _) (by rw [List.length_take]; omega)) ?_
   refine Ev.congr (fun k => if_pos (by decide)) ?_
   refine Ev.congr (fun k => if_pos (by rw [str_size, hH]; decide)) ?_
   refine Ev.bind (knum_ev _ (kb_cut hb _ _) (by rw [List.length_take]; omega)) ?_
   have hw : wrap64 ((b.length : Int) - 128) = (b.length : Int) - 128 := by unfold wrap64; omega
   rw [hw]
   refine Ev.congr (fun k => ?_) (Ev.now _)
   by_cases c3 : leK ((b.drop 4).take 4) ≤ (b.length : Int) - 128
   ·
    rw [if_pos c3]
    by_cases c4 : leK ((b.drop 8).take 4) ≥ 1
    ·
     rw [if_pos c4]
     congr 3
     exact decide_eq_decide.2 ⟨fun h => ⟨by omega, c1, c2, c4, h, c3⟩, fun h => h.2.2.2.2.1⟩
    · rw [if_neg c4, decide_eq_false (fun h => c4 h.2.2.2.1)]
   · rw [if_neg c3, decide_eq_false (fun h => c3 h.2.2.2.2.2)]
  ·
   refine ⟨0, 0, ?_, fun h => absurd h.2.2.1 c2⟩
   rw [decide_eq_false (fun h => c2 h.2.2.1)]
   refine Ev.congr (fun k => if_pos (by rw [str_size, hH]; rfl)) ?_
   refine Ev.congr (fun k => by rw [khas_lock _ hbH (by omega), ht4, decide_eq_true c1, Option.bind_some, if_pos rfl, if_pos (by decide), if_pos (by rw [str_size, hH]; decide), fill4, Option.bind_some]) ?_
   have e12 : (((strOfNums (b.take 128)).extract 12 16).toList != (strOfNums [0, 0, 0, 0]).toList) = true := by
    rw [bne_iff_ne]
    intro h
    rw [kstr_cut, hd 12 (by omega), kstr_eq _ _ (kb_cut hb _ _) (fun y hy => by simp at hy; omega)] at h
    exact c2 ((leK_zero _ (kb_cut hb 12 4)).2 (by rw [show ((b.drop 12).take 4).length = 4 by rw [List.length_take, List.length_drop]; omega]; exact h))
   rw [e12]
   exact hj _
 ·
  refine ⟨0, 0, ?_, fun h => absurd h.2.1 c1⟩
  rw [decide_eq_false (fun h => c1 h.2.1)]
  refine Ev.congr (fun k => if_pos (by rw [str_size, hH]; rfl)) ?_
  refine Ev.congr (fun k => by rw [khas_lock _ hbH (by omega), ht4, decide_eq_false c1, Option.bind_some, if_neg (by decide)]) ?_
  exact hj _
end Go.Proofs.YtagcaheopbmdiaaGreat.Lk
