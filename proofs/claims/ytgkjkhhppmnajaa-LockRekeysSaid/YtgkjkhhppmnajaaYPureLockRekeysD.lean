/- Sealed layers: heads and a key that is changed, as the program and the reference compute them. No condition. -/
import Derived.Test.YtgkjkhhppmnajaaYPureLockRekeysC
namespace Go.Proofs.Ytgkjkhhppmnajaa.Lk
open Go Go.RowKit Go.Proofs.Ytgkjkhhppmnajaa.QLockRekeys Go.Proofs.YtgkjkhhppmnajaaW.PrintWords Go.Proofs.YtgkjkhhppmnajaaW.PrintLast Go.Proofs.YtgkjkhhppmnajaaW.PrintMore Go.Proofs.Ytgkjkhhppmnajaa.SumPlain
set_option linter.unusedVariables false
set_option linter.unusedSimpArgs false
def keysP (b : List Int) : Int := leK ((b.drop 8).take 4)
def formOk (b : List Int) : Prop := 128 ≤ b.length ∧ b.take 4 = [108, 111, 99, 107] ∧ leK ((b.drop 12).take 4) = 0 ∧ 1 ≤ keysP b ∧ keysP b ≤ 4 ∧ leK ((b.drop 4).take 4) ≤ (b.length : Int) - 128
instance (b : List Int) : Decidable (formOk b) := by unfold formOk; infer_instance
theorem lock_word (b : List Int) (hb : Bytes b) : (strOfNums (b.take 4)).toList = [108, 111, 99, 107] ↔ b.take 4 = [108, 111, 99, 107] := by
 have h := kstr_eq (b.take 4) [108, 111, 99, 107] (kb_tk hb 4) (fun y hy => by simp at hy; omega)
 rw [← h]
 rw [show (strOfNums [108, 111, 99, 107]).toList = [108, 111, 99, 107] by rw [Go.Lib.strOfNums_toList]; rfl]
theorem len4 (b : List Int) (o : Nat) : ((b.drop o).take 4).length ≤ 8 := by rw [List.length_take]; omega
theorem rekey_form (b : List Int) (hb : Bytes b) (old key : ByteArray) (seed : Int) (h : ¬ (formOk b ∧ b.length ≤ 65536)) : Ev (fun k => lock_Rekey.f k b old key seed) ([], 3) := by
 unfold lock_Rekey.f
 by_cases c1 : b.length < 128 ∨ 65536 < b.length
 · exact Ev.congr (fun k => if_pos c1) (Ev.now _)
 refine Ev.congr (fun k => if_neg c1) ?_
 by_cases c2 : b.take 4 = [108, 111, 99, 107]
 ·
  refine Ev.congr (fun k => if_pos ((lock_word b hb).2 c2)) ?_
  refine Ev.bind (kget_ev _ (kb_cut hb _ _) (len4 b 12)) ?_
  by_cases c3 : leK ((b.drop 12).take 4) = 0
  ·
   refine Ev.congr (fun k => if_pos c3) ?_
   refine Ev.bind (kget_ev _ (kb_cut hb _ _) (len4 b 8)) ?_
   by_cases c4 : leK ((b.drop 8).take 4) < 1
   · exact Ev.congr (fun k => if_pos c4) (Ev.now _)
   refine Ev.congr (fun k => if_neg c4) ?_
   by_cases c5 : 4 < leK ((b.drop 8).take 4)
   · exact Ev.congr (fun k => if_pos c5) (Ev.now _)
   refine Ev.congr (fun k => if_neg c5) ?_
   refine Ev.bind (kget_ev _ (kb_cut hb _ _) (len4 b 4)) ?_
   by_cases c6 : (b.length : Int) - 128 < leK ((b.drop 4).take 4)
   · exact Ev.congr (fun k => if_pos c6) (Ev.now _)
   · exact absurd ⟨⟨by omega, c2, c3, by unfold keysP; omega, by unfold keysP; omega, by omega⟩, by omega⟩ h
  · exact Ev.congr (fun k => if_neg c3) (Ev.now _)
 · exact Ev.congr (fun k => if_neg (fun h2 => c2 ((lock_word b hb).1 h2))) (Ev.now _)
/-- behind the head -/
theorem rekey_on (b : List Int) (hb : Bytes b) (old key : ByteArray) (seed : Int) (h : formOk b) (h2 : b.length ≤ 65536) {r : List Int × Int} (hr : Ev (fun k => (lock_name.f k old).bind fun o1 => if o1 = true then
  (lock_name.f k key).bind fun o2 => if o2 = true then
  (lock_open.f k b (keysP b) old).bind fun p => if p.2.2 = true then
  (lock_open.f k b (keysP b) key).bind fun q => if q.2.2 = true then some ([], 7) else
  (lock_mixed.f k (IntKind.u64.wrap seed) (⟨#[110, 101, 119]⟩ : ByteArray)).bind fun salt => (lock_slot.f k salt p.2.1 key).bind fun s =>
   if 0 ≤ p.1 ∧ p.1 < 4 ∧ s.length = 24 then some (b.take (16 + 24 * p.1.toNat) ++ (s ++ b.drop (16 + 24 * p.1.toNat + 24)), 0) else none
  else some ([], 14)
  else some ([], 6)
  else some ([], 6)) r) : Ev (fun k => lock_Rekey.f k b old key seed) r := by
 obtain ⟨h128, hw, hz, hk1, hk4, hsz⟩ := h
 unfold keysP at hk1 hk4 hr
 unfold lock_Rekey.f
 refine Ev.congr (fun k => if_neg (by omega)) ?_
 refine Ev.congr (fun k => if_pos ((lock_word b hb).2 hw)) ?_
 refine Ev.bind (kget_ev _ (kb_cut hb _ _) (len4 b 12)) ?_
 refine Ev.congr (fun k => if_pos hz) ?_
 refine Ev.bind (kget_ev _ (kb_cut hb _ _) (len4 b 8)) ?_
 refine Ev.congr (fun k => if_neg (by omega)) ?_
 refine Ev.congr (fun k => if_neg (by omega)) ?_
 refine Ev.bind (kget_ev _ (kb_cut hb _ _) (len4 b 4)) ?_
 exact Ev.congr (fun k => if_neg (by omega)) hr
theorem rekey_name (b : List Int) (hb : Bytes b) (old key : ByteArray) (seed : Int) (h : formOk b) (h2 : b.length ≤ 65536) (hn : ¬ (nameP old = true ∧ nameP key = true)) : Ev (fun k => lock_Rekey.f k b old key seed) ([], 6) := by
 refine rekey_on b hb old key seed h h2 (Ev.bind (name_ev old) ?_)
 by_cases c1 : nameP old = true
 ·
  refine Ev.congr (fun k => if_pos c1) (Ev.bind (name_ev key) ?_)
  exact Ev.congr (fun k => if_neg (fun c2 => hn ⟨c1, c2⟩)) (Ev.now _)
 · exact Ev.congr (fun k => if_neg c1) (Ev.now _)
def slotsP (b : List Int) (key : ByteArray) : Int × Int × Bool := openL b key (keysP b).toNat 0
theorem open_ev' (b : List Int) (hb : Bytes b) (h : formOk b) (h2 : b.length ≤ 65536) (key : ByteArray) (hk : nameP key = true) : Ev (fun k => lock_open.f k b (keysP b) key) (slotsP b key) := by
 obtain ⟨h128, _, _, hk1, hk4, _⟩ := h
 have hz := nameP_size key hk
 have e := open_ev b hb key (by omega) (by omega) (keysP b).toNat (by omega)
 rw [Int.toNat_of_nonneg (by omega)] at e
 exact e
theorem rekey_key (b : List Int) (hb : Bytes b) (old key : ByteArray) (seed : Int) (h : formOk b) (h2 : b.length ≤ 65536) (n1 : nameP old = true) (n2 : nameP key = true) (ho : (slotsP b old).2.2 = false) : Ev (fun k => lock_Rekey.f k b old key seed) ([], 14) := by
 refine rekey_on b hb old key seed h h2 (Ev.bind (name_ev old) (Ev.congr (fun k => if_pos n1) (Ev.bind (name_ev key) (Ev.congr (fun k => if_pos n2) (Ev.bind (open_ev' b hb h h2 old n1) ?_)))))
 exact Ev.congr (fun k => if_neg (by rw [ho]; decide)) (Ev.now _)
theorem rekey_twice (b : List Int) (hb : Bytes b) (old key : ByteArray) (seed : Int) (h : formOk b) (h2 : b.length ≤ 65536) (n1 : nameP old = true) (n2 : nameP key = true) (ho : (slotsP b old).2.2 = true) (ht : (slotsP b key).2.2 = true) : Ev (fun k => lock_Rekey.f k b old key seed) ([], 7) := by
 refine rekey_on b hb old key seed h h2 (Ev.bind (name_ev old) (Ev.congr (fun k => if_pos n1) (Ev.bind (name_ev key) (Ev.congr (fun k => if_pos n2) (Ev.bind (open_ev' b hb h h2 old n1) ?_)))))
 refine Ev.congr (fun k => if_pos ho) (Ev.bind (open_ev' b hb h h2 key n2) ?_)
 exact Ev.congr (fun k => if_pos ht) (Ev.now _)
def wNew : ByteArray := ⟨#[110, 101, 119]⟩
theorem u64_wrap (n : Int) : U64 (IntKind.u64.wrap n) := by rw [IntKind.wrap_u64]; exact ⟨by omega, by omega⟩
theorem slots_at (b : List Int) (h : formOk b) (key : ByteArray) (ho : (slotsP b key).2.2 = true) : ∃ i : Nat, (slotsP b key).1 = (i : Int) ∧ i < 4 := by
 obtain ⟨j, h1, _, h3⟩ := (openL_u64 b key (keysP b).toNat 0).2 ho
 have := h.2.2.2.2.1
 exact ⟨j, h1, by omega⟩
theorem rekey_ok (b : List Int) (hb : Bytes b) (old key : ByteArray) (seed : Int) (h : formOk b) (h2 : b.length ≤ 65536) (n1 : nameP old = true) (n2 : nameP key = true) (ho : (slotsP b old).2.2 = true) (ht : (slotsP b key).2.2 = false) (i : Nat) (hi : (slotsP b old).1 = (i : Int)) (hi4 : i < 4) : Ev (fun k => lock_Rekey.f k b old key seed) (b.take (16 + 24 * i) ++ (slotP (mixedP (IntKind.u64.wrap seed) wNew) (slotsP b old).2.1 key ++ b.drop (16 + 24 * i + 24)), 0) := by
 have hz := nameP_size key n2
 refine rekey_on b hb old key seed h h2 (Ev.bind (name_ev old) (Ev.congr (fun k => if_pos n1) (Ev.bind (name_ev key) (Ev.congr (fun k => if_pos n2) (Ev.bind (open_ev' b hb h h2 old n1) ?_)))))
 refine Ev.congr (fun k => if_pos ho) (Ev.bind (open_ev' b hb h h2 key n2) ?_)
 refine Ev.congr (fun k => if_neg (by rw [ht]; decide)) ?_
 refine Ev.bind (mixed_ev _ (u64_wrap seed) wNew (by decide)) ?_
 refine Ev.bind (slot_ev _ _ (mixedP_u64 _ _) (openL_u64 b old _ _).1 key (by omega)) ?_
 refine Ev.congr (fun k => if_pos ⟨by rw [hi]; omega, by rw [hi]; omega, slotP_len _ _ _⟩) ?_
 rw [hi, Int.toNat_natCast]
 exact Ev.now _
theorem khas_lock (H : List Int) (hb : Bytes H) (hl : 4 ≤ H.length) : strings_HasPrefix.f (strOfNums H) (⟨#[108, 111, 99, 107]⟩ : ByteArray) = some (decide (H.take 4 = [108, 111, 99, 107])) := by
 unfold strings_HasPrefix.f stringslite_HasPrefix.f
 have e4 : ((⟨#[108, 111, 99, 107]⟩ : ByteArray).size : Int) = 4 := by decide
 rw [e4, if_pos (by rw [str_size]; omega), if_pos (by decide), if_pos (by rw [str_size]; omega), Option.bind_some]
 congr 1
 rw [show (4 : Int).toNat = 4 from rfl, kstr_cut, List.drop_zero]
 have h := kstr_eq (H.take 4) [108, 111, 99, 107] (kb_tk hb 4) (fun y hy => by simp at hy; omega)
 rw [show (⟨#[108, 111, 99, 107]⟩ : ByteArray) = strOfNums [108, 111, 99, 107] by decide]
 by_cases c : H.take 4 = [108, 111, 99, 107]
 · rw [decide_eq_true c, beq_iff_eq.2 (h.2 c)]
 ·
  rw [decide_eq_false c]
  exact beq_eq_false_iff_ne.2 (fun h2 => c (h.1 h2))
theorem fill4 : wrackref1_Filled.f (⟨#[]⟩ : ByteArray) 4 = some (strOfNums [0, 0, 0, 0]) := by decide +kernel
theorem leK_zero : ∀ (l : List Int), Bytes l → (leK l = 0 ↔ l = List.replicate l.length 0)
 | [], _ => by simp [leK]
 | x :: l, h => by
  have hx : 0 ≤ x ∧ x ≤ 255 := h x (by simp)
  have hl : Bytes l := fun y hy => h y (by simp [hy])
  have ih := leK_zero l hl
  have hp := (leK_pos l hl).1
  rw [List.length_cons, List.replicate_succ, List.cons.injEq, ← ih]
  rw [show leK (x :: l) = x + 256 * leK l from rfl]
  omega
theorem lockof_ev (b : List Int) (hb : Bytes b) (hbl : b.length ≤ 140737488351232) : ∃ n keys : Int, Ev (fun k => wrackref1_LockOf.f k (strOfNums (b.take 128)) (b.length : Int)) (n, keys, decide (formOk b)) ∧ (formOk b → keys = keysP b) := by
 by_cases c0 : b.length < 128
 ·
  refine ⟨0, 0, ?_, fun h => absurd h.1 (by omega)⟩
  rw [decide_eq_false (fun h => absurd h.1 (by omega))]
  unfold wrackref1_LockOf.f
  refine Ev.congr (fun k => if_neg (by rw [str_size, List.length_take]; omega)) ?_
  exact Ev.step (f := fun k => some (0, 0, false)) (fun k => by simp [wrackref1_LockOf.j0]) (Ev.now _)
 have hH : (b.take 128).length = 128 := by rw [List.length_take]; omega
 have hbH := kb_tk hb 128
 have ht4 : (b.take 128).take 4 = b.take 4 := by rw [List.take_take]; rfl
 have hd : ∀ o, o + 4 ≤ 128 → ((b.take 128).take (o + 4)).drop o = (b.drop o).take 4 := fun o ho => by rw [List.take_take, Nat.min_eq_left (by omega), List.drop_take, Nat.add_sub_cancel_left]
 have hj : ∀ x1, Ev (fun k => wrackref1_LockOf.j0 k (strOfNums (b.take 128)) x1 true) (0, 0, false) := fun x1 => Ev.step (f := fun k => some (0, 0, false)) (fun k => by simp [wrackref1_LockOf.j0]) (Ev.now _)
 unfold wrackref1_LockOf.f
 by_cases c1 : b.take 4 = [108, 111, 99, 107]
 ·
  by_cases c2 : leK ((b.drop 12).take 4) = 0
  ·
   refine ⟨leK ((b.drop 4).take 4), leK ((b.drop 8).take 4), ?_, fun _ => rfl⟩
   refine Ev.congr (fun k => if_pos (by rw [str_size, hH]; rfl)) ?_
   refine Ev.congr (fun k => by rw [khas_lock _ hbH (by omega), ht4, decide_eq_true c1, Option.bind_some, if_pos rfl, if_pos (by decide), if_pos (by rw [str_size, hH]; decide), fill4, Option.bind_some]) ?_
   have e12 : ((strOfNums (b.take 128)).extract 12 16).toList = (strOfNums [0, 0, 0, 0]).toList := by
    rw [kstr_cut, hd 12 (by omega), kstr_eq _ _ (kb_cut hb _ _) (fun y hy => by simp at hy; omega)]
    have := (leK_zero _ (kb_cut hb 12 4)).1 c2
    rw [show ((b.drop 12).take 4).length = 4 by rw [List.length_take, List.length_drop]; omega] at this
    exact this
   rw [e12, show ((strOfNums [0, 0, 0, 0]).toList != (strOfNums [0, 0, 0, 0]).toList) = false by simp]
   refine Ev.step (f := fun k => (wrackref1_Number.f k (strOfNums ((b.drop 4).take 4))).bind fun t177 => (if 8 ≤ 12 then (if 12 ≤ ((strOfNums (b.take 128)).size : Int) then ((wrackref1_Number.f k (strOfNums ((b.drop 8).take 4))).bind fun t178 => (if t177 ≤ (wrap64 ((b.length : Int) - 128)) then (if t178 ≥ 1 then (some (t177, t178, decide (t178 ≤ 4))) else (some (t177, t178, false))) else (some (t177, t178, false)))) else (none)) else (none))) (fun k => ?_) ?_
   ·
    simp only [wrackref1_LockOf.j0]
    rw [if_neg (by decide), if_pos (by decide), if_pos (by rw [str_size, hH]; decide), kstr_cut, hd 4 (by omega), kstr_cut, hd 8 (by omega)]
   refine Ev.bind (knum_ev _ (kb_cut hb _ _) (by rw [List.length_take]; omega)) ?_
   refine Ev.congr (fun k => if_pos (by decide)) ?_
   refine Ev.congr (fun k => if_pos (by rw [str_size, hH]; decide)) ?_
   refine Ev.bind (knum_ev _ (kb_cut hb _ _) (by rw [List.length_take]; omega)) ?_
   have hw : wrap64 ((b.length : Int) - 128) = (b.length : Int) - 128 := by unfold wrap64; omega
   rw [hw]
   refine Ev.congr (fun k => ?_) (Ev.now _)
   by_cases c3 : leK ((b.drop 4).take 4) ≤ (b.length : Int) - 128
   ·
    rw [if_pos c3]
    by_cases c4 : leK ((b.drop 8).take 4) ≥ 1
    ·
     rw [if_pos c4]
     congr 3
     exact decide_eq_decide.2 ⟨fun h => ⟨by omega, c1, c2, c4, h, c3⟩, fun h => h.2.2.2.2.1⟩
    · rw [if_neg c4, decide_eq_false (fun h => c4 h.2.2.2.1)]
   · rw [if_neg c3, decide_eq_false (fun h => c3 h.2.2.2.2.2)]
  ·
   refine ⟨0, 0, ?_, fun h => absurd h.2.2.1 c2⟩
   rw [decide_eq_false (fun h => c2 h.2.2.1)]
   refine Ev.congr (fun k => if_pos (by rw [str_size, hH]; rfl)) ?_
   refine Ev.congr (fun k => by rw [khas_lock _ hbH (by omega), ht4, decide_eq_true c1, Option.bind_some, if_pos rfl, if_pos (by decide), if_pos (by rw [str_size, hH]; decide), fill4, Option.bind_some]) ?_
   have e12 : (((strOfNums (b.take 128)).extract 12 16).toList != (strOfNums [0, 0, 0, 0]).toList) = true := by
    rw [bne_iff_ne]
    intro h
    rw [kstr_cut, hd 12 (by omega), kstr_eq _ _ (kb_cut hb _ _) (fun y hy => by simp at hy; omega)] at h
    exact c2 ((leK_zero _ (kb_cut hb 12 4)).2 (by rw [show ((b.drop 12).take 4).length = 4 by rw [List.length_take, List.length_drop]; omega]; exact h))
   rw [e12]
   exact hj _
 ·
  refine ⟨0, 0, ?_, fun h => absurd h.2.1 c1⟩
  rw [decide_eq_false (fun h => c1 h.2.1)]
  refine Ev.congr (fun k => if_pos (by rw [str_size, hH]; rfl)) ?_
  refine Ev.congr (fun k => by rw [khas_lock _ hbH (by omega), ht4, decide_eq_false c1, Option.bind_some, if_neg (by decide)]) ?_
  exact hj _
end Go.Proofs.Ytgkjkhhppmnajaa.Lk
