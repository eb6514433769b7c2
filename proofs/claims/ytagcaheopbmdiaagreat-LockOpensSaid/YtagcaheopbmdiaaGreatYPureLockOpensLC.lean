/- Sealed layers: keys and names, as the program and the reference compute them. No condition. -/
import Derived.Test.YtagcaheopbmdiaaGreatYPureLockOpensLB
namespace Go.Proofs.YtagcaheopbmdiaaGreat.Lk
open Go Go.RowKit Go.Proofs.YtagcaheopbmdiaaGreat.QLockOpens Go.Proofs.YtagcaheopbmdiaaGreatW.PrintWords Go.Proofs.YtagcaheopbmdiaaGreatW.PrintLast Go.Proofs.YtagcaheopbmdiaaGreatW.PrintMore Go.Proofs.YtagcaheopbmdiaaGreat.SumPlain
set_option linter.unusedVariables false
set_option linter.unusedSimpArgs false
theorem opened_l0 (H : List Int) (hb : Bytes H) (key : ByteArray) (hk : key.size ≤ 1000000) (hH : H.length ≤ 1000000) : ∀ (d i : Nat), 16 + 24 * (i + d) ≤ H.length → Ev (fun k => wrackref1_Opened.l0 k (strOfNums H) key ((i + d : Nat) : Int) (i : Int)) (openL H key d i)
 | 0, i, hi => by
  refine Ev.step (f := fun _ => some _) (fun k => ?_) (Ev.now _)
  simp only [wrackref1_Opened.l0]
  rw [if_neg (by omega)]; rfl
 | d + 1, i, hi => by
  have ih := opened_l0 H hb key hk hH d (i + 1) (by omega)
  rw [show i + 1 + d = i + (d + 1) by omega] at ih
  have e2 : wrap64 ((i : Int) + 1) = ((i + 1 : Nat) : Int) := by unfold wrap64; omega
  have e1 : wrap64 (16 + wrap64 (24 * (i : Int))) = ((16 + 24 * i : Nat) : Int) := by unfold wrap64; omega
  have e3 : wrap64 (40 + wrap64 (24 * (i : Int))) = ((16 + 24 * i + 24 : Nat) : Int) := by unfold wrap64; omega
  have ex : (strOfNums H).extract (16 + 24 * i) (16 + 24 * i + 24) = strOfNums (slotAt H i) := by rw [kstr_cut]; unfold slotAt; rw [List.drop_take]; congr 2; omega
  have hl := slotAt_len H i (by omega)
  have hbs := slotAt_bytes H hb i
  have x1 : (strOfNums (slotAt H i)).extract 8 16 = strOfNums (((slotAt H i).drop 8).take 8) := by rw [kstr_cut, List.drop_take]
  have x2 : (strOfNums (slotAt H i)).extract 0 8 = strOfNums ((slotAt H i).take 8) := by rw [kstr_cut, List.drop_zero]
  have x3 : (strOfNums (slotAt H i)).extract 16 (strOfNums (slotAt H i)).size = strOfNums ((slotAt H i).drop 16) := by rw [kstr_cut, str_size, List.take_length]
  refine Ev.step (f := fun k => (wrackref1_wide.f k (strOfNums (((slotAt H i).drop 8).take 8))).bind fun t165 => (if 0 ≤ 8 then (if 8 ≤ ((strOfNums (slotAt H i)).size : Int) then ((wrackref1_wide.f k (strOfNums ((slotAt H i).take 8))).bind fun t166 => ((wrackref1_keyed.f k t166 key).bind fun t167 => ((wrackref1_keyed.f k t167 wIn).bind fun t168 => ((wrackref1_keyed.f k (Go.bits .xor .u64 t165 t168) wOk).bind fun t169 => ((wrackref1_Eight.f k t169).bind fun t170 => (if t170.toList = (strOfNums ((slotAt H i).drop 16)).toList then some ((i : Int), Go.bits .xor .u64 t165 t168, true) else wrackref1_Opened.l0 k (strOfNums H) key ((i + (d + 1) : Nat) : Int) ((i + 1 : Nat) : Int))))))) else none) else none)) (fun k => ?_) ?_
  ·
   simp only [wrackref1_Opened.l0]
   rw [e2, e1, e3, if_pos (by omega), if_pos (by omega), if_pos (by omega), if_pos (by rw [str_size]; omega), if_pos (by decide), Int.toNat_natCast, Int.toNat_natCast, ex, if_pos (by rw [str_size, hl]; decide), x3, x1, x2]
   rfl
  refine Ev.bind (wide_ev _ (kb_cut hbs _ _) (by rw [List.length_take]; omega)) ?_
  refine Ev.congr (fun k => if_pos (by decide)) ?_
  refine Ev.congr (fun k => if_pos (by rw [str_size, hl]; decide)) ?_
  refine Ev.bind (wide_ev _ (kb_tk hbs _) (by rw [List.length_take]; omega)) ?_
  refine Ev.bind (keyed_ev _ (leK_u64 _ (by rw [List.length_take]; omega) (kb_tk hbs _)) key hk) ?_
  refine Ev.bind (keyed_ev _ (mixedP_u64 _ _) wIn (by decide)) ?_
  refine Ev.bind (keyed_ev _ (xor_u64 _ _) wOk (by decide)) ?_
  refine Ev.bind (eight_ev' _ (mixedP_u64 _ _)) ?_
  rw [openL]
  unfold innerAt
  obtain ⟨inner, hin⟩ : ∃ x, x = Go.bits .xor .u64 (leK (((slotAt H i).drop 8).take 8)) (mixedP (mixedP (leK ((slotAt H i).take 8)) key) wIn) := ⟨_, rfl⟩
  rw [← hin]
  have hdl : ((slotAt H i).drop 16).length = 8 := by rw [List.length_drop, hl]
  have hiff : (strOfNums (numList (mixedP inner wOk).toNat)).toList = (strOfNums ((slotAt H i).drop 16)).toList ↔ mixedP inner wOk = leK ((slotAt H i).drop 16) := by
   rw [kstr_eq _ _ (numList_bytes _) (kb_dr hbs _)]
   refine ⟨fun h => ?_, fun h => ?_⟩
   · rw [← h, leK_num _ (mixedP_u64 _ _)]
   · exact leK_inj _ _ (numList_bytes _) (kb_dr hbs _) (by rw [numList_len, hdl]) (by rw [leK_num _ (mixedP_u64 _ _), h])
  by_cases hc : mixedP inner wOk = leK ((slotAt H i).drop 16)
  ·
   rw [if_pos hc]
   exact Ev.congr (fun k => if_pos (hiff.2 hc)) (Ev.now _)
  ·
   rw [if_neg hc]
   exact Ev.congr (fun k => if_neg (fun h => hc (hiff.1 h))) ih
theorem opened_ev (H : List Int) (hb : Bytes H) (key : ByteArray) (hk : key.size ≤ 1000000) (hH : H.length ≤ 1000000) (n : Nat) (hn : 16 + 24 * n ≤ H.length) : Ev (fun k => wrackref1_Opened.f k (strOfNums H) (n : Int) key) (openL H key n 0) := by
 have h := opened_l0 H hb key hk hH n 0 (by omega)
 rw [Nat.zero_add] at h
 exact h
/-- the same slots ahead of byte 112 or so -/
theorem openL_take (H : List Int) (key : ByteArray) (m : Nat) : ∀ (d i : Nat), 16 + 24 * (i + d) ≤ m → openL (H.take m) key d i = openL H key d i
 | 0, _, _ => rfl
 | d + 1, i, h => by
  have e : slotAt (H.take m) i = slotAt H i := by unfold slotAt; rw [List.drop_take, List.take_take, Nat.min_eq_left (by omega)]
  rw [openL, openL, openL_take H key m d (i + 1) (by omega)]
  unfold innerAt
  rw [e]
theorem openL_u64 (H : List Int) (key : ByteArray) : ∀ (d i : Nat), U64 (openL H key d i).2.1 ∧ ((openL H key d i).2.2 = true → ∃ j, (openL H key d i).1 = ((j : Nat) : Int) ∧ i ≤ j ∧ j < i + d)
 | 0, _ => ⟨(show U64 0 from ⟨by decide, by decide⟩), fun h => by cases h⟩
 | d + 1, i => by
  rw [openL]
  split
  · exact ⟨xor_u64 _ _, fun _ => ⟨i, rfl, Nat.le_refl _, by omega⟩⟩
  ·
   obtain ⟨h1, h2⟩ := openL_u64 H key d (i + 1)
   refine ⟨h1, fun h => ?_⟩
   obtain ⟨j, h3, h4, h5⟩ := h2 h
   exact ⟨j, h3, by omega, by omega⟩
def okC (b : Int) : Bool := (decide (97 ≤ b) && decide (b ≤ 122)) || (decide (48 ≤ b) && decide (b ≤ 57)) || decide (b = 45)
def nameP (s : ByteArray) : Bool := decide (1 ≤ s.size) && decide (s.size ≤ 12) && decide (97 ≤ bt s 0) && decide (bt s 0 ≤ 122) && (bytesOf s).all okC
theorem nameP_size (s : ByteArray) (h : nameP s = true) : 1 ≤ s.size ∧ s.size ≤ 12 := by
 unfold nameP at h
 simp only [Bool.and_eq_true,decide_eq_true_eq] at h
 exact ⟨h.1.1.1.1, h.1.1.1.2⟩
theorem name_step (xs : List Int) (i : Nat) (hi : i < xs.length) (hn : xs.length ≤ 1000000) (k : Nat) : lock_name.l0 (k + 1) xs (xs.length : Int) (i : Int) = if okC (rd xs (i : Int)) = true then lock_name.l0 k xs (xs.length : Int) ((i + 1 : Nat) : Int) else some false := by
 have e2 : wrap64 ((i : Int) + 1) = ((i + 1 : Nat) : Int) := by unfold wrap64; omega
 simp only [lock_name.l0]
 rw [if_pos (by omega), if_pos (by omega), if_pos (by omega), e2]
 generalize rd xs (i : Int) = c
 unfold okC
 by_cases h1 : 97 ≤ c <;> by_cases h2 : c ≤ 122 <;> by_cases h3 : 48 ≤ c <;> by_cases h4 : c ≤ 57 <;> by_cases h5 : c = 45 <;> simp [h1, h2, h3, h4, h5]
theorem name_l0 (xs : List Int) (hn : xs.length ≤ 1000000) : ∀ (d i : Nat), i + d = xs.length → Ev (fun k => lock_name.l0 k xs (xs.length : Int) (i : Int)) ((xs.drop i).all okC)
 | 0, i, hi => by
  refine Ev.step (f := fun _ => some _) (fun k => ?_) (Ev.now _)
  simp only [lock_name.l0]
  rw [if_neg (by omega), List.drop_of_length_le (by omega)]; rfl
 | d + 1, i, hi => by
  have ih := name_l0 xs hn d (i + 1) (by omega)
  rw [kdrop_rd xs i (by omega), List.all_cons]
  refine Ev.step (fun k => name_step xs i (by omega) hn k) ?_
  cases okC (rd xs (i : Int)) with
  | true => exact Ev.congr (fun k => if_pos rfl) (by simpa using ih)
  | false => exact Ev.congr (fun k => if_neg (by decide)) (by simpa using Ev.now false)
theorem size_list (s : ByteArray) : s.toList = ([] : List UInt8) ↔ s.size = 0 := by
 rw [Go.Lib.toList_data]
 show s.data.toList = [] ↔ s.data.size = 0
 rw [← Array.length_toList, List.length_eq_zero_iff]
theorem name_ev (s : ByteArray) : Ev (fun k => lock_name.f k s) (nameP s) := by
 have hj : Ev (fun k => lock_name.j0 k s true) false := Ev.step (f := fun _ => some false) (fun k => by simp [lock_name.j0]) (Ev.now _)
 by_cases h0 : s.size = 0
 ·
  rw [show nameP s = false by unfold nameP; simp [h0]]
  refine Ev.congr (fun k => ?_) hj
  unfold lock_name.f
  rw [if_pos ((size_list s).2 h0)]
 ·
  have h0' : ¬ s.toList = ([] : List UInt8) := fun h => h0 ((size_list s).1 h)
  by_cases h1 : s.size > 12
  ·
   rw [show nameP s = false by unfold nameP; simp [show ¬ s.size ≤ 12 by omega]]
   refine Ev.congr (fun k => ?_) hj
   unfold lock_name.f
   rw [if_neg h0', if_pos (by omega)]
  ·
   by_cases h2 : bt s 0 < 97
   ·
    rw [show nameP s = false by unfold nameP; simp [show ¬ 97 ≤ bt s 0 by omega]]
    refine Ev.congr (fun k => ?_) hj
    unfold lock_name.f
    rw [if_neg h0', if_neg (by omega), if_pos (by omega), if_pos h2]
   ·
    by_cases h3 : bt s 0 > 122
    ·
     rw [show nameP s = false by unfold nameP; simp [show ¬ bt s 0 ≤ 122 by omega]]
     refine Ev.congr (fun k => ?_) hj
     unfold lock_name.f
     rw [if_neg h0', if_neg (by omega), if_pos (by omega), if_neg h2, decide_eq_true h3]
    ·
     have hl := name_l0 (bytesOf s) (by rw [bytesOf_len]; omega) (bytesOf s).length 0 (by omega)
     rw [show nameP s = ((bytesOf s).drop 0).all okC by unfold nameP; simp [show 1 ≤ s.size by omega, show s.size ≤ 12 by omega, show 97 ≤ bt s 0 by omega, show bt s 0 ≤ 122 by omega]]
     refine Ev.congr (g := fun k => lock_name.f k s) (f := fun k => lock_name.j0 k s false) (fun k => ?_) (Ev.step (fun k => ?_) hl)
     ·
      unfold lock_name.f
      rw [if_neg h0', if_neg (by omega), if_pos (by omega), if_neg h2, decide_eq_false h3]
     ·
      simp only [lock_name.j0, Option.bind_some]
      rw [if_neg (by decide), if_pos (by omega)]
      rfl
theorem letters_ok : ∀ n : Fin 256, decide (0 ≤ Go.Lib.indexByte [97, 98, 99, 100, 101, 102, 103, 104, 105, 106, 107, 108, 109, 110, 111, 112, 113, 114, 115, 116, 117, 118, 119, 120, 121, 122] (UInt8.ofNat n.val)) = (decide (97 ≤ (n.val : Int)) && decide ((n.val : Int) ≤ 122)) := by decide +kernel
theorem all_ok : ∀ n : Fin 256, decide (0 ≤ Go.Lib.indexByte [97, 98, 99, 100, 101, 102, 103, 104, 105, 106, 107, 108, 109, 110, 111, 112, 113, 114, 115, 116, 117, 118, 119, 120, 121, 122, 48, 49, 50, 51, 52, 53, 54, 55, 56, 57, 45] (UInt8.ofNat n.val)) = okC (n.val : Int) := by decide +kernel
theorem cut_one (s : ByteArray) (i : Nat) (h : i < s.size) : (s.extract i (i + 1)).size = 1 ∧ (((s.extract i (i + 1)).get! 0).toNat : Int) = bt s (i : Int) := by
 have e : s.extract i (i + 1) = ⟨#[s[i]]⟩ := by
  apply ByteArray.ext
  rw [ByteArray.data_extract]
  apply Array.toList_inj.mp
  have h' : i < s.data.toList.length := h
  rw [Array.toList_extract, List.extract, List.drop_eq_getElem_cons h']
  simp
  rfl
 rw [e]
 refine ⟨rfl, ?_⟩
 unfold bt
 rw [Int.toNat_natCast, dif_pos h]
 rfl
theorem con_letters (s : ByteArray) (i : Nat) (h : i < s.size) : strings_Contains.f (⟨#[97, 98, 99, 100, 101, 102, 103, 104, 105, 106, 107, 108, 109, 110, 111, 112, 113, 114, 115, 116, 117, 118, 119, 120, 121, 122]⟩ : ByteArray) (s.extract i (i + 1)) = some (decide (97 ≤ bt s (i : Int)) && decide (bt s (i : Int) ≤ 122)) := by
 obtain ⟨h1, h2⟩ := cut_one s i h
 unfold strings_Contains.f
 rw [if_pos h1, ← h2]
 generalize (s.extract i (i + 1)).get! 0 = c
 have := letters_ok ⟨c.toNat, c.toNat_lt⟩
 simp only [UInt8.ofNat_toNat] at this
 rw [← this]
theorem con_all (s : ByteArray) (i : Nat) (h : i < s.size) : strings_Contains.f (⟨#[97, 98, 99, 100, 101, 102, 103, 104, 105, 106, 107, 108, 109, 110, 111, 112, 113, 114, 115, 116, 117, 118, 119, 120, 121, 122, 48, 49, 50, 51, 52, 53, 54, 55, 56, 57, 45]⟩ : ByteArray) (s.extract i (i + 1)) = some (okC (bt s (i : Int))) := by
 obtain ⟨h1, h2⟩ := cut_one s i h
 unfold strings_Contains.f
 rw [if_pos h1, ← h2]
 generalize (s.extract i (i + 1)).get! 0 = c
 have := all_ok ⟨c.toNat, c.toNat_lt⟩
 simp only [UInt8.ofNat_toNat] at this
 rw [← this]
theorem bt_rd (s : ByteArray) (i : Nat) (h : i < s.size) : bt s (i : Int) = rd (bytesOf s) (i : Int) := by
 unfold bt rd bytesOf
 rw [Int.toNat_natCast, dif_pos h, List.getD_eq_getElem?_getD, List.getElem?_map, List.getElem?_eq_getElem (show i < s.data.toList.length from h)]
 rfl
theorem named_l0 (s : ByteArray) (hn : s.size ≤ 1000000) : ∀ (d i : Nat), i + d = s.size → Ev (fun k => wrackref1_Named.l0 k s (s.size : Int) (i : Int)) (((bytesOf s).drop i).all okC)
 | 0, i, hi => by
  refine Ev.step (f := fun _ => some _) (fun k => ?_) (Ev.now _)
  simp only [wrackref1_Named.l0]
  rw [if_neg (by omega), List.drop_of_length_le (by rw [bytesOf_len]; omega)]; rfl
 | d + 1, i, hi => by
  have ih := named_l0 s hn d (i + 1) (by omega)
  have e2 : wrap64 ((i : Int) + 1) = ((i + 1 : Nat) : Int) := by unfold wrap64; omega
  rw [kdrop_rd (bytesOf s) i (by rw [bytesOf_len]; omega), List.all_cons, ← bt_rd s i (by omega)]
  refine Ev.step (f := fun k => if okC (bt s (i : Int)) = true then wrackref1_Named.l0 k s (s.size : Int) ((i + 1 : Nat) : Int) else some false) (fun k => ?_) ?_
  ·
   simp only [wrackref1_Named.l0]
   rw [e2, if_pos (by omega), if_pos (by omega), if_pos (by omega), if_pos (by omega), Int.toNat_natCast, Int.toNat_natCast, con_all s i (by omega), Option.bind_some]
  ·
   cases okC (bt s (i : Int)) with
   | true => exact Ev.congr (fun k => if_pos rfl) (by simpa using ih)
   | false => exact Ev.congr (fun k => if_neg (by decide)) (by simpa using Ev.now false)
theorem named_ev (s : ByteArray) : Ev (fun k => wrackref1_Named.f k s) (nameP s) := by
 have hj : Ev (fun k => wrackref1_Named.j0 k s true) false := Ev.step (f := fun _ => some false) (fun k => by simp [wrackref1_Named.j0]) (Ev.now _)
 by_cases h0 : s.size = 0
 ·
  rw [show nameP s = false by unfold nameP; simp [h0]]
  refine Ev.congr (fun k => ?_) hj
  unfold wrackref1_Named.f
  rw [if_pos (by omega)]
 ·
  by_cases h1 : s.size > 12
  ·
   rw [show nameP s = false by unfold nameP; simp [show ¬ s.size ≤ 12 by omega]]
   refine Ev.congr (fun k => ?_) hj
   unfold wrackref1_Named.f
   rw [if_neg (by omega), if_pos (by omega)]
  ·
   have hc := con_letters s 0 (by omega)
   have hl := named_l0 s (by omega) s.size 0 (by omega)
   refine Ev.congr (g := fun k => wrackref1_Named.f k s) (f := fun k => wrackref1_Named.j0 k s (!(decide (97 ≤ bt s 0) && decide (bt s 0 ≤ 122)))) (fun k => ?_) ?_
   ·
    unfold wrackref1_Named.f
    rw [if_neg (by omega), if_neg (by omega), if_pos (by decide), if_pos (by omega)]
    have hc' := hc
    rw [Nat.zero_add] at hc'
    rw [hc', Option.bind_some]
    rfl
   ·
    have e : nameP s = ((decide (97 ≤ bt s 0) && decide (bt s 0 ≤ 122)) && ((bytesOf s).drop 0).all okC) := by
     unfold nameP
     simp [show 1 ≤ s.size by omega, show s.size ≤ 12 by omega]
    rw [e]
    cases (decide (97 ≤ bt s 0) && decide (bt s 0 ≤ 122)) with
    | true =>
     rw [Bool.true_and]
     exact Ev.step (fun k => by simp [wrackref1_Named.j0]) hl
    | false => exact Ev.step (f := fun _ => some false) (fun k => by simp [wrackref1_Named.j0]) (Ev.now _)
end Go.Proofs.YtagcaheopbmdiaaGreat.Lk
