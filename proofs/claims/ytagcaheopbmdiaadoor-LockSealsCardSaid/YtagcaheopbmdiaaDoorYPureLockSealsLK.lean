/- Sealed layers: the reference's layer and the names' errors. No condition. -/
import Derived.Test.YtagcaheopbmdiaaDoorYPureLockSealsLJ
namespace Go.Proofs.YtagcaheopbmdiaaDoor.Lk
open Go.Proofs.YtagcaheopbmdiaaDoor.SumPlain Go.Maps
open Go Go.RowKit Go.Proofs.YtagcaheopbmdiaaDoor.QLockSeals Go.Proofs.YtagcaheopbmdiaaDoorW.PrintWords Go.Proofs.YtagcaheopbmdiaaDoorW.PrintLast Go.Proofs.YtagcaheopbmdiaaDoorW.PrintMore
set_option linter.unusedVariables false
set_option linter.unusedSimpArgs false
theorem putAt_mid (P Q R ys : List Int) (lo : Nat) (hP : P.length = lo) (hQ : Q.length = ys.length) : putAt (P ++ (Q ++ R)) lo ys = P ++ (ys ++ R) := by
 subst hP
 unfold putAt
 rw [List.take_left, ← hQ, ← List.length_append, ← List.append_assoc P Q R, List.drop_left]
def head16 (size nk : Nat) : List Int := [108, 111, 99, 107] ++ (leB (size : Int) 4 ++ (leB (nk : Int) 4 ++ [0, 0, 0, 0]))
theorem head16_len (size nk : Nat) : (head16 size nk).length = 16 := by unfold head16; simp [leB_len]
theorem headP_eq (size nk : Nat) : headP size nk = head16 size nk ++ List.replicate 112 0 := by
 have e0 : List.replicate 128 (0 : Int) = [] ++ ([0, 0, 0, 0] ++ ([0, 0, 0, 0] ++ ([0, 0, 0, 0] ++ ([0, 0, 0, 0] ++ List.replicate 112 0)))) := by decide +kernel
 have hl : bytesOf wLock = [108, 111, 99, 107] := by decide
 unfold headP head16
 rw [e0, hl, putAt_mid [] [0, 0, 0, 0] _ [108, 111, 99, 107] 0 rfl rfl]
 rw [List.nil_append, putAt_mid [108, 111, 99, 107] [0, 0, 0, 0] _ (leB (size : Int) 4) 4 rfl (by rw [leB_len]; rfl)]
 rw [← List.append_assoc, putAt_mid ([108, 111, 99, 107] ++ leB (size : Int) 4) [0, 0, 0, 0] _ (leB (nk : Int) 4) 8 (by rw [List.length_append, leB_len]; rfl) (by rw [leB_len]; rfl)]
 simp only [List.append_assoc]
def slotsL (names : List ByteArray) (seed inner : Int) : Nat → List Int
 | 0 => []
 | i + 1 => slotsL names seed inner i ++ sealSlot names seed inner i
theorem slotsL_len (names : List ByteArray) (seed inner : Int) : ∀ i, (slotsL names seed inner i).length = 24 * i
 | 0 => rfl
 | i + 1 => by rw [slotsL, List.length_append, slotsL_len names seed inner i]; unfold sealSlot; rw [slotP_len]; omega
theorem sealH_eq (size nk : Nat) (names : List ByteArray) (seed inner : Int) : ∀ i, i ≤ 4 → sealH (headP size nk) names seed inner i = head16 size nk ++ (slotsL names seed inner i ++ List.replicate (112 - 24 * i) 0)
 | 0, _ => by rw [sealH, headP_eq]; rfl
 | i + 1, h => by
  rw [sealH, sealH_eq size nk names seed inner i (by omega), slotsL]
  rw [show 112 - 24 * i = 24 + (112 - 24 * (i + 1)) by omega, ← List.replicate_append_replicate, ← List.append_assoc, putAt_mid (head16 size nk ++ slotsL names seed inner i) (List.replicate 24 0) _ (sealSlot names seed inner i) (16 + 24 * i) (by rw [List.length_append, head16_len, slotsL_len]) (by unfold sealSlot; rw [List.length_replicate, slotP_len])]
  simp only [List.append_assoc]
theorem sealP_eq (b : List Int) (names : List ByteArray) (seed : Int) (hn : names.length ≤ 4) : sealP b names seed = head16 b.length names.length ++ (slotsL names seed (sealI seed) names.length ++ (List.replicate (112 - 24 * names.length) 0 ++ streamL (sealI seed) 0 b)) := by
 unfold sealP
 have hl : (sealH (headP b.length names.length) names seed (sealI seed) names.length).length = 128 := sealH_len _ (headP_len _ _) _ _ _ _ hn
 have h := putAt_mid (sealH (headP b.length names.length) names seed (sealI seed) names.length) b [] (streamL (sealI seed) 0 b) 128 hl (by rw [streamL_len])
 rw [List.append_nil, List.append_nil] at h
 rw [h, sealH_eq _ _ _ _ _ _ hn]
 simp only [List.append_assoc]
theorem leB_digs (n : Nat) : ∀ d, leB (n : Int) d = digs d n
 | 0 => rfl
 | d + 1 => by
  have h : ∀ (d n : Nat), leB (n : Int) (d + 1) = ((n % 256 : Nat) : Int) :: leB ((n / 256 : Nat) : Int) d := fun d n => by
   unfold leB
   rw [List.range_succ_eq_map, List.map_cons, List.map_map]
   congr 1
   · simp
   ·
    apply List.map_congr_left
    intro i _
    simp only [Function.comp]
    rw [show 8 * (i + 1) = 8 + 8 * i by omega, Int.pow_add, ← Int.ediv_ediv_of_nonneg (by decide)]
    rfl
  rw [h, digs, leB_digs (n / 256) d]
theorem numList_rd (n r : Nat) (h : r < 8) : rd (numList n) (r : Int) = ((n / 2 ^ (8 * r) % 256 : Nat) : Int) := by
 match r, h with
 | 0, _ => simp [rd, numList]
 | 1, _ => rfl
 | 2, _ => rfl
 | 3, _ => rfl
 | 4, _ => rfl
 | 5, _ => rfl
 | 6, _ => rfl
 | 7, _ => rfl
theorem streamV_rd (inner : Int) (a q r : Nat) (hq : q = a / 8) (hr : r = a % 8) (x : Int) : Go.bits .xor .u8 x (rd (numList (hashOf (numList inner.toNat ++ numList q)).toNat) (r : Int)) = streamV inner a x := by
 have h0 := (hash_u64 (numList inner.toNat ++ numList q)).1
 rw [numList_rd _ r (by omega)]
 unfold streamV
 rw [← hq, ← hr]
 obtain ⟨n, hn⟩ := Int.eq_ofNat_of_zero_le h0
 rw [hn, Int.toNat_natCast]
 congr 1
theorem rstream_step (s : ByteArray) (inner : Int) (off i a q r : Nat) (n : Int) (acc : ByteArray) (hi : (i : Int) < n) (hx : (i : Int) < (s.size : Int)) (h1 : wrap64 ((off : Int) + (i : Int)) = (a : Int)) (h2 : Int.tdiv (a : Int) 8 = (q : Int)) (h3 : wrap64 (q : Int) = (q : Int)) (h4 : IntKind.u64.wrap (q : Int) = (q : Int)) (h5 : Int.tmod (a : Int) 8 = (r : Int)) (h7 : wrap64 ((i : Int) + 1) = ((i + 1 : Nat) : Int)) (k : Nat) :
  wrackref1_Stream.l0 (k + 1) s inner (off : Int) acc n (i : Int) = (wrackref1_Eight.f k inner).bind fun t1 => (wrackref1_Eight.f k (q : Int)).bind fun t2 => if t1.size + t2.size ≤ 9223372036854775807 then (if (t1 ++ t2).size ≤ 140737488355328 then (wrackref1_Mix.f k (bytesOf (t1 ++ t2))).bind fun t3 => (wrackref1_Eight.f k t3).bind fun t4 => if (r : Int) < (t4.size : Int) then (if acc.size + (strOfNums [Go.bits .xor .u8 (bt s (i : Int)) (bt t4 (r : Int))]).size ≤ 9223372036854775807 then wrackref1_Stream.l0 k s inner (off : Int) (acc ++ strOfNums [Go.bits .xor .u8 (bt s (i : Int)) (bt t4 (r : Int))]) n ((i + 1 : Nat) : Int) else none) else none else none) else none := by
 have p1 : (0 : Int) ≤ (i : Int) := Int.natCast_nonneg _
 have p2 : (0 : Int) ≤ (r : Int) := Int.natCast_nonneg _
 simp only [wrackref1_Stream.l0]
 rw [if_pos hi, h1, h2, h3, h4, h5, h7]
 simp only [if_pos p1, if_pos hx, if_pos p2, Option.bind_some]
theorem rstream_l0 (inner : Int) (hin : U64 inner) (xs : List Int) (hb : Bytes xs) (hn : xs.length ≤ 1000000) (off : Nat) (hoff : off ≤ 1000000) : ∀ (d i : Nat), i + d = xs.length → Ev (fun k => wrackref1_Stream.l0 k (strOfNums xs) inner (off : Int) (strOfNums (streamL inner off (xs.take i))) (xs.length : Int) (i : Int)) (strOfNums (streamL inner off xs))
 | 0, i, hi => by
  refine Ev.step (f := fun _ => some _) (fun k => ?_) (Ev.now _)
  simp only [wrackref1_Stream.l0]
  rw [if_neg (by omega), List.take_of_length_le (by omega)]
 | d + 1, i, hi => by
  have hiN : i < xs.length := by omega
  have hiM : i + 1 + d = xs.length := by omega
  have hoi : off + i ≤ 3000000 := by omega
  have hi1 : i + 1 ≤ 3000000 := by omega
  clear hi
  have ih := rstream_l0 inner hin xs hb hn off hoff d (i + 1) hiM
  have hsl : (streamL inner off (xs.take i)).length ≤ 3000000 := by rw [streamL_len, List.length_take]; omega
  clear hiM hoff hn
  obtain ⟨a, ha⟩ : ∃ a, a = off + i := ⟨_, rfl⟩
  have hab : a ≤ 3000000 := ha ▸ hoi
  have hend : streamL inner off (xs.take (i + 1)) = streamL inner off (xs.take i) ++ [streamV inner a (rd xs (i : Int))] := by
   rw [ktake_rd xs i hiN, streamL_snoc, List.length_take, Nat.min_eq_left (Nat.le_of_lt hiN), ← ha]
  rw [hend, ← kstr_add] at ih
  have g1 : wrap64 ((off : Int) + (i : Int)) = (a : Int) := by
   have e : (off : Int) + (i : Int) = (a : Int) := by rw [ha]; rfl
   rw [e]; exact st_wrap64 hab
  have g7 : wrap64 ((i : Int) + 1) = ((i + 1 : Nat) : Int) := st_wrap64 (q := i + 1) hi1
  have gi : (i : Int) < (xs.length : Int) := Int.ofNat_lt.2 hiN
  have gx : (i : Int) < ((strOfNums xs).size : Int) := by rw [str_size]; exact gi
  have hbt := kstr_at xs hb i hiN
  clear ha hoi hi1
  obtain ⟨q, hq⟩ : ∃ q, q = a / 8 := ⟨_, rfl⟩
  obtain ⟨r, hr⟩ : ∃ r, r = a % 8 := ⟨_, rfl⟩
  have hq3 := st_q hq hab
  have hr8 : r < 8 := by omega
  refine Ev.step (fun k => rstream_step _ inner off i a q r _ _ gi gx g1 (st_div hq) (st_wrap64 hq3) (st_u64 hq3) (st_mod hr) g7 k) ?_
  refine Ev.bind (eight_ev' inner hin) ?_
  refine Ev.bind (eight_ev' (q : Int) (st_U hq3)) ?_
  rw [Int.toNat_natCast]
  refine Ev.congr (fun k => if_pos (by rw [str_size, str_size, numList_len, numList_len]; decide)) ?_
  refine Ev.congr (fun k => if_pos (by rw [ByteArray.size_append, str_size, str_size, numList_len, numList_len]; decide)) ?_
  rw [bytesOf_app, bytesOf_str _ (numList_bytes _), bytesOf_str _ (numList_bytes _)]
  refine Ev.bind (mix_ev _ (by rw [List.length_append, numList_len, numList_len]; decide)) ?_
  refine Ev.bind (eight_ev' _ (hash_u64 _)) ?_
  refine Ev.congr (fun k => if_pos (by rw [str_size, numList_len]; exact Int.ofNat_lt.2 hr8)) ?_
  rw [hbt, kstr_at (numList _) (numList_bytes _) r (by rw [numList_len]; exact hr8), streamV_rd inner a q r hq hr]
  refine Ev.congr (fun k => if_pos (by rw [str_size, str_size, List.length_singleton]; omega)) ?_
  exact ih
theorem rstream_ev (inner : Int) (hin : U64 inner) (xs : List Int) (hb : Bytes xs) (hn : xs.length ≤ 1000000) (off : Nat) (hoff : off ≤ 1000000) : Ev (fun k => wrackref1_Stream.f k (strOfNums xs) inner (off : Int)) (strOfNums (streamL inner off xs)) := by
 have e := rstream_l0 inner hin xs hb hn off hoff xs.length 0 (by omega)
 unfold wrackref1_Stream.f
 rw [str_size]
 exact e
def nmAt (l : List ByteArray) (i : Nat) : ByteArray := rdOf ByteArray.empty l (i : Int)
def hasN (l : List ByteArray) (s : ByteArray) : Bool := l.any fun x => decide (s.toList = x.toList)
def keysF (names : List ByteArray) : Nat → Nat → Int
 | 0, _ => 0
 | d + 1, i => if nameP (nmAt names i) = true then (if hasN (names.take i) (nmAt names i) = true then 7 else keysF names d (i + 1)) else 6
def keysE (names : List ByteArray) : Int := if names.length < 1 ∨ 4 < names.length then 4 else keysF names names.length 0
theorem drop_nm (l : List ByteArray) (i : Nat) (h : i < l.length) : l.drop i = nmAt l i :: l.drop (i + 1) := by
 unfold nmAt rdOf
 rw [Int.toNat_natCast, List.drop_eq_getElem_cons h, List.getD_eq_getElem?_getD, List.getElem?_eq_getElem h, Option.getD_some]
theorem take_nm (l : List ByteArray) (i : Nat) (h : i < l.length) : l.take (i + 1) = l.take i ++ [nmAt l i] := by
 unfold nmAt rdOf
 rw [Int.toNat_natCast, List.take_succ_eq_append_getElem h, List.getD_eq_getElem?_getD, List.getElem?_eq_getElem h, Option.getD_some]
theorem sl_up (i : Nat) (h : i ≤ 1000000) : wrap64 ((i : Int) + 1) = ((i + 1 : Nat) : Int) := by unfold wrap64; omega
theorem indexN_l0 (l : List ByteArray) (s : ByteArray) (hn : l.length ≤ 1000000) : ∀ (d i : Nat), i + d = l.length → ∃ r : Int, Ev (fun k => slices_Index_string_string.l0 k l s (l.length : Int) (i : Int)) r ∧ decide (r ≥ 0) = hasN (l.drop i) s
 | 0, i, hi => by
  refine ⟨-1, Ev.step (f := fun _ => some _) (fun k => ?_) (Ev.now _), ?_⟩
  ·
   simp only [slices_Index_string_string.l0]
   rw [if_neg (by omega)]
  · rw [List.drop_of_length_le (by omega)]; rfl
 | d + 1, i, hi => by
  have hil : i < l.length := by omega
  rw [drop_nm l i hil]
  by_cases hs : s.toList = (nmAt l i).toList
  ·
   refine ⟨(i : Int), Ev.step (f := fun _ => some _) (fun k => ?_) (Ev.now _), ?_⟩
   ·
    simp only [slices_Index_string_string.l0]
    rw [if_pos (by omega), if_pos (by omega), if_pos (by omega), if_pos (show s.toList = (rdOf ByteArray.empty l (i : Int)).toList from hs)]
   ·
    unfold hasN
    rw [List.any_cons, decide_eq_true hs, Bool.true_or]
    exact decide_eq_true (by omega)
  ·
   obtain ⟨r, hr, h2⟩ := indexN_l0 l s hn d (i + 1) (by omega)
   refine ⟨r, Ev.step (fun k => ?_) hr, ?_⟩
   ·
    simp only [slices_Index_string_string.l0]
    rw [if_pos (by omega), if_pos (by omega), if_pos (by omega), if_neg (show ¬ s.toList = (rdOf ByteArray.empty l (i : Int)).toList from hs), sl_up i (by omega)]
   ·
    rw [h2]
    unfold hasN
    rw [List.any_cons, decide_eq_false hs, Bool.false_or]
theorem contains_ev (l : List ByteArray) (s : ByteArray) (hn : l.length ≤ 1000000) : Ev (fun k => slices_Contains_string_string.f k l s) (hasN l s) := by
 obtain ⟨r, hr, h2⟩ := indexN_l0 l s hn l.length 0 (by omega)
 rw [List.drop_zero] at h2
 unfold slices_Contains_string_string.f
 refine Ev.bind hr ?_
 rw [h2]
 exact Ev.now _
theorem keys_l0 (names : List ByteArray) (hn : names.length ≤ 4) : ∀ (d i : Nat), i + d = names.length → Ev (fun k => lock_keys.l0 k names names (names.length : Int) (i : Int)) (keysF names d i)
 | 0, i, hi => by
  refine Ev.step (f := fun _ => some _) (fun k => ?_) (Ev.now _)
  simp only [lock_keys.l0]
  rw [if_neg (by omega)]
  rfl
 | d + 1, i, hi => by
  have ih := keys_l0 names hn d (i + 1) (by omega)
  refine Ev.step (f := fun k => (lock_name.f k (nmAt names i)).bind fun t109 => (if t109 = true then (if (i : Int) ≤ (names.length : Int) then ((slices_Contains_string_string.f k (names.take i) (nmAt names i)).bind fun t111 => (if t111 = true then (some 7) else (lock_keys.l0 k names names (names.length : Int) ((i + 1 : Nat) : Int)))) else (none)) else (some 6))) (fun k => ?_) ?_
  ·
   simp only [lock_keys.l0]
   rw [if_pos (by omega), if_pos (by omega), if_pos (by omega), sl_up i (by omega), Int.toNat_natCast]
   rfl
  ·
   refine Ev.bind (name_ev _) ?_
   unfold keysF
   cases nameP (nmAt names i) with
   | false => exact Ev.congr (fun k => if_neg (by decide)) (Ev.now _)
   | true =>
    rw [if_pos rfl]
    refine Ev.congr (fun k => if_pos rfl) ?_
    refine Ev.congr (fun k => if_pos (by omega)) ?_
    refine Ev.bind (contains_ev _ _ (by rw [List.length_take]; omega)) ?_
    cases hasN (names.take i) (nmAt names i) with
    | true => exact Ev.congr (fun k => if_pos rfl) (Ev.now _)
    | false =>
     rw [if_neg (by decide)]
     exact Ev.congr (fun k => if_neg (by decide)) ih
theorem keys_ev (names : List ByteArray) : Ev (fun k => lock_keys.f k names) (keysE names) := by
 unfold keysE
 have h4 : Ev (fun k => lock_keys.j0 k names true) 4 := Ev.step (f := fun _ => some 4) (fun k => by simp [lock_keys.j0]) (Ev.now _)
 by_cases h0 : names.length < 1
 ·
  rw [if_pos (Or.inl h0)]
  refine Ev.congr (fun k => ?_) h4
  unfold lock_keys.f
  rw [if_pos (by omega)]
 ·
  by_cases h1 : 4 < names.length
  ·
   rw [if_pos (Or.inr h1)]
   refine Ev.congr (fun k => ?_) h4
   unfold lock_keys.f
   rw [if_neg (by omega), decide_eq_true (by omega)]
  ·
   rw [if_neg (by omega)]
   refine Ev.congr (g := fun k => lock_keys.f k names) (f := fun k => lock_keys.j0 k names false) (fun k => ?_) ?_
   ·
    unfold lock_keys.f
    rw [if_neg (by omega), decide_eq_false (by omega)]
   ·
    refine Ev.step (f := fun k => lock_keys.l0 k names names (names.length : Int) 0) (fun k => ?_) (keys_l0 names (by omega) names.length 0 (by omega))
    simp only [lock_keys.j0]
    rw [if_neg (by decide)]
theorem keysF_ok (names : List ByteArray) : ∀ (d i : Nat), keysF names d i = 0 → ∀ j, i ≤ j → j < i + d → nameP (nmAt names j) = true
 | 0, i, _, j, h1, h2 => by omega
 | d + 1, i, h, j, h1, h2 => by
  unfold keysF at h
  by_cases c : nameP (nmAt names i) = true
  ·
   rw [if_pos c] at h
   by_cases c2 : hasN (names.take i) (nmAt names i) = true
   · rw [if_pos c2] at h; exact absurd h (by decide)
   ·
    rw [if_neg c2] at h
    by_cases e : j = i
    · rw [e]; exact c
    · exact keysF_ok names d (i + 1) h j (by omega) (by omega)
  · rw [if_neg c] at h; exact absurd h (by decide)
theorem keysE_ok (names : List ByteArray) (h : keysE names = 0) : names.length ≤ 4 ∧ 1 ≤ names.length ∧ ∀ i, i < names.length → nameP (nmAt names i) = true := by
 unfold keysE at h
 by_cases c : names.length < 1 ∨ 4 < names.length
 · rw [if_pos c] at h; exact absurd h (by decide)
 ·
  rw [if_neg c] at h
  exact ⟨by omega, by omega, fun i hi => keysF_ok names names.length 0 h i (by omega) (by omega)⟩
theorem little_l0 (D : Nat) (hD : D ≤ 8) : ∀ (d i n : Nat) (acc : List Int), i + d = D → acc.length = i → n ≤ 1000000000 → Ev (fun k => wrackref1_Little.l0 k (n : Int) (strOfNums acc) (D : Int) (i : Int)) (strOfNums (acc ++ digs d n))
 | 0, i, n, acc, hi, ha, hn => by
  refine Ev.step (f := fun _ => some _) (fun k => ?_) (Ev.now _)
  simp only [wrackref1_Little.l0]
  rw [if_neg (by omega), digs, List.append_nil]
 | d + 1, i, n, acc, hi, ha, hn => by
  have ih := little_l0 D hD d (i + 1) (n / 256) (acc ++ [((n % 256 : Nat) : Int)]) (by omega) (by rw [List.length_append, List.length_singleton, ha]) (by omega)
  rw [List.append_assoc] at ih
  refine Ev.step (fun k => ?_) ih
  have e1 : Int.tmod (n : Int) 256 % 256 = ((n % 256 : Nat) : Int) := by rw [Int.tmod_eq_emod_of_nonneg (Int.natCast_nonneg _)]; omega
  have e2 : wrap64 (Int.tdiv (n : Int) 256) = ((n / 256 : Nat) : Int) := by rw [Int.tdiv_eq_ediv_of_nonneg (Int.natCast_nonneg _)]; unfold wrap64; omega
  simp only [wrackref1_Little.l0]
  rw [if_pos (by omega), e1, e2, sl_up i (by omega), Option.bind_some, if_pos (by rw [str_size, str_size, List.length_singleton]; omega), kstr_add]
theorem little_ev (n D : Nat) (hD : D ≤ 8) (hn : n ≤ 1000000000) : Ev (fun k => wrackref1_Little.f k (n : Int) (D : Int)) (strOfNums (digs D n)) := by
 have e := little_l0 D hD D 0 n [] (by omega) rfl hn
 rw [List.nil_append] at e
 exact e
theorem rep_zero : ∀ n, Go.Lib.repeatL ([0] : List UInt8) n = List.replicate n 0
 | 0 => rfl
 | n + 1 => by
  show ([0] : List UInt8) ++ Go.Lib.repeatL [0] n = _
  rw [rep_zero n]
  rfl
theorem str_rep (n : Nat) : (⟨(Go.Lib.repeatL ([0] : List UInt8) n).toArray⟩ : ByteArray) = strOfNums (List.replicate n 0) := by
 rw [rep_zero]
 unfold strOfNums
 apply ByteArray.ext
 simp
theorem filled_val (xs : List Int) (m : Nat) (h : xs.length ≤ m) (hm : m ≤ 1000000) : wrackref1_Filled.f (strOfNums xs) (m : Int) = some (strOfNums (xs ++ List.replicate (m - xs.length) 0)) := by
 unfold wrackref1_Filled.f strings_Repeat.f
 rw [str_size]
 have e1 : wrap64 ((m : Int) - (xs.length : Int)) = ((m - xs.length : Nat) : Int) := by unfold wrap64; omega
 rw [e1]
 have e2 : mx 0 ((m - xs.length : Nat) : Int) = ((m - xs.length : Nat) : Int) := by unfold mx; split <;> omega
 rw [e2, Int.toNat_natCast, if_pos ⟨by omega, by omega, by show 1 * (m - xs.length) ≤ _; omega⟩, Option.bind_some]
 show (if xs.length + (⟨(Go.Lib.repeatL ([0] : List UInt8) (m - xs.length)).toArray⟩ : ByteArray).size ≤ _ then some (strOfNums xs ++ (⟨(Go.Lib.repeatL ([0] : List UInt8) (m - xs.length)).toArray⟩ : ByteArray)) else none) = _
 rw [str_rep, if_pos (by rw [str_size, List.length_replicate]; omega), kstr_add]
theorem sealed_slot (names : List ByteArray) (seed inner : Int) (i : Nat) (h4 : i < 4) : (⟨#[115, 97, 108, 116]⟩ : ByteArray) ++ (⟨#[UInt8.ofNat (48 + (i : Int).toNat)]⟩ : ByteArray) = saltW i := rfl
theorem sealed_l0 (b : List Int) (hb : Bytes b) (hbl : b.length ≤ 65408) (names : List ByteArray) (hn : names.length ≤ 4) (hsz : ∀ i, i < names.length → (nmAt names i).size ≤ 1000000) (seed inner : Int) (hin : U64 inner) (nk : Nat) : ∀ (d i : Nat), i + d = names.length →
  Ev (fun k => wrackref1_Sealed.l0 k b seed inner (strOfNums (head16 b.length nk ++ slotsL names seed inner i)) names (names.length : Int) (i : Int)) (strOfNums (head16 b.length nk ++ (slotsL names seed inner names.length ++ (List.replicate (112 - 24 * names.length) 0 ++ streamL inner 0 b))))
 | 0, i, hi => by
  obtain rfl : i = names.length := by omega
  refine Ev.step (f := fun k => (wrackref1_Filled.f (strOfNums (head16 b.length nk ++ slotsL names seed inner names.length)) 128).bind fun t246 => ((wrackref1_Stream.f k (strOfNums b) inner 0).bind fun t247 => (if t246.size + t247.size ≤ 9223372036854775807 then (some (t246 ++ t247)) else (none)))) (fun k => ?_) ?_
  ·
   simp only [wrackref1_Sealed.l0]
   rw [if_neg (by omega)]
  ·
   have hl : (head16 b.length nk ++ slotsL names seed inner names.length).length = 16 + 24 * names.length := by rw [List.length_append, head16_len, slotsL_len]
   have hf := filled_val (head16 b.length nk ++ slotsL names seed inner names.length) 128 (by omega) (by omega)
   rw [hl, show 128 - (16 + 24 * names.length) = 112 - 24 * names.length by omega, show ((128 : Nat) : Int) = 128 from rfl] at hf
   refine Ev.congr (fun k => by rw [hf, Option.bind_some]) ?_
   refine Ev.bind (rstream_ev inner hin b hb (by omega) 0 (by omega)) ?_
   refine Ev.congr (fun k => if_pos (by rw [str_size, str_size, streamL_len, List.length_append, hl, List.length_replicate]; omega)) ?_
   rw [kstr_add, List.append_assoc, List.append_assoc]
   exact Ev.now _
 | d + 1, i, hi => by
  have hil : i < names.length := by omega
  have ih := sealed_l0 b hb hbl names hn hsz seed inner hin nk d (i + 1) (by omega)
  refine Ev.step (f := fun k => (strconv_Itoa.f (i : Int)).bind fun t243 => (if 4 + t243.size ≤ 9223372036854775807 then ((wrackref1_keyed.f k (IntKind.u64.wrap seed) ((⟨#[115, 97, 108, 116]⟩ : ByteArray) ++ t243)).bind fun t244 => ((wrackref1_SlotText.f k t244 inner (nmAt names i)).bind fun t245 => (if (strOfNums (head16 b.length nk ++ slotsL names seed inner i)).size + t245.size ≤ 9223372036854775807 then (wrackref1_Sealed.l0 k b seed inner (strOfNums (head16 b.length nk ++ slotsL names seed inner i) ++ t245) names (names.length : Int) ((i + 1 : Nat) : Int)) else (none)))) else (none))) (fun k => ?_) ?_
  ·
   simp only [wrackref1_Sealed.l0]
   rw [if_pos (by omega), if_pos (by omega), if_pos (by omega), sl_up i (by omega)]
   rfl
  ·
   refine Ev.congr (fun k => by rw [show strconv_Itoa.f (i : Int) = some ⟨#[UInt8.ofNat (48 + (i : Int).toNat)]⟩ by unfold strconv_Itoa.f; rw [if_pos ⟨by omega, by omega⟩], Option.bind_some, if_pos (show 4 + (⟨#[UInt8.ofNat (48 + (i : Int).toNat)]⟩ : ByteArray).size ≤ 9223372036854775807 from (by decide : 4 + 1 ≤ 9223372036854775807)), sealed_slot names seed inner i (by omega)]) ?_
   refine Ev.bind (keyed_ev _ (u64_wrap seed) _ (by rw [saltW_size]; decide)) ?_
   refine Ev.bind (slotText_ev _ _ (mixedP_u64 _ _) hin (nmAt names i) (hsz i hil)) ?_
   refine Ev.congr (fun k => if_pos (by rw [str_size, str_size, slotP_len, List.length_append, head16_len, slotsL_len]; omega)) ?_
   rw [kstr_add, List.append_assoc]
   exact ih
theorem sealed_ev (b : List Int) (hb : Bytes b) (hbl : b.length ≤ 65408) (names : List ByteArray) (hn : names.length ≤ 4) (hsz : ∀ i, i < names.length → (nmAt names i).size ≤ 1000000) (seed : Int) : Ev (fun k => wrackref1_Sealed.f k b names seed) (strOfNums (sealP b names seed)) := by
 have hI : U64 (sealI seed) := mixedP_u64 _ _
 have e := sealed_l0 b hb hbl names hn hsz seed (sealI seed) hI names.length names.length 0 (by omega)
 rw [sealP_eq b names seed hn]
 unfold wrackref1_Sealed.f
 refine Ev.bind (keyed_ev _ (u64_wrap seed) wKey (by decide)) ?_
 refine Ev.bind (little_ev b.length 4 (by omega) (by omega)) ?_
 refine Ev.congr (fun k => if_pos (by rw [str_size, digs_length]; decide)) ?_
 refine Ev.bind (little_ev names.length 8 (by omega) (by omega)) ?_
 refine Ev.congr (fun k => if_pos (by rw [ByteArray.size_append, str_size, str_size, digs_length, digs_length]; decide)) ?_
 have hh : ((⟨#[108, 111, 99, 107]⟩ : ByteArray) ++ strOfNums (digs 4 b.length)) ++ strOfNums (digs 8 names.length) = strOfNums (head16 b.length names.length ++ slotsL names seed (sealI seed) 0) := by
  rw [show (⟨#[108, 111, 99, 107]⟩ : ByteArray) = strOfNums [108, 111, 99, 107] by decide, kstr_add, kstr_add]
  congr 1
  have h8 : digs 8 names.length = digs 4 names.length ++ [0, 0, 0, 0] := by
   have h0 : ∀ n : Nat, n ≤ 4 → digs 8 n = digs 4 n ++ [0, 0, 0, 0] := fun n hn => by
    match n, hn with
    | 0, _ => rfl
    | 1, _ => rfl
    | 2, _ => rfl
    | 3, _ => rfl
    | 4, _ => rfl
   exact h0 _ hn
  unfold head16 slotsL
  rw [leB_digs, leB_digs, h8, List.append_nil]
  simp only [List.append_assoc]
 rw [hh]
 exact e
end Go.Proofs.YtagcaheopbmdiaaDoor.Lk
