/- Sealed layers: numbers, hashes and words as the program and the reference compute them. No condition. -/
import Derived.Test.YtagcaheopbmdiaaGreatYSumTreePlain
import Derived.Test.YtagcaheopbmdiaaGreatYQLockOpensx1
import Derived.Test.YtagcaheopbmdiaaGreatYQLockOpensx2
import Derived.Test.YtagcaheopbmdiaaGreatYQLockOpensx3
import Derived.Test.YtagcaheopbmdiaaGreatYQLockOpensx4
import Derived.Test.YtagcaheopbmdiaaGreatYQLockOpensx5
import Derived.Test.YtagcaheopbmdiaaGreatYQLockOpensx6
import Derived.Test.YtagcaheopbmdiaaGreatYQLockOpensx7
import Derived.Test.YtagcaheopbmdiaaGreatYQLockOpensx8
import Derived.Test.YtagcaheopbmdiaaGreatYQLockOpensx9
import Derived.Test.YtagcaheopbmdiaaGreatYQLockOpensx10
import Derived.Test.YtagcaheopbmdiaaGreatYQLockOpensx11
import Derived.Test.YtagcaheopbmdiaaGreatYQLockOpensx12
import Derived.Test.YtagcaheopbmdiaaGreatYQLockOpensx13
import Derived.Test.YtagcaheopbmdiaaGreatYQLockOpensx14
import Derived.Lib.EndianBits
import Derived.Lib.Bytes
import Derived.Lib.Repeat
namespace Go.Proofs.YtagcaheopbmdiaaGreat.Lk
open Go Go.RowKit Go.Proofs.YtagcaheopbmdiaaGreat.QLockOpens Go.Proofs.YtagcaheopbmdiaaGreatW.PrintWords Go.Proofs.YtagcaheopbmdiaaGreatW.PrintLast Go.Proofs.YtagcaheopbmdiaaGreatW.PrintMore Go.Proofs.YtagcaheopbmdiaaGreat.SumPlain
set_option linter.unusedVariables false
set_option linter.unusedSimpArgs false
section
variable {P : Program} {ops : Array Oper} {rest : List Oper} {o : Oper} {a : Act} {Q : Exit → Act → World → Prop} {α : Type}
/-- copy onto the middle of a row of scalars of one's own -/
theorem copy_run {enc : α → Value} {h1 : ∀ x, (enc x).oneCell' = true} (d : α) {W : World} (base : Nat) (t t' ty e : TypeId)
  (ht : P.underlying t = some (.slice e)) (hinfo : (P.info? e).map (·.size) = some 1)
  {g n cap lo k c2 : Nat} {xs ys : List α} {A : Option Addr} {m c : Nat} {ok : Nat → Prop}
  (HO : (Kd.scalar enc h1).R e W base ok (.slice (some ⟨g, 0, none⟩) n cap) xs) (HR : (Kd.scalar enc h1).C W A m ys) (hk : lo + k ≤ n) (hm : m ≤ k) (hm0 : 0 < m) :
  ∃ w1, (Builtin.copy_ #[t, t'] ty #[.slice (some ⟨g, lo, none⟩) k c2, .slice A m c]).run P W = .ok (goInt ((m : Nat) : Int)) w1 ∧ (Kd.scalar enc h1).R e w1 base ok (.slice (some ⟨g, 0, none⟩) n cap) (xs.take lo ++ (ys ++ xs.drop (lo + m))) ∧ W.grownBy w1 (some g) := by
 have hR := Kd.reads_of_C (enc := enc) (d := d) (h1 := h1) HR
 have hym : ys.length = m := hR.1
 obtain ⟨hn, _⟩ := Kd.R_reads' HO
 have hown := Kd.own_of_R HO
 obtain ⟨ad, hA, hc⟩ := hR.2.2 hm0
 rcases hown.2 with ⟨hv, _⟩ | ⟨g', cap', cur, hv, hb, hh, hnc, hcm, hcs, htake⟩
 · simp at hv
 simp only [Value.slice.injEq, Option.some.injEq, Addr.mk.injEq, and_true,true_and] at hv
 obtain ⟨hg, _, hcap⟩ := hv
 subst hg
 have hcs1 : cur.size = cap' := by omega
 have hsrc : ∀ j u, (encs enc ys)[j]? = some u → W.cell? (ad.add j) = some u := by
  intro j u hu
  have hj : j < ys.length := by
   rcases Nat.lt_or_ge j ys.length with h | h
   · exact h
   ·
    rw [List.getElem?_eq_none (by rw [encs_length]; exact h)] at hu
    cases hu
  rw [encs_get (d := d) _ j hj] at hu
  rw [hc j (by omega), ← hu]
 have hkl : (encs enc ys).length = m := by rw [encs_length]; exact hym
 have hr := run_copy_cells (P := P) W t t' ty e g lo k c2 ad m c (encs enc ys) ht hinfo (by rw [hkl]; exact (Nat.min_eq_left hm).symm) hsrc
  (fun j hj => by rw [cell_of_row W g _ cur e (0, 0) hh]; simp; omega) (fun j _ => blk_frozen hh _) (by intro u hu; simp only [encs, List.mem_map] at hu; obtain ⟨q, _, rfl⟩ := hu; exact h1 q)
 obtain ⟨cur', h3, h4, h5⟩ := setCells_row (encs enc ys) lo W cur hh (by rw [hkl]; omega)
 obtain ⟨s1, s2, s3, s4⟩ := setCells_same g (encs enc ys) lo W
 have hln : (xs.take lo ++ (ys ++ xs.drop (lo + m))).length = xs.length := by
  simp only [List.length_append, List.length_take, List.length_drop]; omega
 refine ⟨_, by rw [hA, hr, hkl], ?_, ⟨s1, s2, s3, by rw [s4]; exact Nat.le_refl _, fun i _ hi => setCells_far _ _ i (fun he => hi (by rw [he]))⟩⟩
 refine Kd.R_of_own ?_ HO.1
 rw [hln, hn]
 refine ⟨by rw [encs_length, hln, Nat.mul_one], .inr ⟨g, cap, cur', rfl, hb, h3, by omega, by omega, by omega, ?_⟩⟩
 have htk : cur.toList.take xs.length = encs enc xs := by rw [← htake, Nat.mul_one]
 have hdr : cur.toList.drop xs.length = cur.toList.drop xs.length := rfl
 have hcur : cur.toList = encs enc xs ++ cur.toList.drop xs.length := by rw [← htk, List.take_append_drop]
 rw [h5, hkl, Nat.mul_one, hcur]
 have he : (encs enc xs).length = xs.length := encs_length _
 have t1 : (encs enc xs ++ cur.toList.drop xs.length).take lo = (encs enc xs).take lo := List.take_append_of_le_length (by rw [he]; omega)
 have t2 : (encs enc xs ++ cur.toList.drop xs.length).drop (lo + m) = (encs enc xs).drop (lo + m) ++ cur.toList.drop xs.length := List.drop_append_of_le_length (by rw [he]; omega)
 rw [t1, t2]
 rw [show encs enc (xs.take lo ++ (ys ++ xs.drop (lo + m))) = (encs enc xs).take lo ++ encs enc ys ++ (encs enc xs).drop (lo + m) by simp [encs, List.map_take, List.map_drop]]
 rw [← List.append_assoc, List.take_append_of_le_length (by simp only [List.length_append, List.length_take, List.length_drop, he, hkl]; omega)]
 rw [List.take_of_length_le (by simp only [List.length_append, List.length_take, List.length_drop, he, hkl]; omega)]
end
theorem rk_sz : (Tryz.prog.info? 5).map (·.size) = some 1 := by
 obtain ⟨i5, hi5, hy5⟩ := Option.map_eq_some_iff.1 info5
 simp only [Prod.mk.injEq] at hy5
 rw [hi5]
 simp [hy5.2.1]
theorem rk_own {w : World} {base : Nat} {ok : Nat → Prop} {v : Value} {xs : List Int} (h : (Kd.int .u8).R 5 w base ok v xs) (hx : 0 < xs.length) : ∃ g c, v = .slice (some ⟨g, 0, none⟩) xs.length c ∧ base ≤ g := by
 obtain ⟨A, c, rfl⟩ := Kd.R_slice h
 rcases (Kd.own_of_R h).2 with ⟨hv, hl⟩ | ⟨g, c, cur, hv, hb, _⟩
 ·
  have := (Kd.R_reads' h).1
  exfalso
  simp at hv
  omega
 · exact ⟨g, c, hv, hb⟩
theorem rk_sub {g n c o : Nat} (ho : o < n) (hc : n ≤ c) (j : Int) (hj : j = (o : Int)) : ∀ W : World, (Instr.slice 22 (.slice (some ⟨g, 0, none⟩) n c) (some (.int .i64 j)) none none).run Tryz.prog W = .ok (.slice (some ⟨g, o, none⟩) (n - o) (c - o)) W := fun W => by
 subst hj
 obtain ⟨i5, hi5, hy5⟩ := Option.map_eq_some_iff.1 info5
 simp only [Prod.mk.injEq] at hy5
 have h1 := cut_from (P := Tryz.prog) 22 5 .i64 Tryz.underlying22 hi5 1 hy5.2.1 (some ⟨g, 0, none⟩) n c (o : Int) (by omega) (by omega) W
 rw [Int.toNat_natCast, if_neg (by omega)] at h1
 rw [h1, Option.map_some, Nat.mul_one]
 simp [Addr.add]
 try (intro h; omega)
theorem kstr_add (xs ys : List Int) : strOfNums xs ++ strOfNums ys = strOfNums (xs ++ ys) := by
 unfold strOfNums
 apply ByteArray.ext
 simp
theorem kstr_cut (xs : List Int) (a b : Nat) : (strOfNums xs).extract a b = strOfNums ((xs.take b).drop a) := by
 unfold strOfNums
 apply ByteArray.ext
 rw [ByteArray.data_extract]
 apply Array.toList_inj.mp
 simp [List.extract, List.drop_take]
theorem kstr_at (xs : List Int) (h : Bytes xs) (i : Nat) (hi : i < xs.length) : bt (strOfNums xs) (i : Int) = rd xs (i : Int) := by
 have hs : i < (strOfNums xs).size := by rw [str_size]; exact hi
 have hb := h _ (List.getElem_mem hi)
 unfold bt rd
 rw [Int.toNat_natCast, dif_pos hs, List.getD_eq_getElem?_getD, List.getElem?_eq_getElem hi, Option.getD_some]
 have e : (strOfNums xs)[i]'hs = UInt8.ofNat xs[i].toNat := by
  rw [ByteArray.getElem_eq_getElem_data]
  simp [strOfNums]
 rw [e]
 simp
 omega
/-- the hash of a number and a word -/
def mixedP (n : Int) (s : ByteArray) : Int := hashOf (numList n.toNat ++ bytesOf s)
theorem mixedP_u64 (n : Int) (s : ByteArray) : U64 (mixedP n s) := hash_u64 _
theorem numList_len (n : Nat) : (numList n).length = 8 := rfl
theorem bytesOf_len (s : ByteArray) : (bytesOf s).length = s.size := by unfold bytesOf; simp
theorem bytesOf_str (xs : List Int) (h : Bytes xs) : bytesOf (strOfNums xs) = xs := by
 unfold bytesOf strOfNums
 simp only [List.map_map]
 conv => rhs; rw [← List.map_id xs]
 apply List.map_congr_left
 intro x hx
 have := h x hx
 simp only [Function.comp, id]
 rw [UInt8.toNat_ofNat']
 omega
theorem bytesOf_app (s t : ByteArray) : bytesOf (s ++ t) = bytesOf s ++ bytesOf t := by
 unfold bytesOf
 simp
theorem number_ev' (n : Int) (h : U64 n) : Ev (fun k => sum_Number.f k n) (numList n.toNat) := by
 obtain ⟨x, rfl⟩ := Int.eq_ofNat_of_zero_le h.1
 rw [Int.toNat_natCast]
 exact Ev.of (g := fun k => sum_Number.f k (x : Int)) (fun k => sum_Number.mono _ k) (number_ev x)
theorem eight_ev' (n : Int) (h : U64 n) : Ev (fun k => wrackref1_Eight.f k n) (strOfNums (numList n.toNat)) := by
 obtain ⟨x, rfl⟩ := Int.eq_ofNat_of_zero_le h.1
 rw [Int.toNat_natCast, ← digs_num]
 exact eight_ev x (by have := h.2; omega)
theorem mixed_ev (n : Int) (h : U64 n) (s : ByteArray) (hs : s.size ≤ 1000000) : Ev (fun k => lock_mixed.f k n s) (mixedP n s) := by
 unfold lock_mixed.f
 refine Ev.bind (number_ev' n h) ?_
 refine Ev.congr (fun k => if_pos (by rw [numList_len]; omega)) ?_
 exact Ev.bind (hash_ev _ (by rw [List.length_append, numList_len, bytesOf_len]; omega)) (Ev.now _)
theorem keyed_ev (n : Int) (h : U64 n) (s : ByteArray) (hs : s.size ≤ 1000000) : Ev (fun k => wrackref1_keyed.f k n s) (mixedP n s) := by
 unfold wrackref1_keyed.f
 refine Ev.bind (eight_ev' n h) ?_
 refine Ev.congr (fun k => if_pos (by rw [str_size, numList_len]; omega)) ?_
 refine Ev.congr (fun k => if_pos (by rw [ByteArray.size_append, str_size, numList_len]; omega)) ?_
 rw [bytesOf_app, bytesOf_str _ (numList_bytes _)]
 exact Ev.bind (mix_ev _ (by rw [List.length_append, numList_len, bytesOf_len]; omega)) (Ev.now _)
/-- a number, the lowest byte first -/
def leK : List Int → Int
 | [] => 0
 | x :: xs => x + 256 * leK xs
theorem leK_pos : ∀ (l : List Int), Bytes l → 0 ≤ leK l ∧ leK l < (256 : Int) ^ l.length
 | [], _ => by simp [leK]
 | x :: l, h => by
  have hx : 0 ≤ x ∧ x ≤ 255 := h x (by simp)
  have ih := leK_pos l (fun y hy => h y (by simp [hy]))
  rw [List.length_cons, Int.pow_succ]
  unfold leK
  omega
theorem leK_snoc : ∀ (xs : List Int) (x : Int), leK (xs ++ [x]) = leK xs + x * 256 ^ xs.length
 | [], x => by simp [leK]
 | y :: xs, x => by
  rw [List.cons_append, leK, leK_snoc xs x, leK, List.length_cons, Int.pow_succ, Int.mul_add, ← Int.add_assoc]
  congr 1
  rw [Int.mul_comm 256, Int.mul_assoc]
theorem pow_up {n m : Nat} (h : n ≤ m) : (256 : Int) ^ n ≤ 256 ^ m := by
  induction m with
  | zero => obtain rfl : n = 0 := by omega
            exact Int.le_refl _
  | succ m ih =>
    by_cases e : n = m + 1
    · rw [e]; exact Int.le_refl _
    · have h1 := ih (by omega)
      have h2 : (0 : Int) ≤ 256 ^ m := Int.pow_nonneg (by decide)
      rw [Int.pow_succ]
      omega
theorem leK_u64 (l : List Int) (h : l.length ≤ 8) (hb : Bytes l) : U64 (leK l) := by
 have h1 := leK_pos l hb
 have h2 := pow_up h
 exact ⟨h1.1, Int.lt_of_lt_of_le h1.2 (Int.le_trans h2 (by decide))⟩
theorem kb_cut {l : List Int} (h : Bytes l) (a b : Nat) : Bytes ((l.drop a).take b) := fun x hx => h x (List.mem_of_mem_drop (List.mem_of_mem_take hx))
theorem kb_tk {l : List Int} (h : Bytes l) (b : Nat) : Bytes (l.take b) := fun x hx => h x (List.mem_of_mem_take hx)
theorem kb_dr {l : List Int} (h : Bytes l) (b : Nat) : Bytes (l.drop b) := fun x hx => h x (List.mem_of_mem_drop hx)
theorem kget_step (i : Nat) (hi : i ≤ 7) (n x : Int) (h0 : 0 ≤ n) (h1 : n < 256 ^ i) (hx : 0 ≤ x ∧ x ≤ 255) : Go.bits .or .u64 n (shl .u64 (IntKind.u64.wrap x) (wrap64 (8 * (i : Int)))) = n + x * 256 ^ i := by
 have hw : IntKind.u64.wrap x = x := by rw [IntKind.wrap_u64]; omega
 have hk : ∀ (s : Nat) (p : Int), p = x * 2 ^ s → 0 ≤ p → p < 18446744073709551616 → wrap64 (8 * (i : Int)) = (s : Int) → s ≤ 64 → shl .u64 (IntKind.u64.wrap x) (wrap64 (8 * (i : Int))) = p := fun s p hp h2 h3 h4 h5 => by
  unfold shl
  rw [h4, hw, Int.toNat_natCast, show min s IntKind.u64.bits = s from Nat.min_eq_left h5, ← hp, IntKind.wrap_u64]
  omega
 have hj := fun (j : Nat) (y z : Int) => bits_join_low .u64 64 (by decide) (fun n h0 h1 => by rw [IntKind.wrap_u64]; omega) j y z
 match i, hi with
 | 0, _ =>
  rw [hk 0 x (by simp) hx.1 (by omega) (by unfold wrap64; omega) (by decide), hj 0 n x h0 (by simpa using h1) (by simp at h1; omega) hx.1 (by simp) (by omega)]
  simp
 | 1, _ =>
  rw [hk 8 (x * 256) (by rfl) (by omega) (by omega) (by unfold wrap64; omega) (by decide), hj 8 n (x * 256) h0 (by simpa using h1) (by simp at h1; omega) (by omega) (by omega) (by omega)]
  rfl
 | 2, _ =>
  rw [hk 16 (x * 65536) (by rfl) (by omega) (by omega) (by unfold wrap64; omega) (by decide), hj 16 n (x * 65536) h0 (by simpa using h1) (by simp at h1; omega) (by omega) (by omega) (by omega)]
  rfl
 | 3, _ =>
  rw [hk 24 (x * 16777216) (by rfl) (by omega) (by omega) (by unfold wrap64; omega) (by decide), hj 24 n (x * 16777216) h0 (by simpa using h1) (by simp at h1; omega) (by omega) (by omega) (by omega)]
  rfl
 | 4, _ =>
  rw [hk 32 (x * 4294967296) (by rfl) (by omega) (by omega) (by unfold wrap64; omega) (by decide), hj 32 n (x * 4294967296) h0 (by simpa using h1) (by simp at h1; omega) (by omega) (by omega) (by omega)]
  rfl
 | 5, _ =>
  rw [hk 40 (x * 1099511627776) (by rfl) (by omega) (by omega) (by unfold wrap64; omega) (by decide), hj 40 n (x * 1099511627776) h0 (by simpa using h1) (by simp at h1; omega) (by omega) (by omega) (by omega)]
  rfl
 | 6, _ =>
  rw [hk 48 (x * 281474976710656) (by rfl) (by omega) (by omega) (by unfold wrap64; omega) (by decide), hj 48 n (x * 281474976710656) h0 (by simpa using h1) (by simp at h1; omega) (by omega) (by omega) (by omega)]
  rfl
 | 7, _ =>
  rw [hk 56 (x * 72057594037927936) (by rfl) (by omega) (by omega) (by unfold wrap64; omega) (by decide), hj 56 n (x * 72057594037927936) h0 (by simpa using h1) (by simp at h1; omega) (by omega) (by omega) (by omega)]
  rfl
theorem ktake_rd (l : List Int) (i : Nat) (h : i < l.length) : l.take (i + 1) = l.take i ++ [rd l (i : Int)] := by
 rw [List.take_add_one]
 simp [rd, List.getD_eq_getElem?_getD, h]
theorem kdrop_rd (l : List Int) (i : Nat) (h : i < l.length) : l.drop i = rd l (i : Int) :: l.drop (i + 1) := by
 rw [List.drop_eq_getElem_cons h]
 simp [rd, List.getD_eq_getElem?_getD, h]
theorem krd_byte {l : List Int} (hb : Bytes l) (i : Nat) : 0 ≤ rd l (i : Int) ∧ rd l (i : Int) ≤ 255 := by
 have := hb.get i
 unfold rd
 rw [Int.toNat_natCast]
 exact this
theorem kget_l0 (l : List Int) (hb : Bytes l) (hl : l.length ≤ 8) : ∀ (d i : Nat), i + d = l.length → Ev (fun k => lock_get.l0 k (leK (l.take i)) l (l.length : Int) (i : Int)) (leK l)
 | 0, i, hi => by
  refine Ev.step (f := fun _ => some _) (fun k => ?_) (Ev.now _)
  simp only [lock_get.l0]
  rw [if_neg (by omega), List.take_of_length_le (by omega)]
 | d + 1, i, hi => by
  have ih := kget_l0 l hb hl d (i + 1) (by omega)
  have hp := leK_pos (l.take i) (kb_tk hb i)
  rw [List.length_take, Nat.min_eq_left (by omega)] at hp
  have hs := kget_step i (by omega) _ _ hp.1 hp.2 (krd_byte hb i)
  rw [ktake_rd l i (by omega), leK_snoc, List.length_take, Nat.min_eq_left (by omega)] at ih
  refine Ev.step (fun k => ?_) ih
  simp only [lock_get.l0]
  have e1 : wrap64 ((i : Int) + 1) = ((i + 1 : Nat) : Int) := by unfold wrap64; omega
  have e2 : 0 ≤ wrap64 (8 * (i : Int)) := by unfold wrap64; omega
  rw [if_pos (by omega), if_pos (by omega), if_pos (by omega), if_pos e2, hs, e1]
theorem kget_ev (l : List Int) (hb : Bytes l) (hl : l.length ≤ 8) : Ev (fun k => lock_get.f k l) (leK l) := kget_l0 l hb hl l.length 0 (by omega)
theorem wide_l0 (l : List Int) (hb : Bytes l) (hl : l.length ≤ 8) : ∀ i, i ≤ l.length → Ev (fun k => wrackref1_wide.l0 k (strOfNums l) (leK (l.drop i)) ((i : Int) - 1)) (leK l)
 | 0, _ => by
  refine Ev.step (f := fun _ => some _) (fun k => ?_) (Ev.now _)
  simp only [wrackref1_wide.l0]
  rw [if_neg (by omega), List.drop_zero]
 | i + 1, hi => by
  have ih := wide_l0 l hb hl i (by omega)
  rw [kdrop_rd l i (by omega), leK] at ih
  have hx := krd_byte hb i
  have hp := leK_u64 (rd l (i : Int) :: l.drop (i + 1)) (by simp; omega) (by rw [← kdrop_rd l i (by omega)]; exact kb_dr hb _)
  have hd := (leK_pos (l.drop (i + 1)) (kb_dr hb _)).1
  rw [leK] at hp
  have hp2 := hp.2
  refine Ev.step (fun k => ?_) ih
  simp only [wrackref1_wide.l0]
  have e0 : ((i + 1 : Nat) : Int) - 1 = (i : Int) := by omega
  have e1 : wrap64 ((i : Int) - 1) = (i : Int) - 1 := by unfold wrap64; omega
  have e3 : IntKind.u64.wrap (rd l (i : Int)) = rd l (i : Int) := by rw [IntKind.wrap_u64]; omega
  have e4 : IntKind.u64.wrap (leK (l.drop (i + 1)) * 256) = leK (l.drop (i + 1)) * 256 := by rw [IntKind.wrap_u64]; omega
  have e2 : IntKind.u64.wrap (IntKind.u64.wrap (leK (l.drop (i + 1)) * 256) + rd l (i : Int)) = rd l (i : Int) + 256 * leK (l.drop (i + 1)) := by rw [e4, IntKind.wrap_u64]; omega
  rw [e0, if_pos (by omega), if_pos (by omega), str_size, if_pos (by omega), kstr_at l hb i (by omega), e3, e2, e1]
theorem wide_ev (l : List Int) (hb : Bytes l) (hl : l.length ≤ 8) : Ev (fun k => wrackref1_wide.f k (strOfNums l)) (leK l) := by
 have h := wide_l0 l hb hl l.length (Nat.le_refl _)
 rw [List.drop_length] at h
 refine Ev.congr (fun k => ?_) h
 unfold wrackref1_wide.f
 rw [str_size, show wrap64 ((l.length : Int) - 1) = (l.length : Int) - 1 by unfold wrap64; omega]
 rfl
theorem knum_l0 (l : List Int) (hb : Bytes l) (hl : l.length ≤ 4) : ∀ i, i ≤ l.length → Ev (fun k => wrackref1_Number.l0 k (strOfNums l) (leK (l.drop i)) ((i : Int) - 1)) (leK l)
 | 0, _ => by
  refine Ev.step (f := fun _ => some _) (fun k => ?_) (Ev.now _)
  simp only [wrackref1_Number.l0]
  rw [if_neg (by omega), List.drop_zero]
 | i + 1, hi => by
  have ih := knum_l0 l hb hl i (by omega)
  rw [kdrop_rd l i (by omega), leK] at ih
  have hx := krd_byte hb i
  have hp := leK_pos (l.drop (i + 1)) (kb_dr hb _)
  have hd : leK (l.drop (i + 1)) < 16777216 := Int.lt_of_lt_of_le hp.2 (Int.le_trans (pow_up (m := 3) (by rw [List.length_drop]; omega)) (by decide))
  refine Ev.step (fun k => ?_) ih
  simp only [wrackref1_Number.l0]
  have e0 : ((i + 1 : Nat) : Int) - 1 = (i : Int) := by omega
  have e1 : wrap64 ((i : Int) - 1) = (i : Int) - 1 := by unfold wrap64; omega
  have e3 : wrap64 (rd l (i : Int)) = rd l (i : Int) := by unfold wrap64; omega
  have e2 : wrap64 (wrap64 (leK (l.drop (i + 1)) * 256) + rd l (i : Int)) = rd l (i : Int) + 256 * leK (l.drop (i + 1)) := by have := hp.1; unfold wrap64; omega
  rw [e0, if_pos (by omega), if_pos (by omega), str_size, if_pos (by omega), kstr_at l hb i (by omega), e3, e2, e1]
theorem knum_ev (l : List Int) (hb : Bytes l) (hl : l.length ≤ 4) : Ev (fun k => wrackref1_Number.f k (strOfNums l)) (leK l) := by
 have h := knum_l0 l hb hl l.length (Nat.le_refl _)
 rw [List.drop_length] at h
 refine Ev.congr (fun k => ?_) h
 unfold wrackref1_Number.f
 rw [str_size, show wrap64 ((l.length : Int) - 1) = (l.length : Int) - 1 by unfold wrap64; omega]
 rfl
end Go.Proofs.YtagcaheopbmdiaaGreat.Lk
