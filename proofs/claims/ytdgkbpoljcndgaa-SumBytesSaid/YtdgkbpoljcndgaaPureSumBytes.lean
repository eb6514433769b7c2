/- The statement SumBytes over numbers and lists alone: Crc, Hash and Number answer as the reference does, for all bytes and numbers. No condition. -/
import Derived.Test.YtdgkbpoljcndgaaQSumBytesx2
import Derived.Test.YtdgkbpoljcndgaaSumPlain
namespace Go.Proofs.Ytdgkbpoljcndgaa.Pure
open Go Go.RowKit Go.Proofs.Ytdgkbpoljcndgaa.QSumBytes Go.Proofs.YtdgkbpoljcndgaaW.PrintWords Go.Proofs.YtdgkbpoljcndgaaW.PrintLast Go.Proofs.YtdgkbpoljcndgaaW.PrintMore Go.Proofs.Ytdgkbpoljcndgaa.SumPlain

theorem rd_nat (xs : List Int) (i : Nat) : rd xs (i : Int) = xs.getD i 0 := by simp [rd]
theorem drop_step (xs : List Int) (i : Nat) (h : i < xs.length) : xs.drop i = xs.getD i 0 :: xs.drop (i + 1) := by
  rw [List.drop_eq_getElem_cons h, List.getD_eq_getElem?_getD, List.getElem?_eq_getElem h, Option.getD_some]
theorem next (i n : Nat) (h : i < n) (hn : n ≤ 140737488351232) : wrap64 ((i : Int) + 1) = ((i + 1 : Nat) : Int) := by unfold wrap64; omega
def Bytes (xs : List Int) : Prop := ∀ x ∈ xs, 0 ≤ x ∧ x ≤ 255
theorem Bytes.get {xs : List Int} (h : Bytes xs) (i : Nat) : 0 ≤ xs.getD i 0 ∧ xs.getD i 0 ≤ 255 := by
  by_cases hi : i < xs.length
  · rw [List.getD_eq_getElem?_getD, List.getElem?_eq_getElem hi, Option.getD_some]; exact h _ (List.getElem_mem hi)
  · rw [List.getD_eq_getElem?_getD, List.getElem?_eq_none (by omega)]; simp
theorem bytes_of_wf {xs : List Int} (h : ∀ x ∈ xs, (Lit.int .u8 x).wf = true) : Bytes xs := fun x hx => by
  have := h x hx
  simp [Lit.wf, IntKind.min, IntKind.max, IntKind.signed, IntKind.bits] at this
  omega

/-! the checksum of the program -/
theorem crc_l1 (xs : List Int) (n i r : Int) : ∀ (j : Nat) (c : BitVec 32), j ≤ 8 → Ev (fun k => sum_Crc.l0 k ((it crcBit j c).toNat : Int) xs n (wrap64 (i + 1))) r →
    Ev (fun k => sum_Crc.l1 k (c.toNat : Int) xs n i (8 - (j : Int))) r
  | 0, _, _, h => Ev.step (fun k => by simp only [sum_Crc.l1]; rw [if_neg (by omega)]; rfl) h
  | j + 1, c, hj, h => by
    refine Ev.step (f := fun k => sum_Crc.l1 k ((crcBit c).toNat : Int) xs n i (8 - (j : Int))) (fun k => ?_) (crc_l1 xs n i r j (crcBit c) (by omega) h)
    simp only [sum_Crc.l1]
    rw [if_pos (by omega), crc_step]
    congr 1
    unfold wrap64; omega
theorem crc_l0 (xs : List Int) (hb : Bytes xs) (hn : xs.length ≤ 140737488351232) : ∀ (d i : Nat) (c : BitVec 32), i + d = xs.length →
    Ev (fun k => sum_Crc.l0 k (c.toNat : Int) xs (xs.length : Int) (i : Int)) ((crcFold c (xs.drop i) ^^^ 0xFFFFFFFF#32).toNat : Int)
  | 0, i, c, h => by
    refine Ev.step (f := fun _ => some _) (fun k => ?_) (Ev.now _)
    simp only [sum_Crc.l0]
    rw [if_neg (by omega), lo_compl, List.drop_of_length_le (by omega)]
    rfl
  | d + 1, i, c, h => by
    have hx := hb.get i
    refine Ev.step (f := fun k => sum_Crc.l1 k ((c ^^^ BitVec.ofInt 32 (xs.getD i 0)).toNat : Int) xs (xs.length : Int) (i : Int) (8 - ((8 : Nat) : Int))) (fun k => ?_) ?_
    · simp only [sum_Crc.l0]
      rw [if_pos (by omega), if_pos (by omega), if_pos (by omega), rd_nat, Int.emod_eq_of_lt hx.1 (by omega), bits_xor32, ofInt_nat]
      rfl
    · refine crc_l1 xs _ _ _ 8 _ (by omega) ?_
      rw [drop_step xs i (by omega), next i xs.length (by omega) hn]
      exact crc_l0 xs hb hn d (i + 1) _ (by omega)
/-- the checksum, as the program computes it -/
def crcOf (xs : List Int) : Int := ((crcFold 0xFFFFFFFF#32 xs ^^^ 0xFFFFFFFF#32).toNat : Int)
theorem crc_ev (xs : List Int) (hb : Bytes xs) (hn : xs.length ≤ 140737488351232) : Ev (fun k => sum_Crc.f k xs) (crcOf xs) :=
  crc_l0 xs hb hn xs.length 0 0xFFFFFFFF#32 (by omega)

/-! the reference's -/
theorem turned_l0 (w : Nat) (hw : w ≤ 32) : ∀ (d i n out : Nat), i + d = w → n < 18446744073709551616 → out < 2 ^ i →
    Ev (fun k => wrackref1_turned.l0 k (n : Int) (out : Int) (w : Int) (i : Int)) ((turnedN d n out : Nat) : Int)
  | 0, i, n, out, h, _, _ => by
    refine Ev.step (f := fun _ => some _) (fun k => ?_) (Ev.now _)
    simp only [wrackref1_turned.l0]
    rw [if_neg (by omega)]; rfl
  | d + 1, i, n, out, h, hn, ho => by
    have hp : 2 ^ i ≤ 2 ^ 31 := Nat.pow_le_pow_right (by decide) (by omega)
    have hp2 : 2 ^ (i + 1) = 2 * 2 ^ i := by rw [Nat.pow_succ]; omega
    refine Ev.step (f := fun k => wrackref1_turned.l0 k ((n / 2 : Nat) : Int) ((out * 2 + n % 2 : Nat) : Int) (w : Int) ((i + 1 : Nat) : Int)) (fun k => ?_)
      (turned_l0 w hw d (i + 1) (n / 2) (out * 2 + n % 2) (by omega) (by omega) (by omega))
    simp only [wrackref1_turned.l0]
    rw [if_pos (by omega)]
    rw [Int.tdiv_eq_ediv_of_nonneg (by omega), Int.tmod_eq_emod_of_nonneg (by omega), next i w (by omega) (by omega)]
    rw [IntKind.wrap_u64, IntKind.wrap_u64, IntKind.wrap_u64]
    congr 1 <;> omega
theorem turned_ev (n w : Nat) (hw : w ≤ 32) (hn : n < 18446744073709551616) : Ev (fun k => wrackref1_turned.f k (n : Int) (w : Int)) ((turnedN w n 0 : Nat) : Int) :=
  turned_l0 w hw w 0 n 0 (by omega) hn (by simp)
theorem ref_l1 (xs : List Int) (n i r : Int) : ∀ (j : Nat) (c : BitVec 32), j ≤ 8 → Ev (fun k => wrackref1_Check32.l0 k ((it refBit j c).toNat : Int) xs n (wrap64 (i + 1))) r →
    Ev (fun k => wrackref1_Check32.l1 k (c.toNat : Int) xs n i (8 - (j : Int))) r
  | 0, _, _, h => Ev.step (fun k => by simp only [wrackref1_Check32.l1]; rw [if_neg (by omega)]; rfl) h
  | j + 1, c, hj, h => by
    refine Ev.step (f := fun k => wrackref1_Check32.l1 k ((refBit c).toNat : Int) xs n i (8 - (j : Int))) (fun k => ?_) (ref_l1 xs n i r j (refBit c) (by omega) h)
    simp only [wrackref1_Check32.l1]
    rw [if_pos (by omega), ← ref_step]
    have e : wrap64 (8 - ((j + 1 : Nat) : Int) + 1) = 8 - (j : Int) := by unfold wrap64; omega
    rw [e]
    split <;> rfl
theorem ref_l0 (xs : List Int) (hb : Bytes xs) (hn : xs.length ≤ 140737488351232) : ∀ (d i : Nat) (c : BitVec 32), i + d = xs.length →
    Ev (fun k => wrackref1_Check32.l0 k (c.toNat : Int) xs (xs.length : Int) (i : Int)) ((turnedN 32 (4294967295 - (refFold c (xs.drop i)).toNat) 0 : Nat) : Int)
  | 0, i, c, h => by
    have hc := c.isLt
    refine Ev.step (f := fun k => (wrackref1_turned.f k ((4294967295 - c.toNat : Nat) : Int) ((32 : Nat) : Int)).bind fun t => some (wrap64 t)) (fun k => ?_) ?_
    · simp only [wrackref1_Check32.l0]
      rw [if_neg (by omega)]
      have e : IntKind.u64.wrap (4294967295 - (c.toNat : Int)) = ((4294967295 - c.toNat : Nat) : Int) := by rw [IntKind.wrap_u64]; omega
      rw [e]; rfl
    · refine Ev.bind (turned_ev _ 32 (by omega) (by omega)) (Ev.congr (fun k => ?_) (Ev.now _))
      rw [List.drop_of_length_le (by omega)]
      congr 1
      have e : refFold c [] = c := rfl
      rw [e, compl_nat, turnedN_rev]
      have := ((c ^^^ 0xFFFFFFFF#32).reverse).isLt
      unfold wrap64; omega
  | d + 1, i, c, h => by
    have hx := hb.get i
    obtain ⟨x, hxx⟩ := Int.eq_ofNat_of_zero_le hx.1
    refine Ev.step (f := fun k => (wrackref1_turned.f k ((x : Nat) : Int) ((8 : Nat) : Int)).bind fun t => wrackref1_Check32.l1 k (bits .xor .u64 (c.toNat : Int) (IntKind.u64.wrap (t * 16777216))) xs (xs.length : Int) (i : Int) 0) (fun k => ?_) ?_
    · simp only [wrackref1_Check32.l0]
      rw [if_pos (by omega), if_pos (by omega), if_pos (by omega), rd_nat, hxx]
      have e : IntKind.u64.wrap (x : Int) = (x : Int) := by rw [IntKind.wrap_u64]; omega
      rw [e]; rfl
    · refine Ev.bind (turned_ev x 8 (by omega) (by omega)) ?_
      have hxl : x < 256 := by omega
      have et := turnedN_8 x hxl
      have hr := (BitVec.ofNat 32 x).reverse.isLt
      have e2 : bits .xor .u64 (c.toNat : Int) (IntKind.u64.wrap (((turnedN 8 x 0 : Nat) : Int) * 16777216)) = ((c ^^^ (BitVec.ofInt 32 (xs.getD i 0)).reverse).toNat : Int) := by
        have e3 : IntKind.u64.wrap (((turnedN 8 x 0 : Nat) : Int) * 16777216) = (((BitVec.ofNat 32 x).reverse.toNat : Nat) : Int) := by rw [IntKind.wrap_u64]; omega
        have hc := c.isLt
        rw [e3, bits_xor_u64_nat _ _ (by omega) (by omega), hxx, BitVec.ofInt_natCast, BitVec.toNat_xor]
      rw [e2]
      refine ref_l1 xs _ _ _ 8 _ (by omega) ?_
      rw [drop_step xs i (by omega), next i xs.length (by omega) hn]
      exact ref_l0 xs hb hn d (i + 1) _ (by omega)
theorem ref_ev (xs : List Int) (hb : Bytes xs) (hn : xs.length ≤ 140737488351232) : Ev (fun k => wrackref1_Check32.f k xs) (crcOf xs) := by
  unfold crcOf
  rw [← fold_same]
  exact ref_l0 xs hb hn xs.length 0 0xFFFFFFFF#32 (by omega)

/-! the hash -/
def hashOf (xs : List Int) : Int := xs.foldl hashStep 11400714819323198485
theorem hash_l0 (xs : List Int) (hn : xs.length ≤ 140737488351232) : ∀ (d i : Nat) (h : Int), i + d = xs.length →
    Ev (fun k => sum_Hash.l0 k h xs (xs.length : Int) (i : Int)) ((xs.drop i).foldl hashStep h)
  | 0, i, h, hi => by
    refine Ev.step (f := fun _ => some _) (fun k => ?_) (Ev.now _)
    simp only [sum_Hash.l0]
    rw [if_neg (by omega), List.drop_of_length_le (by omega)]; rfl
  | d + 1, i, h, hi => by
    refine Ev.step (f := fun k => sum_Hash.l0 k (hashStep h (xs.getD i 0)) xs (xs.length : Int) ((i + 1 : Nat) : Int)) (fun k => ?_) ?_
    · simp only [sum_Hash.l0]
      rw [if_pos (by omega), if_pos (by omega), if_pos (by omega), rd_nat, next i xs.length (by omega) hn]; rfl
    · rw [drop_step xs i (by omega)]
      exact hash_l0 xs hn d (i + 1) _ (by omega)
theorem hash_ev (xs : List Int) (hn : xs.length ≤ 140737488351232) : Ev (fun k => sum_Hash.f k xs) (hashOf xs) := hash_l0 xs hn xs.length 0 _ (by omega)
theorem mix_l0 (xs : List Int) (hn : xs.length ≤ 140737488351232) : ∀ (d i : Nat) (h : Int), i + d = xs.length →
    Ev (fun k => wrackref1_Mix.l0 k h xs (xs.length : Int) (i : Int)) ((xs.drop i).foldl hashStep h)
  | 0, i, h, hi => by
    refine Ev.step (f := fun _ => some _) (fun k => ?_) (Ev.now _)
    simp only [wrackref1_Mix.l0]
    rw [if_neg (by omega), List.drop_of_length_le (by omega)]; rfl
  | d + 1, i, h, hi => by
    refine Ev.step (f := fun k => wrackref1_Mix.l0 k (hashStep h (xs.getD i 0)) xs (xs.length : Int) ((i + 1 : Nat) : Int)) (fun k => ?_) ?_
    · simp only [wrackref1_Mix.l0]
      rw [if_pos (by omega), if_pos (by omega), if_pos (by omega), rd_nat, next i xs.length (by omega) hn, mix_mul, mix_div _ (u64_lo _) (u64_hi _)]; rfl
    · rw [drop_step xs i (by omega)]
      exact mix_l0 xs hn d (i + 1) _ (by omega)
theorem mix_ev (xs : List Int) (hn : xs.length ≤ 140737488351232) : Ev (fun k => wrackref1_Mix.f k xs) (hashOf xs) := mix_l0 xs hn xs.length 0 _ (by omega)
theorem num_eq (a : Int) : sum_Number.f 10 a = some [(shr .u64 a 0) % 256, (shr .u64 a 8) % 256, (shr .u64 a 16) % 256, (shr .u64 a 24) % 256, (shr .u64 a 32) % 256, (shr .u64 a 40) % 256, (shr .u64 a 48) % 256, (shr .u64 a 56) % 256] := by
  simp [sum_Number.f, sum_Number.l0, wrap64, List.replicate, List.set]
theorem shr_at (a : Int) (n : Nat) (h : n ≤ 64) : shr .u64 a (n : Int) = a / 2 ^ n := by
  unfold shr; rw [show min ((n : Int)).toNat IntKind.u64.bits = n by simp [IntKind.bits]; omega]
def numList (a : Nat) : List Int := [((a % 256 : Nat) : Int), ((a / 256 % 256 : Nat) : Int), ((a / 65536 % 256 : Nat) : Int), ((a / 16777216 % 256 : Nat) : Int), ((a / 4294967296 % 256 : Nat) : Int), ((a / 1099511627776 % 256 : Nat) : Int), ((a / 281474976710656 % 256 : Nat) : Int), ((a / 72057594037927936 % 256 : Nat) : Int)]
theorem number_ev (a : Nat) : sum_Number.f 10 (a : Int) = some (numList a) := by
  rw [num_eq]
  unfold numList
  simp
  refine ⟨?_, ?_, ?_, ?_, ?_, ?_, ?_, ?_⟩
  · rw [show (0 : Int) = ((0 : Nat) : Int) from rfl, shr_at _ 0 (by omega)]; omega
  · rw [show (8 : Int) = ((8 : Nat) : Int) from rfl, shr_at _ 8 (by omega)]; omega
  · rw [show (16 : Int) = ((16 : Nat) : Int) from rfl, shr_at _ 16 (by omega)]; omega
  · rw [show (24 : Int) = ((24 : Nat) : Int) from rfl, shr_at _ 24 (by omega)]; omega
  · rw [show (32 : Int) = ((32 : Nat) : Int) from rfl, shr_at _ 32 (by omega)]; omega
  · rw [show (40 : Int) = ((40 : Nat) : Int) from rfl, shr_at _ 40 (by omega)]; omega
  · rw [show (48 : Int) = ((48 : Nat) : Int) from rfl, shr_at _ 48 (by omega)]; omega
  · rw [show (56 : Int) = ((56 : Nat) : Int) from rfl, shr_at _ 56 (by omega)]; omega
theorem str_snoc (xs : List Int) (y : Int) : strOfNums xs ++ strOfNums [y] = strOfNums (xs ++ [y]) := by
  unfold strOfNums
  apply ByteArray.ext
  simp
theorem str_size (xs : List Int) : (strOfNums xs).size = xs.length := by unfold strOfNums; simp [ByteArray.size]
def digs : Nat → Nat → List Int
  | 0, _ => []
  | d + 1, n => ((n % 256 : Nat) : Int) :: digs d (n / 256)
theorem digs_length : ∀ (d n : Nat), (digs d n).length = d
  | 0, _ => rfl
  | d + 1, n => by simp [digs, digs_length d]
theorem eight_l0 : ∀ (d i n : Nat) (xs : List Int), i + d = 8 → n < 18446744073709551616 → xs.length = i →
    Ev (fun k => wrackref1_Eight.l0 k (n : Int) (strOfNums xs) (i : Int)) (strOfNums (xs ++ digs d n))
  | 0, i, n, xs, h, _, _ => by
    refine Ev.step (f := fun _ => some _) (fun k => ?_) (Ev.now _)
    simp only [wrackref1_Eight.l0]
    rw [if_neg (by omega)]; simp [digs]
  | d + 1, i, n, xs, h, hn, hx => by
    refine Ev.step (f := fun k => wrackref1_Eight.l0 k ((n / 256 : Nat) : Int) (strOfNums (xs ++ [((n % 256 : Nat) : Int)])) ((i + 1 : Nat) : Int)) (fun k => ?_) ?_
    · simp only [wrackref1_Eight.l0, Option.bind_some]
      rw [if_pos (by omega), str_snoc, if_pos (by rw [str_size, str_size]; simp; omega), next i 8 (by omega) (by omega), Int.tdiv_eq_ediv_of_nonneg (by omega), Int.tmod_eq_emod_of_nonneg (by omega), IntKind.wrap_u64]
      congr 1
      · omega
      · congr 3; omega
    · have := eight_l0 d (i + 1) (n / 256) (xs ++ [((n % 256 : Nat) : Int)]) (by omega) (by omega) (by simp [hx])
      rw [List.append_assoc] at this
      exact this
theorem eight_ev (n : Nat) (hn : n < 18446744073709551616) : Ev (fun k => wrackref1_Eight.f k (n : Int)) (strOfNums (digs 8 n)) :=
  eight_l0 8 0 n [] (by omega) hn rfl
theorem digs_num (n : Nat) : digs 8 n = numList n := by
  simp only [digs, numList, Nat.div_div_eq_div_mul]
theorem sums_true : wracklaw1_sums.f 300 = some true := by decide +kernel
theorem SumBytes : wracklaw1_SumBytes.Pure := by
  intro xs a hm hn hw ha
  have hb := bytes_of_wf hw
  have ha2 : 0 ≤ a ∧ a < 18446744073709551616 := by
    simp [Lit.wf, IntKind.min, IntKind.max, IntKind.signed, IntKind.bits] at ha
    omega
  obtain ⟨n, rfl⟩ := Int.eq_ofNat_of_zero_le ha2.1
  have hl : xs.length ≤ 140737488351232 := by omega
  apply Ev.rounds
  unfold wracklaw1_SumBytes.f
  refine Ev.bind (Ev.of (g := fun k => wracklaw1_sums.f k) wracklaw1_sums.mono sums_true) ?_
  refine Ev.congr (fun k => if_pos rfl) ?_
  refine Ev.bind (crc_ev xs hb hl) (Ev.bind (ref_ev xs hb hl) ?_)
  refine Ev.congr (fun k => if_pos rfl) ?_
  refine Ev.bind (hash_ev xs hl) (Ev.bind (mix_ev xs hl) ?_)
  refine Ev.congr (fun k => if_pos rfl) ?_
  refine Ev.bind (Ev.of (g := fun k => sum_Number.f k (n : Int)) (fun k => sum_Number.mono _ k) (number_ev n)) (Ev.bind (eight_ev n (by omega)) ?_)
  refine Ev.congr (fun k => ?_) (Ev.now _)
  rw [digs_num]; simp

end Go.Proofs.Ytdgkbpoljcndgaa.Pure
