/- Sealed layers: the reference's stream. No condition. -/
import Derived.Test.YtagcaheopbmdiaaGreatYPureLockOpensH
namespace Go.Proofs.YtagcaheopbmdiaaGreat.Lk
open Go.Proofs.YtagcaheopbmdiaaGreat.SumPlain Go.Maps
open Go Go.RowKit Go.Proofs.YtagcaheopbmdiaaGreat.QLockOpens Go.Proofs.YtagcaheopbmdiaaGreatW.PrintWords Go.Proofs.YtagcaheopbmdiaaGreatW.PrintLast Go.Proofs.YtagcaheopbmdiaaGreatW.PrintMore
set_option linter.unusedVariables false
set_option linter.unusedSimpArgs false
theorem stream_step (x0 : List Int) (inner : Int) (off i a q r o8 : Nat) (n : Int) (hi : (i : Int) < n) (hx : (i : Int) < (x0.length : Int)) (h1 : wrap64 ((off : Int) + (i : Int)) = (a : Int)) (h2 : Int.tdiv (a : Int) 8 = (q : Int)) (h3 : wrap64 (q : Int) = (q : Int)) (h4 : IntKind.u64.wrap (q : Int) = (q : Int)) (h5 : Int.tmod (a : Int) 8 = (r : Int)) (h6 : wrap64 (8 * (r : Int)) = (o8 : Int)) (h7 : wrap64 ((i : Int) + 1) = ((i + 1 : Nat) : Int)) (k : Nat) :
  lock_stream.l0 (k + 1) x0 inner (off : Int) n (i : Int) = (sum_Number.f k inner).bind fun t1 => (sum_Number.f k (q : Int)).bind fun t2 => if t1.length + t2.length < 140737488355328 then (sum_Hash.f k (t1 ++ t2)).bind fun t3 => lock_stream.l0 k (x0.set i (Go.bits .xor .u8 (rd x0 (i : Int)) ((shr .u64 t3 (o8 : Int)) % 256))) inner (off : Int) n ((i + 1 : Nat) : Int) else none := by
 have p1 : (0 : Int) ≤ (i : Int) := Int.natCast_nonneg _
 have p2 : (0 : Int) ≤ (o8 : Int) := Int.natCast_nonneg _
 simp only [lock_stream.l0]
 rw [if_pos hi, h1, h2, h3, h4, h5, h6, h7]
 simp only [if_pos p1, if_pos hx, if_pos p2, Int.toNat_natCast]
theorem stream_l0 (inner : Int) (hin : U64 inner) (xs : List Int) (hn : xs.length ≤ 1000000) (off : Nat) (hoff : off ≤ 1000000) : ∀ (d i : Nat), i + d = xs.length → Ev (fun k => lock_stream.l0 k (streamL inner off (xs.take i) ++ xs.drop i) inner (off : Int) (xs.length : Int) (i : Int)) (streamL inner off xs)
 | 0, i, hi => by
  refine Ev.step (f := fun _ => some _) (fun k => ?_) (Ev.now _)
  simp only [lock_stream.l0]
  rw [if_neg (by omega), List.take_of_length_le (by omega), List.drop_of_length_le (by omega), List.append_nil]
 | d + 1, i, hi => by
  have hiN : i < xs.length := by omega
  have hiM : i + 1 + d = xs.length := by omega
  have hoi : off + i ≤ 3000000 := by omega
  have hi1 : i + 1 ≤ 3000000 := by omega
  clear hi
  have ih := stream_l0 inner hin xs hn off hoff d (i + 1) hiM
  clear hiM hoff hn
  have hsl : (streamL inner off (xs.take i)).length = i := by rw [streamL_len, List.length_take]; omega
  have hlen : (streamL inner off (xs.take i) ++ xs.drop i).length = xs.length := by rw [List.length_append, hsl, List.length_drop]; omega
  have hset : ∀ v, (streamL inner off (xs.take i) ++ xs.drop i).set i v = streamL inner off (xs.take i) ++ v :: xs.drop (i + 1) := fun v => by
   rw [List.set_append_right _ _ (by omega), hsl, Nat.sub_self, kdrop_rd xs i (by omega)]; rfl
  have hrd : rd (streamL inner off (xs.take i) ++ xs.drop i) (i : Int) = rd xs (i : Int) := by
   have e := kdrop_rd (streamL inner off (xs.take i) ++ xs.drop i) i (by omega)
   rw [List.drop_append_of_le_length (by omega), List.drop_of_length_le (by omega : (streamL inner off (xs.take i)).length ≤ i), List.nil_append] at e
   exact (List.cons.inj (e.symm.trans (kdrop_rd xs i (by omega)))).1
  obtain ⟨a, ha⟩ : ∃ a, a = off + i := ⟨_, rfl⟩
  have hab : a ≤ 3000000 := ha ▸ hoi
  have hend : streamL inner off (xs.take (i + 1)) ++ xs.drop (i + 1) = streamL inner off (xs.take i) ++ streamV inner a (rd xs (i : Int)) :: xs.drop (i + 1) := by
   rw [ktake_rd xs i (by omega), streamL_snoc, List.append_assoc, List.length_take, Nat.min_eq_left (by omega), ← ha]; rfl
  rw [hend] at ih
  have g1 : wrap64 ((off : Int) + (i : Int)) = (a : Int) := by
   have e : (off : Int) + (i : Int) = (a : Int) := by rw [ha]; rfl
   rw [e]; exact st_wrap64 hab
  have g7 : wrap64 ((i : Int) + 1) = ((i + 1 : Nat) : Int) := st_wrap64 (q := i + 1) hi1
  have gi : (i : Int) < (xs.length : Int) := Int.ofNat_lt.2 hiN
  have gx : (i : Int) < ((streamL inner off (xs.take i) ++ xs.drop i).length : Int) := by rw [hlen]; exact gi
  clear ha hoi hi1
  obtain ⟨q, hq⟩ : ∃ q, q = a / 8 := ⟨_, rfl⟩
  obtain ⟨r, hr⟩ : ∃ r, r = a % 8 := ⟨_, rfl⟩
  obtain ⟨o8, ho8⟩ : ∃ o, o = 8 * r := ⟨_, rfl⟩
  have hq3 := st_q hq hab
  have ho6 := st_o hr ho8
  have g6 : wrap64 (8 * (r : Int)) = (o8 : Int) := by
   have e := st_mul ho8 ho6
   rw [i64_w] at e
   exact e
  refine Ev.step (fun k => stream_step _ inner off i a q r o8 _ gi gx g1 (st_div hq) (st_wrap64 hq3) (st_u64 hq3) (st_mod hr) g6 g7 k) ?_
  refine Ev.bind (number_ev' inner hin) ?_
  refine Ev.bind (number_ev' (q : Int) (st_U hq3)) ?_
  refine Ev.congr (fun k => if_pos (by rw [numList_len, numList_len]; omega)) ?_
  refine Ev.bind (hash_ev _ (by rw [List.length_append, numList_len, numList_len]; omega)) ?_
  rw [hset, hrd, Int.toNat_natCast]
  have hv : Go.bits .xor .u8 (rd xs (i : Int)) ((shr .u64 (hashOf (numList inner.toNat ++ numList q)) (o8 : Int)) % 256) = streamV inner a (rd xs (i : Int)) := by
   unfold streamV
   rw [← hq, ← hr, ← ho8]
   unfold shr
   rw [Int.toNat_natCast, show min o8 IntKind.u64.bits = o8 from Nat.min_eq_left (Nat.le_trans ho6 (by decide))]
  rw [hv]
  exact ih
theorem stream_ev (inner : Int) (hin : U64 inner) (xs : List Int) (hn : xs.length ≤ 1000000) (off : Nat) (hoff : off ≤ 1000000) : Ev (fun k => lock_stream.f k xs inner (off : Int)) (streamL inner off xs) :=
 stream_l0 inner hin xs hn off hoff xs.length 0 (by omega)
end Go.Proofs.YtagcaheopbmdiaaGreat.Lk
namespace Go.Proofs.YtagcaheopbmdiaaGreat.Lk
open Go.Proofs.YtagcaheopbmdiaaGreat.SumPlain Go.Maps
open Go Go.RowKit Go.Proofs.YtagcaheopbmdiaaGreat.QLockOpens Go.Proofs.YtagcaheopbmdiaaGreatW.PrintWords Go.Proofs.YtagcaheopbmdiaaGreatW.PrintLast Go.Proofs.YtagcaheopbmdiaaGreatW.PrintMore
set_option linter.unusedVariables false
set_option linter.unusedSimpArgs false
theorem numList_rd (n r : Nat) (h : r < 8) : rd (numList n) (r : Int) = ((n / 2 ^ (8 * r) % 256 : Nat) : Int) := by
 match r, h with
 | 0, _ => simp [rd, numList]
 | 1, _ => rfl
 | 2, _ => rfl
 | 3, _ => rfl
 | 4, _ => rfl
 | 5, _ => rfl
 | 6, _ => rfl
 | 7, _ => rfl
theorem streamV_rd (inner : Int) (a q r : Nat) (hq : q = a / 8) (hr : r = a % 8) (x : Int) : Go.bits .xor .u8 x (rd (numList (hashOf (numList inner.toNat ++ numList q)).toNat) (r : Int)) = streamV inner a x := by
 have h0 := (hash_u64 (numList inner.toNat ++ numList q)).1
 rw [numList_rd _ r (by omega)]
 unfold streamV
 rw [← hq, ← hr]
 obtain ⟨n, hn⟩ := Int.eq_ofNat_of_zero_le h0
 rw [hn, Int.toNat_natCast]
 congr 1
theorem rstream_step (s : ByteArray) (inner : Int) (off i a q r : Nat) (n : Int) (acc : ByteArray) (hi : (i : Int) < n) (hx : (i : Int) < (s.size : Int)) (h1 : wrap64 ((off : Int) + (i : Int)) = (a : Int)) (h2 : Int.tdiv (a : Int) 8 = (q : Int)) (h3 : wrap64 (q : Int) = (q : Int)) (h4 : IntKind.u64.wrap (q : Int) = (q : Int)) (h5 : Int.tmod (a : Int) 8 = (r : Int)) (h7 : wrap64 ((i : Int) + 1) = ((i + 1 : Nat) : Int)) (k : Nat) :
  wrackref1_Stream.l0 (k + 1) s inner (off : Int) acc n (i : Int) = (wrackref1_Eight.f k inner).bind fun t1 => (wrackref1_Eight.f k (q : Int)).bind fun t2 => if t1.size + t2.size ≤ 9223372036854775807 then (if (t1 ++ t2).size ≤ 140737488355328 then (wrackref1_Mix.f k (bytesOf (t1 ++ t2))).bind fun t3 => (wrackref1_Eight.f k t3).bind fun t4 => if (r : Int) < (t4.size : Int) then (if acc.size + (strOfNums [Go.bits .xor .u8 (bt s (i : Int)) (bt t4 (r : Int))]).size ≤ 9223372036854775807 then wrackref1_Stream.l0 k s inner (off : Int) (acc ++ strOfNums [Go.bits .xor .u8 (bt s (i : Int)) (bt t4 (r : Int))]) n ((i + 1 : Nat) : Int) else none) else none else none) else none := by
 have p1 : (0 : Int) ≤ (i : Int) := Int.natCast_nonneg _
 have p2 : (0 : Int) ≤ (r : Int) := Int.natCast_nonneg _
 simp only [wrackref1_Stream.l0]
 rw [if_pos hi, h1, h2, h3, h4, h5, h7]
 simp only [if_pos p1, if_pos hx, if_pos p2, Option.bind_some]
theorem rstream_l0 (inner : Int) (hin : U64 inner) (xs : List Int) (hb : Bytes xs) (hn : xs.length ≤ 1000000) (off : Nat) (hoff : off ≤ 1000000) : ∀ (d i : Nat), i + d = xs.length → Ev (fun k => wrackref1_Stream.l0 k (strOfNums xs) inner (off : Int) (strOfNums (streamL inner off (xs.take i))) (xs.length : Int) (i : Int)) (strOfNums (streamL inner off xs))
 | 0, i, hi => by
  refine Ev.step (f := fun _ => some _) (fun k => ?_) (Ev.now _)
  simp only [wrackref1_Stream.l0]
  rw [if_neg (by omega), List.take_of_length_le (by omega)]
 | d + 1, i, hi => by
  have hiN : i < xs.length := by omega
  have hiM : i + 1 + d = xs.length := by omega
  have hoi : off + i ≤ 3000000 := by omega
  have hi1 : i + 1 ≤ 3000000 := by omega
  clear hi
  have ih := rstream_l0 inner hin xs hb hn off hoff d (i + 1) hiM
  have hsl : (streamL inner off (xs.take i)).length ≤ 3000000 := by rw [streamL_len, List.length_take]; omega
  clear hiM hoff hn
  obtain ⟨a, ha⟩ : ∃ a, a = off + i := ⟨_, rfl⟩
  have hab : a ≤ 3000000 := ha ▸ hoi
  have hend : streamL inner off (xs.take (i + 1)) = streamL inner off (xs.take i) ++ [streamV inner a (rd xs (i : Int))] := by
   rw [ktake_rd xs i hiN, streamL_snoc, List.length_take, Nat.min_eq_left (Nat.le_of_lt hiN), ← ha]
  rw [hend, ← kstr_add] at ih
  have g1 : wrap64 ((off : Int) + (i : Int)) = (a : Int) := by
   have e : (off : Int) + (i : Int) = (a : Int) := by rw [ha]; rfl
   rw [e]; exact st_wrap64 hab
  have g7 : wrap64 ((i : Int) + 1) = ((i + 1 : Nat) : Int) := st_wrap64 (q := i + 1) hi1
  have gi : (i : Int) < (xs.length : Int) := Int.ofNat_lt.2 hiN
  have gx : (i : Int) < ((strOfNums xs).size : Int) := by rw [str_size]; exact gi
  have hbt := kstr_at xs hb i hiN
  clear ha hoi hi1
  obtain ⟨q, hq⟩ : ∃ q, q = a / 8 := ⟨_, rfl⟩
  obtain ⟨r, hr⟩ : ∃ r, r = a % 8 := ⟨_, rfl⟩
  have hq3 := st_q hq hab
  have hr8 : r < 8 := by omega
  refine Ev.step (fun k => rstream_step _ inner off i a q r _ _ gi gx g1 (st_div hq) (st_wrap64 hq3) (st_u64 hq3) (st_mod hr) g7 k) ?_
  refine Ev.bind (eight_ev' inner hin) ?_
  refine Ev.bind (eight_ev' (q : Int) (st_U hq3)) ?_
  rw [Int.toNat_natCast]
  refine Ev.congr (fun k => if_pos (by rw [str_size, str_size, numList_len, numList_len]; decide)) ?_
  refine Ev.congr (fun k => if_pos (by rw [ByteArray.size_append, str_size, str_size, numList_len, numList_len]; decide)) ?_
  rw [bytesOf_app, bytesOf_str _ (numList_bytes _), bytesOf_str _ (numList_bytes _)]
  refine Ev.bind (mix_ev _ (by rw [List.length_append, numList_len, numList_len]; decide)) ?_
  refine Ev.bind (eight_ev' _ (hash_u64 _)) ?_
  refine Ev.congr (fun k => if_pos (by rw [str_size, numList_len]; exact Int.ofNat_lt.2 hr8)) ?_
  rw [hbt, kstr_at (numList _) (numList_bytes _) r (by rw [numList_len]; exact hr8), streamV_rd inner a q r hq hr]
  refine Ev.congr (fun k => if_pos (by rw [str_size, str_size, List.length_singleton]; omega)) ?_
  exact ih
theorem rstream_ev (inner : Int) (hin : U64 inner) (xs : List Int) (hb : Bytes xs) (hn : xs.length ≤ 1000000) (off : Nat) (hoff : off ≤ 1000000) : Ev (fun k => wrackref1_Stream.f k (strOfNums xs) inner (off : Int)) (strOfNums (streamL inner off xs)) := by
 have e := rstream_l0 inner hin xs hb hn off hoff xs.length 0 (by omega)
 unfold wrackref1_Stream.f
 rw [str_size]
 exact e
theorem lockof_none (n : Int) : Ev (fun k => wrackref1_LockOf.f k (strOfNums []) n) (0, 0, false) := by
 unfold wrackref1_LockOf.f
 refine Ev.congr (fun k => if_neg (by rw [str_size]; decide)) ?_
 exact Ev.step (f := fun k => some (0, 0, false)) (fun k => by simp [wrackref1_LockOf.j0]) (Ev.now _)
end Go.Proofs.YtagcaheopbmdiaaGreat.Lk
