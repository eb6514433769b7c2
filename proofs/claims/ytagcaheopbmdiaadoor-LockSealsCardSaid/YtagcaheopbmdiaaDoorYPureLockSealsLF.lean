/- Sealed layers: a stream laid over the middle of a row. No condition. -/
import Derived.Test.YtagcaheopbmdiaaDoorYPureLockSealsLE
namespace Go.Proofs.YtagcaheopbmdiaaDoor.Lk
open Go Go.RowKit Go.Proofs.YtagcaheopbmdiaaDoor.QLockSeals Go.Proofs.YtagcaheopbmdiaaDoorW.PrintWords Go.Proofs.YtagcaheopbmdiaaDoorW.PrintLast Go.Proofs.YtagcaheopbmdiaaDoorW.PrintMore Go.Proofs.YtagcaheopbmdiaaDoor.SumPlain
set_option linter.unusedVariables false
set_option linter.unusedSimpArgs false
theorem q0xI : type_of% @List.setIfInBounds_toArray := @List.setIfInBounds_toArray
theorem q0x0 : type_of% @List.set_cons_zero := @List.set_cons_zero
theorem q0x1 : type_of% @List.set_cons_succ := @List.set_cons_succ
theorem q0xa : type_of% @Aside0.mk := @Aside0.mk
/-- a byte of a stream -/
def streamV (inner : Int) (at_ : Nat) (x : Int) : Int := Go.bits .xor .u8 x ((hashOf (numList inner.toNat ++ numList (at_ / 8)) / 2 ^ (8 * (at_ % 8))) % 256)
def streamL (inner : Int) : Nat → List Int → List Int
 | _, [] => []
 | at_, x :: xs => streamV inner at_ x :: streamL inner (at_ + 1) xs
theorem streamL_len (inner : Int) : ∀ (xs : List Int) (at_ : Nat), (streamL inner at_ xs).length = xs.length
 | [], _ => rfl
 | x :: xs, at_ => by rw [streamL, List.length_cons, List.length_cons, streamL_len inner xs]
theorem streamL_snoc (inner : Int) (y : Int) : ∀ (xs : List Int) (at_ : Nat), streamL inner at_ (xs ++ [y]) = streamL inner at_ xs ++ [streamV inner (at_ + xs.length) y]
 | [], at_ => rfl
 | x :: xs, at_ => by
  rw [List.cons_append, streamL, streamL_snoc inner y xs (at_ + 1), streamL, List.length_cons, List.cons_append, show at_ + 1 + xs.length = at_ + (xs.length + 1) by omega]
theorem number_at (n : Int) (h : U64 n) (w : World) : Calls Tryd.prog 24 #[.int .u64 n] w fun e w' => ∃ v0, e = .returned v0 ∧ (Kd.int .u8).R 5 w' w.heap.size (fun _ => True) v0 (numList n.toNat) ∧ Below w.heap.size w w' := by
 obtain ⟨k, hk⟩ := (number_ev' n h).rounds
 exact sum_Number.calls k n _ w hk
theorem mid_rd {xs : List Int} {lo m k : Nat} (hk : k < m) (h : lo + m ≤ xs.length) : ((xs.drop lo).take m).take (k + 1) = ((xs.drop lo).take m).take k ++ [rd xs ((lo + k : Nat) : Int)] := by
 have h1 : k < ((xs.drop lo).take m).length := by rw [List.length_take, List.length_drop]; omega
 rw [ktake_rd _ k h1]
 congr 2
 unfold rd
 rw [Int.toNat_natCast, Int.toNat_natCast, List.getD_eq_getElem?_getD, List.getD_eq_getElem?_getD, List.getElem?_take_of_lt hk, List.getElem?_drop]
theorem putAt_at {xs : List Int} {lo : Nat} {ys : List Int} {k : Nat} (hl : ys.length = k) (h : lo + k < xs.length) : rdOf 0 (putAt xs lo ys) ((lo + k : Nat) : Int) = rd xs ((lo + k : Nat) : Int) := by
 subst hl
 unfold rdOf rd putAt
 rw [Int.toNat_natCast, List.getD_eq_getElem?_getD, List.getD_eq_getElem?_getD, List.getElem?_append_right (by rw [List.length_take]; omega), List.getElem?_append_right (by rw [List.length_take]; omega), List.getElem?_drop, List.length_take]
 congr 2
 omega
theorem hash_at (A : Option Addr) (c n : Nat) (l : List Int) (hl : l.length = n) (W : World) (hC : Kd.C (Kd.int .u8) W A n l) (hc : n ≤ c) (hn : n ≤ 1000) (r : Int) (hr : r = hashOf l) : Calls Tryd.prog 23 #[.slice A n c] W fun e w' => e = .returned (.int .u64 r) ∧ Drawn0 W w' := by
 subst hl hr
 exact hash_calls A c l W hC hc (by omega)
theorem st_q {a q : Nat} (h : q = a / 8) (hb : a ≤ 3000000) : q ≤ 3000000 := by omega
theorem st_r {a r : Nat} (h : r = a % 8) : r ≤ 3000000 := by omega
theorem st_o {a r o : Nat} (h : r = a % 8) (h2 : o = 8 * r) : o ≤ 56 := by omega
theorem st_at {off k a : Nat} (h : a = off + k) (hb : a ≤ 3000000) : IntKind.i64.wrap ((off : Int) + (k : Int)) = (a : Int) := by rw [i64_w]; unfold wrap64; omega
theorem st_div {a q : Nat} (h : q = a / 8) : Int.tdiv (a : Int) 8 = (q : Int) := by rw [Int.tdiv_eq_ediv_of_nonneg (Int.natCast_nonneg _)]; omega
theorem st_mod {a r : Nat} (h : r = a % 8) : Int.tmod (a : Int) 8 = (r : Int) := by rw [Int.tmod_eq_emod_of_nonneg (Int.natCast_nonneg _)]; omega
theorem st_wrap {q : Nat} (h : q ≤ 3000000) : IntKind.i64.wrap (q : Int) = (q : Int) := by rw [i64_w]; unfold wrap64; omega
theorem st_wrap64 {q : Nat} (h : q ≤ 3000000) : wrap64 (q : Int) = (q : Int) := by unfold wrap64; omega
theorem st_u64 {q : Nat} (h : q ≤ 3000000) : IntKind.u64.wrap (q : Int) = (q : Int) := by rw [IntKind.wrap_u64]; omega
theorem st_U {q : Nat} (h : q ≤ 3000000) : U64 (q : Int) := ⟨by omega, by omega⟩
theorem st_mul {r o : Nat} (h : o = 8 * r) (h2 : o ≤ 56) : IntKind.i64.wrap (8 * (r : Int)) = (o : Int) := by rw [i64_w]; unfold wrap64; omega
theorem st_dec {k m : Nat} (h : k < m) : m - (intOf (.int .i64 ((k : Int) + 1))).toNat < m - (intOf (.int .i64 (k : Int))).toNat := by simp [intOf]; omega
set_option maxHeartbeats 8000000 in
set_option maxRecDepth 100000 in
/-- a stream is laid over the middle of a row -/
theorem stream_at (g n cap lo m c2 : Nat) (xs : List Int) (inner : Int) (hin : U64 inner) (off : Nat) (ok : Nat → Prop) (w0 w : World)
  (hR : (Kd.int .u8).R 5 w w0.heap.size ok (.slice (some ⟨g, 0, none⟩) n cap) xs) (hB : Below w0.heap.size w0 w) (hk : lo + m ≤ n) (hn : n ≤ 1000000) (hoff : off ≤ 1000000) :
  Calls Tryd.prog 12 #[.slice (some ⟨g, lo, none⟩) m c2, .int .u64 inner, .int .i64 (off : Int)] w fun e w' => e = .returned (.tuple #[]) ∧ (Kd.int .u8).R 5 w' w0.heap.size ok (.slice (some ⟨g, 0, none⟩) n cap) (putAt xs lo (streamL inner off ((xs.drop lo).take m))) ∧ Below w0.heap.size w0 w' := by
 have hrl := (Kd.R_reads' hR).1
 have hgL : w0.heap.size ≤ g := Kd.R_base hR g rfl
 have HIN := q0xa hin
 have HR := q0xa hR
 have HB := q0xa hB
 have HRL := q0xa hrl
 have HK := q0xa hk
 have HYL := q0xa (show ((xs.drop lo).take m).length = m by rw [List.length_take, List.length_drop]; omega)
 clear hR hB hrl hk hin
 go_enter Tryd.func12, Tryd.ntmps12
 go_wp2
 go_loopw [11] (fun v8 wr => ∃ k : Nat, k ≤ m ∧ v8 = .int .i64 (k : Int) ∧ Aside0 ((Kd.int .u8).R 5 wr w0.heap.size ok (.slice (some ⟨g, 0, none⟩) n cap) (putAt xs lo (streamL inner off (((xs.drop lo).take m).take k)))) ∧ Aside0 (Below w0.heap.size w0 wr)) (fun v8 _ => m - (intOf v8).toNat)
 case atStart => exact ⟨0, Nat.zero_le _, rfl, ⟨by rw [List.take_zero, streamL, putAt_nil]; exact HR.out⟩, HB⟩
 case round =>
  clear HR HB
  obtain ⟨k, hk', rfl, HR, HB⟩ := hrel
  by_cases hlt : k < m
  ·
   have hlti : (k : Int) < (m : Int) := by omega
   have HKM := q0xa hlt
   have hnx : IntKind.i64.wrap ((k : Int) + 1) = (k : Int) + 1 := by rw [i64_w]; have := HK.out; unfold wrap64; omega
   have hko : off + k ≤ 3000000 := by have := HK.out; omega
   have hcell := show lo + k < n by have := HK.out; omega
   have hlk : lo + k < xs.length := by have := HRL.out; have := HK.out; omega
   have hsl : (streamL inner off (((xs.drop lo).take m).take k)).length = k := by rw [streamL_len, List.length_take, HYL.out]; omega
   obtain ⟨f0, f1_⟩ := Kd.R_celln (enc := Value.int .u8) (h1 := fun _ => rfl) (0 : Int) HR.out ((lo + k : Nat) : Int) (Int.natCast_nonneg _) (Int.ofNat_lt.2 hcell)
   rw [putAt_at hsl hlk] at f0
   rw [Int.toNat_natCast] at f0 f1_
   have hmid := mid_rd (xs := xs) (lo := lo) hlt (by have := HRL.out; have := HK.out; omega)
   have hkl : min k m = k := Nat.min_eq_left (Nat.le_of_lt hlt)
   have HK1 := q0xa (show k + 1 ≤ m from hlt)
   obtain ⟨at_, hat⟩ : ∃ a, a = off + k := ⟨_, rfl⟩
   rw [← hat] at hko
   obtain ⟨q, hq⟩ : ∃ a, a = at_ / 8 := ⟨_, rfl⟩
   obtain ⟨r, hr⟩ : ∃ a, a = at_ % 8 := ⟨_, rfl⟩
   obtain ⟨o8, ho8⟩ : ∃ o, o = 8 * r := ⟨_, rfl⟩
   have hq3 : q ≤ 3000000 := st_q hq hko
   have ho6 : o8 ≤ 56 := st_o hr ho8
   have q1 := st_at hat hko
   have q2 := st_div hq
   have q3 := st_wrap hq3
   have q3b := st_wrap64 hq3
   have q4 := st_u64 hq3
   have q5 := st_mod hr
   have q6 := st_wrap (st_r hr)
   have q6b := st_wrap64 (st_r hr)
   have q7 := st_mul ho8 ho6
   obtain ⟨h, hh⟩ : ∃ h, h = hashOf (numList inner.toNat ++ numList q) := ⟨_, rfl⟩
   obtain ⟨sv, hsv⟩ : ∃ v, v = h / 2 ^ o8 := ⟨_, rfl⟩
   have hs1 : h / 2 ^ min o8 64 = sv := by rw [Nat.min_eq_left (Nat.le_trans ho6 (by decide)), hsv]
   have hs2 : h / 2 ^ o8 = sv := hsv.symm
   have hs3 : shr .u64 h (o8 : Int) = sv := by unfold shr; rw [Int.toNat_natCast, show min o8 IntKind.u64.bits = o8 from Nat.min_eq_left (Nat.le_trans ho6 (by decide)), hsv]
   have HN1 := q0xa (fun W => number_at inner HIN.out W)
   have HN2 := q0xa (fun W => number_at (q : Int) (st_U hq3) W)
   rw [Int.toNat_natCast] at HN2
   obtain ⟨x, hx⟩ : ∃ x, x = rd xs ((lo + k : Nat) : Int) := ⟨_, rfl⟩
   rw [← hx] at f0
   have hend : (putAt xs lo (streamL inner off (((xs.drop lo).take m).take k))).set (lo + k) (Go.bits .xor .u8 x (sv % 256)) = putAt xs lo (streamL inner off (((xs.drop lo).take m).take (k + 1))) := by
    have h1 := putAt_snoc (xs := xs) (lo := lo) (ys := streamL inner off (((xs.drop lo).take m).take k)) (by rw [hsl]; exact hlk) (Go.bits .xor .u8 x (sv % 256))
    rw [hsl] at h1
    rw [h1, hmid, streamL_snoc, List.length_take, HYL.out, hkl, ← hat, ← hx]
    unfold streamV
    rw [← hq, ← hr, ← hh, ← ho8, ← hsv]
   have HEND := q0xa hend
   have HH := q0xa hh
   obtain ⟨N1, hN1⟩ : ∃ N, N = numList inner.toNat := ⟨_, rfl⟩
   obtain ⟨N2, hN2⟩ : ∃ N, N = numList q := ⟨_, rfl⟩
   rw [← hN1] at HN1 HH
   rw [← hN2] at HN2 HH
   have HRM := q0xa (show (N1.length + N2.length) * 1 ≤ 140737488355328 by rw [hN1, hN2, numList_len, numList_len]; decide)
   have HNL := q0xa (show N1.length + N2.length ≤ 1000 by rw [hN1, hN2, numList_len, numList_len]; decide)
   have HBr := q0xa (Below.refl wr.heap.size wr)
   have HCL := q0xa hcell
   clear hend hh hsv hat hq hr ho8 hx hsl hlk hN1 hN2 hlt hko hcell hmid hkl hq3
   go_wp2_with (first
    | (go_at_call 24; have hg_ := HBr.out; (with_reducible refine (HN1.out _).mono ?_); rintro e w1 ⟨v1, rfl, hv1, hb1⟩; obtain ⟨A1, c1, e1⟩ := Kd.R_slice hv1; subst e1; have HB1 := q0xa hb1; have HV1 := q0xa hv1; clear hv1 hb1 hg_ HBr)
    | (go_at_call 24; have hg_ := HB1.out; (with_reducible refine (HN2.out _).mono ?_); rintro e w2 ⟨v2, rfl, hv2, hb2⟩; obtain ⟨A2, d2, e2⟩ := Kd.R_slice hv2; subst e2; have HB2 := q0xa (below_step HB1.out hb2); have HV1b := q0xa (Kd.R_below HV1.out hb2); have HV2 := q0xa (Kd.R_reads' hv2).2.2; clear hv2 hb2 hg_ HB1 HV1)
    | (refine Kd.R_append_rows (Kd.int .u8) (Rr := (Kd.int .u8).K w2) (w0 := wr) wr.heap.size rfl (.tmp 18) (.tmp 22) 22 5 (.int .u8 0) 1 rfl Tryd.underlying22 info5 rfl (by decide) (by decide) (.slice A1 N1.length c1) N1 N2 A2 N2.length d2 (fun _ => True) (fun _ => False) rfl rfl HV1b.out HV2.out (fun _ _ h => h) (fun _ h => h.elim) (fun _ _ => trivial) HB2.out HB2.out.size HRM.out ?_; intro v8 w8 HO8 HB8 hg8 hat8; obtain ⟨A8, c8, e8⟩ := Kd.R_slice HO8; subst e8; have hr8 := Kd.R_reads' HO8; rw [List.length_append] at hr8; have HV8 := q0xa (And.intro hr8.2.2 hr8.2.1); clear hr8; have HB8b := q0xa HB8; clear HO8 HB8 hg8 hat8 HB2 HV1b HV2)
    | (go_at_call 23; (with_reducible refine (hash_at A8 c8 (N1.length + N2.length) (N1 ++ N2) List.length_append _ HV8.out.1 HV8.out.2 HNL.out h HH.out).mono ?_); rintro e w9 ⟨rfl, hd9⟩; have HB9 := q0xa (below_step HB8b.out hd9.below); clear hd9 HB8b HV8))
   have HRE := q0xa (Kd.R_below HR.out (below_step HB9.out (below_drew (Below.refl w9.heap.size w9))))
   have HBE := q0xa (below_step HB.out (below_step HB9.out (below_drew (Below.refl w9.heap.size w9))))
   have y0_ : w9.drew.cell? ⟨g, lo + k, none⟩ = some (.int .u8 x) := pw_cell_below (below_step HB9.out (below_drew (Below.refl w9.heap.size w9))) f0
   obtain ⟨_, f1⟩ := Kd.R_celln (enc := Value.int .u8) (h1 := fun _ => rfl) (0 : Int) HRE.out ((lo + k : Nat) : Int) (Int.natCast_nonneg _) (Int.ofNat_lt.2 HCL.out)
   rw [Int.toNat_natCast] at f1
   clear f0 f1_ HR HB HB9
   refine start_ (n := 13) (S := fun w' => w'.cell? ⟨g, lo + k, none⟩ = some (.int .u8 x)) (ds := [12]) #[false,false,false,false,false,false,false,false,false,false,false,false,false] (by kernel_rfl) rfl rfl (y0_) (fun hHeld => ?_)
   generalize w9.drew = wE at y0_ f1 HRE HBE hHeld ⊢
   refine pure_ (i:=0) (N:=some 25) (v:=?_) (a':=?_) #[true,false,false,false,false,false,false,false,false,false,false,false,false] rfl rfl (by kernel_rfl) (fun _ _ _ h => h) (Or.inl ⟨by rfl, ?_⟩) ?_ ?_
   rotate_left
   ·
    intro w'
    go_simp
    with_reducible rfl
   rotate_left
   ·
    simp only [Act.put, q0xI, q0x0, q0x1, i64_w, i32_w]
    rfl
   refine pure_ (i:=1) (N:=some 26) (v:=?_) (a':=?_) #[true,true,false,false,false,false,false,false,false,false,false,false,false] rfl rfl (by kernel_rfl) (fun _ _ _ h => h) (Or.inl ⟨by rfl, ?_⟩) ?_ ?_
   rotate_left
   ·
    intro w'
    go_simp
    with_reducible rfl
   rotate_left
   ·
    simp only [Act.put, q0xI, q0x0, q0x1, i64_w, i32_w]
    rfl
   refine pure_ (i:=2) (N:=some 27) (v:=?_) (a':=?_) #[true,true,true,false,false,false,false,false,false,false,false,false,false] rfl rfl (by kernel_rfl) (fun _ _ _ h => h) (Or.inl ⟨by rfl, ?_⟩) ?_ ?_
   rotate_left
   ·
    intro w'
    go_simp
    with_reducible rfl
   rotate_left
   ·
    simp only [Act.put, q0xI, q0x0, q0x1, i64_w, i32_w]
    rfl
   refine pure_ (i:=4) (N:=some 29) (v:=?_) (a':=?_) #[true,true,true,false,true,false,false,false,false,false,false,false,false] rfl rfl (by kernel_rfl) (fun _ _ _ h => h) (Or.inl ⟨by rfl, ?_⟩) ?_ ?_
   rotate_left
   ·
    intro w'
    go_simp
    with_reducible rfl
   rotate_left
   ·
    simp only [Act.put, q0xI, q0x0, q0x1, i64_w, i32_w]
    rfl
   refine pure_ (i:=5) (N:=some 30) (v:=?_) (a':=?_) #[true,true,true,false,true,true,false,false,false,false,false,false,false] rfl rfl (by kernel_rfl) (fun _ _ _ h => h) (Or.inl ⟨by rfl, ?_⟩) ?_ ?_
   rotate_left
   ·
    intro w'
    go_simp
    with_reducible rfl
   rotate_left
   ·
    simp only [Act.put, q0xI, q0x0, q0x1, i64_w, i32_w]
    rfl
   refine pure_ (i:=6) (N:=some 31) (v:=?_) (a':=?_) #[true,true,true,false,true,true,true,false,false,false,false,false,false] rfl rfl (by kernel_rfl) (fun _ _ _ h => h) (Or.inl ⟨by rfl, ?_⟩) ?_ ?_
   rotate_left
   ·
    intro w'
    go_simp
    with_reducible rfl
   rotate_left
   ·
    simp only [Act.put, q0xI, q0x0, q0x1, i64_w, i32_w]
    rfl
   refine pure_ (i:=7) (N:=some 32) (v:=?_) (a':=?_) #[true,true,true,false,true,true,true,true,false,false,false,false,false] rfl rfl (by kernel_rfl) (fun _ _ _ h => h) (Or.inl ⟨by rfl, ?_⟩) ?_ ?_
   rotate_left
   ·
    intro w'
    go_simp
    with_reducible rfl
   rotate_left
   ·
    simp only [Act.put, q0xI, q0x0, q0x1, i64_w, i32_w]
    rfl
   refine pure_ (i:=8) (N:=some 33) (v:=?_) (a':=?_) #[true,true,true,false,true,true,true,true,true,false,false,false,false] rfl rfl (by kernel_rfl) (fun _ _ _ h => h) (Or.inl ⟨by rfl, ?_⟩) ?_ ?_
   rotate_left
   ·
    intro w'
    go_simp
    with_reducible rfl
   rotate_left
   ·
    simp only [Act.put, q0xI, q0x0, q0x1, i64_w, i32_w]
    rfl
   refine pure_ (i:=9) (N:=some 34) (v:=?_) (a':=?_) #[true,true,true,false,true,true,true,true,true,true,false,false,false] rfl rfl (by kernel_rfl) (fun _ _ _ h => h) (Or.inl ⟨by rfl, ?_⟩) ?_ ?_
   rotate_left
   ·
    intro w'
    go_simp
    with_reducible rfl
   rotate_left
   ·
    simp only [Act.put, q0xI, q0x0, q0x1, i64_w, i32_w]
    rfl
   refine take_ (i:=3) (N:=some 28) (v:=?_) (a':=?_) #[true,true,true,true,true,true,true,true,true,true,false,false,false] rfl rfl (by kernel_rfl) (fun _ _ _ h => h) (Or.inl ⟨by rfl, ?_⟩) hHeld ?_ ?_
   rotate_left
   ·
    intro w' s0
    go_simp
    with_reducible rfl
   rotate_left
   ·
    simp only [Act.put, q0xI, q0x0, q0x1, i64_w, i32_w]
    rfl
   refine pure_ (i:=10) (N:=some 35) (v:=?_) (a':=?_) #[true,true,true,true,true,true,true,true,true,true,true,false,false] rfl rfl (by kernel_rfl) (fun _ _ _ h => h) (Or.inl ⟨by rfl, ?_⟩) ?_ ?_
   rotate_left
   ·
    intro w'
    go_simp
    with_reducible rfl
   rotate_left
   ·
    simp only [Act.put, q0xI, q0x0, q0x1, i64_w, i32_w]
    rfl
   refine pure_ (i:=11) (N:=some 36) (v:=?_) (a':=?_) #[true,true,true,true,true,true,true,true,true,true,true,true,false] rfl rfl (by kernel_rfl) (fun _ _ _ h => h) (Or.inl ⟨by rfl, ?_⟩) ?_ ?_
   rotate_left
   ·
    intro w'
    go_simp
    with_reducible rfl
   rotate_left
   ·
    simp only [Act.put, q0xI, q0x0, q0x1, i64_w, i32_w]
    rfl
   refine last_ (i:=12) (N:=none) #[true,true,true,true,true,true,true,true,true,true,true,true,true] rfl rfl (by kernel_rfl) (by decide) (fun K hK => ?_)
   refine skip_ (w1 := ?_) (by rfl) rfl ?_ ?_
   rotate_left
   ·
    go_simp
    rfl
   refine hK.out _ _ ?_
   clear hK K
   refine done_ (by kernel_rfl) ?_
   have hp := Kd.R_putg (enc := Value.int .u8) (h1 := fun _ => rfl) HRE.out ((lo + k : Nat) : Int) (Go.bits .xor .u8 x (sv % 256))
   rw [Int.toNat_natCast, HEND.out] at hp
   have HPP := q0xa hp.1
   have HBP := q0xa (HBE.out.setCell (p := ⟨g, lo + k, none⟩) hgL (.int .u8 (Go.bits .xor .u8 x (sv % 256))))
   clear hp hHeld y0_ f1 HRE HBE
   go_wp2
   go_roundw
   case rel => exact ⟨k + 1, HK1.out, by go_num, HPP, HBP⟩
   case measure => exact st_dec HKM.out
  ·
   obtain rfl : k = m := by omega
   rw [List.take_of_length_le (by rw [HYL.out]; exact Nat.le_refl _)] at HR
   go_wp2
   go_end0
   exact ⟨rfl, HR.out, HB.out⟩
end Go.Proofs.YtagcaheopbmdiaaDoor.Lk
