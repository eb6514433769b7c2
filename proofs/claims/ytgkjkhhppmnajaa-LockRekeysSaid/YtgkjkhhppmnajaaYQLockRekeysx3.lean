/- Written by a program of this session (wip/mprint): the walk of the Go code, function by function, for every input; no condition. -/
import Derived.Test.YtgkjkhhppmnajaaYQLockRekeysx0
import Derived.Test.YtgkjkhhppmnajaaYQLockRekeysx1
import Derived.Test.YtgkjkhhppmnajaaYQLockRekeysx2
import Derived.Shelf.Strings.Repeat
namespace Go.Proofs.Ytgkjkhhppmnajaa.QLockRekeys
open Go.RowKit Go.Proofs.YtgkjkhhppmnajaaW.PrintWords Go.Proofs.YtgkjkhhppmnajaaW.PrintLast Go.Proofs.YtgkjkhhppmnajaaW.PrintMore
attribute [local go_sem] max2_int min2_int max_two min_two max_three min_three max_four min_four   -- for this text's walks alone
set_option linter.unusedVariables false
set_option linter.unusedSimpArgs false
section
variable {P : Program} {ops : Array Oper} {rest : List Oper} {o : Oper} {a : Act} {Q : Exit → Act → World → Prop} {α : Type}
/-- copy onto the middle of a row of scalars of one's own -/
theorem copy_run {enc : α → Value} {h1 : ∀ x, (enc x).oneCell' = true} (d : α) {W : World} (base : Nat) (t t' ty e : TypeId)
  (ht : P.underlying t = some (.slice e)) (hinfo : (P.info? e).map (·.size) = some 1)
  {g n cap lo k c2 : Nat} {xs ys : List α} {A : Option Addr} {m c : Nat} {ok : Nat → Prop}
  (HO : (Kd.scalar enc h1).R e W base ok (.slice (some ⟨g, 0, none⟩) n cap) xs) (HR : (Kd.scalar enc h1).C W A m ys) (hk : lo + k ≤ n) (hm : m ≤ k) (hm0 : 0 < m) :
  ∃ w1, (Builtin.copy_ #[t, t'] ty #[.slice (some ⟨g, lo, none⟩) k c2, .slice A m c]).run P W = .ok (goInt ((m : Nat) : Int)) w1 ∧ (Kd.scalar enc h1).R e w1 base ok (.slice (some ⟨g, 0, none⟩) n cap) (xs.take lo ++ (ys ++ xs.drop (lo + m))) ∧ W.grownBy w1 (some g) := by
 have hR := Kd.reads_of_C (enc := enc) (d := d) (h1 := h1) HR
 have hym : ys.length = m := hR.1
 obtain ⟨hn, _⟩ := Kd.R_reads' HO
 have hown := Kd.own_of_R HO
 obtain ⟨ad, hA, hc⟩ := hR.2.2 hm0
 rcases hown.2 with ⟨hv, _⟩ | ⟨g', cap', cur, hv, hb, hh, hnc, hcm, hcs, htake⟩
 · simp at hv
 simp only [Value.slice.injEq, Option.some.injEq, Addr.mk.injEq, and_true,true_and] at hv
 obtain ⟨hg, _, hcap⟩ := hv
 subst hg
 have hcs1 : cur.size = cap' := by omega
 have hsrc : ∀ j u, (encs enc ys)[j]? = some u → W.cell? (ad.add j) = some u := by
  intro j u hu
  have hj : j < ys.length := by
   rcases Nat.lt_or_ge j ys.length with h | h
   · exact h
   ·
    rw [List.getElem?_eq_none (by rw [encs_length]; exact h)] at hu
    cases hu
  rw [encs_get (d := d) _ j hj] at hu
  rw [hc j (by omega), ← hu]
 have hkl : (encs enc ys).length = m := by rw [encs_length]; exact hym
 have hr := run_copy_cells (P := P) W t t' ty e g lo k c2 ad m c (encs enc ys) ht hinfo (by rw [hkl]; exact (Nat.min_eq_left hm).symm) hsrc
  (fun j hj => by rw [cell_of_row W g _ cur e (0, 0) hh]; simp; omega) (fun j _ => blk_frozen hh _) (by intro u hu; simp only [encs, List.mem_map] at hu; obtain ⟨q, _, rfl⟩ := hu; exact h1 q)
 obtain ⟨cur', h3, h4, h5⟩ := setCells_row (encs enc ys) lo W cur hh (by rw [hkl]; omega)
 obtain ⟨s1, s2, s3, s4⟩ := setCells_same g (encs enc ys) lo W
 have hln : (xs.take lo ++ (ys ++ xs.drop (lo + m))).length = xs.length := by
  simp only [List.length_append, List.length_take, List.length_drop]; omega
 refine ⟨_, by rw [hA, hr, hkl], ?_, ⟨s1, s2, s3, by rw [s4]; exact Nat.le_refl _, fun i _ hi => setCells_far _ _ i (fun he => hi (by rw [he]))⟩⟩
 refine Kd.R_of_own ?_ HO.1
 rw [hln, hn]
 refine ⟨by rw [encs_length, hln, Nat.mul_one], .inr ⟨g, cap, cur', rfl, hb, h3, by omega, by omega, by omega, ?_⟩⟩
 have htk : cur.toList.take xs.length = encs enc xs := by rw [← htake, Nat.mul_one]
 have hdr : cur.toList.drop xs.length = cur.toList.drop xs.length := rfl
 have hcur : cur.toList = encs enc xs ++ cur.toList.drop xs.length := by rw [← htk, List.take_append_drop]
 rw [h5, hkl, Nat.mul_one, hcur]
 have he : (encs enc xs).length = xs.length := encs_length _
 have t1 : (encs enc xs ++ cur.toList.drop xs.length).take lo = (encs enc xs).take lo := List.take_append_of_le_length (by rw [he]; omega)
 have t2 : (encs enc xs ++ cur.toList.drop xs.length).drop (lo + m) = (encs enc xs).drop (lo + m) ++ cur.toList.drop xs.length := List.drop_append_of_le_length (by rw [he]; omega)
 rw [t1, t2]
 rw [show encs enc (xs.take lo ++ (ys ++ xs.drop (lo + m))) = (encs enc xs).take lo ++ encs enc ys ++ (encs enc xs).drop (lo + m) by simp [encs, List.map_take, List.map_drop]]
 rw [← List.append_assoc, List.take_append_of_le_length (by simp only [List.length_append, List.length_take, List.length_drop, he, hkl]; omega)]
 rw [List.take_of_length_le (by simp only [List.length_append, List.length_take, List.length_drop, he, hkl]; omega)]
end
/-- the bytes of the new image, or the error -/
def lock_Rekey.f (k : Nat) (l0 : List Int) (a1 a2 : ByteArray) (a3 : Int) : Option (List Int × Int) :=
 if l0.length < 128 ∨ 65536 < l0.length then some ([], 3) else
 if (strOfNums (l0.take 4)).toList = [108, 111, 99, 107] then
  (lock_get.f k ((l0.drop 12).take 4)).bind fun z => if z = 0 then
  (lock_get.f k ((l0.drop 8).take 4)).bind fun n => if n < 1 then some ([], 3) else if 4 < n then some ([], 3) else
  (lock_get.f k ((l0.drop 4).take 4)).bind fun sz => if (l0.length : Int) - 128 < sz then some ([], 3) else
  (lock_name.f k a1).bind fun o1 => if o1 = true then
  (lock_name.f k a2).bind fun o2 => if o2 = true then
  (lock_open.f k l0 n a1).bind fun p => if p.2.2 = true then
  (lock_open.f k l0 n a2).bind fun q => if q.2.2 = true then some ([], 7) else
  (lock_mixed.f k (IntKind.u64.wrap a3) (⟨#[110, 101, 119]⟩ : ByteArray)).bind fun salt => (lock_slot.f k salt p.2.1 a2).bind fun s =>
   if 0 ≤ p.1 ∧ p.1 < 4 ∧ s.length = 24 then some (l0.take (16 + 24 * p.1.toNat) ++ (s ++ l0.drop (16 + 24 * p.1.toNat + 24)), 0) else none
  else some ([], 14)
  else some ([], 6)
  else some ([], 6)
  else some ([], 3)
 else some ([], 3)
theorem leO_ite {α : Type} {c : Prop} [Decidable c] {a b a' b' : Option α} (h1 : LeO a a') (h2 : LeO b b') : LeO (if c then a else b) (if c then a' else b') := by split <;> assumption
theorem lock_Rekey.mono : ∀ a0 a1 a2 a3 k, LeO (lock_Rekey.f k a0 a1 a2 a3) (lock_Rekey.f (k + 1) a0 a1 a2 a3) := by
 intro a0 a1 a2 a3 k
 unfold lock_Rekey.f
 refine leO_ite (LeO.refl _) (leO_ite ?_ (LeO.refl _))
 refine LeO.bind (lock_get.mono _ _) fun z => leO_ite ?_ (LeO.refl _)
 refine LeO.bind (lock_get.mono _ _) fun n => leO_ite (LeO.refl _) (leO_ite (LeO.refl _) ?_)
 refine LeO.bind (lock_get.mono _ _) fun sz => leO_ite (LeO.refl _) ?_
 refine LeO.bind (lock_name.mono _ _) fun o1 => leO_ite ?_ (LeO.refl _)
 refine LeO.bind (lock_name.mono _ _) fun o2 => leO_ite ?_ (LeO.refl _)
 refine LeO.bind (lock_open.mono _ _ _ _) fun p => leO_ite ?_ (LeO.refl _)
 refine LeO.bind (lock_open.mono _ _ _ _) fun q => leO_ite (LeO.refl _) ?_
 exact LeO.bind (lock_mixed.mono _ _ _) fun salt => LeO.bind (lock_slot.mono _ _ _ _) fun s => LeO.refl _
theorem u64_small {n : Int} (h0 : 0 ≤ n) (h1 : n < 18446744073709551616) : IntKind.u64.wrap n = n := by
 unfold IntKind.wrap
 simp [IntKind.bits, IntKind.signed]
 omega
theorem rk_get (k : Nat) (A : Option Addr) (c n : Nat) (l : List Int) (hl : l.length = n) (r : Int) (W : World) (hC : Kd.C (Kd.int .u8) W A n l) (hc : n ≤ c) (h : lock_get.f k l = some r) : Calls Try.prog 59 #[.slice A n c] W fun e w' => e = .returned (.int .u64 r) ∧ Drawn0 W w' := by
 subst hl
 exact lock_get.calls k A c l r W hC hc h
theorem rk_cut {w : World} {A0 : Option Addr} {len c0 off C : Nat} {b : List Int} (h : off + C ≤ len) (hc : len ≤ c0) (hb : b.length = len) (j : Int) (hj : j = ((off + C : Nat) : Int)) : ∃ AP,
  (∀ W : World, (Instr.slice 22 (.slice A0 len c0) (some (.int .i64 (off : Int))) (some (.int .i64 j)) none).run Try.prog W = .ok (.slice AP C (c0 - off)) W) ∧
  ∀ W : World, Kd.C (Kd.int .u8) W A0 len b → Kd.C (Kd.int .u8) W AP C ((b.drop off).take C) := by
 subst hb hj
 obtain ⟨i5, hi5, hy5⟩ := Option.map_eq_some_iff.1 info5
 simp only [Prod.mk.injEq] at hy5
 refine ⟨if c0 = off then A0 else A0.map (·.add (off * 1)), fun W => ?_, fun W hC => ?_⟩
 ·
  have h1 := cut_mid (P := Try.prog) 22 5 .i64 .i64 Try.underlying22 hi5 1 hy5.2.1 A0 b.length c0 (off : Int) ((off + C : Nat) : Int) (by omega) (by omega) (by omega) hc W
  rw [Int.toNat_natCast, Int.toNat_natCast, Nat.add_sub_cancel_left] at h1
  exact h1
 ·
  have h1 := Kd.C_mid (lo := off) (hi := off + C) hC (by omega) h hc
  rw [List.drop_take, show off + C - off = C by omega] at h1
  rw [show ((b.drop off).take C).length = C by rw [List.length_take, List.length_drop]; omega] at h1
  exact h1
theorem rk_sz : (Try.prog.info? 5).map (·.size) = some 1 := by
 obtain ⟨i5, hi5, hy5⟩ := Option.map_eq_some_iff.1 info5
 simp only [Prod.mk.injEq] at hy5
 rw [hi5]
 simp [hy5.2.1]
theorem rk_own {w : World} {base : Nat} {ok : Nat → Prop} {v : Value} {xs : List Int} (h : (Kd.int .u8).R 5 w base ok v xs) (hx : 0 < xs.length) : ∃ g c, v = .slice (some ⟨g, 0, none⟩) xs.length c ∧ base ≤ g := by
 obtain ⟨A, c, rfl⟩ := Kd.R_slice h
 rcases (Kd.own_of_R h).2 with ⟨hv, hl⟩ | ⟨g, c, cur, hv, hb, _⟩
 ·
  have := (Kd.R_reads' h).1
  exfalso
  simp at hv
  omega
 · exact ⟨g, c, hv, hb⟩
theorem rk_sub {g n c o : Nat} (ho : o < n) (hc : n ≤ c) (j : Int) (hj : j = (o : Int)) : ∀ W : World, (Instr.slice 22 (.slice (some ⟨g, 0, none⟩) n c) (some (.int .i64 j)) none none).run Try.prog W = .ok (.slice (some ⟨g, o, none⟩) (n - o) (c - o)) W := fun W => by
 subst hj
 obtain ⟨i5, hi5, hy5⟩ := Option.map_eq_some_iff.1 info5
 simp only [Prod.mk.injEq] at hy5
 have h1 := cut_from (P := Try.prog) 22 5 .i64 Try.underlying22 hi5 1 hy5.2.1 (some ⟨g, 0, none⟩) n c (o : Int) (by omega) (by omega) W
 rw [Int.toNat_natCast, if_neg (by omega)] at h1
 rw [h1, Option.map_some, Nat.mul_one]
 simp [Addr.add]
 try (intro h; omega)
set_option maxHeartbeats 16000000 in
set_option maxRecDepth 100000 in
theorem lock_Rekey.calls (k : Nat) (A0 : Option Addr) (c0 : Nat) (l0 : List Int) (a1 a2 : ByteArray) (a3 : Int) (r1 : List Int) (r2 : Int) (w : World) (hr0 : Kd.C (Kd.int .u8) w A0 l0.length l0) (hc0 : l0.length ≤ c0) (h : lock_Rekey.f k l0 a1 a2 a3 = some (r1, r2)) :
  Calls Try.prog 25 #[.slice A0 l0.length c0, .string a1, .string a2, .int .i64 a3] w fun e w' => ∃ v0_ : Value, e = .returned (.tuple #[v0_, .int .i64 r2]) ∧ Kd.R (Kd.int .u8) 5 w' w.heap.size (fun _ => True) v0_ r1 ∧ Below w.heap.size w w' := by
 unfold lock_Rekey.f at h
 have HR := Aside0.mk hr0
 have HC0 := Aside0.mk hc0
 have HB := Aside0.mk (Below.refl w.heap.size w)
 by_cases d1 : l0.length < 128
 case' pos =>
  rw [if_pos (Or.inl d1)] at h
  obtain ⟨rfl, rfl⟩ := Prod.mk.inj (Option.some.inj h)
  have t1 : decide ((l0.length : Int) < 128) = true := decide_eq_true (by omega)
  clear h d1 hr0 hc0
 rotate_left
 have t1 : decide ((l0.length : Int) < 128) = false := decide_eq_false (by omega)
 by_cases d2 : 65536 < l0.length
 case' pos =>
  rw [if_pos (Or.inr d2)] at h
  obtain ⟨rfl, rfl⟩ := Prod.mk.inj (Option.some.inj h)
  have t2 : decide (65536 < (l0.length : Int)) = true := decide_eq_true (by omega)
  clear h d1 d2 hr0 hc0
 rotate_left
 have t2 : decide (65536 < (l0.length : Int)) = false := decide_eq_false (by omega)
 rw [if_neg (by omega)] at h
 obtain ⟨A12, hc12, hC12⟩ : ∃ AP, (∀ W : World, (Instr.slice 22 (.slice A0 l0.length c0) (some (.int .i64 12)) (some (.int .i64 16)) none).run Try.prog W = .ok (.slice AP 4 (c0 - 12)) W) ∧ ∀ W : World, Kd.C (Kd.int .u8) W A0 l0.length l0 → Kd.C (Kd.int .u8) W AP 4 ((l0.drop 12).take 4) := rk_cut (w := w) (A0 := A0) (c0 := c0) (off := 12) (C := 4) (b := l0) (by omega) hc0 rfl 16 (by decide)
 obtain ⟨A8, hc8, hC8⟩ : ∃ AP, (∀ W : World, (Instr.slice 22 (.slice A0 l0.length c0) (some (.int .i64 8)) (some (.int .i64 12)) none).run Try.prog W = .ok (.slice AP 4 (c0 - 8)) W) ∧ ∀ W : World, Kd.C (Kd.int .u8) W A0 l0.length l0 → Kd.C (Kd.int .u8) W AP 4 ((l0.drop 8).take 4) := rk_cut (w := w) (A0 := A0) (c0 := c0) (off := 8) (C := 4) (b := l0) (by omega) hc0 rfl 12 (by decide)
 obtain ⟨A4, hc4, hC4⟩ : ∃ AP, (∀ W : World, (Instr.slice 22 (.slice A0 l0.length c0) (some (.int .i64 4)) (some (.int .i64 8)) none).run Try.prog W = .ok (.slice AP 4 (c0 - 4)) W) ∧ ∀ W : World, Kd.C (Kd.int .u8) W A0 l0.length l0 → Kd.C (Kd.int .u8) W AP 4 ((l0.drop 4).take 4) := rk_cut (w := w) (A0 := A0) (c0 := c0) (off := 4) (C := 4) (b := l0) (by omega) hc0 rfl 8 (by decide)
 obtain ⟨i5, hi5, hy5⟩ := Option.map_eq_some_iff.1 info5
 simp only [Prod.mk.injEq] at hy5
 have hcz : ∀ W : World, (Instr.slice 22 (.slice A0 l0.length c0) none (some (.int .i64 4)) none).run Try.prog W = .ok (.slice A0 4 c0) W := cut_to (P := Try.prog) 22 5 .i64 Try.underlying22 hi5 A0 l0.length c0 4 (by decide) (by omega) hc0
 have HL12 := Aside0.mk (show ((l0.drop 12).take 4).length = 4 by rw [List.length_take, List.length_drop]; omega)
 have HL8 := Aside0.mk (show ((l0.drop 8).take 4).length = 4 by rw [List.length_take, List.length_drop]; omega)
 have HL4 := Aside0.mk (show ((l0.drop 4).take 4).length = 4 by rw [List.length_take, List.length_drop]; omega)
 have HD12 := Aside0.mk (show 4 ≤ c0 - 12 by omega)
 have HD8 := Aside0.mk (show 4 ≤ c0 - 8 by omega)
 have HD4 := Aside0.mk (show 4 ≤ c0 - 4 by omega)
 have HC12 := Aside0.mk hC12
 have HC8 := Aside0.mk hC8
 have HC4 := Aside0.mk hC4
 obtain ⟨s4, hs4⟩ : ∃ s, s = strOfNums (l0.take 4) := ⟨_, rfl⟩
 have hk4 : (l0.take 4).length = 4 := by rw [List.length_take]; omega
 have hcv : (convert 22 9 (.slice A0 4 c0)).run Try.prog w = .ok (.string s4) w := by
  have h4 : Kd.C (Kd.int .u8) w A0 (l0.take 4).length (l0.take 4) := Kd.C_take (m := 4) hr0 (by omega)
  have h5 := Kd.C_string (P := Try.prog) (c := c0) (xs := l0.take 4) Try.underlying22 Try.underlying5 Try.underlying9 h4
  rw [hk4, ← hs4] at h5
  exact h5
 rw [← hs4] at h
 have hlen : 128 ≤ l0.length ∧ l0.length ≤ 65536 := by omega
 have HLN := Aside0.mk hlen
 have hzz : (0 : Int) < (l0.length : Int) := by omega
 have hw128 : IntKind.i64.wrap ((l0.length : Int) - 128) = (l0.length : Int) - 128 := by rw [i64_w]; unfold wrap64; omega
 have hu128 : IntKind.u64.wrap ((l0.length : Int) - 128) = (l0.length : Int) - 128 := u64_small (by omega) (by omega)
 have h4n : (4 : Int) ≤ (l0.length : Int) := by omega
 clear hC12 hC8 hC4 hs4 hk4 hr0 hc0 hi5 hy5 d1 d2 hlen
 by_cases d3 : s4.toList = [108, 111, 99, 107]
 case' neg =>
  rw [if_neg d3] at h
  obtain ⟨rfl, rfl⟩ := Prod.mk.inj (Option.some.inj h)
  have t3 : decide (s4.toList = [108, 111, 99, 107]) = false := decide_eq_false d3
  clear h
 rotate_left
 rw [if_pos d3] at h
 obtain ⟨z, hz, h⟩ := Option.bind_eq_some_iff.1 h
 have HG12 := Aside0.mk hz
 clear hz
 by_cases d4 : z = 0
 case' neg =>
  rw [if_neg d4] at h
  obtain ⟨rfl, rfl⟩ := Prod.mk.inj (Option.some.inj h)
  have t4 : (z == 0) = false := by simpa using d4
  have t4b : (z != 0) = true := by simpa using d4
  clear h
 rotate_left
 rw [if_pos d4] at h
 subst d4
 obtain ⟨n, hz, h⟩ := Option.bind_eq_some_iff.1 h
 have HG8 := Aside0.mk hz
 clear hz
 by_cases d5 : n < 1
 case' pos =>
  rw [if_pos d5] at h
  obtain ⟨rfl, rfl⟩ := Prod.mk.inj (Option.some.inj h)
  have t5 : decide (n < 1) = true := decide_eq_true d5
  clear h d5
 rotate_left
 have t5 : decide (n < 1) = false := decide_eq_false d5
 rw [if_neg d5] at h
 by_cases d6 : 4 < n
 case' pos =>
  rw [if_pos d6] at h
  obtain ⟨rfl, rfl⟩ := Prod.mk.inj (Option.some.inj h)
  have t6 : decide (4 < n) = true := decide_eq_true d6
  clear h d5 d6
 rotate_left
 have t6 : decide (4 < n) = false := decide_eq_false d6
 rw [if_neg d6] at h
 have hn64 : IntKind.i64.wrap n = n := by rw [i64_w]; unfold wrap64; omega
 have hn64b : wrap64 n = n := by unfold wrap64; omega
 clear d5 d6
 obtain ⟨sz, hz, h⟩ := Option.bind_eq_some_iff.1 h
 have HG4 := Aside0.mk hz
 clear hz
 by_cases d7 : (l0.length : Int) - 128 < sz
 case' pos =>
  rw [if_pos d7] at h
  obtain ⟨rfl, rfl⟩ := Prod.mk.inj (Option.some.inj h)
  have t7 : decide ((l0.length : Int) - 128 < sz) = true := decide_eq_true d7
  clear h d7
 rotate_left
 have t7 : decide ((l0.length : Int) - 128 < sz) = false := decide_eq_false d7
 rw [if_neg d7] at h
 clear d7
 obtain ⟨o1, hz, h⟩ := Option.bind_eq_some_iff.1 h
 have HN1 := Aside0.mk hz
 clear hz
 by_cases d8 : o1 = true
 case' neg =>
  rw [if_neg d8] at h
  obtain ⟨rfl, rfl⟩ := Prod.mk.inj (Option.some.inj h)
  obtain rfl : o1 = false := by simpa using d8
  clear h d8
 rotate_left
 rw [if_pos d8] at h
 subst d8
 obtain ⟨o2, hz, h⟩ := Option.bind_eq_some_iff.1 h
 have HN2 := Aside0.mk hz
 clear hz
 by_cases d9 : o2 = true
 case' neg =>
  rw [if_neg d9] at h
  obtain ⟨rfl, rfl⟩ := Prod.mk.inj (Option.some.inj h)
  obtain rfl : o2 = false := by simpa using d9
  clear h d9
 rotate_left
 rw [if_pos d9] at h
 subst d9
 obtain ⟨⟨i, inner, ok1⟩, hz, h⟩ := Option.bind_eq_some_iff.1 h
 have HO1 := Aside0.mk hz
 clear hz
 simp only at h
 by_cases d10 : ok1 = true
 case' neg =>
  rw [if_neg d10] at h
  obtain ⟨rfl, rfl⟩ := Prod.mk.inj (Option.some.inj h)
  obtain rfl : ok1 = false := by simpa using d10
  clear h d10
 rotate_left
 rw [if_pos d10] at h
 subst d10
 obtain ⟨⟨i2, inn2, ok2⟩, hz, h⟩ := Option.bind_eq_some_iff.1 h
 have HO2 := Aside0.mk hz
 clear hz
 simp only at h
 by_cases d11 : ok2 = true
 case' pos =>
  rw [if_pos d11] at h
  obtain ⟨rfl, rfl⟩ := Prod.mk.inj (Option.some.inj h)
  subst d11
  clear h
 rotate_left
 rw [if_neg d11] at h
 obtain rfl : ok2 = false := by simpa using d11
 clear d11
 obtain ⟨salt, hz, h⟩ := Option.bind_eq_some_iff.1 h
 have HM := Aside0.mk hz
 clear hz
 obtain ⟨s, hz, h⟩ := Option.bind_eq_some_iff.1 h
 have HS := Aside0.mk hz
 clear hz
 by_cases hi : 0 ≤ i ∧ i < 4 ∧ s.length = 24
 case neg =>
  rw [if_neg hi] at h
  cases h
 rw [if_pos hi] at h
 obtain ⟨rfl, rfl⟩ := Prod.mk.inj (Option.some.inj h)
 obtain ⟨iN, rfl⟩ := Int.eq_ofNat_of_zero_le hi.1
 obtain ⟨o, ho⟩ : ∃ o, o = 16 + 24 * iN := ⟨_, rfl⟩
 have hlen := HLN.out
 have ho2 : o + 24 ≤ l0.length := by omega
 have hwm : IntKind.i64.wrap (24 * (iN : Int)) = 24 * (iN : Int) := by rw [i64_w]; unfold wrap64; omega
 have hwo : IntKind.i64.wrap (16 + 24 * (iN : Int)) = (o : Int) := by rw [i64_w]; unfold wrap64; omega
 have HSL := Aside0.mk hi.2.2
 have HOO := Aside0.mk ho2
 have HCL := Aside0.mk (show slices_Clone_byte.f l0 = some l0 by unfold slices_Clone_byte.f; rw [if_pos (by omega)])
 rw [Int.toNat_natCast, ← ho]
 clear h hi ho ho2 hlen
 ·
  go_enter Try.func25, Try.ntmps25
  go_wp2_with (first
   | (go_at_call 59; have hg_ := HG12.out; (with_reducible refine (rk_get k A12 (c0 - 12) 4 _ HL12.out _ _ (HC12.out _ (Kd.C_below HR.out HB.out)) HD12.out hg_).mono ?_); rintro e w1 ⟨rfl, hd⟩; replace HB := Aside0.mk (below_step HB.out hd.below); clear hd hg_ HG12 hcv)
   | (go_at_call 59; have hg_ := HG8.out; (with_reducible refine (rk_get k A8 (c0 - 8) 4 _ HL8.out _ _ (HC8.out _ (Kd.C_below HR.out HB.out)) HD8.out hg_).mono ?_); rintro e w2 ⟨rfl, hd⟩; replace HB := Aside0.mk (below_step HB.out hd.below); clear hd hg_ HG8)
   | (go_at_call 59; have hg_ := HG4.out; (with_reducible refine (rk_get k A4 (c0 - 4) 4 _ HL4.out _ _ (HC4.out _ (Kd.C_below HR.out HB.out)) HD4.out hg_).mono ?_); rintro e w3 ⟨rfl, hd⟩; replace HB := Aside0.mk (below_step HB.out hd.below); clear hd hg_ HG4)
   | (go_at_call 60; have hg_ := HN1.out; (with_reducible refine (lock_name.calls k a1 _ _ hg_).mono ?_); rintro e w4 ⟨rfl, hd⟩; replace HB := Aside0.mk (below_step HB.out hd); clear hd hg_ HN1)
   | (go_at_call 60; have hg_ := HN2.out; (with_reducible refine (lock_name.calls k a2 _ _ hg_).mono ?_); rintro e w5 ⟨rfl, hd⟩; replace HB := Aside0.mk (below_step HB.out hd); clear hd hg_ HN2)
   | (go_at_call 61; have hg_ := HO1.out; (with_reducible refine (lock_open.calls k A0 c0 l0 _ a1 _ _ _ _ (Kd.C_below HR.out HB.out) HC0.out hg_).mono ?_); rintro e w6 ⟨rfl, hb⟩; replace HB := Aside0.mk (below_step HB.out hb); clear hb hg_ HO1)
   | (go_at_call 61; have hg_ := HO2.out; (with_reducible refine (lock_open.calls k A0 c0 l0 _ a2 _ _ _ _ (Kd.C_below HR.out HB.out) HC0.out hg_).mono ?_); rintro e w7 ⟨rfl, hb⟩; replace HB := Aside0.mk (below_step HB.out hb); clear hb hg_ HO2)
   | (go_at_call 52; have hg_ := HCL.out; (with_reducible refine (slices_Clone_byte.calls A0 c0 l0 l0 _ (Kd.C_below HR.out HB.out) HC0.out HCL.out).mono ?_); rintro e w8 ⟨v8, rfl, hv8, hb8⟩; have hle := HB.out.size; replace HB := Aside0.mk (below_step HB.out hb8); have HV8 := Aside0.mk (Kd.R_lower hv8 hle); clear hv8 hb8 hg_ hle))
  obtain ⟨g8, c8, rfl, hg8⟩ := rk_own HV8.out (by omega)
  have hv9 := Kd.R_reads' HV8.out
  have hcutO := rk_sub (g := g8) (n := l0.length) (c := c8) (o := o) (by have := HOO.out; omega) hv9.2.1 (o : Int) rfl
  have HVD := Aside0.mk (Kd.R_below HV8.out (below_drew (Below.refl w8.heap.size w8)))
  have HBD := Aside0.mk (below_step HB.out (below_drew (Below.refl w8.heap.size w8)))
  clear hv9 HV8 HB
  refine start_ (n := 12) (S := fun w' => True) (ds := []) #[false,false,false,false,false,false,false,false,false,false,false,false] (by kernel_rfl) rfl rfl trivial (fun hHeld => ?_)
  generalize w8.drew = wD at HVD HBD hHeld ⊢
  refine pure_ (i := 0) (N := some 90) (v := ?_) (a' := ?_) #[true,false,false,false,false,false,false,false,false,false,false,false] rfl rfl (by kernel_rfl) (fun _ _ _ h => h) (Or.inl ⟨by rfl, ?_⟩) ?_ ?_
  rotate_left
  ·
   intro w'
   go_simp
   with_reducible rfl
  rotate_left
  ·
   simp only [Act.put, List.setIfInBounds_toArray, List.set_cons_zero, List.set_cons_succ, i64_w, i32_w]
   rfl
  refine pure_ (i := 1) (N := some 91) (v := ?_) (a' := ?_) #[true,true,false,false,false,false,false,false,false,false,false,false] rfl rfl (by kernel_rfl) (fun _ _ _ h => h) (Or.inl ⟨by rfl, ?_⟩) ?_ ?_
  rotate_left
  ·
   intro w'
   go_simp
   with_reducible rfl
  rotate_left
  ·
   simp only [Act.put, List.setIfInBounds_toArray, List.set_cons_zero, List.set_cons_succ, i64_w, i32_w]
   rfl
  refine pure_ (i := 2) (N := some 92) (v := ?_) (a' := ?_) #[true,true,true,false,false,false,false,false,false,false,false,false] rfl rfl (by kernel_rfl) (fun _ _ _ h => h) (Or.inl ⟨by rfl, ?_⟩) ?_ ?_
  rotate_left
  ·
   intro w'
   go_simp
   with_reducible rfl
  rotate_left
  ·
   simp only [Act.put, List.setIfInBounds_toArray, List.set_cons_zero, List.set_cons_succ, i64_w, i32_w]
   rfl
  refine pure_ (i := 3) (N := some 93) (v := ?_) (a' := ?_) #[true,true,true,true,false,false,false,false,false,false,false,false] rfl rfl (by kernel_rfl) (fun _ _ _ h => h) (Or.inl ⟨by rfl, ?_⟩) ?_ ?_
  rotate_left
  ·
   intro w'
   go_simp
   with_reducible rfl
  rotate_left
  ·
   simp only [Act.put, List.setIfInBounds_toArray, List.set_cons_zero, List.set_cons_succ, i64_w, i32_w]
   rfl
  refine pure_ (i := 4) (N := some 94) (v := ?_) (a' := ?_) #[true,true,true,true,true,false,false,false,false,false,false,false] rfl rfl (by kernel_rfl) (fun _ _ _ h => h) (Or.inl ⟨by rfl, ?_⟩) ?_ ?_
  rotate_left
  ·
   intro w'
   go_simp
   with_reducible rfl
  rotate_left
  ·
   simp only [Act.put, List.setIfInBounds_toArray, List.set_cons_zero, List.set_cons_succ, i64_w, i32_w]
   rfl
  refine pure_ (i := 5) (N := some 95) (v := ?_) (a' := ?_) #[true,true,true,true,true,true,false,false,false,false,false,false] rfl rfl (by kernel_rfl) (fun _ _ _ h => h) (Or.inl ⟨by rfl, ?_⟩) ?_ ?_
  rotate_left
  ·
   intro w'
   go_simp
   with_reducible rfl
  rotate_left
  ·
   simp only [Act.put, List.setIfInBounds_toArray, List.set_cons_zero, List.set_cons_succ, i64_w, i32_w]
   rfl
  refine pure_ (i := 6) (N := some 96) (v := ?_) (a' := ?_) #[true,true,true,true,true,true,true,false,false,false,false,false] rfl rfl (by kernel_rfl) (fun _ _ _ h => h) (Or.inl ⟨by rfl, ?_⟩) ?_ ?_
  rotate_left
  ·
   intro w'
   go_simp
   with_reducible rfl
  rotate_left
  ·
   simp only [Act.put, List.setIfInBounds_toArray, List.set_cons_zero, List.set_cons_succ, i64_w, i32_w]
   rfl
  refine pure_ (i := 8) (N := some 98) (v := ?_) (a' := ?_) #[true,true,true,true,true,true,true,false,true,false,false,false] rfl rfl (by kernel_rfl) (fun _ _ _ h => h) (Or.inl ⟨by rfl, ?_⟩) ?_ ?_
  rotate_left
  ·
   intro w'
   go_simp
   with_reducible rfl
  rotate_left
  ·
   simp only [Act.put, List.setIfInBounds_toArray, List.set_cons_zero, List.set_cons_succ, i64_w, i32_w]
   rfl
  refine pure_ (i := 9) (N := some 99) (v := ?_) (a' := ?_) #[true,true,true,true,true,true,true,false,true,true,false,false] rfl rfl (by kernel_rfl) (fun _ _ _ h => h) (Or.inl ⟨by rfl, ?_⟩) ?_ ?_
  rotate_left
  ·
   intro w'
   go_simp
   with_reducible rfl
  rotate_left
  ·
   simp only [Act.put, List.setIfInBounds_toArray, List.set_cons_zero, List.set_cons_succ, i64_w, i32_w]
   rfl
  refine one_ (i := 7) (N := some 97) #[true,true,true,true,true,true,true,true,true,true,false,false] rfl rfl (by kernel_rfl) (by decide) (fun K hK => ?_)
  refine goes_ Try.func63 (by kernel_rfl) rfl #[.int .u64 (IntKind.u64.wrap a3), .string (⟨#[110, 101, 119]⟩ : ByteArray)] (by rfl) rfl rfl (by simp only [List.map_toArray, List.map_cons, List.map_nil]; rfl) ?_
  with_reducible refine (lock_mixed.calls k (IntKind.u64.wrap a3) (⟨#[110, 101, 119]⟩ : ByteArray) salt _ HM.out).mono ?_
  rintro e w10 ⟨rfl, hb10⟩
  refine ⟨_, rfl, ?_⟩
  refine hK.out _ _ trivial (fun hHeld => ?_)
  clear hK K
  refine norm_ (a' := ?_) ?_ ?_
  rotate_left
  ·
   show Act.put _ (some 97) _ = _
   simp only [Act.put, List.setIfInBounds_toArray, List.set_cons_zero, List.set_cons_succ, i64_w, i32_w]
   rfl
  refine one_ (i := 10) (N := some 100) #[true,true,true,true,true,true,true,true,true,true,true,false] rfl rfl (by kernel_rfl) (by decide) (fun K hK => ?_)
  refine goes_ Try.func62 (by kernel_rfl) rfl #[.int .u64 salt, .int .u64 inner, .string a2] (by rfl) rfl rfl (by simp only [List.map_toArray, List.map_cons, List.map_nil]; rfl) ?_
  with_reducible refine (lock_slot.calls k salt inner a2 s _ HS.out).mono ?_
  rintro e w11 ⟨v11, rfl, hv11, hb11⟩
  obtain ⟨A11, c11, e11⟩ := Kd.R_slice hv11
  subst e11
  have hr11 := Kd.R_reads' hv11
  rw [HSL.out] at hr11 ⊢
  obtain ⟨w12, hcp, hV12, hgr⟩ := copy_run (P := Try.prog) 0 w.heap.size 22 22 3 5 Try.underlying22 rk_sz (lo := o) (k := l0.length - o) (c2 := c8 - o) (A := A11) (m := 24) (c := c11) (Kd.R_below HVD.out (below_step hb10 hb11)) hr11.2.2 (by have := HOO.out; omega) (by have := HOO.out; omega) (by decide)
  refine ⟨_, rfl, ?_⟩
  refine hK.out _ _ trivial (fun hHeld => ?_)
  clear hK K
  refine norm_ (a' := ?_) ?_ ?_
  rotate_left
  ·
   show Act.put _ (some 100) _ = _
   simp only [Act.put, List.setIfInBounds_toArray, List.set_cons_zero, List.set_cons_succ, i64_w, i32_w]
   rfl
  refine one_ (i := 11) (N := some 101) #[true,true,true,true,true,true,true,true,true,true,true,true] rfl rfl (by kernel_rfl) (by decide) (fun K hK => ?_)
  refine value_ (w1 := w12) (v := goInt ((24 : Nat) : Int)) (by rfl) rfl ?_ ?_
  · go_simp
  refine hK.out _ _ trivial (fun hHeld => ?_)
  clear hK K
  refine norm_ (a' := ?_) ?_ ?_
  rotate_left
  ·
   show Act.put _ (some 101) _ = _
   simp only [Act.put, List.setIfInBounds_toArray, List.set_cons_zero, List.set_cons_succ, i64_w, i32_w]
   rfl
  refine done_ (by kernel_rfl) ?_
  have HBE := Aside0.mk (Below.grown (below_step HBD.out (below_step hb10 hb11)) hgr (below_step HBD.out (below_step hb10 hb11)).size (fun k hk => by cases hk; exact hg8))
  have hfin := Kd.R_mono hV12 (fun _ _ => trivial)
  clear hb10 hb11 hHeld
  go_wp2
  refine bodyPost_ret (v := .tuple #[.slice (some ⟨g8, 0, none⟩) l0.length c8, .int .i64 0]) (by simp [results, Try.results25, go_sem]) rfl ?_
  exact ⟨_, rfl, hfin, HBE.out⟩
 all_goals
  go_enter Try.func25, Try.ntmps25
  go_wp2_with (first
   | (go_at_call 59; have hg_ := HG12.out; (with_reducible refine (rk_get k A12 (c0 - 12) 4 _ HL12.out _ _ (HC12.out _ (Kd.C_below HR.out HB.out)) HD12.out hg_).mono ?_); rintro e w1 ⟨rfl, hd⟩; replace HB := Aside0.mk (below_step HB.out hd.below); clear hd hg_ HG12 hcv)
   | (go_at_call 59; have hg_ := HG8.out; (with_reducible refine (rk_get k A8 (c0 - 8) 4 _ HL8.out _ _ (HC8.out _ (Kd.C_below HR.out HB.out)) HD8.out hg_).mono ?_); rintro e w2 ⟨rfl, hd⟩; replace HB := Aside0.mk (below_step HB.out hd.below); clear hd hg_ HG8)
   | (go_at_call 59; have hg_ := HG4.out; (with_reducible refine (rk_get k A4 (c0 - 4) 4 _ HL4.out _ _ (HC4.out _ (Kd.C_below HR.out HB.out)) HD4.out hg_).mono ?_); rintro e w3 ⟨rfl, hd⟩; replace HB := Aside0.mk (below_step HB.out hd.below); clear hd hg_ HG4)
   | (go_at_call 60; have hg_ := HN1.out; (with_reducible refine (lock_name.calls k a1 _ _ hg_).mono ?_); rintro e w4 ⟨rfl, hd⟩; replace HB := Aside0.mk (below_step HB.out hd); clear hd hg_ HN1)
   | (go_at_call 60; have hg_ := HN2.out; (with_reducible refine (lock_name.calls k a2 _ _ hg_).mono ?_); rintro e w5 ⟨rfl, hd⟩; replace HB := Aside0.mk (below_step HB.out hd); clear hd hg_ HN2)
   | (go_at_call 61; have hg_ := HO1.out; (with_reducible refine (lock_open.calls k A0 c0 l0 _ a1 _ _ _ _ (Kd.C_below HR.out HB.out) HC0.out hg_).mono ?_); rintro e w6 ⟨rfl, hb⟩; replace HB := Aside0.mk (below_step HB.out hb); clear hb hg_ HO1)
   | (go_at_call 61; have hg_ := HO2.out; (with_reducible refine (lock_open.calls k A0 c0 l0 _ a2 _ _ _ _ (Kd.C_below HR.out HB.out) HC0.out hg_).mono ?_); rintro e w7 ⟨rfl, hb⟩; replace HB := Aside0.mk (below_step HB.out hb); clear hb hg_ HO2)
   | (go_at_call 52; have hg_ := HCL.out; (with_reducible refine (slices_Clone_byte.calls A0 c0 l0 l0 _ (Kd.C_below HR.out HB.out) HC0.out HCL.out).mono ?_); rintro e w8 ⟨v8, rfl, hv8, hb8⟩; have hle := HB.out.size; replace HB := Aside0.mk (below_step HB.out hb8); have HV8 := Aside0.mk (Kd.R_lower hv8 hle); clear hv8 hb8 hg_ hle))
  refine bodyPost_ret (by simp [results, Try.results25, go_sem]; rfl) rfl ?_
  exact ⟨_, rfl, Kd.R_nil _ _ _ _ _, HB.out⟩
def stringslite_HasPrefix.f (a0 : ByteArray) (a1 : ByteArray) : Option (Bool) := if (a0.size : Int) ≥ (a1.size : Int) then (if 0 ≤ (a1.size : Int) then (if (a1.size : Int) ≤ (a0.size : Int) then (some ((a0.extract 0 ((a1.size : Int) : Int).toNat).toList == a1.toList)) else (none)) else (none)) else (some false)
set_option maxHeartbeats 8000000 in
set_option maxRecDepth 100000 in
theorem stringslite_HasPrefix.calls (a0 : ByteArray) (a1 : ByteArray) (r : Bool) (w : World) (h : stringslite_HasPrefix.f a0 a1 = some r) :
  Calls Try.prog 74 #[.string a0, .string a1] w fun e w' => e = .returned (.bool r) ∧ Drawn0 w w' := by
 have H : (if (a0.size : Int) ≥ (a1.size : Int) then (if 0 ≤ (a1.size : Int) then (if (a1.size : Int) ≤ (a0.size : Int) then (some ((a0.extract 0 ((a1.size : Int) : Int).toNat).toList == a1.toList)) else (none)) else (none)) else (some false)) = some r := h
 clear h
 by_cases c3 : (a0.size : Int) ≥ (a1.size : Int)
 ·
  rw [if_pos c3] at H
  have c3b0 : decide ((a1.size : Int) ≤ (a0.size : Int)) = true := decide_eq_true c3
  have c3b1 : decide (a1.size ≤ a0.size) = true := decide_eq_true (Int.ofNat_le.mp c3)
  clear c3
  by_cases c4 : 0 ≤ (a1.size : Int)
  ·
   rw [if_pos c4] at H
   have c4b0 := eq_true c4
   have c4b1 : decide (0 ≤ (a1.size : Int)) = true := decide_eq_true c4
   clear c4
   by_cases c5 : (a1.size : Int) ≤ (a0.size : Int)
   ·
    rw [if_pos c5] at H
    have c5b0 := eq_true c5
    have c5b1 : decide ((a1.size : Int) ≤ (a0.size : Int)) = true := decide_eq_true c5
    clear c5
    obtain rfl := Option.some.inj H
    go_enter Try.func74, Try.ntmps74
    go_wp2
    go_ret
    exact ⟨by first | rfl | (simp; done) | (simp [*]; done), by repeat (first | exact Drawn0.refl _ | apply Drawn0.step)⟩
   ·
    rw [if_neg c5] at H
    exact absurd H (by simp)
  ·
   rw [if_neg c4] at H
   exact absurd H (by simp)
 ·
  rw [if_neg c3] at H
  have c3b0 : decide ((a1.size : Int) ≤ (a0.size : Int)) = false := decide_eq_false c3
  have c3b1 : decide (a1.size ≤ a0.size) = false := decide_eq_false (fun h => c3 (Int.ofNat_le.mpr h))
  clear c3
  obtain rfl := Option.some.inj H
  go_enter Try.func74, Try.ntmps74
  go_wp2
  go_ret
  exact ⟨by first | rfl | (simp; done) | (simp [*]; done), by repeat (first | exact Drawn0.refl _ | apply Drawn0.step)⟩
def strings_HasPrefix.f (a0 : ByteArray) (a1 : ByteArray) : Option (Bool) := (stringslite_HasPrefix.f a0 a1).bind fun t147 => (some t147)
set_option maxHeartbeats 8000000 in
set_option maxRecDepth 100000 in
theorem strings_HasPrefix.calls (a0 : ByteArray) (a1 : ByteArray) (r : Bool) (w : World) (h : strings_HasPrefix.f a0 a1 = some r) :
  Calls Try.prog 43 #[.string a0, .string a1] w fun e w' => e = .returned (.bool r) ∧ Drawn0 w w' := by
 have H : ((stringslite_HasPrefix.f a0 a1).bind fun t147 => (some t147)) = some r := h
 clear h
 replace H := Option.bind_eq_some_iff.mp H
 obtain ⟨t147, A30, H⟩ := H
 replace H : (some t147) = some r := H
 have A3 := Aside0.mk A30
 clear A30
 obtain rfl := Option.some.inj H
 go_enter Try.func43, Try.ntmps43
 go_wp2_with (first | ((with_reducible refine gate_callee (f := 74) rfl ?_); refine goesL_ (some 7) rfl rfl Try.func74 (by kernel_rfl) rfl #[.string a0, .string a1] rfl (by (try simp only [List.map_toArray, List.map_cons, List.map_nil]); first | done | rfl | (simp only [List.length_drop, List.length_take]; rfl)) ?_; (with_reducible refine (stringslite_HasPrefix.calls a0 a1 t147 _ A3.out).mono ?_); rintro e w' ⟨rfl, ⟨nd, rfl⟩⟩; refine ⟨_, rfl, ?_⟩))
 go_ret
 exact ⟨by first | rfl | (simp; done) | (simp [*]; done), by repeat (first | exact Drawn0.refl _ | apply Drawn0.step)⟩
-- import Derived.Shelf.Strings.Repeat
section
open Go.Shelf Go.RowKit Go.Lib Go.Proofs
def repeatS_ren : Go.Shelf.Ren := ⟨fun | 105 => 53 | 212 => 79 | 99 => 43 | 165 => 80 | 166 => 81 | 170 => 82 | 169 => 83 | 263 => 96 | 264 => 97 | 206 => 74 | 240 => 98 | 241 => 99 | 276 => 104 | 277 => 105 | n => n, fun | 9 => 9 | 3 => 3 | 4 => 4 | 20 => 20 | 0 => 0 | 46 => 116 | 109 => 131 | 5 => 5 | 72 => 135 | 76 => 139 | 51 => 126 | 146 => 149 | 53 => 76 | 148 => 151 | 70 => 133 | 37 => 22 | 75 => 138 | 127 => 153 | 164 => 157 | 80 => 70 | n => n, fun | n => n⟩
theorem repeatS : Go.Proofs.Lays.n105 Try.prog repeatS_ren := {
 mixed := by kernel_rfl
 f99 := Try.func43.trans (congrArg some (by kernel_rfl))
 f105 := Try.func53.trans (congrArg some (by kernel_rfl))
 f165 := Try.func80.trans (congrArg some (by kernel_rfl))
 f166 := Try.func81.trans (congrArg some (by kernel_rfl))
 f169 := Try.func83.trans (congrArg some (by kernel_rfl))
 f170 := Try.func82.trans (congrArg some (by kernel_rfl))
 f206 := Try.func74.trans (congrArg some (by kernel_rfl))
 f212 := Try.func79.trans (congrArg some (by kernel_rfl))
 f240 := Try.func98.trans (congrArg some (by kernel_rfl))
 f241 := Try.func99.trans (congrArg some (by kernel_rfl))
 f263 := Try.func96.trans (congrArg some (by kernel_rfl))
 f264 := Try.func97.trans (congrArg some (by kernel_rfl))
 f276 := Try.func104.trans (congrArg some (by kernel_rfl))
 f277 := Try.func105.trans (congrArg some (by kernel_rfl))
 t0 := Try.underlying0
 a0 := Try.isAgg0
 z0 := Try.sizeOf0
 v0 := Try.zeroValue0
 t3 := Try.underlying3
 a3 := Try.isAgg3
 z3 := Try.sizeOf3
 v3 := Try.zeroValue3
 t4 := Try.underlying4
 a4 := Try.isAgg4
 z4 := Try.sizeOf4
 v4 := Try.zeroValue4
 t5 := Try.underlying5
 a5 := Try.isAgg5
 z5 := Try.sizeOf5
 v5 := Try.zeroValue5
 t9 := Try.underlying9
 a9 := Try.isAgg9
 z9 := Try.sizeOf9
 v9 := Try.zeroValue9
 t20 := Try.underlying20
 a20 := Try.isAgg20
 z20 := Try.sizeOf20
 v20 := Try.zeroValue20
 t37 := Try.underlying22
 a37 := Try.isAgg22
 z37 := Try.sizeOf22
 v37 := Try.zeroValue22
 t46 := Try.underlying116
 a46 := Try.isAgg116
 z46 := Try.sizeOf116
 v46 := Try.zeroValue116
 t51 := Try.underlying126
 a51 := Try.isAgg126
 z51 := Try.sizeOf126
 v51 := Try.zeroValue126
 t53 := Try.underlying76
 a53 := Try.isAgg76
 z53 := Try.sizeOf76
 v53 := Try.zeroValue76
 t70 := Try.underlying133
 a70 := Try.isAgg133
 z70 := Try.sizeOf133
 v70 := Try.zeroValue133
 t72 := Try.underlying135
 a72 := Try.isAgg135
 z72 := Try.sizeOf135
 v72 := Try.zeroValue135
 t75 := Try.underlying138
 a75 := Try.isAgg138
 z75 := Try.sizeOf138
 v75 := Try.zeroValue138
 t76 := Try.underlying139
 a76 := Try.isAgg139
 z76 := Try.sizeOf139
 v76 := Try.zeroValue139
 t109 := Try.underlying131
 a109 := Try.isAgg131
 z109 := Try.sizeOf131
 v109 := Try.zeroValue131
 t127 := Try.underlying153
 a127 := Try.isAgg153
 z127 := Try.sizeOf153
 v127 := Try.zeroValue153
 t146 := Try.underlying149
 a146 := Try.isAgg149
 z146 := Try.sizeOf149
 v146 := Try.zeroValue149
 t148 := Try.underlying151
 a148 := Try.isAgg151
 z148 := Try.sizeOf151
 v148 := Try.zeroValue151
 t164 := Try.underlying157
 a164 := Try.isAgg157
 z164 := Try.sizeOf157
 v164 := Try.zeroValue157 }
theorem repeatS_extra : Builder.Extra Try.prog repeatS_ren := {
 sizeBuilder := by kernel_rfl
 liesBuilder := by kernel_rfl
 t5 := Try.underlying5
 a5 := Try.isAgg5
 z5 := Try.sizeOf5
 v5 := Try.zeroValue5
 infoByte := by kernel_rfl
 cellsByte := by kernel_rfl
 sizeByte := by kernel_rfl
 neB5 := by decide }
end
/-- so many copies of a string, within what one allocation may take -/
def strings_Repeat.f (a0 : ByteArray) (a1 : Int) : Option (ByteArray) := if 0 ≤ a1 ∧ a1 ≤ 9223372036854775807 ∧ a0.size * a1.toNat ≤ 140737488355328 then some ⟨(Go.Lib.repeatL a0.data.toList a1.toNat).toArray⟩ else none
theorem strings_Repeat.calls (a0 : ByteArray) (a1 : Int) (r : ByteArray) (w : World) (h : strings_Repeat.f a0 a1 = some r) :
  Calls Try.prog 53 #[.string a0, .int .i64 a1] w fun e w' => e = .returned (.string r) ∧ Below w.heap.size w w' := by
 unfold strings_Repeat.f at h
 split at h
 ·
  rename_i hh
  obtain ⟨h0, h1, h2⟩ := hh
  obtain rfl := Option.some.inj h
  have e : (a1.toNat : Int) = a1 := Int.toNat_of_nonneg h0
  have z := Go.Proofs.Any.strings_Repeat (P := Try.prog) repeatS repeatS_extra a0 a1.toNat w (by omega) h2
  rw [e] at z
  exact z
 · cases h
def wrackref1_Filled.f (a0 : ByteArray) (a1 : Int) : Option (ByteArray) := (strings_Repeat.f (⟨#[0]⟩ : ByteArray) (mx 0 (wrap64 (a1 - (a0.size : Int))))).bind fun t148 => (if a0.size + t148.size ≤ 9223372036854775807 then (some (a0 ++ t148)) else (none))
set_option maxHeartbeats 8000000 in
set_option maxRecDepth 100000 in
theorem wrackref1_Filled.calls (a0 : ByteArray) (a1 : Int) (r : ByteArray) (w : World) (h : wrackref1_Filled.f a0 a1 = some r) :
  Calls Try.prog 44 #[.string a0, .int .i64 a1] w fun e w' => e = .returned (.string r) ∧ Below w.heap.size w w' := by
 have HB := Aside0.mk (Below.refl w.heap.size w)
 have H : ((strings_Repeat.f (⟨#[0]⟩ : ByteArray) (mx 0 (wrap64 (a1 - (a0.size : Int))))).bind fun t148 => (if a0.size + t148.size ≤ 9223372036854775807 then (some (a0 ++ t148)) else (none))) = some r := h
 clear h
 obtain ⟨ji3, hji3⟩ : ∃ j_ : Int, (mx 0 (wrap64 (a1 - (a0.size : Int)))) = j_ := ⟨_, rfl⟩
 replace H : ((strings_Repeat.f (⟨#[0]⟩ : ByteArray) (ji3)).bind fun t148 => (if a0.size + t148.size ≤ 9223372036854775807 then (some (a0 ++ t148)) else (none))) = some r := by first | (rw [hji3] at H; exact H) | (simp only [hji3] at H ⊢; exact H)
 (try (have hji3l : 0 ≤ ji3 := by (rw [← hji3]; unfold mx; (repeat' split) <;> omega)))
 (try (have hji3m : 0 ≤ ji3 := by omega))
 have hji3_ : (if 0 < (wrap64 (a1 - (a0.size : Int))) then (wrap64 (a1 - (a0.size : Int))) else 0) = ji3 := hji3
 replace H := Option.bind_eq_some_iff.mp H
 obtain ⟨t148, A40, H⟩ := H
 replace H : (if a0.size + t148.size ≤ 9223372036854775807 then (some (a0 ++ t148)) else (none)) = some r := H
 have A4 := Aside0.mk A40
 clear A40
 by_cases c5 : a0.size + t148.size ≤ 9223372036854775807
 ·
  rw [if_pos c5] at H
  have c5b0 := eq_true c5
  have c5b1 : decide (a0.size + t148.size ≤ 9223372036854775807) = true := decide_eq_true c5
  try have c5b2 : (9223372036854775807 < a0.size + t148.size) = False := eq_false (Nat.not_lt.2 c5)
  obtain rfl := Option.some.inj H
  go_enter Try.func44, Try.ntmps44
  go_wp2_with (first | ((with_reducible refine gate_callee (f := 53) rfl ?_); refine goesL_ (some 11) rfl rfl Try.func53 (by kernel_rfl) rfl #[.string (⟨#[0]⟩ : ByteArray), .int .i64 ji3] rfl (by (try simp only [List.map_toArray, List.map_cons, List.map_nil]); first | done | (simp only [hji3]; rfl) | rfl | (simp only [List.length_drop, List.length_take]; rfl)) ?_; (with_reducible refine (strings_Repeat.calls (⟨#[0]⟩ : ByteArray) ji3 t148 _ A4.out).mono ?_); rintro e w6 ⟨rfl, hb⟩; refine ⟨_, rfl, ?_⟩; have n0_ := Aside0.mk (below_step (by repeat (first | (with_reducible first | exact HB.out | apply below_alloc | apply pw_below_drewN | apply below_drew1) | exact HB.out)) hb); clear HB; have HB := n0_; clear n0_; (try clear hb); (try clear hb2); (try clear hk); (try clear hi)))
  go_ret
  exact ⟨by first | rfl | (simp [errW_none, errW_some] <;> rfl) | (simp only [← hji3]; first | rfl | (simp [errW_none, errW_some] <;> rfl)) | (simp [*, errW_none, errW_some] <;> rfl), by repeat (first | (with_reducible first | exact HB.out | apply below_alloc | apply pw_below_drewN | apply below_drew1) | exact HB.out)⟩
 ·
  rw [if_neg c5] at H
  exact absurd H (by simp)
def wrackref1_Number.l0 : Nat → ByteArray → Int → Int → Option (Int)
 | 0, _, _, _ => none
 | k + 1, x0, x3, x4 => if x4 ≥ 0 then (if 0 ≤ x4 then (if x4 < (x0.size : Int) then (wrackref1_Number.l0 k x0 (wrap64 ((wrap64 (x3 * 256)) + (wrap64 (bt x0 x4)))) (wrap64 (x4 - 1))) else (none)) else (none)) else (some x3)
def wrackref1_Number.f (k : Nat) (a0 : ByteArray) : Option (Int) := wrackref1_Number.l0 k a0 0 (wrap64 ((a0.size : Int) - 1))
theorem wrackref1_Number.mono_l : ∀ k, (∀ y0 y1 y2, LeO (wrackref1_Number.l0 k y0 y1 y2) (wrackref1_Number.l0 (k + 1) y0 y1 y2))
 | 0 => fun _ _ _ r h => by simp [wrackref1_Number.l0] at h
 | k + 1 => by
  have ih0 := wrackref1_Number.mono_l k
  ·
   intro y0 y1 y2
   unfold wrackref1_Number.l0
   repeat' first
   | (with_reducible exact ih0 _ _ _)
   | (with_reducible exact LeO.refl _)
   | (with_reducible exact LeO.none _)
   | (with_reducible refine LeO.ite ?_ ?_)
   | (with_reducible refine LeO.bind ?_ (fun _ => ?_))
   | exact ih0 _ _ _
   | exact LeO.none _
   | refine LeO.ite ?_ ?_
   | refine LeO.bind ?_ (fun _ => ?_)
theorem wrackref1_Number.mono : ∀ a0 k, LeO (wrackref1_Number.f k a0) (wrackref1_Number.f (k + 1) a0) := by
 intro a0 k
 have ih0 := wrackref1_Number.mono_l k
 unfold wrackref1_Number.f
 repeat' first
   | (with_reducible exact ih0 _ _ _)
   | (with_reducible exact LeO.refl _)
   | (with_reducible exact LeO.none _)
   | (with_reducible refine LeO.ite ?_ ?_)
   | (with_reducible refine LeO.bind ?_ (fun _ => ?_))
   | exact ih0 _ _ _
   | exact LeO.none _
   | refine LeO.ite ?_ ?_
   | refine LeO.bind ?_ (fun _ => ?_)
set_option maxHeartbeats 8000000 in
set_option maxRecDepth 100000 in
theorem wrackref1_Number.calls (k : Nat) (a0 : ByteArray) (r : Int) (w : World) (h : wrackref1_Number.f k a0 = some r) :
  Calls Try.prog 45 #[.string a0] w fun e w' => e = .returned (.int .i64 r) ∧ Drawn0 w w' := by
 have H : (wrackref1_Number.l0 k a0 0 (wrap64 ((a0.size : Int) - 1))) = some r := h
 clear h
 have H' := Aside0.mk H
 clear H
 go_enter Try.func45, Try.ntmps45
 go_wp2
 go_loopg [3, 4] k (fun kq v3 v4 w' => ∃ (x3_1 : Int) (x4_1 : Int), v3 = .int .i64 x3_1 ∧ v4 = .int .i64 x4_1 ∧ Aside0 (wrackref1_Number.l0 kq a0 x3_1 x4_1 = some r) ∧ Aside0 (kq ≤ k) ∧ Drawn0 w w')
 case atStart => exact ⟨(0), (wrap64 ((a0.size : Int) - 1)), (by first | rfl | (simp; done) | (simp [*]; done)), (by first | rfl | (simp; done) | (simp [*]; done)), H', ⟨Nat.le_refl _⟩, by repeat (first | exact Drawn0.refl _ | apply Drawn0.step)⟩
 case round =>
  clear H'
  obtain ⟨x3_1, x4_1, rfl, rfl, HA, HK1, ⟨m1, rfl⟩⟩ := hrel
  cases gk with
  | zero => exact absurd HA.out (by simp [wrackref1_Number.l0])
  | succ k1 =>
   have H := HA.out
   clear HA
   simp only [wrackref1_Number.l0] at H
   by_cases c2 : x4_1 ≥ 0
   ·
    rw [if_pos c2] at H
    have c2b0 : decide (0 ≤ x4_1) = true := decide_eq_true c2
    clear c2
    by_cases c3 : 0 ≤ x4_1
    ·
     rw [if_pos c3] at H
     have c3b0 : decide (0 ≤ x4_1) = true := decide_eq_true c3
     clear c3
     by_cases c4 : x4_1 < (a0.size : Int)
     ·
      rw [if_pos c4] at H
      have c4b0 : decide (x4_1 < (a0.size : Int)) = true := decide_eq_true c4
      clear c4
      have H' := Aside0.mk H
      clear H
      have p5 : 0 ≤ (x4_1 : Int) := of_decide_eq_true (by first | (with_reducible assumption) | assumption)
      have q5 : x4_1 < (a0.size : Int) := of_decide_eq_true (by first | (with_reducible assumption) | assumption)
      have hx5 := bt_at a0 x4_1
      replace p5 := eq_true p5
      replace q5 := eq_true q5
      go_wp2
      go_roundg k1
      case measure => have := HK1.out; omega
      case rel => exact ⟨(wrap64 ((wrap64 (x3_1 * 256)) + (wrap64 (bt a0 x4_1)))), (wrap64 (x4_1 - 1)), (by first | rfl | (simp; done) | (simp [*]; done)), (by first | rfl | (simp; done) | (simp [*]; done)), H', ⟨by have := HK1.out; omega⟩, by repeat (first | exact Drawn0.refl _ | apply Drawn0.step)⟩
     ·
      rw [if_neg c4] at H
      exact absurd H (by simp)
    ·
     rw [if_neg c3] at H
     exact absurd H (by simp)
   ·
    rw [if_neg c2] at H
    have c2b0 : decide (0 ≤ x4_1) = false := decide_eq_false c2
    clear c2
    obtain rfl := Option.some.inj H
    go_wp2
    go_ret
    exact ⟨by first | rfl | (simp; done) | (simp [*]; done), by repeat (first | exact Drawn0.refl _ | apply Drawn0.step)⟩
end Go.Proofs.Ytgkjkhhppmnajaa.QLockRekeys
