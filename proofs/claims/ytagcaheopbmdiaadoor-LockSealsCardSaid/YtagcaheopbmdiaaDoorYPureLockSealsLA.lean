/- Sealed layers: numbers, hashes and words as the program and the reference compute them. No condition. -/
import Derived.Test.YtagcaheopbmdiaaDoorYQLockSealsx0
import Derived.Test.YtagcaheopbmdiaaDoorYQLockSealsx1
import Derived.Test.YtagcaheopbmdiaaDoorYQLockSealsx2
import Derived.Test.YtagcaheopbmdiaaDoorYQLockSealsx3
import Derived.Test.YtagcaheopbmdiaaDoorYQLockSealsx4
import Derived.Test.YtagcaheopbmdiaaDoorYQLockSealsx5
import Derived.Test.YtagcaheopbmdiaaDoorYQLockSealsx6
import Derived.Test.YtagcaheopbmdiaaDoorYQLockSealsx7
import Derived.Test.YtagcaheopbmdiaaDoorYQLockSealsx8
import Derived.Test.YtagcaheopbmdiaaDoorYSumPlain
import Derived.Test.YtagcaheopbmdiaaDoorYSumTreePlain
import Derived.Lib.EndianBits
import Derived.Lib.Bytes
import Derived.Lib.Repeat
namespace Go.Proofs.YtagcaheopbmdiaaDoor.Lk
open Go Go.RowKit Go.Proofs.YtagcaheopbmdiaaDoor.QLockSeals Go.Proofs.YtagcaheopbmdiaaDoorW.PrintWords Go.Proofs.YtagcaheopbmdiaaDoorW.PrintLast Go.Proofs.YtagcaheopbmdiaaDoorW.PrintMore Go.Proofs.YtagcaheopbmdiaaDoor.SumPlain
set_option linter.unusedVariables false
set_option linter.unusedSimpArgs false
section
variable {P : Program} {ops : Array Oper} {rest : List Oper} {o : Oper} {a : Act} {Q : Exit → Act → World → Prop} {α : Type}
/-- copy onto the middle of a row of scalars of one's own -/
theorem copy_run {enc : α → Value} {h1 : ∀ x, (enc x).oneCell' = true} (d : α) {W : World} (base : Nat) (t t' ty e : TypeId)
  (ht : P.underlying t = some (.slice e)) (hinfo : (P.info? e).map (·.size) = some 1)
  {g n cap lo k c2 : Nat} {xs ys : List α} {A : Option Addr} {m c : Nat} {ok : Nat → Prop}
  (HO : (Kd.scalar enc h1).R e W base ok (.slice (some ⟨g, 0, none⟩) n cap) xs) (HR : (Kd.scalar enc h1).C W A m ys) (hk : lo + k ≤ n) (hm : m ≤ k) (hm0 : 0 < m) :
  ∃ w1, (Builtin.copy_ #[t, t'] ty #[.slice (some ⟨g, lo, none⟩) k c2, .slice A m c]).run P W = .ok (goInt ((m : Nat) : Int)) w1 ∧ (Kd.scalar enc h1).R e w1 base ok (.slice (some ⟨g, 0, none⟩) n cap) (xs.take lo ++ (ys ++ xs.drop (lo + m))) ∧ W.grownBy w1 (some g) := by
 have hR := Kd.reads_of_C (enc := enc) (d := d) (h1 := h1) HR
 have hym : ys.length = m := hR.1
 obtain ⟨hn, _⟩ := Kd.R_reads' HO
 have hown := Kd.own_of_R HO
 obtain ⟨ad, hA, hc⟩ := hR.2.2 hm0
 rcases hown.2 with ⟨hv, _⟩ | ⟨g', cap', cur, hv, hb, hh, hnc, hcm, hcs, htake⟩
 · simp at hv
 simp only [Value.slice.injEq, Option.some.injEq, Addr.mk.injEq, and_true,true_and] at hv
 obtain ⟨hg, _, hcap⟩ := hv
 subst hg
 have hcs1 : cur.size = cap' := by omega
 have hsrc : ∀ j u, (encs enc ys)[j]? = some u → W.cell? (ad.add j) = some u := by
  intro j u hu
  have hj : j < ys.length := by
   rcases Nat.lt_or_ge j ys.length with h | h
   · exact h
   ·
    rw [List.getElem?_eq_none (by rw [encs_length]; exact h)] at hu
    cases hu
  rw [encs_get (d := d) _ j hj] at hu
  rw [hc j (by omega), ← hu]
 have hkl : (encs enc ys).length = m := by rw [encs_length]; exact hym
 have hr := run_copy_cells (P := P) W t t' ty e g lo k c2 ad m c (encs enc ys) ht hinfo (by rw [hkl]; exact (Nat.min_eq_left hm).symm) hsrc
  (fun j hj => by rw [cell_of_row W g _ cur e (0, 0) hh]; simp; omega) (fun j _ => blk_frozen hh _) (by intro u hu; simp only [encs, List.mem_map] at hu; obtain ⟨q, _, rfl⟩ := hu; exact h1 q)
 obtain ⟨cur', h3, h4, h5⟩ := setCells_row (encs enc ys) lo W cur hh (by rw [hkl]; omega)
 obtain ⟨s1, s2, s3, s4⟩ := setCells_same g (encs enc ys) lo W
 have hln : (xs.take lo ++ (ys ++ xs.drop (lo + m))).length = xs.length := by
  simp only [List.length_append, List.length_take, List.length_drop]; omega
 refine ⟨_, by rw [hA, hr, hkl], ?_, ⟨s1, s2, s3, by rw [s4]; exact Nat.le_refl _, fun i _ hi => setCells_far _ _ i (fun he => hi (by rw [he]))⟩⟩
 refine Kd.R_of_own ?_ HO.1
 rw [hln, hn]
 refine ⟨by rw [encs_length, hln, Nat.mul_one], .inr ⟨g, cap, cur', rfl, hb, h3, by omega, by omega, by omega, ?_⟩⟩
 have htk : cur.toList.take xs.length = encs enc xs := by rw [← htake, Nat.mul_one]
 have hdr : cur.toList.drop xs.length = cur.toList.drop xs.length := rfl
 have hcur : cur.toList = encs enc xs ++ cur.toList.drop xs.length := by rw [← htk, List.take_append_drop]
 rw [h5, hkl, Nat.mul_one, hcur]
 have he : (encs enc xs).length = xs.length := encs_length _
 have t1 : (encs enc xs ++ cur.toList.drop xs.length).take lo = (encs enc xs).take lo := List.take_append_of_le_length (by rw [he]; omega)
 have t2 : (encs enc xs ++ cur.toList.drop xs.length).drop (lo + m) = (encs enc xs).drop (lo + m) ++ cur.toList.drop xs.length := List.drop_append_of_le_length (by rw [he]; omega)
 rw [t1, t2]
 rw [show encs enc (xs.take lo ++ (ys ++ xs.drop (lo + m))) = (encs enc xs).take lo ++ encs enc ys ++ (encs enc xs).drop (lo + m) by simp [encs, List.map_take, List.map_drop]]
 rw [← List.append_assoc, List.take_append_of_le_length (by simp only [List.length_append, List.length_take, List.length_drop, he, hkl]; omega)]
 rw [List.take_of_length_le (by simp only [List.length_append, List.length_take, List.length_drop, he, hkl]; omega)]
end
theorem rk_sz : (Tryd.prog.info? 5).map (·.size) = some 1 := by
 obtain ⟨i5, hi5, hy5⟩ := Option.map_eq_some_iff.1 info5
 simp only [Prod.mk.injEq] at hy5
 rw [hi5]
 simp [hy5.2.1]
theorem rk_own {w : World} {base : Nat} {ok : Nat → Prop} {v : Value} {xs : List Int} (h : (Kd.int .u8).R 5 w base ok v xs) (hx : 0 < xs.length) : ∃ g c, v = .slice (some ⟨g, 0, none⟩) xs.length c ∧ base ≤ g := by
 obtain ⟨A, c, rfl⟩ := Kd.R_slice h
 rcases (Kd.own_of_R h).2 with ⟨hv, hl⟩ | ⟨g, c, cur, hv, hb, _⟩
 ·
  have := (Kd.R_reads' h).1
  exfalso
  simp at hv
  omega
 · exact ⟨g, c, hv, hb⟩
theorem rk_sub {g n c o : Nat} (ho : o < n) (hc : n ≤ c) (j : Int) (hj : j = (o : Int)) : ∀ W : World, (Instr.slice 22 (.slice (some ⟨g, 0, none⟩) n c) (some (.int .i64 j)) none none).run Tryd.prog W = .ok (.slice (some ⟨g, o, none⟩) (n - o) (c - o)) W := fun W => by
 subst hj
 obtain ⟨i5, hi5, hy5⟩ := Option.map_eq_some_iff.1 info5
 simp only [Prod.mk.injEq] at hy5
 have h1 := cut_from (P := Tryd.prog) 22 5 .i64 Tryd.underlying22 hi5 1 hy5.2.1 (some ⟨g, 0, none⟩) n c (o : Int) (by omega) (by omega) W
 rw [Int.toNat_natCast, if_neg (by omega)] at h1
 rw [h1, Option.map_some, Nat.mul_one]
 simp [Addr.add]
 try (intro h; omega)
theorem kstr_add (xs ys : List Int) : strOfNums xs ++ strOfNums ys = strOfNums (xs ++ ys) := by
 unfold strOfNums
 apply ByteArray.ext
 simp
theorem kstr_at (xs : List Int) (h : Bytes xs) (i : Nat) (hi : i < xs.length) : bt (strOfNums xs) (i : Int) = rd xs (i : Int) := by
 have hs : i < (strOfNums xs).size := by rw [str_size]; exact hi
 have hb := h _ (List.getElem_mem hi)
 unfold bt rd
 rw [Int.toNat_natCast, dif_pos hs, List.getD_eq_getElem?_getD, List.getElem?_eq_getElem hi, Option.getD_some]
 have e : (strOfNums xs)[i]'hs = UInt8.ofNat xs[i].toNat := by
  rw [ByteArray.getElem_eq_getElem_data]
  simp [strOfNums]
 rw [e]
 simp
 omega
/-- the hash of a number and a word -/
def mixedP (n : Int) (s : ByteArray) : Int := hashOf (numList n.toNat ++ bytesOf s)
theorem mixedP_u64 (n : Int) (s : ByteArray) : U64 (mixedP n s) := hash_u64 _
theorem numList_len (n : Nat) : (numList n).length = 8 := rfl
theorem bytesOf_len (s : ByteArray) : (bytesOf s).length = s.size := by unfold bytesOf; simp
theorem bytesOf_str (xs : List Int) (h : Bytes xs) : bytesOf (strOfNums xs) = xs := by
 unfold bytesOf strOfNums
 simp only [List.map_map]
 conv => rhs; rw [← List.map_id xs]
 apply List.map_congr_left
 intro x hx
 have := h x hx
 simp only [Function.comp, id]
 rw [UInt8.toNat_ofNat']
 omega
theorem bytesOf_app (s t : ByteArray) : bytesOf (s ++ t) = bytesOf s ++ bytesOf t := by
 unfold bytesOf
 simp
theorem number_ev' (n : Int) (h : U64 n) : Ev (fun k => sum_Number.f k n) (numList n.toNat) := by
 obtain ⟨x, rfl⟩ := Int.eq_ofNat_of_zero_le h.1
 rw [Int.toNat_natCast]
 exact Ev.of (g := fun k => sum_Number.f k (x : Int)) (fun k => sum_Number.mono _ k) (number_ev x)
theorem eight_ev' (n : Int) (h : U64 n) : Ev (fun k => wrackref1_Eight.f k n) (strOfNums (numList n.toNat)) := by
 obtain ⟨x, rfl⟩ := Int.eq_ofNat_of_zero_le h.1
 rw [Int.toNat_natCast, ← digs_num]
 exact eight_ev x (by have := h.2; omega)
theorem mixed_ev (n : Int) (h : U64 n) (s : ByteArray) (hs : s.size ≤ 1000000) : Ev (fun k => lock_mixed.f k n s) (mixedP n s) := by
 unfold lock_mixed.f
 refine Ev.bind (number_ev' n h) ?_
 refine Ev.congr (fun k => if_pos (by rw [numList_len]; omega)) ?_
 exact Ev.bind (hash_ev _ (by rw [List.length_append, numList_len, bytesOf_len]; omega)) (Ev.now _)
theorem keyed_ev (n : Int) (h : U64 n) (s : ByteArray) (hs : s.size ≤ 1000000) : Ev (fun k => wrackref1_keyed.f k n s) (mixedP n s) := by
 unfold wrackref1_keyed.f
 refine Ev.bind (eight_ev' n h) ?_
 refine Ev.congr (fun k => if_pos (by rw [str_size, numList_len]; omega)) ?_
 refine Ev.congr (fun k => if_pos (by rw [ByteArray.size_append, str_size, numList_len]; omega)) ?_
 rw [bytesOf_app, bytesOf_str _ (numList_bytes _)]
 exact Ev.bind (mix_ev _ (by rw [List.length_append, numList_len, bytesOf_len]; omega)) (Ev.now _)
theorem ktake_rd (l : List Int) (i : Nat) (h : i < l.length) : l.take (i + 1) = l.take i ++ [rd l (i : Int)] := by
 rw [List.take_add_one]
 simp [rd, List.getD_eq_getElem?_getD, h]
theorem kdrop_rd (l : List Int) (i : Nat) (h : i < l.length) : l.drop i = rd l (i : Int) :: l.drop (i + 1) := by
 rw [List.drop_eq_getElem_cons h]
 simp [rd, List.getD_eq_getElem?_getD, h]
end Go.Proofs.YtagcaheopbmdiaaDoor.Lk
