/- Sealed layers: rows made with a capacity; copies into the middle of a row. No condition. -/
import Derived.Test.YtagcaheopbmdiaaDoorYPureLockSealsLF
import Derived.Laws.MakeOwn
import Derived.Lib.LazyBuf
namespace Go.Proofs.YtagcaheopbmdiaaDoor.Lk
open Go Go.RowKit Go.Proofs.YtagcaheopbmdiaaDoor.QLockSeals Go.Proofs.YtagcaheopbmdiaaDoorW.PrintWords Go.Proofs.YtagcaheopbmdiaaDoorW.PrintLast Go.Proofs.YtagcaheopbmdiaaDoorW.PrintMore Go.Proofs.YtagcaheopbmdiaaDoor.SumPlain
set_option linter.unusedVariables false
set_option linter.unusedSimpArgs false
theorem madeCells_u8 (c : Nat) : (madeCells (Value.int .u8 0).cells (c * 1)).toList = List.replicate c (.int .u8 0) := by
 unfold madeCells
 apply List.ext_getElem
 · simp
 ·
  intro i h1 h2
  simp [Value.cells, Nat.mod_one]
theorem make_cap (W : World) (n c : Nat) (hn : n ≤ c) (hc : c ≤ 1000000) : ∃ w1, (Instr.makeSlice 22 (.int .i64 (n : Int)) (.int .i64 (c : Int))).run Tryd.prog W = .ok (.slice (some ⟨W.heap.size, 0, none⟩) n c) w1 ∧
  (Kd.int .u8).R 5 w1 W.heap.size (fun _ => True) (.slice (some ⟨W.heap.size, 0, none⟩) n c) (List.replicate n 0) ∧ Below W.heap.size W w1 := by
 obtain ⟨i5, hi5, hy5⟩ := Option.map_eq_some_iff.1 info5
 simp only [Prod.mk.injEq] at hy5
 obtain ⟨z1, z2, z3⟩ := hy5
 have hr := run_make (P := Tryd.prog) W 22 5 i5 (.int .u8 0) Tryd.underlying22 hi5 z1 .i64 .i64 (n : Int) (c : Int) (by omega) (by omega) (by rw [z3]; omega) (by omega)
 rw [z2, Int.toNat_natCast, Int.toNat_natCast] at hr
 refine ⟨_, hr, ?_, below_alloc (Below.refl _ _) _⟩
 refine Kd.R_of_own ?_ (fun _ _ => trivial)
 rw [List.length_replicate]
 refine ⟨by rw [encs_length, List.length_replicate, Nat.mul_one], .inr ⟨W.heap.size, c, madeCells (Value.int .u8 0).cells (c * 1), rfl, Nat.le_refl _, blk_new W _, hn, by simp [maxLen]; omega, by rw [size_madeCells], ?_⟩⟩
 rw [madeCells_u8, Nat.mul_one]
 simp [encs, List.take_replicate, Nat.min_eq_left hn]
theorem put_cells {W : World} {base : Nat} {ok : Nat → Prop} {g n cap lo : Nat} {xs ys : List Int} (HO : (Kd.int .u8).R 5 W base ok (.slice (some ⟨g, 0, none⟩) n cap) xs) (hk : lo + ys.length ≤ n) :
  (Kd.int .u8).R 5 (W.setCells g lo (encs (Value.int .u8) ys)) base ok (.slice (some ⟨g, 0, none⟩) n cap) (putAt xs lo ys) ∧ W.grownBy (W.setCells g lo (encs (Value.int .u8) ys)) (some g) ∧
   (∀ j, j < ys.length → (W.cell? ⟨g, lo + j, none⟩).isSome = true) ∧ (∀ j, j < ys.length → W.frozen? ⟨g, lo + j, none⟩ = false) := by
 obtain ⟨hn, _⟩ := Kd.R_reads' HO
 have hown := Kd.own_of_R HO
 rcases hown.2 with ⟨hv, _⟩ | ⟨g', cap', cur, hv, hb, hh, hnc, hcm, hcs, htake⟩
 · simp at hv
 simp only [Value.slice.injEq, Option.some.injEq, Addr.mk.injEq, and_true,true_and] at hv
 obtain ⟨hg, _, hcap⟩ := hv
 subst hg
 have hcs1 : cur.size = cap' := by omega
 have hkl : (encs (Value.int .u8) ys).length = ys.length := encs_length _
 obtain ⟨cur', h3, h4, h5⟩ := setCells_row (encs (Value.int .u8) ys) lo W cur hh (by rw [hkl]; omega)
 obtain ⟨s1, s2, s3, s4⟩ := setCells_same g (encs (Value.int .u8) ys) lo W
 have hln : (putAt xs lo ys).length = xs.length := putAt_len (by omega)
 refine ⟨?_, ⟨s1, s2, s3, by rw [s4]; exact Nat.le_refl _, fun i _ hi => setCells_far _ _ i (fun he => hi (by rw [he]))⟩, fun j hj => ?_, fun j _ => blk_frozen hh _⟩
 ·
  have hfin : (Kd.int .u8).R 5 (W.setCells g lo (encs (Value.int .u8) ys)) base ok (.slice (some ⟨g, 0, none⟩) (putAt xs lo ys).length cap) (putAt xs lo ys) := by
   refine Kd.R_of_own ?_ HO.1
   rw [hln]
   refine ⟨by rw [encs_length, hln, Nat.mul_one], .inr ⟨g, cap, cur', rfl, hb, h3, by omega, by omega, by omega, ?_⟩⟩
   have htk : cur.toList.take xs.length = encs (Value.int .u8) xs := by rw [← htake, Nat.mul_one]
   have hcur : cur.toList = encs (Value.int .u8) xs ++ cur.toList.drop xs.length := by rw [← htk, List.take_append_drop]
   rw [h5, hkl, Nat.mul_one, hcur]
   have he : (encs (Value.int .u8) xs).length = xs.length := encs_length _
   have t1 : (encs (Value.int .u8) xs ++ cur.toList.drop xs.length).take lo = (encs (Value.int .u8) xs).take lo := List.take_append_of_le_length (by rw [he]; omega)
   have t2 : (encs (Value.int .u8) xs ++ cur.toList.drop xs.length).drop (lo + ys.length) = (encs (Value.int .u8) xs).drop (lo + ys.length) ++ cur.toList.drop xs.length := List.drop_append_of_le_length (by rw [he]; omega)
   rw [t1, t2]
   unfold putAt
   rw [show encs (Value.int .u8) (xs.take lo ++ (ys ++ xs.drop (lo + ys.length))) = (encs (Value.int .u8) xs).take lo ++ encs (Value.int .u8) ys ++ (encs (Value.int .u8) xs).drop (lo + ys.length) by simp [encs, List.map_take, List.map_drop]]
   rw [← List.append_assoc, List.take_append_of_le_length (by simp only [List.length_append, List.length_take, List.length_drop, he, hkl]; omega)]
   rw [List.take_of_length_le (by simp only [List.length_append, List.length_take, List.length_drop, he, hkl]; omega)]
  rw [hln, ← hn] at hfin
  exact hfin
 ·
  rw [cell_of_row W g _ cur 5 (0, 0) hh]
  simp
  omega
theorem copy_str {W : World} {base : Nat} {ok : Nat → Prop} {g n cap lo k c2 : Nat} {xs : List Int} (s : ByteArray) (HO : (Kd.int .u8).R 5 W base ok (.slice (some ⟨g, 0, none⟩) n cap) xs) (hk : lo + k ≤ n) (hm : s.size ≤ k) :
  ∃ w1, (Builtin.copy_ #[22, 9] 3 #[.slice (some ⟨g, lo, none⟩) k c2, .string s]).run Tryd.prog W = .ok (goInt ((s.size : Nat) : Int)) w1 ∧ (Kd.int .u8).R 5 w1 base ok (.slice (some ⟨g, 0, none⟩) n cap) (putAt xs lo (bytesOf s)) ∧ W.grownBy w1 (some g) := by
 have hl := bytesOf_len s
 obtain ⟨h1, h2, h3, h4⟩ := put_cells (lo := lo) (ys := bytesOf s) HO (by omega)
 obtain ⟨i5, hi5, hy5⟩ := Option.map_eq_some_iff.1 info5
 simp only [Prod.mk.injEq] at hy5
 have hr := Go.run_copy_string (P := Tryd.prog) W 22 9 3 5 g lo k c2 s Tryd.underlying22 (fun w => by simp [sizeOf, typeInfo, hi5, hy5.2.1]) hm (fun j hj => h3 j (by omega)) (fun j hj => h4 j (by omega))
 have e : (s.data.toList.map fun x => Value.int .u8 (x.toNat : Int)) = encs (Value.int .u8) (bytesOf s) := by
  unfold encs bytesOf
  rw [List.map_map]
  rfl
 rw [e] at hr
 exact ⟨_, hr, h1, h2⟩
/-- the same, out of another row -/
theorem copy_row {W : World} {base : Nat} {ok : Nat → Prop} {g n cap lo k c2 m c : Nat} {xs ys : List Int} {A : Option Addr} (HO : (Kd.int .u8).R 5 W base ok (.slice (some ⟨g, 0, none⟩) n cap) xs) (HR : (Kd.int .u8).C W A m ys) (hk : lo + k ≤ n) (hm : m ≤ k) (hm0 : 0 < m) :
  ∃ w1, (Builtin.copy_ #[22, 22] 3 #[.slice (some ⟨g, lo, none⟩) k c2, .slice A m c]).run Tryd.prog W = .ok (goInt ((m : Nat) : Int)) w1 ∧ (Kd.int .u8).R 5 w1 base ok (.slice (some ⟨g, 0, none⟩) n cap) (putAt xs lo ys) ∧ W.grownBy w1 (some g) := by
 obtain ⟨w1, h1, h2, h3⟩ := copy_run (P := Tryd.prog) 0 base 22 22 3 5 Tryd.underlying22 rk_sz (lo := lo) (k := k) (c2 := c2) (c := c) HO HR hk hm hm0
 refine ⟨w1, h1, ?_, h3⟩
 have e : putAt xs lo ys = xs.take lo ++ (ys ++ xs.drop (lo + m)) := by unfold putAt; rw [HR.1]
 rw [e]
 exact h2
end Go.Proofs.YtagcaheopbmdiaaDoor.Lk
