/- Sealed layers: numbers and bytes written into the middle of a row. No condition. -/
import Derived.Test.YtagcaheopbmdiaaDoorYPureLockSealsLC
import Derived.Test.YtagcaheopbmdiaaDoorYQLockSealsx0
import Derived.Test.YtagcaheopbmdiaaDoorYQLockSealsx1
import Derived.Test.YtagcaheopbmdiaaDoorYQLockSealsx2
import Derived.Test.YtagcaheopbmdiaaDoorYQLockSealsx3
import Derived.Test.YtagcaheopbmdiaaDoorYQLockSealsx4
import Derived.Test.YtagcaheopbmdiaaDoorYQLockSealsx5
import Derived.Test.YtagcaheopbmdiaaDoorYQLockSealsx6
import Derived.Test.YtagcaheopbmdiaaDoorYQLockSealsx7
import Derived.Test.YtagcaheopbmdiaaDoorYQLockSealsx8
namespace Go.Proofs.YtagcaheopbmdiaaDoor.Lk
open Go Go.RowKit Go.Proofs.YtagcaheopbmdiaaDoor.QLockSeals Go.Proofs.YtagcaheopbmdiaaDoorW.PrintWords Go.Proofs.YtagcaheopbmdiaaDoorW.PrintLast Go.Proofs.YtagcaheopbmdiaaDoorW.PrintMore Go.Proofs.YtagcaheopbmdiaaDoor.SumPlain
set_option linter.unusedVariables false
set_option linter.unusedSimpArgs false
def putAt (xs : List Int) (lo : Nat) (ys : List Int) : List Int := xs.take lo ++ (ys ++ xs.drop (lo + ys.length))
theorem putAt_nil (xs : List Int) (lo : Nat) : putAt xs lo [] = xs := by unfold putAt; simp
theorem putAt_len {xs : List Int} {lo : Nat} {ys : List Int} (h : lo + ys.length ≤ xs.length) : (putAt xs lo ys).length = xs.length := by
 unfold putAt
 simp only [List.length_append, List.length_take, List.length_drop]
 omega
theorem putAt_snoc {xs : List Int} {lo : Nat} {ys : List Int} (h : lo + ys.length < xs.length) (v : Int) : (putAt xs lo ys).set (lo + ys.length) v = putAt xs lo (ys ++ [v]) := by
 unfold putAt
 have h1 : (xs.take lo).length = lo := by rw [List.length_take]; omega
 rw [List.set_append_right _ _ (by rw [h1]; omega), h1, List.set_append_right _ _ (by omega)]
 rw [show lo + ys.length - lo - ys.length = 0 by omega, List.drop_eq_getElem_cons h, List.set_cons_zero]
 simp only [List.length_append, List.length_cons, List.length_nil, List.append_assoc, List.cons_append, List.nil_append]
 rw [show lo + (ys.length + 1) = lo + ys.length + 1 by omega]
/-- a number in so many bytes, the lowest one first -/
def leB (v : Int) (m : Nat) : List Int := (List.range m).map fun i => (v / 2 ^ (8 * i)) % 256
theorem leB_len (v : Int) (m : Nat) : (leB v m).length = m := by unfold leB; simp
theorem leB_succ (v : Int) (m : Nat) : leB v (m + 1) = leB v m ++ [(v / 2 ^ (8 * m)) % 256] := by unfold leB; rw [List.range_succ, List.map_append]; rfl
set_option maxHeartbeats 2000000 in
set_option maxRecDepth 100000 in
/-- a number is written into the middle of a row -/
theorem put_at (g n cap lo m c2 : Nat) (xs : List Int) (a1 : Int) (ok : Nat → Prop) (w0 w : World)
  (hR : (Kd.int .u8).R 5 w w0.heap.size ok (.slice (some ⟨g, 0, none⟩) n cap) xs) (hB : Below w0.heap.size w0 w) (hk : lo + m ≤ n) (hm : m ≤ 8) (hn : n ≤ 1000000) :
  Calls Tryd.prog 10 #[.slice (some ⟨g, lo, none⟩) m c2, .int .i64 a1] w fun e w' => e = .returned (.tuple #[]) ∧ (Kd.int .u8).R 5 w' w0.heap.size ok (.slice (some ⟨g, 0, none⟩) n cap) (putAt xs lo (leB a1 m)) ∧ w.grownBy w' (some g) ∧ Below w0.heap.size w0 w' := by
 have hrl := (Kd.R_reads' hR).1
 have hgL : w0.heap.size ≤ g := Kd.R_base hR g rfl
 have HR := Aside0.mk hR
 have HB := Aside0.mk hB
 have HRL := Aside0.mk hrl
 have HK := Aside0.mk hk
 have HGR := Aside0.mk (World.grownBy.mk (w := w) (w' := w) (row := some g) rfl rfl rfl (Nat.le_refl _) (fun _ _ _ => rfl))
 clear hR hB hrl hk
 go_enter Tryd.func10, Tryd.ntmps10
 go_wp2
 go_loopw [7] (fun v8 wr => ∃ k : Nat, k ≤ m ∧ v8 = .int .i64 (k : Int) ∧ Aside0 ((Kd.int .u8).R 5 wr w0.heap.size ok (.slice (some ⟨g, 0, none⟩) n cap) (putAt xs lo (leB a1 k))) ∧ Aside0 (w.grownBy wr (some g)) ∧ Aside0 (Below w0.heap.size w0 wr)) (fun v8 _ => m - (intOf v8).toNat)
 case atStart => exact ⟨0, Nat.zero_le _, rfl, ⟨by rw [show leB a1 0 = [] from rfl, putAt_nil]; exact HR.out⟩, HGR, HB⟩
 case round =>
  clear HR HGR HB
  obtain ⟨k, hk', rfl, HR, HGR, HB⟩ := hrel
  by_cases hlt : k < m
  ·
   have hlti : (k : Int) < (m : Int) := by omega
   have hnx : IntKind.i64.wrap ((k : Int) + 1) = (k : Int) + 1 := by rw [i64_w]; unfold wrap64; omega
   obtain ⟨o8, ho8⟩ : ∃ o, o = 8 * k := ⟨_, rfl⟩
   have hw8 : IntKind.i64.wrap (8 * (k : Int)) = (o8 : Int) := by rw [i64_w]; unfold wrap64; omega
   have ho6 : o8 ≤ 56 := by omega
   obtain ⟨sv, hsv⟩ : ∃ v, v = a1 / 2 ^ o8 := ⟨_, rfl⟩
   have hs1 : a1 / 2 ^ min o8 64 = sv := by rw [Nat.min_eq_left (by omega), hsv]
   have hs2 : a1 / 2 ^ o8 = sv := hsv.symm
   have hs3 : shr .i64 a1 (o8 : Int) = sv := by unfold shr; rw [Int.toNat_natCast, show min o8 IntKind.i64.bits = o8 from Nat.min_eq_left (by show o8 ≤ 64; omega), hsv]
   obtain ⟨f0, f1⟩ := Kd.R_celln (enc := Value.int .u8) (h1 := fun _ => rfl) (0 : Int) HR.out ((lo + k : Nat) : Int) (by omega) (by have := HK.out; omega)
   rw [Int.toNat_natCast] at f0 f1
   generalize rdOf 0 (putAt xs lo (leB a1 k)) ((lo + k : Nat) : Int) = old at f0
   have hp := Kd.R_putg (enc := Value.int .u8) (h1 := fun _ => rfl) HR.out ((lo + k : Nat) : Int) (sv % 256)
   have hsn := putAt_snoc (xs := xs) (lo := lo) (ys := leB a1 k) (by rw [leB_len]; have := HRL.out; have := HK.out; omega) (sv % 256)
   rw [leB_len] at hsn
   have hl1 : leB a1 (k + 1) = leB a1 k ++ [sv % 256] := by rw [leB_succ, hsv, ho8]
   rw [Int.toNat_natCast, hsn, ← hl1] at hp
   have hb2 := HB.out.setCell (p := ⟨g, lo + k, none⟩) hgL (.int .u8 (sv % 256))
   have hg2 := HGR.out.trans hp.2
   replace hp := Aside0.mk hp
   replace hb2 := Aside0.mk hb2
   replace hg2 := Aside0.mk hg2
   clear hsn hl1 hsv ho8
   go_wp2
   go_roundw
   case rel => exact ⟨k + 1, by omega, by go_num, ⟨hp.out.1⟩, hg2, hb2⟩
   case measure => simp [intOf]; omega
  ·
   obtain rfl : k = m := by omega
   go_wp2
   go_end0
   exact ⟨rfl, HR.out, HGR.out, HB.out⟩
end Go.Proofs.YtagcaheopbmdiaaDoor.Lk
