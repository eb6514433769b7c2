/- Sealed layers: reading, for any source. No condition. -/
import Derived.Test.YtagcaheopbmdiaaGreatYPureLockOpensJ
namespace Go.Proofs.YtagcaheopbmdiaaGreat.Pure
open Go.Proofs.YtagcaheopbmdiaaGreat.SumPlain Go.Maps Go.Proofs.YtagcaheopbmdiaaGreat.Lk
open Go Go.RowKit Go.Proofs.YtagcaheopbmdiaaGreat.QLockOpens Go.Proofs.YtagcaheopbmdiaaGreatW.PrintWords Go.Proofs.YtagcaheopbmdiaaGreatW.PrintLast Go.Proofs.YtagcaheopbmdiaaGreatW.PrintMore
set_option linter.unusedVariables false
set_option linter.unusedSimpArgs false
set_option maxHeartbeats 4000000
theorem lk_road_out (w : World) (g T : Nat) (x : Value) (size : Nat) (inner : Int) (slot : Nat) (h : IsLk w g T x inner size slot) (hs : size ≤ 65536) (off n : Int) (hR : ¬ inR (size : Int) off n) : Calls Tryz.prog 113 #[.pointer (some ⟨g, 0, none⟩), .int .i64 off, .int .i64 n] w fun e w' => e = .returned (.slice none 0 0) ∧ Below w.heap.size w w' := by
 have hwr := lk_wrong w g T x size inner slot h hs off n
 rw [decide_eq_true hR] at hwr
 have HWR := Aside0.mk hwr
 clear h hs hR hwr
 go_enter Tryz.func113, Tryz.ntmps113
 go_wp2_with (first
  | (go_at_call 115; refine HWR.out.mono ?_; rintro e w1 ⟨rfl, hb1⟩; have HB1 := Aside0.mk hb1; clear hb1))
 go_ret
 exact ⟨rfl, HB1.out⟩
set_option maxHeartbeats 4000000 in
theorem lk_road_zero (w : World) (g T : Nat) (x : Value) (size : Nat) (inner : Int) (slot : Nat) (h : IsLk w g T x inner size slot) (hs : size ≤ 65536) (off : Int) (hR : inR (size : Int) off 0) : Calls Tryz.prog 113 #[.pointer (some ⟨g, 0, none⟩), .int .i64 off, .int .i64 0] w fun e w' => e = .returned (.slice none 0 0) ∧ Below w.heap.size w w' := by
 have hwr := lk_wrong w g T x size inner slot h hs off 0
 rw [decide_eq_false (fun h => h hR)] at hwr
 have HWR := Aside0.mk hwr
 clear h hs hR hwr
 go_enter Tryz.func113, Tryz.ntmps113
 go_wp2_with (first
  | (go_at_call 115; refine HWR.out.mono ?_; rintro e w1 ⟨rfl, hb1⟩; have HB1 := Aside0.mk hb1; clear hb1))
 go_ret
 exact ⟨rfl, HB1.out⟩
end Go.Proofs.YtagcaheopbmdiaaGreat.Pure
namespace Go.Proofs.YtagcaheopbmdiaaGreat.Pure
open Go.Proofs.YtagcaheopbmdiaaGreat.SumPlain Go.Maps Go.Proofs.YtagcaheopbmdiaaGreat.Lk
open Go Go.RowKit Go.Proofs.YtagcaheopbmdiaaGreat.QLockOpens Go.Proofs.YtagcaheopbmdiaaGreatW.PrintWords Go.Proofs.YtagcaheopbmdiaaGreatW.PrintLast Go.Proofs.YtagcaheopbmdiaaGreatW.PrintMore
set_option linter.unusedVariables false
set_option linter.unusedSimpArgs false
set_option maxHeartbeats 4000000
set_option maxRecDepth 100000
theorem q1ka : type_of% @Aside0.mk := @Aside0.mk
theorem lk_read_out (w : World) (g T : Nat) (x : Value) (size : Nat) (inner : Int) (slot : Nat) (h : IsLk w g T x inner size slot) (hs : size ≤ 65536) (off n : Int) (hR : ¬ inR (size : Int) off n) : Calls Tryz.prog 112 #[.pointer (some ⟨g, 0, none⟩), .int .i64 off, .int .i64 n] w fun e w' => e = .returned (.tuple #[.slice none 0 0, .int .i64 4]) ∧ Below w.heap.size w w' := by
 have hwr := lk_wrong w g T x size inner slot h hs off n
 rw [decide_eq_true hR] at hwr
 have HWR := q1ka hwr
 clear h hs hR hwr
 go_enter Tryz.func112, Tryz.ntmps112
 go_wp2_with (first
  | (go_at_call 115; refine HWR.out.mono ?_; rintro e w1 ⟨rfl, hb1⟩; have HB1 := q1ka hb1; clear hb1))
 refine bodyPost_ret (v := .tuple #[.slice none 0 0, .int .i64 4]) (by simp [results, Tryz.results112, go_sem]) rfl ?_
 exact ⟨rfl, HB1.out⟩
theorem lk_read_bad (w : World) (g T : Nat) (x : Value) (fR fO fS fP : Nat) (b fr : List Int) (bad : List Bool) (h : SrcIs w T x fR fO fS fP b fr bad) (hb : Bytes b) (hn : b.length ≤ 65536) (size : Nat) (inner : Int) (slot : Nat) (hI : IsLk w g T x inner size slot) (hin : U64 inner) (hs : size ≤ 65536) (o n : Nat) (hon : o + n ≤ size) (he : readErr b.length bad (128 + (o : Int)) (n : Int) ≠ 0) : Calls Tryz.prog 112 #[.pointer (some ⟨g, 0, none⟩), .int .i64 (o : Int), .int .i64 (n : Int)] w fun e w' => e = .returned (.tuple #[.slice none 0 0, .int .i64 (readErr b.length bad (128 + (o : Int)) (n : Int))]) ∧ Below w.heap.size w w' := by
 have hwr := lk_wrong w g T x size inner slot hI hs (o : Int) (n : Int)
 rw [decide_eq_false (fun h => h ⟨by omega, by omega, by omega⟩)] at hwr
 have HWR := q1ka hwr
 have HI := q1ka hI
 have hRr := h.mR.run
 have hRe := h.mR.ent
 have hRa := h.mR.ahead
 have hw1 : IntKind.i64.wrap (128 + (o : Int)) = 128 + (o : Int) := by rw [i64_w]; unfold wrap64; omega
 have hw2 : wrap64 (128 + (o : Int)) = 128 + (o : Int) := by unfold wrap64; omega
 have hread := fun W (hb : Below w.heap.size w W) => (h.ans W hb).read (128 + (o : Int)) (n : Int)
 obtain ⟨E1, hE1⟩ : ∃ E, E = readErr b.length bad (128 + (o : Int)) (n : Int) := ⟨_, rfl⟩
 rw [← hE1] at he ⊢
 simp only [← hE1] at hread
 have te1 : (E1 != 0) = true := bne_iff_ne.mpr he
 have te2 : ¬ (E1 = 0) := he
 have HREAD := q1ka hread
 clear h hb hn hI hs hwr hread he hE1 hon hin
 go_enter Tryz.func112, Tryz.ntmps112
 go_wp2_with (first
  | (go_at_call 115; refine HWR.out.mono ?_; rintro e w1 ⟨rfl, hb1⟩; have HB1 := q1ka hb1; have c0 : w1.cell? ⟨g, 0, none⟩ = some (.iface T x) := (blk_cell (HI.out.below hb1).blk 0).trans rfl; clear hb1))
 refine (HREAD.out _ HB1.out).mono ?_
 rintro e w2 ⟨v1, rfl, hv1, hb2⟩
 have HB2 := q1ka (below_step HB1.out hb2)
 clear hv1 hb2
 go_wp2
 refine bodyPost_ret (v := .tuple #[.slice none 0 0, .int .i64 E1]) (by simp [results, Tryz.results112, go_sem]) rfl ?_
 exact ⟨rfl, HB2.out⟩
theorem lk_read_ok (w : World) (g T : Nat) (x : Value) (fR fO fS fP : Nat) (b fr : List Int) (bad : List Bool) (h : SrcIs w T x fR fO fS fP b fr bad) (hb : Bytes b) (hn : b.length ≤ 65536) (size : Nat) (inner : Int) (slot : Nat) (hI : IsLk w g T x inner size slot) (hin : U64 inner) (hs : size ≤ 65536) (o n : Nat) (hon : o + n ≤ size) (he : readErr b.length bad (128 + (o : Int)) (n : Int) = 0) (hst : ∃ k, lock_stream.f k (readRow b bad (128 + (o : Int)) (n : Int)) inner (o : Int) = some (streamL inner o (readRow b bad (128 + (o : Int)) (n : Int)))) : Calls Tryz.prog 112 #[.pointer (some ⟨g, 0, none⟩), .int .i64 (o : Int), .int .i64 (n : Int)] w fun e w' => ∃ v0, e = .returned (.tuple #[v0, .int .i64 0]) ∧ (Kd.int .u8).R 5 w' w.heap.size (fun _ => True) v0 (streamL inner o (readRow b bad (128 + (o : Int)) (n : Int))) ∧ Below w.heap.size w w' := by
 have hwr := lk_wrong w g T x size inner slot hI hs (o : Int) (n : Int)
 rw [decide_eq_false (fun h => h ⟨by omega, by omega, by omega⟩)] at hwr
 have HWR := q1ka hwr
 have HI := q1ka hI
 have hRr := h.mR.run
 have hRe := h.mR.ent
 have hRa := h.mR.ahead
 have hw1 : IntKind.i64.wrap (128 + (o : Int)) = 128 + (o : Int) := by rw [i64_w]; unfold wrap64; omega
 have hw2 : wrap64 (128 + (o : Int)) = 128 + (o : Int) := by unfold wrap64; omega
 have hread := fun W (hb : Below w.heap.size w W) => (h.ans W hb).read (128 + (o : Int)) (n : Int)
 obtain ⟨X, hX⟩ : ∃ X, X = readRow b bad (128 + (o : Int)) (n : Int) := ⟨_, rfl⟩
 rw [← hX] at hst
 obtain ⟨kn, hkn⟩ := hst
 have HST := q1ka hkn
 simp only [he, ← hX] at hread
 rw [← hX]
 have HREAD := q1ka hread
 clear h hb hn hI hs hwr hread he hX hon hkn hin
 go_enter Tryz.func112, Tryz.ntmps112
 go_wp2_with (first
  | (go_at_call 115; refine HWR.out.mono ?_; rintro e w1 ⟨rfl, hb1⟩; have HB1 := q1ka hb1; have c0 : w1.cell? ⟨g, 0, none⟩ = some (.iface T x) := (blk_cell (HI.out.below hb1).blk 0).trans rfl; clear hb1))
 refine (HREAD.out _ HB1.out).mono ?_
 rintro e w2 ⟨v1, rfl, hv1, hb2⟩
 have HB2 := q1ka (below_step HB1.out hb2)
 have HR2 := q1ka (Kd.R_lower hv1 HB1.out.size)
 have c1 : w2.cell? ⟨g, 1, none⟩ = some (.int .u64 inner) := (blk_cell (HI.out.below HB2.out).blk 1).trans rfl
 clear hv1 hb2
 go_wp2_with (first
  | (go_at_call 43; have hg_ := HB2.out; clear hg_; refine (lock_stream.calls kn (fun _ => True) v1 _ inner (o : Int) _ w w2 HB2.out HR2.out HST.out).mono ?_; rintro e w3 ⟨rfl, hr3, hb3, _⟩; have HB3 := q1ka hb3; have HR3 := q1ka hr3; clear hb3 hr3))
 refine bodyPost_ret (v := .tuple #[v1, .int .i64 0]) (by simp [results, Tryz.results112, go_sem]) rfl ?_
 exact ⟨_, rfl, Kd.R_mono HR3.out (fun _ _ => trivial), HB3.out⟩
end Go.Proofs.YtagcaheopbmdiaaGreat.Pure
