/- Packed layers: ranges outside, and empty ones. No condition. -/
import Derived.Test.YtgkjkhhppmnajaaZPurePackOpensM
import Derived.Lib.Bytes
import Derived.Lib.Repeat
import Derived.Lib.EndianBits
namespace Go.Proofs.Ytgkjkhhppmnajaa.Pure
open Go.Proofs.Ytgkjkhhppmnajaa.SumPlain Go.Maps
open Go Go.RowKit Go.Proofs.Ytgkjkhhppmnajaa.QPackOpens Go.Proofs.YtgkjkhhppmnajaaW.PrintWords Go.Proofs.YtgkjkhhppmnajaaW.PrintLast Go.Proofs.YtgkjkhhppmnajaaW.PrintMore
set_option linter.unusedVariables false
set_option linter.unusedSimpArgs false
set_option maxHeartbeats 4000000 in
theorem lay_read_out (w : World) (g T : Nat) (x : Value) (size : Nat) (A : Option Addr) (c : Nat) (l : List S45) (h : IsLay w g T x size A c l) (hs : size ≤ 65536) (off n : Int) (hR : ¬ inR (size : Int) off n) : Calls Try.prog 147 #[.pointer (some ⟨g, 0, none⟩), .int .i64 off, .int .i64 n] w fun e w' => e = .returned (.tuple #[.slice none 0 0, .int .i64 4]) ∧ Below w.heap.size w w' := by
 have hwr := lay_wrong w g T x size A c l h hs off n
 rw [decide_eq_true hR] at hwr
 have HWR := Aside0.mk hwr
 clear h hs hR hwr
 go_enter Try.func147, Try.ntmps147
 go_wp2_with (first
  | (go_at_call 150; refine HWR.out.mono ?_; rintro e w1 ⟨rfl, hb1⟩; have HB1 := Aside0.mk hb1; clear hb1))
 refine bodyPost_ret (v := .tuple #[.slice none 0 0, .int .i64 4]) (by simp [results, Try.results147, go_sem]) rfl ?_
 exact ⟨rfl, HB1.out⟩
set_option maxHeartbeats 4000000 in
theorem lay_read_zero (w : World) (g T : Nat) (x : Value) (size : Nat) (A : Option Addr) (c : Nat) (l : List S45) (h : IsLay w g T x size A c l) (hs : size ≤ 65536) (off : Int) (hR : inR (size : Int) off 0) : Calls Try.prog 147 #[.pointer (some ⟨g, 0, none⟩), .int .i64 off, .int .i64 0] w fun e w' => e = .returned (.tuple #[.slice none 0 0, .int .i64 0]) ∧ Below w.heap.size w w' := by
 have hwr := lay_wrong w g T x size A c l h hs off 0
 rw [decide_eq_false (fun h => h hR)] at hwr
 have HWR := Aside0.mk hwr
 clear h hs hR hwr
 go_enter Try.func147, Try.ntmps147
 go_wp2_with (first
  | (go_at_call 150; refine HWR.out.mono ?_; rintro e w1 ⟨rfl, hb1⟩; have HB1 := Aside0.mk hb1; clear hb1))
 refine bodyPost_ret (v := .tuple #[.slice none 0 0, .int .i64 0]) (by simp [results, Try.results147, go_sem]) rfl ?_
 exact ⟨rfl, HB1.out⟩
set_option maxHeartbeats 4000000 in
theorem lay_road_out (w : World) (g T : Nat) (x : Value) (size : Nat) (A : Option Addr) (c : Nat) (l : List S45) (h : IsLay w g T x size A c l) (hs : size ≤ 65536) (off n : Int) (hR : ¬ inR (size : Int) off n) : Calls Try.prog 148 #[.pointer (some ⟨g, 0, none⟩), .int .i64 off, .int .i64 n] w fun e w' => e = .returned (.slice none 0 0) ∧ Below w.heap.size w w' := by
 have hwr := lay_wrong w g T x size A c l h hs off n
 rw [decide_eq_true hR] at hwr
 have HWR := Aside0.mk hwr
 clear h hs hR hwr
 go_enter Try.func148, Try.ntmps148
 go_wp2_with (first
  | (go_at_call 150; refine HWR.out.mono ?_; rintro e w1 ⟨rfl, hb1⟩; have HB1 := Aside0.mk hb1; clear hb1))
 go_ret
 exact ⟨rfl, HB1.out⟩
set_option maxHeartbeats 4000000 in
theorem lay_road_zero (w : World) (g T : Nat) (x : Value) (size : Nat) (A : Option Addr) (c : Nat) (l : List S45) (h : IsLay w g T x size A c l) (hs : size ≤ 65536) (off : Int) (hR : inR (size : Int) off 0) : Calls Try.prog 148 #[.pointer (some ⟨g, 0, none⟩), .int .i64 off, .int .i64 0] w fun e w' => e = .returned (.slice none 0 0) ∧ Below w.heap.size w w' := by
 have hwr := lay_wrong w g T x size A c l h hs off 0
 rw [decide_eq_false (fun h => h hR)] at hwr
 have HWR := Aside0.mk hwr
 clear h hs hR hwr
 go_enter Try.func148, Try.ntmps148
 go_wp2_with (first
  | (go_at_call 150; refine HWR.out.mono ?_; rintro e w1 ⟨rfl, hb1⟩; have HB1 := Aside0.mk hb1; clear hb1))
 go_ret
 exact ⟨rfl, HB1.out⟩
end Go.Proofs.Ytgkjkhhppmnajaa.Pure
