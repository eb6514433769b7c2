/- Packed layers: the walk of the law. No condition. -/
import Derived.Test.YtgkjkhhppmnajaaZPurePackOpensO
import Derived.Test.YtgkjkhhppmnajaaZPurePackOpensQ
import Derived.Test.YtgkjkhhppmnajaaZPurePackOpensR
import Derived.Lib.Bytes
import Derived.Lib.Repeat
import Derived.Lib.EndianBits
namespace Go.Proofs.Ytgkjkhhppmnajaa.Pure
open Go.Proofs.Ytgkjkhhppmnajaa.SumPlain Go.Maps
open Go Go.RowKit Go.Proofs.Ytgkjkhhppmnajaa.QPackOpens Go.Proofs.YtgkjkhhppmnajaaW.PrintWords Go.Proofs.YtgkjkhhppmnajaaW.PrintLast Go.Proofs.YtgkjkhhppmnajaaW.PrintMore
set_option linter.unusedVariables false
set_option linter.unusedSimpArgs false
set_option maxHeartbeats 16000000 in
set_option maxRecDepth 100000 in
/-- no packed layer -/
theorem po_none (A0 : Option Addr) (c0 : Nat) (b : List Int) (A1 : Option Addr) (c1 : Nat) (bad : List S45) (off n : Int) (w : World) (hrb : Kd.C (Kd.int .u8) w A0 b.length b) (hcb : b.length ≤ c0) (hrl : Kd.C k45 w A1 bad.length bad) (hcl : bad.length ≤ c1) (hl : bad.length * 16 ≤ 140737488351232) (hb : Bytes b) (p : List Int) (hp : p = b.take (min b.length 65536)) (bd : List Bool) (hbd : bd = badOf p.length bad) (hnone : pkOpen p bd = none) :
  Calls Try.prog 3 #[.slice A0 b.length c0, .slice A1 bad.length c1, .int .i64 off, .int .i64 n] w fun e w' => e = .returned (.bool true) ∧ Below w.heap.size w w' := by
 have hpm : p.length ≤ 65536 := by rw [hp, List.length_take]; omega
 have HIMG := Aside0.mk (image_law A0 c0 b A1 c1 bad w hrb hcb hrl hcl hl p hp)
 have HPM := Aside0.mk hpm
 have HPB := Aside0.mk (show Bytes p by rw [hp]; exact b_tk hb _)
 have HCL := Aside0.mk (show (cutS bad p.length).length ≤ 8796093021952 by have := cut_few bad p.length hpm; omega)
 have HBD := Aside0.mk (show badOf p.length (cutS bad p.length) = bd by rw [hbd]; exact cut_bad bad p.length hpm)
 replace hnone := Aside0.mk hnone
 have hu29 := Try.underlying29
 have hu37 := Try.underlying37
 clear hrb hcb hrl hcl hl hb hp hpm hbd
 go_enter Try.func3, Try.ntmps3
 go_wp2_with (first
  | (go_at_call 7; refine HIMG.out.mono ?_; rintro e w1 ⟨g, B1, d1, B2, d2, V1, e1, V2, e2, rfl, hI, _, _, _, _, hb1⟩; have hS := img_src hI HPM.out HCL.out; rw [HBD.out] at hS; obtain ⟨M0, hM0⟩ : ∃ W, w1.alloc (.cells #[.slice none 0 0, .slice none 0 0, .slice none 0 0] 29) = W := ⟨_, rfl⟩; have My0 := blk_new w1 (.cells #[.slice none 0 0, .slice none 0 0, .slice none 0 0] 29); have Mb0 := below_alloc (Below.refl w1.heap.size w1) (.cells #[.slice none 0 0, .slice none 0 0, .slice none 0 0] 29); rw [hM0] at My0 Mb0; obtain ⟨M1, hM1⟩ : ∃ W, M0.setCell ⟨w1.heap.size, 0, none⟩ (.slice A0 p.length c0) = W := ⟨_, rfl⟩; have Mq0 : M0.cell? ⟨w1.heap.size, 0, none⟩ = some (.slice none 0 0) := (blk_cell My0 0).trans rfl; have Mk0 := blk_frozen My0 0; have My1 := blk_put My0 0 (.slice A0 p.length c0) rfl; have Mb1 := Mb0.setCell (Nat.le_refl w1.heap.size) (p := ⟨w1.heap.size, 0, none⟩) (.slice A0 p.length c0); rw [hM1] at My1 Mb1; obtain ⟨M2, hM2⟩ : ∃ W, M1.setCell ⟨w1.heap.size, 1, none⟩ (.slice V1 p.length e1) = W := ⟨_, rfl⟩; have Mq1 : M1.cell? ⟨w1.heap.size, 1, none⟩ = some (.slice none 0 0) := (blk_cell My1 1).trans rfl; have Mk1 := blk_frozen My1 1; have My2 := blk_put My1 1 (.slice V1 p.length e1) rfl; have Mb2 := Mb1.setCell (Nat.le_refl w1.heap.size) (p := ⟨w1.heap.size, 1, none⟩) (.slice V1 p.length e1); rw [hM2] at My2 Mb2; obtain ⟨M3, hM3⟩ : ∃ W, M2.setCell ⟨w1.heap.size, 2, none⟩ (.slice V2 p.length e2) = W := ⟨_, rfl⟩; have Mq2 : M2.cell? ⟨w1.heap.size, 2, none⟩ = some (.slice none 0 0) := (blk_cell My2 2).trans rfl; have Mk2 := blk_frozen My2 2; have My3 := blk_put My2 2 (.slice V2 p.length e2) rfl; have Mb3 := Mb2.setCell (Nat.le_refl w1.heap.size) (p := ⟨w1.heap.size, 2, none⟩) (.slice V2 p.length e2); rw [hM3] at My3 Mb3; clear My0 My1 My2 Mb0 Mb1 Mb2; replace My3 := Aside0.mk My3; have HS := Aside0.mk (hS.below Mb3); have HB1 := Aside0.mk (below_step hb1 Mb3); clear hI hb1 hS Mb3)
  | (go_at_call 8; refine (packs_calls _).mono ?_; rintro e w2 ⟨rfl, hb2⟩; have HS2 := Aside0.mk (HS.out.below hb2); have HB2 := Aside0.mk (below_step HB1.out hb2); clear hb2 HS HB1)
  | (go_at_call 9; refine (open_calls _ _ _ _ _ _ _ p (idx p.length) bd HS2.out HPB.out HPM.out).mono ?_; rintro e w3 ⟨_, h2_⟩; obtain ⟨rfl, hb3⟩ := h2_ hnone.out; have HS3 := Aside0.mk (HS2.out.below hb3); have HB3 := Aside0.mk (below_step HB2.out hb3); clear hb3 h2_ HS2 HB2)
  | (go_at_call 10; refine (packof_calls _ _ _ _ _ _ _ p (idx p.length) bd HS3.out HPB.out HPM.out).mono ?_; rintro e w4 ⟨_, h2_⟩; obtain ⟨rfl, hb4⟩ := h2_ hnone.out; obtain ⟨N0, hN0⟩ : ∃ W, w4.alloc (.cells #[.int .i64 0, .int .i64 0, .slice none 0 0] 37) = W := ⟨_, rfl⟩; have Ny0 := blk_new w4 (.cells #[.int .i64 0, .int .i64 0, .slice none 0 0] 37); have Nb0 := below_alloc (Below.refl w4.heap.size w4) (.cells #[.int .i64 0, .int .i64 0, .slice none 0 0] 37); rw [hN0] at Ny0 Nb0; obtain ⟨N1, hN1⟩ : ∃ W, N0.setCell ⟨w4.heap.size, 0, none⟩ (.int .i64 0) = W := ⟨_, rfl⟩; have Nq0 : N0.cell? ⟨w4.heap.size, 0, none⟩ = some (.int .i64 0) := (blk_cell Ny0 0).trans rfl; have Nk0 := blk_frozen Ny0 0; have Ny1 := blk_put Ny0 0 (.int .i64 0) rfl; have Nb1 := Nb0.setCell (Nat.le_refl w4.heap.size) (p := ⟨w4.heap.size, 0, none⟩) (.int .i64 0); rw [hN1] at Ny1 Nb1; obtain ⟨N2, hN2⟩ : ∃ W, N1.setCell ⟨w4.heap.size, 1, none⟩ (.int .i64 0) = W := ⟨_, rfl⟩; have Nq1 : N1.cell? ⟨w4.heap.size, 1, none⟩ = some (.int .i64 0) := (blk_cell Ny1 1).trans rfl; have Nk1 := blk_frozen Ny1 1; have Ny2 := blk_put Ny1 1 (.int .i64 0) rfl; have Nb2 := Nb1.setCell (Nat.le_refl w4.heap.size) (p := ⟨w4.heap.size, 1, none⟩) (.int .i64 0); rw [hN2] at Ny2 Nb2; obtain ⟨N3, hN3⟩ : ∃ W, N2.setCell ⟨w4.heap.size, 2, none⟩ (.slice none 0 0) = W := ⟨_, rfl⟩; have Nq2 : N2.cell? ⟨w4.heap.size, 2, none⟩ = some (.slice none 0 0) := (blk_cell Ny2 2).trans rfl; have Nk2 := blk_frozen Ny2 2; have Ny3 := blk_put Ny2 2 (.slice none 0 0) rfl; have Nb3 := Nb2.setCell (Nat.le_refl w4.heap.size) (p := ⟨w4.heap.size, 2, none⟩) (.slice none 0 0); rw [hN3] at Ny3 Nb3; clear Ny0 Ny1 Ny2 Nb0 Nb1 Nb2; replace Ny3 := Aside0.mk Ny3; have HB4 := Aside0.mk (below_step HB3.out (below_step hb4 Nb3)); clear hb4 h2_ HS3 HB3 Nb3))
 go_ret
 exact ⟨rfl, HB4.out⟩
end Go.Proofs.Ytgkjkhhppmnajaa.Pure
