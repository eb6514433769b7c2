/- Packed layers: the walk of the law, ranges outside and empty. No condition. -/
import Derived.Test.YtgkjkhhppmnajaaZPurePackOpensO
import Derived.Test.YtgkjkhhppmnajaaZPurePackOpensQ
import Derived.Test.YtgkjkhhppmnajaaZPurePackOpensR
import Derived.Lib.Bytes
import Derived.Lib.Repeat
import Derived.Lib.EndianBits
namespace Go.Proofs.Ytgkjkhhppmnajaa.Pure
open Go.Proofs.Ytgkjkhhppmnajaa.SumPlain Go.Maps
open Go Go.RowKit Go.Proofs.Ytgkjkhhppmnajaa.QPackOpens Go.Proofs.YtgkjkhhppmnajaaW.PrintWords Go.Proofs.YtgkjkhhppmnajaaW.PrintLast Go.Proofs.YtgkjkhhppmnajaaW.PrintMore
set_option linter.unusedVariables false
set_option linter.unusedSimpArgs false
theorem q1dI : type_of% @List.setIfInBounds_toArray := @List.setIfInBounds_toArray
theorem q1d0 : type_of% @List.set_cons_zero := @List.set_cons_zero
theorem q1d1 : type_of% @List.set_cons_succ := @List.set_cons_succ
theorem q1df : type_of% @decide_eq_false := @decide_eq_false
theorem q1dS : type_of% @below_step := @below_step
theorem q1da : type_of% @Aside0.mk := @Aside0.mk
theorem q1dc : type_of% @blk_cell := @blk_cell
set_option maxHeartbeats 16000000 in
set_option maxRecDepth 100000 in
/-- ranges outside a packed layer -/
theorem po_out (A0 : Option Addr) (c0 : Nat) (b : List Int) (A1 : Option Addr) (c1 : Nat) (bad : List S45) (off n : Int) (w : World) (hrb : Kd.C (Kd.int .u8) w A0 b.length b) (hcb : b.length ≤ c0) (hrl : Kd.C k45 w A1 bad.length bad) (hcl : bad.length ≤ c1) (hl : bad.length * 16 ≤ 140737488351232) (hb : Bytes b) (p : List Int) (hp : p = b.take (min b.length 65536)) (bd : List Bool) (hbd : bd = badOf p.length bad) (size : Nat) (l : List S45) (hsome : pkOpen p bd = some (size, l)) (hs : size ≤ 65536) (hR : ¬ inR (size : Int) off n) :
  Calls Try.prog 3 #[.slice A0 b.length c0, .slice A1 bad.length c1, .int .i64 off, .int .i64 n] w fun e w' => e = .returned (.bool true) ∧ Below w.heap.size w w' := by
 have hpm : p.length ≤ 65536 := by rw [hp, List.length_take]; omega
 have HIMG := q1da (image_law A0 c0 b A1 c1 bad w hrb hcb hrl hcl hl p hp)
 have HPM := q1da hpm
 have HPB := q1da (show Bytes p by rw [hp]; exact b_tk hb _)
 have HCL := q1da (show (cutS bad p.length).length ≤ 8796093021952 by have := cut_few bad p.length hpm; omega)
 have HBD := q1da (show badOf p.length (cutS bad p.length) = bd by rw [hbd]; exact cut_bad bad p.length hpm)
 replace hsome := q1da hsome
 have hsz := q1da hs
 have hu29 := Try.underlying29
 have hu37 := Try.underlying37
 clear hrb hcb hrl hcl hl hb hp hpm hbd
 have HNR := q1da hR
 unfold inR at hR
 have h4 : decide (off < 0) = true ∨ (decide (off < 0) = false ∧ decide (n < 0) = true) ∨ (decide (off < 0) = false ∧ decide (n < 0) = false ∧ decide ((size : Int) < off) = true) ∨ (decide (off < 0) = false ∧ decide (n < 0) = false ∧ decide ((size : Int) < off) = false ∧ IntKind.i64.wrap ((size : Int) - off) = (size : Int) - off ∧ decide ((size : Int) - off < n) = true) := by
  by_cases d0 : off < 0
  · exact Or.inl (decide_eq_true d0)
  ·
   by_cases d1 : n < 0
   · exact Or.inr (Or.inl ⟨q1df d0, decide_eq_true d1⟩)
   ·
    by_cases d2 : (size : Int) < off
    · exact Or.inr (Or.inr (Or.inl ⟨q1df d0, q1df d1, decide_eq_true d2⟩))
    · exact Or.inr (Or.inr (Or.inr ⟨q1df d0, q1df d1, q1df d2, by rw [i64_w]; unfold wrap64; omega, decide_eq_true (by omega)⟩))
 clear hR hs
 rcases h4 with t0 | ⟨t0, t1⟩ | ⟨t0, t1, t2⟩ | ⟨t0, t1, t2, hws, t3⟩
 all_goals
  go_enter Try.func3, Try.ntmps3
  go_wp2_with (first
   | (go_at_call 7; refine HIMG.out.mono ?_; rintro e w1 ⟨g, B1, d1, B2, d2, V1, e1, V2, e2, rfl, hI, _, _, _, _, hb1⟩; have hS := img_src hI HPM.out HCL.out; rw [HBD.out] at hS; obtain ⟨M0, hM0⟩ : ∃ W, w1.alloc (.cells #[.slice none 0 0, .slice none 0 0, .slice none 0 0] 29) = W := ⟨_, rfl⟩; have My0 := blk_new w1 (.cells #[.slice none 0 0, .slice none 0 0, .slice none 0 0] 29); have Mb0 := below_alloc (Below.refl w1.heap.size w1) (.cells #[.slice none 0 0, .slice none 0 0, .slice none 0 0] 29); rw [hM0] at My0 Mb0; obtain ⟨M1, hM1⟩ : ∃ W, M0.setCell ⟨w1.heap.size, 0, none⟩ (.slice A0 p.length c0) = W := ⟨_, rfl⟩; have Mq0 : M0.cell? ⟨w1.heap.size, 0, none⟩ = some (.slice none 0 0) := (q1dc My0 0).trans rfl; have Mk0 := blk_frozen My0 0; have My1 := blk_put My0 0 (.slice A0 p.length c0) rfl; have Mb1 := Mb0.setCell (Nat.le_refl w1.heap.size) (p := ⟨w1.heap.size, 0, none⟩) (.slice A0 p.length c0); rw [hM1] at My1 Mb1; obtain ⟨M2, hM2⟩ : ∃ W, M1.setCell ⟨w1.heap.size, 1, none⟩ (.slice V1 p.length e1) = W := ⟨_, rfl⟩; have Mq1 : M1.cell? ⟨w1.heap.size, 1, none⟩ = some (.slice none 0 0) := (q1dc My1 1).trans rfl; have Mk1 := blk_frozen My1 1; have My2 := blk_put My1 1 (.slice V1 p.length e1) rfl; have Mb2 := Mb1.setCell (Nat.le_refl w1.heap.size) (p := ⟨w1.heap.size, 1, none⟩) (.slice V1 p.length e1); rw [hM2] at My2 Mb2; obtain ⟨M3, hM3⟩ : ∃ W, M2.setCell ⟨w1.heap.size, 2, none⟩ (.slice V2 p.length e2) = W := ⟨_, rfl⟩; have Mq2 : M2.cell? ⟨w1.heap.size, 2, none⟩ = some (.slice none 0 0) := (q1dc My2 2).trans rfl; have Mk2 := blk_frozen My2 2; have My3 := blk_put My2 2 (.slice V2 p.length e2) rfl; have Mb3 := Mb2.setCell (Nat.le_refl w1.heap.size) (p := ⟨w1.heap.size, 2, none⟩) (.slice V2 p.length e2); rw [hM3] at My3 Mb3; clear My0 My1 My2 Mb0 Mb1 Mb2; replace My3 := q1da My3; have HS := q1da (hS.below Mb3); have HB1 := q1da (q1dS hb1 Mb3); clear hI hb1 hS Mb3)
   | (go_at_call 8; refine (packs_calls _).mono ?_; rintro e w2 ⟨rfl, hb2⟩; have HS2 := q1da (HS.out.below hb2); have HB2 := q1da (q1dS HB1.out hb2); clear hb2 HS HB1)
   | (go_at_call 9; refine (open_calls _ _ _ _ _ _ _ p (idx p.length) bd HS2.out HPB.out HPM.out).mono ?_; rintro e w3 ⟨h1_, _⟩; obtain ⟨g3, A3, c3, rfl, hL, hb3⟩ := h1_ _ _ hsome.out; have HS3 := q1da (HS2.out.below hb3); have HL3 := q1da hL; have HB3 := q1da (q1dS HB2.out hb3); clear hb3 hL h1_ HS2 HB2)
   | (go_at_call 10; refine (packof_calls _ _ _ _ _ _ _ p (idx p.length) bd HS3.out HPB.out HPM.out).mono ?_; rintro e w4 ⟨h1_, _⟩; obtain ⟨A4, c4, rfl, hC4, hc4, hb4⟩ := h1_ _ _ hsome.out; obtain ⟨N0, hN0⟩ : ∃ W, w4.alloc (.cells #[.int .i64 0, .int .i64 0, .slice none 0 0] 37) = W := ⟨_, rfl⟩; have Ny0 := blk_new w4 (.cells #[.int .i64 0, .int .i64 0, .slice none 0 0] 37); have Nb0 := below_alloc (Below.refl w4.heap.size w4) (.cells #[.int .i64 0, .int .i64 0, .slice none 0 0] 37); rw [hN0] at Ny0 Nb0; obtain ⟨N1, hN1⟩ : ∃ W, N0.setCell ⟨w4.heap.size, 0, none⟩ (.int .i64 (size : Int)) = W := ⟨_, rfl⟩; have Nq0 : N0.cell? ⟨w4.heap.size, 0, none⟩ = some (.int .i64 0) := (q1dc Ny0 0).trans rfl; have Nk0 := blk_frozen Ny0 0; have Ny1 := blk_put Ny0 0 (.int .i64 (size : Int)) rfl; have Nb1 := Nb0.setCell (Nat.le_refl w4.heap.size) (p := ⟨w4.heap.size, 0, none⟩) (.int .i64 (size : Int)); rw [hN1] at Ny1 Nb1; obtain ⟨N2, hN2⟩ : ∃ W, N1.setCell ⟨w4.heap.size, 1, none⟩ (.int .i64 (16 + 2 * (l.length : Int))) = W := ⟨_, rfl⟩; have Nq1 : N1.cell? ⟨w4.heap.size, 1, none⟩ = some (.int .i64 0) := (q1dc Ny1 1).trans rfl; have Nk1 := blk_frozen Ny1 1; have Ny2 := blk_put Ny1 1 (.int .i64 (16 + 2 * (l.length : Int))) rfl; have Nb2 := Nb1.setCell (Nat.le_refl w4.heap.size) (p := ⟨w4.heap.size, 1, none⟩) (.int .i64 (16 + 2 * (l.length : Int))); rw [hN2] at Ny2 Nb2; obtain ⟨N3, hN3⟩ : ∃ W, N2.setCell ⟨w4.heap.size, 2, none⟩ (.slice A4 l.length c4) = W := ⟨_, rfl⟩; have Nq2 : N2.cell? ⟨w4.heap.size, 2, none⟩ = some (.slice none 0 0) := (q1dc Ny2 2).trans rfl; have Nk2 := blk_frozen Ny2 2; have Ny3 := blk_put Ny2 2 (.slice A4 l.length c4) rfl; have Nb3 := Nb2.setCell (Nat.le_refl w4.heap.size) (p := ⟨w4.heap.size, 2, none⟩) (.slice A4 l.length c4); rw [hN3] at Ny3 Nb3; clear Ny0 Ny1 Ny2 Nb0 Nb1 Nb2; replace Ny3 := q1da Ny3; have hb4N := q1dS hb4 Nb3; have HB4 := q1da (q1dS HB3.out hb4N); have HL4 := q1da (HL3.out.below hb4N); have HS4 := q1da (HS3.out.below hb4N); have HC4 := q1da (Kd.C_below hC4 Nb3); have Hc4 := q1da hc4; clear hb4 hb4N h1_ hC4 hc4 HS3 HL3 HB3 Nb3; have mSize : ∀ w, (method 299 89 (.pointer (some ⟨g3, 0, none⟩)) "Size").run Try.prog w = .ok (149, .pointer (some ⟨g3, 0, none⟩)) w := (fun _ => by kernel_rfl); have eSize : ∀ args w, (callFunc 149 args).run Try.prog w = .ok (.enter 149 args) w := enters_ Try.func149 (by kernel_rfl) rfl; have mPlain : ∀ w, (method 299 89 (.pointer (some ⟨g3, 0, none⟩)) "Plain").run Try.prog w = .ok (146, .pointer (some ⟨g3, 0, none⟩)) w := (fun _ => by kernel_rfl); have ePlain : ∀ args w, (callFunc 146 args).run Try.prog w = .ok (.enter 146 args) w := enters_ Try.func146 (by kernel_rfl) rfl; have mRead : ∀ w, (method 299 89 (.pointer (some ⟨g3, 0, none⟩)) "Read").run Try.prog w = .ok (147, .pointer (some ⟨g3, 0, none⟩)) w := (fun _ => by kernel_rfl); have eRead : ∀ args w, (callFunc 147 args).run Try.prog w = .ok (.enter 147 args) w := enters_ Try.func147 (by kernel_rfl) rfl; have mRoad : ∀ w, (method 299 89 (.pointer (some ⟨g3, 0, none⟩)) "Road").run Try.prog w = .ok (148, .pointer (some ⟨g3, 0, none⟩)) w := (fun _ => by kernel_rfl); have eRoad : ∀ args w, (callFunc 148 args).run Try.prog w = .ok (.enter 148 args) w := enters_ Try.func148 (by kernel_rfl) rfl))
  have HYD := q1da (blk_drew Ny3.out)
  have HDD := q1da (below_drew (Below.refl N3.heap.size N3))
  have HLD := q1da (HL4.out.below HDD.out)
  have HBD := q1da (q1dS HB4.out HDD.out)
  refine start_ (n := 17) (S := fun w' => w'.cell? ⟨w4.heap.size, 0, none⟩ = some (.int .i64 (size : Int))) (ds := []) #[false,false,false,false,false,false,false,false,false,false,false,false,false,false,false,false,false] (by kernel_rfl) rfl rfl (((q1dc HYD.out 0).trans rfl)) (fun hHeld => ?_)
  generalize N3.drew = wD at HYD HLD HDD HBD hHeld ⊢
  refine pure_ (i:=0) (N:=some 54) (v:=?_) (a':=?_) #[true,false,false,false,false,false,false,false,false,false,false,false,false,false,false,false,false] rfl rfl (by kernel_rfl) (fun _ _ _ h => h) (Or.inl ⟨by rfl, ?_⟩) ?_ ?_
  rotate_left
  ·
   intro w'
   go_simp
   with_reducible rfl
  rotate_left
  ·
   simp only [Act.put, q1dI, q1d0, q1d1, i64_w, i32_w]
   rfl
  refine pure_ (i:=1) (N:=some 55) (v:=?_) (a':=?_) #[true,true,false,false,false,false,false,false,false,false,false,false,false,false,false,false,false] rfl rfl (by kernel_rfl) (fun _ _ _ h => h) (Or.inl ⟨by rfl, ?_⟩) ?_ ?_
  rotate_left
  ·
   intro w'
   go_simp
   with_reducible rfl
  rotate_left
  ·
   simp only [Act.put, q1dI, q1d0, q1d1, i64_w, i32_w]
   rfl
  refine pure_ (i:=2) (N:=some 56) (v:=?_) (a':=?_) #[true,true,true,false,false,false,false,false,false,false,false,false,false,false,false,false,false] rfl rfl (by kernel_rfl) (fun _ _ _ h => h) (Or.inl ⟨by rfl, ?_⟩) ?_ ?_
  rotate_left
  ·
   intro w'
   go_simp
   with_reducible rfl
  rotate_left
  ·
   simp only [Act.put, q1dI, q1d0, q1d1, i64_w, i32_w]
   rfl
  refine pure_ (i:=3) (N:=some 57) (v:=?_) (a':=?_) #[true,true,true,true,false,false,false,false,false,false,false,false,false,false,false,false,false] rfl rfl (by kernel_rfl) (fun _ _ _ h => h) (Or.inl ⟨by rfl, ?_⟩) ?_ ?_
  rotate_left
  ·
   intro w'
   go_simp
   with_reducible rfl
  rotate_left
  ·
   simp only [Act.put, q1dI, q1d0, q1d1, i64_w, i32_w]
   rfl
  refine pure_ (i:=4) (N:=some 58) (v:=?_) (a':=?_) #[true,true,true,true,true,false,false,false,false,false,false,false,false,false,false,false,false] rfl rfl (by kernel_rfl) (fun _ _ _ h => h) (Or.inl ⟨by rfl, ?_⟩) ?_ ?_
  rotate_left
  ·
   intro w'
   go_simp
   with_reducible rfl
  rotate_left
  ·
   simp only [Act.put, q1dI, q1d0, q1d1, i64_w, i32_w]
   rfl
  refine pure_ (i:=5) (N:=some 59) (v:=?_) (a':=?_) #[true,true,true,true,true,true,false,false,false,false,false,false,false,false,false,false,false] rfl rfl (by kernel_rfl) (fun _ _ _ h => h) (Or.inl ⟨by rfl, ?_⟩) ?_ ?_
  rotate_left
  ·
   intro w'
   go_simp
   with_reducible rfl
  rotate_left
  ·
   simp only [Act.put, q1dI, q1d0, q1d1, i64_w, i32_w]
   rfl
  refine pure_ (i:=6) (N:=some 60) (v:=?_) (a':=?_) #[true,true,true,true,true,true,true,false,false,false,false,false,false,false,false,false,false] rfl rfl (by kernel_rfl) (fun _ _ _ h => h) (Or.inl ⟨by rfl, ?_⟩) ?_ ?_
  rotate_left
  ·
   intro w'
   go_simp
   with_reducible rfl
  rotate_left
  ·
   simp only [Act.put, q1dI, q1d0, q1d1, i64_w, i32_w]
   rfl
  refine pure_ (i:=7) (N:=some 61) (v:=?_) (a':=?_) #[true,true,true,true,true,true,true,true,false,false,false,false,false,false,false,false,false] rfl rfl (by kernel_rfl) (fun _ _ _ h => h) (Or.inl ⟨by rfl, ?_⟩) ?_ ?_
  rotate_left
  ·
   intro w'
   go_simp
   with_reducible rfl
  rotate_left
  ·
   simp only [Act.put, q1dI, q1d0, q1d1, i64_w, i32_w]
   rfl
  refine pure_ (i:=9) (N:=some 63) (v:=?_) (a':=?_) #[true,true,true,true,true,true,true,true,false,true,false,false,false,false,false,false,false] rfl rfl (by kernel_rfl) (fun _ _ _ h => h) (Or.inl ⟨by rfl, ?_⟩) ?_ ?_
  rotate_left
  ·
   intro w'
   go_simp
   with_reducible rfl
  rotate_left
  ·
   simp only [Act.put, q1dI, q1d0, q1d1, i64_w, i32_w]
   rfl
  refine take_ (i:=10) (N:=some 64) (v:=?_) (a':=?_) #[true,true,true,true,true,true,true,true,false,true,true,false,false,false,false,false,false] rfl rfl (by kernel_rfl) (fun _ _ _ h => h) (Or.inl ⟨by rfl, ?_⟩) hHeld ?_ ?_
  rotate_left
  ·
   intro w' s0
   go_simp
   with_reducible rfl
  rotate_left
  ·
   simp only [Act.put, q1dI, q1d0, q1d1, i64_w, i32_w]
   rfl
  refine one_ (i:=8) (N:=some 62) #[true,true,true,true,true,true,true,true,true,true,true,false,false,false,false,false,false] rfl rfl (by kernel_rfl) (by decide) (fun K hK => ?_)
  refine call_ 149 #[.pointer (some ⟨g3, 0, none⟩)] (by rfl) rfl ?_ ?_
  ·
   unfold execOp
   simp [resolve, Deferred.ofValue, invoke, callMethod, Act.eval]
   rw [show 199 + Made.depth = 299 from rfl, mSize]
   exact eSize _ _
  with_reducible refine (lay_size _ _ _ _ _ _ _ _ HLD.out).mono ?_
  rintro e w5 ⟨rfl, hb5⟩
  refine ⟨_, rfl, ?_⟩
  refine hK.out _ _ ((q1dc (blk_below HYD.out hb5) 0).trans rfl) (fun hHeld => ?_)
  clear hK K
  refine norm_ (a' := ?_) ?_ ?_
  rotate_left
  ·
   show Act.put _ (some 62) _ = _
   simp only [Act.put, q1dI, q1d0, q1d1, i64_w, i32_w]
   rfl
  refine pure_ (i:=11) (N:=some 65) (v:=?_) (a':=?_) #[true,true,true,true,true,true,true,true,true,true,true,true,false,false,false,false,false] rfl rfl (by kernel_rfl) (fun _ _ _ h => h) (Or.inl ⟨by rfl, ?_⟩) ?_ ?_
  rotate_left
  ·
   intro w'
   go_simp
   with_reducible rfl
  rotate_left
  ·
   simp only [Act.put, q1dI, q1d0, q1d1, i64_w, i32_w]
   rfl
  refine pure_ (i:=12) (N:=some 66) (v:=?_) (a':=?_) #[true,true,true,true,true,true,true,true,true,true,true,true,true,false,false,false,false] rfl rfl (by kernel_rfl) (fun _ _ _ h => h) (Or.inl ⟨by rfl, ?_⟩) ?_ ?_
  rotate_left
  ·
   intro w'
   go_simp
   with_reducible rfl
  rotate_left
  ·
   simp only [Act.put, q1dI, q1d0, q1d1, i64_w, i32_w]
   rfl
  refine pure_ (i:=13) (N:=some 67) (v:=?_) (a':=?_) #[true,true,true,true,true,true,true,true,true,true,true,true,true,true,false,false,false] rfl rfl (by kernel_rfl) (fun _ _ _ h => h) (Or.inl ⟨by rfl, ?_⟩) ?_ ?_
  rotate_left
  ·
   intro w'
   go_simp
   with_reducible rfl
  rotate_left
  ·
   simp only [Act.put, q1dI, q1d0, q1d1, i64_w, i32_w]
   rfl
  refine pure_ (i:=14) (N:=some 68) (v:=?_) (a':=?_) #[true,true,true,true,true,true,true,true,true,true,true,true,true,true,true,false,false] rfl rfl (by kernel_rfl) (fun _ _ _ h => h) (Or.inl ⟨by rfl, ?_⟩) ?_ ?_
  rotate_left
  ·
   intro w'
   go_simp
   with_reducible rfl
  rotate_left
  ·
   simp only [Act.put, q1dI, q1d0, q1d1, i64_w, i32_w]
   rfl
  refine one_ (i:=15) (N:=some 69) #[true,true,true,true,true,true,true,true,true,true,true,true,true,true,true,true,false] rfl rfl (by kernel_rfl) (by decide) (fun K hK => ?_)
  refine call_ 146 #[.pointer (some ⟨g3, 0, none⟩)] (by rfl) rfl ?_ ?_
  ·
   unfold execOp
   simp [resolve, Deferred.ofValue, invoke, callMethod, Act.eval]
   rw [show 199 + Made.depth = 299 from rfl, mPlain]
   exact ePlain _ _
  with_reducible refine (lay_plain _ _).mono ?_
  rintro e w6 ⟨rfl, hb6⟩
  refine ⟨_, rfl, ?_⟩
  refine hK.out _ _ ((q1dc (blk_below HYD.out (q1dS hb5 hb6)) 0).trans rfl) (fun hHeld => ?_)
  clear hK K
  refine norm_ (a' := ?_) ?_ ?_
  rotate_left
  ·
   show Act.put _ (some 69) _ = _
   simp only [Act.put, q1dI, q1d0, q1d1, i64_w, i32_w]
   rfl
  refine pure_ (i:=16) (N:=some 70) (v:=?_) (a':=?_) #[true,true,true,true,true,true,true,true,true,true,true,true,true,true,true,true,true] rfl rfl (by kernel_rfl) (fun _ _ _ h => h) (Or.inl ⟨by rfl, ?_⟩) ?_ ?_
  rotate_left
  ·
   intro w'
   go_simp
   with_reducible rfl
  rotate_left
  ·
   simp only [Act.put, q1dI, q1d0, q1d1, i64_w, i32_w]
   rfl
  refine done_ (by kernel_rfl) ?_
  have hb6N := q1dS hb5 hb6
  have HB6 := q1da (q1dS HBD.out hb6N)
  have HL6 := q1da (HLD.out.below hb6N)
  have HY6 := q1da (blk_below HYD.out hb6N)
  clear hb5 hb6 hb6N HBD HLD HYD HDD HB4 HL4
  go_wp2_with (first
   | (go_at_call 147; refine (lay_read_out _ _ _ _ _ _ _ _ HL6.out hsz.out _ _ HNR.out).mono ?_; rintro e w7 ⟨rfl, hb7⟩; have HB7 := q1da (q1dS HB6.out hb7); have HL7 := q1da (HL6.out.below hb7); have HY7 := q1da (blk_below HY6.out hb7); clear hb7 HB6 HL6 HY6)
   | (go_at_call 148; refine (lay_road_out _ _ _ _ _ _ _ _ HL7.out hsz.out _ _ HNR.out).mono ?_; rintro e w8 ⟨rfl, hb8⟩; have HB8 := q1da (q1dS HB7.out hb8); have HL8 := q1da (HL7.out.below hb8); have HY8 := q1da (blk_below HY7.out hb8); clear hb8 HB7 HL7 HY7; have z8_0 : w8.cell? ⟨w4.heap.size, 0, none⟩ = some (.int .i64 (size : Int)) := (q1dc HY8.out 0).trans rfl))
  go_ret
  exact ⟨rfl, HB8.out⟩
set_option maxHeartbeats 16000000 in
set_option maxRecDepth 100000 in
/-- empty ranges -/
theorem po_zero (A0 : Option Addr) (c0 : Nat) (b : List Int) (A1 : Option Addr) (c1 : Nat) (bad : List S45) (off : Int) (w : World) (hrb : Kd.C (Kd.int .u8) w A0 b.length b) (hcb : b.length ≤ c0) (hrl : Kd.C k45 w A1 bad.length bad) (hcl : bad.length ≤ c1) (hl : bad.length * 16 ≤ 140737488351232) (hb : Bytes b) (p : List Int) (hp : p = b.take (min b.length 65536)) (bd : List Bool) (hbd : bd = badOf p.length bad) (size : Nat) (l : List S45) (hsome : pkOpen p bd = some (size, l)) (hs : size ≤ 65536) (hR : inR (size : Int) off 0) :
  Calls Try.prog 3 #[.slice A0 b.length c0, .slice A1 bad.length c1, .int .i64 off, .int .i64 0] w fun e w' => e = .returned (.bool true) ∧ Below w.heap.size w w' := by
 have hpm : p.length ≤ 65536 := by rw [hp, List.length_take]; omega
 have HIMG := q1da (image_law A0 c0 b A1 c1 bad w hrb hcb hrl hcl hl p hp)
 have HPM := q1da hpm
 have HPB := q1da (show Bytes p by rw [hp]; exact b_tk hb _)
 have HCL := q1da (show (cutS bad p.length).length ≤ 8796093021952 by have := cut_few bad p.length hpm; omega)
 have HBD := q1da (show badOf p.length (cutS bad p.length) = bd by rw [hbd]; exact cut_bad bad p.length hpm)
 replace hsome := q1da hsome
 have hsz := q1da hs
 have hu29 := Try.underlying29
 have hu37 := Try.underlying37
 clear hrb hcb hrl hcl hl hb hp hpm hbd
 have HNR := q1da hR
 unfold inR at hR
 have t0 : decide (off < 0) = false := q1df (by omega)
 have t2 : decide ((size : Int) < off) = false := q1df (by omega)
 have hws : IntKind.i64.wrap ((size : Int) - off) = (size : Int) - off := by rw [i64_w]; unfold wrap64; omega
 have t3 : decide ((size : Int) - off < 0) = false := q1df (by omega)
 clear hR hs
 go_enter Try.func3, Try.ntmps3
 go_wp2_with (first
  | (go_at_call 7; refine HIMG.out.mono ?_; rintro e w1 ⟨g, B1, d1, B2, d2, V1, e1, V2, e2, rfl, hI, _, _, _, _, hb1⟩; have hS := img_src hI HPM.out HCL.out; rw [HBD.out] at hS; obtain ⟨M0, hM0⟩ : ∃ W, w1.alloc (.cells #[.slice none 0 0, .slice none 0 0, .slice none 0 0] 29) = W := ⟨_, rfl⟩; have My0 := blk_new w1 (.cells #[.slice none 0 0, .slice none 0 0, .slice none 0 0] 29); have Mb0 := below_alloc (Below.refl w1.heap.size w1) (.cells #[.slice none 0 0, .slice none 0 0, .slice none 0 0] 29); rw [hM0] at My0 Mb0; obtain ⟨M1, hM1⟩ : ∃ W, M0.setCell ⟨w1.heap.size, 0, none⟩ (.slice A0 p.length c0) = W := ⟨_, rfl⟩; have Mq0 : M0.cell? ⟨w1.heap.size, 0, none⟩ = some (.slice none 0 0) := (q1dc My0 0).trans rfl; have Mk0 := blk_frozen My0 0; have My1 := blk_put My0 0 (.slice A0 p.length c0) rfl; have Mb1 := Mb0.setCell (Nat.le_refl w1.heap.size) (p := ⟨w1.heap.size, 0, none⟩) (.slice A0 p.length c0); rw [hM1] at My1 Mb1; obtain ⟨M2, hM2⟩ : ∃ W, M1.setCell ⟨w1.heap.size, 1, none⟩ (.slice V1 p.length e1) = W := ⟨_, rfl⟩; have Mq1 : M1.cell? ⟨w1.heap.size, 1, none⟩ = some (.slice none 0 0) := (q1dc My1 1).trans rfl; have Mk1 := blk_frozen My1 1; have My2 := blk_put My1 1 (.slice V1 p.length e1) rfl; have Mb2 := Mb1.setCell (Nat.le_refl w1.heap.size) (p := ⟨w1.heap.size, 1, none⟩) (.slice V1 p.length e1); rw [hM2] at My2 Mb2; obtain ⟨M3, hM3⟩ : ∃ W, M2.setCell ⟨w1.heap.size, 2, none⟩ (.slice V2 p.length e2) = W := ⟨_, rfl⟩; have Mq2 : M2.cell? ⟨w1.heap.size, 2, none⟩ = some (.slice none 0 0) := (q1dc My2 2).trans rfl; have Mk2 := blk_frozen My2 2; have My3 := blk_put My2 2 (.slice V2 p.length e2) rfl; have Mb3 := Mb2.setCell (Nat.le_refl w1.heap.size) (p := ⟨w1.heap.size, 2, none⟩) (.slice V2 p.length e2); rw [hM3] at My3 Mb3; clear My0 My1 My2 Mb0 Mb1 Mb2; replace My3 := q1da My3; have HS := q1da (hS.below Mb3); have HB1 := q1da (q1dS hb1 Mb3); clear hI hb1 hS Mb3)
  | (go_at_call 8; refine (packs_calls _).mono ?_; rintro e w2 ⟨rfl, hb2⟩; have HS2 := q1da (HS.out.below hb2); have HB2 := q1da (q1dS HB1.out hb2); clear hb2 HS HB1)
  | (go_at_call 9; refine (open_calls _ _ _ _ _ _ _ p (idx p.length) bd HS2.out HPB.out HPM.out).mono ?_; rintro e w3 ⟨h1_, _⟩; obtain ⟨g3, A3, c3, rfl, hL, hb3⟩ := h1_ _ _ hsome.out; have HS3 := q1da (HS2.out.below hb3); have HL3 := q1da hL; have HB3 := q1da (q1dS HB2.out hb3); clear hb3 hL h1_ HS2 HB2)
  | (go_at_call 10; refine (packof_calls _ _ _ _ _ _ _ p (idx p.length) bd HS3.out HPB.out HPM.out).mono ?_; rintro e w4 ⟨h1_, _⟩; obtain ⟨A4, c4, rfl, hC4, hc4, hb4⟩ := h1_ _ _ hsome.out; obtain ⟨N0, hN0⟩ : ∃ W, w4.alloc (.cells #[.int .i64 0, .int .i64 0, .slice none 0 0] 37) = W := ⟨_, rfl⟩; have Ny0 := blk_new w4 (.cells #[.int .i64 0, .int .i64 0, .slice none 0 0] 37); have Nb0 := below_alloc (Below.refl w4.heap.size w4) (.cells #[.int .i64 0, .int .i64 0, .slice none 0 0] 37); rw [hN0] at Ny0 Nb0; obtain ⟨N1, hN1⟩ : ∃ W, N0.setCell ⟨w4.heap.size, 0, none⟩ (.int .i64 (size : Int)) = W := ⟨_, rfl⟩; have Nq0 : N0.cell? ⟨w4.heap.size, 0, none⟩ = some (.int .i64 0) := (q1dc Ny0 0).trans rfl; have Nk0 := blk_frozen Ny0 0; have Ny1 := blk_put Ny0 0 (.int .i64 (size : Int)) rfl; have Nb1 := Nb0.setCell (Nat.le_refl w4.heap.size) (p := ⟨w4.heap.size, 0, none⟩) (.int .i64 (size : Int)); rw [hN1] at Ny1 Nb1; obtain ⟨N2, hN2⟩ : ∃ W, N1.setCell ⟨w4.heap.size, 1, none⟩ (.int .i64 (16 + 2 * (l.length : Int))) = W := ⟨_, rfl⟩; have Nq1 : N1.cell? ⟨w4.heap.size, 1, none⟩ = some (.int .i64 0) := (q1dc Ny1 1).trans rfl; have Nk1 := blk_frozen Ny1 1; have Ny2 := blk_put Ny1 1 (.int .i64 (16 + 2 * (l.length : Int))) rfl; have Nb2 := Nb1.setCell (Nat.le_refl w4.heap.size) (p := ⟨w4.heap.size, 1, none⟩) (.int .i64 (16 + 2 * (l.length : Int))); rw [hN2] at Ny2 Nb2; obtain ⟨N3, hN3⟩ : ∃ W, N2.setCell ⟨w4.heap.size, 2, none⟩ (.slice A4 l.length c4) = W := ⟨_, rfl⟩; have Nq2 : N2.cell? ⟨w4.heap.size, 2, none⟩ = some (.slice none 0 0) := (q1dc Ny2 2).trans rfl; have Nk2 := blk_frozen Ny2 2; have Ny3 := blk_put Ny2 2 (.slice A4 l.length c4) rfl; have Nb3 := Nb2.setCell (Nat.le_refl w4.heap.size) (p := ⟨w4.heap.size, 2, none⟩) (.slice A4 l.length c4); rw [hN3] at Ny3 Nb3; clear Ny0 Ny1 Ny2 Nb0 Nb1 Nb2; replace Ny3 := q1da Ny3; have hb4N := q1dS hb4 Nb3; have HB4 := q1da (q1dS HB3.out hb4N); have HL4 := q1da (HL3.out.below hb4N); have HS4 := q1da (HS3.out.below hb4N); have HC4 := q1da (Kd.C_below hC4 Nb3); have Hc4 := q1da hc4; clear hb4 hb4N h1_ hC4 hc4 HS3 HL3 HB3 Nb3; have mSize : ∀ w, (method 299 89 (.pointer (some ⟨g3, 0, none⟩)) "Size").run Try.prog w = .ok (149, .pointer (some ⟨g3, 0, none⟩)) w := (fun _ => by kernel_rfl); have eSize : ∀ args w, (callFunc 149 args).run Try.prog w = .ok (.enter 149 args) w := enters_ Try.func149 (by kernel_rfl) rfl; have mPlain : ∀ w, (method 299 89 (.pointer (some ⟨g3, 0, none⟩)) "Plain").run Try.prog w = .ok (146, .pointer (some ⟨g3, 0, none⟩)) w := (fun _ => by kernel_rfl); have ePlain : ∀ args w, (callFunc 146 args).run Try.prog w = .ok (.enter 146 args) w := enters_ Try.func146 (by kernel_rfl) rfl; have mRead : ∀ w, (method 299 89 (.pointer (some ⟨g3, 0, none⟩)) "Read").run Try.prog w = .ok (147, .pointer (some ⟨g3, 0, none⟩)) w := (fun _ => by kernel_rfl); have eRead : ∀ args w, (callFunc 147 args).run Try.prog w = .ok (.enter 147 args) w := enters_ Try.func147 (by kernel_rfl) rfl; have mRoad : ∀ w, (method 299 89 (.pointer (some ⟨g3, 0, none⟩)) "Road").run Try.prog w = .ok (148, .pointer (some ⟨g3, 0, none⟩)) w := (fun _ => by kernel_rfl); have eRoad : ∀ args w, (callFunc 148 args).run Try.prog w = .ok (.enter 148 args) w := enters_ Try.func148 (by kernel_rfl) rfl))
 have HYD := q1da (blk_drew Ny3.out)
 have HDD := q1da (below_drew (Below.refl N3.heap.size N3))
 have HLD := q1da (HL4.out.below HDD.out)
 have HBD := q1da (q1dS HB4.out HDD.out)
 refine start_ (n := 17) (S := fun w' => w'.cell? ⟨w4.heap.size, 0, none⟩ = some (.int .i64 (size : Int))) (ds := []) #[false,false,false,false,false,false,false,false,false,false,false,false,false,false,false,false,false] (by kernel_rfl) rfl rfl (((q1dc HYD.out 0).trans rfl)) (fun hHeld => ?_)
 generalize N3.drew = wD at HYD HLD HDD HBD hHeld ⊢
 refine pure_ (i:=0) (N:=some 54) (v:=?_) (a':=?_) #[true,false,false,false,false,false,false,false,false,false,false,false,false,false,false,false,false] rfl rfl (by kernel_rfl) (fun _ _ _ h => h) (Or.inl ⟨by rfl, ?_⟩) ?_ ?_
 rotate_left
 ·
  intro w'
  go_simp
  with_reducible rfl
 rotate_left
 ·
  simp only [Act.put, q1dI, q1d0, q1d1, i64_w, i32_w]
  rfl
 refine pure_ (i:=1) (N:=some 55) (v:=?_) (a':=?_) #[true,true,false,false,false,false,false,false,false,false,false,false,false,false,false,false,false] rfl rfl (by kernel_rfl) (fun _ _ _ h => h) (Or.inl ⟨by rfl, ?_⟩) ?_ ?_
 rotate_left
 ·
  intro w'
  go_simp
  with_reducible rfl
 rotate_left
 ·
  simp only [Act.put, q1dI, q1d0, q1d1, i64_w, i32_w]
  rfl
 refine pure_ (i:=2) (N:=some 56) (v:=?_) (a':=?_) #[true,true,true,false,false,false,false,false,false,false,false,false,false,false,false,false,false] rfl rfl (by kernel_rfl) (fun _ _ _ h => h) (Or.inl ⟨by rfl, ?_⟩) ?_ ?_
 rotate_left
 ·
  intro w'
  go_simp
  with_reducible rfl
 rotate_left
 ·
  simp only [Act.put, q1dI, q1d0, q1d1, i64_w, i32_w]
  rfl
 refine pure_ (i:=3) (N:=some 57) (v:=?_) (a':=?_) #[true,true,true,true,false,false,false,false,false,false,false,false,false,false,false,false,false] rfl rfl (by kernel_rfl) (fun _ _ _ h => h) (Or.inl ⟨by rfl, ?_⟩) ?_ ?_
 rotate_left
 ·
  intro w'
  go_simp
  with_reducible rfl
 rotate_left
 ·
  simp only [Act.put, q1dI, q1d0, q1d1, i64_w, i32_w]
  rfl
 refine pure_ (i:=4) (N:=some 58) (v:=?_) (a':=?_) #[true,true,true,true,true,false,false,false,false,false,false,false,false,false,false,false,false] rfl rfl (by kernel_rfl) (fun _ _ _ h => h) (Or.inl ⟨by rfl, ?_⟩) ?_ ?_
 rotate_left
 ·
  intro w'
  go_simp
  with_reducible rfl
 rotate_left
 ·
  simp only [Act.put, q1dI, q1d0, q1d1, i64_w, i32_w]
  rfl
 refine pure_ (i:=5) (N:=some 59) (v:=?_) (a':=?_) #[true,true,true,true,true,true,false,false,false,false,false,false,false,false,false,false,false] rfl rfl (by kernel_rfl) (fun _ _ _ h => h) (Or.inl ⟨by rfl, ?_⟩) ?_ ?_
 rotate_left
 ·
  intro w'
  go_simp
  with_reducible rfl
 rotate_left
 ·
  simp only [Act.put, q1dI, q1d0, q1d1, i64_w, i32_w]
  rfl
 refine pure_ (i:=6) (N:=some 60) (v:=?_) (a':=?_) #[true,true,true,true,true,true,true,false,false,false,false,false,false,false,false,false,false] rfl rfl (by kernel_rfl) (fun _ _ _ h => h) (Or.inl ⟨by rfl, ?_⟩) ?_ ?_
 rotate_left
 ·
  intro w'
  go_simp
  with_reducible rfl
 rotate_left
 ·
  simp only [Act.put, q1dI, q1d0, q1d1, i64_w, i32_w]
  rfl
 refine pure_ (i:=7) (N:=some 61) (v:=?_) (a':=?_) #[true,true,true,true,true,true,true,true,false,false,false,false,false,false,false,false,false] rfl rfl (by kernel_rfl) (fun _ _ _ h => h) (Or.inl ⟨by rfl, ?_⟩) ?_ ?_
 rotate_left
 ·
  intro w'
  go_simp
  with_reducible rfl
 rotate_left
 ·
  simp only [Act.put, q1dI, q1d0, q1d1, i64_w, i32_w]
  rfl
 refine pure_ (i:=9) (N:=some 63) (v:=?_) (a':=?_) #[true,true,true,true,true,true,true,true,false,true,false,false,false,false,false,false,false] rfl rfl (by kernel_rfl) (fun _ _ _ h => h) (Or.inl ⟨by rfl, ?_⟩) ?_ ?_
 rotate_left
 ·
  intro w'
  go_simp
  with_reducible rfl
 rotate_left
 ·
  simp only [Act.put, q1dI, q1d0, q1d1, i64_w, i32_w]
  rfl
 refine take_ (i:=10) (N:=some 64) (v:=?_) (a':=?_) #[true,true,true,true,true,true,true,true,false,true,true,false,false,false,false,false,false] rfl rfl (by kernel_rfl) (fun _ _ _ h => h) (Or.inl ⟨by rfl, ?_⟩) hHeld ?_ ?_
 rotate_left
 ·
  intro w' s0
  go_simp
  with_reducible rfl
 rotate_left
 ·
  simp only [Act.put, q1dI, q1d0, q1d1, i64_w, i32_w]
  rfl
 refine one_ (i:=8) (N:=some 62) #[true,true,true,true,true,true,true,true,true,true,true,false,false,false,false,false,false] rfl rfl (by kernel_rfl) (by decide) (fun K hK => ?_)
 refine call_ 149 #[.pointer (some ⟨g3, 0, none⟩)] (by rfl) rfl ?_ ?_
 ·
  unfold execOp
  simp [resolve, Deferred.ofValue, invoke, callMethod, Act.eval]
  rw [show 199 + Made.depth = 299 from rfl, mSize]
  exact eSize _ _
 with_reducible refine (lay_size _ _ _ _ _ _ _ _ HLD.out).mono ?_
 rintro e w5 ⟨rfl, hb5⟩
 refine ⟨_, rfl, ?_⟩
 refine hK.out _ _ ((q1dc (blk_below HYD.out hb5) 0).trans rfl) (fun hHeld => ?_)
 clear hK K
 refine norm_ (a' := ?_) ?_ ?_
 rotate_left
 ·
  show Act.put _ (some 62) _ = _
  simp only [Act.put, q1dI, q1d0, q1d1, i64_w, i32_w]
  rfl
 refine pure_ (i:=11) (N:=some 65) (v:=?_) (a':=?_) #[true,true,true,true,true,true,true,true,true,true,true,true,false,false,false,false,false] rfl rfl (by kernel_rfl) (fun _ _ _ h => h) (Or.inl ⟨by rfl, ?_⟩) ?_ ?_
 rotate_left
 ·
  intro w'
  go_simp
  with_reducible rfl
 rotate_left
 ·
  simp only [Act.put, q1dI, q1d0, q1d1, i64_w, i32_w]
  rfl
 refine pure_ (i:=12) (N:=some 66) (v:=?_) (a':=?_) #[true,true,true,true,true,true,true,true,true,true,true,true,true,false,false,false,false] rfl rfl (by kernel_rfl) (fun _ _ _ h => h) (Or.inl ⟨by rfl, ?_⟩) ?_ ?_
 rotate_left
 ·
  intro w'
  go_simp
  with_reducible rfl
 rotate_left
 ·
  simp only [Act.put, q1dI, q1d0, q1d1, i64_w, i32_w]
  rfl
 refine pure_ (i:=13) (N:=some 67) (v:=?_) (a':=?_) #[true,true,true,true,true,true,true,true,true,true,true,true,true,true,false,false,false] rfl rfl (by kernel_rfl) (fun _ _ _ h => h) (Or.inl ⟨by rfl, ?_⟩) ?_ ?_
 rotate_left
 ·
  intro w'
  go_simp
  with_reducible rfl
 rotate_left
 ·
  simp only [Act.put, q1dI, q1d0, q1d1, i64_w, i32_w]
  rfl
 refine pure_ (i:=14) (N:=some 68) (v:=?_) (a':=?_) #[true,true,true,true,true,true,true,true,true,true,true,true,true,true,true,false,false] rfl rfl (by kernel_rfl) (fun _ _ _ h => h) (Or.inl ⟨by rfl, ?_⟩) ?_ ?_
 rotate_left
 ·
  intro w'
  go_simp
  with_reducible rfl
 rotate_left
 ·
  simp only [Act.put, q1dI, q1d0, q1d1, i64_w, i32_w]
  rfl
 refine one_ (i:=15) (N:=some 69) #[true,true,true,true,true,true,true,true,true,true,true,true,true,true,true,true,false] rfl rfl (by kernel_rfl) (by decide) (fun K hK => ?_)
 refine call_ 146 #[.pointer (some ⟨g3, 0, none⟩)] (by rfl) rfl ?_ ?_
 ·
  unfold execOp
  simp [resolve, Deferred.ofValue, invoke, callMethod, Act.eval]
  rw [show 199 + Made.depth = 299 from rfl, mPlain]
  exact ePlain _ _
 with_reducible refine (lay_plain _ _).mono ?_
 rintro e w6 ⟨rfl, hb6⟩
 refine ⟨_, rfl, ?_⟩
 refine hK.out _ _ ((q1dc (blk_below HYD.out (q1dS hb5 hb6)) 0).trans rfl) (fun hHeld => ?_)
 clear hK K
 refine norm_ (a' := ?_) ?_ ?_
 rotate_left
 ·
  show Act.put _ (some 69) _ = _
  simp only [Act.put, q1dI, q1d0, q1d1, i64_w, i32_w]
  rfl
 refine pure_ (i:=16) (N:=some 70) (v:=?_) (a':=?_) #[true,true,true,true,true,true,true,true,true,true,true,true,true,true,true,true,true] rfl rfl (by kernel_rfl) (fun _ _ _ h => h) (Or.inl ⟨by rfl, ?_⟩) ?_ ?_
 rotate_left
 ·
  intro w'
  go_simp
  with_reducible rfl
 rotate_left
 ·
  simp only [Act.put, q1dI, q1d0, q1d1, i64_w, i32_w]
  rfl
 refine done_ (by kernel_rfl) ?_
 have hb6N := q1dS hb5 hb6
 have HB6 := q1da (q1dS HBD.out hb6N)
 have HL6 := q1da (HLD.out.below hb6N)
 have HY6 := q1da (blk_below HYD.out hb6N)
 clear hb5 hb6 hb6N HBD HLD HYD HDD HB4 HL4
 go_wp2_with (first
  | (go_at_call 147; refine (lay_read_zero _ _ _ _ _ _ _ _ HL6.out hsz.out _ HNR.out).mono ?_; rintro e w7 ⟨rfl, hb7⟩; have HB7 := q1da (q1dS HB6.out hb7); have HL7 := q1da (HL6.out.below hb7); have HY7 := q1da (blk_below HY6.out hb7); clear hb7 HB6 HL6 HY6)
  | (go_at_call 148; refine (lay_road_zero _ _ _ _ _ _ _ _ HL7.out hsz.out _ HNR.out).mono ?_; rintro e w8 ⟨rfl, hb8⟩; have HB8 := q1da (q1dS HB7.out hb8); have HL8 := q1da (HL7.out.below hb8); have HY8 := q1da (blk_below HY7.out hb8); clear hb8 HB7 HL7 HY7; have z8_0 : w8.cell? ⟨w4.heap.size, 0, none⟩ = some (.int .i64 (size : Int)) := (q1dc HY8.out 0).trans rfl))
 go_ret
 exact ⟨rfl, HB8.out⟩
end Go.Proofs.Ytgkjkhhppmnajaa.Pure
