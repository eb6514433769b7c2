/- Sealed layers: the law, LoLaw2. No condition. -/
import Derived.Test.YtagcaheopbmdiaaGreatYPureLockOpensN
namespace Go.Proofs.YtagcaheopbmdiaaGreat.Pure
open Go.Proofs.YtagcaheopbmdiaaGreat.SumPlain Go.Maps Go.Proofs.YtagcaheopbmdiaaGreat.Lk
open Go Go.RowKit Go.Proofs.YtagcaheopbmdiaaGreat.QLockOpens Go.Proofs.YtagcaheopbmdiaaGreatW.PrintWords Go.Proofs.YtagcaheopbmdiaaGreatW.PrintLast Go.Proofs.YtagcaheopbmdiaaGreatW.PrintMore
set_option linter.unusedVariables false
set_option linter.unusedSimpArgs false
theorem q1pS : type_of% @below_step := @below_step
theorem q1pa : type_of% @Aside0.mk := @Aside0.mk
set_option maxHeartbeats 16000000 in
set_option maxRecDepth 100000 in
/-- ranges outside a sealed layer -/
theorem lo_out (A0 : Option Addr) (c0 : Nat) (b : List Int) (A1 : Option Addr) (c1 : Nat) (bad : List S52) (key : ByteArray) (off n : Int) (w : World) (hrb : Kd.C (Kd.int .u8) w A0 b.length b) (hcb : b.length ≤ c0) (hrl : Kd.C k52 w A1 bad.length bad) (hcl : bad.length ≤ c1) (hl : bad.length * 16 ≤ 140737488351232) (hb : Bytes b) (p : List Int) (hp : p = b.take (min b.length 65536)) (bd : List Bool) (hbd : bd = badOf p.length bad) (hok : rOk p bd) (hk : nameP key = true) (i : Nat) (inner : Int) (hsl : slotsP p key = ((i : Int), inner, true)) (Z : Nat) (hZ : leK ((p.drop 4).take 4) = (Z : Int)) (hz : Z ≤ 65536) (hR : ¬ inR (Z : Int) off n) :
  Calls Tryz.prog 3 #[.slice A0 b.length c0, .slice A1 bad.length c1, .string key, .int .i64 off, .int .i64 n] w fun e w' => e = .returned (.bool true) ∧ Below w.heap.size w w' := by
 have hpm : p.length ≤ 65536 := by rw [hp, List.length_take]; omega
 have hpc : p.length ≤ c0 := by rw [hp, List.length_take]; omega
 have HIMG := q1pa (image_law A0 c0 b A1 c1 bad w hrb hcb hrl hcl hl p hp)
 have HPM := q1pa hpm
 have HPC := q1pa hpc
 have HPB := q1pa (show Bytes p by rw [hp]; exact b_tk hb _)
 have HCL := q1pa (show (cutS bad p.length).length ≤ 8796093021952 by have := cut_few bad p.length hpm; omega)
 have HBD := q1pa (show badOf p.length (cutS bad p.length) = bd by rw [hbd]; exact cut_bad bad p.length hpm)
 have HBL := q1pa (show bd.length = p.length by rw [hbd]; exact badOf_len _ _)
 have hu29 := Tryz.underlying29
 obtain ⟨hd, hhd⟩ : ∃ h, h = strOfNums (readRow p bd 0 128) := ⟨_, rfl⟩
 have HHD := q1pa hhd
 rw [ok_row p bd hok] at hhd
 obtain ⟨kl, hlo⟩ := ok_of p HPB.out hpm hok.2
 obtain ⟨kn, hkn⟩ := (named_ev key).rounds
 rw [← hhd] at hlo
 have HLO := q1pa hlo
 have HKN := q1pa hkn
 rw [hk] at HKN
 rw [hZ] at HLO
 obtain ⟨ko, hko⟩ := ok_opened p HPB.out hok.2 key hk
 rw [← hhd, hsl] at hko
 have HKO := q1pa hko
 have HOPEN := q1pa (fun (W : World) (T : Nat) (x : Value) (fR fO fS fP : Nat) (h : SrcIs W T x fR fO fS fP p (idx p.length) bd) => open_ok W T x fR fO fS fP p (idx p.length) bd h HPB.out hpm key hok hk inner i hsl)
 rw [hZ, Int.toNat_natCast] at HOPEN
 replace hok := q1pa hok
 have HZ := q1pa hz
 have HNR := q1pa hR
 unfold inR at hR
 have h4 : decide (off < 0) = true ∨ (decide (off < 0) = false ∧ decide (n < 0) = true) ∨ (decide (off < 0) = false ∧ decide (n < 0) = false ∧ decide ((Z : Int) < off) = true) ∨ (decide (off < 0) = false ∧ decide (n < 0) = false ∧ decide ((Z : Int) < off) = false ∧ IntKind.i64.wrap ((Z : Int) - off) = (Z : Int) - off ∧ decide ((Z : Int) - off < n) = true) := by
  by_cases d0 : off < 0
  · exact Or.inl (decide_eq_true d0)
  ·
   by_cases d1 : n < 0
   · exact Or.inr (Or.inl ⟨decide_eq_false d0, decide_eq_true d1⟩)
   ·
    by_cases d2 : (Z : Int) < off
    · exact Or.inr (Or.inr (Or.inl ⟨decide_eq_false d0, decide_eq_false d1, decide_eq_true d2⟩))
    · exact Or.inr (Or.inr (Or.inr ⟨decide_eq_false d0, decide_eq_false d1, decide_eq_false d2, by rw [i64_w]; unfold wrap64; omega, decide_eq_true (by omega)⟩))
 clear hR hz
 clear hhd hlo hkn hZ hko hk hsl
 clear hrb hcb hrl hcl hl hb hp hpm hpc hbd
 rcases h4 with t0 | ⟨t0, t1⟩ | ⟨t0, t1, t2⟩ | ⟨t0, t1, t2, hws, t3⟩
 all_goals
  go_enter Tryz.func3, Tryz.ntmps3
  go_wp2_with (first
   | (go_at_call 4; refine HIMG.out.mono ?_; rintro e w1 ⟨gI, B1, d1, B2, d2, V1, e1, V2, e2, rfl, hI, hP1, hV1, hle1, hV2, hb1⟩; have hS := img_src hI HPM.out HCL.out; rw [HBD.out] at hS hV2; obtain ⟨M0, hM0⟩ : ∃ W, w1.alloc (.cells #[.slice none 0 0, .slice none 0 0, .slice none 0 0] 29) = W := ⟨_, rfl⟩; have My0 := blk_new w1 (.cells #[.slice none 0 0, .slice none 0 0, .slice none 0 0] 29); have Mb0 := below_alloc (Below.refl w1.heap.size w1) (.cells #[.slice none 0 0, .slice none 0 0, .slice none 0 0] 29); rw [hM0] at My0 Mb0; obtain ⟨M1, hM1⟩ : ∃ W, M0.setCell ⟨w1.heap.size, 0, none⟩ (.slice A0 p.length c0) = W := ⟨_, rfl⟩; have Mq0 : M0.cell? ⟨w1.heap.size, 0, none⟩ = some (.slice none 0 0) := (blk_cell My0 0).trans rfl; have Mk0 := blk_frozen My0 0; have My1 := blk_put My0 0 (.slice A0 p.length c0) rfl; have Mb1 := Mb0.setCell (Nat.le_refl w1.heap.size) (p := ⟨w1.heap.size, 0, none⟩) (.slice A0 p.length c0); rw [hM1] at My1 Mb1; obtain ⟨M2, hM2⟩ : ∃ W, M1.setCell ⟨w1.heap.size, 1, none⟩ (.slice V1 p.length e1) = W := ⟨_, rfl⟩; have Mq1 : M1.cell? ⟨w1.heap.size, 1, none⟩ = some (.slice none 0 0) := (blk_cell My1 1).trans rfl; have Mk1 := blk_frozen My1 1; have My2 := blk_put My1 1 (.slice V1 p.length e1) rfl; have Mb2 := Mb1.setCell (Nat.le_refl w1.heap.size) (p := ⟨w1.heap.size, 1, none⟩) (.slice V1 p.length e1); rw [hM2] at My2 Mb2; obtain ⟨M3, hM3⟩ : ∃ W, M2.setCell ⟨w1.heap.size, 2, none⟩ (.slice V2 p.length e2) = W := ⟨_, rfl⟩; have Mq2 : M2.cell? ⟨w1.heap.size, 2, none⟩ = some (.slice none 0 0) := (blk_cell My2 2).trans rfl; have Mk2 := blk_frozen My2 2; have My3 := blk_put My2 2 (.slice V2 p.length e2) rfl; have Mb3 := Mb2.setCell (Nat.le_refl w1.heap.size) (p := ⟨w1.heap.size, 2, none⟩) (.slice V2 p.length e2); rw [hM3] at My3 Mb3; clear My0 My1 My2 Mb0 Mb1 Mb2; replace My3 := q1pa My3; have HS := q1pa (hS.below Mb3); have HP := q1pa (Kd.C_below hP1 Mb3); have HV := q1pa (Kd.C_below hV2 Mb3); have HB1 := q1pa (q1pS hb1 Mb3); have HM1 := q1pa (Below.refl M3.heap.size M3); have mI : ∀ w, (method 259 79 (.pointer (some ⟨gI, 0, none⟩)) "Size").run Tryz.prog w = .ok (120, .pointer (some ⟨gI, 0, none⟩)) w := (fun _ => by kernel_rfl); have eI : ∀ args w, (callFunc 120 args).run Tryz.prog w = .ok (.enter 120 args) w := enters_ Tryz.func120 (by kernel_rfl) rfl; clear hI hb1 hS hP1 hV1 hle1 hV2 Mb3)
   | (go_at_call 5; refine (Lk.locks_calls _).mono ?_; rintro e w2 ⟨rfl, hb2⟩; have HB2 := q1pa (q1pS HB1.out hb2); have HM2 := q1pa (q1pS HM1.out hb2); clear hb2 HB1 HM1)
   | (go_at_call 6; refine (HOPEN.out _ _ _ _ _ _ _ (HS.out.below HM2.out)).mono ?_; rintro e w3 ⟨gL, rfl, hL, hb3, _⟩; have HB3 := q1pa (q1pS HB2.out hb3); have HM3 := q1pa (q1pS HM2.out hb3); have HL := q1pa hL; have HN3 := q1pa (Below.refl w3.heap.size w3); have mLSize : ∀ w, (method 259 64 (.pointer (some ⟨gL, 0, none⟩)) "Size").run Tryz.prog w = .ok (114, .pointer (some ⟨gL, 0, none⟩)) w := (fun _ => by kernel_rfl); have eLSize : ∀ args w, (callFunc 114 args).run Tryz.prog w = .ok (.enter 114 args) w := enters_ Tryz.func114 (by kernel_rfl) rfl; have mLPlain : ∀ w, (method 259 64 (.pointer (some ⟨gL, 0, none⟩)) "Plain").run Tryz.prog w = .ok (111, .pointer (some ⟨gL, 0, none⟩)) w := (fun _ => by kernel_rfl); have eLPlain : ∀ args w, (callFunc 111 args).run Tryz.prog w = .ok (.enter 111 args) w := enters_ Tryz.func111 (by kernel_rfl) rfl; have mLRead : ∀ w, (method 259 64 (.pointer (some ⟨gL, 0, none⟩)) "Read").run Tryz.prog w = .ok (112, .pointer (some ⟨gL, 0, none⟩)) w := (fun _ => by kernel_rfl); have eLRead : ∀ args w, (callFunc 112 args).run Tryz.prog w = .ok (.enter 112 args) w := enters_ Tryz.func112 (by kernel_rfl) rfl; have mLRoad : ∀ w, (method 259 64 (.pointer (some ⟨gL, 0, none⟩)) "Road").run Tryz.prog w = .ok (113, .pointer (some ⟨gL, 0, none⟩)) w := (fun _ => by kernel_rfl); have eLRoad : ∀ args w, (callFunc 113 args).run Tryz.prog w = .ok (.enter 113 args) w := enters_ Tryz.func113 (by kernel_rfl) rfl; clear hb3 hL HB2 HM2)
   | (go_at_call 7; refine (count_ok _ _ _ _ _ _ _ p (idx p.length) bd (HS.out.below HM3.out) HPB.out HPM.out hok.out).mono ?_; rintro e w4 ⟨rfl, hb4⟩; have HB4 := q1pa (q1pS HB3.out hb4); have HM4 := q1pa (q1pS HM3.out hb4); have HN4 := q1pa (q1pS HN3.out hb4); clear hb4 HB3 HM3 HN3)
   | (go_at_call 8; refine (headof_calls _ _ _ _ _ _ _ p (idx p.length) bd (HS.out.below HM4.out) hd HHD.out).mono ?_; rintro e w5 ⟨rfl, hb5⟩; have HB5 := q1pa (q1pS HB4.out hb5); have HM5 := q1pa (q1pS HM4.out hb5); have HN5 := q1pa (q1pS HN4.out hb5); clear hb5 HB4 HM4 HN4)
   | (go_at_call 120; refine ((HS.out.ans _ HM5.out).size).mono ?_; rintro e w6 ⟨rfl, hb6⟩; have HB6 := q1pa (q1pS HB5.out hb6); have HM6 := q1pa (q1pS HM5.out hb6); have HN6 := q1pa (q1pS HN5.out hb6); clear hb6 HB5 HM5 HN5)
   | (go_at_call 9; refine (wrackref1_LockOf.calls kl hd (p.length : Int) (Z : Int) (keysP p) true _ HLO.out).mono ?_; rintro e w7 ⟨rfl, hb7⟩; have HB7 := q1pa (q1pS HB6.out hb7); have HM7 := q1pa (q1pS HM6.out hb7); have HN7 := q1pa (q1pS HN6.out hb7); clear hb7 HB6 HM6 HN6)
   | (go_at_call 10; refine (wrackref1_Named.calls kn key true _ HKN.out).mono ?_; rintro e w8 ⟨rfl, hb8⟩; have HB8 := q1pa (q1pS HB7.out hb8); have HM8 := q1pa (q1pS HM7.out hb8); have HN8 := q1pa (q1pS HN7.out hb8); clear hb8 HB7 HM7 HN7)
   | (go_at_call 11; refine (wrackref1_Opened.calls ko hd (keysP p) key (i : Int) inner true _ HKO.out).mono ?_; rintro e w9 ⟨rfl, hb9⟩; have HB9 := q1pa (q1pS HB8.out hb9); have HM9 := q1pa (q1pS HM8.out hb9); have HN9 := q1pa (q1pS HN8.out hb9); clear hb9 HB8 HM8 HN8)
   | (go_at_call 114; refine (lk_size _ _ _ _ _ _ _ (HL.out.below HN9.out)).mono ?_; rintro e w10 ⟨rfl, hb10⟩; have HB10 := q1pa (q1pS HB9.out hb10); have HM10 := q1pa (q1pS HM9.out hb10); have HN10 := q1pa (q1pS HN9.out hb10); clear hb10 HB9 HM9 HN9)
   | (go_at_call 111; refine (lk_plain _ _).mono ?_; rintro e w11 ⟨rfl, hb11⟩; have HB11 := q1pa (q1pS HB10.out hb11); have HM11 := q1pa (q1pS HM10.out hb11); have HN11 := q1pa (q1pS HN10.out hb11); clear hb11 HB10 HM10 HN10)
   | (go_at_call 112; refine (lk_read_out _ _ _ _ _ _ _ (HL.out.below HN11.out) HZ.out _ _ HNR.out).mono ?_; rintro e w12 ⟨rfl, hb12⟩; have HB12 := q1pa (q1pS HB11.out hb12); have HM12 := q1pa (q1pS HM11.out hb12); have HN12 := q1pa (q1pS HN11.out hb12); clear hb12 HB11 HM11 HN11)
   | (go_at_call 113; refine (lk_road_out _ _ _ _ _ _ _ (HL.out.below HN12.out) HZ.out _ _ HNR.out).mono ?_; rintro e w13 ⟨rfl, hb13⟩; have HB13 := q1pa (q1pS HB12.out hb13); have HM13 := q1pa (q1pS HM12.out hb13); have HN13 := q1pa (q1pS HN12.out hb13); clear hb13 HB12 HM12 HN12))
  go_ret
  exact ⟨rfl, HB13.out⟩
end Go.Proofs.YtagcaheopbmdiaaGreat.Pure
