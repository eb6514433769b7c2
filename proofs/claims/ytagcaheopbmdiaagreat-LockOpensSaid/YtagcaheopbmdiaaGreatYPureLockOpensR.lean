/- Sealed layers: the law, LoLaw4. No condition. -/
import Derived.Test.YtagcaheopbmdiaaGreatYPureLockOpensQ
namespace Go.Proofs.YtagcaheopbmdiaaGreat.Pure
open Go.Proofs.YtagcaheopbmdiaaGreat.SumPlain Go.Maps Go.Proofs.YtagcaheopbmdiaaGreat.Lk
open Go Go.RowKit Go.Proofs.YtagcaheopbmdiaaGreat.QLockOpens Go.Proofs.YtagcaheopbmdiaaGreatW.PrintWords Go.Proofs.YtagcaheopbmdiaaGreatW.PrintLast Go.Proofs.YtagcaheopbmdiaaGreatW.PrintMore
set_option linter.unusedVariables false
set_option linter.unusedSimpArgs false
theorem q1rI : type_of% @List.setIfInBounds_toArray := @List.setIfInBounds_toArray
theorem q1r0 : type_of% @List.set_cons_zero := @List.set_cons_zero
theorem q1r1 : type_of% @List.set_cons_succ := @List.set_cons_succ
theorem q1rS : type_of% @below_step := @below_step
theorem q1ra : type_of% @Aside0.mk := @Aside0.mk
set_option maxHeartbeats 16000000 in
set_option maxRecDepth 100000 in
/-- ranges inside that can be read -/
theorem lo_ok (A0 : Option Addr) (c0 : Nat) (b : List Int) (A1 : Option Addr) (c1 : Nat) (bad : List S52) (key : ByteArray) (w : World) (hrb : Kd.C (Kd.int .u8) w A0 b.length b) (hcb : b.length ≤ c0) (hrl : Kd.C k52 w A1 bad.length bad) (hcl : bad.length ≤ c1) (hl : bad.length * 16 ≤ 140737488351232) (hb : Bytes b) (p : List Int) (hp : p = b.take (min b.length 65536)) (bd : List Bool) (hbd : bd = badOf p.length bad) (hok : rOk p bd) (hk : nameP key = true) (i : Nat) (inner : Int) (hsl : slotsP p key = ((i : Int), inner, true)) (Z : Nat) (hZ : leK ((p.drop 4).take 4) = (Z : Int)) (hz : Z ≤ 65536) (o m : Nat) (hom : o + m ≤ Z) (hm : 0 < m) (he0 : readErr p.length bd (128 + (o : Int)) (m : Int) = 0) :
  Calls Tryz.prog 3 #[.slice A0 b.length c0, .slice A1 bad.length c1, .string key, .int .i64 (o : Int), .int .i64 (m : Int)] w fun e w' => e = .returned (.bool true) ∧ Below w.heap.size w w' := by
 have hpm : p.length ≤ 65536 := by rw [hp, List.length_take]; omega
 have hpc : p.length ≤ c0 := by rw [hp, List.length_take]; omega
 have HIMG := q1ra (image_law A0 c0 b A1 c1 bad w hrb hcb hrl hcl hl p hp)
 have HPM := q1ra hpm
 have HPC := q1ra hpc
 have HPB := q1ra (show Bytes p by rw [hp]; exact b_tk hb _)
 have HCL := q1ra (show (cutS bad p.length).length ≤ 8796093021952 by have := cut_few bad p.length hpm; omega)
 have HBD := q1ra (show badOf p.length (cutS bad p.length) = bd by rw [hbd]; exact cut_bad bad p.length hpm)
 have HBL := q1ra (show bd.length = p.length by rw [hbd]; exact badOf_len _ _)
 have hu29 := Tryz.underlying29
 obtain ⟨hd, hhd⟩ : ∃ h, h = strOfNums (readRow p bd 0 128) := ⟨_, rfl⟩
 have HHD := q1ra hhd
 rw [ok_row p bd hok] at hhd
 obtain ⟨kl, hlo⟩ := ok_of p HPB.out hpm hok.2
 obtain ⟨kn, hkn⟩ := (named_ev key).rounds
 rw [← hhd] at hlo
 have HLO := q1ra hlo
 have HKN := q1ra hkn
 rw [hk] at HKN
 rw [hZ] at HLO
 obtain ⟨ko, hko⟩ := ok_opened p HPB.out hok.2 key hk
 rw [← hhd, hsl] at hko
 have HKO := q1ra hko
 have HOPEN := q1ra (fun (W : World) (T : Nat) (x : Value) (fR fO fS fP : Nat) (h : SrcIs W T x fR fO fS fP p (idx p.length) bd) => open_ok W T x fR fO fS fP p (idx p.length) bd h HPB.out hpm key hok hk inner i hsl)
 rw [hZ, Int.toNat_natCast] at HOPEN
 replace hok := q1ra hok
 have HZ := q1ra hz
 have hi4 : i < 4 := by
  obtain ⟨i2, h1, h2⟩ := slots_at p hok.out.2 key (by rw [hsl])
  rw [hsl] at h1
  have h3 : (i : Int) = (i2 : Int) := h1
  omega
 have hpz : 128 + Z ≤ p.length := by
  have h1 := hok.out.2.2.2.2.2.2
  rw [hZ] at h1
  omega
 have hu : U64 inner := by
  have h1 := (openL_u64 p key (keysP p).toNat 0).1
  rw [show openL p key (keysP p).toNat 0 = slotsP p key from rfl, hsl] at h1
  exact h1
 have HU := q1ra hu
 have HOM := q1ra hom
 have HPZ := q1ra hpz
 have HSL := q1ra (show 16 + 24 * i + 24 ≤ p.length by omega)
 have t0 : decide ((o : Int) < 0) = false := decide_eq_false (by omega)
 have t1 : decide ((m : Int) < 0) = false := decide_eq_false (by omega)
 have t2 : decide ((Z : Int) < (o : Int)) = false := decide_eq_false (by omega)
 have u2 : o ≤ Z := by omega
 have u3 : ¬ (Z < o) := by omega
 have hws : IntKind.i64.wrap ((Z : Int) - (o : Int)) = (Z : Int) - (o : Int) := by rw [i64_w]; unfold wrap64; omega
 have t3 : decide ((Z : Int) - (o : Int) < (m : Int)) = false := decide_eq_false (by omega)
 have q1 : IntKind.i64.wrap (24 * (i : Int)) = 24 * (i : Int) := by rw [i64_w]; unfold wrap64; omega
 have q2 : IntKind.i64.wrap (16 + 24 * (i : Int)) = 16 + 24 * (i : Int) := by rw [i64_w]; unfold wrap64; omega
 have q3 : IntKind.i64.wrap (128 + (o : Int)) = 128 + (o : Int) := by rw [i64_w]; unfold wrap64; omega
 have hX0 : readRow p bd (128 + (o : Int)) (m : Int) = (p.drop (128 + o)).take m := by
  unfold readRow
  rw [if_pos he0, show (128 + (o : Int)).toNat = 128 + o by omega, Int.toNat_natCast]
 obtain ⟨Y, hY⟩ : ∃ Y, Y = (p.drop (128 + o)).take m := ⟨_, rfl⟩
 have hyn : Y.length = m := by rw [hY, List.length_take, List.length_drop]; omega
 have hyl : Y.length ≤ 1000000 := by omega
 have hyb : Bytes Y := by rw [hY]; exact b_cut HPB.out _ _
 obtain ⟨X, hX⟩ : ∃ X, X = streamL inner o Y := ⟨_, rfl⟩
 obtain ⟨sp, hsp⟩ : ∃ s, s = strOfNums Y := ⟨_, rfl⟩
 obtain ⟨ss, hss⟩ : ∃ s, s = strOfNums X := ⟨_, rfl⟩
 obtain ⟨kst, hst2⟩ := (rstream_ev inner hu Y hyb hyl o (by omega)).rounds
 rw [← hsp, ← hX, ← hss] at hst2
 have hstf : ∃ k, lock_stream.f k (readRow p bd (128 + (o : Int)) (m : Int)) inner (o : Int) = some (streamL inner o (readRow p bd (128 + (o : Int)) (m : Int))) := by
  rw [hX0, ← hY]
  exact (stream_ev inner hu Y hyl o (by omega)).rounds
 have hno : ∀ j, j < m → bd.getD (128 + o + j) false = false := by
  intro j hj
  cases hv : bd.getD (128 + o + j) false with
  | false => rfl
  | true =>
   have hh : hit bd (128 + (o : Int)) (m : Int) = true := (hit_iff bd (128 + (o : Int)) (m : Int) (by omega) (by omega) (by rw [HBL.out]; omega)).2 ⟨128 + o + j, by omega, by omega, hv⟩
   have he1 := he0
   unfold readErr at he1
   rw [if_pos (show inR (p.length : Int) (128 + (o : Int)) (m : Int) from ⟨by omega, by omega, by omega⟩), if_pos hh] at he1
   exact absurd he1 (by decide)
 obtain ⟨AP, hcut, hcc⟩ := part_cut (w := w) (A0 := A0) (c0 := c0) (off := 128 + o) (C := m) (b := p) (show 128 + o + m ≤ p.length by omega) HPC.out rfl
 rw [show ((128 + o : Nat) : Int) = 128 + (o : Int) by omega] at hcut
 rw [← hY] at hcc
 have q4 : IntKind.i64.wrap (128 + (o : Int) + (m : Int)) = 128 + (o : Int) + (m : Int) := by rw [i64_w]; unfold wrap64; omega
 have HST2 := q1ra hst2
 have HSTF := q1ra hstf
 have HE0 := q1ra he0
 have HXE := q1ra (show streamL inner o (readRow p bd (128 + (o : Int)) (m : Int)) = X by rw [hX0, hX, hY])
 have HNO := q1ra hno
 have HCC := q1ra hcc
 have HSS := q1ra hss
 have HSP := q1ra hsp
 have HYL := q1ra hyn
 clear hst2 hstf he0 hX0 hX hno hcc hss hsp hY hyl hyb hyn
 have tm0 : decide ((0 : Int) < (m : Int)) = true := decide_eq_true (by omega)
 have tm1 : 0 < m := hm
 obtain ⟨LL, hLL⟩ : ∃ L, L = laid [⟨16 + 24 * (i : Int), 24⟩, ⟨128 + (o : Int), (m : Int)⟩] := ⟨_, rfl⟩
 obtain ⟨G, hG⟩ : ∃ G, G = gluedP [] LL := ⟨_, rfl⟩
 have hll : LL.length ≤ 200000 := by
  have h1 := laid_le ⟨16 + 24 * (i : Int), 24⟩
  have h2 := laid_le ⟨128 + (o : Int), (m : Int)⟩
  rw [hLL, show ([⟨16 + 24 * (i : Int), 24⟩, ⟨128 + (o : Int), (m : Int)⟩] : List S52) = [⟨16 + 24 * (i : Int), 24⟩] ++ [⟨128 + (o : Int), (m : Int)⟩] from rfl, laid_app, List.length_append]
  simp only [Int.toNat_natCast] at h2
  have h3 : (24 : Int).toNat = 24 := rfl
  simp only [h3] at h1
  omega
 have hqe := laid_ev [⟨16 + 24 * (i : Int), 24⟩, ⟨128 + (o : Int), (m : Int)⟩] (by simp) (by rw [← hLL]; exact hll)
 have hli := laid_in [⟨16 + 24 * (i : Int), 24⟩, ⟨128 + (o : Int), (m : Int)⟩]
 rw [← hLL] at hqe hli
 obtain ⟨kq, hkq⟩ := hqe.rounds
 obtain ⟨kg, hkg⟩ := (glued_ev LL hll hli).rounds
 have hgs := glued_short LL []
 rw [List.length_nil, ← hG] at hgs
 obtain ⟨ks, hks⟩ := (same_ev G (by omega)).rounds
 rw [← hG] at hkg
 have HKL := q1ra hkq
 have HKG := q1ra hkg
 have HKS := q1ra hks
 have HG := q1ra (show G = gluedP [] (laid [⟨16 + 24 * (i : Int), 24⟩, ⟨128 + (o : Int), (m : Int)⟩]) by rw [hG, hLL])
 have HM0 := q1ra hm
 clear hll hkq hli hkg hgs hks hG hLL hqe hm
 clear hi4 hpz hu hom hz
 clear hhd hlo hkn hZ hko hk hsl
 clear hrb hcb hrl hcl hl hb hp hpm hpc hbd
 go_enter Tryz.func3, Tryz.ntmps3
 go_wp2_with (first
  | (go_at_call 4; refine HIMG.out.mono ?_; rintro e w1 ⟨gI, B1, d1, B2, d2, V1, e1, V2, e2, rfl, hI, hP1, hV1, hle1, hV2, hb1⟩; have hS := img_src hI HPM.out HCL.out; rw [HBD.out] at hS hV2; obtain ⟨M0, hM0⟩ : ∃ W, w1.alloc (.cells #[.slice none 0 0, .slice none 0 0, .slice none 0 0] 29) = W := ⟨_, rfl⟩; have My0 := blk_new w1 (.cells #[.slice none 0 0, .slice none 0 0, .slice none 0 0] 29); have Mb0 := below_alloc (Below.refl w1.heap.size w1) (.cells #[.slice none 0 0, .slice none 0 0, .slice none 0 0] 29); rw [hM0] at My0 Mb0; obtain ⟨M1, hM1⟩ : ∃ W, M0.setCell ⟨w1.heap.size, 0, none⟩ (.slice A0 p.length c0) = W := ⟨_, rfl⟩; have Mq0 : M0.cell? ⟨w1.heap.size, 0, none⟩ = some (.slice none 0 0) := (blk_cell My0 0).trans rfl; have Mk0 := blk_frozen My0 0; have My1 := blk_put My0 0 (.slice A0 p.length c0) rfl; have Mb1 := Mb0.setCell (Nat.le_refl w1.heap.size) (p := ⟨w1.heap.size, 0, none⟩) (.slice A0 p.length c0); rw [hM1] at My1 Mb1; obtain ⟨M2, hM2⟩ : ∃ W, M1.setCell ⟨w1.heap.size, 1, none⟩ (.slice V1 p.length e1) = W := ⟨_, rfl⟩; have Mq1 : M1.cell? ⟨w1.heap.size, 1, none⟩ = some (.slice none 0 0) := (blk_cell My1 1).trans rfl; have Mk1 := blk_frozen My1 1; have My2 := blk_put My1 1 (.slice V1 p.length e1) rfl; have Mb2 := Mb1.setCell (Nat.le_refl w1.heap.size) (p := ⟨w1.heap.size, 1, none⟩) (.slice V1 p.length e1); rw [hM2] at My2 Mb2; obtain ⟨M3, hM3⟩ : ∃ W, M2.setCell ⟨w1.heap.size, 2, none⟩ (.slice V2 p.length e2) = W := ⟨_, rfl⟩; have Mq2 : M2.cell? ⟨w1.heap.size, 2, none⟩ = some (.slice none 0 0) := (blk_cell My2 2).trans rfl; have Mk2 := blk_frozen My2 2; have My3 := blk_put My2 2 (.slice V2 p.length e2) rfl; have Mb3 := Mb2.setCell (Nat.le_refl w1.heap.size) (p := ⟨w1.heap.size, 2, none⟩) (.slice V2 p.length e2); rw [hM3] at My3 Mb3; clear My0 My1 My2 Mb0 Mb1 Mb2; replace My3 := q1ra My3; have HS := q1ra (hS.below Mb3); have HP := q1ra (Kd.C_below hP1 Mb3); have HV := q1ra (Kd.C_below hV2 Mb3); have HB1 := q1ra (q1rS hb1 Mb3); have HM1 := q1ra (Below.refl M3.heap.size M3); have mI : ∀ w, (method 259 79 (.pointer (some ⟨gI, 0, none⟩)) "Size").run Tryz.prog w = .ok (120, .pointer (some ⟨gI, 0, none⟩)) w := (fun _ => by kernel_rfl); have eI : ∀ args w, (callFunc 120 args).run Tryz.prog w = .ok (.enter 120 args) w := enters_ Tryz.func120 (by kernel_rfl) rfl; clear hI hb1 hS hP1 hV1 hle1 hV2 Mb3)
  | (go_at_call 5; refine (Lk.locks_calls _).mono ?_; rintro e w2 ⟨rfl, hb2⟩; have HB2 := q1ra (q1rS HB1.out hb2); have HM2 := q1ra (q1rS HM1.out hb2); clear hb2 HB1 HM1)
  | (go_at_call 6; refine (HOPEN.out _ _ _ _ _ _ _ (HS.out.below HM2.out)).mono ?_; rintro e w3 ⟨gL, rfl, hL, hb3, _⟩; have HB3 := q1ra (q1rS HB2.out hb3); have HM3 := q1ra (q1rS HM2.out hb3); have HL := q1ra hL; have HN3 := q1ra (Below.refl w3.heap.size w3); have mLSize : ∀ w, (method 259 64 (.pointer (some ⟨gL, 0, none⟩)) "Size").run Tryz.prog w = .ok (114, .pointer (some ⟨gL, 0, none⟩)) w := (fun _ => by kernel_rfl); have eLSize : ∀ args w, (callFunc 114 args).run Tryz.prog w = .ok (.enter 114 args) w := enters_ Tryz.func114 (by kernel_rfl) rfl; have mLPlain : ∀ w, (method 259 64 (.pointer (some ⟨gL, 0, none⟩)) "Plain").run Tryz.prog w = .ok (111, .pointer (some ⟨gL, 0, none⟩)) w := (fun _ => by kernel_rfl); have eLPlain : ∀ args w, (callFunc 111 args).run Tryz.prog w = .ok (.enter 111 args) w := enters_ Tryz.func111 (by kernel_rfl) rfl; have mLRead : ∀ w, (method 259 64 (.pointer (some ⟨gL, 0, none⟩)) "Read").run Tryz.prog w = .ok (112, .pointer (some ⟨gL, 0, none⟩)) w := (fun _ => by kernel_rfl); have eLRead : ∀ args w, (callFunc 112 args).run Tryz.prog w = .ok (.enter 112 args) w := enters_ Tryz.func112 (by kernel_rfl) rfl; have mLRoad : ∀ w, (method 259 64 (.pointer (some ⟨gL, 0, none⟩)) "Road").run Tryz.prog w = .ok (113, .pointer (some ⟨gL, 0, none⟩)) w := (fun _ => by kernel_rfl); have eLRoad : ∀ args w, (callFunc 113 args).run Tryz.prog w = .ok (.enter 113 args) w := enters_ Tryz.func113 (by kernel_rfl) rfl; clear hb3 hL HB2 HM2)
  | (go_at_call 7; refine (count_ok _ _ _ _ _ _ _ p (idx p.length) bd (HS.out.below HM3.out) HPB.out HPM.out hok.out).mono ?_; rintro e w4 ⟨rfl, hb4⟩; have HB4 := q1ra (q1rS HB3.out hb4); have HM4 := q1ra (q1rS HM3.out hb4); have HN4 := q1ra (q1rS HN3.out hb4); clear hb4 HB3 HM3 HN3)
  | (go_at_call 8; refine (headof_calls _ _ _ _ _ _ _ p (idx p.length) bd (HS.out.below HM4.out) hd HHD.out).mono ?_; rintro e w5 ⟨rfl, hb5⟩; have HB5 := q1ra (q1rS HB4.out hb5); have HM5 := q1ra (q1rS HM4.out hb5); have HN5 := q1ra (q1rS HN4.out hb5); clear hb5 HB4 HM4 HN4)
  | (go_at_call 120; refine ((HS.out.ans _ HM5.out).size).mono ?_; rintro e w6 ⟨rfl, hb6⟩; have HB6 := q1ra (q1rS HB5.out hb6); have HM6 := q1ra (q1rS HM5.out hb6); have HN6 := q1ra (q1rS HN5.out hb6); clear hb6 HB5 HM5 HN5)
  | (go_at_call 9; refine (wrackref1_LockOf.calls kl hd (p.length : Int) (Z : Int) (keysP p) true _ HLO.out).mono ?_; rintro e w7 ⟨rfl, hb7⟩; have HB7 := q1ra (q1rS HB6.out hb7); have HM7 := q1ra (q1rS HM6.out hb7); have HN7 := q1ra (q1rS HN6.out hb7); clear hb7 HB6 HM6 HN6)
  | (go_at_call 10; refine (wrackref1_Named.calls kn key true _ HKN.out).mono ?_; rintro e w8 ⟨rfl, hb8⟩; have HB8 := q1ra (q1rS HB7.out hb8); have HM8 := q1ra (q1rS HM7.out hb8); have HN8 := q1ra (q1rS HN7.out hb8); clear hb8 HB7 HM7 HN7)
  | (go_at_call 11; refine (wrackref1_Opened.calls ko hd (keysP p) key (i : Int) inner true _ HKO.out).mono ?_; rintro e w9 ⟨rfl, hb9⟩; have HB9 := q1ra (q1rS HB8.out hb9); have HM9 := q1ra (q1rS HM8.out hb9); have HN9 := q1ra (q1rS HN8.out hb9); clear hb9 HB8 HM8 HN8)
  | (go_at_call 114; refine (lk_size _ _ _ _ _ _ _ (HL.out.below HN9.out)).mono ?_; rintro e w10 ⟨rfl, hb10⟩; have HB10 := q1ra (q1rS HB9.out hb10); have HM10 := q1ra (q1rS HM9.out hb10); have HN10 := q1ra (q1rS HN9.out hb10); clear hb10 HB9 HM9 HN9)
  | (go_at_call 111; refine (lk_plain _ _).mono ?_; rintro e w11 ⟨rfl, hb11⟩; have HB11 := q1ra (q1rS HB10.out hb11); have HM11 := q1ra (q1rS HM10.out hb11); have HN11 := q1ra (q1rS HN10.out hb11); clear hb11 HB10 HM10 HN10)
  | (go_at_call 112; refine (lk_read_ok _ _ _ _ _ _ _ _ p (idx p.length) bd (HS.out.below HM11.out) HPB.out HPM.out Z inner i (HL.out.below HN11.out) HU.out HZ.out o m HOM.out HE0.out HSTF.out).mono ?_; rintro e w12 ⟨v7, rfl, hv7, hb12⟩; rw [HXE.out] at hv7; obtain ⟨A7, c7, e7⟩ := Kd.R_slice hv7; subst e7; have HB12 := q1ra (q1rS HB11.out hb12); have HM12 := q1ra (q1rS HM11.out hb12); have HN12 := q1ra (q1rS HN11.out hb12); have HX12 := q1ra (Kd.R_reads' hv7); clear hv7 hb12 HB11 HM11 HN11)
  | (go_at_call 113; refine (lk_road _ _ _ _ _ _ _ _ p bd (HS.out.below HM12.out) HPM.out Z inner i (HL.out.below HN12.out) HZ.out o m HM0.out HOM.out HSL.out HPZ.out G HG.out).mono ?_; rintro e w13 ⟨A8, c8, rfl, hv8, hc8, hb13⟩; have HB13 := q1ra (q1rS HB12.out hb13); have HM13 := q1ra (q1rS HM12.out hb13); have HV8 := q1ra hv8; have HC8 := q1ra hc8; have HBR := q1ra (Below.refl w13.heap.size w13); have HX13 := q1ra (Kd.C_below HX12.out.2.2 hb13); clear hv8 hc8 hb13 HB12 HM12 HN12)
  | ((with_reducible refine gate_dst (N:=176) rfl ?_); refine Kd.R_lit k52 (w0 := w13) w13.heap.size 52 ?hg (N:=176) ?hd (xs := ([⟨16 + 24 * (i : Int), 24⟩, ⟨128 + (o : Int), (m : Int)⟩] : List S52)) (inner := [.int .i64 (16 + 24 * (i : Int)), .int .i64 24, .int .i64 (128 + (o : Int)), .int .i64 (m : Int)]) (ok := fun _ => True) (okp := fun _ => True) ?hr (two_reps _ _ _ _ _ _ _) (fun _ hk => hk) trivial HBR.out HBR.out.size (by simp) ?_; (case hd => rfl); (case hg => rfl); (case hr => first | (go_simp; done) | (go_simp; rfl)); intro vF w14 hF14 hB14 hG14 hn14; obtain ⟨AF, cF, eF⟩ := Kd.R_slice hF14; rw [show ([⟨16 + 24 * (i : Int), 24⟩, ⟨128 + (o : Int), (m : Int)⟩] : List S52).length = 2 from rfl] at eF; subst eF; have HF14 := q1ra (Kd.R_reads' hF14); have HR14 := q1ra hB14; clear hF14 hB14 hG14 hn14 HBR)
  | (go_at_call 13; refine (wrackref1_Laid.calls kq AF cF [⟨16 + 24 * (i : Int), 24⟩, ⟨128 + (o : Int), (m : Int)⟩] LL _ HF14.out.2.2 HF14.out.2.1 HKL.out).mono ?_; rintro e w15 ⟨v15, rfl, hv15, hb15⟩; obtain ⟨A15, c15, e15⟩ := Kd.R_slice hv15; subst e15; have HR15 := q1ra (q1rS HR14.out hb15); have HV15 := q1ra (Kd.R_reads' hv15); clear hv15 hb15 HR14)
  | (go_at_call 12; refine (wrackref1_Glued.calls kg A15 c15 LL G _ HV15.out.2.2 HV15.out.2.1 HKG.out).mono ?_; rintro e w16 ⟨v16, rfl, hv16, hb16⟩; obtain ⟨A16, c16, e16⟩ := Kd.R_slice hv16; subst e16; have HR16 := q1ra (q1rS HR15.out hb16); have HV16 := q1ra (Kd.R_reads' hv16); clear hv16 hb16 HR15))
 have HMK := q1ra (q1rS HM13.out HR16.out)
 have HBK := q1ra (q1rS HB13.out HR16.out)
 have c2_ : w16.cell? ⟨w1.heap.size, 2, none⟩ = some (.slice V2 p.length e2) := (blk_cell (blk_below My3.out HMK.out) 2).trans rfl
 have HVK := q1ra (show Kd.C Kd.bool w16 V2 p.length bd from Kd.C_below HV.out HMK.out)
 go_loop [180] (fun vi => ∃ j : Nat, j ≤ m ∧ vi = .int .i64 (j : Int)) (fun vi => m - (intOf vi).toNat)
 case atStart => exact ⟨0, Nat.zero_le _, rfl⟩
 case round =>
  obtain ⟨j, hj, rfl⟩ := hrel
  by_cases hlt : j < m
  ·
   skip
   have hlti : (j : Int) < (m : Int) := by omega
   have hnx : IntKind.i64.wrap ((j : Int) + 1) = (j : Int) + 1 := by have := HOM.out; have := HZ.out; rw [i64_w]; unfold wrap64; omega
   obtain ⟨ad, rfl, e0⟩ := Kd.at_bool HVK.out ((128 + o + j : Nat) : Int) (by omega) (by have := HPZ.out; have := HOM.out; omega)
   rw [Int.toNat_natCast] at e0
   have hokl : 128 + (o : Int) + (j : Int) < (p.length : Int) := by have := HPZ.out; have := HOM.out; omega
   have hok0 : 0 ≤ 128 + (o : Int) + (j : Int) := by omega
   have hokn : (128 + (o : Int) + (j : Int)).toNat = 128 + o + j := by omega
   have hoks : IntKind.i64.wrap (128 + (o : Int) + (j : Int)) = 128 + (o : Int) + (j : Int) := by have := HOM.out; have := HZ.out; rw [i64_w]; unfold wrap64; omega
   have hval : rdOf false bd ((128 + o + j : Nat) : Int) = bd.getD (128 + o + j) false := by unfold rdOf; rw [Int.toNat_natCast]
   rw [hval] at e0
   rw [HNO.out j hlt] at e0
   clear hval
   go_wp2
   go_round
   case rel => exact ⟨j + 1, hlt, by go_num⟩
   case measure => simp [intOf]; omega
  ·
   have hlf : decide ((j : Int) < (m : Int)) = false := decide_eq_false (by omega)
   have hlf2 : ¬ (j < m) := hlt
   have FX := q1ra (show ∀ W, Below w16.heap.size w16 W → (convert 22 9 (.slice A7 X.length c7)).run Tryz.prog W = .ok (.string ss) W from fun W hB => (Kd.C_string (P := Tryz.prog) Tryz.underlying22 Tryz.underlying5 Tryz.underlying9 (Kd.C_below (Kd.C_below HX13.out HR16.out) hB)).trans (by rw [HSS.out]))
   have FM := q1ra (show ∀ W, Below w16.heap.size w16 W → W.cell? ⟨w1.heap.size, 0, none⟩ = some (.slice A0 p.length c0) from fun W hB => (blk_cell (blk_below My3.out (q1rS HMK.out hB)) 0).trans rfl)
   have FP := q1ra (show ∀ W, Below w16.heap.size w16 W → (convert 22 9 (.slice AP m (c0 - (128 + o)))).run Tryz.prog W = .ok (.string sp) W from fun W hB => by
    have h1 := HCC.out W (Kd.C_below HP.out (q1rS HMK.out hB))
    rw [← HYL.out] at h1 ⊢
    exact (Kd.C_string (P := Tryz.prog) Tryz.underlying22 Tryz.underlying5 Tryz.underlying9 h1).trans (by rw [HSP.out]))
   clear hlt
   go_wp2
   have HED := q1ra (below_drew (Below.refl w16.heap.size w16))
   refine start_ (n := 26) (S := fun w' => (convert 22 9 (.slice A7 X.length c7)).run Tryz.prog w' = .ok (.string ss) w' ∧ w'.cell? ⟨w1.heap.size, 0, none⟩ = some (.slice A0 p.length c0) ∧ (convert 22 9 (.slice AP m (c0 - (128 + o)))).run Tryz.prog w' = .ok (.string sp) w') (ds := []) #[false,false,false,false,false,false,false,false,false,false,false,false,false,false,false,false,false,false,false,false,false,false,false,false,false,false] (by kernel_rfl) rfl rfl ⟨(FX.out _ HED.out), (FM.out _ HED.out), (FP.out _ HED.out)⟩ (fun hHeld => ?_)
   generalize w16.drew = wE at HED hHeld ⊢
   refine pure_ (i:=0) (N:=some 204) (v:=?_) (a':=?_) #[true,false,false,false,false,false,false,false,false,false,false,false,false,false,false,false,false,false,false,false,false,false,false,false,false,false] rfl rfl (by kernel_rfl) (fun _ _ _ h => h) (Or.inl ⟨by rfl, ?_⟩) ?_ ?_
   rotate_left
   ·
    intro w'
    go_simp
    with_reducible rfl
   rotate_left
   ·
    simp only [Act.put, q1rI, q1r0, q1r1, i64_w, i32_w]
    rfl
   refine pure_ (i:=1) (N:=some 205) (v:=?_) (a':=?_) #[true,true,false,false,false,false,false,false,false,false,false,false,false,false,false,false,false,false,false,false,false,false,false,false,false,false] rfl rfl (by kernel_rfl) (fun _ _ _ h => h) (Or.inl ⟨by rfl, ?_⟩) ?_ ?_
   rotate_left
   ·
    intro w'
    go_simp
    with_reducible rfl
   rotate_left
   ·
    simp only [Act.put, q1rI, q1r0, q1r1, i64_w, i32_w]
    rfl
   refine pure_ (i:=2) (N:=some 206) (v:=?_) (a':=?_) #[true,true,true,false,false,false,false,false,false,false,false,false,false,false,false,false,false,false,false,false,false,false,false,false,false,false] rfl rfl (by kernel_rfl) (fun _ _ _ h => h) (Or.inl ⟨by rfl, ?_⟩) ?_ ?_
   rotate_left
   ·
    intro w'
    go_simp
    with_reducible rfl
   rotate_left
   ·
    simp only [Act.put, q1rI, q1r0, q1r1, i64_w, i32_w]
    rfl
   refine pure_ (i:=3) (N:=some 207) (v:=?_) (a':=?_) #[true,true,true,true,false,false,false,false,false,false,false,false,false,false,false,false,false,false,false,false,false,false,false,false,false,false] rfl rfl (by kernel_rfl) (fun _ _ _ h => h) (Or.inl ⟨by rfl, ?_⟩) ?_ ?_
   rotate_left
   ·
    intro w'
    go_simp
    with_reducible rfl
   rotate_left
   ·
    simp only [Act.put, q1rI, q1r0, q1r1, i64_w, i32_w]
    rfl
   refine pure_ (i:=5) (N:=some 209) (v:=?_) (a':=?_) #[true,true,true,true,false,true,false,false,false,false,false,false,false,false,false,false,false,false,false,false,false,false,false,false,false,false] rfl rfl (by kernel_rfl) (fun _ _ _ h => h) (Or.inl ⟨by rfl, ?_⟩) ?_ ?_
   rotate_left
   ·
    intro w'
    go_simp
    with_reducible rfl
   rotate_left
   ·
    simp only [Act.put, q1rI, q1r0, q1r1, i64_w, i32_w]
    rfl
   refine pure_ (i:=7) (N:=some 211) (v:=?_) (a':=?_) #[true,true,true,true,false,true,false,true,false,false,false,false,false,false,false,false,false,false,false,false,false,false,false,false,false,false] rfl rfl (by kernel_rfl) (fun _ _ _ h => h) (Or.inl ⟨by rfl, ?_⟩) ?_ ?_
   rotate_left
   ·
    intro w'
    go_simp
    with_reducible rfl
   rotate_left
   ·
    simp only [Act.put, q1rI, q1r0, q1r1, i64_w, i32_w]
    rfl
   refine pure_ (i:=8) (N:=some 212) (v:=?_) (a':=?_) #[true,true,true,true,false,true,false,true,true,false,false,false,false,false,false,false,false,false,false,false,false,false,false,false,false,false] rfl rfl (by kernel_rfl) (fun _ _ _ h => h) (Or.inl ⟨by rfl, ?_⟩) ?_ ?_
   rotate_left
   ·
    intro w'
    go_simp
    with_reducible rfl
   rotate_left
   ·
    simp only [Act.put, q1rI, q1r0, q1r1, i64_w, i32_w]
    rfl
   refine pure_ (i:=9) (N:=some 213) (v:=?_) (a':=?_) #[true,true,true,true,false,true,false,true,true,true,false,false,false,false,false,false,false,false,false,false,false,false,false,false,false,false] rfl rfl (by kernel_rfl) (fun _ _ _ h => h) (Or.inl ⟨by rfl, ?_⟩) ?_ ?_
   rotate_left
   ·
    intro w'
    go_simp
    with_reducible rfl
   rotate_left
   ·
    simp only [Act.put, q1rI, q1r0, q1r1, i64_w, i32_w]
    rfl
   refine pure_ (i:=10) (N:=some 214) (v:=?_) (a':=?_) #[true,true,true,true,false,true,false,true,true,true,true,false,false,false,false,false,false,false,false,false,false,false,false,false,false,false] rfl rfl (by kernel_rfl) (fun _ _ _ h => h) (Or.inl ⟨by rfl, ?_⟩) ?_ ?_
   rotate_left
   ·
    intro w'
    go_simp
    with_reducible rfl
   rotate_left
   ·
    simp only [Act.put, q1rI, q1r0, q1r1, i64_w, i32_w]
    rfl
   refine pure_ (i:=11) (N:=some 215) (v:=?_) (a':=?_) #[true,true,true,true,false,true,false,true,true,true,true,true,false,false,false,false,false,false,false,false,false,false,false,false,false,false] rfl rfl (by kernel_rfl) (fun _ _ _ h => h) (Or.inl ⟨by rfl, ?_⟩) ?_ ?_
   rotate_left
   ·
    intro w'
    go_simp
    with_reducible rfl
   rotate_left
   ·
    simp only [Act.put, q1rI, q1r0, q1r1, i64_w, i32_w]
    rfl
   refine pure_ (i:=12) (N:=some 216) (v:=?_) (a':=?_) #[true,true,true,true,false,true,false,true,true,true,true,true,true,false,false,false,false,false,false,false,false,false,false,false,false,false] rfl rfl (by kernel_rfl) (fun _ _ _ h => h) (Or.inl ⟨by rfl, ?_⟩) ?_ ?_
   rotate_left
   ·
    intro w'
    go_simp
    with_reducible rfl
   rotate_left
   ·
    simp only [Act.put, q1rI, q1r0, q1r1, i64_w, i32_w]
    rfl
   refine pure_ (i:=15) (N:=some 219) (v:=?_) (a':=?_) #[true,true,true,true,false,true,false,true,true,true,true,true,true,false,false,true,false,false,false,false,false,false,false,false,false,false] rfl rfl (by kernel_rfl) (fun _ _ _ h => h) (Or.inl ⟨by rfl, ?_⟩) ?_ ?_
   rotate_left
   ·
    intro w'
    go_simp
    with_reducible rfl
   rotate_left
   ·
    simp only [Act.put, q1rI, q1r0, q1r1, i64_w, i32_w]
    rfl
   refine pure_ (i:=16) (N:=some 220) (v:=?_) (a':=?_) #[true,true,true,true,false,true,false,true,true,true,true,true,true,false,false,true,true,false,false,false,false,false,false,false,false,false] rfl rfl (by kernel_rfl) (fun _ _ _ h => h) (Or.inl ⟨by rfl, ?_⟩) ?_ ?_
   rotate_left
   ·
    intro w'
    go_simp
    with_reducible rfl
   rotate_left
   ·
    simp only [Act.put, q1rI, q1r0, q1r1, i64_w, i32_w]
    rfl
   refine take_ (i:=4) (N:=some 208) (v:=?_) (a':=?_) #[true,true,true,true,true,true,false,true,true,true,true,true,true,false,false,true,true,false,false,false,false,false,false,false,false,false] rfl rfl (by kernel_rfl) (fun _ _ _ h => h) (Or.inl ⟨by rfl, ?_⟩) hHeld ?_ ?_
   rotate_left
   ·
    rintro w' ⟨s0, s1, s2⟩
    go_simp
    with_reducible rfl
   rotate_left
   ·
    simp only [Act.put, q1rI, q1r0, q1r1, i64_w, i32_w]
    rfl
   refine take_ (i:=6) (N:=some 210) (v:=?_) (a':=?_) #[true,true,true,true,true,true,true,true,true,true,true,true,true,false,false,true,true,false,false,false,false,false,false,false,false,false] rfl rfl (by kernel_rfl) (fun _ _ _ h => h) (Or.inl ⟨by rfl, ?_⟩) hHeld ?_ ?_
   rotate_left
   ·
    rintro w' ⟨s0, s1, s2⟩
    go_simp
    with_reducible rfl
   rotate_left
   ·
    simp only [Act.put, q1rI, q1r0, q1r1, i64_w, i32_w]
    rfl
   refine pure_ (i:=13) (N:=some 217) (v:=?_) (a':=?_) #[true,true,true,true,true,true,true,true,true,true,true,true,true,true,false,true,true,false,false,false,false,false,false,false,false,false] rfl rfl (by kernel_rfl) (fun _ _ _ h => h) (Or.inl ⟨by rfl, ?_⟩) ?_ ?_
   rotate_left
   ·
    intro w'
    go_simp
    with_reducible rfl
   rotate_left
   ·
    simp only [Act.put, q1rI, q1r0, q1r1, i64_w, i32_w]
    rfl
   refine take_ (i:=14) (N:=some 218) (v:=?_) (a':=?_) #[true,true,true,true,true,true,true,true,true,true,true,true,true,true,true,true,true,false,false,false,false,false,false,false,false,false] rfl rfl (by kernel_rfl) (fun _ _ _ h => h) (Or.inl ⟨by rfl, ?_⟩) hHeld ?_ ?_
   rotate_left
   ·
    rintro w' ⟨s0, s1, s2⟩
    go_simp
    with_reducible rfl
   rotate_left
   ·
    simp only [Act.put, q1rI, q1r0, q1r1, i64_w, i32_w]
    rfl
   refine one_ (i:=17) (N:=some 221) #[true,true,true,true,true,true,true,true,true,true,true,true,true,true,true,true,true,true,false,false,false,false,false,false,false,false] rfl rfl (by kernel_rfl) (by decide) (fun K hK => ?_)
   refine call_ 15 #[.string sp, .int .u64 inner, .int .i64 (o : Int)] (by rfl) rfl ?_ ?_
   ·
    have he := enters_ Tryz.func15 (by kernel_rfl) rfl
    unfold execOp
    simp [resolve, Deferred.ofValue, invoke, Act.eval, he]
   with_reducible refine (wrackref1_Stream.calls kst sp inner (o : Int) ss _ HST2.out).mono ?_
   rintro e wS ⟨rfl, hbS⟩
   have HES := q1ra (q1rS HED.out hbS)
   refine ⟨_, rfl, ?_⟩
   refine hK.out _ _ ⟨FX.out _ HES.out, FM.out _ HES.out, FP.out _ HES.out⟩ (fun hHeld => ?_)
   clear hK K
   refine norm_ (a' := ?_) ?_ ?_
   rotate_left
   ·
    show Act.put _ (some 221) _ = _
    simp only [Act.put, q1rI, q1r0, q1r1, i64_w, i32_w]
    rfl
   refine pure_ (i:=18) (N:=some 222) (v:=?_) (a':=?_) #[true,true,true,true,true,true,true,true,true,true,true,true,true,true,true,true,true,true,true,false,false,false,false,false,false,false] rfl rfl (by kernel_rfl) (fun _ _ _ h => h) (Or.inl ⟨by rfl, ?_⟩) ?_ ?_
   rotate_left
   ·
    intro w'
    go_simp
    with_reducible rfl
   rotate_left
   ·
    simp only [Act.put, q1rI, q1r0, q1r1, i64_w, i32_w]
    rfl
   refine pure_ (i:=19) (N:=some 223) (v:=?_) (a':=?_) #[true,true,true,true,true,true,true,true,true,true,true,true,true,true,true,true,true,true,true,true,false,false,false,false,false,false] rfl rfl (by kernel_rfl) (fun _ _ _ h => h) (Or.inl ⟨by rfl, ?_⟩) ?_ ?_
   rotate_left
   ·
    intro w'
    go_simp
    with_reducible rfl
   rotate_left
   ·
    simp only [Act.put, q1rI, q1r0, q1r1, i64_w, i32_w]
    rfl
   refine pure_ (i:=20) (N:=some 224) (v:=?_) (a':=?_) #[true,true,true,true,true,true,true,true,true,true,true,true,true,true,true,true,true,true,true,true,true,false,false,false,false,false] rfl rfl (by kernel_rfl) (fun _ _ _ h => h) (Or.inl ⟨by rfl, ?_⟩) ?_ ?_
   rotate_left
   ·
    intro w'
    go_simp
    with_reducible rfl
   rotate_left
   ·
    simp only [Act.put, q1rI, q1r0, q1r1, i64_w, i32_w]
    rfl
   refine pure_ (i:=21) (N:=some 225) (v:=?_) (a':=?_) #[true,true,true,true,true,true,true,true,true,true,true,true,true,true,true,true,true,true,true,true,true,true,false,false,false,false] rfl rfl (by kernel_rfl) (fun _ _ _ h => h) (Or.inl ⟨by rfl, ?_⟩) ?_ ?_
   rotate_left
   ·
    intro w'
    go_simp
    with_reducible rfl
   rotate_left
   ·
    simp only [Act.put, q1rI, q1r0, q1r1, i64_w, i32_w]
    rfl
   refine pure_ (i:=22) (N:=some 226) (v:=?_) (a':=?_) #[true,true,true,true,true,true,true,true,true,true,true,true,true,true,true,true,true,true,true,true,true,true,true,false,false,false] rfl rfl (by kernel_rfl) (fun _ _ _ h => h) (Or.inl ⟨by rfl, ?_⟩) ?_ ?_
   rotate_left
   ·
    intro w'
    go_simp
    with_reducible rfl
   rotate_left
   ·
    simp only [Act.put, q1rI, q1r0, q1r1, i64_w, i32_w]
    rfl
   refine one_ (i:=23) (N:=some 227) #[true,true,true,true,true,true,true,true,true,true,true,true,true,true,true,true,true,true,true,true,true,true,true,true,false,false] rfl rfl (by kernel_rfl) (by decide) (fun K hK => ?_)
   refine call_ 14 #[.slice A8 G.length c8, .slice A16 G.length c16] (by rfl) rfl ?_ ?_
   ·
    have he := enters_ Tryz.func14 (by kernel_rfl) rfl
    unfold execOp
    simp [resolve, Deferred.ofValue, invoke, Act.eval, he]
   with_reducible refine (wrackref1_SameSpans.calls ks A8 c8 G A16 c16 G true _ (Kd.C_below HV8.out (q1rS HR16.out HES.out)) HC8.out (Kd.C_below HV16.out.2.2 HES.out) HV16.out.2.1 HKS.out).mono ?_
   rintro e wT ⟨rfl, hbT⟩
   have HET := q1ra (q1rS HES.out hbT.below)
   refine ⟨_, rfl, ?_⟩
   refine hK.out _ _ ⟨FX.out _ HET.out, FM.out _ HET.out, FP.out _ HET.out⟩ (fun hHeld => ?_)
   clear hK K
   refine norm_ (a' := ?_) ?_ ?_
   rotate_left
   ·
    show Act.put _ (some 227) _ = _
    simp only [Act.put, q1rI, q1r0, q1r1, i64_w, i32_w]
    rfl
   refine pure_ (i:=24) (N:=some 228) (v:=?_) (a':=?_) #[true,true,true,true,true,true,true,true,true,true,true,true,true,true,true,true,true,true,true,true,true,true,true,true,true,false] rfl rfl (by kernel_rfl) (fun _ _ _ h => h) (Or.inl ⟨by rfl, ?_⟩) ?_ ?_
   rotate_left
   ·
    intro w'
    go_simp
    with_reducible rfl
   rotate_left
   ·
    simp only [Act.put, q1rI, q1r0, q1r1, i64_w, i32_w]
    rfl
   refine pure_ (i:=25) (N:=some 10) (v:=?_) (a':=?_) #[true,true,true,true,true,true,true,true,true,true,true,true,true,true,true,true,true,true,true,true,true,true,true,true,true,true] rfl rfl (by kernel_rfl) (fun _ _ _ h => h) (Or.inl ⟨by rfl, ?_⟩) ?_ ?_
   rotate_left
   ·
    intro w'
    go_simp
    with_reducible rfl
   rotate_left
   ·
    simp only [Act.put, q1rI, q1r0, q1r1, i64_w, i32_w]
    rfl
   refine done_ (by kernel_rfl) ?_
   go_wp2
   go_ret
   exact ⟨rfl, q1rS HBK.out HET.out⟩
end Go.Proofs.YtagcaheopbmdiaaGreat.Pure
