/- Sealed layers: the law, LoLaw. No condition. -/
import Derived.Test.YtagcaheopbmdiaaGreatYPureLockOpensK
import Derived.Test.YtagcaheopbmdiaaGreatYPureLockOpensM
import Derived.Test.YtagcaheopbmdiaaGreatYPureLockOpensLK
namespace Go.Proofs.YtagcaheopbmdiaaGreat.Pure
open Go.Proofs.YtagcaheopbmdiaaGreat.SumPlain Go.Maps Go.Proofs.YtagcaheopbmdiaaGreat.Lk
open Go Go.RowKit Go.Proofs.YtagcaheopbmdiaaGreat.QLockOpens Go.Proofs.YtagcaheopbmdiaaGreatW.PrintWords Go.Proofs.YtagcaheopbmdiaaGreatW.PrintLast Go.Proofs.YtagcaheopbmdiaaGreatW.PrintMore
set_option linter.unusedVariables false
set_option linter.unusedSimpArgs false
theorem q1oS : type_of% @below_step := @below_step
theorem q1oa : type_of% @Aside0.mk := @Aside0.mk
set_option maxHeartbeats 4000000 in
theorem headof_calls (w : World) (T : Nat) (x : Value) (fR fO fS fP : Nat) (b fr : List Int) (bad : List Bool) (h : SrcIs w T x fR fO fS fP b fr bad) (hd : ByteArray) (hhd : hd = strOfNums (readRow b bad 0 128)) :
  Calls Tryz.prog 8 #[.iface T x] w fun e w' => e = .returned (.string hd) ∧ Below w.heap.size w w' := by
 have HG := q1oa (get_calls w T x fR fO fS fP b fr bad h 0 128)
 rw [← hhd] at HG
 clear h hhd
 go_enter Tryz.func8, Tryz.ntmps8
 go_wp2_with (first
  | (go_at_call 24; refine HG.out.mono ?_; rintro e w1 ⟨rfl, hb1⟩; have HB1 := q1oa hb1; clear hb1))
 go_ret
 exact ⟨rfl, HB1.out⟩
theorem ok_row (p : List Int) (bd : List Bool) (h : rOk p bd) : readRow p bd 0 128 = p.take 128 := by
 unfold readRow
 rw [if_pos h.1]
 rfl
theorem no_row (p : List Int) (hb : Bytes p) (hn : p.length ≤ 65536) (bd : List Bool) (h : ¬ rOk p bd) : ∃ k n keys, wrackref1_LockOf.f k (strOfNums (readRow p bd 0 128)) (p.length : Int) = some (n, keys, false) := by
 by_cases c : readErr p.length bd 0 128 = 0
 ·
  have hf : ¬ formOk p := fun h2 => h ⟨c, h2⟩
  obtain ⟨n, keys, he, _⟩ := lockof_ev p hb (by omega)
  rw [decide_eq_false hf] at he
  obtain ⟨k, hk⟩ := he.rounds
  have e : readRow p bd 0 128 = p.take 128 := by unfold readRow; rw [if_pos c]; rfl
  rw [e]
  exact ⟨k, n, keys, hk⟩
 ·
  obtain ⟨k, hk⟩ := (lockof_none (p.length : Int)).rounds
  have e : readRow p bd 0 128 = [] := by unfold readRow; rw [if_neg c]
  rw [e]
  exact ⟨k, 0, 0, hk⟩
theorem ok_of (p : List Int) (hb : Bytes p) (hn : p.length ≤ 65536) (h : formOk p) : ∃ k, wrackref1_LockOf.f k (strOfNums (p.take 128)) (p.length : Int) = some (leK ((p.drop 4).take 4), keysP p, true) := by
 obtain ⟨n, keys, he, h2⟩ := lockof_ev p hb (by omega)
 rw [decide_eq_true h, (h2 h).1, (h2 h).2] at he
 exact he.rounds
theorem ok_opened (p : List Int) (hb : Bytes p) (h : formOk p) (key : ByteArray) (hk : nameP key = true) : ∃ k, wrackref1_Opened.f k (strOfNums (p.take 128)) (keysP p) key = some (slotsP p key) := by
 obtain ⟨h128, _, _, hk1, hk4, _⟩ := h
 have hz := nameP_size key hk
 have hl : (p.take 128).length = 128 := by rw [List.length_take]; omega
 have e := opened_ev (p.take 128) (b_tk hb 128) key (by omega) (by omega) (keysP p).toNat (by omega)
 rw [openL_take p key 128 (keysP p).toNat 0 (by omega), show (((keysP p).toNat : Nat) : Int) = keysP p by omega] at e
 exact e.rounds
set_option maxHeartbeats 16000000 in
set_option maxRecDepth 100000 in
/-- no sealed layer -/
theorem lo_no (A0 : Option Addr) (c0 : Nat) (b : List Int) (A1 : Option Addr) (c1 : Nat) (bad : List S52) (key : ByteArray) (off n : Int) (w : World) (hrb : Kd.C (Kd.int .u8) w A0 b.length b) (hcb : b.length ≤ c0) (hrl : Kd.C k52 w A1 bad.length bad) (hcl : bad.length ≤ c1) (hl : bad.length * 16 ≤ 140737488351232) (hb : Bytes b) (p : List Int) (hp : p = b.take (min b.length 65536)) (bd : List Bool) (hbd : bd = badOf p.length bad) (hno : ¬ rOk p bd) :
  Calls Tryz.prog 3 #[.slice A0 b.length c0, .slice A1 bad.length c1, .string key, .int .i64 off, .int .i64 n] w fun e w' => e = .returned (.bool true) ∧ Below w.heap.size w w' := by
 have hpm : p.length ≤ 65536 := by rw [hp, List.length_take]; omega
 have hpc : p.length ≤ c0 := by rw [hp, List.length_take]; omega
 have HIMG := q1oa (image_law A0 c0 b A1 c1 bad w hrb hcb hrl hcl hl p hp)
 have HPM := q1oa hpm
 have HPC := q1oa hpc
 have HPB := q1oa (show Bytes p by rw [hp]; exact b_tk hb _)
 have HCL := q1oa (show (cutS bad p.length).length ≤ 8796093021952 by have := cut_few bad p.length hpm; omega)
 have HBD := q1oa (show badOf p.length (cutS bad p.length) = bd by rw [hbd]; exact cut_bad bad p.length hpm)
 have HBL := q1oa (show bd.length = p.length by rw [hbd]; exact badOf_len _ _)
 have hu29 := Tryz.underlying29
 obtain ⟨hd, hhd⟩ : ∃ h, h = strOfNums (readRow p bd 0 128) := ⟨_, rfl⟩
 have HHD := q1oa hhd
 obtain ⟨kl, ln, lk, hlo⟩ := no_row p HPB.out hpm bd hno
 rw [← hhd] at hlo
 have HLO := q1oa hlo
 replace hno := q1oa hno
 clear hhd hlo
 clear hrb hcb hrl hcl hl hb hp hpm hpc hbd
 go_enter Tryz.func3, Tryz.ntmps3
 go_wp2_with (first
  | (go_at_call 4; refine HIMG.out.mono ?_; rintro e w1 ⟨gI, B1, d1, B2, d2, V1, e1, V2, e2, rfl, hI, hP1, hV1, hle1, hV2, hb1⟩; have hS := img_src hI HPM.out HCL.out; rw [HBD.out] at hS hV2; obtain ⟨M0, hM0⟩ : ∃ W, w1.alloc (.cells #[.slice none 0 0, .slice none 0 0, .slice none 0 0] 29) = W := ⟨_, rfl⟩; have My0 := blk_new w1 (.cells #[.slice none 0 0, .slice none 0 0, .slice none 0 0] 29); have Mb0 := below_alloc (Below.refl w1.heap.size w1) (.cells #[.slice none 0 0, .slice none 0 0, .slice none 0 0] 29); rw [hM0] at My0 Mb0; obtain ⟨M1, hM1⟩ : ∃ W, M0.setCell ⟨w1.heap.size, 0, none⟩ (.slice A0 p.length c0) = W := ⟨_, rfl⟩; have Mq0 : M0.cell? ⟨w1.heap.size, 0, none⟩ = some (.slice none 0 0) := (blk_cell My0 0).trans rfl; have Mk0 := blk_frozen My0 0; have My1 := blk_put My0 0 (.slice A0 p.length c0) rfl; have Mb1 := Mb0.setCell (Nat.le_refl w1.heap.size) (p := ⟨w1.heap.size, 0, none⟩) (.slice A0 p.length c0); rw [hM1] at My1 Mb1; obtain ⟨M2, hM2⟩ : ∃ W, M1.setCell ⟨w1.heap.size, 1, none⟩ (.slice V1 p.length e1) = W := ⟨_, rfl⟩; have Mq1 : M1.cell? ⟨w1.heap.size, 1, none⟩ = some (.slice none 0 0) := (blk_cell My1 1).trans rfl; have Mk1 := blk_frozen My1 1; have My2 := blk_put My1 1 (.slice V1 p.length e1) rfl; have Mb2 := Mb1.setCell (Nat.le_refl w1.heap.size) (p := ⟨w1.heap.size, 1, none⟩) (.slice V1 p.length e1); rw [hM2] at My2 Mb2; obtain ⟨M3, hM3⟩ : ∃ W, M2.setCell ⟨w1.heap.size, 2, none⟩ (.slice V2 p.length e2) = W := ⟨_, rfl⟩; have Mq2 : M2.cell? ⟨w1.heap.size, 2, none⟩ = some (.slice none 0 0) := (blk_cell My2 2).trans rfl; have Mk2 := blk_frozen My2 2; have My3 := blk_put My2 2 (.slice V2 p.length e2) rfl; have Mb3 := Mb2.setCell (Nat.le_refl w1.heap.size) (p := ⟨w1.heap.size, 2, none⟩) (.slice V2 p.length e2); rw [hM3] at My3 Mb3; clear My0 My1 My2 Mb0 Mb1 Mb2; replace My3 := q1oa My3; have HS := q1oa (hS.below Mb3); have HP := q1oa (Kd.C_below hP1 Mb3); have HV := q1oa (Kd.C_below hV2 Mb3); have HB1 := q1oa (q1oS hb1 Mb3); have HM1 := q1oa (Below.refl M3.heap.size M3); have mI : ∀ w, (method 259 79 (.pointer (some ⟨gI, 0, none⟩)) "Size").run Tryz.prog w = .ok (120, .pointer (some ⟨gI, 0, none⟩)) w := (fun _ => by kernel_rfl); have eI : ∀ args w, (callFunc 120 args).run Tryz.prog w = .ok (.enter 120 args) w := enters_ Tryz.func120 (by kernel_rfl) rfl; clear hI hb1 hS hP1 hV1 hle1 hV2 Mb3)
  | (go_at_call 5; refine (Lk.locks_calls _).mono ?_; rintro e w2 ⟨rfl, hb2⟩; have HB2 := q1oa (q1oS HB1.out hb2); have HM2 := q1oa (q1oS HM1.out hb2); clear hb2 HB1 HM1)
  | (go_at_call 6; refine (open_no _ _ _ _ _ _ _ p (idx p.length) bd (HS.out.below HM2.out) HPB.out HPM.out key hno.out).mono ?_; rintro e w3 ⟨rfl, hb3⟩; have HB3 := q1oa (q1oS HB2.out hb3); have HM3 := q1oa (q1oS HM2.out hb3); clear hb3 HB2 HM2)
  | (go_at_call 7; refine (count_no _ _ _ _ _ _ _ p (idx p.length) bd (HS.out.below HM3.out) HPB.out HPM.out hno.out).mono ?_; rintro e w4 ⟨rfl, hb4⟩; have HB4 := q1oa (q1oS HB3.out hb4); have HM4 := q1oa (q1oS HM3.out hb4); clear hb4 HB3 HM3)
  | (go_at_call 8; refine (headof_calls _ _ _ _ _ _ _ p (idx p.length) bd (HS.out.below HM4.out) hd HHD.out).mono ?_; rintro e w5 ⟨rfl, hb5⟩; have HB5 := q1oa (q1oS HB4.out hb5); have HM5 := q1oa (q1oS HM4.out hb5); clear hb5 HB4 HM4)
  | (go_at_call 120; refine ((HS.out.ans _ HM5.out).size).mono ?_; rintro e w6 ⟨rfl, hb6⟩; have HB6 := q1oa (q1oS HB5.out hb6); have HM6 := q1oa (q1oS HM5.out hb6); clear hb6 HB5 HM5)
  | (go_at_call 9; refine (wrackref1_LockOf.calls kl hd (p.length : Int) ln lk false _ HLO.out).mono ?_; rintro e w7 ⟨rfl, hb7⟩; have HB7 := q1oa (q1oS HB6.out hb7); have HM7 := q1oa (q1oS HM6.out hb7); clear hb7 HB6 HM6))
 go_ret
 exact ⟨rfl, HB7.out⟩
set_option maxHeartbeats 16000000 in
set_option maxRecDepth 100000 in
/-- a key that is no name -/
theorem lo_name (A0 : Option Addr) (c0 : Nat) (b : List Int) (A1 : Option Addr) (c1 : Nat) (bad : List S52) (key : ByteArray) (off n : Int) (w : World) (hrb : Kd.C (Kd.int .u8) w A0 b.length b) (hcb : b.length ≤ c0) (hrl : Kd.C k52 w A1 bad.length bad) (hcl : bad.length ≤ c1) (hl : bad.length * 16 ≤ 140737488351232) (hb : Bytes b) (p : List Int) (hp : p = b.take (min b.length 65536)) (bd : List Bool) (hbd : bd = badOf p.length bad) (hok : rOk p bd) (hk : nameP key = false) :
  Calls Tryz.prog 3 #[.slice A0 b.length c0, .slice A1 bad.length c1, .string key, .int .i64 off, .int .i64 n] w fun e w' => e = .returned (.bool true) ∧ Below w.heap.size w w' := by
 have hpm : p.length ≤ 65536 := by rw [hp, List.length_take]; omega
 have hpc : p.length ≤ c0 := by rw [hp, List.length_take]; omega
 have HIMG := q1oa (image_law A0 c0 b A1 c1 bad w hrb hcb hrl hcl hl p hp)
 have HPM := q1oa hpm
 have HPC := q1oa hpc
 have HPB := q1oa (show Bytes p by rw [hp]; exact b_tk hb _)
 have HCL := q1oa (show (cutS bad p.length).length ≤ 8796093021952 by have := cut_few bad p.length hpm; omega)
 have HBD := q1oa (show badOf p.length (cutS bad p.length) = bd by rw [hbd]; exact cut_bad bad p.length hpm)
 have HBL := q1oa (show bd.length = p.length by rw [hbd]; exact badOf_len _ _)
 have hu29 := Tryz.underlying29
 obtain ⟨hd, hhd⟩ : ∃ h, h = strOfNums (readRow p bd 0 128) := ⟨_, rfl⟩
 have HHD := q1oa hhd
 rw [ok_row p bd hok] at hhd
 obtain ⟨kl, hlo⟩ := ok_of p HPB.out hpm hok.2
 obtain ⟨kn, hkn⟩ := (named_ev key).rounds
 rw [← hhd] at hlo
 have HLO := q1oa hlo
 have HKN := q1oa hkn
 rw [hk] at HKN
 replace hok := q1oa hok
 replace hk := q1oa hk
 obtain ⟨Z, hZ⟩ : ∃ Z, Z = leK ((p.drop 4).take 4) := ⟨_, rfl⟩
 rw [← hZ] at HLO
 clear hhd hlo hkn hZ
 clear hrb hcb hrl hcl hl hb hp hpm hpc hbd
 go_enter Tryz.func3, Tryz.ntmps3
 go_wp2_with (first
  | (go_at_call 4; refine HIMG.out.mono ?_; rintro e w1 ⟨gI, B1, d1, B2, d2, V1, e1, V2, e2, rfl, hI, hP1, hV1, hle1, hV2, hb1⟩; have hS := img_src hI HPM.out HCL.out; rw [HBD.out] at hS hV2; obtain ⟨M0, hM0⟩ : ∃ W, w1.alloc (.cells #[.slice none 0 0, .slice none 0 0, .slice none 0 0] 29) = W := ⟨_, rfl⟩; have My0 := blk_new w1 (.cells #[.slice none 0 0, .slice none 0 0, .slice none 0 0] 29); have Mb0 := below_alloc (Below.refl w1.heap.size w1) (.cells #[.slice none 0 0, .slice none 0 0, .slice none 0 0] 29); rw [hM0] at My0 Mb0; obtain ⟨M1, hM1⟩ : ∃ W, M0.setCell ⟨w1.heap.size, 0, none⟩ (.slice A0 p.length c0) = W := ⟨_, rfl⟩; have Mq0 : M0.cell? ⟨w1.heap.size, 0, none⟩ = some (.slice none 0 0) := (blk_cell My0 0).trans rfl; have Mk0 := blk_frozen My0 0; have My1 := blk_put My0 0 (.slice A0 p.length c0) rfl; have Mb1 := Mb0.setCell (Nat.le_refl w1.heap.size) (p := ⟨w1.heap.size, 0, none⟩) (.slice A0 p.length c0); rw [hM1] at My1 Mb1; obtain ⟨M2, hM2⟩ : ∃ W, M1.setCell ⟨w1.heap.size, 1, none⟩ (.slice V1 p.length e1) = W := ⟨_, rfl⟩; have Mq1 : M1.cell? ⟨w1.heap.size, 1, none⟩ = some (.slice none 0 0) := (blk_cell My1 1).trans rfl; have Mk1 := blk_frozen My1 1; have My2 := blk_put My1 1 (.slice V1 p.length e1) rfl; have Mb2 := Mb1.setCell (Nat.le_refl w1.heap.size) (p := ⟨w1.heap.size, 1, none⟩) (.slice V1 p.length e1); rw [hM2] at My2 Mb2; obtain ⟨M3, hM3⟩ : ∃ W, M2.setCell ⟨w1.heap.size, 2, none⟩ (.slice V2 p.length e2) = W := ⟨_, rfl⟩; have Mq2 : M2.cell? ⟨w1.heap.size, 2, none⟩ = some (.slice none 0 0) := (blk_cell My2 2).trans rfl; have Mk2 := blk_frozen My2 2; have My3 := blk_put My2 2 (.slice V2 p.length e2) rfl; have Mb3 := Mb2.setCell (Nat.le_refl w1.heap.size) (p := ⟨w1.heap.size, 2, none⟩) (.slice V2 p.length e2); rw [hM3] at My3 Mb3; clear My0 My1 My2 Mb0 Mb1 Mb2; replace My3 := q1oa My3; have HS := q1oa (hS.below Mb3); have HP := q1oa (Kd.C_below hP1 Mb3); have HV := q1oa (Kd.C_below hV2 Mb3); have HB1 := q1oa (q1oS hb1 Mb3); have HM1 := q1oa (Below.refl M3.heap.size M3); have mI : ∀ w, (method 259 79 (.pointer (some ⟨gI, 0, none⟩)) "Size").run Tryz.prog w = .ok (120, .pointer (some ⟨gI, 0, none⟩)) w := (fun _ => by kernel_rfl); have eI : ∀ args w, (callFunc 120 args).run Tryz.prog w = .ok (.enter 120 args) w := enters_ Tryz.func120 (by kernel_rfl) rfl; clear hI hb1 hS hP1 hV1 hle1 hV2 Mb3)
  | (go_at_call 5; refine (Lk.locks_calls _).mono ?_; rintro e w2 ⟨rfl, hb2⟩; have HB2 := q1oa (q1oS HB1.out hb2); have HM2 := q1oa (q1oS HM1.out hb2); clear hb2 HB1 HM1)
  | (go_at_call 6; refine (open_name _ _ _ _ _ _ _ p (idx p.length) bd (HS.out.below HM2.out) HPB.out HPM.out key hok.out hk.out).mono ?_; rintro e w3 ⟨rfl, hb3⟩; have HB3 := q1oa (q1oS HB2.out hb3); have HM3 := q1oa (q1oS HM2.out hb3); clear hb3 HB2 HM2)
  | (go_at_call 7; refine (count_ok _ _ _ _ _ _ _ p (idx p.length) bd (HS.out.below HM3.out) HPB.out HPM.out hok.out).mono ?_; rintro e w4 ⟨rfl, hb4⟩; have HB4 := q1oa (q1oS HB3.out hb4); have HM4 := q1oa (q1oS HM3.out hb4); clear hb4 HB3 HM3)
  | (go_at_call 8; refine (headof_calls _ _ _ _ _ _ _ p (idx p.length) bd (HS.out.below HM4.out) hd HHD.out).mono ?_; rintro e w5 ⟨rfl, hb5⟩; have HB5 := q1oa (q1oS HB4.out hb5); have HM5 := q1oa (q1oS HM4.out hb5); clear hb5 HB4 HM4)
  | (go_at_call 120; refine ((HS.out.ans _ HM5.out).size).mono ?_; rintro e w6 ⟨rfl, hb6⟩; have HB6 := q1oa (q1oS HB5.out hb6); have HM6 := q1oa (q1oS HM5.out hb6); clear hb6 HB5 HM5)
  | (go_at_call 9; refine (wrackref1_LockOf.calls kl hd (p.length : Int) Z (keysP p) true _ HLO.out).mono ?_; rintro e w7 ⟨rfl, hb7⟩; have HB7 := q1oa (q1oS HB6.out hb7); have HM7 := q1oa (q1oS HM6.out hb7); clear hb7 HB6 HM6)
  | (go_at_call 10; refine (wrackref1_Named.calls kn key false _ HKN.out).mono ?_; rintro e w8 ⟨rfl, hb8⟩; have HB8 := q1oa (q1oS HB7.out hb8); have HM8 := q1oa (q1oS HM7.out hb8); clear hb8 HB7 HM7))
 go_ret
 exact ⟨rfl, HB8.out⟩
set_option maxHeartbeats 16000000 in
set_option maxRecDepth 100000 in
/-- a key that opens no slot -/
theorem lo_key (A0 : Option Addr) (c0 : Nat) (b : List Int) (A1 : Option Addr) (c1 : Nat) (bad : List S52) (key : ByteArray) (off n : Int) (w : World) (hrb : Kd.C (Kd.int .u8) w A0 b.length b) (hcb : b.length ≤ c0) (hrl : Kd.C k52 w A1 bad.length bad) (hcl : bad.length ≤ c1) (hl : bad.length * 16 ≤ 140737488351232) (hb : Bytes b) (p : List Int) (hp : p = b.take (min b.length 65536)) (bd : List Bool) (hbd : bd = badOf p.length bad) (hok : rOk p bd) (hk : nameP key = true) (hsl : (slotsP p key).2.2 = false) :
  Calls Tryz.prog 3 #[.slice A0 b.length c0, .slice A1 bad.length c1, .string key, .int .i64 off, .int .i64 n] w fun e w' => e = .returned (.bool true) ∧ Below w.heap.size w w' := by
 have hpm : p.length ≤ 65536 := by rw [hp, List.length_take]; omega
 have hpc : p.length ≤ c0 := by rw [hp, List.length_take]; omega
 have HIMG := q1oa (image_law A0 c0 b A1 c1 bad w hrb hcb hrl hcl hl p hp)
 have HPM := q1oa hpm
 have HPC := q1oa hpc
 have HPB := q1oa (show Bytes p by rw [hp]; exact b_tk hb _)
 have HCL := q1oa (show (cutS bad p.length).length ≤ 8796093021952 by have := cut_few bad p.length hpm; omega)
 have HBD := q1oa (show badOf p.length (cutS bad p.length) = bd by rw [hbd]; exact cut_bad bad p.length hpm)
 have HBL := q1oa (show bd.length = p.length by rw [hbd]; exact badOf_len _ _)
 have hu29 := Tryz.underlying29
 obtain ⟨hd, hhd⟩ : ∃ h, h = strOfNums (readRow p bd 0 128) := ⟨_, rfl⟩
 have HHD := q1oa hhd
 rw [ok_row p bd hok] at hhd
 obtain ⟨kl, hlo⟩ := ok_of p HPB.out hpm hok.2
 obtain ⟨kn, hkn⟩ := (named_ev key).rounds
 rw [← hhd] at hlo
 have HLO := q1oa hlo
 have HKN := q1oa hkn
 rw [hk] at HKN
 obtain ⟨ko, hko⟩ := ok_opened p HPB.out hok.2 key hk
 obtain ⟨s1, hs1⟩ : ∃ x, x = (slotsP p key).1 := ⟨_, rfl⟩
 obtain ⟨s2, hs2⟩ : ∃ x, x = (slotsP p key).2.1 := ⟨_, rfl⟩
 rw [← hhd, show slotsP p key = (s1, s2, false) by rw [hs1, hs2, ← hsl]] at hko
 have HKO := q1oa hko
 replace hok := q1oa hok
 replace hk := q1oa hk
 replace hsl := q1oa hsl
 obtain ⟨Z, hZ⟩ : ∃ Z, Z = leK ((p.drop 4).take 4) := ⟨_, rfl⟩
 rw [← hZ] at HLO
 clear hhd hlo hkn hZ hko hs1 hs2
 clear hrb hcb hrl hcl hl hb hp hpm hpc hbd
 go_enter Tryz.func3, Tryz.ntmps3
 go_wp2_with (first
  | (go_at_call 4; refine HIMG.out.mono ?_; rintro e w1 ⟨gI, B1, d1, B2, d2, V1, e1, V2, e2, rfl, hI, hP1, hV1, hle1, hV2, hb1⟩; have hS := img_src hI HPM.out HCL.out; rw [HBD.out] at hS hV2; obtain ⟨M0, hM0⟩ : ∃ W, w1.alloc (.cells #[.slice none 0 0, .slice none 0 0, .slice none 0 0] 29) = W := ⟨_, rfl⟩; have My0 := blk_new w1 (.cells #[.slice none 0 0, .slice none 0 0, .slice none 0 0] 29); have Mb0 := below_alloc (Below.refl w1.heap.size w1) (.cells #[.slice none 0 0, .slice none 0 0, .slice none 0 0] 29); rw [hM0] at My0 Mb0; obtain ⟨M1, hM1⟩ : ∃ W, M0.setCell ⟨w1.heap.size, 0, none⟩ (.slice A0 p.length c0) = W := ⟨_, rfl⟩; have Mq0 : M0.cell? ⟨w1.heap.size, 0, none⟩ = some (.slice none 0 0) := (blk_cell My0 0).trans rfl; have Mk0 := blk_frozen My0 0; have My1 := blk_put My0 0 (.slice A0 p.length c0) rfl; have Mb1 := Mb0.setCell (Nat.le_refl w1.heap.size) (p := ⟨w1.heap.size, 0, none⟩) (.slice A0 p.length c0); rw [hM1] at My1 Mb1; obtain ⟨M2, hM2⟩ : ∃ W, M1.setCell ⟨w1.heap.size, 1, none⟩ (.slice V1 p.length e1) = W := ⟨_, rfl⟩; have Mq1 : M1.cell? ⟨w1.heap.size, 1, none⟩ = some (.slice none 0 0) := (blk_cell My1 1).trans rfl; have Mk1 := blk_frozen My1 1; have My2 := blk_put My1 1 (.slice V1 p.length e1) rfl; have Mb2 := Mb1.setCell (Nat.le_refl w1.heap.size) (p := ⟨w1.heap.size, 1, none⟩) (.slice V1 p.length e1); rw [hM2] at My2 Mb2; obtain ⟨M3, hM3⟩ : ∃ W, M2.setCell ⟨w1.heap.size, 2, none⟩ (.slice V2 p.length e2) = W := ⟨_, rfl⟩; have Mq2 : M2.cell? ⟨w1.heap.size, 2, none⟩ = some (.slice none 0 0) := (blk_cell My2 2).trans rfl; have Mk2 := blk_frozen My2 2; have My3 := blk_put My2 2 (.slice V2 p.length e2) rfl; have Mb3 := Mb2.setCell (Nat.le_refl w1.heap.size) (p := ⟨w1.heap.size, 2, none⟩) (.slice V2 p.length e2); rw [hM3] at My3 Mb3; clear My0 My1 My2 Mb0 Mb1 Mb2; replace My3 := q1oa My3; have HS := q1oa (hS.below Mb3); have HP := q1oa (Kd.C_below hP1 Mb3); have HV := q1oa (Kd.C_below hV2 Mb3); have HB1 := q1oa (q1oS hb1 Mb3); have HM1 := q1oa (Below.refl M3.heap.size M3); have mI : ∀ w, (method 259 79 (.pointer (some ⟨gI, 0, none⟩)) "Size").run Tryz.prog w = .ok (120, .pointer (some ⟨gI, 0, none⟩)) w := (fun _ => by kernel_rfl); have eI : ∀ args w, (callFunc 120 args).run Tryz.prog w = .ok (.enter 120 args) w := enters_ Tryz.func120 (by kernel_rfl) rfl; clear hI hb1 hS hP1 hV1 hle1 hV2 Mb3)
  | (go_at_call 5; refine (Lk.locks_calls _).mono ?_; rintro e w2 ⟨rfl, hb2⟩; have HB2 := q1oa (q1oS HB1.out hb2); have HM2 := q1oa (q1oS HM1.out hb2); clear hb2 HB1 HM1)
  | (go_at_call 6; refine (open_key _ _ _ _ _ _ _ p (idx p.length) bd (HS.out.below HM2.out) HPB.out HPM.out key hok.out hk.out hsl.out).mono ?_; rintro e w3 ⟨rfl, hb3⟩; have HB3 := q1oa (q1oS HB2.out hb3); have HM3 := q1oa (q1oS HM2.out hb3); clear hb3 HB2 HM2)
  | (go_at_call 7; refine (count_ok _ _ _ _ _ _ _ p (idx p.length) bd (HS.out.below HM3.out) HPB.out HPM.out hok.out).mono ?_; rintro e w4 ⟨rfl, hb4⟩; have HB4 := q1oa (q1oS HB3.out hb4); have HM4 := q1oa (q1oS HM3.out hb4); clear hb4 HB3 HM3)
  | (go_at_call 8; refine (headof_calls _ _ _ _ _ _ _ p (idx p.length) bd (HS.out.below HM4.out) hd HHD.out).mono ?_; rintro e w5 ⟨rfl, hb5⟩; have HB5 := q1oa (q1oS HB4.out hb5); have HM5 := q1oa (q1oS HM4.out hb5); clear hb5 HB4 HM4)
  | (go_at_call 120; refine ((HS.out.ans _ HM5.out).size).mono ?_; rintro e w6 ⟨rfl, hb6⟩; have HB6 := q1oa (q1oS HB5.out hb6); have HM6 := q1oa (q1oS HM5.out hb6); clear hb6 HB5 HM5)
  | (go_at_call 9; refine (wrackref1_LockOf.calls kl hd (p.length : Int) Z (keysP p) true _ HLO.out).mono ?_; rintro e w7 ⟨rfl, hb7⟩; have HB7 := q1oa (q1oS HB6.out hb7); have HM7 := q1oa (q1oS HM6.out hb7); clear hb7 HB6 HM6)
  | (go_at_call 10; refine (wrackref1_Named.calls kn key true _ HKN.out).mono ?_; rintro e w8 ⟨rfl, hb8⟩; have HB8 := q1oa (q1oS HB7.out hb8); have HM8 := q1oa (q1oS HM7.out hb8); clear hb8 HB7 HM7)
  | (go_at_call 11; refine (wrackref1_Opened.calls ko hd (keysP p) key s1 s2 false _ HKO.out).mono ?_; rintro e w9 ⟨rfl, hb9⟩; have HB9 := q1oa (q1oS HB8.out hb9); have HM9 := q1oa (q1oS HM8.out hb9); clear hb9 HB8 HM8))
 go_ret
 exact ⟨rfl, HB9.out⟩
end Go.Proofs.YtagcaheopbmdiaaGreat.Pure
