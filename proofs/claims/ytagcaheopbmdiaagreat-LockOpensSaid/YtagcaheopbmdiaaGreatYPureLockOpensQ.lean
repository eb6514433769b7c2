/- Sealed layers: the law, LoLaw3. No condition. -/
import Derived.Test.YtagcaheopbmdiaaGreatYPureLockOpensN
namespace Go.Proofs.YtagcaheopbmdiaaGreat.Pure
open Go.Proofs.YtagcaheopbmdiaaGreat.SumPlain Go.Maps Go.Proofs.YtagcaheopbmdiaaGreat.Lk
open Go Go.RowKit Go.Proofs.YtagcaheopbmdiaaGreat.QLockOpens Go.Proofs.YtagcaheopbmdiaaGreatW.PrintWords Go.Proofs.YtagcaheopbmdiaaGreatW.PrintLast Go.Proofs.YtagcaheopbmdiaaGreatW.PrintMore
set_option linter.unusedVariables false
set_option linter.unusedSimpArgs false
theorem q1qS : type_of% @below_step := @below_step
theorem q1qa : type_of% @Aside0.mk := @Aside0.mk
theorem same_none (W : World) : Calls Tryz.prog 14 #[.slice none 0 0, .slice none 0 0] W fun e w' => e = .returned (.bool true) ∧ Below W.heap.size W w' := by
 obtain ⟨ks, hks⟩ := (same_ev ([] : List S52) (by simp)).rounds
 exact (wrackref1_SameSpans.calls ks none 0 [] none 0 [] true W (Kd.C_nil _ _) (Nat.le_refl _) (Kd.C_nil _ _) (Nat.le_refl _) hks).mono (fun e w' h => ⟨h.1, h.2.below⟩)
theorem laid_le (x : S52) : (laid [x]).length ≤ x.f1.toNat := by
 by_cases h : okS x
 ·
  rw [laid_one _ h, bytes_len]
  exact Nat.le_refl _
 ·
  rw [laid_no _ _ h]
  exact Nat.zero_le _
theorem two_reps (w : World) (base : Nat) (ok : Nat → Prop) (a b c d : Int) : Reps (k52.M w base ok) k52.sz ([⟨a, b⟩, ⟨c, d⟩] : List S52) [.int .i64 a, .int .i64 b, .int .i64 c, .int .i64 d] := by
 refine ⟨rfl, fun j p hj => ?_⟩
 match j, hj with
 | 0, hj =>
  obtain rfl := Option.some.inj hj
  exact k52_mkM w base ok (⟨a, b⟩ : S52)
 | 1, hj =>
  obtain rfl := Option.some.inj hj
  exact k52_mkM w base ok (⟨c, d⟩ : S52)
theorem lk_road_none (w : World) (g T : Nat) (x : Value) (size : Nat) (inner : Int) (slot : Nat) (h : IsLk w g T x inner size slot) (hs : size ≤ 65536) (off : Int) (m : Nat) (hm : m = 0) (hR : inR (size : Int) off 0) : Calls Tryz.prog 113 #[.pointer (some ⟨g, 0, none⟩), .int .i64 off, .int .i64 (m : Int)] w fun e w' => e = .returned (.slice none 0 0) ∧ Below w.heap.size w w' := by
 subst hm
 exact lk_road_zero w g T x size inner slot h hs off hR
set_option maxHeartbeats 16000000 in
set_option maxRecDepth 100000 in
/-- ranges inside that cannot be read -/
theorem lo_bad (A0 : Option Addr) (c0 : Nat) (b : List Int) (A1 : Option Addr) (c1 : Nat) (bad : List S52) (key : ByteArray) (w : World) (hrb : Kd.C (Kd.int .u8) w A0 b.length b) (hcb : b.length ≤ c0) (hrl : Kd.C k52 w A1 bad.length bad) (hcl : bad.length ≤ c1) (hl : bad.length * 16 ≤ 140737488351232) (hb : Bytes b) (p : List Int) (hp : p = b.take (min b.length 65536)) (bd : List Bool) (hbd : bd = badOf p.length bad) (hok : rOk p bd) (hk : nameP key = true) (i : Nat) (inner : Int) (hsl : slotsP p key = ((i : Int), inner, true)) (Z : Nat) (hZ : leK ((p.drop 4).take 4) = (Z : Int)) (hz : Z ≤ 65536) (o m : Nat) (hom : o + m ≤ Z) (hm : 0 < m) (hne : readErr p.length bd (128 + (o : Int)) (m : Int) ≠ 0) :
  Calls Tryz.prog 3 #[.slice A0 b.length c0, .slice A1 bad.length c1, .string key, .int .i64 (o : Int), .int .i64 (m : Int)] w fun e w' => e = .returned (.bool true) ∧ Below w.heap.size w w' := by
 have hpm : p.length ≤ 65536 := by rw [hp, List.length_take]; omega
 have hpc : p.length ≤ c0 := by rw [hp, List.length_take]; omega
 have HIMG := q1qa (image_law A0 c0 b A1 c1 bad w hrb hcb hrl hcl hl p hp)
 have HPM := q1qa hpm
 have HPC := q1qa hpc
 have HPB := q1qa (show Bytes p by rw [hp]; exact b_tk hb _)
 have HCL := q1qa (show (cutS bad p.length).length ≤ 8796093021952 by have := cut_few bad p.length hpm; omega)
 have HBD := q1qa (show badOf p.length (cutS bad p.length) = bd by rw [hbd]; exact cut_bad bad p.length hpm)
 have HBL := q1qa (show bd.length = p.length by rw [hbd]; exact badOf_len _ _)
 have hu29 := Tryz.underlying29
 obtain ⟨hd, hhd⟩ : ∃ h, h = strOfNums (readRow p bd 0 128) := ⟨_, rfl⟩
 have HHD := q1qa hhd
 rw [ok_row p bd hok] at hhd
 obtain ⟨kl, hlo⟩ := ok_of p HPB.out hpm hok.2
 obtain ⟨kn, hkn⟩ := (named_ev key).rounds
 rw [← hhd] at hlo
 have HLO := q1qa hlo
 have HKN := q1qa hkn
 rw [hk] at HKN
 rw [hZ] at HLO
 obtain ⟨ko, hko⟩ := ok_opened p HPB.out hok.2 key hk
 rw [← hhd, hsl] at hko
 have HKO := q1qa hko
 have HOPEN := q1qa (fun (W : World) (T : Nat) (x : Value) (fR fO fS fP : Nat) (h : SrcIs W T x fR fO fS fP p (idx p.length) bd) => open_ok W T x fR fO fS fP p (idx p.length) bd h HPB.out hpm key hok hk inner i hsl)
 rw [hZ, Int.toNat_natCast] at HOPEN
 replace hok := q1qa hok
 have HZ := q1qa hz
 have hi4 : i < 4 := by
  obtain ⟨i2, h1, h2⟩ := slots_at p hok.out.2 key (by rw [hsl])
  rw [hsl] at h1
  have h3 : (i : Int) = (i2 : Int) := h1
  omega
 have hpz : 128 + Z ≤ p.length := by
  have h1 := hok.out.2.2.2.2.2.2
  rw [hZ] at h1
  omega
 have hu : U64 inner := by
  have h1 := (openL_u64 p key (keysP p).toNat 0).1
  rw [show openL p key (keysP p).toNat 0 = slotsP p key from rfl, hsl] at h1
  exact h1
 have HU := q1qa hu
 have HOM := q1qa hom
 have HPZ := q1qa hpz
 have HSL := q1qa (show 16 + 24 * i + 24 ≤ p.length by omega)
 have t0 : decide ((o : Int) < 0) = false := decide_eq_false (by omega)
 have t1 : decide ((m : Int) < 0) = false := decide_eq_false (by omega)
 have t2 : decide ((Z : Int) < (o : Int)) = false := decide_eq_false (by omega)
 have u2 : o ≤ Z := by omega
 have u3 : ¬ (Z < o) := by omega
 have hws : IntKind.i64.wrap ((Z : Int) - (o : Int)) = (Z : Int) - (o : Int) := by rw [i64_w]; unfold wrap64; omega
 have t3 : decide ((Z : Int) - (o : Int) < (m : Int)) = false := decide_eq_false (by omega)
 have q1 : IntKind.i64.wrap (24 * (i : Int)) = 24 * (i : Int) := by rw [i64_w]; unfold wrap64; omega
 have q2 : IntKind.i64.wrap (16 + 24 * (i : Int)) = 16 + 24 * (i : Int) := by rw [i64_w]; unfold wrap64; omega
 have q3 : IntKind.i64.wrap (128 + (o : Int)) = 128 + (o : Int) := by rw [i64_w]; unfold wrap64; omega
 have h19 : readErr p.length bd (128 + (o : Int)) (m : Int) = 19 := by
  unfold readErr at hne ⊢
  rw [if_pos (show inR (p.length : Int) (128 + (o : Int)) (m : Int) from ⟨by omega, by omega, by omega⟩)] at hne ⊢
  by_cases hh : hit bd (128 + (o : Int)) (m : Int) = true
  · rw [if_pos hh]
  · rw [if_neg hh] at hne; exact absurd rfl hne
 have hex : ∃ j, j < m ∧ bd.getD (128 + o + j) false = true := by
  have h1 := h19
  unfold readErr at h1
  rw [if_pos (show inR (p.length : Int) (128 + (o : Int)) (m : Int) from ⟨by omega, by omega, by omega⟩)] at h1
  by_cases hh : hit bd (128 + (o : Int)) (m : Int) = true
  ·
   obtain ⟨j, g0, g1, g2⟩ := (hit_iff bd (128 + (o : Int)) (m : Int) (by omega) (by omega) (by rw [HBL.out]; omega)).1 hh
   exact ⟨j - (128 + o), by omega, by rw [show 128 + o + (j - (128 + o)) = j by omega]; exact g2⟩
  · rw [if_neg hh] at h1; exact absurd h1 (by decide)
 have HNE := q1qa hne
 have HE19 := q1qa h19
 have HEX := q1qa hex
 clear hne h19 hex
 have tm0 : decide ((0 : Int) < (m : Int)) = true := decide_eq_true (by omega)
 have tm1 : 0 < m := hm
 obtain ⟨LL, hLL⟩ : ∃ L, L = laid [⟨16 + 24 * (i : Int), 24⟩, ⟨128 + (o : Int), (m : Int)⟩] := ⟨_, rfl⟩
 obtain ⟨G, hG⟩ : ∃ G, G = gluedP [] LL := ⟨_, rfl⟩
 have hll : LL.length ≤ 200000 := by
  have h1 := laid_le ⟨16 + 24 * (i : Int), 24⟩
  have h2 := laid_le ⟨128 + (o : Int), (m : Int)⟩
  rw [hLL, show ([⟨16 + 24 * (i : Int), 24⟩, ⟨128 + (o : Int), (m : Int)⟩] : List S52) = [⟨16 + 24 * (i : Int), 24⟩] ++ [⟨128 + (o : Int), (m : Int)⟩] from rfl, laid_app, List.length_append]
  simp only [Int.toNat_natCast] at h2
  have h3 : (24 : Int).toNat = 24 := rfl
  simp only [h3] at h1
  omega
 have hqe := laid_ev [⟨16 + 24 * (i : Int), 24⟩, ⟨128 + (o : Int), (m : Int)⟩] (by simp) (by rw [← hLL]; exact hll)
 have hli := laid_in [⟨16 + 24 * (i : Int), 24⟩, ⟨128 + (o : Int), (m : Int)⟩]
 rw [← hLL] at hqe hli
 obtain ⟨kq, hkq⟩ := hqe.rounds
 obtain ⟨kg, hkg⟩ := (glued_ev LL hll hli).rounds
 have hgs := glued_short LL []
 rw [List.length_nil, ← hG] at hgs
 obtain ⟨ks, hks⟩ := (same_ev G (by omega)).rounds
 rw [← hG] at hkg
 have HKL := q1qa hkq
 have HKG := q1qa hkg
 have HKS := q1qa hks
 have HG := q1qa (show G = gluedP [] (laid [⟨16 + 24 * (i : Int), 24⟩, ⟨128 + (o : Int), (m : Int)⟩]) by rw [hG, hLL])
 have HM0 := q1qa hm
 clear hll hkq hli hkg hgs hks hG hLL hqe hm
 clear hi4 hpz hu hom hz
 clear hhd hlo hkn hZ hko hk hsl
 clear hrb hcb hrl hcl hl hb hp hpm hpc hbd
 go_enter Tryz.func3, Tryz.ntmps3
 go_wp2_with (first
  | (go_at_call 4; refine HIMG.out.mono ?_; rintro e w1 ⟨gI, B1, d1, B2, d2, V1, e1, V2, e2, rfl, hI, hP1, hV1, hle1, hV2, hb1⟩; have hS := img_src hI HPM.out HCL.out; rw [HBD.out] at hS hV2; obtain ⟨M0, hM0⟩ : ∃ W, w1.alloc (.cells #[.slice none 0 0, .slice none 0 0, .slice none 0 0] 29) = W := ⟨_, rfl⟩; have My0 := blk_new w1 (.cells #[.slice none 0 0, .slice none 0 0, .slice none 0 0] 29); have Mb0 := below_alloc (Below.refl w1.heap.size w1) (.cells #[.slice none 0 0, .slice none 0 0, .slice none 0 0] 29); rw [hM0] at My0 Mb0; obtain ⟨M1, hM1⟩ : ∃ W, M0.setCell ⟨w1.heap.size, 0, none⟩ (.slice A0 p.length c0) = W := ⟨_, rfl⟩; have Mq0 : M0.cell? ⟨w1.heap.size, 0, none⟩ = some (.slice none 0 0) := (blk_cell My0 0).trans rfl; have Mk0 := blk_frozen My0 0; have My1 := blk_put My0 0 (.slice A0 p.length c0) rfl; have Mb1 := Mb0.setCell (Nat.le_refl w1.heap.size) (p := ⟨w1.heap.size, 0, none⟩) (.slice A0 p.length c0); rw [hM1] at My1 Mb1; obtain ⟨M2, hM2⟩ : ∃ W, M1.setCell ⟨w1.heap.size, 1, none⟩ (.slice V1 p.length e1) = W := ⟨_, rfl⟩; have Mq1 : M1.cell? ⟨w1.heap.size, 1, none⟩ = some (.slice none 0 0) := (blk_cell My1 1).trans rfl; have Mk1 := blk_frozen My1 1; have My2 := blk_put My1 1 (.slice V1 p.length e1) rfl; have Mb2 := Mb1.setCell (Nat.le_refl w1.heap.size) (p := ⟨w1.heap.size, 1, none⟩) (.slice V1 p.length e1); rw [hM2] at My2 Mb2; obtain ⟨M3, hM3⟩ : ∃ W, M2.setCell ⟨w1.heap.size, 2, none⟩ (.slice V2 p.length e2) = W := ⟨_, rfl⟩; have Mq2 : M2.cell? ⟨w1.heap.size, 2, none⟩ = some (.slice none 0 0) := (blk_cell My2 2).trans rfl; have Mk2 := blk_frozen My2 2; have My3 := blk_put My2 2 (.slice V2 p.length e2) rfl; have Mb3 := Mb2.setCell (Nat.le_refl w1.heap.size) (p := ⟨w1.heap.size, 2, none⟩) (.slice V2 p.length e2); rw [hM3] at My3 Mb3; clear My0 My1 My2 Mb0 Mb1 Mb2; replace My3 := q1qa My3; have HS := q1qa (hS.below Mb3); have HP := q1qa (Kd.C_below hP1 Mb3); have HV := q1qa (Kd.C_below hV2 Mb3); have HB1 := q1qa (q1qS hb1 Mb3); have HM1 := q1qa (Below.refl M3.heap.size M3); have mI : ∀ w, (method 259 79 (.pointer (some ⟨gI, 0, none⟩)) "Size").run Tryz.prog w = .ok (120, .pointer (some ⟨gI, 0, none⟩)) w := (fun _ => by kernel_rfl); have eI : ∀ args w, (callFunc 120 args).run Tryz.prog w = .ok (.enter 120 args) w := enters_ Tryz.func120 (by kernel_rfl) rfl; clear hI hb1 hS hP1 hV1 hle1 hV2 Mb3)
  | (go_at_call 5; refine (Lk.locks_calls _).mono ?_; rintro e w2 ⟨rfl, hb2⟩; have HB2 := q1qa (q1qS HB1.out hb2); have HM2 := q1qa (q1qS HM1.out hb2); clear hb2 HB1 HM1)
  | (go_at_call 6; refine (HOPEN.out _ _ _ _ _ _ _ (HS.out.below HM2.out)).mono ?_; rintro e w3 ⟨gL, rfl, hL, hb3, _⟩; have HB3 := q1qa (q1qS HB2.out hb3); have HM3 := q1qa (q1qS HM2.out hb3); have HL := q1qa hL; have HN3 := q1qa (Below.refl w3.heap.size w3); have mLSize : ∀ w, (method 259 64 (.pointer (some ⟨gL, 0, none⟩)) "Size").run Tryz.prog w = .ok (114, .pointer (some ⟨gL, 0, none⟩)) w := (fun _ => by kernel_rfl); have eLSize : ∀ args w, (callFunc 114 args).run Tryz.prog w = .ok (.enter 114 args) w := enters_ Tryz.func114 (by kernel_rfl) rfl; have mLPlain : ∀ w, (method 259 64 (.pointer (some ⟨gL, 0, none⟩)) "Plain").run Tryz.prog w = .ok (111, .pointer (some ⟨gL, 0, none⟩)) w := (fun _ => by kernel_rfl); have eLPlain : ∀ args w, (callFunc 111 args).run Tryz.prog w = .ok (.enter 111 args) w := enters_ Tryz.func111 (by kernel_rfl) rfl; have mLRead : ∀ w, (method 259 64 (.pointer (some ⟨gL, 0, none⟩)) "Read").run Tryz.prog w = .ok (112, .pointer (some ⟨gL, 0, none⟩)) w := (fun _ => by kernel_rfl); have eLRead : ∀ args w, (callFunc 112 args).run Tryz.prog w = .ok (.enter 112 args) w := enters_ Tryz.func112 (by kernel_rfl) rfl; have mLRoad : ∀ w, (method 259 64 (.pointer (some ⟨gL, 0, none⟩)) "Road").run Tryz.prog w = .ok (113, .pointer (some ⟨gL, 0, none⟩)) w := (fun _ => by kernel_rfl); have eLRoad : ∀ args w, (callFunc 113 args).run Tryz.prog w = .ok (.enter 113 args) w := enters_ Tryz.func113 (by kernel_rfl) rfl; clear hb3 hL HB2 HM2)
  | (go_at_call 7; refine (count_ok _ _ _ _ _ _ _ p (idx p.length) bd (HS.out.below HM3.out) HPB.out HPM.out hok.out).mono ?_; rintro e w4 ⟨rfl, hb4⟩; have HB4 := q1qa (q1qS HB3.out hb4); have HM4 := q1qa (q1qS HM3.out hb4); have HN4 := q1qa (q1qS HN3.out hb4); clear hb4 HB3 HM3 HN3)
  | (go_at_call 8; refine (headof_calls _ _ _ _ _ _ _ p (idx p.length) bd (HS.out.below HM4.out) hd HHD.out).mono ?_; rintro e w5 ⟨rfl, hb5⟩; have HB5 := q1qa (q1qS HB4.out hb5); have HM5 := q1qa (q1qS HM4.out hb5); have HN5 := q1qa (q1qS HN4.out hb5); clear hb5 HB4 HM4 HN4)
  | (go_at_call 120; refine ((HS.out.ans _ HM5.out).size).mono ?_; rintro e w6 ⟨rfl, hb6⟩; have HB6 := q1qa (q1qS HB5.out hb6); have HM6 := q1qa (q1qS HM5.out hb6); have HN6 := q1qa (q1qS HN5.out hb6); clear hb6 HB5 HM5 HN5)
  | (go_at_call 9; refine (wrackref1_LockOf.calls kl hd (p.length : Int) (Z : Int) (keysP p) true _ HLO.out).mono ?_; rintro e w7 ⟨rfl, hb7⟩; have HB7 := q1qa (q1qS HB6.out hb7); have HM7 := q1qa (q1qS HM6.out hb7); have HN7 := q1qa (q1qS HN6.out hb7); clear hb7 HB6 HM6 HN6)
  | (go_at_call 10; refine (wrackref1_Named.calls kn key true _ HKN.out).mono ?_; rintro e w8 ⟨rfl, hb8⟩; have HB8 := q1qa (q1qS HB7.out hb8); have HM8 := q1qa (q1qS HM7.out hb8); have HN8 := q1qa (q1qS HN7.out hb8); clear hb8 HB7 HM7 HN7)
  | (go_at_call 11; refine (wrackref1_Opened.calls ko hd (keysP p) key (i : Int) inner true _ HKO.out).mono ?_; rintro e w9 ⟨rfl, hb9⟩; have HB9 := q1qa (q1qS HB8.out hb9); have HM9 := q1qa (q1qS HM8.out hb9); have HN9 := q1qa (q1qS HN8.out hb9); clear hb9 HB8 HM8 HN8)
  | (go_at_call 114; refine (lk_size _ _ _ _ _ _ _ (HL.out.below HN9.out)).mono ?_; rintro e w10 ⟨rfl, hb10⟩; have HB10 := q1qa (q1qS HB9.out hb10); have HM10 := q1qa (q1qS HM9.out hb10); have HN10 := q1qa (q1qS HN9.out hb10); clear hb10 HB9 HM9 HN9)
  | (go_at_call 111; refine (lk_plain _ _).mono ?_; rintro e w11 ⟨rfl, hb11⟩; have HB11 := q1qa (q1qS HB10.out hb11); have HM11 := q1qa (q1qS HM10.out hb11); have HN11 := q1qa (q1qS HN10.out hb11); clear hb11 HB10 HM10 HN10)
  | (go_at_call 112; refine (lk_read_bad _ _ _ _ _ _ _ _ p (idx p.length) bd (HS.out.below HM11.out) HPB.out HPM.out Z inner i (HL.out.below HN11.out) HU.out HZ.out o m HOM.out HNE.out).mono ?_; rintro e w12 ⟨rfl, hb12⟩; rw [HE19.out]; have HB12 := q1qa (q1qS HB11.out hb12); have HM12 := q1qa (q1qS HM11.out hb12); have HN12 := q1qa (q1qS HN11.out hb12); clear hb12 HB11 HM11 HN11)
  | (go_at_call 113; refine (lk_road _ _ _ _ _ _ _ _ p bd (HS.out.below HM12.out) HPM.out Z inner i (HL.out.below HN12.out) HZ.out o m HM0.out HOM.out HSL.out HPZ.out G HG.out).mono ?_; rintro e w13 ⟨A8, c8, rfl, hv8, hc8, hb13⟩; have HB13 := q1qa (q1qS HB12.out hb13); have HM13 := q1qa (q1qS HM12.out hb13); have HV8 := q1qa hv8; have HC8 := q1qa hc8; have HBR := q1qa (Below.refl w13.heap.size w13); clear hv8 hc8 hb13 HB12 HM12 HN12)
  | ((with_reducible refine gate_dst (N:=176) rfl ?_); refine Kd.R_lit k52 (w0 := w13) w13.heap.size 52 ?hg (N:=176) ?hd (xs := ([⟨16 + 24 * (i : Int), 24⟩, ⟨128 + (o : Int), (m : Int)⟩] : List S52)) (inner := [.int .i64 (16 + 24 * (i : Int)), .int .i64 24, .int .i64 (128 + (o : Int)), .int .i64 (m : Int)]) (ok := fun _ => True) (okp := fun _ => True) ?hr (two_reps _ _ _ _ _ _ _) (fun _ hk => hk) trivial HBR.out HBR.out.size (by simp) ?_; (case hd => rfl); (case hg => rfl); (case hr => first | (go_simp; done) | (go_simp; rfl)); intro vF w14 hF14 hB14 hG14 hn14; obtain ⟨AF, cF, eF⟩ := Kd.R_slice hF14; rw [show ([⟨16 + 24 * (i : Int), 24⟩, ⟨128 + (o : Int), (m : Int)⟩] : List S52).length = 2 from rfl] at eF; subst eF; have HF14 := q1qa (Kd.R_reads' hF14); have HR14 := q1qa hB14; clear hF14 hB14 hG14 hn14 HBR)
  | (go_at_call 13; refine (wrackref1_Laid.calls kq AF cF [⟨16 + 24 * (i : Int), 24⟩, ⟨128 + (o : Int), (m : Int)⟩] LL _ HF14.out.2.2 HF14.out.2.1 HKL.out).mono ?_; rintro e w15 ⟨v15, rfl, hv15, hb15⟩; obtain ⟨A15, c15, e15⟩ := Kd.R_slice hv15; subst e15; have HR15 := q1qa (q1qS HR14.out hb15); have HV15 := q1qa (Kd.R_reads' hv15); clear hv15 hb15 HR14)
  | (go_at_call 12; refine (wrackref1_Glued.calls kg A15 c15 LL G _ HV15.out.2.2 HV15.out.2.1 HKG.out).mono ?_; rintro e w16 ⟨v16, rfl, hv16, hb16⟩; obtain ⟨A16, c16, e16⟩ := Kd.R_slice hv16; subst e16; have HR16 := q1qa (q1qS HR15.out hb16); have HV16 := q1qa (Kd.R_reads' hv16); clear hv16 hb16 HR15))
 have HMK := q1qa (q1qS HM13.out HR16.out)
 have HBK := q1qa (q1qS HB13.out HR16.out)
 have c2_ : w16.cell? ⟨w1.heap.size, 2, none⟩ = some (.slice V2 p.length e2) := (blk_cell (blk_below My3.out HMK.out) 2).trans rfl
 have HVK := q1qa (show Kd.C Kd.bool w16 V2 p.length bd from Kd.C_below HV.out HMK.out)
 go_loop [180] (fun vi => ∃ j : Nat, j ≤ m ∧ vi = .int .i64 (j : Int) ∧ Aside0 (∀ j2, j2 < j → bd.getD (128 + o + j2) false = false)) (fun vi => m - (intOf vi).toNat)
 case atStart => exact ⟨0, Nat.zero_le _, rfl, ⟨fun j hj => absurd hj (Nat.not_lt_zero _)⟩⟩
 case round =>
  obtain ⟨j, hj, rfl, hno⟩ := hrel
  by_cases hlt : j < m
  ·
   skip
   have hlti : (j : Int) < (m : Int) := by omega
   have hnx : IntKind.i64.wrap ((j : Int) + 1) = (j : Int) + 1 := by have := HOM.out; have := HZ.out; rw [i64_w]; unfold wrap64; omega
   obtain ⟨ad, rfl, e0⟩ := Kd.at_bool HVK.out ((128 + o + j : Nat) : Int) (by omega) (by have := HPZ.out; have := HOM.out; omega)
   rw [Int.toNat_natCast] at e0
   have hokl : 128 + (o : Int) + (j : Int) < (p.length : Int) := by have := HPZ.out; have := HOM.out; omega
   have hok0 : 0 ≤ 128 + (o : Int) + (j : Int) := by omega
   have hokn : (128 + (o : Int) + (j : Int)).toNat = 128 + o + j := by omega
   have hoks : IntKind.i64.wrap (128 + (o : Int) + (j : Int)) = 128 + (o : Int) + (j : Int) := by have := HOM.out; have := HZ.out; rw [i64_w]; unfold wrap64; omega
   have hval : rdOf false bd ((128 + o + j : Nat) : Int) = bd.getD (128 + o + j) false := by unfold rdOf; rw [Int.toNat_natCast]
   rw [hval] at e0
   cases hbv : bd.getD (128 + o + j) false with
   | true =>
    rw [hbv] at e0
    clear hbv hval hno
    go_wp2_with (first
     | (go_at_call 14; refine (wrackref1_SameSpans.calls ks A8 c8 G A16 c16 G true _ (Kd.C_below HV8.out HR16.out) HC8.out HV16.out.2.2 HV16.out.2.1 HKS.out).mono ?_; rintro e w17 ⟨rfl, hd17⟩; have HB17 := q1qa (q1qS HBK.out hd17.below); clear hd17))
    go_ret
    exact ⟨rfl, HB17.out⟩
   | false =>
    rw [hbv] at e0
    have hno2 := q1qa (show ∀ j2, j2 < j + 1 → bd.getD (128 + o + j2) false = false from fun j2 hj2 => by
     by_cases e : j2 = j
     · rw [e]; exact hbv
     · exact hno.out j2 (by omega))
    clear hbv hval hno
    go_wp2
    go_round
    case rel => exact ⟨j + 1, hlt, by go_num, hno2⟩
    case measure => simp [intOf]; omega
  ·
   exfalso
   obtain ⟨j2, h0, h1⟩ := HEX.out
   rw [hno.out j2 (by omega)] at h1
   exact absurd h1 (by decide)
end Go.Proofs.YtagcaheopbmdiaaGreat.Pure
