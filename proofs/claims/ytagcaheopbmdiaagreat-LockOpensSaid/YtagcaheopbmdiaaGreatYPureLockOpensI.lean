/- Sealed layers: the head, for any source. No condition. -/
import Derived.Test.YtagcaheopbmdiaaGreatYPureLockOpensH
namespace Go.Proofs.YtagcaheopbmdiaaGreat.Pure
open Go.Proofs.YtagcaheopbmdiaaGreat.SumPlain Go.Maps Go.Proofs.YtagcaheopbmdiaaGreat.Lk
open Go Go.RowKit Go.Proofs.YtagcaheopbmdiaaGreat.QLockOpens Go.Proofs.YtagcaheopbmdiaaGreatW.PrintWords Go.Proofs.YtagcaheopbmdiaaGreatW.PrintLast Go.Proofs.YtagcaheopbmdiaaGreatW.PrintMore
set_option linter.unusedVariables false
set_option linter.unusedSimpArgs false
theorem q1hI : type_of% @List.setIfInBounds_toArray := @List.setIfInBounds_toArray
theorem q1h0 : type_of% @List.set_cons_zero := @List.set_cons_zero
theorem q1h1 : type_of% @List.set_cons_succ := @List.set_cons_succ
theorem q1hT : type_of% @List.map_toArray := @List.map_toArray
theorem q1hS : type_of% @below_step := @below_step
theorem q1hC : type_of% @Kd.C_below := @Kd.C_below
theorem q1ha : type_of% @Aside0.mk := @Aside0.mk
theorem leK_4 (l : List Int) (hl : l.length = 4) (hb : Bytes l) : 0 ≤ leK l ∧ leK l ≤ 4294967295 := by
 match l, hl with
 | [a, b, c, d], _ =>
  have h1 := hb a (by simp)
  have h2 := hb b (by simp)
  have h3 := hb c (by simp)
  have h4 := hb d (by simp)
  simp only [leK]
  omega
/-- whether a sealed layer's head can be read and is right -/
def rOk (b : List Int) (bad : List Bool) : Prop := readErr b.length bad 0 128 = 0 ∧ formOk b
/-- what reading the head hands back -/
def HkEnd (w : World) (b : List Int) (bad : List Bool) (e : Ending) (w' : World) : Prop :=
 (rOk b bad → ∃ A c, e = .returned (.tuple #[.slice A 128 c, .int .i64 (leK ((b.drop 4).take 4)), .int .i64 (keysP b), .bool true]) ∧ 128 ≤ c ∧ Kd.C (Kd.int .u8) w' A 128 (b.take 128) ∧ Below w.heap.size w w') ∧
 (¬ rOk b bad → ∃ va vn vk, e = .returned (.tuple #[va, .int .i64 vn, .int .i64 vk, .bool false]) ∧ Below w.heap.size w w')
theorem kget4 (W : World) (A : Option Addr) (c n : Nat) (l : List Int) (hl : l.length = n) (hb : Bytes l) (hn : n ≤ 8) (hC : Kd.C (Kd.int .u8) W A n l) (hc : n ≤ c) (r : Int) (hr : leK l = r) : Calls Tryz.prog 45 #[.slice A n c] W fun e w' => e = .returned (.int .u64 r) ∧ Drawn0 W w' := by
 subst hl
 subst hr
 obtain ⟨k, hk⟩ := (kget_ev l hb hn).rounds
 exact lock_get.calls k A c l _ W hC hc hk
theorem str_of4k {w : World} {AH : Option Addr} {cH : Nat} {H : List Int} {s : ByteArray} (hC : Kd.C (Kd.int .u8) w AH 128 H) (hl : H.length = 128) (hs : s = strOfNums (H.take 4)) : (convert 22 9 (.slice AH 4 cH)).run Tryz.prog w = .ok (.string s) w := by
 subst hs
 have hC2 : Kd.C (Kd.int .u8) w AH H.length H := by rw [hl]; exact hC
 have hk : (H.take 4).length = 4 := by rw [List.length_take, hl]; rfl
 have h4 : Kd.C (Kd.int .u8) w AH (H.take 4).length (H.take 4) := Kd.C_take (m := 4) hC2 (by omega)
 have h5 := Kd.C_string (P := Tryz.prog) (c := cH) (xs := H.take 4) Tryz.underlying22 Tryz.underlying5 Tryz.underlying9 h4
 rw [hk] at h5
 exact h5
set_option maxHeartbeats 16000000 in
set_option maxRecDepth 100000 in
/-- the head, for any source -/
theorem head_calls (w : World) (T : Nat) (x : Value) (fR fO fS fP : Nat) (b fr : List Int) (bad : List Bool) (h : SrcIs w T x fR fO fS fP b fr bad) (hb : Bytes b) (hn : b.length ≤ 65536) :
  Calls Tryz.prog 21 #[.iface T x] w fun e w' => HkEnd w b bad e w' := by
 have hread := (h.ans w (Below.refl _ _)).read 0 128
 have hRr := h.mR.run
 have hRe := h.mR.ent
 have hRa := h.mR.ahead
 have hSr := h.mS.run
 have hSe := h.mS.ent
 have HSIZE := q1ha (fun W (hb : Below w.heap.size w W) => (h.ans W hb).size)
 unfold HkEnd
 by_cases e1 : readErr b.length bad 0 128 = 0
 ·
  have hl16 : 128 ≤ b.length := by
   by_cases hR : inR b.length 0 128
   · have := hR.2.2; omega
   · unfold readErr at e1; rw [if_neg hR] at e1; exact absurd e1 (by decide)
  have hrow : readRow b bad 0 128 = b.take 128 := by unfold readRow; rw [if_pos e1]; simp
  have hok : rOk b bad ↔ formOk b := ⟨fun h => h.2, fun h => ⟨e1, h⟩⟩
  rw [e1, hrow] at hread
  obtain ⟨H, hH⟩ : ∃ H, H = b.take 128 := ⟨_, rfl⟩
  rw [← hH] at hread ⊢
  have HHL := q1ha (show H.length = 128 by rw [hH, List.length_take]; omega)
  have hh4 : H.take 4 = b.take 4 := by rw [hH, List.take_take]; rfl
  have hh12 : (H.drop 12).take 4 = (b.drop 12).take 4 := by rw [hH, List.drop_take, List.take_take]; rfl
  have hhz : (H.drop 4).take 4 = (b.drop 4).take 4 := by rw [hH, List.drop_take, List.take_take]; rfl
  have hh8 : (H.drop 8).take 4 = (b.drop 8).take 4 := by rw [hH, List.drop_take, List.take_take]; rfl
  have hHB : Bytes H := by rw [hH]; exact b_tk hb 128
  have HB12 := q1ha (b_cut hHB 12 4)
  have HB4_ := q1ha (b_cut hHB 4 4)
  have HB8 := q1ha (b_cut hHB 8 4)
  have HL12 := q1ha (show ((H.drop 12).take 4).length = 4 by rw [List.length_take, List.length_drop, HHL.out]; rfl)
  have HL4 := q1ha (show ((H.drop 4).take 4).length = 4 by rw [List.length_take, List.length_drop, HHL.out]; rfl)
  have HL8 := q1ha (show ((H.drop 8).take 4).length = 4 by rw [List.length_take, List.length_drop, HHL.out]; rfl)
  obtain ⟨s4, hs4⟩ : ∃ s, s = strOfNums (H.take 4) := ⟨_, rfl⟩
  have HS4 := q1ha hs4
  obtain ⟨q12, hq12⟩ : ∃ q, leK ((H.drop 12).take 4) = q := ⟨_, rfl⟩
  have HQ12 := q1ha hq12
  obtain ⟨Z, hZ⟩ : ∃ q, leK ((H.drop 4).take 4) = q := ⟨_, rfl⟩
  have HZ := q1ha hZ
  obtain ⟨q8, hq8⟩ : ∃ q, leK ((H.drop 8).take 4) = q := ⟨_, rfl⟩
  have HQ8 := q1ha hq8
  have hz0 := leK_4 _ HL4.out HB4_.out
  have hz8 := leK_4 _ HL8.out HB8.out
  rw [hZ] at hz0
  rw [hq8] at hz8
  have hwZ : IntKind.i64.wrap Z = Z := by rw [i64_w]; unfold wrap64; omega
  have hw8 : IntKind.i64.wrap q8 = q8 := by rw [i64_w]; unfold wrap64; omega
  have hvZ : wrap64 Z = Z := by unfold wrap64; omega
  have hv8 : wrap64 q8 = q8 := by unfold wrap64; omega
  have hwS : IntKind.i64.wrap ((b.length : Int) - 128) = (b.length : Int) - 128 := by rw [i64_w]; unfold wrap64; omega
  have hform : rOk b bad ↔ H.take 4 = [108, 111, 99, 107] ∧ q12 = 0 ∧ 1 ≤ q8 ∧ q8 ≤ 4 ∧ Z ≤ (b.length : Int) - 128 := by
   rw [hok]
   unfold formOk keysP
   rw [← hh12, ← hhz, ← hh8, ← hh4, hq12, hZ, hq8]
   exact ⟨fun h => h.2, fun h => ⟨hl16, h⟩⟩
  unfold keysP
  rw [← hhz, ← hh8, hZ, hq8]
  have HREAD := q1ha hread
  clear h hread e1 hrow hH hh12 hhz hh8 hq12 hZ hq8 hh4 hok hz0 hz8
  by_cases d4 : H.take 4 = [108, 111, 99, 107]
  ·
   obtain rfl : s4 = (⟨#[108, 111, 99, 107]⟩ : ByteArray) := by rw [hs4, d4]; decide
   by_cases d12 : q12 = 0
   ·
    subst d12
    by_cases k1 : 1 ≤ q8
    ·
     have t1 := decide_eq_true k1
     by_cases k4 : q8 ≤ 4
     ·
      have t4 := decide_eq_true k4
      by_cases kz : Z ≤ (b.length : Int) - 128
      ·
       have HYES := q1ha (hform.2 ⟨d4, rfl, k1, k4, kz⟩)
       have tz := decide_eq_true kz
       clear hform k1 k4 kz
       clear hs4 d4
       go_enter Tryz.func21, Tryz.ntmps21
       go_wp2
       refine (HREAD.out).mono ?_
       rintro e w1 ⟨v1, rfl, hv1, hb1⟩
       obtain ⟨AH, cH, eH⟩ := Kd.R_slice hv1
       rw [HHL.out] at eH
       subst eH
       have hHr := Kd.R_reads' hv1
       rw [HHL.out] at hHr
       have HB1 := q1ha hb1
       have HH1 := q1ha hHr.2.2
       obtain ⟨i5, hi5, hy5⟩ := Option.map_eq_some_iff.1 info5
       simp only [Prod.mk.injEq] at hy5
       have hc0 : ∀ W : World, (Instr.slice 22 (.slice AH 128 cH) none (some (.int .i64 4)) none).run Tryz.prog W = .ok (.slice AH 4 cH) W := cut_to (P := Tryz.prog) 22 5 .i64 Tryz.underlying22 hi5 AH 128 cH 4 (by decide) (by decide) hHr.2.1
       obtain ⟨A12, hc12, hC12⟩ : ∃ AP, (∀ W : World, (Instr.slice 22 (.slice AH 128 cH) (some (.int .i64 12)) (some (.int .i64 16)) none).run Tryz.prog W = .ok (.slice AP 4 (cH - 12)) W) ∧ ∀ W : World, Kd.C (Kd.int .u8) W AH 128 H → Kd.C (Kd.int .u8) W AP 4 ((H.drop 12).take 4) := part_cut (w := w) (off := 12) (C := 4) (by decide) hHr.2.1 HHL.out
       obtain ⟨A4, hc4, hC4⟩ : ∃ AP, (∀ W : World, (Instr.slice 22 (.slice AH 128 cH) (some (.int .i64 4)) (some (.int .i64 8)) none).run Tryz.prog W = .ok (.slice AP 4 (cH - 4)) W) ∧ ∀ W : World, Kd.C (Kd.int .u8) W AH 128 H → Kd.C (Kd.int .u8) W AP 4 ((H.drop 4).take 4) := part_cut (w := w) (off := 4) (C := 4) (by decide) hHr.2.1 HHL.out
       obtain ⟨A8, hc8, hC8⟩ : ∃ AP, (∀ W : World, (Instr.slice 22 (.slice AH 128 cH) (some (.int .i64 8)) (some (.int .i64 12)) none).run Tryz.prog W = .ok (.slice AP 4 (cH - 8)) W) ∧ ∀ W : World, Kd.C (Kd.int .u8) W AH 128 H → Kd.C (Kd.int .u8) W AP 4 ((H.drop 8).take 4) := part_cut (w := w) (off := 8) (C := 4) (by decide) hHr.2.1 HHL.out
       replace hC12 := q1ha hC12
       replace hC4 := q1ha hC4
       replace hC8 := q1ha hC8
       have HCH := q1ha hHr.2.1
       have hcv : (convert 22 9 (.slice AH 4 cH)).run Tryz.prog w1 = .ok (.string (⟨#[108, 111, 99, 107]⟩ : ByteArray)) w1 := str_of4k HH1.out HHL.out HS4.out
       clear hv1 hb1 hHr hi5 hy5
       go_wp2_with (first
        | (go_at_call 45; have hg_ := HB1.out; clear hg_; refine (kget4 _ A12 (cH - 12) 4 ((H.drop 12).take 4) HL12.out HB12.out (by decide) (hC12.out _ HH1.out) (by have := HCH.out; omega) _ HQ12.out).mono ?_; rintro e w2 ⟨rfl, hd⟩; have HB2 := q1ha (q1hS HB1.out hd.below); have HH2 := q1ha (q1hC HH1.out hd.below); clear hd HB1 HH1 hcv))
       have HBD := q1ha (below_drew HB2.out)
       have HHD := q1ha (q1hC HH2.out (below_drew (Below.refl w2.heap.size w2)))
       clear HB2 HH2
       refine start_ (n := 10) (S := fun w' => True) (ds := []) #[false,false,false,false,false,false,false,false,false,false] (by kernel_rfl) rfl rfl trivial (fun hHeld => ?_)
       generalize w2.drew = wD at HBD HHD hHeld ⊢
       refine pure_ (i:=0) (N:=some 29) (v:=?_) (a':=?_) #[true,false,false,false,false,false,false,false,false,false] rfl rfl (by kernel_rfl) (fun _ _ _ h => h) (Or.inl ⟨by rfl, ?_⟩) ?_ ?_
       rotate_left
       ·
        intro w'
        go_simp
        with_reducible rfl
       rotate_left
       ·
        simp only [Act.put, q1hI, q1h0, q1h1, i64_w, i32_w]
        rfl
       refine pure_ (i:=1) (N:=some 30) (v:=?_) (a':=?_) #[true,true,false,false,false,false,false,false,false,false] rfl rfl (by kernel_rfl) (fun _ _ _ h => h) (Or.inl ⟨by rfl, ?_⟩) ?_ ?_
       rotate_left
       ·
        intro w'
        go_simp
        with_reducible rfl
       rotate_left
       ·
        simp only [Act.put, q1hI, q1h0, q1h1, i64_w, i32_w]
        rfl
       refine pure_ (i:=4) (N:=some 33) (v:=?_) (a':=?_) #[true,true,false,false,true,false,false,false,false,false] rfl rfl (by kernel_rfl) (fun _ _ _ h => h) (Or.inl ⟨by rfl, ?_⟩) ?_ ?_
       rotate_left
       ·
        intro w'
        go_simp
        with_reducible rfl
       rotate_left
       ·
        simp only [Act.put, q1hI, q1h0, q1h1, i64_w, i32_w]
        rfl
       refine pure_ (i:=5) (N:=some 34) (v:=?_) (a':=?_) #[true,true,false,false,true,true,false,false,false,false] rfl rfl (by kernel_rfl) (fun _ _ _ h => h) (Or.inl ⟨by rfl, ?_⟩) ?_ ?_
       rotate_left
       ·
        intro w'
        go_simp
        with_reducible rfl
       rotate_left
       ·
        simp only [Act.put, q1hI, q1h0, q1h1, i64_w, i32_w]
        rfl
       refine one_ (i:=2) (N:=some 31) #[true,true,true,false,true,true,false,false,false,false] rfl rfl (by kernel_rfl) (by decide) (fun K hK => ?_)
       refine goes_ Tryz.func45 (by kernel_rfl) rfl #[.slice A4 4 (cH - 4)] (by rfl) rfl rfl (by simp only [q1hT, List.map_cons, List.map_nil]; rfl) ?_
       with_reducible refine (kget4 _ A4 (cH - 4) 4 ((H.drop 4).take 4) HL4.out HB4_.out (by decide) (hC4.out _ HHD.out) (by have := HCH.out; omega) _ HZ.out).mono ?_
       rintro e w3 ⟨rfl, hd3⟩
       refine ⟨_, rfl, ?_⟩
       refine hK.out _ _ trivial (fun hHeld => ?_)
       clear hK K
       refine norm_ (a' := ?_) ?_ ?_
       rotate_left
       ·
        show Act.put _ (some 31) _ = _
        simp only [Act.put, q1hI, q1h0, q1h1, i64_w, i32_w]
        rfl
       refine pure_ (i:=3) (N:=some 32) (v:=?_) (a':=?_) #[true,true,true,true,true,true,false,false,false,false] rfl rfl (by kernel_rfl) (fun _ _ _ h => h) (Or.inl ⟨by rfl, ?_⟩) ?_ ?_
       rotate_left
       ·
        intro w'
        go_simp
        with_reducible rfl
       rotate_left
       ·
        simp only [Act.put, q1hI, q1h0, q1h1, i64_w, i32_w]
        rfl
       refine one_ (i:=6) (N:=some 35) #[true,true,true,true,true,true,true,false,false,false] rfl rfl (by kernel_rfl) (by decide) (fun K hK => ?_)
       refine goes_ Tryz.func45 (by kernel_rfl) rfl #[.slice A8 4 (cH - 8)] (by rfl) rfl rfl (by simp only [q1hT, List.map_cons, List.map_nil]; rfl) ?_
       with_reducible refine (kget4 _ A8 (cH - 8) 4 ((H.drop 8).take 4) HL8.out HB8.out (by decide) (hC8.out _ (q1hC HHD.out hd3.below)) (by have := HCH.out; omega) _ HQ8.out).mono ?_
       rintro e w4 ⟨rfl, hd4⟩
       refine ⟨_, rfl, ?_⟩
       refine hK.out _ _ trivial (fun hHeld => ?_)
       clear hK K
       refine norm_ (a' := ?_) ?_ ?_
       rotate_left
       ·
        show Act.put _ (some 35) _ = _
        simp only [Act.put, q1hI, q1h0, q1h1, i64_w, i32_w]
        rfl
       refine pure_ (i:=7) (N:=some 36) (v:=?_) (a':=?_) #[true,true,true,true,true,true,true,true,false,false] rfl rfl (by kernel_rfl) (fun _ _ _ h => h) (Or.inl ⟨by rfl, ?_⟩) ?_ ?_
       rotate_left
       ·
        intro w'
        go_simp
        with_reducible rfl
       rotate_left
       ·
        simp only [Act.put, q1hI, q1h0, q1h1, i64_w, i32_w]
        rfl
       refine pure_ (i:=8) (N:=some 8) (v:=?_) (a':=?_) #[true,true,true,true,true,true,true,true,true,false] rfl rfl (by kernel_rfl) (fun _ _ _ h => h) (Or.inl ⟨by rfl, ?_⟩) ?_ ?_
       rotate_left
       ·
        intro w'
        go_simp
        with_reducible rfl
       rotate_left
       ·
        simp only [Act.put, q1hI, q1h0, q1h1, i64_w, i32_w]
        rfl
       refine pure_ (i:=9) (N:=some 9) (v:=?_) (a':=?_) #[true,true,true,true,true,true,true,true,true,true] rfl rfl (by kernel_rfl) (fun _ _ _ h => h) (Or.inl ⟨by rfl, ?_⟩) ?_ ?_
       rotate_left
       ·
        intro w'
        go_simp
        with_reducible rfl
       rotate_left
       ·
        simp only [Act.put, q1hI, q1h0, q1h1, i64_w, i32_w]
        rfl
       refine done_ (by kernel_rfl) ?_
       go_wp2
       refine (HSIZE.out _ (q1hS HBD.out (q1hS hd3.below hd4.below))).mono ?_
       rintro e w5 ⟨rfl, hb5⟩
       go_wp2
       refine bodyPost_ret (v := .tuple #[.slice AH 128 cH, .int .i64 Z, .int .i64 q8, .bool true]) (by simp [results, Tryz.results21, go_sem]) rfl ?_
       exact ⟨fun _ => ⟨AH, cH, rfl, HCH.out, q1hC HHD.out (q1hS hd3.below (q1hS hd4.below hb5)), q1hS HBD.out (q1hS hd3.below (q1hS hd4.below hb5))⟩, fun h_ => absurd HYES.out h_⟩
      ·
       have HNO := q1ha (fun h_ : rOk b bad => kz (hform.1 h_).2.2.2.2)
       have tz := decide_eq_false kz
       clear hform k1 k4 kz
       clear hs4 d4
       go_enter Tryz.func21, Tryz.ntmps21
       go_wp2
       refine (HREAD.out).mono ?_
       rintro e w1 ⟨v1, rfl, hv1, hb1⟩
       obtain ⟨AH, cH, eH⟩ := Kd.R_slice hv1
       rw [HHL.out] at eH
       subst eH
       have hHr := Kd.R_reads' hv1
       rw [HHL.out] at hHr
       have HB1 := q1ha hb1
       have HH1 := q1ha hHr.2.2
       obtain ⟨i5, hi5, hy5⟩ := Option.map_eq_some_iff.1 info5
       simp only [Prod.mk.injEq] at hy5
       have hc0 : ∀ W : World, (Instr.slice 22 (.slice AH 128 cH) none (some (.int .i64 4)) none).run Tryz.prog W = .ok (.slice AH 4 cH) W := cut_to (P := Tryz.prog) 22 5 .i64 Tryz.underlying22 hi5 AH 128 cH 4 (by decide) (by decide) hHr.2.1
       obtain ⟨A12, hc12, hC12⟩ : ∃ AP, (∀ W : World, (Instr.slice 22 (.slice AH 128 cH) (some (.int .i64 12)) (some (.int .i64 16)) none).run Tryz.prog W = .ok (.slice AP 4 (cH - 12)) W) ∧ ∀ W : World, Kd.C (Kd.int .u8) W AH 128 H → Kd.C (Kd.int .u8) W AP 4 ((H.drop 12).take 4) := part_cut (w := w) (off := 12) (C := 4) (by decide) hHr.2.1 HHL.out
       obtain ⟨A4, hc4, hC4⟩ : ∃ AP, (∀ W : World, (Instr.slice 22 (.slice AH 128 cH) (some (.int .i64 4)) (some (.int .i64 8)) none).run Tryz.prog W = .ok (.slice AP 4 (cH - 4)) W) ∧ ∀ W : World, Kd.C (Kd.int .u8) W AH 128 H → Kd.C (Kd.int .u8) W AP 4 ((H.drop 4).take 4) := part_cut (w := w) (off := 4) (C := 4) (by decide) hHr.2.1 HHL.out
       obtain ⟨A8, hc8, hC8⟩ : ∃ AP, (∀ W : World, (Instr.slice 22 (.slice AH 128 cH) (some (.int .i64 8)) (some (.int .i64 12)) none).run Tryz.prog W = .ok (.slice AP 4 (cH - 8)) W) ∧ ∀ W : World, Kd.C (Kd.int .u8) W AH 128 H → Kd.C (Kd.int .u8) W AP 4 ((H.drop 8).take 4) := part_cut (w := w) (off := 8) (C := 4) (by decide) hHr.2.1 HHL.out
       replace hC12 := q1ha hC12
       replace hC4 := q1ha hC4
       replace hC8 := q1ha hC8
       have HCH := q1ha hHr.2.1
       have hcv : (convert 22 9 (.slice AH 4 cH)).run Tryz.prog w1 = .ok (.string (⟨#[108, 111, 99, 107]⟩ : ByteArray)) w1 := str_of4k HH1.out HHL.out HS4.out
       clear hv1 hb1 hHr hi5 hy5
       go_wp2_with (first
        | (go_at_call 45; have hg_ := HB1.out; clear hg_; refine (kget4 _ A12 (cH - 12) 4 ((H.drop 12).take 4) HL12.out HB12.out (by decide) (hC12.out _ HH1.out) (by have := HCH.out; omega) _ HQ12.out).mono ?_; rintro e w2 ⟨rfl, hd⟩; have HB2 := q1ha (q1hS HB1.out hd.below); have HH2 := q1ha (q1hC HH1.out hd.below); clear hd HB1 HH1 hcv))
       have HBD := q1ha (below_drew HB2.out)
       have HHD := q1ha (q1hC HH2.out (below_drew (Below.refl w2.heap.size w2)))
       clear HB2 HH2
       refine start_ (n := 10) (S := fun w' => True) (ds := []) #[false,false,false,false,false,false,false,false,false,false] (by kernel_rfl) rfl rfl trivial (fun hHeld => ?_)
       generalize w2.drew = wD at HBD HHD hHeld ⊢
       refine pure_ (i:=0) (N:=some 29) (v:=?_) (a':=?_) #[true,false,false,false,false,false,false,false,false,false] rfl rfl (by kernel_rfl) (fun _ _ _ h => h) (Or.inl ⟨by rfl, ?_⟩) ?_ ?_
       rotate_left
       ·
        intro w'
        go_simp
        with_reducible rfl
       rotate_left
       ·
        simp only [Act.put, q1hI, q1h0, q1h1, i64_w, i32_w]
        rfl
       refine pure_ (i:=1) (N:=some 30) (v:=?_) (a':=?_) #[true,true,false,false,false,false,false,false,false,false] rfl rfl (by kernel_rfl) (fun _ _ _ h => h) (Or.inl ⟨by rfl, ?_⟩) ?_ ?_
       rotate_left
       ·
        intro w'
        go_simp
        with_reducible rfl
       rotate_left
       ·
        simp only [Act.put, q1hI, q1h0, q1h1, i64_w, i32_w]
        rfl
       refine pure_ (i:=4) (N:=some 33) (v:=?_) (a':=?_) #[true,true,false,false,true,false,false,false,false,false] rfl rfl (by kernel_rfl) (fun _ _ _ h => h) (Or.inl ⟨by rfl, ?_⟩) ?_ ?_
       rotate_left
       ·
        intro w'
        go_simp
        with_reducible rfl
       rotate_left
       ·
        simp only [Act.put, q1hI, q1h0, q1h1, i64_w, i32_w]
        rfl
       refine pure_ (i:=5) (N:=some 34) (v:=?_) (a':=?_) #[true,true,false,false,true,true,false,false,false,false] rfl rfl (by kernel_rfl) (fun _ _ _ h => h) (Or.inl ⟨by rfl, ?_⟩) ?_ ?_
       rotate_left
       ·
        intro w'
        go_simp
        with_reducible rfl
       rotate_left
       ·
        simp only [Act.put, q1hI, q1h0, q1h1, i64_w, i32_w]
        rfl
       refine one_ (i:=2) (N:=some 31) #[true,true,true,false,true,true,false,false,false,false] rfl rfl (by kernel_rfl) (by decide) (fun K hK => ?_)
       refine goes_ Tryz.func45 (by kernel_rfl) rfl #[.slice A4 4 (cH - 4)] (by rfl) rfl rfl (by simp only [q1hT, List.map_cons, List.map_nil]; rfl) ?_
       with_reducible refine (kget4 _ A4 (cH - 4) 4 ((H.drop 4).take 4) HL4.out HB4_.out (by decide) (hC4.out _ HHD.out) (by have := HCH.out; omega) _ HZ.out).mono ?_
       rintro e w3 ⟨rfl, hd3⟩
       refine ⟨_, rfl, ?_⟩
       refine hK.out _ _ trivial (fun hHeld => ?_)
       clear hK K
       refine norm_ (a' := ?_) ?_ ?_
       rotate_left
       ·
        show Act.put _ (some 31) _ = _
        simp only [Act.put, q1hI, q1h0, q1h1, i64_w, i32_w]
        rfl
       refine pure_ (i:=3) (N:=some 32) (v:=?_) (a':=?_) #[true,true,true,true,true,true,false,false,false,false] rfl rfl (by kernel_rfl) (fun _ _ _ h => h) (Or.inl ⟨by rfl, ?_⟩) ?_ ?_
       rotate_left
       ·
        intro w'
        go_simp
        with_reducible rfl
       rotate_left
       ·
        simp only [Act.put, q1hI, q1h0, q1h1, i64_w, i32_w]
        rfl
       refine one_ (i:=6) (N:=some 35) #[true,true,true,true,true,true,true,false,false,false] rfl rfl (by kernel_rfl) (by decide) (fun K hK => ?_)
       refine goes_ Tryz.func45 (by kernel_rfl) rfl #[.slice A8 4 (cH - 8)] (by rfl) rfl rfl (by simp only [q1hT, List.map_cons, List.map_nil]; rfl) ?_
       with_reducible refine (kget4 _ A8 (cH - 8) 4 ((H.drop 8).take 4) HL8.out HB8.out (by decide) (hC8.out _ (q1hC HHD.out hd3.below)) (by have := HCH.out; omega) _ HQ8.out).mono ?_
       rintro e w4 ⟨rfl, hd4⟩
       refine ⟨_, rfl, ?_⟩
       refine hK.out _ _ trivial (fun hHeld => ?_)
       clear hK K
       refine norm_ (a' := ?_) ?_ ?_
       rotate_left
       ·
        show Act.put _ (some 35) _ = _
        simp only [Act.put, q1hI, q1h0, q1h1, i64_w, i32_w]
        rfl
       refine pure_ (i:=7) (N:=some 36) (v:=?_) (a':=?_) #[true,true,true,true,true,true,true,true,false,false] rfl rfl (by kernel_rfl) (fun _ _ _ h => h) (Or.inl ⟨by rfl, ?_⟩) ?_ ?_
       rotate_left
       ·
        intro w'
        go_simp
        with_reducible rfl
       rotate_left
       ·
        simp only [Act.put, q1hI, q1h0, q1h1, i64_w, i32_w]
        rfl
       refine pure_ (i:=8) (N:=some 8) (v:=?_) (a':=?_) #[true,true,true,true,true,true,true,true,true,false] rfl rfl (by kernel_rfl) (fun _ _ _ h => h) (Or.inl ⟨by rfl, ?_⟩) ?_ ?_
       rotate_left
       ·
        intro w'
        go_simp
        with_reducible rfl
       rotate_left
       ·
        simp only [Act.put, q1hI, q1h0, q1h1, i64_w, i32_w]
        rfl
       refine pure_ (i:=9) (N:=some 9) (v:=?_) (a':=?_) #[true,true,true,true,true,true,true,true,true,true] rfl rfl (by kernel_rfl) (fun _ _ _ h => h) (Or.inl ⟨by rfl, ?_⟩) ?_ ?_
       rotate_left
       ·
        intro w'
        go_simp
        with_reducible rfl
       rotate_left
       ·
        simp only [Act.put, q1hI, q1h0, q1h1, i64_w, i32_w]
        rfl
       refine done_ (by kernel_rfl) ?_
       go_wp2
       refine (HSIZE.out _ (q1hS HBD.out (q1hS hd3.below hd4.below))).mono ?_
       rintro e w5 ⟨rfl, hb5⟩
       go_wp2
       refine bodyPost_ret (v := .tuple #[.slice AH 128 cH, .int .i64 Z, .int .i64 q8, .bool false]) (by simp [results, Tryz.results21, go_sem]) rfl ?_
       exact ⟨fun h_ => absurd h_ HNO.out, fun _ => ⟨_, _, _, rfl, q1hS HBD.out (q1hS hd3.below (q1hS hd4.below hb5))⟩⟩
     ·
      have HNO := q1ha (fun h_ : rOk b bad => k4 (hform.1 h_).2.2.2.1)
      have t4 := decide_eq_false k4
      clear hform k1 k4
      clear hs4 d4
      go_enter Tryz.func21, Tryz.ntmps21
      go_wp2
      refine (HREAD.out).mono ?_
      rintro e w1 ⟨v1, rfl, hv1, hb1⟩
      obtain ⟨AH, cH, eH⟩ := Kd.R_slice hv1
      rw [HHL.out] at eH
      subst eH
      have hHr := Kd.R_reads' hv1
      rw [HHL.out] at hHr
      have HB1 := q1ha hb1
      have HH1 := q1ha hHr.2.2
      obtain ⟨i5, hi5, hy5⟩ := Option.map_eq_some_iff.1 info5
      simp only [Prod.mk.injEq] at hy5
      have hc0 : ∀ W : World, (Instr.slice 22 (.slice AH 128 cH) none (some (.int .i64 4)) none).run Tryz.prog W = .ok (.slice AH 4 cH) W := cut_to (P := Tryz.prog) 22 5 .i64 Tryz.underlying22 hi5 AH 128 cH 4 (by decide) (by decide) hHr.2.1
      obtain ⟨A12, hc12, hC12⟩ : ∃ AP, (∀ W : World, (Instr.slice 22 (.slice AH 128 cH) (some (.int .i64 12)) (some (.int .i64 16)) none).run Tryz.prog W = .ok (.slice AP 4 (cH - 12)) W) ∧ ∀ W : World, Kd.C (Kd.int .u8) W AH 128 H → Kd.C (Kd.int .u8) W AP 4 ((H.drop 12).take 4) := part_cut (w := w) (off := 12) (C := 4) (by decide) hHr.2.1 HHL.out
      obtain ⟨A4, hc4, hC4⟩ : ∃ AP, (∀ W : World, (Instr.slice 22 (.slice AH 128 cH) (some (.int .i64 4)) (some (.int .i64 8)) none).run Tryz.prog W = .ok (.slice AP 4 (cH - 4)) W) ∧ ∀ W : World, Kd.C (Kd.int .u8) W AH 128 H → Kd.C (Kd.int .u8) W AP 4 ((H.drop 4).take 4) := part_cut (w := w) (off := 4) (C := 4) (by decide) hHr.2.1 HHL.out
      obtain ⟨A8, hc8, hC8⟩ : ∃ AP, (∀ W : World, (Instr.slice 22 (.slice AH 128 cH) (some (.int .i64 8)) (some (.int .i64 12)) none).run Tryz.prog W = .ok (.slice AP 4 (cH - 8)) W) ∧ ∀ W : World, Kd.C (Kd.int .u8) W AH 128 H → Kd.C (Kd.int .u8) W AP 4 ((H.drop 8).take 4) := part_cut (w := w) (off := 8) (C := 4) (by decide) hHr.2.1 HHL.out
      replace hC12 := q1ha hC12
      replace hC4 := q1ha hC4
      replace hC8 := q1ha hC8
      have HCH := q1ha hHr.2.1
      have hcv : (convert 22 9 (.slice AH 4 cH)).run Tryz.prog w1 = .ok (.string (⟨#[108, 111, 99, 107]⟩ : ByteArray)) w1 := str_of4k HH1.out HHL.out HS4.out
      clear hv1 hb1 hHr hi5 hy5
      go_wp2_with (first
       | (go_at_call 45; have hg_ := HB1.out; clear hg_; refine (kget4 _ A12 (cH - 12) 4 ((H.drop 12).take 4) HL12.out HB12.out (by decide) (hC12.out _ HH1.out) (by have := HCH.out; omega) _ HQ12.out).mono ?_; rintro e w2 ⟨rfl, hd⟩; have HB2 := q1ha (q1hS HB1.out hd.below); have HH2 := q1ha (q1hC HH1.out hd.below); clear hd HB1 HH1 hcv))
      have HBD := q1ha (below_drew HB2.out)
      have HHD := q1ha (q1hC HH2.out (below_drew (Below.refl w2.heap.size w2)))
      clear HB2 HH2
      refine start_ (n := 10) (S := fun w' => True) (ds := []) #[false,false,false,false,false,false,false,false,false,false] (by kernel_rfl) rfl rfl trivial (fun hHeld => ?_)
      generalize w2.drew = wD at HBD HHD hHeld ⊢
      refine pure_ (i:=0) (N:=some 29) (v:=?_) (a':=?_) #[true,false,false,false,false,false,false,false,false,false] rfl rfl (by kernel_rfl) (fun _ _ _ h => h) (Or.inl ⟨by rfl, ?_⟩) ?_ ?_
      rotate_left
      ·
       intro w'
       go_simp
       with_reducible rfl
      rotate_left
      ·
       simp only [Act.put, q1hI, q1h0, q1h1, i64_w, i32_w]
       rfl
      refine pure_ (i:=1) (N:=some 30) (v:=?_) (a':=?_) #[true,true,false,false,false,false,false,false,false,false] rfl rfl (by kernel_rfl) (fun _ _ _ h => h) (Or.inl ⟨by rfl, ?_⟩) ?_ ?_
      rotate_left
      ·
       intro w'
       go_simp
       with_reducible rfl
      rotate_left
      ·
       simp only [Act.put, q1hI, q1h0, q1h1, i64_w, i32_w]
       rfl
      refine pure_ (i:=4) (N:=some 33) (v:=?_) (a':=?_) #[true,true,false,false,true,false,false,false,false,false] rfl rfl (by kernel_rfl) (fun _ _ _ h => h) (Or.inl ⟨by rfl, ?_⟩) ?_ ?_
      rotate_left
      ·
       intro w'
       go_simp
       with_reducible rfl
      rotate_left
      ·
       simp only [Act.put, q1hI, q1h0, q1h1, i64_w, i32_w]
       rfl
      refine pure_ (i:=5) (N:=some 34) (v:=?_) (a':=?_) #[true,true,false,false,true,true,false,false,false,false] rfl rfl (by kernel_rfl) (fun _ _ _ h => h) (Or.inl ⟨by rfl, ?_⟩) ?_ ?_
      rotate_left
      ·
       intro w'
       go_simp
       with_reducible rfl
      rotate_left
      ·
       simp only [Act.put, q1hI, q1h0, q1h1, i64_w, i32_w]
       rfl
      refine one_ (i:=2) (N:=some 31) #[true,true,true,false,true,true,false,false,false,false] rfl rfl (by kernel_rfl) (by decide) (fun K hK => ?_)
      refine goes_ Tryz.func45 (by kernel_rfl) rfl #[.slice A4 4 (cH - 4)] (by rfl) rfl rfl (by simp only [q1hT, List.map_cons, List.map_nil]; rfl) ?_
      with_reducible refine (kget4 _ A4 (cH - 4) 4 ((H.drop 4).take 4) HL4.out HB4_.out (by decide) (hC4.out _ HHD.out) (by have := HCH.out; omega) _ HZ.out).mono ?_
      rintro e w3 ⟨rfl, hd3⟩
      refine ⟨_, rfl, ?_⟩
      refine hK.out _ _ trivial (fun hHeld => ?_)
      clear hK K
      refine norm_ (a' := ?_) ?_ ?_
      rotate_left
      ·
       show Act.put _ (some 31) _ = _
       simp only [Act.put, q1hI, q1h0, q1h1, i64_w, i32_w]
       rfl
      refine pure_ (i:=3) (N:=some 32) (v:=?_) (a':=?_) #[true,true,true,true,true,true,false,false,false,false] rfl rfl (by kernel_rfl) (fun _ _ _ h => h) (Or.inl ⟨by rfl, ?_⟩) ?_ ?_
      rotate_left
      ·
       intro w'
       go_simp
       with_reducible rfl
      rotate_left
      ·
       simp only [Act.put, q1hI, q1h0, q1h1, i64_w, i32_w]
       rfl
      refine one_ (i:=6) (N:=some 35) #[true,true,true,true,true,true,true,false,false,false] rfl rfl (by kernel_rfl) (by decide) (fun K hK => ?_)
      refine goes_ Tryz.func45 (by kernel_rfl) rfl #[.slice A8 4 (cH - 8)] (by rfl) rfl rfl (by simp only [q1hT, List.map_cons, List.map_nil]; rfl) ?_
      with_reducible refine (kget4 _ A8 (cH - 8) 4 ((H.drop 8).take 4) HL8.out HB8.out (by decide) (hC8.out _ (q1hC HHD.out hd3.below)) (by have := HCH.out; omega) _ HQ8.out).mono ?_
      rintro e w4 ⟨rfl, hd4⟩
      refine ⟨_, rfl, ?_⟩
      refine hK.out _ _ trivial (fun hHeld => ?_)
      clear hK K
      refine norm_ (a' := ?_) ?_ ?_
      rotate_left
      ·
       show Act.put _ (some 35) _ = _
       simp only [Act.put, q1hI, q1h0, q1h1, i64_w, i32_w]
       rfl
      refine pure_ (i:=7) (N:=some 36) (v:=?_) (a':=?_) #[true,true,true,true,true,true,true,true,false,false] rfl rfl (by kernel_rfl) (fun _ _ _ h => h) (Or.inl ⟨by rfl, ?_⟩) ?_ ?_
      rotate_left
      ·
       intro w'
       go_simp
       with_reducible rfl
      rotate_left
      ·
       simp only [Act.put, q1hI, q1h0, q1h1, i64_w, i32_w]
       rfl
      refine pure_ (i:=8) (N:=some 8) (v:=?_) (a':=?_) #[true,true,true,true,true,true,true,true,true,false] rfl rfl (by kernel_rfl) (fun _ _ _ h => h) (Or.inl ⟨by rfl, ?_⟩) ?_ ?_
      rotate_left
      ·
       intro w'
       go_simp
       with_reducible rfl
      rotate_left
      ·
       simp only [Act.put, q1hI, q1h0, q1h1, i64_w, i32_w]
       rfl
      refine pure_ (i:=9) (N:=some 9) (v:=?_) (a':=?_) #[true,true,true,true,true,true,true,true,true,true] rfl rfl (by kernel_rfl) (fun _ _ _ h => h) (Or.inl ⟨by rfl, ?_⟩) ?_ ?_
      rotate_left
      ·
       intro w'
       go_simp
       with_reducible rfl
      rotate_left
      ·
       simp only [Act.put, q1hI, q1h0, q1h1, i64_w, i32_w]
       rfl
      refine done_ (by kernel_rfl) ?_
      go_wp2
      refine bodyPost_ret (v := .tuple #[.slice AH 128 cH, .int .i64 Z, .int .i64 q8, .bool false]) (by simp [results, Tryz.results21, go_sem]) rfl ?_
      exact ⟨fun h_ => absurd h_ HNO.out, fun _ => ⟨_, _, _, rfl, q1hS HBD.out (q1hS hd3.below hd4.below)⟩⟩
    ·
     have HNO := q1ha (fun h_ : rOk b bad => k1 (hform.1 h_).2.2.1)
     have t1 := decide_eq_false k1
     clear hform k1
     clear hs4 d4
     go_enter Tryz.func21, Tryz.ntmps21
     go_wp2
     refine (HREAD.out).mono ?_
     rintro e w1 ⟨v1, rfl, hv1, hb1⟩
     obtain ⟨AH, cH, eH⟩ := Kd.R_slice hv1
     rw [HHL.out] at eH
     subst eH
     have hHr := Kd.R_reads' hv1
     rw [HHL.out] at hHr
     have HB1 := q1ha hb1
     have HH1 := q1ha hHr.2.2
     obtain ⟨i5, hi5, hy5⟩ := Option.map_eq_some_iff.1 info5
     simp only [Prod.mk.injEq] at hy5
     have hc0 : ∀ W : World, (Instr.slice 22 (.slice AH 128 cH) none (some (.int .i64 4)) none).run Tryz.prog W = .ok (.slice AH 4 cH) W := cut_to (P := Tryz.prog) 22 5 .i64 Tryz.underlying22 hi5 AH 128 cH 4 (by decide) (by decide) hHr.2.1
     obtain ⟨A12, hc12, hC12⟩ : ∃ AP, (∀ W : World, (Instr.slice 22 (.slice AH 128 cH) (some (.int .i64 12)) (some (.int .i64 16)) none).run Tryz.prog W = .ok (.slice AP 4 (cH - 12)) W) ∧ ∀ W : World, Kd.C (Kd.int .u8) W AH 128 H → Kd.C (Kd.int .u8) W AP 4 ((H.drop 12).take 4) := part_cut (w := w) (off := 12) (C := 4) (by decide) hHr.2.1 HHL.out
     obtain ⟨A4, hc4, hC4⟩ : ∃ AP, (∀ W : World, (Instr.slice 22 (.slice AH 128 cH) (some (.int .i64 4)) (some (.int .i64 8)) none).run Tryz.prog W = .ok (.slice AP 4 (cH - 4)) W) ∧ ∀ W : World, Kd.C (Kd.int .u8) W AH 128 H → Kd.C (Kd.int .u8) W AP 4 ((H.drop 4).take 4) := part_cut (w := w) (off := 4) (C := 4) (by decide) hHr.2.1 HHL.out
     obtain ⟨A8, hc8, hC8⟩ : ∃ AP, (∀ W : World, (Instr.slice 22 (.slice AH 128 cH) (some (.int .i64 8)) (some (.int .i64 12)) none).run Tryz.prog W = .ok (.slice AP 4 (cH - 8)) W) ∧ ∀ W : World, Kd.C (Kd.int .u8) W AH 128 H → Kd.C (Kd.int .u8) W AP 4 ((H.drop 8).take 4) := part_cut (w := w) (off := 8) (C := 4) (by decide) hHr.2.1 HHL.out
     replace hC12 := q1ha hC12
     replace hC4 := q1ha hC4
     replace hC8 := q1ha hC8
     have HCH := q1ha hHr.2.1
     have hcv : (convert 22 9 (.slice AH 4 cH)).run Tryz.prog w1 = .ok (.string (⟨#[108, 111, 99, 107]⟩ : ByteArray)) w1 := str_of4k HH1.out HHL.out HS4.out
     clear hv1 hb1 hHr hi5 hy5
     go_wp2_with (first
      | (go_at_call 45; have hg_ := HB1.out; clear hg_; refine (kget4 _ A12 (cH - 12) 4 ((H.drop 12).take 4) HL12.out HB12.out (by decide) (hC12.out _ HH1.out) (by have := HCH.out; omega) _ HQ12.out).mono ?_; rintro e w2 ⟨rfl, hd⟩; have HB2 := q1ha (q1hS HB1.out hd.below); have HH2 := q1ha (q1hC HH1.out hd.below); clear hd HB1 HH1 hcv))
     have HBD := q1ha (below_drew HB2.out)
     have HHD := q1ha (q1hC HH2.out (below_drew (Below.refl w2.heap.size w2)))
     clear HB2 HH2
     refine start_ (n := 10) (S := fun w' => True) (ds := []) #[false,false,false,false,false,false,false,false,false,false] (by kernel_rfl) rfl rfl trivial (fun hHeld => ?_)
     generalize w2.drew = wD at HBD HHD hHeld ⊢
     refine pure_ (i:=0) (N:=some 29) (v:=?_) (a':=?_) #[true,false,false,false,false,false,false,false,false,false] rfl rfl (by kernel_rfl) (fun _ _ _ h => h) (Or.inl ⟨by rfl, ?_⟩) ?_ ?_
     rotate_left
     ·
      intro w'
      go_simp
      with_reducible rfl
     rotate_left
     ·
      simp only [Act.put, q1hI, q1h0, q1h1, i64_w, i32_w]
      rfl
     refine pure_ (i:=1) (N:=some 30) (v:=?_) (a':=?_) #[true,true,false,false,false,false,false,false,false,false] rfl rfl (by kernel_rfl) (fun _ _ _ h => h) (Or.inl ⟨by rfl, ?_⟩) ?_ ?_
     rotate_left
     ·
      intro w'
      go_simp
      with_reducible rfl
     rotate_left
     ·
      simp only [Act.put, q1hI, q1h0, q1h1, i64_w, i32_w]
      rfl
     refine pure_ (i:=4) (N:=some 33) (v:=?_) (a':=?_) #[true,true,false,false,true,false,false,false,false,false] rfl rfl (by kernel_rfl) (fun _ _ _ h => h) (Or.inl ⟨by rfl, ?_⟩) ?_ ?_
     rotate_left
     ·
      intro w'
      go_simp
      with_reducible rfl
     rotate_left
     ·
      simp only [Act.put, q1hI, q1h0, q1h1, i64_w, i32_w]
      rfl
     refine pure_ (i:=5) (N:=some 34) (v:=?_) (a':=?_) #[true,true,false,false,true,true,false,false,false,false] rfl rfl (by kernel_rfl) (fun _ _ _ h => h) (Or.inl ⟨by rfl, ?_⟩) ?_ ?_
     rotate_left
     ·
      intro w'
      go_simp
      with_reducible rfl
     rotate_left
     ·
      simp only [Act.put, q1hI, q1h0, q1h1, i64_w, i32_w]
      rfl
     refine one_ (i:=2) (N:=some 31) #[true,true,true,false,true,true,false,false,false,false] rfl rfl (by kernel_rfl) (by decide) (fun K hK => ?_)
     refine goes_ Tryz.func45 (by kernel_rfl) rfl #[.slice A4 4 (cH - 4)] (by rfl) rfl rfl (by simp only [q1hT, List.map_cons, List.map_nil]; rfl) ?_
     with_reducible refine (kget4 _ A4 (cH - 4) 4 ((H.drop 4).take 4) HL4.out HB4_.out (by decide) (hC4.out _ HHD.out) (by have := HCH.out; omega) _ HZ.out).mono ?_
     rintro e w3 ⟨rfl, hd3⟩
     refine ⟨_, rfl, ?_⟩
     refine hK.out _ _ trivial (fun hHeld => ?_)
     clear hK K
     refine norm_ (a' := ?_) ?_ ?_
     rotate_left
     ·
      show Act.put _ (some 31) _ = _
      simp only [Act.put, q1hI, q1h0, q1h1, i64_w, i32_w]
      rfl
     refine pure_ (i:=3) (N:=some 32) (v:=?_) (a':=?_) #[true,true,true,true,true,true,false,false,false,false] rfl rfl (by kernel_rfl) (fun _ _ _ h => h) (Or.inl ⟨by rfl, ?_⟩) ?_ ?_
     rotate_left
     ·
      intro w'
      go_simp
      with_reducible rfl
     rotate_left
     ·
      simp only [Act.put, q1hI, q1h0, q1h1, i64_w, i32_w]
      rfl
     refine one_ (i:=6) (N:=some 35) #[true,true,true,true,true,true,true,false,false,false] rfl rfl (by kernel_rfl) (by decide) (fun K hK => ?_)
     refine goes_ Tryz.func45 (by kernel_rfl) rfl #[.slice A8 4 (cH - 8)] (by rfl) rfl rfl (by simp only [q1hT, List.map_cons, List.map_nil]; rfl) ?_
     with_reducible refine (kget4 _ A8 (cH - 8) 4 ((H.drop 8).take 4) HL8.out HB8.out (by decide) (hC8.out _ (q1hC HHD.out hd3.below)) (by have := HCH.out; omega) _ HQ8.out).mono ?_
     rintro e w4 ⟨rfl, hd4⟩
     refine ⟨_, rfl, ?_⟩
     refine hK.out _ _ trivial (fun hHeld => ?_)
     clear hK K
     refine norm_ (a' := ?_) ?_ ?_
     rotate_left
     ·
      show Act.put _ (some 35) _ = _
      simp only [Act.put, q1hI, q1h0, q1h1, i64_w, i32_w]
      rfl
     refine pure_ (i:=7) (N:=some 36) (v:=?_) (a':=?_) #[true,true,true,true,true,true,true,true,false,false] rfl rfl (by kernel_rfl) (fun _ _ _ h => h) (Or.inl ⟨by rfl, ?_⟩) ?_ ?_
     rotate_left
     ·
      intro w'
      go_simp
      with_reducible rfl
     rotate_left
     ·
      simp only [Act.put, q1hI, q1h0, q1h1, i64_w, i32_w]
      rfl
     refine pure_ (i:=8) (N:=some 8) (v:=?_) (a':=?_) #[true,true,true,true,true,true,true,true,true,false] rfl rfl (by kernel_rfl) (fun _ _ _ h => h) (Or.inl ⟨by rfl, ?_⟩) ?_ ?_
     rotate_left
     ·
      intro w'
      go_simp
      with_reducible rfl
     rotate_left
     ·
      simp only [Act.put, q1hI, q1h0, q1h1, i64_w, i32_w]
      rfl
     refine pure_ (i:=9) (N:=some 9) (v:=?_) (a':=?_) #[true,true,true,true,true,true,true,true,true,true] rfl rfl (by kernel_rfl) (fun _ _ _ h => h) (Or.inl ⟨by rfl, ?_⟩) ?_ ?_
     rotate_left
     ·
      intro w'
      go_simp
      with_reducible rfl
     rotate_left
     ·
      simp only [Act.put, q1hI, q1h0, q1h1, i64_w, i32_w]
      rfl
     refine done_ (by kernel_rfl) ?_
     go_wp2
     refine bodyPost_ret (v := .tuple #[.slice AH 128 cH, .int .i64 Z, .int .i64 q8, .bool false]) (by simp [results, Tryz.results21, go_sem]) rfl ?_
     exact ⟨fun h_ => absurd h_ HNO.out, fun _ => ⟨_, _, _, rfl, q1hS HBD.out (q1hS hd3.below hd4.below)⟩⟩
   ·
    have HNO := q1ha (fun h_ : rOk b bad => d12 (hform.1 h_).2.1)
    have t12 : (q12 != 0) = true := bne_iff_ne.mpr d12
    clear hform hs4 d4 d12
    go_enter Tryz.func21, Tryz.ntmps21
    go_wp2
    refine (HREAD.out).mono ?_
    rintro e w1 ⟨v1, rfl, hv1, hb1⟩
    obtain ⟨AH, cH, eH⟩ := Kd.R_slice hv1
    rw [HHL.out] at eH
    subst eH
    have hHr := Kd.R_reads' hv1
    rw [HHL.out] at hHr
    have HB1 := q1ha hb1
    have HH1 := q1ha hHr.2.2
    obtain ⟨i5, hi5, hy5⟩ := Option.map_eq_some_iff.1 info5
    simp only [Prod.mk.injEq] at hy5
    have hc0 : ∀ W : World, (Instr.slice 22 (.slice AH 128 cH) none (some (.int .i64 4)) none).run Tryz.prog W = .ok (.slice AH 4 cH) W := cut_to (P := Tryz.prog) 22 5 .i64 Tryz.underlying22 hi5 AH 128 cH 4 (by decide) (by decide) hHr.2.1
    obtain ⟨A12, hc12, hC12⟩ : ∃ AP, (∀ W : World, (Instr.slice 22 (.slice AH 128 cH) (some (.int .i64 12)) (some (.int .i64 16)) none).run Tryz.prog W = .ok (.slice AP 4 (cH - 12)) W) ∧ ∀ W : World, Kd.C (Kd.int .u8) W AH 128 H → Kd.C (Kd.int .u8) W AP 4 ((H.drop 12).take 4) := part_cut (w := w) (off := 12) (C := 4) (by decide) hHr.2.1 HHL.out
    obtain ⟨A4, hc4, hC4⟩ : ∃ AP, (∀ W : World, (Instr.slice 22 (.slice AH 128 cH) (some (.int .i64 4)) (some (.int .i64 8)) none).run Tryz.prog W = .ok (.slice AP 4 (cH - 4)) W) ∧ ∀ W : World, Kd.C (Kd.int .u8) W AH 128 H → Kd.C (Kd.int .u8) W AP 4 ((H.drop 4).take 4) := part_cut (w := w) (off := 4) (C := 4) (by decide) hHr.2.1 HHL.out
    obtain ⟨A8, hc8, hC8⟩ : ∃ AP, (∀ W : World, (Instr.slice 22 (.slice AH 128 cH) (some (.int .i64 8)) (some (.int .i64 12)) none).run Tryz.prog W = .ok (.slice AP 4 (cH - 8)) W) ∧ ∀ W : World, Kd.C (Kd.int .u8) W AH 128 H → Kd.C (Kd.int .u8) W AP 4 ((H.drop 8).take 4) := part_cut (w := w) (off := 8) (C := 4) (by decide) hHr.2.1 HHL.out
    replace hC12 := q1ha hC12
    replace hC4 := q1ha hC4
    replace hC8 := q1ha hC8
    have HCH := q1ha hHr.2.1
    have hcv : (convert 22 9 (.slice AH 4 cH)).run Tryz.prog w1 = .ok (.string (⟨#[108, 111, 99, 107]⟩ : ByteArray)) w1 := str_of4k HH1.out HHL.out HS4.out
    clear hv1 hb1 hHr hi5 hy5
    go_wp2_with (first
     | (go_at_call 45; have hg_ := HB1.out; clear hg_; refine (kget4 _ A12 (cH - 12) 4 ((H.drop 12).take 4) HL12.out HB12.out (by decide) (hC12.out _ HH1.out) (by have := HCH.out; omega) _ HQ12.out).mono ?_; rintro e w2 ⟨rfl, hd⟩; have HB2 := q1ha (q1hS HB1.out hd.below); have HH2 := q1ha (q1hC HH1.out hd.below); clear hd HB1 HH1 hcv))
    refine bodyPost_ret (v := .tuple #[.slice none 0 0, .int .i64 0, .int .i64 0, .bool false]) (by simp [results, Tryz.results21, go_sem]) rfl ?_
    exact ⟨fun h_ => absurd h_ HNO.out, fun _ => ⟨_, _, _, rfl, HB2.out⟩⟩
  ·
   have HNO := q1ha (fun h_ : rOk b bad => d4 (hform.1 h_).1)
   have t1 : ¬ (s4.toList = [108, 111, 99, 107]) := fun he => d4 ((lock_word H hHB).1 (by rw [← hs4]; exact he))
   have t2 : decide (s4.toList = [108, 111, 99, 107]) = false := decide_eq_false t1
   clear hform hs4 d4
   go_enter Tryz.func21, Tryz.ntmps21
   go_wp2
   refine (HREAD.out).mono ?_
   rintro e w1 ⟨v1, rfl, hv1, hb1⟩
   obtain ⟨AH, cH, eH⟩ := Kd.R_slice hv1
   rw [HHL.out] at eH
   subst eH
   have hHr := Kd.R_reads' hv1
   rw [HHL.out] at hHr
   have HB1 := q1ha hb1
   have HH1 := q1ha hHr.2.2
   obtain ⟨i5, hi5, hy5⟩ := Option.map_eq_some_iff.1 info5
   simp only [Prod.mk.injEq] at hy5
   have hc0 : ∀ W : World, (Instr.slice 22 (.slice AH 128 cH) none (some (.int .i64 4)) none).run Tryz.prog W = .ok (.slice AH 4 cH) W := cut_to (P := Tryz.prog) 22 5 .i64 Tryz.underlying22 hi5 AH 128 cH 4 (by decide) (by decide) hHr.2.1
   obtain ⟨A12, hc12, hC12⟩ : ∃ AP, (∀ W : World, (Instr.slice 22 (.slice AH 128 cH) (some (.int .i64 12)) (some (.int .i64 16)) none).run Tryz.prog W = .ok (.slice AP 4 (cH - 12)) W) ∧ ∀ W : World, Kd.C (Kd.int .u8) W AH 128 H → Kd.C (Kd.int .u8) W AP 4 ((H.drop 12).take 4) := part_cut (w := w) (off := 12) (C := 4) (by decide) hHr.2.1 HHL.out
   obtain ⟨A4, hc4, hC4⟩ : ∃ AP, (∀ W : World, (Instr.slice 22 (.slice AH 128 cH) (some (.int .i64 4)) (some (.int .i64 8)) none).run Tryz.prog W = .ok (.slice AP 4 (cH - 4)) W) ∧ ∀ W : World, Kd.C (Kd.int .u8) W AH 128 H → Kd.C (Kd.int .u8) W AP 4 ((H.drop 4).take 4) := part_cut (w := w) (off := 4) (C := 4) (by decide) hHr.2.1 HHL.out
   obtain ⟨A8, hc8, hC8⟩ : ∃ AP, (∀ W : World, (Instr.slice 22 (.slice AH 128 cH) (some (.int .i64 8)) (some (.int .i64 12)) none).run Tryz.prog W = .ok (.slice AP 4 (cH - 8)) W) ∧ ∀ W : World, Kd.C (Kd.int .u8) W AH 128 H → Kd.C (Kd.int .u8) W AP 4 ((H.drop 8).take 4) := part_cut (w := w) (off := 8) (C := 4) (by decide) hHr.2.1 HHL.out
   replace hC12 := q1ha hC12
   replace hC4 := q1ha hC4
   replace hC8 := q1ha hC8
   have HCH := q1ha hHr.2.1
   have hcv : (convert 22 9 (.slice AH 4 cH)).run Tryz.prog w1 = .ok (.string s4) w1 := str_of4k HH1.out HHL.out HS4.out
   clear hv1 hb1 hHr hi5 hy5
   go_wp2
   refine bodyPost_ret (v := .tuple #[.slice none 0 0, .int .i64 0, .int .i64 0, .bool false]) (by simp [results, Tryz.results21, go_sem]) rfl ?_
   exact ⟨fun h_ => absurd h_ HNO.out, fun _ => ⟨_, _, _, rfl, HB1.out⟩⟩
 ·
  have HNO := q1ha (fun h_ : rOk b bad => e1 h_.1)
  obtain ⟨E1, hE1⟩ : ∃ E, E = readErr b.length bad 0 128 := ⟨_, rfl⟩
  rw [← hE1] at hread e1
  have te1 : (E1 != 0) = true := bne_iff_ne.mpr e1
  have te2 : ¬ (E1 = 0) := e1
  have HREAD := q1ha hread
  clear h hread e1 hE1
  go_enter Tryz.func21, Tryz.ntmps21
  go_wp2
  refine (HREAD.out).mono ?_
  rintro e w1 ⟨v1, rfl, hv1, hb1⟩
  have HB1 := q1ha hb1
  clear hb1 hv1
  go_wp2
  refine bodyPost_ret (v := .tuple #[.slice none 0 0, .int .i64 0, .int .i64 0, .bool false]) (by simp [results, Tryz.results21, go_sem]) rfl ?_
  exact ⟨fun h_ => absurd h_ HNO.out, fun _ => ⟨_, _, _, rfl, HB1.out⟩⟩
end Go.Proofs.YtagcaheopbmdiaaGreat.Pure
