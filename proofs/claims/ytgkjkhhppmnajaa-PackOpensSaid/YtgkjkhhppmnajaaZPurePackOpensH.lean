/- Packed layers: opening, for any source. No condition. -/
import Derived.Test.YtgkjkhhppmnajaaZPurePackOpensG
import Derived.Lib.Bytes
import Derived.Lib.Repeat
import Derived.Lib.EndianBits
namespace Go.Proofs.Ytgkjkhhppmnajaa.Pure
open Go.Proofs.Ytgkjkhhppmnajaa.SumPlain Go.Maps
open Go Go.RowKit Go.Proofs.Ytgkjkhhppmnajaa.QPackOpens Go.Proofs.YtgkjkhhppmnajaaW.PrintWords Go.Proofs.YtgkjkhhppmnajaaW.PrintLast Go.Proofs.YtgkjkhhppmnajaaW.PrintMore
set_option linter.unusedVariables false
set_option linter.unusedSimpArgs false
theorem q12I : type_of% @List.setIfInBounds_toArray := @List.setIfInBounds_toArray
theorem q120 : type_of% @List.set_cons_zero := @List.set_cons_zero
theorem q121 : type_of% @List.set_cons_succ := @List.set_cons_succ
theorem q12S : type_of% @below_step := @below_step
theorem q12C : type_of% @Kd.C_below := @Kd.C_below
theorem q12a : type_of% @Aside0.mk := @Aside0.mk
/-- a packed layer in memory -/
structure IsLay (w : World) (g T : Nat) (x : Value) (size : Nat) (A : Option Addr) (c : Nat) (l : List S45) : Prop where
 blk : w.heap[g]? = some (.cells #[.iface T x, .int .i64 (size : Int), .slice A l.length c] 91 (0, 0))
 rl : Kd.C k45 w A l.length l
 cl : l.length ≤ c
theorem IsLay.below {w W : World} {g T : Nat} {x : Value} {size : Nat} {A : Option Addr} {c : Nat} {l : List S45} (h : IsLay w g T x size A c l) (hb : Below w.heap.size w W) : IsLay W g T x size A c l :=
 ⟨blk_below h.blk hb, q12C h.rl hb, h.cl⟩
/-- what opening hands back -/
def PkEnd (w : World) (b : List Int) (bad : List Bool) (T : Nat) (x : Value) (e : Ending) (w' : World) : Prop :=
 (∀ size l, pkOpen b bad = some (size, l) → ∃ g A c, e = .returned (.tuple #[.iface 89 (.pointer (some ⟨g, 0, none⟩)), .int .i64 0]) ∧ IsLay w' g T x size A c l ∧ Below w.heap.size w w') ∧
 (pkOpen b bad = none → e = .returned (.tuple #[.nilIface, .int .i64 3]) ∧ Below w.heap.size w w')
theorem pget4 (W : World) (A : Option Addr) (c n : Nat) (l : List Int) (hl : l.length = n) (hb : Bytes l) (hn : n ≤ 4) (hC : Kd.C (Kd.int .u8) W A n l) (hc : n ≤ c) (r : Int) (hr : leN l = r) : Calls Try.prog 39 #[.slice A n c] W fun e w' => e = .returned (.int .i64 r) ∧ Drawn0 W w' := by
 subst hl
 subst hr
 obtain ⟨k, hk⟩ := (pget_ev l hb hn).rounds
 exact pack_get.calls k A c l _ W hC hc hk
theorem crc_at (W : World) (A : Option Addr) (c n : Nat) (l : List Int) (hl : l.length = n) (hb : Bytes l) (hC : Kd.C (Kd.int .u8) W A n l) (hc : n ≤ c) (r : Int) (hr : crcOf l = r) (hn : n ≤ 140737488351232 := by omega) : Calls Try.prog 41 #[.slice A n c] W fun e w' => e = .returned (.int .i64 r) ∧ Drawn0 W w' := by
 subst hl
 subst hr
 obtain ⟨k, hk⟩ := (crc_ev l hb hn).rounds
 exact sum_Crc.calls k A c l _ W hC hc hk
theorem str_of4 {w : World} {AH : Option Addr} {cH : Nat} {H : List Int} {s : ByteArray} (hC : Kd.C (Kd.int .u8) w AH 16 H) (hl : H.length = 16) (hs : s = strOfNums (H.take 4)) : (convert 22 9 (.slice AH 4 cH)).run Try.prog w = .ok (.string s) w := by
 subst hs
 have hC2 : Kd.C (Kd.int .u8) w AH H.length H := by rw [hl]; exact hC
 have hk : (H.take 4).length = 4 := by rw [List.length_take, hl]; rfl
 have h4 : Kd.C (Kd.int .u8) w AH (H.take 4).length (H.take 4) := Kd.C_take (m := 4) hC2 (by omega)
 have h5 := Kd.C_string (P := Try.prog) (c := cH) (xs := H.take 4) Try.underlying22 Try.underlying5 Try.underlying9 h4
 rw [hk] at h5
 exact h5
theorem cut_last {AH : Option Addr} {cH : Nat} {H : List Int} (hc : 16 ≤ cH) (hl : H.length = 16) : ∃ A12, (∀ W : World, (Instr.slice 22 (.slice AH 16 cH) (some (.int .i64 12)) none none).run Try.prog W = .ok (.slice A12 4 (cH - 12)) W) ∧ ∀ W : World, Kd.C (Kd.int .u8) W AH 16 H → Kd.C (Kd.int .u8) W A12 4 (H.drop 12) := by
 obtain ⟨i5, hi5, hy5⟩ := Option.map_eq_some_iff.1 info5
 simp only [Prod.mk.injEq] at hy5
 refine ⟨if cH = 12 then AH else AH.map (·.add (12 * 1)), fun W => ?_, fun W hC => ?_⟩
 · exact cut_from (P := Try.prog) 22 5 .i64 Try.underlying22 hi5 1 hy5.2.1 AH 16 cH 12 (by decide) (by decide) W
 ·
  have hC2 : Kd.C (Kd.int .u8) W AH H.length H := by rw [hl]; exact hC
  have h1 := Kd.C_mid (lo := 12) (hi := 16) (c := cH) hC2 (by omega) (by omega) (by omega)
  rw [show (H.take 16).drop 12 = H.drop 12 by rw [List.take_of_length_le (by omega)]] at h1
  rw [show (H.drop 12).length = 4 by rw [List.length_drop, hl]] at h1
  exact h1
/-- where the units' loop stands -/
def PkRel (wI wr : World) (g T : Nat) (x : Value) (size U : Nat) (S : Int) (IX : List Int) (all : Option (List S45)) (vi va : Value) : Prop := ∃ (i : Nat) (a : Int) (L : List S45) (v : Value), i ≤ U ∧ vi = .int .i64 (i : Int) ∧ va = .int .i64 a ∧ 0 ≤ a ∧ a ≤ 65536 ∧ L.length = i ∧ Aside0 ((unitsOf S (IX.drop (2 * i)) a).map (fun l => L ++ l) = all) ∧ Aside0 (wr.heap[g]? = some (.cells #[.iface T x, .int .i64 (size : Int), v] 91 (0, 0))) ∧ Aside0 (k45.R 45 wr wI.heap.size (fun _ => True) v L) ∧ Aside0 (Below wI.heap.size wI wr)
set_option maxHeartbeats 16000000 in
set_option maxRecDepth 100000 in
/-- opening, for any source -/
theorem open_calls (w : World) (T : Nat) (x : Value) (fR fO fS fP : Nat) (b fr : List Int) (bad : List Bool) (h : SrcIs w T x fR fO fS fP b fr bad) (hb : Bytes b) (hn : b.length ≤ 65536) :
  Calls Try.prog 9 #[.iface T x] w fun e w' => PkEnd w b bad T x e w' := by
 have hread := (h.ans w (Below.refl _ _)).read 0 16
 have hRr := h.mR.run
 have hRe := h.mR.ent
 have hRa := h.mR.ahead
 have hSr := h.mS.run
 have hSe := h.mS.ent
 have hmR := q12a h.mR
 have HSIZE := q12a (fun W (hb : Below w.heap.size w W) => (h.ans W hb).size)
 have hread2 := fun (q : Int) W (hb : Below w.heap.size w W) => (h.ans W hb).read 16 q
 unfold PkEnd
 by_cases e1 : readErr b.length bad 0 16 = 0
 ·
  have hl16 : 16 ≤ b.length := by
   by_cases hR : inR b.length 0 16
   · have := hR.2.2; omega
   · unfold readErr at e1; rw [if_neg hR] at e1; exact absurd e1 (by decide)
  have hrow : readRow b bad 0 16 = b.take 16 := by unfold readRow; rw [if_pos e1]; simp
  rw [e1, hrow] at hread
  obtain ⟨H, hH⟩ : ∃ H, H = b.take 16 := ⟨_, rfl⟩
  rw [← hH] at hread
  have HHL := q12a (show H.length = 16 by rw [hH, List.length_take]; omega)
  have hh4 : H.take 4 = b.take 4 := by rw [hH, List.take_take]; rfl
  have hh12 : H.drop 12 = (b.drop 12).take 4 := by rw [hH, List.drop_take]
  have hhz : (H.drop 4).take 4 = (b.drop 4).take 4 := by rw [hH, List.drop_take, List.take_take]; rfl
  have hh8 : (H.drop 8).take 4 = (b.drop 8).take 4 := by rw [hH, List.drop_take, List.take_take]; rfl
  have hHB : Bytes H := by rw [hH]; exact b_tk hb 16
  have HB12 := q12a (b_dr hHB 12)
  have HB4_ := q12a (b_cut hHB 4 4)
  have HB8 := q12a (b_cut hHB 8 4)
  have HL12 := q12a (show (H.drop 12).length = 4 by rw [List.length_drop, HHL.out])
  have HL4 := q12a (show ((H.drop 4).take 4).length = 4 by rw [List.length_take, List.length_drop, HHL.out]; rfl)
  have HL8 := q12a (show ((H.drop 8).take 4).length = 4 by rw [List.length_take, List.length_drop, HHL.out]; rfl)
  obtain ⟨s4, hs4⟩ : ∃ s, s = strOfNums (H.take 4) := ⟨_, rfl⟩
  have HS4 := q12a hs4
  obtain ⟨q12, hq12⟩ : ∃ q, leN (H.drop 12) = q := ⟨_, rfl⟩
  have HQ12 := q12a hq12
  obtain ⟨Z, hZ⟩ : ∃ q, leN ((H.drop 4).take 4) = q := ⟨_, rfl⟩
  have HZ := q12a hZ
  obtain ⟨q8, hq8⟩ : ∃ q, leN ((H.drop 8).take 4) = q := ⟨_, rfl⟩
  have HQ8 := q12a hq8
  have hz0 := (leN_4 _ (by rw [HL4.out]; exact Nat.le_refl 4) HB4_.out).1
  rw [hZ] at hz0
  have hpk : pkOpen b bad = if b.take 4 = [112, 97, 99, 107] ∧ q12 = 0 ∧ Z ≤ 65536 then (if readErr b.length bad 16 (2 * (nUn Z.toNat : Nat)) = 0 ∧ q8 = crcOf ((b.drop 16).take (2 * nUn Z.toNat)) then (unitsOf b.length ((b.drop 16).take (2 * nUn Z.toNat)) (16 + 2 * (nUn Z.toNat : Nat))).map fun l => (Z.toNat, l) else none) else none := by
   unfold pkOpen
   rw [← hh12, ← hhz, ← hh8, hq12, hZ, hq8]
   by_cases hc : b.take 4 = [112, 97, 99, 107] ∧ q12 = 0 ∧ Z ≤ 65536
   · rw [if_pos ⟨e1, hc⟩, if_pos hc]
   · rw [if_neg (fun h => hc h.2), if_neg hc]
  rw [← hh4] at hpk
  have HREAD := q12a hread
  clear h hread e1 hrow hH hh12 hhz hh8 hq12 hZ hq8 hh4
  by_cases d4 : H.take 4 = [112, 97, 99, 107]
  ·
   obtain rfl : s4 = (⟨#[112, 97, 99, 107]⟩ : ByteArray) := by rw [hs4, d4]; decide
   by_cases d12 : q12 = 0
   ·
    subst d12
    by_cases dz : Z ≤ 65536
    ·
     have tz : decide ((65536 : Int) < Z) = false := decide_eq_false (by omega)
     obtain ⟨U, hU⟩ : ∃ U, U = nUn Z.toNat := ⟨_, rfl⟩
     have hU2 : U ≤ 256 := by rw [hU]; unfold nUn; omega
     have HUN := q12a (show pack_units.f Z = some (U : Int) by rw [hU]; exact units_val Z hz0 dz)
     have hw2 : IntKind.i64.wrap (2 * (U : Int)) = 2 * (U : Int) := by rw [i64_w]; unfold wrap64; omega
     have hw3 : wrap64 (2 * (U : Int)) = 2 * (U : Int) := by unfold wrap64; omega
     rw [if_pos ⟨d4, rfl, dz⟩, ← hU] at hpk
     clear hU dz
     obtain ⟨E2, hE2⟩ : ∃ E, E = readErr b.length bad 16 (2 * (U : Int)) := ⟨_, rfl⟩
     obtain ⟨IX, hIX⟩ : ∃ r, r = readRow b bad 16 (2 * (U : Int)) := ⟨_, rfl⟩
     replace hread2 := hread2 (2 * (U : Int))
     rw [← hE2, ← hIX] at hread2
     rw [← hE2] at hpk
     by_cases d2 : E2 = 0
     ·
      subst d2
      have hUl : 16 + 2 * U ≤ b.length := by
       by_cases hR : inR b.length 16 (2 * (U : Int))
       · have := hR.2.2; omega
       · unfold readErr at hE2; rw [if_neg hR] at hE2; exact absurd hE2 (by decide)
      have hIX2 : IX = (b.drop 16).take (2 * U) := by
       rw [hIX]; unfold readRow; rw [← hE2, if_pos rfl]
       congr 1
      rw [← hIX2] at hpk
      have HIXB := q12a (show Bytes IX by rw [hIX2]; exact b_cut hb 16 (2 * U))
      have HIXL := q12a (show IX.length = 2 * U by rw [hIX2, List.length_take, List.length_drop]; omega)
      obtain ⟨CR, hCR⟩ : ∃ r, crcOf IX = r := ⟨_, rfl⟩
      rw [hCR] at hpk
      have HCR := q12a hCR
      have HREAD2 := q12a hread2
      clear hread2 hE2 hIX hIX2 hCR hs4 d4
      by_cases dc : q8 = CR
      ·
       rw [if_pos ⟨rfl, dc⟩] at hpk
       have HPK := q12a hpk
       have HQC := q12a dc
       have tc1 : (q8 != CR) = false := by rw [dc]; simp
       have tc2 : q8 = CR := dc
       clear hpk dc tc2
       go_enter Try.func9, Try.ntmps9
       go_wp2
       refine (HREAD.out).mono ?_
       rintro e w1 ⟨v1, rfl, hv1, hb1⟩
       obtain ⟨AH, cH, eH⟩ := Kd.R_slice hv1
       rw [HHL.out] at eH
       subst eH
       have hHr := Kd.R_reads' hv1
       rw [HHL.out] at hHr
       have HB1 := q12a hb1
       have HH1 := q12a hHr.2.2
       obtain ⟨i5, hi5, hy5⟩ := Option.map_eq_some_iff.1 info5
       simp only [Prod.mk.injEq] at hy5
       have hc0 : ∀ W : World, (Instr.slice 22 (.slice AH 16 cH) none (some (.int .i64 4)) none).run Try.prog W = .ok (.slice AH 4 cH) W := cut_to (P := Try.prog) 22 5 .i64 Try.underlying22 hi5 AH 16 cH 4 (by decide) (by decide) hHr.2.1
       obtain ⟨A12, hc12, hC12⟩ : ∃ A12, (∀ W : World, (Instr.slice 22 (.slice AH 16 cH) (some (.int .i64 12)) none none).run Try.prog W = .ok (.slice A12 4 (cH - 12)) W) ∧ ∀ W : World, Kd.C (Kd.int .u8) W AH 16 H → Kd.C (Kd.int .u8) W A12 4 (H.drop 12) := cut_last hHr.2.1 HHL.out
       obtain ⟨A4, hc4, hC4⟩ : ∃ AP, (∀ W : World, (Instr.slice 22 (.slice AH 16 cH) (some (.int .i64 4)) (some (.int .i64 8)) none).run Try.prog W = .ok (.slice AP 4 (cH - 4)) W) ∧ ∀ W : World, Kd.C (Kd.int .u8) W AH 16 H → Kd.C (Kd.int .u8) W AP 4 ((H.drop 4).take 4) := part_cut (w := w) (off := 4) (C := 4) (by decide) hHr.2.1 HHL.out
       obtain ⟨A8, hc8, hC8⟩ : ∃ AP, (∀ W : World, (Instr.slice 22 (.slice AH 16 cH) (some (.int .i64 8)) (some (.int .i64 12)) none).run Try.prog W = .ok (.slice AP 4 (cH - 8)) W) ∧ ∀ W : World, Kd.C (Kd.int .u8) W AH 16 H → Kd.C (Kd.int .u8) W AP 4 ((H.drop 8).take 4) := part_cut (w := w) (off := 8) (C := 4) (by decide) hHr.2.1 HHL.out
       replace hC12 := q12a hC12
       replace hC4 := q12a hC4
       replace hC8 := q12a hC8
       have HCH := q12a hHr.2.1
       have hcv : (convert 22 9 (.slice AH 4 cH)).run Try.prog w1 = .ok (.string (⟨#[112, 97, 99, 107]⟩ : ByteArray)) w1 := str_of4 HH1.out HHL.out HS4.out
       clear hv1 hb1 hHr hi5 hy5
       go_wp2_with (first
        | (go_at_call 39; have hg_ := HB1b.out; clear hg_; refine (pget4 _ A4 (cH - 4) 4 ((H.drop 4).take 4) HL4.out HB4_.out (by decide) (hC4.out _ HH1b.out) (by have := HCH.out; omega) _ HZ.out).mono ?_; rintro e w2 ⟨rfl, hd⟩; have HB2 := q12a (q12S HB1b.out hd.below); have HH2 := q12a (q12C HH1b.out hd.below); clear hd HB1b HH1b)
        | (go_at_call 39; have hg_ := HB1.out; clear hg_; refine (pget4 _ A12 (cH - 12) 4 (H.drop 12) HL12.out HB12.out (by decide) (hC12.out _ HH1.out) (by have := HCH.out; omega) _ HQ12.out).mono ?_; rintro e w1b ⟨rfl, hd⟩; have HB1b := q12a (q12S HB1.out hd.below); have HH1b := q12a (q12C HH1.out hd.below); clear hd HB1 hcv))
       have HBD := q12a (below_drew HB2.out)
       have HHD := q12a (q12C HH2.out (below_drew (Below.refl w2.heap.size w2)))
       clear HB2 HH2
       refine start_ (n := 13) (S := fun w' => True) (ds := []) #[false,false,false,false,false,false,false,false,false,false,false,false,false] (by kernel_rfl) rfl rfl trivial (fun hHeld => ?_)
       generalize w2.drew = wD at HBD HHD hHeld ⊢
       refine pure_ (i:=0) (N:=some 37) (v:=?_) (a':=?_) #[true,false,false,false,false,false,false,false,false,false,false,false,false] rfl rfl (by kernel_rfl) (fun _ _ _ h => h) (Or.inl ⟨by rfl, ?_⟩) ?_ ?_
       rotate_left
       ·
        intro w'
        go_simp
        with_reducible rfl
       rotate_left
       ·
        simp only [Act.put, q12I, q120, q121, i64_w, i32_w]
        rfl
       refine pure_ (i:=1) (N:=some 38) (v:=?_) (a':=?_) #[true,true,false,false,false,false,false,false,false,false,false,false,false] rfl rfl (by kernel_rfl) (fun _ _ _ h => h) (Or.inl ⟨by rfl, ?_⟩) ?_ ?_
       rotate_left
       ·
        intro w'
        go_simp
        with_reducible rfl
       rotate_left
       ·
        simp only [Act.put, q12I, q120, q121, i64_w, i32_w]
        rfl
       refine pure_ (i:=4) (N:=some 41) (v:=?_) (a':=?_) #[true,true,false,false,true,false,false,false,false,false,false,false,false] rfl rfl (by kernel_rfl) (fun _ _ _ h => h) (Or.inl ⟨by rfl, ?_⟩) ?_ ?_
       rotate_left
       ·
        intro w'
        go_simp
        with_reducible rfl
       rotate_left
       ·
        simp only [Act.put, q12I, q120, q121, i64_w, i32_w]
        rfl
       refine pure_ (i:=5) (N:=some 42) (v:=?_) (a':=?_) #[true,true,false,false,true,true,false,false,false,false,false,false,false] rfl rfl (by kernel_rfl) (fun _ _ _ h => h) (Or.inl ⟨by rfl, ?_⟩) ?_ ?_
       rotate_left
       ·
        intro w'
        go_simp
        with_reducible rfl
       rotate_left
       ·
        simp only [Act.put, q12I, q120, q121, i64_w, i32_w]
        rfl
       refine pure_ (i:=6) (N:=some 43) (v:=?_) (a':=?_) #[true,true,false,false,true,true,true,false,false,false,false,false,false] rfl rfl (by kernel_rfl) (fun _ _ _ h => h) (Or.inl ⟨by rfl, ?_⟩) ?_ ?_
       rotate_left
       ·
        intro w'
        go_simp
        with_reducible rfl
       rotate_left
       ·
        simp only [Act.put, q12I, q120, q121, i64_w, i32_w]
        rfl
       refine one_ (i:=2) (N:=some 39) #[true,true,true,false,true,true,true,false,false,false,false,false,false] rfl rfl (by kernel_rfl) (by decide) (fun K hK => ?_)
       refine goes_ Try.func40 (by kernel_rfl) rfl #[.int .i64 Z] (by rfl) rfl rfl (by simp only [List.map_toArray, List.map_cons, List.map_nil]; rfl) ?_
       with_reducible refine (pack_units.calls Z (U : Int) _ HUN.out).mono ?_
       rintro e w3 ⟨rfl, hd3⟩
       refine ⟨_, rfl, ?_⟩
       refine hK.out _ _ trivial (fun hHeld => ?_)
       clear hK K
       refine norm_ (a' := ?_) ?_ ?_
       rotate_left
       ·
        show Act.put _ (some 39) _ = _
        simp only [Act.put, q12I, q120, q121, i64_w, i32_w]
        rfl
       refine pure_ (i:=3) (N:=some 40) (v:=?_) (a':=?_) #[true,true,true,true,true,true,true,false,false,false,false,false,false] rfl rfl (by kernel_rfl) (fun _ _ _ h => h) (Or.inl ⟨by rfl, ?_⟩) ?_ ?_
       rotate_left
       ·
        intro w'
        go_simp
        with_reducible rfl
       rotate_left
       ·
        simp only [Act.put, q12I, q120, q121, i64_w, i32_w]
        rfl
       refine one_ (i:=7) (N:=some 44) #[true,true,true,true,true,true,true,true,false,false,false,false,false] rfl rfl (by kernel_rfl) (by decide) (fun K hK => ?_)
       refine call_ fR #[x, .int .i64 16, .int .i64 (2 * (U : Int))] (by rfl) rfl ?_ ?_
       ·
        unfold execOp
        simp [resolve, Deferred.ofValue, invoke, callMethod, Act.eval]
        rw [show 199 + Made.depth = 299 from rfl, hmR.out.run]
        exact hmR.out.ent _ _
       with_reducible refine (HREAD2.out _ (q12S HBD.out hd3.below)).mono ?_
       rintro e w4 ⟨v4, rfl, hv4, hb4⟩
       refine ⟨_, rfl, ?_⟩
       refine hK.out _ _ trivial (fun hHeld => ?_)
       clear hK K
       refine norm_ (a' := ?_) ?_ ?_
       rotate_left
       ·
        show Act.put _ (some 44) _ = _
        simp only [Act.put, q12I, q120, q121, i64_w, i32_w]
        rfl
       refine pure_ (i:=8) (N:=some 36) (v:=?_) (a':=?_) #[true,true,true,true,true,true,true,true,true,false,false,false,false] rfl rfl (by kernel_rfl) (fun _ _ _ h => h) (Or.inl ⟨by rfl, ?_⟩) ?_ ?_
       rotate_left
       ·
        intro w'
        go_simp
        with_reducible rfl
       rotate_left
       ·
        simp only [Act.put, q12I, q120, q121, i64_w, i32_w]
        rfl
       refine pure_ (i:=9) (N:=some 45) (v:=?_) (a':=?_) #[true,true,true,true,true,true,true,true,true,true,false,false,false] rfl rfl (by kernel_rfl) (fun _ _ _ h => h) (Or.inl ⟨by rfl, ?_⟩) ?_ ?_
       rotate_left
       ·
        intro w'
        go_simp
        with_reducible rfl
       rotate_left
       ·
        simp only [Act.put, q12I, q120, q121, i64_w, i32_w]
        rfl
       refine pure_ (i:=10) (N:=some 46) (v:=?_) (a':=?_) #[true,true,true,true,true,true,true,true,true,true,true,false,false] rfl rfl (by kernel_rfl) (fun _ _ _ h => h) (Or.inl ⟨by rfl, ?_⟩) ?_ ?_
       rotate_left
       ·
        intro w'
        go_simp
        with_reducible rfl
       rotate_left
       ·
        simp only [Act.put, q12I, q120, q121, i64_w, i32_w]
        rfl
       refine pure_ (i:=11) (N:=some 7) (v:=?_) (a':=?_) #[true,true,true,true,true,true,true,true,true,true,true,true,false] rfl rfl (by kernel_rfl) (fun _ _ _ h => h) (Or.inl ⟨by rfl, ?_⟩) ?_ ?_
       rotate_left
       ·
        intro w'
        go_simp
        with_reducible rfl
       rotate_left
       ·
        simp only [Act.put, q12I, q120, q121, i64_w, i32_w]
        rfl
       refine pure_ (i:=12) (N:=some 5) (v:=?_) (a':=?_) #[true,true,true,true,true,true,true,true,true,true,true,true,true] rfl rfl (by kernel_rfl) (fun _ _ _ h => h) (Or.inl ⟨by rfl, ?_⟩) ?_ ?_
       rotate_left
       ·
        intro w'
        go_simp
        with_reducible rfl
       rotate_left
       ·
        simp only [Act.put, q12I, q120, q121, i64_w, i32_w]
        rfl
       refine done_ (by kernel_rfl) ?_
       obtain ⟨AX, cX, eX⟩ := Kd.R_slice hv4
       rw [HIXL.out] at eX
       subst eX
       have hVX := Kd.R_reads' hv4
       rw [show IX.length = 2 * U from HIXL.out] at hVX
       have HV4 := q12a hVX
       clear hv4 hVX hHeld
       go_wp2_with (first
        | (go_at_call 39; have hg_ := HV4.out; clear hg_; refine (pget4 _ A8 (cH - 8) 4 ((H.drop 8).take 4) HL8.out HB8.out (by decide) (hC8.out _ (q12C HHD.out (q12S hd3.below hb4))) (by have := HCH.out; omega) _ HQ8.out).mono ?_; rintro e w5 ⟨rfl, hd5⟩; have HB5 := q12a (q12S HBD.out (q12S hd3.below (q12S hb4 hd5.below))); have HV5 := q12a (q12C HV4.out.2.2 hd5.below); clear hd5 hd3 hb4 HBD HHD)
        | (go_at_call 41; refine (crc_at _ AX cX (2 * U) IX HIXL.out HIXB.out HV5.out HV4.out.2.1 CR HCR.out).mono ?_; rintro e w6 ⟨rfl, hd6⟩; have HB6 := q12a (q12S HB5.out hd6.below); have HV6 := q12a (q12C HV5.out hd6.below); clear hd6 HB5 HV5))
       have HB5b := HB6
       have hZn : (Z.toNat : Int) = Z := Int.toNat_of_nonneg hz0
       have HXA := q12a (show (w6.alloc (.cells #[.iface T x, .int .i64 Z, .slice none 0 0] 91)).heap[w6.heap.size]? = some (.cells #[.iface T x, .int .i64 (Z.toNat : Int), .slice none 0 0] 91 (0, 0)) by rw [hZn]; exact blk_new w6 _)
       have HBA := q12a (below_alloc (Below.refl w6.heap.size w6) (.cells #[.iface T x, .int .i64 Z, .slice none 0 0] 91))
       obtain ⟨all, hall⟩ : ∃ a, a = unitsOf (b.length : Int) IX (16 + 2 * (U : Int)) := ⟨_, rfl⟩
       have HALL := q12a hall
       have HPK2 := q12a (show pkOpen b bad = all.map fun l => (Z.toNat, l) by rw [hall]; exact HPK.out)
       clear hall HPK
       have hw9 : IntKind.i64.wrap (16 + 2 * (U : Int)) = 16 + 2 * (U : Int) := by rw [i64_w]; unfold wrap64; omega
       have hB6 := HB6.out.size
       have HZN := q12a hZn
       clear hZn HB5b
       go_wp2_with (first
        | (go_at_call 40; refine (pack_units.calls Z (U : Int) _ HUN.out).mono ?_; rintro e w7 ⟨rfl, hd7⟩; have HX7 := q12a (blk_below HXA.out hd7.below); have HB7 := q12a (q12S HBA.out hd7.below); clear hd7 HXA HBA))
       go_loopw [66, 9] (fun vi va wr => PkRel w6 wr w6.heap.size T x Z.toNat U (b.length : Int) IX all vi va) (fun vi _ _ => U - (intOf vi).toNat)
       case atStart => exact ⟨0, 16 + 2 * (U : Int), [], .slice none 0 0, Nat.zero_le _, rfl, rfl, by omega, by omega, rfl, ⟨by rw [Nat.mul_zero, List.drop_zero, HALL.out]; cases unitsOf (b.length : Int) IX (16 + 2 * (U : Int)) <;> rfl⟩, HX7, ⟨Kd.R_nil _ _ _ _ _⟩, HB7⟩
       case round =>
        clear HX7 HB7 HALL
        obtain ⟨i, a, L, v, hi, rfl, rfl, ha0, ha1, hLi, HU, HXr, HRr, HBr⟩ := hrel
        have HRM := q12a (show (L.length + 1) * 16 ≤ 140737488355328 by omega)
        replace hLi := q12a hLi
        by_cases hlt : i < U
        ·
         have t0 : decide ((i : Int) < (U : Int)) = true := decide_eq_true (by omega)
         have t0n : decide (i < U) = true := decide_eq_true hlt
         have hnx : IntKind.i64.wrap ((i : Int) + 1) = (i : Int) + 1 := by rw [i64_w]; unfold wrap64; omega
         obtain ⟨o, ho⟩ : ∃ o, o = 2 * i := ⟨_, rfl⟩
         have hwo : IntKind.i64.wrap (2 * (i : Int)) = (o : Int) := by rw [i64_w]; unfold wrap64; omega
         have hwo2 : IntKind.i64.wrap ((o : Int) + 2) = (o : Int) + 2 := by rw [i64_w]; unfold wrap64; omega
         have hu := HU.out
         rw [← ho, drop_rd IX o (by rw [HIXL.out]; omega), drop_rd IX (o + 1) (by rw [HIXL.out]; omega), unitsOf_cons] at hu
         have hp0 := rd_byte HIXB.out o
         have hp1 := rd_byte HIXB.out (o + 1)
         obtain ⟨AC, hcc, hCC⟩ : ∃ AP, (∀ W : World, (Instr.slice 22 (.slice AX (2 * U) cX) (some (.int .i64 (o : Int))) (some (.int .i64 ((o : Int) + 2))) none).run Try.prog W = .ok (.slice AP 2 (cX - o)) W) ∧ ∀ W : World, Kd.C (Kd.int .u8) W AX (2 * U) IX → Kd.C (Kd.int .u8) W AP 2 ((IX.drop o).take 2) := part_cut (w := w) (off := o) (C := 2) (by omega) HV4.out.2.1 HIXL.out
         rw [show (IX.drop o).take 2 = [rd IX (o : Int), rd IX ((o + 1 : Nat) : Int)] by rw [drop_rd IX o (by rw [HIXL.out]; omega), drop_rd IX (o + 1) (by rw [HIXL.out]; omega)]; rfl] at hCC
         obtain ⟨p0, hp0e⟩ : ∃ p, p = rd IX (o : Int) := ⟨_, rfl⟩
         obtain ⟨p1, hp1e⟩ : ∃ p, p = rd IX ((o + 1 : Nat) : Int) := ⟨_, rfl⟩
         rw [← hp0e] at hu hp0 hCC
         rw [← hp1e] at hu hp1 hCC
         obtain ⟨nn, hnn⟩ : ∃ n, n = p0 + 256 * p1 := ⟨_, rfl⟩
         rw [← hnn] at hu
         have HNN := q12a (show leN [p0, p1] = nn by rw [hnn]; simp [leN])
         have HPB := q12a (show Bytes [p0, p1] from fun y hy => by simp at hy; rcases hy with rfl | rfl <;> assumption)
         have hnb : 0 ≤ nn ∧ nn ≤ 65535 := by omega
         have HCC2 := q12a (show 2 ≤ cX - o by have := HV4.out.2.1; omega)
         replace hCC := q12a hCC
         have HU2 := q12a hu
         have HO2 := q12a (show 2 * (i + 1) = o + 1 + 1 by omega)
         have q0 : wr.cell? ⟨w6.heap.size, 0, none⟩ = some (.iface T x) := (blk_cell HXr.out 0).trans rfl
         clear hu HU ho hp0 hp1 hp0e hp1e hnn q0
         by_cases d4 : nn < 4
         ·
          have t4 := decide_eq_true d4
          have hnone := q12a (show pkOpen b bad = none by rw [HPK2.out, ← HU2.out, if_pos (Or.inl d4)]; rfl)
          clear d4 HU2 HO2
          go_wp2_with (first
           | (go_at_call 39; refine (pget4 _ AC (cX - o) 2 [p0, p1] rfl HPB.out (by decide) (hCC.out _ (q12C HV6.out HBr.out)) HCC2.out nn HNN.out).mono ?_; rintro e w8 ⟨rfl, hd8⟩; have HB8 := q12a (q12S HBr.out hd8.below); have HX8 := q12a (blk_below HXr.out hd8.below); have HR8 := q12a (Kd.R_below HRr.out hd8.below); clear hd8 HBr HXr HRr))
          refine bodyPost_ret (v := .tuple #[.nilIface, .int .i64 3]) (by simp [results, Try.results9, go_sem]) rfl ?_
          exact ⟨(fun s_ l_ h_ => by rw [hnone.out] at h_; cases h_), fun _ => ⟨rfl, q12S HB6.out HB8.out⟩⟩
         ·
          have t4 := decide_eq_false d4
          have hws : IntKind.i64.wrap ((b.length : Int) - a) = (b.length : Int) - a := by rw [i64_w]; unfold wrap64; omega
          go_wp2_with (first
           | (go_at_call 39; refine (pget4 _ AC (cX - o) 2 [p0, p1] rfl HPB.out (by decide) (hCC.out _ (q12C HV6.out HBr.out)) HCC2.out nn HNN.out).mono ?_; rintro e w8 ⟨rfl, hd8⟩; have HB8 := q12a (q12S HBr.out hd8.below); have HX8 := q12a (blk_below HXr.out hd8.below); have HR8 := q12a (Kd.R_below HRr.out hd8.below); clear hd8 HBr HXr HRr))
          refine (HSIZE.out _ (q12S HB6.out HB8.out)).mono ?_
          rintro e w9 ⟨rfl, hb9⟩
          have HB9 := q12a (q12S HB8.out hb9)
          have HX9 := q12a (blk_below HX8.out hb9)
          have HR9 := q12a (Kd.R_below HR8.out hb9)
          clear hb9 HB8 HX8 HR8
          by_cases d5 : (b.length : Int) - a < nn
          ·
           have t5 := decide_eq_true d5
           have hnone := q12a (show pkOpen b bad = none by rw [HPK2.out, ← HU2.out, if_pos (Or.inr d5)]; rfl)
           clear d4 d5 HU2 HO2
           go_wp2
           refine bodyPost_ret (v := .tuple #[.nilIface, .int .i64 3]) (by simp [results, Try.results9, go_sem]) rfl ?_
           exact ⟨(fun s_ l_ h_ => by rw [hnone.out] at h_; cases h_), fun _ => ⟨rfl, q12S HB6.out HB9.out⟩⟩
          ·
           have t5 := decide_eq_false d5
           have HU3 := q12a (show ((unitsOf (b.length : Int) (IX.drop (o + 1 + 1)) (a + nn)).map fun l => (L ++ [⟨a, nn⟩]) ++ l) = all by have h3 := HU2.out; rw [if_neg (fun h => by rcases h with h | h <;> omega), Option.map_map] at h3; rw [← h3]; congr 1; funext l; simp)
           have hwa : IntKind.i64.wrap (a + nn) = a + nn := by rw [i64_w]; unfold wrap64; omega
           have hab : 0 ≤ a + nn ∧ a + nn ≤ 65536 := by omega
           have HAB := q12a hab
           have q2 : w9.cell? ⟨w6.heap.size, 2, none⟩ = some v := (blk_cell HX9.out 2).trans rfl
           clear d4 d5 HU2 hab
           go_wp2_with (first
            | ((with_reducible refine gate_builtin (b := .append) (xs := #[.tmp 91, .tmp 95]) rfl ?_); at_builtin; refine Kd.R_append k45 (w0 := w6) w6.heap.size rfl (.tmp 91) (.tmp 95) 23 45 (.agg #[.int .i64 0, .int .i64 0]) 16 rfl Try.underlying23 info45 rfl (by decide) (by decide) v L ⟨a, nn⟩ [.int .i64 a, .int .i64 nn] (fun _ => True) (fun _ => False) rfl rfl (k45_mkM _ _ _ ⟨a, nn⟩) (fun _ h => h.elim) (fun _ _ => trivial) HR9.out HB9.out HB9.out.size HRM.out ?_; intro v4 w10 HR10 HB10 hg10 hat10; obtain ⟨N4, g4, en4⟩ := Kd.R_slice HR10; rw [List.length_append, List.length_singleton] at en4; subst en4; have hb10 := blk_grown HX9.out hg10 (fun he => (typed_ne ⟨_, HX9.out⟩ (Kd.R_typed HR9.out _ he.symm) (by decide)) rfl); have q2 : w10.cell? ⟨w6.heap.size, 2, none⟩ = some v := (blk_cell hb10 2).trans rfl; have k2 := blk_frozen hb10 2; have HX10 := q12a (blk_put hb10 2 (.slice N4 (L.length + 1) g4) rfl); have HR11 := q12a (Kd.R_mono (Kd.R_far (p := ⟨w6.heap.size, 2, none⟩) (Kd.R_types HR10 hb10 (by decide)) (fun x hx => hx.2) (.slice N4 (L.length + 1) g4)) (fun _ hx => hx.1)); have HB11 := q12a (HB10.setCell (Nat.le_refl w6.heap.size) (p := ⟨w6.heap.size, 2, none⟩) (.slice N4 (L.length + 1) g4)); clear hb10 hg10 hat10 HR10 HB10 HR9 HB9 HX9))
           go_roundw
           case rel => exact ⟨i + 1, a + nn, L ++ [⟨a, nn⟩], .slice N4 (L.length + 1) g4, by omega, by go_num, by go_num, HAB.out.1, HAB.out.2, by rw [List.length_append, hLi.out]; rfl, ⟨by rw [HO2.out]; exact HU3.out⟩, HX10, HR11, HB11⟩
           case measure => simp [intOf]; omega
        ·
         obtain rfl : i = U := by omega
         have t0 : decide ((i : Int) < (i : Int)) = false := decide_eq_false (by omega)
         have hu := HU.out
         rw [List.drop_of_length_le (by rw [HIXL.out]; exact Nat.le_refl _), unitsOf_nil, Option.map_some, List.append_nil] at hu
         obtain ⟨AO, cO, eO⟩ := Kd.R_slice HRr.out
         subst eO
         have HRD := q12a (Kd.R_reads' HRr.out)
         have HPK3 := q12a (show pkOpen b bad = some (Z.toNat, L) by rw [HPK2.out, ← hu]; rfl)
         clear hu HU
         go_wp2
         refine bodyPost_ret (v := .tuple #[.iface 89 (.pointer (some ⟨w6.heap.size, 0, none⟩)), .int .i64 0]) (by simp [results, Try.results9, go_sem]) rfl ?_
         refine ⟨fun s_ l_ h_ => ?_, fun h_ => by rw [HPK3.out] at h_; cases h_⟩
         rw [HPK3.out] at h_
         obtain ⟨rfl, rfl⟩ := Prod.mk.inj (Option.some.inj h_)
         exact ⟨w6.heap.size, rfl, ⟨AO, cO, ⟨HXr.out, HRD.out.2.2, HRD.out.2.1⟩⟩, q12S HB6.out HBr.out⟩
      ·
       rw [if_neg (fun h => dc h.2)] at hpk
       have hnone := q12a hpk
       have tc1 : (q8 != CR) = true := bne_iff_ne.mpr dc
       have tc2 : ¬ (q8 = CR) := dc
       clear hpk dc
       go_enter Try.func9, Try.ntmps9
       go_wp2
       refine (HREAD.out).mono ?_
       rintro e w1 ⟨v1, rfl, hv1, hb1⟩
       obtain ⟨AH, cH, eH⟩ := Kd.R_slice hv1
       rw [HHL.out] at eH
       subst eH
       have hHr := Kd.R_reads' hv1
       rw [HHL.out] at hHr
       have HB1 := q12a hb1
       have HH1 := q12a hHr.2.2
       obtain ⟨i5, hi5, hy5⟩ := Option.map_eq_some_iff.1 info5
       simp only [Prod.mk.injEq] at hy5
       have hc0 : ∀ W : World, (Instr.slice 22 (.slice AH 16 cH) none (some (.int .i64 4)) none).run Try.prog W = .ok (.slice AH 4 cH) W := cut_to (P := Try.prog) 22 5 .i64 Try.underlying22 hi5 AH 16 cH 4 (by decide) (by decide) hHr.2.1
       obtain ⟨A12, hc12, hC12⟩ : ∃ A12, (∀ W : World, (Instr.slice 22 (.slice AH 16 cH) (some (.int .i64 12)) none none).run Try.prog W = .ok (.slice A12 4 (cH - 12)) W) ∧ ∀ W : World, Kd.C (Kd.int .u8) W AH 16 H → Kd.C (Kd.int .u8) W A12 4 (H.drop 12) := cut_last hHr.2.1 HHL.out
       obtain ⟨A4, hc4, hC4⟩ : ∃ AP, (∀ W : World, (Instr.slice 22 (.slice AH 16 cH) (some (.int .i64 4)) (some (.int .i64 8)) none).run Try.prog W = .ok (.slice AP 4 (cH - 4)) W) ∧ ∀ W : World, Kd.C (Kd.int .u8) W AH 16 H → Kd.C (Kd.int .u8) W AP 4 ((H.drop 4).take 4) := part_cut (w := w) (off := 4) (C := 4) (by decide) hHr.2.1 HHL.out
       obtain ⟨A8, hc8, hC8⟩ : ∃ AP, (∀ W : World, (Instr.slice 22 (.slice AH 16 cH) (some (.int .i64 8)) (some (.int .i64 12)) none).run Try.prog W = .ok (.slice AP 4 (cH - 8)) W) ∧ ∀ W : World, Kd.C (Kd.int .u8) W AH 16 H → Kd.C (Kd.int .u8) W AP 4 ((H.drop 8).take 4) := part_cut (w := w) (off := 8) (C := 4) (by decide) hHr.2.1 HHL.out
       replace hC12 := q12a hC12
       replace hC4 := q12a hC4
       replace hC8 := q12a hC8
       have HCH := q12a hHr.2.1
       have hcv : (convert 22 9 (.slice AH 4 cH)).run Try.prog w1 = .ok (.string (⟨#[112, 97, 99, 107]⟩ : ByteArray)) w1 := str_of4 HH1.out HHL.out HS4.out
       clear hv1 hb1 hHr hi5 hy5
       go_wp2_with (first
        | (go_at_call 39; have hg_ := HB1b.out; clear hg_; refine (pget4 _ A4 (cH - 4) 4 ((H.drop 4).take 4) HL4.out HB4_.out (by decide) (hC4.out _ HH1b.out) (by have := HCH.out; omega) _ HZ.out).mono ?_; rintro e w2 ⟨rfl, hd⟩; have HB2 := q12a (q12S HB1b.out hd.below); have HH2 := q12a (q12C HH1b.out hd.below); clear hd HB1b HH1b)
        | (go_at_call 39; have hg_ := HB1.out; clear hg_; refine (pget4 _ A12 (cH - 12) 4 (H.drop 12) HL12.out HB12.out (by decide) (hC12.out _ HH1.out) (by have := HCH.out; omega) _ HQ12.out).mono ?_; rintro e w1b ⟨rfl, hd⟩; have HB1b := q12a (q12S HB1.out hd.below); have HH1b := q12a (q12C HH1.out hd.below); clear hd HB1 hcv))
       have HBD := q12a (below_drew HB2.out)
       have HHD := q12a (q12C HH2.out (below_drew (Below.refl w2.heap.size w2)))
       clear HB2 HH2
       refine start_ (n := 13) (S := fun w' => True) (ds := []) #[false,false,false,false,false,false,false,false,false,false,false,false,false] (by kernel_rfl) rfl rfl trivial (fun hHeld => ?_)
       generalize w2.drew = wD at HBD HHD hHeld ⊢
       refine pure_ (i:=0) (N:=some 37) (v:=?_) (a':=?_) #[true,false,false,false,false,false,false,false,false,false,false,false,false] rfl rfl (by kernel_rfl) (fun _ _ _ h => h) (Or.inl ⟨by rfl, ?_⟩) ?_ ?_
       rotate_left
       ·
        intro w'
        go_simp
        with_reducible rfl
       rotate_left
       ·
        simp only [Act.put, q12I, q120, q121, i64_w, i32_w]
        rfl
       refine pure_ (i:=1) (N:=some 38) (v:=?_) (a':=?_) #[true,true,false,false,false,false,false,false,false,false,false,false,false] rfl rfl (by kernel_rfl) (fun _ _ _ h => h) (Or.inl ⟨by rfl, ?_⟩) ?_ ?_
       rotate_left
       ·
        intro w'
        go_simp
        with_reducible rfl
       rotate_left
       ·
        simp only [Act.put, q12I, q120, q121, i64_w, i32_w]
        rfl
       refine pure_ (i:=4) (N:=some 41) (v:=?_) (a':=?_) #[true,true,false,false,true,false,false,false,false,false,false,false,false] rfl rfl (by kernel_rfl) (fun _ _ _ h => h) (Or.inl ⟨by rfl, ?_⟩) ?_ ?_
       rotate_left
       ·
        intro w'
        go_simp
        with_reducible rfl
       rotate_left
       ·
        simp only [Act.put, q12I, q120, q121, i64_w, i32_w]
        rfl
       refine pure_ (i:=5) (N:=some 42) (v:=?_) (a':=?_) #[true,true,false,false,true,true,false,false,false,false,false,false,false] rfl rfl (by kernel_rfl) (fun _ _ _ h => h) (Or.inl ⟨by rfl, ?_⟩) ?_ ?_
       rotate_left
       ·
        intro w'
        go_simp
        with_reducible rfl
       rotate_left
       ·
        simp only [Act.put, q12I, q120, q121, i64_w, i32_w]
        rfl
       refine pure_ (i:=6) (N:=some 43) (v:=?_) (a':=?_) #[true,true,false,false,true,true,true,false,false,false,false,false,false] rfl rfl (by kernel_rfl) (fun _ _ _ h => h) (Or.inl ⟨by rfl, ?_⟩) ?_ ?_
       rotate_left
       ·
        intro w'
        go_simp
        with_reducible rfl
       rotate_left
       ·
        simp only [Act.put, q12I, q120, q121, i64_w, i32_w]
        rfl
       refine one_ (i:=2) (N:=some 39) #[true,true,true,false,true,true,true,false,false,false,false,false,false] rfl rfl (by kernel_rfl) (by decide) (fun K hK => ?_)
       refine goes_ Try.func40 (by kernel_rfl) rfl #[.int .i64 Z] (by rfl) rfl rfl (by simp only [List.map_toArray, List.map_cons, List.map_nil]; rfl) ?_
       with_reducible refine (pack_units.calls Z (U : Int) _ HUN.out).mono ?_
       rintro e w3 ⟨rfl, hd3⟩
       refine ⟨_, rfl, ?_⟩
       refine hK.out _ _ trivial (fun hHeld => ?_)
       clear hK K
       refine norm_ (a' := ?_) ?_ ?_
       rotate_left
       ·
        show Act.put _ (some 39) _ = _
        simp only [Act.put, q12I, q120, q121, i64_w, i32_w]
        rfl
       refine pure_ (i:=3) (N:=some 40) (v:=?_) (a':=?_) #[true,true,true,true,true,true,true,false,false,false,false,false,false] rfl rfl (by kernel_rfl) (fun _ _ _ h => h) (Or.inl ⟨by rfl, ?_⟩) ?_ ?_
       rotate_left
       ·
        intro w'
        go_simp
        with_reducible rfl
       rotate_left
       ·
        simp only [Act.put, q12I, q120, q121, i64_w, i32_w]
        rfl
       refine one_ (i:=7) (N:=some 44) #[true,true,true,true,true,true,true,true,false,false,false,false,false] rfl rfl (by kernel_rfl) (by decide) (fun K hK => ?_)
       refine call_ fR #[x, .int .i64 16, .int .i64 (2 * (U : Int))] (by rfl) rfl ?_ ?_
       ·
        unfold execOp
        simp [resolve, Deferred.ofValue, invoke, callMethod, Act.eval]
        rw [show 199 + Made.depth = 299 from rfl, hmR.out.run]
        exact hmR.out.ent _ _
       with_reducible refine (HREAD2.out _ (q12S HBD.out hd3.below)).mono ?_
       rintro e w4 ⟨v4, rfl, hv4, hb4⟩
       refine ⟨_, rfl, ?_⟩
       refine hK.out _ _ trivial (fun hHeld => ?_)
       clear hK K
       refine norm_ (a' := ?_) ?_ ?_
       rotate_left
       ·
        show Act.put _ (some 44) _ = _
        simp only [Act.put, q12I, q120, q121, i64_w, i32_w]
        rfl
       refine pure_ (i:=8) (N:=some 36) (v:=?_) (a':=?_) #[true,true,true,true,true,true,true,true,true,false,false,false,false] rfl rfl (by kernel_rfl) (fun _ _ _ h => h) (Or.inl ⟨by rfl, ?_⟩) ?_ ?_
       rotate_left
       ·
        intro w'
        go_simp
        with_reducible rfl
       rotate_left
       ·
        simp only [Act.put, q12I, q120, q121, i64_w, i32_w]
        rfl
       refine pure_ (i:=9) (N:=some 45) (v:=?_) (a':=?_) #[true,true,true,true,true,true,true,true,true,true,false,false,false] rfl rfl (by kernel_rfl) (fun _ _ _ h => h) (Or.inl ⟨by rfl, ?_⟩) ?_ ?_
       rotate_left
       ·
        intro w'
        go_simp
        with_reducible rfl
       rotate_left
       ·
        simp only [Act.put, q12I, q120, q121, i64_w, i32_w]
        rfl
       refine pure_ (i:=10) (N:=some 46) (v:=?_) (a':=?_) #[true,true,true,true,true,true,true,true,true,true,true,false,false] rfl rfl (by kernel_rfl) (fun _ _ _ h => h) (Or.inl ⟨by rfl, ?_⟩) ?_ ?_
       rotate_left
       ·
        intro w'
        go_simp
        with_reducible rfl
       rotate_left
       ·
        simp only [Act.put, q12I, q120, q121, i64_w, i32_w]
        rfl
       refine pure_ (i:=11) (N:=some 7) (v:=?_) (a':=?_) #[true,true,true,true,true,true,true,true,true,true,true,true,false] rfl rfl (by kernel_rfl) (fun _ _ _ h => h) (Or.inl ⟨by rfl, ?_⟩) ?_ ?_
       rotate_left
       ·
        intro w'
        go_simp
        with_reducible rfl
       rotate_left
       ·
        simp only [Act.put, q12I, q120, q121, i64_w, i32_w]
        rfl
       refine pure_ (i:=12) (N:=some 5) (v:=?_) (a':=?_) #[true,true,true,true,true,true,true,true,true,true,true,true,true] rfl rfl (by kernel_rfl) (fun _ _ _ h => h) (Or.inl ⟨by rfl, ?_⟩) ?_ ?_
       rotate_left
       ·
        intro w'
        go_simp
        with_reducible rfl
       rotate_left
       ·
        simp only [Act.put, q12I, q120, q121, i64_w, i32_w]
        rfl
       refine done_ (by kernel_rfl) ?_
       obtain ⟨AX, cX, eX⟩ := Kd.R_slice hv4
       rw [HIXL.out] at eX
       subst eX
       have hVX := Kd.R_reads' hv4
       rw [show IX.length = 2 * U from HIXL.out] at hVX
       have HV4 := q12a hVX
       clear hv4 hVX hHeld
       go_wp2_with (first
        | (go_at_call 39; have hg_ := HV4.out; clear hg_; refine (pget4 _ A8 (cH - 8) 4 ((H.drop 8).take 4) HL8.out HB8.out (by decide) (hC8.out _ (q12C HHD.out (q12S hd3.below hb4))) (by have := HCH.out; omega) _ HQ8.out).mono ?_; rintro e w5 ⟨rfl, hd5⟩; have HB5 := q12a (q12S HBD.out (q12S hd3.below (q12S hb4 hd5.below))); have HV5 := q12a (q12C HV4.out.2.2 hd5.below); clear hd5 hd3 hb4 HBD HHD)
        | (go_at_call 41; refine (crc_at _ AX cX (2 * U) IX HIXL.out HIXB.out HV5.out HV4.out.2.1 CR HCR.out).mono ?_; rintro e w6 ⟨rfl, hd6⟩; have HB6 := q12a (q12S HB5.out hd6.below); have HV6 := q12a (q12C HV5.out hd6.below); clear hd6 HB5 HV5))
       refine bodyPost_ret (v := .tuple #[.nilIface, .int .i64 3]) (by simp [results, Try.results9, go_sem]) rfl ?_
       exact ⟨(fun s_ l_ h_ => by rw [hnone.out] at h_; cases h_), fun _ => ⟨rfl, HB6.out⟩⟩
     ·
      rw [if_neg (fun h => d2 h.1)] at hpk
      have hnone := q12a hpk
      have te1 : (E2 != 0) = true := bne_iff_ne.mpr d2
      have te2 : ¬ (E2 = 0) := d2
      have HREAD2 := q12a hread2
      clear hpk d2 hread2 hE2 hIX hs4 d4
      go_enter Try.func9, Try.ntmps9
      go_wp2
      refine (HREAD.out).mono ?_
      rintro e w1 ⟨v1, rfl, hv1, hb1⟩
      obtain ⟨AH, cH, eH⟩ := Kd.R_slice hv1
      rw [HHL.out] at eH
      subst eH
      have hHr := Kd.R_reads' hv1
      rw [HHL.out] at hHr
      have HB1 := q12a hb1
      have HH1 := q12a hHr.2.2
      obtain ⟨i5, hi5, hy5⟩ := Option.map_eq_some_iff.1 info5
      simp only [Prod.mk.injEq] at hy5
      have hc0 : ∀ W : World, (Instr.slice 22 (.slice AH 16 cH) none (some (.int .i64 4)) none).run Try.prog W = .ok (.slice AH 4 cH) W := cut_to (P := Try.prog) 22 5 .i64 Try.underlying22 hi5 AH 16 cH 4 (by decide) (by decide) hHr.2.1
      obtain ⟨A12, hc12, hC12⟩ : ∃ A12, (∀ W : World, (Instr.slice 22 (.slice AH 16 cH) (some (.int .i64 12)) none none).run Try.prog W = .ok (.slice A12 4 (cH - 12)) W) ∧ ∀ W : World, Kd.C (Kd.int .u8) W AH 16 H → Kd.C (Kd.int .u8) W A12 4 (H.drop 12) := cut_last hHr.2.1 HHL.out
      obtain ⟨A4, hc4, hC4⟩ : ∃ AP, (∀ W : World, (Instr.slice 22 (.slice AH 16 cH) (some (.int .i64 4)) (some (.int .i64 8)) none).run Try.prog W = .ok (.slice AP 4 (cH - 4)) W) ∧ ∀ W : World, Kd.C (Kd.int .u8) W AH 16 H → Kd.C (Kd.int .u8) W AP 4 ((H.drop 4).take 4) := part_cut (w := w) (off := 4) (C := 4) (by decide) hHr.2.1 HHL.out
      obtain ⟨A8, hc8, hC8⟩ : ∃ AP, (∀ W : World, (Instr.slice 22 (.slice AH 16 cH) (some (.int .i64 8)) (some (.int .i64 12)) none).run Try.prog W = .ok (.slice AP 4 (cH - 8)) W) ∧ ∀ W : World, Kd.C (Kd.int .u8) W AH 16 H → Kd.C (Kd.int .u8) W AP 4 ((H.drop 8).take 4) := part_cut (w := w) (off := 8) (C := 4) (by decide) hHr.2.1 HHL.out
      replace hC12 := q12a hC12
      replace hC4 := q12a hC4
      replace hC8 := q12a hC8
      have HCH := q12a hHr.2.1
      have hcv : (convert 22 9 (.slice AH 4 cH)).run Try.prog w1 = .ok (.string (⟨#[112, 97, 99, 107]⟩ : ByteArray)) w1 := str_of4 HH1.out HHL.out HS4.out
      clear hv1 hb1 hHr hi5 hy5
      go_wp2_with (first
       | (go_at_call 39; have hg_ := HB1b.out; clear hg_; refine (pget4 _ A4 (cH - 4) 4 ((H.drop 4).take 4) HL4.out HB4_.out (by decide) (hC4.out _ HH1b.out) (by have := HCH.out; omega) _ HZ.out).mono ?_; rintro e w2 ⟨rfl, hd⟩; have HB2 := q12a (q12S HB1b.out hd.below); have HH2 := q12a (q12C HH1b.out hd.below); clear hd HB1b HH1b)
       | (go_at_call 39; have hg_ := HB1.out; clear hg_; refine (pget4 _ A12 (cH - 12) 4 (H.drop 12) HL12.out HB12.out (by decide) (hC12.out _ HH1.out) (by have := HCH.out; omega) _ HQ12.out).mono ?_; rintro e w1b ⟨rfl, hd⟩; have HB1b := q12a (q12S HB1.out hd.below); have HH1b := q12a (q12C HH1.out hd.below); clear hd HB1 hcv))
      have HBD := q12a (below_drew HB2.out)
      have HHD := q12a (q12C HH2.out (below_drew (Below.refl w2.heap.size w2)))
      clear HB2 HH2
      refine start_ (n := 13) (S := fun w' => True) (ds := []) #[false,false,false,false,false,false,false,false,false,false,false,false,false] (by kernel_rfl) rfl rfl trivial (fun hHeld => ?_)
      generalize w2.drew = wD at HBD HHD hHeld ⊢
      refine pure_ (i:=0) (N:=some 37) (v:=?_) (a':=?_) #[true,false,false,false,false,false,false,false,false,false,false,false,false] rfl rfl (by kernel_rfl) (fun _ _ _ h => h) (Or.inl ⟨by rfl, ?_⟩) ?_ ?_
      rotate_left
      ·
       intro w'
       go_simp
       with_reducible rfl
      rotate_left
      ·
       simp only [Act.put, q12I, q120, q121, i64_w, i32_w]
       rfl
      refine pure_ (i:=1) (N:=some 38) (v:=?_) (a':=?_) #[true,true,false,false,false,false,false,false,false,false,false,false,false] rfl rfl (by kernel_rfl) (fun _ _ _ h => h) (Or.inl ⟨by rfl, ?_⟩) ?_ ?_
      rotate_left
      ·
       intro w'
       go_simp
       with_reducible rfl
      rotate_left
      ·
       simp only [Act.put, q12I, q120, q121, i64_w, i32_w]
       rfl
      refine pure_ (i:=4) (N:=some 41) (v:=?_) (a':=?_) #[true,true,false,false,true,false,false,false,false,false,false,false,false] rfl rfl (by kernel_rfl) (fun _ _ _ h => h) (Or.inl ⟨by rfl, ?_⟩) ?_ ?_
      rotate_left
      ·
       intro w'
       go_simp
       with_reducible rfl
      rotate_left
      ·
       simp only [Act.put, q12I, q120, q121, i64_w, i32_w]
       rfl
      refine pure_ (i:=5) (N:=some 42) (v:=?_) (a':=?_) #[true,true,false,false,true,true,false,false,false,false,false,false,false] rfl rfl (by kernel_rfl) (fun _ _ _ h => h) (Or.inl ⟨by rfl, ?_⟩) ?_ ?_
      rotate_left
      ·
       intro w'
       go_simp
       with_reducible rfl
      rotate_left
      ·
       simp only [Act.put, q12I, q120, q121, i64_w, i32_w]
       rfl
      refine pure_ (i:=6) (N:=some 43) (v:=?_) (a':=?_) #[true,true,false,false,true,true,true,false,false,false,false,false,false] rfl rfl (by kernel_rfl) (fun _ _ _ h => h) (Or.inl ⟨by rfl, ?_⟩) ?_ ?_
      rotate_left
      ·
       intro w'
       go_simp
       with_reducible rfl
      rotate_left
      ·
       simp only [Act.put, q12I, q120, q121, i64_w, i32_w]
       rfl
      refine one_ (i:=2) (N:=some 39) #[true,true,true,false,true,true,true,false,false,false,false,false,false] rfl rfl (by kernel_rfl) (by decide) (fun K hK => ?_)
      refine goes_ Try.func40 (by kernel_rfl) rfl #[.int .i64 Z] (by rfl) rfl rfl (by simp only [List.map_toArray, List.map_cons, List.map_nil]; rfl) ?_
      with_reducible refine (pack_units.calls Z (U : Int) _ HUN.out).mono ?_
      rintro e w3 ⟨rfl, hd3⟩
      refine ⟨_, rfl, ?_⟩
      refine hK.out _ _ trivial (fun hHeld => ?_)
      clear hK K
      refine norm_ (a' := ?_) ?_ ?_
      rotate_left
      ·
       show Act.put _ (some 39) _ = _
       simp only [Act.put, q12I, q120, q121, i64_w, i32_w]
       rfl
      refine pure_ (i:=3) (N:=some 40) (v:=?_) (a':=?_) #[true,true,true,true,true,true,true,false,false,false,false,false,false] rfl rfl (by kernel_rfl) (fun _ _ _ h => h) (Or.inl ⟨by rfl, ?_⟩) ?_ ?_
      rotate_left
      ·
       intro w'
       go_simp
       with_reducible rfl
      rotate_left
      ·
       simp only [Act.put, q12I, q120, q121, i64_w, i32_w]
       rfl
      refine one_ (i:=7) (N:=some 44) #[true,true,true,true,true,true,true,true,false,false,false,false,false] rfl rfl (by kernel_rfl) (by decide) (fun K hK => ?_)
      refine call_ fR #[x, .int .i64 16, .int .i64 (2 * (U : Int))] (by rfl) rfl ?_ ?_
      ·
       unfold execOp
       simp [resolve, Deferred.ofValue, invoke, callMethod, Act.eval]
       rw [show 199 + Made.depth = 299 from rfl, hmR.out.run]
       exact hmR.out.ent _ _
      with_reducible refine (HREAD2.out _ (q12S HBD.out hd3.below)).mono ?_
      rintro e w4 ⟨v4, rfl, hv4, hb4⟩
      refine ⟨_, rfl, ?_⟩
      refine hK.out _ _ trivial (fun hHeld => ?_)
      clear hK K
      refine norm_ (a' := ?_) ?_ ?_
      rotate_left
      ·
       show Act.put _ (some 44) _ = _
       simp only [Act.put, q12I, q120, q121, i64_w, i32_w]
       rfl
      refine pure_ (i:=8) (N:=some 36) (v:=?_) (a':=?_) #[true,true,true,true,true,true,true,true,true,false,false,false,false] rfl rfl (by kernel_rfl) (fun _ _ _ h => h) (Or.inl ⟨by rfl, ?_⟩) ?_ ?_
      rotate_left
      ·
       intro w'
       go_simp
       with_reducible rfl
      rotate_left
      ·
       simp only [Act.put, q12I, q120, q121, i64_w, i32_w]
       rfl
      refine pure_ (i:=9) (N:=some 45) (v:=?_) (a':=?_) #[true,true,true,true,true,true,true,true,true,true,false,false,false] rfl rfl (by kernel_rfl) (fun _ _ _ h => h) (Or.inl ⟨by rfl, ?_⟩) ?_ ?_
      rotate_left
      ·
       intro w'
       go_simp
       with_reducible rfl
      rotate_left
      ·
       simp only [Act.put, q12I, q120, q121, i64_w, i32_w]
       rfl
      refine pure_ (i:=10) (N:=some 46) (v:=?_) (a':=?_) #[true,true,true,true,true,true,true,true,true,true,true,false,false] rfl rfl (by kernel_rfl) (fun _ _ _ h => h) (Or.inl ⟨by rfl, ?_⟩) ?_ ?_
      rotate_left
      ·
       intro w'
       go_simp
       with_reducible rfl
      rotate_left
      ·
       simp only [Act.put, q12I, q120, q121, i64_w, i32_w]
       rfl
      refine pure_ (i:=11) (N:=some 7) (v:=?_) (a':=?_) #[true,true,true,true,true,true,true,true,true,true,true,true,false] rfl rfl (by kernel_rfl) (fun _ _ _ h => h) (Or.inl ⟨by rfl, ?_⟩) ?_ ?_
      rotate_left
      ·
       intro w'
       go_simp
       with_reducible rfl
      rotate_left
      ·
       simp only [Act.put, q12I, q120, q121, i64_w, i32_w]
       rfl
      refine pure_ (i:=12) (N:=some 5) (v:=?_) (a':=?_) #[true,true,true,true,true,true,true,true,true,true,true,true,true] rfl rfl (by kernel_rfl) (fun _ _ _ h => h) (Or.inl ⟨by rfl, ?_⟩) ?_ ?_
      rotate_left
      ·
       intro w'
       go_simp
       with_reducible rfl
      rotate_left
      ·
       simp only [Act.put, q12I, q120, q121, i64_w, i32_w]
       rfl
      refine done_ (by kernel_rfl) ?_
      have HB4 := q12a (q12S HBD.out (q12S hd3.below hb4))
      clear hd3 hb4 hv4 hHeld
      go_wp2
      refine bodyPost_ret (v := .tuple #[.nilIface, .int .i64 3]) (by simp [results, Try.results9, go_sem]) rfl ?_
      exact ⟨(fun s_ l_ h_ => by rw [hnone.out] at h_; cases h_), fun _ => ⟨rfl, HB4.out⟩⟩
    ·
     rw [if_neg (fun h => dz h.2.2)] at hpk
     have hnone := q12a hpk
     have tz : decide ((65536 : Int) < Z) = true := decide_eq_true (by omega)
     clear hpk dz hread2 hs4 d4
     go_enter Try.func9, Try.ntmps9
     go_wp2
     refine (HREAD.out).mono ?_
     rintro e w1 ⟨v1, rfl, hv1, hb1⟩
     obtain ⟨AH, cH, eH⟩ := Kd.R_slice hv1
     rw [HHL.out] at eH
     subst eH
     have hHr := Kd.R_reads' hv1
     rw [HHL.out] at hHr
     have HB1 := q12a hb1
     have HH1 := q12a hHr.2.2
     obtain ⟨i5, hi5, hy5⟩ := Option.map_eq_some_iff.1 info5
     simp only [Prod.mk.injEq] at hy5
     have hc0 : ∀ W : World, (Instr.slice 22 (.slice AH 16 cH) none (some (.int .i64 4)) none).run Try.prog W = .ok (.slice AH 4 cH) W := cut_to (P := Try.prog) 22 5 .i64 Try.underlying22 hi5 AH 16 cH 4 (by decide) (by decide) hHr.2.1
     obtain ⟨A12, hc12, hC12⟩ : ∃ A12, (∀ W : World, (Instr.slice 22 (.slice AH 16 cH) (some (.int .i64 12)) none none).run Try.prog W = .ok (.slice A12 4 (cH - 12)) W) ∧ ∀ W : World, Kd.C (Kd.int .u8) W AH 16 H → Kd.C (Kd.int .u8) W A12 4 (H.drop 12) := cut_last hHr.2.1 HHL.out
     obtain ⟨A4, hc4, hC4⟩ : ∃ AP, (∀ W : World, (Instr.slice 22 (.slice AH 16 cH) (some (.int .i64 4)) (some (.int .i64 8)) none).run Try.prog W = .ok (.slice AP 4 (cH - 4)) W) ∧ ∀ W : World, Kd.C (Kd.int .u8) W AH 16 H → Kd.C (Kd.int .u8) W AP 4 ((H.drop 4).take 4) := part_cut (w := w) (off := 4) (C := 4) (by decide) hHr.2.1 HHL.out
     obtain ⟨A8, hc8, hC8⟩ : ∃ AP, (∀ W : World, (Instr.slice 22 (.slice AH 16 cH) (some (.int .i64 8)) (some (.int .i64 12)) none).run Try.prog W = .ok (.slice AP 4 (cH - 8)) W) ∧ ∀ W : World, Kd.C (Kd.int .u8) W AH 16 H → Kd.C (Kd.int .u8) W AP 4 ((H.drop 8).take 4) := part_cut (w := w) (off := 8) (C := 4) (by decide) hHr.2.1 HHL.out
     replace hC12 := q12a hC12
     replace hC4 := q12a hC4
     replace hC8 := q12a hC8
     have HCH := q12a hHr.2.1
     have hcv : (convert 22 9 (.slice AH 4 cH)).run Try.prog w1 = .ok (.string (⟨#[112, 97, 99, 107]⟩ : ByteArray)) w1 := str_of4 HH1.out HHL.out HS4.out
     clear hv1 hb1 hHr hi5 hy5
     go_wp2_with (first
      | (go_at_call 39; have hg_ := HB1b.out; clear hg_; refine (pget4 _ A4 (cH - 4) 4 ((H.drop 4).take 4) HL4.out HB4_.out (by decide) (hC4.out _ HH1b.out) (by have := HCH.out; omega) _ HZ.out).mono ?_; rintro e w2 ⟨rfl, hd⟩; have HB2 := q12a (q12S HB1b.out hd.below); have HH2 := q12a (q12C HH1b.out hd.below); clear hd HB1b HH1b)
      | (go_at_call 39; have hg_ := HB1.out; clear hg_; refine (pget4 _ A12 (cH - 12) 4 (H.drop 12) HL12.out HB12.out (by decide) (hC12.out _ HH1.out) (by have := HCH.out; omega) _ HQ12.out).mono ?_; rintro e w1b ⟨rfl, hd⟩; have HB1b := q12a (q12S HB1.out hd.below); have HH1b := q12a (q12C HH1.out hd.below); clear hd HB1 hcv))
     refine bodyPost_ret (v := .tuple #[.nilIface, .int .i64 3]) (by simp [results, Try.results9, go_sem]) rfl ?_
     exact ⟨(fun s_ l_ h_ => by rw [hnone.out] at h_; cases h_), fun _ => ⟨rfl, HB2.out⟩⟩
   ·
    rw [if_neg (fun h => d12 h.2.1)] at hpk
    have hnone := q12a hpk
    have t1 : (q12 != 0) = true := bne_iff_ne.mpr d12
    have t2 : ¬ (q12 = 0) := d12
    clear hpk d12 hread2 hs4 d4
    go_enter Try.func9, Try.ntmps9
    go_wp2
    refine (HREAD.out).mono ?_
    rintro e w1 ⟨v1, rfl, hv1, hb1⟩
    obtain ⟨AH, cH, eH⟩ := Kd.R_slice hv1
    rw [HHL.out] at eH
    subst eH
    have hHr := Kd.R_reads' hv1
    rw [HHL.out] at hHr
    have HB1 := q12a hb1
    have HH1 := q12a hHr.2.2
    obtain ⟨i5, hi5, hy5⟩ := Option.map_eq_some_iff.1 info5
    simp only [Prod.mk.injEq] at hy5
    have hc0 : ∀ W : World, (Instr.slice 22 (.slice AH 16 cH) none (some (.int .i64 4)) none).run Try.prog W = .ok (.slice AH 4 cH) W := cut_to (P := Try.prog) 22 5 .i64 Try.underlying22 hi5 AH 16 cH 4 (by decide) (by decide) hHr.2.1
    obtain ⟨A12, hc12, hC12⟩ : ∃ A12, (∀ W : World, (Instr.slice 22 (.slice AH 16 cH) (some (.int .i64 12)) none none).run Try.prog W = .ok (.slice A12 4 (cH - 12)) W) ∧ ∀ W : World, Kd.C (Kd.int .u8) W AH 16 H → Kd.C (Kd.int .u8) W A12 4 (H.drop 12) := cut_last hHr.2.1 HHL.out
    obtain ⟨A4, hc4, hC4⟩ : ∃ AP, (∀ W : World, (Instr.slice 22 (.slice AH 16 cH) (some (.int .i64 4)) (some (.int .i64 8)) none).run Try.prog W = .ok (.slice AP 4 (cH - 4)) W) ∧ ∀ W : World, Kd.C (Kd.int .u8) W AH 16 H → Kd.C (Kd.int .u8) W AP 4 ((H.drop 4).take 4) := part_cut (w := w) (off := 4) (C := 4) (by decide) hHr.2.1 HHL.out
    obtain ⟨A8, hc8, hC8⟩ : ∃ AP, (∀ W : World, (Instr.slice 22 (.slice AH 16 cH) (some (.int .i64 8)) (some (.int .i64 12)) none).run Try.prog W = .ok (.slice AP 4 (cH - 8)) W) ∧ ∀ W : World, Kd.C (Kd.int .u8) W AH 16 H → Kd.C (Kd.int .u8) W AP 4 ((H.drop 8).take 4) := part_cut (w := w) (off := 8) (C := 4) (by decide) hHr.2.1 HHL.out
    replace hC12 := q12a hC12
    replace hC4 := q12a hC4
    replace hC8 := q12a hC8
    have HCH := q12a hHr.2.1
    have hcv : (convert 22 9 (.slice AH 4 cH)).run Try.prog w1 = .ok (.string (⟨#[112, 97, 99, 107]⟩ : ByteArray)) w1 := str_of4 HH1.out HHL.out HS4.out
    clear hv1 hb1 hHr hi5 hy5
    go_wp2_with (first
     | (go_at_call 39; have hg_ := HB1.out; clear hg_; refine (pget4 _ A12 (cH - 12) 4 (H.drop 12) HL12.out HB12.out (by decide) (hC12.out _ HH1.out) (by have := HCH.out; omega) _ HQ12.out).mono ?_; rintro e w1b ⟨rfl, hd⟩; have HB1b := q12a (q12S HB1.out hd.below); have HH1b := q12a (q12C HH1.out hd.below); clear hd HB1 hcv))
    refine bodyPost_ret (v := .tuple #[.nilIface, .int .i64 3]) (by simp [results, Try.results9, go_sem]) rfl ?_
    exact ⟨(fun s_ l_ h_ => by rw [hnone.out] at h_; cases h_), fun _ => ⟨rfl, HB1b.out⟩⟩
  ·
   rw [if_neg (fun h => d4 h.1)] at hpk
   have hnone := q12a hpk
   have t1 : ¬ (s4.toList = [112, 97, 99, 107]) := fun he => d4 (by_inj _ _ (b_tk hHB 4) (fun y hy => by simp at hy; omega) (by rw [← Go.Lib.strOfNums_toList, ← hs4, he]; rfl))
   have t2 : decide (s4.toList = [112, 97, 99, 107]) = false := decide_eq_false t1
   clear hpk d4 hread2 hs4
   go_enter Try.func9, Try.ntmps9
   go_wp2
   refine (HREAD.out).mono ?_
   rintro e w1 ⟨v1, rfl, hv1, hb1⟩
   obtain ⟨AH, cH, eH⟩ := Kd.R_slice hv1
   rw [HHL.out] at eH
   subst eH
   have hHr := Kd.R_reads' hv1
   rw [HHL.out] at hHr
   have HB1 := q12a hb1
   have HH1 := q12a hHr.2.2
   obtain ⟨i5, hi5, hy5⟩ := Option.map_eq_some_iff.1 info5
   simp only [Prod.mk.injEq] at hy5
   have hc0 : ∀ W : World, (Instr.slice 22 (.slice AH 16 cH) none (some (.int .i64 4)) none).run Try.prog W = .ok (.slice AH 4 cH) W := cut_to (P := Try.prog) 22 5 .i64 Try.underlying22 hi5 AH 16 cH 4 (by decide) (by decide) hHr.2.1
   obtain ⟨A12, hc12, hC12⟩ : ∃ A12, (∀ W : World, (Instr.slice 22 (.slice AH 16 cH) (some (.int .i64 12)) none none).run Try.prog W = .ok (.slice A12 4 (cH - 12)) W) ∧ ∀ W : World, Kd.C (Kd.int .u8) W AH 16 H → Kd.C (Kd.int .u8) W A12 4 (H.drop 12) := cut_last hHr.2.1 HHL.out
   obtain ⟨A4, hc4, hC4⟩ : ∃ AP, (∀ W : World, (Instr.slice 22 (.slice AH 16 cH) (some (.int .i64 4)) (some (.int .i64 8)) none).run Try.prog W = .ok (.slice AP 4 (cH - 4)) W) ∧ ∀ W : World, Kd.C (Kd.int .u8) W AH 16 H → Kd.C (Kd.int .u8) W AP 4 ((H.drop 4).take 4) := part_cut (w := w) (off := 4) (C := 4) (by decide) hHr.2.1 HHL.out
   obtain ⟨A8, hc8, hC8⟩ : ∃ AP, (∀ W : World, (Instr.slice 22 (.slice AH 16 cH) (some (.int .i64 8)) (some (.int .i64 12)) none).run Try.prog W = .ok (.slice AP 4 (cH - 8)) W) ∧ ∀ W : World, Kd.C (Kd.int .u8) W AH 16 H → Kd.C (Kd.int .u8) W AP 4 ((H.drop 8).take 4) := part_cut (w := w) (off := 8) (C := 4) (by decide) hHr.2.1 HHL.out
   replace hC12 := q12a hC12
   replace hC4 := q12a hC4
   replace hC8 := q12a hC8
   have HCH := q12a hHr.2.1
   have hcv : (convert 22 9 (.slice AH 4 cH)).run Try.prog w1 = .ok (.string s4) w1 := str_of4 HH1.out HHL.out HS4.out
   clear hv1 hb1 hHr hi5 hy5
   go_wp2
   refine bodyPost_ret (v := .tuple #[.nilIface, .int .i64 3]) (by simp [results, Try.results9, go_sem]) rfl ?_
   exact ⟨(fun s_ l_ h_ => by rw [hnone.out] at h_; cases h_), fun _ => ⟨rfl, HB1.out⟩⟩
 ·
  have hnone := q12a (show pkOpen b bad = none by unfold pkOpen; rw [if_neg (fun h => e1 h.1)])
  obtain ⟨E1, hE1⟩ : ∃ E, E = readErr b.length bad 0 16 := ⟨_, rfl⟩
  rw [← hE1] at hread e1
  have te1 : (E1 != 0) = true := bne_iff_ne.mpr e1
  have te2 : ¬ (E1 = 0) := e1
  have HREAD := q12a hread
  clear h hread e1 hE1 hread2
  go_enter Try.func9, Try.ntmps9
  go_wp2
  refine (HREAD.out).mono ?_
  rintro e w1 ⟨v1, rfl, hv1, hb1⟩
  have HB1 := q12a hb1
  clear hb1 hv1
  go_wp2
  refine bodyPost_ret (v := .tuple #[.nilIface, .int .i64 3]) (by simp [results, Try.results9, go_sem]) rfl ?_
  exact ⟨(fun s_ l_ h_ => by rw [hnone.out] at h_; cases h_), fun _ => ⟨rfl, HB1.out⟩⟩
end Go.Proofs.Ytgkjkhhppmnajaa.Pure
