/- Packed layers: the walk of the law, ranges inside. No condition. -/
import Derived.Test.YtgkjkhhppmnajaaZPurePackOpensU
import Derived.Test.YtgkjkhhppmnajaaZPurePackOpensQ
import Derived.Lib.Bytes
import Derived.Lib.Repeat
import Derived.Lib.EndianBits
namespace Go.Proofs.Ytgkjkhhppmnajaa.Pure
open Go.Proofs.Ytgkjkhhppmnajaa.SumPlain Go.Maps
open Go Go.RowKit Go.Proofs.Ytgkjkhhppmnajaa.QPackOpens Go.Proofs.YtgkjkhhppmnajaaW.PrintWords Go.Proofs.YtgkjkhhppmnajaaW.PrintLast Go.Proofs.YtgkjkhhppmnajaaW.PrintMore
set_option linter.unusedVariables false
set_option linter.unusedSimpArgs false
theorem q1fI : type_of% @List.setIfInBounds_toArray := @List.setIfInBounds_toArray
theorem q1f0 : type_of% @List.set_cons_zero := @List.set_cons_zero
theorem q1f1 : type_of% @List.set_cons_succ := @List.set_cons_succ
theorem q1fS : type_of% @below_step := @below_step
theorem q1fa : type_of% @Aside0.mk := @Aside0.mk
/-- reading, both ways: what is handed back, and whether every unit is whole -/
theorem lay_read_any (b : List Int) (bad : List Bool) (hb : Bytes b) (hn : b.length ≤ 65536) (size : Nat) (l : List S45) (hs : size ≤ 65536) (hL : l.length = nUn size) (R : Nat → List Int × Int) (hU : UN b bad size l R) (h4 : ∀ y ∈ l, 4 ≤ y.f1) (o m : Nat) (hm : 0 < m) (hom : o + m ≤ size) (a z f : Nat) (ha : a = o / 256) (hz : z = (o + m - 1) / 256) (hf : f = o % 256) :
  ∃ (er : Int) (X : List Int), ((goodB b bad l R a (z - a + 1) = true ∧ er = 0 ∧ X = ((catR R a (z - a + 1)).drop f).take m) ∨ (goodB b bad l R a (z - a + 1) = false ∧ er = 19 ∧ X = [])) ∧
   ∀ (w : World) (g T : Nat) (x : Value) (fR fO fS fP : Nat) (fr : List Int) (A : Option Addr) (c : Nat), SrcIs w T x fR fO fS fP b fr bad → IsLay w g T x size A c l →
    Calls Try.prog 147 #[.pointer (some ⟨g, 0, none⟩), .int .i64 (o : Int), .int .i64 (m : Int)] w fun e w' => ∃ A7 c7, e = .returned (.tuple #[.slice A7 X.length c7, .int .i64 er]) ∧ Kd.C (Kd.int .u8) w' A7 X.length X ∧ X.length ≤ c7 ∧ Below w.heap.size w w' := by
 by_cases hg : goodB b bad l R a (z - a + 1) = true
 · exact ⟨0, _, Or.inl ⟨hg, rfl, rfl⟩, fun w g T x fR fO fS fP fr A c h hI => lay_read_ok w g T x fR fO fS fP b fr bad h hb hn size A c l hI hs hL R hU h4 o m hm hom a z f ha hz hf ((goodB_run b bad l R a _).1 hg) _ rfl⟩
 ·
  refine ⟨19, [], Or.inr ⟨by simpa using hg, rfl, rfl⟩, fun w g T x fR fO fS fP fr A c h hI => ?_⟩
  refine (lay_read_bad w g T x fR fO fS fP b fr bad h hb hn size A c l hI hs hL R hU h4 o m hm hom a z ha hz (fun h2 => hg ((goodB_run b bad l R a _).2 h2))).mono ?_
  rintro e w' ⟨rfl, h3⟩
  have h7 := Kd.R_reads' (Kd.R_nil (Kd.int .u8) 5 w' 0 (fun _ => True))
  exact ⟨none, 0, rfl, h7.2.2, h7.2.1, h3⟩
/-- the loop over units -/
def PoLoop (w0 wr : World) (b : List Int) (bad : List Bool) (l : List S45) (R : Nat → List Int × Int) (a z : Nat) (vl vs vg vi : Value) : Prop :=
 ∃ (j i : Nat) (s : ByteArray) (gb : Bool) (L : List S45), Aside0 (i = a + j) ∧ vi = .int .i64 (i : Int) ∧ i ≤ z + 1 ∧ vs = .string s ∧ Aside0 (AllS b bad l R a j s) ∧ vg = .bool gb ∧ Aside0 (gb = goodB b bad l R a j) ∧ Aside0 (L = (⟨0, 16 + 2 * (l.length : Int)⟩ : S45) :: unitsL l a j) ∧ Aside0 (k45.R 45 wr w0.heap.size (fun _ => True) vl L) ∧ Aside0 (Below w0.heap.size w0 wr)
theorem unitsL_len (l : List S45) (a j : Nat) : (unitsL l a j).length = j := by unfold unitsL; simp
theorem cut_i {f m n : Nat} (h : f + m ≤ n) : (f : Int) + (m : Int) ≤ (n : Int) := by omega
theorem cut_j {f m : Nat} : (f : Int) ≤ (f : Int) + (m : Int) := by omega
theorem fin_eq {s ss : ByteArray} {f m : Nat} (h : s.extract f (f + m) = ss) : (ss.toList == (s.extract f ((f : Int) + (m : Int)).toNat).toList) = true := by
 rw [show ((f : Int) + (m : Int)).toNat = f + m by omega, h]
 exact beq_self_eq_true _
theorem few_z {j i a z : Nat} (h : i = a + j) (h1 : i ≤ z) (hz : z ≤ 256) : j ≤ 256 := by omega
theorem all_size {s : Nat} {j : Nat} (h : s ≤ 256 * j) (hj : j ≤ 256) {u : Nat} (hu : u ≤ 256) : s + u ≤ 9223372036854775807 := by omega
set_option maxHeartbeats 16000000 in
set_option maxRecDepth 100000 in
/-- ranges inside a packed layer -/
theorem po_in (A0 : Option Addr) (c0 : Nat) (b : List Int) (A1 : Option Addr) (c1 : Nat) (bad : List S45) (o m : Nat) (w : World) (hrb : Kd.C (Kd.int .u8) w A0 b.length b) (hcb : b.length ≤ c0) (hrl : Kd.C k45 w A1 bad.length bad) (hcl : bad.length ≤ c1) (hl : bad.length * 16 ≤ 140737488351232) (hb : Bytes b) (p : List Int) (hp : p = b.take (min b.length 65536)) (bd : List Bool) (hbd : bd = badOf p.length bad) (size : Nat) (l : List S45) (hsome : pkOpen p bd = some (size, l)) (hs : size ≤ 65536) (hm : 0 < m) (hom : o + m ≤ size) :
  Calls Try.prog 3 #[.slice A0 b.length c0, .slice A1 bad.length c1, .int .i64 (o : Int), .int .i64 (m : Int)] w fun e w' => e = .returned (.bool true) ∧ Below w.heap.size w w' := by
 have hpm : p.length ≤ 65536 := by rw [hp, List.length_take]; omega
 have HIMG := q1fa (image_law A0 c0 b A1 c1 bad w hrb hcb hrl hcl hl p hp)
 have HPM := q1fa hpm
 have HPB := q1fa (show Bytes p by rw [hp]; exact b_tk hb _)
 have HCL := q1fa (show (cutS bad p.length).length ≤ 8796093021952 by have := cut_few bad p.length hpm; omega)
 have HBD := q1fa (show badOf p.length (cutS bad p.length) = bd by rw [hbd]; exact cut_bad bad p.length hpm)
 replace hsome := q1fa hsome
 have hsz := q1fa hs
 have hu29 := Try.underlying29
 have hu37 := Try.underlying37
 clear hrb hcb hrl hcl hl hb hp hpm hbd
 obtain ⟨_, hL, hun, hhd, hroom⟩ := pk_says p bd HPB.out HPM.out size l hsome.out
 obtain ⟨R, hU⟩ := un_of p bd size l HPB.out HPM.out
 have h4 : ∀ y ∈ l, 4 ≤ y.f1 := fun y hy => (hun y hy).2.1
 have hl6 : l.length ≤ 65536 := by have := HPM.out; omega
 obtain ⟨n1, n2, n3, n4⟩ := rd_nums o m size l.length hm hom hs hL
 have ho : o + m ≤ 1000000 := by omega
 have hm6 : m ≤ 65536 := by omega
 have hf6 : o % 256 + m ≤ 1000000 := by omega
 have t0 : decide ((o : Int) < 0) = false := decide_eq_false (by omega)
 have t1 : decide ((m : Int) < 0) = false := decide_eq_false (by omega)
 have t2 : decide ((size : Int) < (o : Int)) = false := decide_eq_false (by omega)
 have u2 : o ≤ size := by omega
 have u3 : ¬ (size < o) := by omega
 have hws : IntKind.i64.wrap ((size : Int) - (o : Int)) = (size : Int) - (o : Int) := by rw [i64_w]; unfold wrap64; omega
 have t3 : decide ((size : Int) - (o : Int) < (m : Int)) = false := decide_eq_false (by omega)
 have hroom2 := laid_room p.length l (fun y hy => by have := hun y hy; omega) hroom (o / 256) ((o + m - 1) / 256 - o / 256 + 1) (by omega)
 have hcl := catR_len hU hL (o / 256) (Nat.lt_of_le_of_lt n1 n2) ((o + m - 1) / 256 - o / 256 + 1) (by omega)
 have hcat : okRun p bd l R (o / 256) ((o + m - 1) / 256 - o / 256 + 1) → o % 256 + m ≤ (catR R (o / 256) ((o + m - 1) / 256 - o / 256 + 1)).length ∧ (catR R (o / 256) ((o + m - 1) / 256 - o / 256 + 1)).length ≤ 65536 := fun hg => cat_nums o m size _ hm hom hs (hcl hg)
 have q1 := nat_tdiv o
 have q6 := nat_tdiv (o + m - 1)
 have q9 := nat_tmod o
 have q4 := nat_wrap2 o m ho
 have q5 := nat_wrap3 o m ho hm
 obtain ⟨a, ha⟩ : ∃ a, a = o / 256 := ⟨_, rfl⟩
 obtain ⟨y, hy⟩ : ∃ y, y = o + m - 1 := ⟨_, rfl⟩
 obtain ⟨z, hz⟩ : ∃ z, z = y / 256 := ⟨_, rfl⟩
 obtain ⟨f, hf⟩ : ∃ f, f = o % 256 := ⟨_, rfl⟩
 obtain ⟨er, X, hX, hrd⟩ := lay_read_any p bd HPB.out HPM.out size l hs hL R hU h4 o m hm hom a z f ha (by rw [hz, hy]) hf
 obtain ⟨G, hG⟩ : ∃ G, G = gluedP [] (laid (⟨0, 16 + 2 * (l.length : Int)⟩ :: unitsL l a (z - a + 1))) := ⟨_, rfl⟩
 have hro := fun (w : World) (g T : Nat) (x : Value) (fR fO fS fP : Nat) (A : Option Addr) (c : Nat) (h : SrcIs w T x fR fO fS fP p (idx p.length) bd) (hI : IsLay w g T x size A c l) => lay_road_at w g T x fR fO fS fP p bd h HPM.out size A c l hI hs hL hun hhd o m hm hom a z ha (by rw [hz, hy]) G hG
 have hunit := fun (w : World) (T : Nat) (x : Value) (fR fO fS fP : Nat) (A : Option Addr) (c : Nat) (h : SrcIs w T x fR fO fS fP p (idx p.length) bd) (hC : Kd.C k45 w A l.length l) (i : Nat) (hi : i < l.length) => runit_calls w T x fR fO fS fP p (idx p.length) bd h HPB.out HPM.out size (16 + 2 * (l.length : Int)) A c l hC hs hl6 R hU h4 i hi
 rw [← ha] at q1
 rw [← hy] at q5
 rw [← hy, ← hz] at q6
 rw [← hf] at q9
 rw [← ha, ← hy, ← hz] at hroom2
 rw [← ha, ← hy, ← hz, ← hf] at hcat
 rw [← hy, ← hz] at n2 n3
 rw [← ha, ← hy, ← hz] at n1
 rw [← hf] at n4 hf6
 have haz : a ≤ z := n1
 have hzl : z < l.length := n2
 have hzb : z ≤ 65536 := Nat.le_trans n3 (by decide)
 obtain ⟨LL, hLL⟩ : ∃ LL, LL = (⟨0, 16 + 2 * (l.length : Int)⟩ : S45) :: unitsL l a (z - a + 1) := ⟨_, rfl⟩
 rw [← hLL] at hroom2 hG
 obtain ⟨LD, hLD⟩ : ∃ LD, LD = laid LL := ⟨_, rfl⟩
 have hlen : LL.length ≤ 1000 := by rw [hLL, List.length_cons, unitsL_len]; omega
 have hld : (laid LL).length ≤ 200000 := Nat.le_trans hroom2 (Nat.le_trans HPM.out (by decide))
 obtain ⟨kl, hkl⟩ := (laid_ev LL (Nat.le_trans hlen (by decide)) hld).rounds
 obtain ⟨kg, hkg⟩ := (glued_ev (laid LL) hld (laid_in LL)).rounds
 have hgs := glued_short (laid LL) []
 obtain ⟨ks, hks⟩ := (same_ev G (by rw [hG]; rw [List.length_nil] at hgs; omega)).rounds
 rw [← hG] at hkg
 rw [← hLD] at hkl hkg
 have q3 : IntKind.i64.wrap (a : Int) = (a : Int) := nat_wrap a (Nat.le_trans haz (Nat.le_trans hzb (by decide)))
 have q8 : IntKind.i64.wrap (z : Int) = (z : Int) := nat_wrap z (Nat.le_trans hzb (by decide))
 have q11 : IntKind.i64.wrap (f : Int) = (f : Int) := nat_wrap f (Nat.le_trans (Nat.le_of_lt n4) (by decide))
 have q3b : wrap64 (a : Int) = (a : Int) := by rw [← i64_w]; exact q3
 have q8b : wrap64 (z : Int) = (z : Int) := by rw [← i64_w]; exact q8
 have q11b : wrap64 (f : Int) = (f : Int) := by rw [← i64_w]; exact q11
 have q12 : IntKind.i64.wrap ((f : Int) + (m : Int)) = (f : Int) + (m : Int) := nat_wrap2 f m hf6
 have tm1 : decide ((m : Int) = 0) = false := decide_eq_false (fun h => Nat.pos_iff_ne_zero.1 hm (Int.ofNat_eq_zero.1 h))
 have tm3 : ((m : Int) == 0) = false := beq_eq_false_iff_ne.2 (fun h => Nat.pos_iff_ne_zero.1 hm (Int.ofNat_eq_zero.1 h))
 have tm2 : ¬ (m = 0) := Nat.pos_iff_ne_zero.1 hm
 have HRD := q1fa hrd
 have HRO := q1fa hro
 have HUN := q1fa hunit
 have HX := q1fa hX
 have HKL := q1fa hkl
 have HKG := q1fa hkg
 have HKS := q1fa hks
 have HLL := q1fa hLL
 have HCAT := q1fa hcat
 have HF := q1fa hf
 have HZ2 := q1fa n3
 have HM := q1fa hm
 have HL6b := q1fa hl6
 have HOM := q1fa hom
 clear hL hun hhd hroom hU h4 hl6 n1 n2 n3 n4 ho hm6 hf6 hroom2 hcl hcat ha hz hy hf hX hrd hG hro hunit hLL hLD hlen hld hkl hkg hgs hks hm hom hs
 go_enter Try.func3, Try.ntmps3
 go_wp2_with (first
 | (go_at_call 7; refine HIMG.out.mono ?_; rintro e w1 ⟨g, B1, d1, B2, d2, V1, e1, V2, e2, rfl, hI, _, _, _, _, hb1⟩; have hS := img_src hI HPM.out HCL.out; rw [HBD.out] at hS; obtain ⟨M0, hM0⟩ : ∃ W, w1.alloc (.cells #[.slice none 0 0, .slice none 0 0, .slice none 0 0] 29) = W := ⟨_, rfl⟩; have My0 := blk_new w1 (.cells #[.slice none 0 0, .slice none 0 0, .slice none 0 0] 29); have Mb0 := below_alloc (Below.refl w1.heap.size w1) (.cells #[.slice none 0 0, .slice none 0 0, .slice none 0 0] 29); rw [hM0] at My0 Mb0; obtain ⟨M1, hM1⟩ : ∃ W, M0.setCell ⟨w1.heap.size, 0, none⟩ (.slice A0 p.length c0) = W := ⟨_, rfl⟩; have Mq0 : M0.cell? ⟨w1.heap.size, 0, none⟩ = some (.slice none 0 0) := (blk_cell My0 0).trans rfl; have Mk0 := blk_frozen My0 0; have My1 := blk_put My0 0 (.slice A0 p.length c0) rfl; have Mb1 := Mb0.setCell (Nat.le_refl w1.heap.size) (p := ⟨w1.heap.size, 0, none⟩) (.slice A0 p.length c0); rw [hM1] at My1 Mb1; obtain ⟨M2, hM2⟩ : ∃ W, M1.setCell ⟨w1.heap.size, 1, none⟩ (.slice V1 p.length e1) = W := ⟨_, rfl⟩; have Mq1 : M1.cell? ⟨w1.heap.size, 1, none⟩ = some (.slice none 0 0) := (blk_cell My1 1).trans rfl; have Mk1 := blk_frozen My1 1; have My2 := blk_put My1 1 (.slice V1 p.length e1) rfl; have Mb2 := Mb1.setCell (Nat.le_refl w1.heap.size) (p := ⟨w1.heap.size, 1, none⟩) (.slice V1 p.length e1); rw [hM2] at My2 Mb2; obtain ⟨M3, hM3⟩ : ∃ W, M2.setCell ⟨w1.heap.size, 2, none⟩ (.slice V2 p.length e2) = W := ⟨_, rfl⟩; have Mq2 : M2.cell? ⟨w1.heap.size, 2, none⟩ = some (.slice none 0 0) := (blk_cell My2 2).trans rfl; have Mk2 := blk_frozen My2 2; have My3 := blk_put My2 2 (.slice V2 p.length e2) rfl; have Mb3 := Mb2.setCell (Nat.le_refl w1.heap.size) (p := ⟨w1.heap.size, 2, none⟩) (.slice V2 p.length e2); rw [hM3] at My3 Mb3; clear My0 My1 My2 Mb0 Mb1 Mb2; replace My3 := q1fa My3; have HS := q1fa (hS.below Mb3); have HB1 := q1fa (q1fS hb1 Mb3); clear hI hb1 hS Mb3)
 | (go_at_call 8; refine (packs_calls _).mono ?_; rintro e w2 ⟨rfl, hb2⟩; have HS2 := q1fa (HS.out.below hb2); have HB2 := q1fa (q1fS HB1.out hb2); clear hb2 HS HB1)
 | (go_at_call 9; refine (open_calls _ _ _ _ _ _ _ p (idx p.length) bd HS2.out HPB.out HPM.out).mono ?_; rintro e w3 ⟨h1_, _⟩; obtain ⟨g3, A3, c3, rfl, hL, hb3⟩ := h1_ _ _ hsome.out; have HS3 := q1fa (HS2.out.below hb3); have HL3 := q1fa hL; have HB3 := q1fa (q1fS HB2.out hb3); clear hb3 hL h1_ HS2 HB2)
 | (go_at_call 10; refine (packof_calls _ _ _ _ _ _ _ p (idx p.length) bd HS3.out HPB.out HPM.out).mono ?_; rintro e w4 ⟨h1_, _⟩; obtain ⟨A4, c4, rfl, hC4, hc4, hb4⟩ := h1_ _ _ hsome.out; obtain ⟨N0, hN0⟩ : ∃ W, w4.alloc (.cells #[.int .i64 0, .int .i64 0, .slice none 0 0] 37) = W := ⟨_, rfl⟩; have Ny0 := blk_new w4 (.cells #[.int .i64 0, .int .i64 0, .slice none 0 0] 37); have Nb0 := below_alloc (Below.refl w4.heap.size w4) (.cells #[.int .i64 0, .int .i64 0, .slice none 0 0] 37); rw [hN0] at Ny0 Nb0; obtain ⟨N1, hN1⟩ : ∃ W, N0.setCell ⟨w4.heap.size, 0, none⟩ (.int .i64 (size : Int)) = W := ⟨_, rfl⟩; have Nq0 : N0.cell? ⟨w4.heap.size, 0, none⟩ = some (.int .i64 0) := (blk_cell Ny0 0).trans rfl; have Nk0 := blk_frozen Ny0 0; have Ny1 := blk_put Ny0 0 (.int .i64 (size : Int)) rfl; have Nb1 := Nb0.setCell (Nat.le_refl w4.heap.size) (p := ⟨w4.heap.size, 0, none⟩) (.int .i64 (size : Int)); rw [hN1] at Ny1 Nb1; obtain ⟨N2, hN2⟩ : ∃ W, N1.setCell ⟨w4.heap.size, 1, none⟩ (.int .i64 (16 + 2 * (l.length : Int))) = W := ⟨_, rfl⟩; have Nq1 : N1.cell? ⟨w4.heap.size, 1, none⟩ = some (.int .i64 0) := (blk_cell Ny1 1).trans rfl; have Nk1 := blk_frozen Ny1 1; have Ny2 := blk_put Ny1 1 (.int .i64 (16 + 2 * (l.length : Int))) rfl; have Nb2 := Nb1.setCell (Nat.le_refl w4.heap.size) (p := ⟨w4.heap.size, 1, none⟩) (.int .i64 (16 + 2 * (l.length : Int))); rw [hN2] at Ny2 Nb2; obtain ⟨N3, hN3⟩ : ∃ W, N2.setCell ⟨w4.heap.size, 2, none⟩ (.slice A4 l.length c4) = W := ⟨_, rfl⟩; have Nq2 : N2.cell? ⟨w4.heap.size, 2, none⟩ = some (.slice none 0 0) := (blk_cell Ny2 2).trans rfl; have Nk2 := blk_frozen Ny2 2; have Ny3 := blk_put Ny2 2 (.slice A4 l.length c4) rfl; have Nb3 := Nb2.setCell (Nat.le_refl w4.heap.size) (p := ⟨w4.heap.size, 2, none⟩) (.slice A4 l.length c4); rw [hN3] at Ny3 Nb3; clear Ny0 Ny1 Ny2 Nb0 Nb1 Nb2; replace Ny3 := q1fa Ny3; have hb4N := q1fS hb4 Nb3; have HB4 := q1fa (q1fS HB3.out hb4N); have HL4 := q1fa (HL3.out.below hb4N); have HS4 := q1fa (HS3.out.below hb4N); have HC4 := q1fa (Kd.C_below hC4 Nb3); have Hc4 := q1fa hc4; clear hb4 hb4N h1_ hC4 hc4 HS3 HL3 HB3 Nb3; have mSize : ∀ w, (method 299 89 (.pointer (some ⟨g3, 0, none⟩)) "Size").run Try.prog w = .ok (149, .pointer (some ⟨g3, 0, none⟩)) w := (fun _ => by kernel_rfl); have eSize : ∀ args w, (callFunc 149 args).run Try.prog w = .ok (.enter 149 args) w := enters_ Try.func149 (by kernel_rfl) rfl; have mPlain : ∀ w, (method 299 89 (.pointer (some ⟨g3, 0, none⟩)) "Plain").run Try.prog w = .ok (146, .pointer (some ⟨g3, 0, none⟩)) w := (fun _ => by kernel_rfl); have ePlain : ∀ args w, (callFunc 146 args).run Try.prog w = .ok (.enter 146 args) w := enters_ Try.func146 (by kernel_rfl) rfl; have mRead : ∀ w, (method 299 89 (.pointer (some ⟨g3, 0, none⟩)) "Read").run Try.prog w = .ok (147, .pointer (some ⟨g3, 0, none⟩)) w := (fun _ => by kernel_rfl); have eRead : ∀ args w, (callFunc 147 args).run Try.prog w = .ok (.enter 147 args) w := enters_ Try.func147 (by kernel_rfl) rfl; have mRoad : ∀ w, (method 299 89 (.pointer (some ⟨g3, 0, none⟩)) "Road").run Try.prog w = .ok (148, .pointer (some ⟨g3, 0, none⟩)) w := (fun _ => by kernel_rfl); have eRoad : ∀ args w, (callFunc 148 args).run Try.prog w = .ok (.enter 148 args) w := enters_ Try.func148 (by kernel_rfl) rfl))
 have HYD := q1fa (blk_drew Ny3.out)
 have HDD := q1fa (below_drew (Below.refl N3.heap.size N3))
 have HLD := q1fa (HL4.out.below HDD.out)
 have HBD := q1fa (q1fS HB4.out HDD.out)
 refine start_ (n := 17) (S := fun w' => w'.cell? ⟨w4.heap.size, 0, none⟩ = some (.int .i64 (size : Int))) (ds := []) #[false,false,false,false,false,false,false,false,false,false,false,false,false,false,false,false,false] (by kernel_rfl) rfl rfl (((blk_cell HYD.out 0).trans rfl)) (fun hHeld => ?_)
 generalize N3.drew = wD at HYD HLD HDD HBD hHeld ⊢
 refine pure_ (i:=0) (N:=some 54) (v:=?_) (a':=?_) #[true,false,false,false,false,false,false,false,false,false,false,false,false,false,false,false,false] rfl rfl (by kernel_rfl) (fun _ _ _ h => h) (Or.inl ⟨by rfl, ?_⟩) ?_ ?_
 rotate_left
 ·
  intro w'
  go_simp
  with_reducible rfl
 rotate_left
 ·
  simp only [Act.put, q1fI, q1f0, q1f1, i64_w, i32_w]
  rfl
 refine pure_ (i:=1) (N:=some 55) (v:=?_) (a':=?_) #[true,true,false,false,false,false,false,false,false,false,false,false,false,false,false,false,false] rfl rfl (by kernel_rfl) (fun _ _ _ h => h) (Or.inl ⟨by rfl, ?_⟩) ?_ ?_
 rotate_left
 ·
  intro w'
  go_simp
  with_reducible rfl
 rotate_left
 ·
  simp only [Act.put, q1fI, q1f0, q1f1, i64_w, i32_w]
  rfl
 refine pure_ (i:=2) (N:=some 56) (v:=?_) (a':=?_) #[true,true,true,false,false,false,false,false,false,false,false,false,false,false,false,false,false] rfl rfl (by kernel_rfl) (fun _ _ _ h => h) (Or.inl ⟨by rfl, ?_⟩) ?_ ?_
 rotate_left
 ·
  intro w'
  go_simp
  with_reducible rfl
 rotate_left
 ·
  simp only [Act.put, q1fI, q1f0, q1f1, i64_w, i32_w]
  rfl
 refine pure_ (i:=3) (N:=some 57) (v:=?_) (a':=?_) #[true,true,true,true,false,false,false,false,false,false,false,false,false,false,false,false,false] rfl rfl (by kernel_rfl) (fun _ _ _ h => h) (Or.inl ⟨by rfl, ?_⟩) ?_ ?_
 rotate_left
 ·
  intro w'
  go_simp
  with_reducible rfl
 rotate_left
 ·
  simp only [Act.put, q1fI, q1f0, q1f1, i64_w, i32_w]
  rfl
 refine pure_ (i:=4) (N:=some 58) (v:=?_) (a':=?_) #[true,true,true,true,true,false,false,false,false,false,false,false,false,false,false,false,false] rfl rfl (by kernel_rfl) (fun _ _ _ h => h) (Or.inl ⟨by rfl, ?_⟩) ?_ ?_
 rotate_left
 ·
  intro w'
  go_simp
  with_reducible rfl
 rotate_left
 ·
  simp only [Act.put, q1fI, q1f0, q1f1, i64_w, i32_w]
  rfl
 refine pure_ (i:=5) (N:=some 59) (v:=?_) (a':=?_) #[true,true,true,true,true,true,false,false,false,false,false,false,false,false,false,false,false] rfl rfl (by kernel_rfl) (fun _ _ _ h => h) (Or.inl ⟨by rfl, ?_⟩) ?_ ?_
 rotate_left
 ·
  intro w'
  go_simp
  with_reducible rfl
 rotate_left
 ·
  simp only [Act.put, q1fI, q1f0, q1f1, i64_w, i32_w]
  rfl
 refine pure_ (i:=6) (N:=some 60) (v:=?_) (a':=?_) #[true,true,true,true,true,true,true,false,false,false,false,false,false,false,false,false,false] rfl rfl (by kernel_rfl) (fun _ _ _ h => h) (Or.inl ⟨by rfl, ?_⟩) ?_ ?_
 rotate_left
 ·
  intro w'
  go_simp
  with_reducible rfl
 rotate_left
 ·
  simp only [Act.put, q1fI, q1f0, q1f1, i64_w, i32_w]
  rfl
 refine pure_ (i:=7) (N:=some 61) (v:=?_) (a':=?_) #[true,true,true,true,true,true,true,true,false,false,false,false,false,false,false,false,false] rfl rfl (by kernel_rfl) (fun _ _ _ h => h) (Or.inl ⟨by rfl, ?_⟩) ?_ ?_
 rotate_left
 ·
  intro w'
  go_simp
  with_reducible rfl
 rotate_left
 ·
  simp only [Act.put, q1fI, q1f0, q1f1, i64_w, i32_w]
  rfl
 refine pure_ (i:=9) (N:=some 63) (v:=?_) (a':=?_) #[true,true,true,true,true,true,true,true,false,true,false,false,false,false,false,false,false] rfl rfl (by kernel_rfl) (fun _ _ _ h => h) (Or.inl ⟨by rfl, ?_⟩) ?_ ?_
 rotate_left
 ·
  intro w'
  go_simp
  with_reducible rfl
 rotate_left
 ·
  simp only [Act.put, q1fI, q1f0, q1f1, i64_w, i32_w]
  rfl
 refine take_ (i:=10) (N:=some 64) (v:=?_) (a':=?_) #[true,true,true,true,true,true,true,true,false,true,true,false,false,false,false,false,false] rfl rfl (by kernel_rfl) (fun _ _ _ h => h) (Or.inl ⟨by rfl, ?_⟩) hHeld ?_ ?_
 rotate_left
 ·
  intro w' s0
  go_simp
  with_reducible rfl
 rotate_left
 ·
  simp only [Act.put, q1fI, q1f0, q1f1, i64_w, i32_w]
  rfl
 refine one_ (i:=8) (N:=some 62) #[true,true,true,true,true,true,true,true,true,true,true,false,false,false,false,false,false] rfl rfl (by kernel_rfl) (by decide) (fun K hK => ?_)
 refine call_ 149 #[.pointer (some ⟨g3, 0, none⟩)] (by rfl) rfl ?_ ?_
 ·
  unfold execOp
  simp [resolve, Deferred.ofValue, invoke, callMethod, Act.eval]
  rw [show 199 + Made.depth = 299 from rfl, mSize]
  exact eSize _ _
 with_reducible refine (lay_size _ _ _ _ _ _ _ _ HLD.out).mono ?_
 rintro e w5 ⟨rfl, hb5⟩
 refine ⟨_, rfl, ?_⟩
 refine hK.out _ _ ((blk_cell (blk_below HYD.out hb5) 0).trans rfl) (fun hHeld => ?_)
 clear hK K
 refine norm_ (a' := ?_) ?_ ?_
 rotate_left
 ·
  show Act.put _ (some 62) _ = _
  simp only [Act.put, q1fI, q1f0, q1f1, i64_w, i32_w]
  rfl
 refine pure_ (i:=11) (N:=some 65) (v:=?_) (a':=?_) #[true,true,true,true,true,true,true,true,true,true,true,true,false,false,false,false,false] rfl rfl (by kernel_rfl) (fun _ _ _ h => h) (Or.inl ⟨by rfl, ?_⟩) ?_ ?_
 rotate_left
 ·
  intro w'
  go_simp
  with_reducible rfl
 rotate_left
 ·
  simp only [Act.put, q1fI, q1f0, q1f1, i64_w, i32_w]
  rfl
 refine pure_ (i:=12) (N:=some 66) (v:=?_) (a':=?_) #[true,true,true,true,true,true,true,true,true,true,true,true,true,false,false,false,false] rfl rfl (by kernel_rfl) (fun _ _ _ h => h) (Or.inl ⟨by rfl, ?_⟩) ?_ ?_
 rotate_left
 ·
  intro w'
  go_simp
  with_reducible rfl
 rotate_left
 ·
  simp only [Act.put, q1fI, q1f0, q1f1, i64_w, i32_w]
  rfl
 refine pure_ (i:=13) (N:=some 67) (v:=?_) (a':=?_) #[true,true,true,true,true,true,true,true,true,true,true,true,true,true,false,false,false] rfl rfl (by kernel_rfl) (fun _ _ _ h => h) (Or.inl ⟨by rfl, ?_⟩) ?_ ?_
 rotate_left
 ·
  intro w'
  go_simp
  with_reducible rfl
 rotate_left
 ·
  simp only [Act.put, q1fI, q1f0, q1f1, i64_w, i32_w]
  rfl
 refine pure_ (i:=14) (N:=some 68) (v:=?_) (a':=?_) #[true,true,true,true,true,true,true,true,true,true,true,true,true,true,true,false,false] rfl rfl (by kernel_rfl) (fun _ _ _ h => h) (Or.inl ⟨by rfl, ?_⟩) ?_ ?_
 rotate_left
 ·
  intro w'
  go_simp
  with_reducible rfl
 rotate_left
 ·
  simp only [Act.put, q1fI, q1f0, q1f1, i64_w, i32_w]
  rfl
 refine one_ (i:=15) (N:=some 69) #[true,true,true,true,true,true,true,true,true,true,true,true,true,true,true,true,false] rfl rfl (by kernel_rfl) (by decide) (fun K hK => ?_)
 refine call_ 146 #[.pointer (some ⟨g3, 0, none⟩)] (by rfl) rfl ?_ ?_
 ·
  unfold execOp
  simp [resolve, Deferred.ofValue, invoke, callMethod, Act.eval]
  rw [show 199 + Made.depth = 299 from rfl, mPlain]
  exact ePlain _ _
 with_reducible refine (lay_plain _ _).mono ?_
 rintro e w6 ⟨rfl, hb6⟩
 refine ⟨_, rfl, ?_⟩
 refine hK.out _ _ ((blk_cell (blk_below HYD.out (q1fS hb5 hb6)) 0).trans rfl) (fun hHeld => ?_)
 clear hK K
 refine norm_ (a' := ?_) ?_ ?_
 rotate_left
 ·
  show Act.put _ (some 69) _ = _
  simp only [Act.put, q1fI, q1f0, q1f1, i64_w, i32_w]
  rfl
 refine pure_ (i:=16) (N:=some 70) (v:=?_) (a':=?_) #[true,true,true,true,true,true,true,true,true,true,true,true,true,true,true,true,true] rfl rfl (by kernel_rfl) (fun _ _ _ h => h) (Or.inl ⟨by rfl, ?_⟩) ?_ ?_
 rotate_left
 ·
  intro w'
  go_simp
  with_reducible rfl
 rotate_left
 ·
  simp only [Act.put, q1fI, q1f0, q1f1, i64_w, i32_w]
  rfl
 refine done_ (by kernel_rfl) ?_
 have hb6N := q1fS hb5 hb6
 have HB6 := q1fa (q1fS HBD.out hb6N)
 have HL6 := q1fa (HLD.out.below hb6N)
 have HY6 := q1fa (blk_below HYD.out hb6N)
 have HN6 := q1fS HDD.out hb6N
 have HS6 := q1fa (HS4.out.below HN6)
 have HC6 := q1fa (Kd.C_below HC4.out HN6)
 clear HN6 HS4 HC4 hb5 hb6 hb6N HBD HLD HYD HDD HB4 HL4
 go_wp2_with (first
 | (go_at_call 147; refine (HRD.out _ _ _ _ _ _ _ _ _ _ _ HS6.out HL6.out).mono ?_; rintro e w7 ⟨A7, c7, rfl, hx7, hc7, hb7⟩; have HB7 := q1fa (q1fS HB6.out hb7); have HL7 := q1fa (HL6.out.below hb7); have HS7 := q1fa (HS6.out.below hb7); have HC7 := q1fa (Kd.C_below HC6.out hb7); have HY7 := q1fa (blk_below HY6.out hb7); have HX7 := q1fa hx7; have HCX := q1fa hc7; clear hx7 hc7 hb7 HB6 HL6 HS6 HC6 HY6)
 | (go_at_call 148; refine (HRO.out _ _ _ _ _ _ _ _ _ _ HS7.out HL7.out).mono ?_; rintro e w8 ⟨A8, c8, rfl, hv8, hc8, hb8⟩; have HB8 := q1fa (q1fS HB7.out hb8); have HS8 := q1fa (HS7.out.below hb8); have HC8 := q1fa (Kd.C_below HC7.out hb8); have HY8 := q1fa (blk_below HY7.out hb8); have HX8 := q1fa (Kd.C_below HX7.out hb8); have HV8 := q1fa hv8; have HCV := q1fa hc8; have HBR := q1fa (Below.refl w8.heap.size w8); have z0 : w8.cell? ⟨w4.heap.size, 0, none⟩ = some (.int .i64 (size : Int)) := (blk_cell HY8.out 0).trans rfl; have z1 : w8.cell? ⟨w4.heap.size, 1, none⟩ = some (.int .i64 (16 + 2 * (l.length : Int))) := (blk_cell HY8.out 1).trans rfl; clear hv8 hc8 hb8 HB7 HL7 HS7 HC7 HY7 HX7)
 | ((with_reducible refine gate_dst (N:=131) rfl ?_); refine Kd.R_lit k45 (w0 := w8) w8.heap.size 45 ?hg (N:=131) ?hd (xs := ([⟨0, 16 + 2 * (l.length : Int)⟩] : List S45)) (inner := [.int .i64 0, .int .i64 (16 + 2 * (l.length : Int))]) (ok := fun _ => True) (okp := fun _ => True) ?hr (one_reps _ _ _ _ _) (fun _ hk => hk) trivial HBR.out HBR.out.size (by simp) ?_; (case hd => rfl); (case hg => rfl); (case hr => first | (go_simp; done) | (go_simp; rfl)); intro vF w9 hF9 hB9 hG9 hn9; have HF9 := q1fa hF9; have HB9 := q1fa hB9; clear hF9 hB9 hG9 hn9 HBR))
 clear z0 z1
 go_loopw [18, 19, 20, 21] (fun vl vs vg vi wr => PoLoop w8 wr p bd l R a z vl vs vg vi) (fun _ _ _ vi _ => z + 1 - (intOf vi).toNat)
 case atStart => exact ⟨0, a, ⟨#[]⟩, true,[⟨0, 16 + 2 * (l.length : Int)⟩], ⟨rfl⟩, rfl, Nat.le_succ_of_le haz, rfl, ⟨AllS.zero p bd l R a⟩, rfl, ⟨rfl⟩, ⟨rfl⟩, HF9, HB9⟩
 case round =>
  clear HF9 HB9
  obtain ⟨j, i, s, gb, L, HIJ, rfl, hiz, rfl, HALL, rfl, HGB, HLJ, HR, HB⟩ := hrel
  obtain ⟨AO, cO, eO⟩ := Kd.R_slice HR.out
  subst eO
  by_cases hlt : i ≤ z
  ·
   have t20 : decide ((i : Int) ≤ (z : Int)) = true := decide_eq_true (Int.ofNat_le.2 hlt)
   have t20n : decide (i ≤ z) = true := decide_eq_true hlt
   have hil : i < l.length := Nat.lt_of_le_of_lt hlt hzl
   have hlti : (i : Int) < (l.length : Int) := Int.ofNat_lt.2 hil
   have hnx : IntKind.i64.wrap ((i : Int) + 1) = (i : Int) + 1 := nat_wrap2 i 1 (Nat.le_trans (Nat.succ_le_succ (Nat.le_trans hlt HZ2.out)) (by decide))
   have HSr := q1fa (HS8.out.below HB.out)
   have HCr := q1fa (Kd.C_below HC8.out HB.out)
   have HYr := q1fa (blk_below HY8.out HB.out)
   obtain ⟨ad, eA, e0_, e1_⟩ := at_T45 HCr.out (i : Int) (Int.natCast_nonneg _) hlti
   subst eA
   rw [Int.toNat_natCast] at e0_ e1_
   have p0_ : wr.cell? ⟨w4.heap.size, 0, none⟩ = some (.int .i64 (size : Int)) := (blk_cell HYr.out 0).trans rfl
   have p1_ : wr.cell? ⟨w4.heap.size, 1, none⟩ = some (.int .i64 (16 + 2 * (l.length : Int))) := (blk_cell HYr.out 1).trans rfl
   have p2_ : wr.cell? ⟨w4.heap.size, 2, none⟩ = some (.slice (some ad) l.length c4) := (blk_cell HYr.out 2).trans rfl
   obtain ⟨f0, hf0⟩ : ∃ f, f = (rd_T45 l (i : Int)).f0 := ⟨_, rfl⟩
   obtain ⟨f1, hf1⟩ : ∃ f, f = (rd_T45 l (i : Int)).f1 := ⟨_, rfl⟩
   rw [← hf0] at e0_
   rw [← hf1] at e1_
   have HIL := q1fa hil
   have HLT := q1fa hlt
   have HRM := q1fa (show (L.length + 1) * 16 ≤ 140737488355328 by have h1 := few_z HIJ.out hlt HZ2.out; rw [HLJ.out, List.length_cons, unitsL_len]; omega)
   have HLJ2 := q1fa (show L ++ [⟨f0, f1⟩] = (⟨0, 16 + 2 * (l.length : Int)⟩ : S45) :: unitsL l a (j + 1) by rw [HLJ.out, unitsL_succ, hf0, hf1, HIJ.out]; rfl)
   have HIJ2 := q1fa (show i + 1 = a + (j + 1) by rw [HIJ.out]; rfl)
   have HGB2 := q1fa (show (gb && okU p bd l R i) = goodB p bd l R a (j + 1) by rw [HGB.out, HIJ.out]; rfl)
   have hlt2 : decide ((i : Int) < ((l.length : Nat) : Int)) = true := decide_eq_true hlti
   have hlt3 : decide (i < l.length) = true := decide_eq_true hil
   have hu45 := Try.underlying45
   obtain ⟨ok, hok⟩ : ∃ k, k = okU p bd l R i := ⟨_, rfl⟩
   rw [← hok] at HGB2
   have HOK := q1fa hok
   have HUNI := q1fa (show ∀ (w : World) (T : Nat) (x : Value) (fR fO fS fP : Nat) (A : Option Addr) (c : Nat) (h : SrcIs w T x fR fO fS fP p (idx p.length) bd) (hC : Kd.C k45 w A l.length l), Calls Try.prog 11 #[.agg #[.int .i64 (size : Int), .int .i64 (16 + 2 * (l.length : Int)), .slice A l.length c], .iface T x, .int .i64 (i : Int)] w fun e w' => ∃ u, e = .returned (.tuple #[.string u, .bool ok]) ∧ (okU p bd l R i = true → u = strOfNums (R i).1) ∧ u.size ≤ 256 ∧ Below w.heap.size w w' from by rw [hok]; exact fun w T x fR fO fS fP A c h hC => HUN.out w T x fR fO fS fP A c h hC i hil)
   clear hf0 hf1 hok hlt
   cases gb
   all_goals
    go_wp2_with (first
     | (go_at_call 11; refine (HUNI.out _ _ _ _ _ _ _ _ _ HSr.out HCr.out).mono ?_; rintro e w11 ⟨u, rfl, hu1, hu2, hb11⟩; have HB11 := q1fa (q1fS HB.out hb11); have HR11 := q1fa (Kd.R_below HR.out hb11); have HX11 := q1fa (blk_below HYr.out hb11); have q2 : w11.cell? ⟨w4.heap.size, 2, none⟩ = some (.slice (some ad) l.length c4) := (blk_cell HX11.out 2).trans rfl; have e0 := pw_cell_below hb11 e0_; have e1 := pw_cell_below hb11 e1_; have HALL2 := q1fa (HALL.out.succ hu2 (fun h2 => by rw [← HIJ.out] at h2 ⊢; exact hu1 h2)); have hsz := all_size HALL.out.1 (few_z HIJ.out HLT.out HZ2.out) hu2; have hszN : (9223372036854775807 < s.size + u.size) = False := eq_false (Nat.not_lt.2 hsz); have hszP := eq_true hsz; clear hu1 hu2 hb11 hsz HB HR HYr p0_ p1_ p2_ e0_ e1_)
     | ((with_reducible refine gate_builtin (b := .append) (xs := #[.tmp 157, .tmp 163]) rfl ?_); at_builtin; refine Kd.R_append k45 (w0 := w8) w8.heap.size rfl (.tmp 157) (.tmp 163) 23 45 (.agg #[.int .i64 0, .int .i64 0]) 16 rfl Try.underlying23 info45 rfl (by decide) (by decide) (.slice AO L.length cO) L ⟨f0, f1⟩ [.int .i64 f0, .int .i64 f1] (fun _ => True) (fun _ => False) rfl rfl (k45_mkM _ _ _ ⟨f0, f1⟩) (fun _ h => h.elim) (fun _ _ => trivial) HR11.out HB11.out HB11.out.size HRM.out ?_; intro v4 w12 HR12 HB12 hg12 hat12))
    go_roundw
    case rel => exact ⟨j + 1, i + 1, s ++ u, _, L ++ [⟨f0, f1⟩], HIJ2, by go_num, Nat.succ_le_succ HLT.out, rfl, HALL2, rfl, HGB2, HLJ2, ⟨HR12⟩, ⟨HB12⟩⟩
    case measure => exact meas_dec HLT.out
  ·
   have t20 : decide ((i : Int) ≤ (z : Int)) = false := decide_eq_false (fun h => hlt (Int.ofNat_le.1 h))
   have t20n : ¬ (i ≤ z) := hlt
   have hjz : j = z - a + 1 := end_run HIJ.out hlt hiz haz
   subst hjz
   obtain rfl : L = LL := HLJ.out.trans HLL.out.symm
   have hrr := Kd.R_reads' HR.out
   have HVL := q1fa hrr.2.2
   have HVC := q1fa hrr.2.1
   have HBE := HB
   clear hrr hlt
   rcases HX.out with ⟨g1, g2, g3⟩ | ⟨g1, g2, g3⟩
   ·
    obtain rfl : gb = true := HGB.out.trans g1
    have hok := (goodB_run p bd l R a _).1 g1
    have hcc := HCAT.out hok
    have hac := all_cut p bd l R a (z - a + 1) o m s HALL.out hok
    rw [← HF.out, ← g3] at hac
    have hsl : s.size = (catR R a (z - a + 1)).length := by rw [HALL.out.2 hok, str_size]
    rw [← hsl] at hcc
    subst g2
    obtain ⟨ss, hss⟩ : ∃ s, s = strOfNums X := ⟨_, rfl⟩
    rw [← hss] at hac
    have HSS := q1fa hss
    have HFIN := q1fa (fin_eq (f := f) (m := m) hac)
    have hc1 : (f : Int) + (m : Int) ≤ (s.size : Int) := cut_i hcc.1
    have hc2 : (f : Int) ≤ (f : Int) + (m : Int) := cut_j
    have hc3 : f + m ≤ s.size := hcc.1
    have hc4_ : f ≤ f + m := Nat.le_add_right _ _
    clear g1 g3 hok hcc hac hsl hss
    go_wp2_with (first
     | (go_at_call 14; refine (wrackref1_Laid.calls kl _ _ _ _ _ HVL.out HVC.out HKL.out).mono ?_; rintro e w13 ⟨v13, rfl, hv13, hb13⟩; obtain ⟨A13, c13, e13⟩ := Kd.R_slice hv13; subst e13; have HB13 := q1fa (q1fS HBE.out hb13); have HV13 := q1fa (Kd.R_reads' hv13); clear hv13 hb13)
     | (go_at_call 13; refine (wrackref1_Glued.calls kg A13 c13 LD _ _ HV13.out.2.2 HV13.out.2.1 HKG.out).mono ?_; rintro e w14 ⟨v14, rfl, hv14, hb14⟩; obtain ⟨A14, c14, e14⟩ := Kd.R_slice hv14; subst e14; have HB14 := q1fa (q1fS HB13.out hb14); have HV14 := q1fa (Kd.R_reads' hv14); clear hv14 hb14)
     | (go_at_call 12; refine (wrackref1_SameSpans.calls ks A8 c8 G A14 c14 G true _ (Kd.C_below HV8.out HB14.out) HCV.out HV14.out.2.2 HV14.out.2.1 HKS.out).mono ?_; rintro e w15 ⟨rfl, hd15⟩; have HB15 := q1fa (q1fS HB14.out hd15.below); clear hd15))
    have HBE2 := q1fa (q1fS HB8.out (below_drew HB15.out))
    have HXD := q1fa (Kd.C_below HX8.out (below_drew HB15.out))
    have y0 : (convert 22 9 (.slice A7 X.length c7)).run Try.prog w15.drew = .ok (.string ss) w15.drew := (Kd.C_string (P := Try.prog) Try.underlying22 Try.underlying5 Try.underlying9 HXD.out).trans (by rw [HSS.out])
    refine start_ (n := 16) (S := fun w' => (convert 22 9 (.slice A7 X.length c7)).run Try.prog w' = .ok (.string ss) w') (ds := []) #[false,false,false,false,false,false,false,false,false,false,false,false,false,false,false,false] (by kernel_rfl) rfl rfl (y0) (fun hHeld => ?_)
    generalize w15.drew = wE at y0 HBE2 hHeld ⊢
    refine pure_ (i:=0) (N:=some 180) (v:=?_) (a':=?_) #[true,false,false,false,false,false,false,false,false,false,false,false,false,false,false,false] rfl rfl (by kernel_rfl) (fun _ _ _ h => h) (Or.inl ⟨by rfl, ?_⟩) ?_ ?_
    rotate_left
    ·
     intro w'
     go_simp
     with_reducible rfl
    rotate_left
    ·
     simp only [Act.put, q1fI, q1f0, q1f1, i64_w, i32_w]
     rfl
    refine pure_ (i:=1) (N:=some 181) (v:=?_) (a':=?_) #[true,true,false,false,false,false,false,false,false,false,false,false,false,false,false,false] rfl rfl (by kernel_rfl) (fun _ _ _ h => h) (Or.inl ⟨by rfl, ?_⟩) ?_ ?_
    rotate_left
    ·
     intro w'
     go_simp
     with_reducible rfl
    rotate_left
    ·
     simp only [Act.put, q1fI, q1f0, q1f1, i64_w, i32_w]
     rfl
    refine pure_ (i:=2) (N:=some 182) (v:=?_) (a':=?_) #[true,true,true,false,false,false,false,false,false,false,false,false,false,false,false,false] rfl rfl (by kernel_rfl) (fun _ _ _ h => h) (Or.inl ⟨by rfl, ?_⟩) ?_ ?_
    rotate_left
    ·
     intro w'
     go_simp
     with_reducible rfl
    rotate_left
    ·
     simp only [Act.put, q1fI, q1f0, q1f1, i64_w, i32_w]
     rfl
    refine pure_ (i:=3) (N:=some 183) (v:=?_) (a':=?_) #[true,true,true,true,false,false,false,false,false,false,false,false,false,false,false,false] rfl rfl (by kernel_rfl) (fun _ _ _ h => h) (Or.inl ⟨by rfl, ?_⟩) ?_ ?_
    rotate_left
    ·
     intro w'
     go_simp
     with_reducible rfl
    rotate_left
    ·
     simp only [Act.put, q1fI, q1f0, q1f1, i64_w, i32_w]
     rfl
    refine pure_ (i:=5) (N:=some 185) (v:=?_) (a':=?_) #[true,true,true,true,false,true,false,false,false,false,false,false,false,false,false,false] rfl rfl (by kernel_rfl) (fun _ _ _ h => h) (Or.inl ⟨by rfl, ?_⟩) ?_ ?_
    rotate_left
    ·
     intro w'
     go_simp
     with_reducible rfl
    rotate_left
    ·
     simp only [Act.put, q1fI, q1f0, q1f1, i64_w, i32_w]
     rfl
    refine pure_ (i:=6) (N:=some 186) (v:=?_) (a':=?_) #[true,true,true,true,false,true,true,false,false,false,false,false,false,false,false,false] rfl rfl (by kernel_rfl) (fun _ _ _ h => h) (Or.inl ⟨by rfl, ?_⟩) ?_ ?_
    rotate_left
    ·
     intro w'
     go_simp
     with_reducible rfl
    rotate_left
    ·
     simp only [Act.put, q1fI, q1f0, q1f1, i64_w, i32_w]
     rfl
    refine pure_ (i:=7) (N:=some 187) (v:=?_) (a':=?_) #[true,true,true,true,false,true,true,true,false,false,false,false,false,false,false,false] rfl rfl (by kernel_rfl) (fun _ _ _ h => h) (Or.inl ⟨by rfl, ?_⟩) ?_ ?_
    rotate_left
    ·
     intro w'
     go_simp
     with_reducible rfl
    rotate_left
    ·
     simp only [Act.put, q1fI, q1f0, q1f1, i64_w, i32_w]
     rfl
    refine pure_ (i:=8) (N:=some 188) (v:=?_) (a':=?_) #[true,true,true,true,false,true,true,true,true,false,false,false,false,false,false,false] rfl rfl (by kernel_rfl) (fun _ _ _ h => h) (Or.inl ⟨by rfl, ?_⟩) ?_ ?_
    rotate_left
    ·
     intro w'
     go_simp
     with_reducible rfl
    rotate_left
    ·
     simp only [Act.put, q1fI, q1f0, q1f1, i64_w, i32_w]
     rfl
    refine pure_ (i:=9) (N:=some 189) (v:=?_) (a':=?_) #[true,true,true,true,false,true,true,true,true,true,false,false,false,false,false,false] rfl rfl (by kernel_rfl) (fun _ _ _ h => h) (Or.inl ⟨by rfl, ?_⟩) ?_ ?_
    rotate_left
    ·
     intro w'
     go_simp
     with_reducible rfl
    rotate_left
    ·
     simp only [Act.put, q1fI, q1f0, q1f1, i64_w, i32_w]
     rfl
    refine pure_ (i:=10) (N:=some 190) (v:=?_) (a':=?_) #[true,true,true,true,false,true,true,true,true,true,true,false,false,false,false,false] rfl rfl (by kernel_rfl) (fun _ _ _ h => h) (Or.inl ⟨by rfl, ?_⟩) ?_ ?_
    rotate_left
    ·
     intro w'
     go_simp
     with_reducible rfl
    rotate_left
    ·
     simp only [Act.put, q1fI, q1f0, q1f1, i64_w, i32_w]
     rfl
    refine pure_ (i:=11) (N:=some 191) (v:=?_) (a':=?_) #[true,true,true,true,false,true,true,true,true,true,true,true,false,false,false,false] rfl rfl (by kernel_rfl) (fun _ _ _ h => h) (Or.inl ⟨by rfl, ?_⟩) ?_ ?_
    rotate_left
    ·
     intro w'
     go_simp
     with_reducible rfl
    rotate_left
    ·
     simp only [Act.put, q1fI, q1f0, q1f1, i64_w, i32_w]
     rfl
    refine pure_ (i:=12) (N:=some 192) (v:=?_) (a':=?_) #[true,true,true,true,false,true,true,true,true,true,true,true,true,false,false,false] rfl rfl (by kernel_rfl) (fun _ _ _ h => h) (Or.inl ⟨by rfl, ?_⟩) ?_ ?_
    rotate_left
    ·
     intro w'
     go_simp
     with_reducible rfl
    rotate_left
    ·
     simp only [Act.put, q1fI, q1f0, q1f1, i64_w, i32_w]
     rfl
    refine take_ (i:=4) (N:=some 184) (v:=?_) (a':=?_) #[true,true,true,true,true,true,true,true,true,true,true,true,true,false,false,false] rfl rfl (by kernel_rfl) (fun _ _ _ h => h) (Or.inl ⟨by rfl, ?_⟩) hHeld ?_ ?_
    rotate_left
    ·
     intro w' s0
     go_simp
     with_reducible rfl
    rotate_left
    ·
     simp only [Act.put, q1fI, q1f0, q1f1, i64_w, i32_w]
     rfl
    refine pure_ (i:=13) (N:=some 193) (v:=?_) (a':=?_) #[true,true,true,true,true,true,true,true,true,true,true,true,true,true,false,false] rfl rfl (by kernel_rfl) (fun _ _ _ h => h) (Or.inl ⟨by rfl, ?_⟩) ?_ ?_
    rotate_left
    ·
     intro w'
     go_simp
     with_reducible rfl
    rotate_left
    ·
     simp only [Act.put, q1fI, q1f0, q1f1, i64_w, i32_w]
     rfl
    refine pure_ (i:=14) (N:=some 194) (v:=?_) (a':=?_) #[true,true,true,true,true,true,true,true,true,true,true,true,true,true,true,false] rfl rfl (by kernel_rfl) (fun _ _ _ h => h) (Or.inl ⟨by rfl, ?_⟩) ?_ ?_
    rotate_left
    ·
     intro w'
     go_simp
     with_reducible rfl
    rotate_left
    ·
     simp only [Act.put, q1fI, q1f0, q1f1, i64_w, i32_w]
     rfl
    refine pure_ (i:=15) (N:=some 8) (v:=?_) (a':=?_) #[true,true,true,true,true,true,true,true,true,true,true,true,true,true,true,true] rfl rfl (by kernel_rfl) (fun _ _ _ h => h) (Or.inl ⟨by rfl, ?_⟩) ?_ ?_
    rotate_left
    ·
     intro w'
     go_simp
     with_reducible rfl
    rotate_left
    ·
     simp only [Act.put, q1fI, q1f0, q1f1, i64_w, i32_w]
     rfl
    refine done_ (by kernel_rfl) ?_
    clear hHeld y0
    go_wp2
    go_ret
    exact ⟨congrArg (fun b => Ending.returned (.bool b)) HFIN.out, HBE2.out⟩
   ·
    obtain rfl : gb = false := HGB.out.trans g1
    subst g2 g3
    clear g1
    go_wp2_with (first
     | (go_at_call 14; refine (wrackref1_Laid.calls kl _ _ _ _ _ HVL.out HVC.out HKL.out).mono ?_; rintro e w13 ⟨v13, rfl, hv13, hb13⟩; obtain ⟨A13, c13, e13⟩ := Kd.R_slice hv13; subst e13; have HB13 := q1fa (q1fS HBE.out hb13); have HV13 := q1fa (Kd.R_reads' hv13); clear hv13 hb13)
     | (go_at_call 13; refine (wrackref1_Glued.calls kg A13 c13 LD _ _ HV13.out.2.2 HV13.out.2.1 HKG.out).mono ?_; rintro e w14 ⟨v14, rfl, hv14, hb14⟩; obtain ⟨A14, c14, e14⟩ := Kd.R_slice hv14; subst e14; have HB14 := q1fa (q1fS HB13.out hb14); have HV14 := q1fa (Kd.R_reads' hv14); clear hv14 hb14)
     | (go_at_call 12; refine (wrackref1_SameSpans.calls ks A8 c8 G A14 c14 G true _ (Kd.C_below HV8.out HB14.out) HCV.out HV14.out.2.2 HV14.out.2.1 HKS.out).mono ?_; rintro e w15 ⟨rfl, hd15⟩; have HB15 := q1fa (q1fS HB14.out hd15.below); clear hd15))
    go_ret
    exact ⟨rfl, q1fS HB8.out HB15.out⟩
end Go.Proofs.Ytgkjkhhppmnajaa.Pure
