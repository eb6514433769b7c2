/- Arrays joined: the walk of the law. No condition. -/
import Derived.Test.YtlnikhijfamakaaPureArrayJoinsB
import Derived.WalkLawsBesides
import Derived.LoopN
namespace Go.Proofs.Ytlnikhijfamakaa.Pure
open Go.Proofs.Ytlnikhijfamakaa.ArrayPlain
open Go Go.RowKit Go.Maps Go.Proofs.Ytlnikhijfamakaa.QArrayJoins Go.Proofs.YtlnikhijfamakaaW.PrintWords Go.Proofs.YtlnikhijfamakaaW.PrintLast Go.Proofs.YtlnikhijfamakaaW.PrintMore
set_option linter.unusedVariables false
set_option linter.unusedSimpArgs false
theorem eq_cut (ke : Nat) (A7 : Option Addr) (c7 : Nat) (X : List Int) (AP : Option Addr) (q cP : Nat) (W : World) (hx : X.length = q) (h0 : Kd.C (Kd.int .u8) W A7 X.length X) (hc7 : X.length ≤ c7) (h1 : Kd.C (Kd.int .u8) W AP q X) (hcp : q ≤ cP) (hke : slices_Equal_byte_byte.f ke X X = some true) :
    Calls Try.prog 13 #[.slice A7 X.length c7, .slice AP q cP] W fun e w' => e = .returned (.bool true) ∧ Drawn0 W w' := by
  subst hx
  exact slices_Equal_byte_byte.calls ke A7 c7 X AP cP X true W h0 hc7 h1 hcp hke
theorem cut_cap {n c o q : Nat} (h : n ≤ c) (h2 : o + q ≤ n) : q ≤ c - o := by omega
theorem sizeP_le : ∀ (mm : List (List Int)) (N : Nat), (∀ x ∈ mm, x.length ≤ N) → sizeP mm ≤ N
  | [], N, _ => Nat.zero_le _
  | b :: mm, N, h => by
    unfold sizeP
    split
    · exact sizeP_le mm N (fun x hx => h x (List.mem_cons_of_mem _ hx))
    · exact h b (by simp)
theorem equalB_l0 (xs : List Int) (hn : xs.length ≤ 4611686018427387904) : ∀ (d i : Nat), i + d = xs.length →
    Ev (fun k => slices_Equal_byte_byte.l0 k xs xs (xs.length : Int) (i : Int)) true
  | 0, i, hi => by
    refine Ev.step (f := fun _ => some _) (fun k => ?_) (Ev.now _)
    simp only [slices_Equal_byte_byte.l0]
    rw [if_neg (by omega)]
  | d + 1, i, hi => by
    refine Ev.step (fun k => ?_) (equalB_l0 xs hn d (i + 1) (by omega))
    simp only [slices_Equal_byte_byte.l0]
    rw [if_pos (by omega), if_pos (by omega), if_pos (by omega), if_pos (by omega), show wrap64 ((i : Int) + 1) = ((i + 1 : Nat) : Int) by unfold wrap64; omega]
    simp
theorem equalB_ev (xs : List Int) (hn : xs.length ≤ 4611686018427387904) : Ev (fun k => slices_Equal_byte_byte.f k xs xs) true := by
  refine Ev.congr (fun k => ?_) (equalB_l0 xs hn xs.length 0 (by omega))
  unfold slices_Equal_byte_byte.f
  rw [if_pos rfl]; rfl

set_option maxHeartbeats 16000000 in
set_option maxRecDepth 100000 in
theorem aj_out (A0 : Option Addr) (c0 : Nat) (mm : List (List Int)) (k m c : Int) (l : Bool) (off n : Int) (w : World) (hr : Kd.C (Kd.slice 5 (Kd.int .u8)) w A0 mm.length mm) (hc0 : mm.length ≤ c0) (hl : mm.length ≤ 5864062014805) (hsz : (sizeP mm) ≤ 140737488355328) (hsh : ∀ i, i < mm.length → (rd_L3 mm (i : Int)).length ≤ 140737488355328) (hk : -9223372036854775808 ≤ k ∧ k ≤ 9223372036854775807) (hJ : joinR k m c l mm = 0) (Cn rows : Nat) (h : WE mm k m c l Cn rows) (hR : ¬ inW (totW k m (sizeP mm : Int)) off n) :
    Calls Try.prog 5 #[.slice A0 mm.length c0, .agg #[.int .i64 k, .int .i64 m, .int .i64 c, .bool l], .int .i64 off, .int .i64 n] w fun e w' => e = .returned (.bool true) ∧ Below w.heap.size w w' := by
  obtain ⟨W, hW, hW1, hW8⟩ := h.width
  obtain ⟨ka, hka⟩ := arrays_ev.rounds
  obtain ⟨kj, hkj⟩ := (joinErr_ev k m c l hk mm hl hsh).rounds
  obtain ⟨kw, hkw⟩ := (h.whole hsh).rounds
  have hjc := fun W (hb : Below w.heap.size w W) => join_calls A0 c0 mm k m c l W (Kd.C_below hr hb) hc0 hl hsz hsh hk
  unfold JoinEnd at hjc
  rw [hJ] at hkj hjc
  obtain ⟨hlB, hlF⟩ := h.lens W hW
  obtain ⟨ht, ht2⟩ := h.tot W hW
  obtain ⟨hs, hM⟩ := h.small
  have hpos := h.pos
  have hgd := h.good
  have hsize := fun (V : World) g AM cM (hI : IsWhole V g k m c l AM cM mm (sizeP mm : Int) (goneOf k mm)) => whole_size V g k m c l AM cM mm (sizeP mm : Int) (goneOf k mm) hI hgd (by omega) (by omega)
  have hplain := fun (V : World) g AM cM (hI : IsWhole V g k m c l AM cM mm (sizeP mm : Int) (goneOf k mm)) => whole_plain V g k m c l AM cM mm (sizeP mm : Int) (goneOf k mm) hI
  have htw : (sizeP mm : Int) * widthOf k m = ((rows * W * Cn : Nat) : Int) := ht
  have hread := fun (V : World) g AM cM (hI : IsWhole V g k m c l AM cM mm (sizeP mm : Int) (goneOf k mm)) => whole_read_out V g k m c l AM cM mm (sizeP mm : Int) (goneOf k mm) hI hgd (by omega) (by omega) off n hR
  have hroad := fun (V : World) g AM cM (hI : IsWhole V g k m c l AM cM mm (sizeP mm : Int) (goneOf k mm)) => whole_road_out V g k m c l AM cM mm (sizeP mm : Int) (goneOf k mm) hI hgd (by omega) (by omega) off n hR
  obtain ⟨pl, hpl⟩ : ∃ p, p = decide (goneOf k mm < 0) := ⟨_, rfl⟩
  obtain ⟨B, hBe⟩ : ∃ B, B = allV mm k (firstP 0 mm) Cn (chunksFrom k m l rows 0) := ⟨_, rfl⟩
  obtain ⟨F, hFe⟩ : ∃ F, F = allP mm (sizeP mm) k (firstP 0 mm) Cn (chunksFrom k m l rows 0) := ⟨_, rfl⟩
  rw [← hBe] at hlB
  rw [← hBe, ← hFe, ← hpl] at hkw
  rw [← hpl] at hplain
  rw [htw, ← hlB] at hsize
  rw [ht, ← hlB] at hR
  unfold inW at hR
  have hBl : B.length ≤ 65536 := by omega
  have HKA := Aside0.mk hka
  have HKJ := Aside0.mk hkj
  have HKW := Aside0.mk hkw
  have HJC := Aside0.mk hjc
  have HSIZE := Aside0.mk hsize
  have HPLAIN := Aside0.mk hplain
  have HREAD := Aside0.mk hread
  have HROAD := Aside0.mk hroad
  have HR := Aside0.mk hr
  have HC0 := Aside0.mk hc0
  clear h hr hc0 hl hsz hsh hk hJ hka hkj hkw hjc hsize hplain hread hroad hlB hlF ht ht2 hs hM hpos hgd htw hpl hBe hFe hW hW1 hW8
  have hB := Aside0.mk (below_alloc (Below.refl w.heap.size w) (.cells #[.int .i64 k, .int .i64 m, .int .i64 c, .bool l] 53))
  have hA := Aside0.mk (blk_new w (.cells #[.int .i64 k, .int .i64 m, .int .i64 c, .bool l] 53))
  have hu31 := Try.underlying53
  by_cases d0 : off < 0
  · have t0 := decide_eq_true d0
    clear d0 hR hBl
    go_enter Try.func5, Try.ntmps5
    go_wp2_with (first
      | (go_at_call 19; refine (HJC.out _ hB.out).mono ?_; rintro e w1 ⟨h1_, _⟩; obtain ⟨g, AM, cM, rfl, hI, hb1⟩ := h1_ rfl; have HB1 := Aside0.mk (below_step hB.out hb1); have HA1 := Aside0.mk (blk_below hA.out hb1); have HI1 := Aside0.mk hI; clear hI hb1 h1_ hA; have q0 : w1.cell? ⟨w.heap.size, 0, none⟩ = some (.int .i64 k) := (blk_cell HA1.out 0).trans rfl; have q1 : w1.cell? ⟨w.heap.size, 1, none⟩ = some (.int .i64 m) := (blk_cell HA1.out 1).trans rfl; have q2 : w1.cell? ⟨w.heap.size, 2, none⟩ = some (.int .i64 c) := (blk_cell HA1.out 2).trans rfl; have q3 : w1.cell? ⟨w.heap.size, 3, none⟩ = some (.bool l) := (blk_cell HA1.out 3).trans rfl)
      | (go_at_call 20; refine (wrackref1_JoinErr.calls kj A0 c0 mm k m c l 0 _ (Kd.C_below HR.out HB1.out) HC0.out HKJ.out).mono ?_; rintro e w2 ⟨rfl, hb2⟩; have HB2 := Aside0.mk (below_step HB1.out hb2); have HA2 := Aside0.mk (blk_below HA1.out hb2); have HI2 := Aside0.mk (HI1.out.below hb2); clear hb2 q0 q1 q2 q3 HB1 HA1 HI1)
      | (go_at_call 21; refine (wracklaw1_arrays.calls ka true _ HKA.out).mono ?_; rintro e w3 ⟨rfl, hb3⟩; have HB3 := Aside0.mk (below_step HB2.out hb3); have HA3 := Aside0.mk (blk_below HA2.out hb3); have HI3 := Aside0.mk (HI2.out.below hb3); clear hb3 HB2 HA2 HI2; have q0 : w3.cell? ⟨w.heap.size, 0, none⟩ = some (.int .i64 k) := (blk_cell HA3.out 0).trans rfl; have q1 : w3.cell? ⟨w.heap.size, 1, none⟩ = some (.int .i64 m) := (blk_cell HA3.out 1).trans rfl; have q2 : w3.cell? ⟨w.heap.size, 2, none⟩ = some (.int .i64 c) := (blk_cell HA3.out 2).trans rfl; have q3 : w3.cell? ⟨w.heap.size, 3, none⟩ = some (.bool l) := (blk_cell HA3.out 3).trans rfl)
      | (go_at_call 22; refine (wrackref1_Whole.calls kw A0 c0 mm k m c l B F pl _ (Kd.C_below HR.out HB3.out) HC0.out HKW.out).mono ?_; rintro e w4 ⟨vB, vF, rfl, hvB, hvF, hb4⟩; obtain ⟨AB, cB, eB⟩ := Kd.R_slice hvB; subst eB; obtain ⟨AF, cF, eF, hcF, hCF⟩ := Kd.S_reads hvF; subst eF; have HB4 := Aside0.mk (below_step HB3.out hb4); have HA4 := Aside0.mk (blk_below HA3.out hb4); have HI4 := Aside0.mk (HI3.out.below hb4); have HVB := Aside0.mk (Kd.R_reads' hvB); have HVF := Aside0.mk hCF; have HCF := Aside0.mk hcF; clear hvB hvF hb4 hCF hcF q0 q1 q2 q3 HB3 HA3 HI3; have mSize : ∀ w, (method 267 85 (.pointer (some ⟨g, 0, none⟩)) "Size").run Try.prog w = .ok (111, .pointer (some ⟨g, 0, none⟩)) w := (fun _ => by kernel_rfl); have eSize : ∀ args w, (callFunc 111 args).run Try.prog w = .ok (.enter 111 args) w := enters_ Try.func111 (by kernel_rfl) rfl; have mPlain : ∀ w, (method 267 85 (.pointer (some ⟨g, 0, none⟩)) "Plain").run Try.prog w = .ok (108, .pointer (some ⟨g, 0, none⟩)) w := (fun _ => by kernel_rfl); have ePlain : ∀ args w, (callFunc 108 args).run Try.prog w = .ok (.enter 108 args) w := enters_ Try.func108 (by kernel_rfl) rfl; have mRead : ∀ w, (method 267 85 (.pointer (some ⟨g, 0, none⟩)) "Read").run Try.prog w = .ok (109, .pointer (some ⟨g, 0, none⟩)) w := (fun _ => by kernel_rfl); have eRead : ∀ args w, (callFunc 109 args).run Try.prog w = .ok (.enter 109 args) w := enters_ Try.func109 (by kernel_rfl) rfl; have mRoad : ∀ w, (method 267 85 (.pointer (some ⟨g, 0, none⟩)) "Road").run Try.prog w = .ok (110, .pointer (some ⟨g, 0, none⟩)) w := (fun _ => by kernel_rfl); have eRoad : ∀ args w, (callFunc 110 args).run Try.prog w = .ok (.enter 110 args) w := enters_ Try.func110 (by kernel_rfl) rfl)
      | (go_at_call 111; refine (HSIZE.out _ _ _ _ HI4.out).mono ?_; rintro e w5 ⟨rfl, hb5⟩; have HB5 := Aside0.mk (below_step HB4.out hb5); have HD5 := Aside0.mk hb5; have HA5 := Aside0.mk (blk_below HA4.out hb5); have HI5 := Aside0.mk (HI4.out.below hb5); clear hb5 HB4 HA4 HI4)
      | (go_at_call 108; refine (HPLAIN.out _ _ _ _ HI5.out).mono ?_; rintro e w6 ⟨rfl, hb6⟩; have HB6 := Aside0.mk (below_step HB5.out hb6); have HD6 := Aside0.mk (below_step HD5.out hb6); have HA6 := Aside0.mk (blk_below HA5.out hb6); have HI6 := Aside0.mk (HI5.out.below hb6); clear hb6 HB5 HD5 HA5 HI5)
      | (go_at_call 109; refine (HREAD.out _ _ _ _ HI6.out).mono ?_; rintro e w7 ⟨v7, rfl, hv7, hb7⟩; obtain ⟨A7, c7, e7⟩ := Kd.R_slice hv7; rw [List.length_nil] at e7; subst e7; have HB7 := Aside0.mk (below_step HB6.out hb7); have HI7 := Aside0.mk (HI6.out.below hb7); clear hv7 hb7 HB6 HI6)
      | (go_at_call 110; refine (HROAD.out _ _ _ _ HI7.out).mono ?_; rintro e w8 ⟨v8, rfl, hv8, hb8⟩; obtain ⟨A8, c8, e8⟩ := Kd.R_slice hv8; rw [List.length_nil] at e8; subst e8; have HB8 := Aside0.mk (below_step HB7.out hb8); clear hv8 hb8 HB7 HI7))
    go_ret
    exact ⟨rfl, HB8.out⟩
  · have t0 := decide_eq_false d0
    by_cases d1 : n < 0
    · have t1 := decide_eq_true d1
      clear d0 d1 hR hBl
      go_enter Try.func5, Try.ntmps5
      go_wp2_with (first
        | (go_at_call 19; refine (HJC.out _ hB.out).mono ?_; rintro e w1 ⟨h1_, _⟩; obtain ⟨g, AM, cM, rfl, hI, hb1⟩ := h1_ rfl; have HB1 := Aside0.mk (below_step hB.out hb1); have HA1 := Aside0.mk (blk_below hA.out hb1); have HI1 := Aside0.mk hI; clear hI hb1 h1_ hA; have q0 : w1.cell? ⟨w.heap.size, 0, none⟩ = some (.int .i64 k) := (blk_cell HA1.out 0).trans rfl; have q1 : w1.cell? ⟨w.heap.size, 1, none⟩ = some (.int .i64 m) := (blk_cell HA1.out 1).trans rfl; have q2 : w1.cell? ⟨w.heap.size, 2, none⟩ = some (.int .i64 c) := (blk_cell HA1.out 2).trans rfl; have q3 : w1.cell? ⟨w.heap.size, 3, none⟩ = some (.bool l) := (blk_cell HA1.out 3).trans rfl)
        | (go_at_call 20; refine (wrackref1_JoinErr.calls kj A0 c0 mm k m c l 0 _ (Kd.C_below HR.out HB1.out) HC0.out HKJ.out).mono ?_; rintro e w2 ⟨rfl, hb2⟩; have HB2 := Aside0.mk (below_step HB1.out hb2); have HA2 := Aside0.mk (blk_below HA1.out hb2); have HI2 := Aside0.mk (HI1.out.below hb2); clear hb2 q0 q1 q2 q3 HB1 HA1 HI1)
        | (go_at_call 21; refine (wracklaw1_arrays.calls ka true _ HKA.out).mono ?_; rintro e w3 ⟨rfl, hb3⟩; have HB3 := Aside0.mk (below_step HB2.out hb3); have HA3 := Aside0.mk (blk_below HA2.out hb3); have HI3 := Aside0.mk (HI2.out.below hb3); clear hb3 HB2 HA2 HI2; have q0 : w3.cell? ⟨w.heap.size, 0, none⟩ = some (.int .i64 k) := (blk_cell HA3.out 0).trans rfl; have q1 : w3.cell? ⟨w.heap.size, 1, none⟩ = some (.int .i64 m) := (blk_cell HA3.out 1).trans rfl; have q2 : w3.cell? ⟨w.heap.size, 2, none⟩ = some (.int .i64 c) := (blk_cell HA3.out 2).trans rfl; have q3 : w3.cell? ⟨w.heap.size, 3, none⟩ = some (.bool l) := (blk_cell HA3.out 3).trans rfl)
        | (go_at_call 22; refine (wrackref1_Whole.calls kw A0 c0 mm k m c l B F pl _ (Kd.C_below HR.out HB3.out) HC0.out HKW.out).mono ?_; rintro e w4 ⟨vB, vF, rfl, hvB, hvF, hb4⟩; obtain ⟨AB, cB, eB⟩ := Kd.R_slice hvB; subst eB; obtain ⟨AF, cF, eF, hcF, hCF⟩ := Kd.S_reads hvF; subst eF; have HB4 := Aside0.mk (below_step HB3.out hb4); have HA4 := Aside0.mk (blk_below HA3.out hb4); have HI4 := Aside0.mk (HI3.out.below hb4); have HVB := Aside0.mk (Kd.R_reads' hvB); have HVF := Aside0.mk hCF; have HCF := Aside0.mk hcF; clear hvB hvF hb4 hCF hcF q0 q1 q2 q3 HB3 HA3 HI3; have mSize : ∀ w, (method 267 85 (.pointer (some ⟨g, 0, none⟩)) "Size").run Try.prog w = .ok (111, .pointer (some ⟨g, 0, none⟩)) w := (fun _ => by kernel_rfl); have eSize : ∀ args w, (callFunc 111 args).run Try.prog w = .ok (.enter 111 args) w := enters_ Try.func111 (by kernel_rfl) rfl; have mPlain : ∀ w, (method 267 85 (.pointer (some ⟨g, 0, none⟩)) "Plain").run Try.prog w = .ok (108, .pointer (some ⟨g, 0, none⟩)) w := (fun _ => by kernel_rfl); have ePlain : ∀ args w, (callFunc 108 args).run Try.prog w = .ok (.enter 108 args) w := enters_ Try.func108 (by kernel_rfl) rfl; have mRead : ∀ w, (method 267 85 (.pointer (some ⟨g, 0, none⟩)) "Read").run Try.prog w = .ok (109, .pointer (some ⟨g, 0, none⟩)) w := (fun _ => by kernel_rfl); have eRead : ∀ args w, (callFunc 109 args).run Try.prog w = .ok (.enter 109 args) w := enters_ Try.func109 (by kernel_rfl) rfl; have mRoad : ∀ w, (method 267 85 (.pointer (some ⟨g, 0, none⟩)) "Road").run Try.prog w = .ok (110, .pointer (some ⟨g, 0, none⟩)) w := (fun _ => by kernel_rfl); have eRoad : ∀ args w, (callFunc 110 args).run Try.prog w = .ok (.enter 110 args) w := enters_ Try.func110 (by kernel_rfl) rfl)
        | (go_at_call 111; refine (HSIZE.out _ _ _ _ HI4.out).mono ?_; rintro e w5 ⟨rfl, hb5⟩; have HB5 := Aside0.mk (below_step HB4.out hb5); have HD5 := Aside0.mk hb5; have HA5 := Aside0.mk (blk_below HA4.out hb5); have HI5 := Aside0.mk (HI4.out.below hb5); clear hb5 HB4 HA4 HI4)
        | (go_at_call 108; refine (HPLAIN.out _ _ _ _ HI5.out).mono ?_; rintro e w6 ⟨rfl, hb6⟩; have HB6 := Aside0.mk (below_step HB5.out hb6); have HD6 := Aside0.mk (below_step HD5.out hb6); have HA6 := Aside0.mk (blk_below HA5.out hb6); have HI6 := Aside0.mk (HI5.out.below hb6); clear hb6 HB5 HD5 HA5 HI5)
        | (go_at_call 109; refine (HREAD.out _ _ _ _ HI6.out).mono ?_; rintro e w7 ⟨v7, rfl, hv7, hb7⟩; obtain ⟨A7, c7, e7⟩ := Kd.R_slice hv7; rw [List.length_nil] at e7; subst e7; have HB7 := Aside0.mk (below_step HB6.out hb7); have HI7 := Aside0.mk (HI6.out.below hb7); clear hv7 hb7 HB6 HI6)
        | (go_at_call 110; refine (HROAD.out _ _ _ _ HI7.out).mono ?_; rintro e w8 ⟨v8, rfl, hv8, hb8⟩; obtain ⟨A8, c8, e8⟩ := Kd.R_slice hv8; rw [List.length_nil] at e8; subst e8; have HB8 := Aside0.mk (below_step HB7.out hb8); clear hv8 hb8 HB7 HI7))
      go_ret
      exact ⟨rfl, HB8.out⟩
    · have t1 := decide_eq_false d1
      by_cases d2 : (B.length : Int) < off
      · have t2 := decide_eq_true d2
        clear d0 d1 d2 hR hBl
        go_enter Try.func5, Try.ntmps5
        go_wp2_with (first
          | (go_at_call 19; refine (HJC.out _ hB.out).mono ?_; rintro e w1 ⟨h1_, _⟩; obtain ⟨g, AM, cM, rfl, hI, hb1⟩ := h1_ rfl; have HB1 := Aside0.mk (below_step hB.out hb1); have HA1 := Aside0.mk (blk_below hA.out hb1); have HI1 := Aside0.mk hI; clear hI hb1 h1_ hA; have q0 : w1.cell? ⟨w.heap.size, 0, none⟩ = some (.int .i64 k) := (blk_cell HA1.out 0).trans rfl; have q1 : w1.cell? ⟨w.heap.size, 1, none⟩ = some (.int .i64 m) := (blk_cell HA1.out 1).trans rfl; have q2 : w1.cell? ⟨w.heap.size, 2, none⟩ = some (.int .i64 c) := (blk_cell HA1.out 2).trans rfl; have q3 : w1.cell? ⟨w.heap.size, 3, none⟩ = some (.bool l) := (blk_cell HA1.out 3).trans rfl)
          | (go_at_call 20; refine (wrackref1_JoinErr.calls kj A0 c0 mm k m c l 0 _ (Kd.C_below HR.out HB1.out) HC0.out HKJ.out).mono ?_; rintro e w2 ⟨rfl, hb2⟩; have HB2 := Aside0.mk (below_step HB1.out hb2); have HA2 := Aside0.mk (blk_below HA1.out hb2); have HI2 := Aside0.mk (HI1.out.below hb2); clear hb2 q0 q1 q2 q3 HB1 HA1 HI1)
          | (go_at_call 21; refine (wracklaw1_arrays.calls ka true _ HKA.out).mono ?_; rintro e w3 ⟨rfl, hb3⟩; have HB3 := Aside0.mk (below_step HB2.out hb3); have HA3 := Aside0.mk (blk_below HA2.out hb3); have HI3 := Aside0.mk (HI2.out.below hb3); clear hb3 HB2 HA2 HI2; have q0 : w3.cell? ⟨w.heap.size, 0, none⟩ = some (.int .i64 k) := (blk_cell HA3.out 0).trans rfl; have q1 : w3.cell? ⟨w.heap.size, 1, none⟩ = some (.int .i64 m) := (blk_cell HA3.out 1).trans rfl; have q2 : w3.cell? ⟨w.heap.size, 2, none⟩ = some (.int .i64 c) := (blk_cell HA3.out 2).trans rfl; have q3 : w3.cell? ⟨w.heap.size, 3, none⟩ = some (.bool l) := (blk_cell HA3.out 3).trans rfl)
          | (go_at_call 22; refine (wrackref1_Whole.calls kw A0 c0 mm k m c l B F pl _ (Kd.C_below HR.out HB3.out) HC0.out HKW.out).mono ?_; rintro e w4 ⟨vB, vF, rfl, hvB, hvF, hb4⟩; obtain ⟨AB, cB, eB⟩ := Kd.R_slice hvB; subst eB; obtain ⟨AF, cF, eF, hcF, hCF⟩ := Kd.S_reads hvF; subst eF; have HB4 := Aside0.mk (below_step HB3.out hb4); have HA4 := Aside0.mk (blk_below HA3.out hb4); have HI4 := Aside0.mk (HI3.out.below hb4); have HVB := Aside0.mk (Kd.R_reads' hvB); have HVF := Aside0.mk hCF; have HCF := Aside0.mk hcF; clear hvB hvF hb4 hCF hcF q0 q1 q2 q3 HB3 HA3 HI3; have mSize : ∀ w, (method 267 85 (.pointer (some ⟨g, 0, none⟩)) "Size").run Try.prog w = .ok (111, .pointer (some ⟨g, 0, none⟩)) w := (fun _ => by kernel_rfl); have eSize : ∀ args w, (callFunc 111 args).run Try.prog w = .ok (.enter 111 args) w := enters_ Try.func111 (by kernel_rfl) rfl; have mPlain : ∀ w, (method 267 85 (.pointer (some ⟨g, 0, none⟩)) "Plain").run Try.prog w = .ok (108, .pointer (some ⟨g, 0, none⟩)) w := (fun _ => by kernel_rfl); have ePlain : ∀ args w, (callFunc 108 args).run Try.prog w = .ok (.enter 108 args) w := enters_ Try.func108 (by kernel_rfl) rfl; have mRead : ∀ w, (method 267 85 (.pointer (some ⟨g, 0, none⟩)) "Read").run Try.prog w = .ok (109, .pointer (some ⟨g, 0, none⟩)) w := (fun _ => by kernel_rfl); have eRead : ∀ args w, (callFunc 109 args).run Try.prog w = .ok (.enter 109 args) w := enters_ Try.func109 (by kernel_rfl) rfl; have mRoad : ∀ w, (method 267 85 (.pointer (some ⟨g, 0, none⟩)) "Road").run Try.prog w = .ok (110, .pointer (some ⟨g, 0, none⟩)) w := (fun _ => by kernel_rfl); have eRoad : ∀ args w, (callFunc 110 args).run Try.prog w = .ok (.enter 110 args) w := enters_ Try.func110 (by kernel_rfl) rfl)
          | (go_at_call 111; refine (HSIZE.out _ _ _ _ HI4.out).mono ?_; rintro e w5 ⟨rfl, hb5⟩; have HB5 := Aside0.mk (below_step HB4.out hb5); have HD5 := Aside0.mk hb5; have HA5 := Aside0.mk (blk_below HA4.out hb5); have HI5 := Aside0.mk (HI4.out.below hb5); clear hb5 HB4 HA4 HI4)
          | (go_at_call 108; refine (HPLAIN.out _ _ _ _ HI5.out).mono ?_; rintro e w6 ⟨rfl, hb6⟩; have HB6 := Aside0.mk (below_step HB5.out hb6); have HD6 := Aside0.mk (below_step HD5.out hb6); have HA6 := Aside0.mk (blk_below HA5.out hb6); have HI6 := Aside0.mk (HI5.out.below hb6); clear hb6 HB5 HD5 HA5 HI5)
          | (go_at_call 109; refine (HREAD.out _ _ _ _ HI6.out).mono ?_; rintro e w7 ⟨v7, rfl, hv7, hb7⟩; obtain ⟨A7, c7, e7⟩ := Kd.R_slice hv7; rw [List.length_nil] at e7; subst e7; have HB7 := Aside0.mk (below_step HB6.out hb7); have HI7 := Aside0.mk (HI6.out.below hb7); clear hv7 hb7 HB6 HI6)
          | (go_at_call 110; refine (HROAD.out _ _ _ _ HI7.out).mono ?_; rintro e w8 ⟨v8, rfl, hv8, hb8⟩; obtain ⟨A8, c8, e8⟩ := Kd.R_slice hv8; rw [List.length_nil] at e8; subst e8; have HB8 := Aside0.mk (below_step HB7.out hb8); clear hv8 hb8 HB7 HI7))
        go_ret
        exact ⟨rfl, HB8.out⟩
      · have t2 := decide_eq_false d2
        have hws : IntKind.i64.wrap ((B.length : Int) - off) = (B.length : Int) - off := by rw [i64_w]; unfold wrap64; omega
        have t3 : decide ((B.length : Int) - off < n) = true := decide_eq_true (by omega)
        clear d0 d1 d2 hR hBl
        go_enter Try.func5, Try.ntmps5
        go_wp2_with (first
          | (go_at_call 19; refine (HJC.out _ hB.out).mono ?_; rintro e w1 ⟨h1_, _⟩; obtain ⟨g, AM, cM, rfl, hI, hb1⟩ := h1_ rfl; have HB1 := Aside0.mk (below_step hB.out hb1); have HA1 := Aside0.mk (blk_below hA.out hb1); have HI1 := Aside0.mk hI; clear hI hb1 h1_ hA; have q0 : w1.cell? ⟨w.heap.size, 0, none⟩ = some (.int .i64 k) := (blk_cell HA1.out 0).trans rfl; have q1 : w1.cell? ⟨w.heap.size, 1, none⟩ = some (.int .i64 m) := (blk_cell HA1.out 1).trans rfl; have q2 : w1.cell? ⟨w.heap.size, 2, none⟩ = some (.int .i64 c) := (blk_cell HA1.out 2).trans rfl; have q3 : w1.cell? ⟨w.heap.size, 3, none⟩ = some (.bool l) := (blk_cell HA1.out 3).trans rfl)
          | (go_at_call 20; refine (wrackref1_JoinErr.calls kj A0 c0 mm k m c l 0 _ (Kd.C_below HR.out HB1.out) HC0.out HKJ.out).mono ?_; rintro e w2 ⟨rfl, hb2⟩; have HB2 := Aside0.mk (below_step HB1.out hb2); have HA2 := Aside0.mk (blk_below HA1.out hb2); have HI2 := Aside0.mk (HI1.out.below hb2); clear hb2 q0 q1 q2 q3 HB1 HA1 HI1)
          | (go_at_call 21; refine (wracklaw1_arrays.calls ka true _ HKA.out).mono ?_; rintro e w3 ⟨rfl, hb3⟩; have HB3 := Aside0.mk (below_step HB2.out hb3); have HA3 := Aside0.mk (blk_below HA2.out hb3); have HI3 := Aside0.mk (HI2.out.below hb3); clear hb3 HB2 HA2 HI2; have q0 : w3.cell? ⟨w.heap.size, 0, none⟩ = some (.int .i64 k) := (blk_cell HA3.out 0).trans rfl; have q1 : w3.cell? ⟨w.heap.size, 1, none⟩ = some (.int .i64 m) := (blk_cell HA3.out 1).trans rfl; have q2 : w3.cell? ⟨w.heap.size, 2, none⟩ = some (.int .i64 c) := (blk_cell HA3.out 2).trans rfl; have q3 : w3.cell? ⟨w.heap.size, 3, none⟩ = some (.bool l) := (blk_cell HA3.out 3).trans rfl)
          | (go_at_call 22; refine (wrackref1_Whole.calls kw A0 c0 mm k m c l B F pl _ (Kd.C_below HR.out HB3.out) HC0.out HKW.out).mono ?_; rintro e w4 ⟨vB, vF, rfl, hvB, hvF, hb4⟩; obtain ⟨AB, cB, eB⟩ := Kd.R_slice hvB; subst eB; obtain ⟨AF, cF, eF, hcF, hCF⟩ := Kd.S_reads hvF; subst eF; have HB4 := Aside0.mk (below_step HB3.out hb4); have HA4 := Aside0.mk (blk_below HA3.out hb4); have HI4 := Aside0.mk (HI3.out.below hb4); have HVB := Aside0.mk (Kd.R_reads' hvB); have HVF := Aside0.mk hCF; have HCF := Aside0.mk hcF; clear hvB hvF hb4 hCF hcF q0 q1 q2 q3 HB3 HA3 HI3; have mSize : ∀ w, (method 267 85 (.pointer (some ⟨g, 0, none⟩)) "Size").run Try.prog w = .ok (111, .pointer (some ⟨g, 0, none⟩)) w := (fun _ => by kernel_rfl); have eSize : ∀ args w, (callFunc 111 args).run Try.prog w = .ok (.enter 111 args) w := enters_ Try.func111 (by kernel_rfl) rfl; have mPlain : ∀ w, (method 267 85 (.pointer (some ⟨g, 0, none⟩)) "Plain").run Try.prog w = .ok (108, .pointer (some ⟨g, 0, none⟩)) w := (fun _ => by kernel_rfl); have ePlain : ∀ args w, (callFunc 108 args).run Try.prog w = .ok (.enter 108 args) w := enters_ Try.func108 (by kernel_rfl) rfl; have mRead : ∀ w, (method 267 85 (.pointer (some ⟨g, 0, none⟩)) "Read").run Try.prog w = .ok (109, .pointer (some ⟨g, 0, none⟩)) w := (fun _ => by kernel_rfl); have eRead : ∀ args w, (callFunc 109 args).run Try.prog w = .ok (.enter 109 args) w := enters_ Try.func109 (by kernel_rfl) rfl; have mRoad : ∀ w, (method 267 85 (.pointer (some ⟨g, 0, none⟩)) "Road").run Try.prog w = .ok (110, .pointer (some ⟨g, 0, none⟩)) w := (fun _ => by kernel_rfl); have eRoad : ∀ args w, (callFunc 110 args).run Try.prog w = .ok (.enter 110 args) w := enters_ Try.func110 (by kernel_rfl) rfl)
          | (go_at_call 111; refine (HSIZE.out _ _ _ _ HI4.out).mono ?_; rintro e w5 ⟨rfl, hb5⟩; have HB5 := Aside0.mk (below_step HB4.out hb5); have HD5 := Aside0.mk hb5; have HA5 := Aside0.mk (blk_below HA4.out hb5); have HI5 := Aside0.mk (HI4.out.below hb5); clear hb5 HB4 HA4 HI4)
          | (go_at_call 108; refine (HPLAIN.out _ _ _ _ HI5.out).mono ?_; rintro e w6 ⟨rfl, hb6⟩; have HB6 := Aside0.mk (below_step HB5.out hb6); have HD6 := Aside0.mk (below_step HD5.out hb6); have HA6 := Aside0.mk (blk_below HA5.out hb6); have HI6 := Aside0.mk (HI5.out.below hb6); clear hb6 HB5 HD5 HA5 HI5)
          | (go_at_call 109; refine (HREAD.out _ _ _ _ HI6.out).mono ?_; rintro e w7 ⟨v7, rfl, hv7, hb7⟩; obtain ⟨A7, c7, e7⟩ := Kd.R_slice hv7; rw [List.length_nil] at e7; subst e7; have HB7 := Aside0.mk (below_step HB6.out hb7); have HI7 := Aside0.mk (HI6.out.below hb7); clear hv7 hb7 HB6 HI6)
          | (go_at_call 110; refine (HROAD.out _ _ _ _ HI7.out).mono ?_; rintro e w8 ⟨v8, rfl, hv8, hb8⟩; obtain ⟨A8, c8, e8⟩ := Kd.R_slice hv8; rw [List.length_nil] at e8; subst e8; have HB8 := Aside0.mk (below_step HB7.out hb8); clear hv8 hb8 HB7 HI7))
        go_ret
        exact ⟨rfl, HB8.out⟩
set_option maxHeartbeats 16000000 in
set_option maxRecDepth 100000 in
theorem aj_in (A0 : Option Addr) (c0 : Nat) (mm : List (List Int)) (k m c : Int) (l : Bool) (off n : Int) (w : World) (hr : Kd.C (Kd.slice 5 (Kd.int .u8)) w A0 mm.length mm) (hc0 : mm.length ≤ c0) (hl : mm.length ≤ 5864062014805) (hsz : (sizeP mm) ≤ 140737488355328) (hsh : ∀ i, i < mm.length → (rd_L3 mm (i : Int)).length ≤ 140737488355328) (hk : -9223372036854775808 ≤ k ∧ k ≤ 9223372036854775807) (hJ : joinR k m c l mm = 0) (Cn rows : Nat) (h : WE mm k m c l Cn rows) (hR : inW (totW k m (sizeP mm : Int)) off n) :
    Calls Try.prog 5 #[.slice A0 mm.length c0, .agg #[.int .i64 k, .int .i64 m, .int .i64 c, .bool l], .int .i64 off, .int .i64 n] w fun e w' => e = .returned (.bool true) ∧ Below w.heap.size w w' := by
  obtain ⟨o, rfl⟩ := Int.eq_ofNat_of_zero_le hR.1
  obtain ⟨q, rfl⟩ := Int.eq_ofNat_of_zero_le hR.2.1
  obtain ⟨W, hW, hW1, hW8⟩ := h.width
  obtain ⟨ka, hka⟩ := arrays_ev.rounds
  obtain ⟨kj, hkj⟩ := (joinErr_ev k m c l hk mm hl hsh).rounds
  obtain ⟨kw, hkw⟩ := (h.whole hsh).rounds
  have hjc := fun W (hb : Below w.heap.size w W) => join_calls A0 c0 mm k m c l W (Kd.C_below hr hb) hc0 hl hsz hsh hk
  unfold JoinEnd at hjc
  rw [hJ] at hkj hjc
  obtain ⟨hlB, hlF⟩ := h.lens W hW
  obtain ⟨ht, ht2⟩ := h.tot W hW
  obtain ⟨hs, hM⟩ := h.small
  have hpos := h.pos
  have hgd := h.good
  have hsize := fun (V : World) g AM cM (hI : IsWhole V g k m c l AM cM mm (sizeP mm : Int) (goneOf k mm)) => whole_size V g k m c l AM cM mm (sizeP mm : Int) (goneOf k mm) hI hgd (by omega) (by omega)
  have hplain := fun (V : World) g AM cM (hI : IsWhole V g k m c l AM cM mm (sizeP mm : Int) (goneOf k mm)) => whole_plain V g k m c l AM cM mm (sizeP mm : Int) (goneOf k mm) hI
  have htw : (sizeP mm : Int) * widthOf k m = ((rows * W * Cn : Nat) : Int) := ht
  have hoq : o + q ≤ rows * W * Cn := by
    have h1 := hR.2.2
    rw [ht] at h1
    omega
  have hruns := h.run_all W hW hW1 o q hoq
  have hvals := h.vals W hW hW1 o q hoq
  have hsums := h.sums W hW hW1 o q hoq
  obtain ⟨kr, hkr⟩ := (h.refRoad W hW hW1 o q hoq).rounds
  have hread := fun (V : World) g AM cM (hI : IsWhole V g k m c l AM cM mm (sizeP mm : Int) (goneOf k mm)) => whole_read_in V g k m c l AM cM mm (sizeP mm : Int) (goneOf k mm) hI hgd hM (by omega) (by omega) (o : Int) (q : Int) hR (by rw [ht]; omega) (by rw [Int.toNat_natCast]; exact hruns) (by rw [Int.toNat_natCast]; exact fun i => Or.inr (hsums i))
  have hroad := fun (V : World) g AM cM (hI : IsWhole V g k m c l AM cM mm (sizeP mm : Int) (goneOf k mm)) => whole_road_in V g k m c l AM cM mm (sizeP mm : Int) (goneOf k mm) hI hgd hM (by omega) (by omega) (o : Int) (q : Int) hR (by rw [ht]; omega) (by rw [Int.toNat_natCast]; exact fun x hx => ⟨(hruns x hx).1, (hruns x hx).2.1, (hruns x hx).2.2.1, (hruns x hx).2.2.2.1⟩)
  rw [Int.toNat_natCast, hvals] at hread
  rw [Int.toNat_natCast] at hroad
  obtain ⟨G, hGe⟩ : ∃ G, G = gluedP [] (laid (spansR mm.length (sizeP mm : Int) (goneOf k mm) (runF k m c l (firstP 0 mm) q (o : Int) (q : Int)))) := ⟨_, rfl⟩
  rw [← hGe] at hkr hroad
  have hGl : G.length ≤ 4611686018427387904 := by
    have h1 := glued_short (laid (spansR mm.length (sizeP mm : Int) (goneOf k mm) (runF k m c l (firstP 0 mm) q (o : Int) (q : Int)))) []
    have h2 := h.roadLen W hW hW1 o q hoq
    rw [hGe]
    rw [List.length_nil] at h1
    omega
  obtain ⟨pl, hpl⟩ : ∃ p, p = decide (goneOf k mm < 0) := ⟨_, rfl⟩
  obtain ⟨B, hBe⟩ : ∃ B, B = allV mm k (firstP 0 mm) Cn (chunksFrom k m l rows 0) := ⟨_, rfl⟩
  obtain ⟨F, hFe⟩ : ∃ F, F = allP mm (sizeP mm) k (firstP 0 mm) Cn (chunksFrom k m l rows 0) := ⟨_, rfl⟩
  rw [← hBe] at hlB
  rw [← hBe, ← hFe, ← hpl] at hkw
  rw [← hpl] at hplain
  rw [htw, ← hlB] at hsize
  rw [← hBe] at hread
  rw [← hFe] at hkr
  rw [← hlB] at hoq
  have hBl : B.length ≤ 65536 := by omega
  obtain ⟨X, hXe⟩ : ∃ X, X = (B.drop o).take q := ⟨_, rfl⟩
  have hXl : X.length = q := by rw [hXe, List.length_take, List.length_drop]; omega
  rw [← hXe] at hread
  obtain ⟨ke, hke⟩ := (equalB_ev X (by omega)).rounds
  obtain ⟨ks, hks⟩ := (same_ev G hGl).rounds
  have t0 : decide ((o : Int) < 0) = false := decide_eq_false (by omega)
  have t1 : decide ((q : Int) < 0) = false := decide_eq_false (by omega)
  have t2 : decide ((B.length : Int) < (o : Int)) = false := decide_eq_false (by omega)
  have u2 : o ≤ B.length := by omega
  have u3 : ¬ (B.length < o) := by omega
  have hws : IntKind.i64.wrap ((B.length : Int) - (o : Int)) = (B.length : Int) - (o : Int) := by rw [i64_w]; unfold wrap64; omega
  have t3 : decide ((B.length : Int) - (o : Int) < (q : Int)) = false := decide_eq_false (by omega)
  have hwa : IntKind.i64.wrap ((o : Int) + (q : Int)) = (o : Int) + (q : Int) := by rw [i64_w]; unfold wrap64; omega
  have hcm : IntKind.i64.wrap (64 * c) = (Cn : Int) := by
    have h1 := h.hC
    have h2 := h.cpos
    rw [← h1, i64_w]; unfold wrap64; omega
  have HKA := Aside0.mk hka
  have HKJ := Aside0.mk hkj
  have HKW := Aside0.mk hkw
  have HJC := Aside0.mk hjc
  have HSIZE := Aside0.mk hsize
  have HPLAIN := Aside0.mk hplain
  have HREAD := Aside0.mk hread
  have HROAD := Aside0.mk hroad
  have HKR := Aside0.mk hkr
  have HKE := Aside0.mk hke
  have HKS := Aside0.mk hks
  have HXE := Aside0.mk hXe
  have HXL := Aside0.mk hXl
  have HOQ := Aside0.mk hoq
  have HR := Aside0.mk hr
  have HC0 := Aside0.mk hc0
  clear h hr hc0 hl hsz hsh hk hJ hka hkj hkw hjc hsize hplain hread hroad hlB hlF ht ht2 hs hM hpos hgd htw hpl hBe hFe hW hW1 hW8 hR hruns hvals hsums hkr hGe hGl hke hks hXe hXl hoq hBl
  have hB := Aside0.mk (below_alloc (Below.refl w.heap.size w) (.cells #[.int .i64 k, .int .i64 m, .int .i64 c, .bool l] 53))
  have hA := Aside0.mk (blk_new w (.cells #[.int .i64 k, .int .i64 m, .int .i64 c, .bool l] 53))
  have hu31 := Try.underlying53
  go_enter Try.func5, Try.ntmps5
  go_wp2_with (first
    | (go_at_call 19; refine (HJC.out _ hB.out).mono ?_; rintro e w1 ⟨h1_, _⟩; obtain ⟨g, AM, cM, rfl, hI, hb1⟩ := h1_ rfl; have HB1 := Aside0.mk (below_step hB.out hb1); have HA1 := Aside0.mk (blk_below hA.out hb1); have HI1 := Aside0.mk hI; clear hI hb1 h1_ hA; have q0 : w1.cell? ⟨w.heap.size, 0, none⟩ = some (.int .i64 k) := (blk_cell HA1.out 0).trans rfl; have q1 : w1.cell? ⟨w.heap.size, 1, none⟩ = some (.int .i64 m) := (blk_cell HA1.out 1).trans rfl; have q2 : w1.cell? ⟨w.heap.size, 2, none⟩ = some (.int .i64 c) := (blk_cell HA1.out 2).trans rfl; have q3 : w1.cell? ⟨w.heap.size, 3, none⟩ = some (.bool l) := (blk_cell HA1.out 3).trans rfl)
    | (go_at_call 20; refine (wrackref1_JoinErr.calls kj A0 c0 mm k m c l 0 _ (Kd.C_below HR.out HB1.out) HC0.out HKJ.out).mono ?_; rintro e w2 ⟨rfl, hb2⟩; have HB2 := Aside0.mk (below_step HB1.out hb2); have HA2 := Aside0.mk (blk_below HA1.out hb2); have HI2 := Aside0.mk (HI1.out.below hb2); clear hb2 q0 q1 q2 q3 HB1 HA1 HI1)
    | (go_at_call 21; refine (wracklaw1_arrays.calls ka true _ HKA.out).mono ?_; rintro e w3 ⟨rfl, hb3⟩; have HB3 := Aside0.mk (below_step HB2.out hb3); have HA3 := Aside0.mk (blk_below HA2.out hb3); have HI3 := Aside0.mk (HI2.out.below hb3); clear hb3 HB2 HA2 HI2; have q0 : w3.cell? ⟨w.heap.size, 0, none⟩ = some (.int .i64 k) := (blk_cell HA3.out 0).trans rfl; have q1 : w3.cell? ⟨w.heap.size, 1, none⟩ = some (.int .i64 m) := (blk_cell HA3.out 1).trans rfl; have q2 : w3.cell? ⟨w.heap.size, 2, none⟩ = some (.int .i64 c) := (blk_cell HA3.out 2).trans rfl; have q3 : w3.cell? ⟨w.heap.size, 3, none⟩ = some (.bool l) := (blk_cell HA3.out 3).trans rfl)
    | (go_at_call 22; refine (wrackref1_Whole.calls kw A0 c0 mm k m c l B F pl _ (Kd.C_below HR.out HB3.out) HC0.out HKW.out).mono ?_; rintro e w4 ⟨vB, vF, rfl, hvB, hvF, hb4⟩; obtain ⟨AB, cB, eB⟩ := Kd.R_slice hvB; subst eB; obtain ⟨AF, cF, eF, hcF, hCF⟩ := Kd.S_reads hvF; subst eF; have HB4 := Aside0.mk (below_step HB3.out hb4); have HA4 := Aside0.mk (blk_below HA3.out hb4); have HI4 := Aside0.mk (HI3.out.below hb4); have HVB := Aside0.mk (Kd.R_reads' hvB); have HVF := Aside0.mk hCF; have HCF := Aside0.mk hcF; clear hvB hvF hb4 hCF hcF q0 q1 q2 q3 HB3 HA3 HI3; have mSize : ∀ w, (method 267 85 (.pointer (some ⟨g, 0, none⟩)) "Size").run Try.prog w = .ok (111, .pointer (some ⟨g, 0, none⟩)) w := (fun _ => by kernel_rfl); have eSize : ∀ args w, (callFunc 111 args).run Try.prog w = .ok (.enter 111 args) w := enters_ Try.func111 (by kernel_rfl) rfl; have mPlain : ∀ w, (method 267 85 (.pointer (some ⟨g, 0, none⟩)) "Plain").run Try.prog w = .ok (108, .pointer (some ⟨g, 0, none⟩)) w := (fun _ => by kernel_rfl); have ePlain : ∀ args w, (callFunc 108 args).run Try.prog w = .ok (.enter 108 args) w := enters_ Try.func108 (by kernel_rfl) rfl; have mRead : ∀ w, (method 267 85 (.pointer (some ⟨g, 0, none⟩)) "Read").run Try.prog w = .ok (109, .pointer (some ⟨g, 0, none⟩)) w := (fun _ => by kernel_rfl); have eRead : ∀ args w, (callFunc 109 args).run Try.prog w = .ok (.enter 109 args) w := enters_ Try.func109 (by kernel_rfl) rfl; have mRoad : ∀ w, (method 267 85 (.pointer (some ⟨g, 0, none⟩)) "Road").run Try.prog w = .ok (110, .pointer (some ⟨g, 0, none⟩)) w := (fun _ => by kernel_rfl); have eRoad : ∀ args w, (callFunc 110 args).run Try.prog w = .ok (.enter 110 args) w := enters_ Try.func110 (by kernel_rfl) rfl)
    | (go_at_call 111; refine (HSIZE.out _ _ _ _ HI4.out).mono ?_; rintro e w5 ⟨rfl, hb5⟩; have HB5 := Aside0.mk (below_step HB4.out hb5); have HD5 := Aside0.mk hb5; have HA5 := Aside0.mk (blk_below HA4.out hb5); have HI5 := Aside0.mk (HI4.out.below hb5); clear hb5 HB4 HA4 HI4)
    | (go_at_call 108; refine (HPLAIN.out _ _ _ _ HI5.out).mono ?_; rintro e w6 ⟨rfl, hb6⟩; have HB6 := Aside0.mk (below_step HB5.out hb6); have HD6 := Aside0.mk (below_step HD5.out hb6); have HA6 := Aside0.mk (blk_below HA5.out hb6); have HI6 := Aside0.mk (HI5.out.below hb6); clear hb6 HB5 HD5 HA5 HI5)
    | (go_at_call 109; refine (HREAD.out _ _ _ _ HI6.out).mono ?_; rintro e w7 ⟨v7, rfl, hv7, hb7⟩; obtain ⟨A7, c7, e7⟩ := Kd.R_slice hv7; subst e7; have HB7 := Aside0.mk (below_step HB6.out hb7); have HD7 := Aside0.mk (below_step HD6.out hb7); have HA7 := Aside0.mk (blk_below HA6.out hb7); have HI7 := Aside0.mk (HI6.out.below hb7); have HV7 := Aside0.mk (Kd.R_reads' hv7); clear hv7 hb7 HB6 HD6 HA6 HI6)
    | (go_at_call 110; refine (HROAD.out _ _ _ _ HI7.out).mono ?_; rintro e w8 ⟨v8, rfl, hv8, hb8⟩; obtain ⟨A8, c8, e8⟩ := Kd.R_slice hv8; subst e8; have HB8 := Aside0.mk (below_step HB7.out hb8); have HD8 := Aside0.mk (below_step HD7.out hb8); have HA8 := Aside0.mk (blk_below HA7.out hb8); have HV8 := Aside0.mk (Kd.R_reads' hv8); have HX8 := Aside0.mk (Kd.C_below HV7.out.2.2 hb8); obtain ⟨AP, hcut, hcp⟩ := part_cut (w := w8) (A0 := AB) (len := B.length) (c0 := cB) (off := o) (C := q) (b := B) HOQ.out HVB.out.2.1 rfl; have HY8 := Aside0.mk (hcp _ (Kd.C_below HVB.out.2.2 HD8.out)); clear hv8 hb8 hcp HB7 HD7 HA7 HI7)
    | (go_at_call 13; refine (eq_cut ke A7 c7 X AP q (cB - o) _ HXL.out HX8.out HV7.out.2.1 (HXE.out ▸ HY8.out) (cut_cap HVB.out.2.1 HOQ.out) HKE.out).mono ?_; rintro e w9 ⟨rfl, hd9⟩; have hb9 := hd9.below; have HB9 := Aside0.mk (below_step HB8.out hb9); have HD9 := Aside0.mk (below_step HD8.out hb9); have HA9 := Aside0.mk (blk_below HA8.out hb9); have HV9 := Aside0.mk (Kd.C_below HV8.out.2.2 hb9); have q2 : w9.cell? ⟨w.heap.size, 2, none⟩ = some (.int .i64 c) := (blk_cell HA9.out 2).trans rfl; clear hd9 hb9)
    | (go_at_call 24; refine (wrackref1_Roads.calls kr AF cF F (Cn : Int) (o : Int) (q : Int) G _ (Kd.C_below HVF.out HD9.out) HCF.out HKR.out).mono ?_; rintro e w10 ⟨v10, rfl, hv10, hb10⟩; obtain ⟨A10, c10, e10⟩ := Kd.R_slice hv10; subst e10; have HB10 := Aside0.mk (below_step HB9.out hb10); have HV10 := Aside0.mk (Kd.R_reads' hv10); have HW10 := Aside0.mk (Kd.C_below HV9.out hb10); clear hv10 hb10)
    | (go_at_call 23; refine (wrackref1_SameSpans.calls ks A8 c8 G A10 c10 G true _ HW10.out HV8.out.2.1 HV10.out.2.2 HV10.out.2.1 HKS.out).mono ?_; rintro e w11 ⟨rfl, hd11⟩; have HB11 := Aside0.mk (below_step HB10.out hd11.below); clear hd11))
  go_ret
  exact ⟨rfl, HB11.out⟩
/-- all members, arrays and ranges -/
theorem aj_main (A0 : Option Addr) (c0 : Nat) (mm : List (List Int)) (k m c : Int) (l : Bool) (off n : Int) (w : World) (hr : Kd.C (Kd.slice 5 (Kd.int .u8)) w A0 mm.length mm) (hc0 : mm.length ≤ c0) (hl : mm.length * 24 ≤ 140737488351232) (hx : ∀ x ∈ mm, x.length ≤ 140737488351232) (hk : -9223372036854775808 ≤ k ∧ k ≤ 9223372036854775807) :
    Calls Try.prog 5 #[.slice A0 mm.length c0, .agg #[.int .i64 k, .int .i64 m, .int .i64 c, .bool l], .int .i64 off, .int .i64 n] w fun e w' => e = .returned (.bool true) ∧ Below w.heap.size w w' := by
  have hsh : ∀ i, i < mm.length → (rd_L3 mm (i : Int)).length ≤ 140737488355328 := fun i hi => by
    have hm : rd_L3 mm (i : Int) ∈ mm := by
      unfold rd_L3
      rw [Int.toNat_natCast, List.getD_eq_getElem?_getD, List.getElem?_eq_getElem hi]
      exact List.getElem_mem hi
    have := hx _ hm
    omega
  have hsz : sizeP mm ≤ 140737488355328 := by
    have h1 := sizeP_le mm 140737488351232 hx
    omega
  by_cases hJ : joinR k m c l mm = 0
  · obtain ⟨Cn, rows, h⟩ := we_of mm k m c l hJ
    by_cases hR : inW (totW k m (sizeP mm : Int)) off n
    · exact aj_in A0 c0 mm k m c l off n w hr hc0 (by omega) hsz hsh hk hJ Cn rows h hR
    · exact aj_out A0 c0 mm k m c l off n w hr hc0 (by omega) hsz hsh hk hJ Cn rows h hR
  · exact aj_wrong A0 c0 mm k m c l off n w hr hc0 (by omega) hsz hsh hk hJ
end Go.Proofs.Ytlnikhijfamakaa.Pure
