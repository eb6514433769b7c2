/- The members of bytes: the reference's. No condition. -/
import Derived.Test.YtdgkbpoljcndgaaPureArraySplitsP
import Derived.Outline
namespace Go.Proofs.Ytdgkbpoljcndgaa.Pure
open Go Go.RowKit Go.Maps Go.Proofs.Ytdgkbpoljcndgaa.QArraySplits Go.Proofs.YtdgkbpoljcndgaaW.PrintWords Go.Proofs.YtdgkbpoljcndgaaW.PrintLast Go.Proofs.YtdgkbpoljcndgaaW.PrintMore Go.Proofs.Ytdgkbpoljcndgaa.ArrayPlain
set_option linter.unusedVariables false
set_option linter.unusedSimpArgs false
set_option maxHeartbeats 16000000 in
set_option maxRecDepth 100000 in
/-- the reference's members, of bytes and an array that fit -/
theorem members_ok (E : SE) (hE : E.Fits) (A0 : Option Addr) (c0 : Nat) (w : World) (hr0 : Kd.C (Kd.int .u8) w A0 E.b.length E.b) (hc0 : E.b.length ≤ c0) :
    Calls Try.prog 51 #[.slice A0 E.b.length c0, .agg #[.int .i64 E.k, .int .i64 E.m, .int .i64 E.c, .bool E.l]] w fun e w' => ∃ g cO, e = .returned (.slice (some ⟨g, 0, none⟩) E.M cO) ∧ E.M ≤ cO ∧
      Kd.C (Kd.slice 5 (Kd.int .u8)) w' (some ⟨g, 0, none⟩) E.M ((List.range E.M).map (memb E E.Q)) ∧ Below w.heap.size w w' := by
  have hn := hE.nums
  have hlen := hE.h1
  obtain ⟨kw, hkw⟩ := hE.wide
  obtain ⟨ko, hko⟩ := hE.order
  have hu31 := Try.underlying31
  have hu40 := Try.underlying40
  have HR0 := Aside0.mk hr0
  have HC0 := Aside0.mk hc0
  have HE := Aside0.mk hE
  have HKW := Aside0.mk hkw
  have HKO := Aside0.mk hko
  obtain ⟨len, hl⟩ : ∃ x, x = E.b.length := ⟨_, rfl⟩
  have HL := Aside0.mk hl
  rw [← hl] at hr0 hc0 hlen HR0 HC0 ⊢
  obtain ⟨RW, hRW⟩ : ∃ x, x = E.C * E.W := ⟨_, rfl⟩
  have hcm : IntKind.i64.wrap (64 * E.c) = (E.C : Int) := by rw [i64_w, ← hE.hC]; unfold wrap64; omega
  have hcm2 : 64 * E.c = (E.C : Int) := hE.hC.symm
  have hrb : E.C * E.W ≤ 8192 := Nat.mul_le_mul hn.2.1 hn.2.2.2.1
  have hrw1 : IntKind.i64.wrap ((E.C : Int) * (E.W : Int)) = (RW : Int) := by
    rw [i64_w, ← Int.natCast_mul, ← hRW]; rw [← hRW] at hrb; unfold wrap64; omega
  have hrw2 : (E.C : Int) * (E.W : Int) = (RW : Int) := by rw [← Int.natCast_mul, ← hRW]
  have hRWb : RW ≤ 8192 := by rw [hRW]; exact hrb
  have hCb : E.C ≤ 1024 := hn.2.1
  have hpos : ¬ (RW = 0) := by rw [hRW]; exact Nat.pos_iff_ne_zero.mp (Nat.mul_pos (by omega) (by omega))
  have hRn : E.R ≤ E.n := Nat.le_mul_of_pos_right _ (by omega)
  have hnM : E.n ≤ E.n * E.M := Nat.le_mul_of_pos_right _ (by omega)
  have hE2 := hE.h2
  have hdiv : (len : Int) / (RW : Int) = (E.R : Int) := by
    rw [hl, hE.hb, hRW, Nat.mul_comm E.C E.W, ← Int.natCast_ediv, Nat.mul_div_cancel _ (Nat.mul_pos (by omega) (by omega))]
  obtain ⟨n, hnn⟩ : ∃ x, x = E.n := ⟨_, rfl⟩
  obtain ⟨R, hRR⟩ : ∃ x, x = E.R := ⟨_, rfl⟩
  rw [← hRR] at hdiv hRn
  rw [← hnn] at hRn hnM
  have hn2 : n ≤ 65536 := by rw [hnn]; exact Nat.le_trans (by rw [← hnn]; exact hnM) hE2
  have hrc1 : IntKind.i64.wrap ((R : Int) * (E.C : Int)) = (n : Int) := by
    rw [i64_w, ← Int.natCast_mul, hRR, show E.R * E.C = n from hnn.symm]; unfold wrap64; omega
  have hrc2 : (R : Int) * (E.C : Int) = (n : Int) := by rw [← Int.natCast_mul, hRR, show E.R * E.C = n from hnn.symm]
  have hR2 : R ≤ 65536 := Nat.le_trans hRn hn2
  have hM := hE.hM
  replace hM := Aside0.mk hM
  replace hnn := Aside0.mk hnn
  replace hRR := Aside0.mk hRR
  have hB := Aside0.mk (below_alloc (Below.refl w.heap.size w) (.cells #[.int .i64 E.k, .int .i64 E.m, .int .i64 E.c, .bool E.l] 31))
  have hA := Aside0.mk (blk_new w (.cells #[.int .i64 E.k, .int .i64 E.m, .int .i64 E.c, .bool E.l] 31))
  clear hr0 hc0 hE hl hkw hko hE2 hnM hrb hRn
  replace hRW := Aside0.mk hRW
  go_enter Try.func51, Try.ntmps51
  go_wp2_with (first
    | (go_at_call 49; refine (wrackref1_Wide.calls kw E.k E.m E.c E.l (E.W : Int) _ HKW.out).mono ?_; rintro e w1 ⟨rfl, hb1⟩; have hB1 := Aside0.mk (below_step hB.out hb1); have hA1 := Aside0.mk (blk_below hA.out hb1); clear hb1 hB hA; have q1 : w1.cell? ⟨w.heap.size, 1, none⟩ = some (.int .i64 E.m) := (blk_cell hA1.out 1).trans rfl)
    | ((with_reducible refine gate_dst (N := 28) rfl ?_); refine Kd.R_make (Kd.slice 5 (Kd.int .u8)) (w0 := w) w.heap.size 22 rfl (N := 28) rfl 72 _ _ rfl E.m rfl rfl Try.underlying72 (.slice none 0 0) 24 info22 rfl (by decide) (by decide) [] (ok := fun _ => True) (okp := fun _ => True) ⟨_, rfl, Kd.R_nil _ _ _ _ _⟩ (fun _ hk => hk) trivial (by have := hM.out; omega) (by have := hM.out; omega) hB1.out hB1.out.size ?_; intro vO w4 hO hb4 hg4 hn4; have hB4 := Aside0.mk hb4; have hA4 := Aside0.mk (blk_grown hA1.out hg4 (by simp)); obtain ⟨g, cO, rfl, hcO, hMat⟩ := mat_start (m := E.M) hO (by rw [List.length_replicate]; have := hM.out; omega) (by omega) (fun _ => .slice none 0 0) (fun _ => List.replicate E.n 0); replace hMat := Aside0.mk hMat; clear hO hb4 hg4 hn4 hB1 hA1 q1))
  have hab := Aside0.mk (show w.heap.size ≠ g by obtain ⟨cur, hc, _⟩ := hMat.out.outer; exact blk_ne hA4.out hc (by decide))
  go_loopw [31] (fun vi wr => ∃ (i : Nat) (V : Nat → Value), i ≤ E.M ∧ vi = .int .i64 (i : Int) ∧ Aside0 (Mat wr w.heap.size g cO E.M i V (fun _ => List.replicate E.n 0)) ∧ Aside0 (Below w.heap.size w wr) ∧ Aside0 (∀ j, j < i → ∃ q, (V j).ownBlock = some q) ∧ Aside0 (wr.heap[w.heap.size]? = some (.cells #[.int .i64 E.k, .int .i64 E.m, .int .i64 E.c, .bool E.l] 31 (0, 0)))) (fun vi _ => E.M - (intOf vi).toNat)
  case atStart => exact ⟨0, _, Nat.zero_le _, rfl, hMat, hB4, ⟨fun j hj => absurd hj (by omega)⟩, hA4⟩
  case round =>
    clear hMat hB4 hA4
    obtain ⟨i, V, hi, rfl, hMat, hB, hOW, hA⟩ := hrel
    by_cases hlt : i < E.M
    · have hlti : (i : Int) < (E.M : Int) := by omega
      have hnx : IntKind.i64.wrap ((i : Int) + 1) = (i : Int) + 1 := by rw [i64_w]; unfold wrap64; omega
      go_wp2_with (first
        | ((with_reducible refine gate_dst (N := 39) rfl ?_); refine Kd.R_make (Kd.int .u8) (w0 := w) w.heap.size 5 rfl (N := 39) rfl 22 _ _ rfl (n : Int) rfl rfl Try.underlying22 (.int .u8 0) 1 info5 rfl (by decide) (by decide) 0 (ok := fun _ => True) (okp := fun _ => True) rfl (fun _ hk => hk) trivial (by omega) (by omega) hB.out hB.out.size ?_; intro vR w6 hR6 hb6 hg6 hn6; rw [Int.toNat_natCast] at hR6; obtain ⟨AR, cR, eR⟩ := Kd.R_slice hR6; rw [List.length_replicate] at eR; subst eR; obtain ⟨qb, hqb, hqs⟩ := hn6; have hM6 := Aside0.mk (hMat.out.push hlt hg6 hqb hqs hR6); have hB6 := Aside0.mk hb6; have hA6 := Aside0.mk (blk_grown hA.out hg6 (by simp)); have hQ6 := Aside0.mk hqb; obtain ⟨uo, f0, f1⟩ := (hMat.out.step (blk_grown (Array.getElem?_eq_getElem hMat.out.lt) hg6 (by simp) |>.trans (Array.getElem?_eq_getElem hMat.out.lt).symm) (fun j hj q hq => hg6.block q (Kd.R_lt (hMat.out.rows j hj) q hq) (by simp))).any hlt; clear hb6 hg6 hqb hqs hR6 hB hA hMat))
      have hg0 : w.heap.size ≤ g := hM6.out.lg
      have hA7 := Aside0.mk (blk_far hA6.out (p := ⟨g, i, none⟩) hab.out (.slice AR n cR))
      have hB7 := Aside0.mk (hB6.out.setCell (p := ⟨g, i, none⟩) hg0 (.slice AR n cR))
      have hM7 := Aside0.mk (hM6.out.congr (f' := fun _ => List.replicate E.n 0) (fun j hj => by
        by_cases e : j = i
        · rw [e, upd_same, hnn.out]
        · rw [upd_ne _ _ e]))
      have hO7 : ∀ j, j < i + 1 → ∃ q, (upd V i (.slice AR n cR) j).ownBlock = some q := fun j hj => by
        by_cases e : j = i
        · rw [e, upd_same]; exact ⟨_, hQ6.out⟩
        · rw [upd_ne _ _ e]; exact hOW.out j (by omega)
      go_roundw
      case rel => exact ⟨i + 1, _, by omega, by go_num, hM7, hB7, ⟨hO7⟩, hA7⟩
      case measure => simp [intOf]; omega
    · obtain rfl : i = E.M := by omega
      clear hlt hi
      have q0 : wr.cell? ⟨w.heap.size, 0, none⟩ = some (.int .i64 E.k) := (blk_cell hA.out 0).trans rfl
      have q1 : wr.cell? ⟨w.heap.size, 1, none⟩ = some (.int .i64 E.m) := (blk_cell hA.out 1).trans rfl
      have q2 : wr.cell? ⟨w.heap.size, 2, none⟩ = some (.int .i64 E.c) := (blk_cell hA.out 2).trans rfl
      have q3 : wr.cell? ⟨w.heap.size, 3, none⟩ = some (.bool E.l) := (blk_cell hA.out 3).trans rfl
      have hko2 := Aside0.mk (show wrackref1_Order.f ko E.k E.m E.c E.l (R : Int) = some (chunksFrom E.k E.m E.l E.R 0, oddFrom E.k E.m E.l E.R 0) by rw [hRR.out]; exact HKO.out)
      go_wp2_with fail
      refine (wrackref1_Order.calls ko E.k E.m E.c E.l (R : Int) _ _ _ hko2.out).mono ?_
      rintro e w5 ⟨v0, v1, rfl, hv0, hv1, hb5⟩
      obtain ⟨hs, hhs⟩ : ∃ x, x = wr.heap.size := ⟨_, rfl⟩
      have hS := Aside0.mk (MS.mk (E := E) (w0 := w) (w := w5) (g := g) (cO := cO) (V := V) (f := memb E 0) (hs := hs) (v0 := v0) (v1 := v1) (hMat.out.below hb5) (below_step hB.out hb5) (blk_below hA.out hb5) (by exact Kd.R_mono (Kd.R_lower (Kd.R_bound hv0) hB.out.size) (fun k hk => by have := hk.2.1; omega)) (by exact Kd.R_mono (Kd.R_lower (Kd.R_bound hv1) hB.out.size) (fun k hk => by have := hk.2.1; omega)) (fun j hj q hq => by rw [hhs]; exact Kd.R_lt (hMat.out.rows j hj) q hq))
      obtain ⟨A2, c2, e2⟩ := Kd.R_slice hv0
      obtain ⟨A3, c3, e3⟩ := Kd.R_slice hv1
      rw [HE.out.chunks] at e2
      rw [odd_len] at e3
      subst e2
      subst e3
      clear hv0 hv1 hb5 hMat hB hA q0 q1 q2 q3
      go_wp2
      go_loopw [50] (fun vi wr => ∃ (q : Nat), q ≤ E.Q ∧ vi = .int .i64 (q : Int) ∧ Aside0 (MS E w wr g cO V (memb E q) hs (.slice A2 E.Q c2) (.slice A3 E.R c3))) (fun vi _ => E.Q - (intOf vi).toNat)
      case atStart => exact ⟨0, Nat.zero_le _, rfl, hS⟩
      case round =>
        clear hS
        obtain ⟨q, hqle, rfl, hS⟩ := hrel
        by_cases hlt : q < E.Q
        · have hlti : (q : Int) < (E.Q : Int) := by omega
          have hqle2 : E.Q ≤ 65536 := by have h1 := HE.out.Q_len; have h2 : E.Q ≤ E.Q * E.C := Nat.le_mul_of_pos_right _ (Nat.lt_of_lt_of_le (by decide) hn.1); have h3 := HE.out.h1; omega
          have hnx : IntKind.i64.wrap ((q : Int) + 1) = (q : Int) + 1 := by rw [i64_w]; unfold wrap64; omega
          have hat := HE.out.at_le hlt
          have hlo := HE.out.lo_le hlt
          have hxM := (HE.out.step_lt hlt).1
          obtain ⟨ad2, e2, y0_, y1_⟩ := at_T40 (Kd.R_reads' hS.out.ch).2.2 (q : Int) (by omega) (by rw [HE.out.chunks]; exact hlti)
          subst e2
          rw [HE.out.chunk_at hlt, Int.toNat_natCast] at y0_ y1_
          have hrow := HE.out.row hlt
          have hoddp := HE.out.odd_at hlt
          have hlo_ : E.lo q = q / E.W * E.C := rfl
          obtain ⟨x, hx⟩ : ∃ x, x = E.x q := ⟨_, rfl⟩
          obtain ⟨r, hr⟩ : ∃ r, r = q / E.W := ⟨_, rfl⟩
          obtain ⟨lo, hlo2⟩ : ∃ x, x = E.lo q := ⟨_, rfl⟩
          obtain ⟨p, hp⟩ : ∃ x, x = E.p q := ⟨_, rfl⟩
          obtain ⟨off, hoff⟩ : ∃ x, x = q * E.C := ⟨_, rfl⟩
          simp only at y0_ y1_
          rw [← hx] at y0_ hxM
          rw [← hr] at y1_ hrow hoddp hlo_
          have hoffl : off + E.C ≤ len := by rw [hoff, HL.out]; exact hat
          have hoff1 : (q : Int) * (E.C : Int) = (off : Int) := by rw [hoff, Int.natCast_mul]
          have hlor : wrap64 ((r : Int) * (E.C : Int)) = (lo : Int) := by
            rw [← Int.natCast_mul, show r * E.C = lo by rw [hlo2, hlo_]]
            rw [← hlo2, ← hnn.out] at hlo
            unfold wrap64; omega
          have hlon : lo + E.C ≤ n := by rw [hlo2, hnn.out]; exact hlo
          have hrR : r < E.R := hrow
          rw [← hp] at hoddp
          obtain ⟨adb, hAe, _⟩ := HR0.out.2.2 (by omega)
          subst hAe
          replace hx := Aside0.mk hx
          replace hr := Aside0.mk hr
          replace hlo2 := Aside0.mk hlo2
          replace hp := Aside0.mk hp
          replace hoff := Aside0.mk hoff
          replace hoddp := Aside0.mk hoddp
          replace hlor := Aside0.mk hlor
          have hoff2 := Aside0.mk hoff1
          clear hat hlo hlo_ hrow hoff1
          go_wp2
          have hX0 := Aside0.mk (blk_new wr (.cells #[.int .i64 (x : Int), .int .i64 (r : Int)] 40))
          have hS1 := Aside0.mk (hS.out.below (below_alloc (Below.refl wr.heap.size wr) (.cells #[.int .i64 (x : Int), .int .i64 (r : Int)] 40)))
          clear hS y0_ y1_
          generalize wr.alloc (.cells #[.int .i64 (x : Int), .int .i64 (r : Int)] 40) = w7 at hX0 hS1 ⊢
          generalize wr.heap.size = xb at hX0 ⊢
          go_loopw [57] (fun vi ws => ∃ (mm : Nat), mm ≤ E.M ∧ vi = .int .i64 (mm : Int) ∧ Aside0 (MS E w ws g cO V (fun j => if j < mm then memb E (q + 1) j else memb E q j) hs (.slice (some ad2) E.Q c2) (.slice A3 E.R c3)) ∧ Aside0 (ws.heap[xb]? = some (.cells #[.int .i64 (x : Int), .int .i64 (r : Int)] 40 (0, 0)))) (fun vi _ => E.M - (intOf vi).toNat)
          case atStart => exact ⟨0, Nat.zero_le _, rfl, ⟨hS1.out.congr (fun j hj => by rw [if_neg (by omega)])⟩, hX0⟩
          case round =>
            clear hS1 hX0
            obtain ⟨mm, hmle, rfl, hSm, hXm⟩ := hrel
            by_cases hmM : mm < E.M
            · have hmMi : (mm : Int) < (E.M : Int) := by omega
              have hnx2 : IntKind.i64.wrap ((mm : Int) + 1) = (mm : Int) + 1 := by rw [i64_w]; unfold wrap64; omega
              obtain ⟨gm, cm, ev, hcm2_, hLm, hvo⟩ := row_form (n := n) (hSm.out.mat.rows mm hmM) (by rw [if_neg (by omega), hnn.out]; exact HE.out.memb_len q (by omega) mm) (by omega)
              replace ev := Aside0.mk ev
              replace hvo := Aside0.mk hvo
              go_wp2
              obtain ⟨wp, hwp⟩ : ∃ wp : World, wp = wr := ⟨_, rfl⟩
              subst hwp
              go_loopw [61] (fun vi ws => ∃ (k : Nat), k ≤ E.C ∧ vi = .int .i64 (k : Int) ∧ Aside0 (MS E w ws g cO V (upd (fun j => if j < mm then memb E (q + 1) j else memb E q j) mm (rowK E q mm k)) hs (.slice (some ad2) E.Q c2) (.slice A3 E.R c3)) ∧ Aside0 (ws.heap[xb]? = some (.cells #[.int .i64 (x : Int), .int .i64 (r : Int)] 40 (0, 0)))) (fun vi _ => E.C - (intOf vi).toNat)
              case atStart => exact ⟨0, Nat.zero_le _, rfl, ⟨hSm.out.congr (fun j hj => by
                by_cases e : j = mm
                · rw [e, upd_same, rowK_zero, if_neg (by omega)]
                · rw [upd_ne _ _ e])⟩, hXm⟩
              case round =>
                clear hSm hXm
                obtain ⟨k, hkle, rfl, hSk, hXk⟩ := hrel
                by_cases hkC : k < E.C
                · have hkCi : (k : Int) < (E.C : Int) := by omega
                  have hnx3 : IntKind.i64.wrap ((k : Int) + 1) = (k : Int) + 1 := by rw [i64_w]; unfold wrap64; omega
                  obtain ⟨adc, ec, b0_⟩ := Kd.at_int (Kd.C_below HR0.out hSk.out.b) ((off + k : Nat) : Int) (by omega) (by omega)
                  obtain rfl : adb = adc := by injection ec
                  rw [Int.toNat_natCast, hoff.out, HE.out.part_at hlt hkC, ← hoff.out] at b0_
                  obtain ⟨vv, hvv⟩ : ∃ v, v = rd (E.part q) (k : Int) := ⟨_, rfl⟩
                  rw [← hvv] at b0_
                  replace hvv := Aside0.mk hvv
                  have hoff3 := hoff2.out
                  have hokl : (off : Int) + (k : Int) < (len : Int) := by omega
                  have hok0 : 0 ≤ (off : Int) + (k : Int) := by omega
                  have hoks : IntKind.i64.wrap ((off : Int) + (k : Int)) = (off : Int) + (k : Int) := by rw [i64_w]; unfold wrap64; omega
                  have hokn : ((off : Int) + (k : Int)).toNat = off + k := by omega
                  have x0_ : wr.cell? ⟨xb, 0, none⟩ = some (.int .i64 (x : Int)) := (blk_cell hXk.out 0).trans rfl
                  have x1_ : wr.cell? ⟨xb, 1, none⟩ = some (.int .i64 (r : Int)) := (blk_cell hXk.out 1).trans rfl
                  have q0 : wr.cell? ⟨w.heap.size, 0, none⟩ = some (.int .i64 E.k) := (blk_cell hSk.out.box 0).trans rfl
                  obtain ⟨ix, hix⟩ : ∃ ix, ix = lo + k := ⟨_, rfl⟩
                  have hixn : ix < n := by omega
                  have hixi : (ix : Int) < (n : Int) := by omega
                  have hsumw : wrap64 ((lo : Int) + (k : Int)) = (ix : Int) := by rw [hix]; unfold wrap64; omega
                  have hlorw := hlor.out
                  replace hix := Aside0.mk hix
                  by_cases hmx : mm = x
                  · have t1 : ((mm : Int) == (x : Int)) = true := by rw [hmx]; exact beq_iff_eq.mpr rfl
                    have t2 : (mm == x) = true := beq_iff_eq.mpr hmx
                    replace hmx := Aside0.mk hmx
                    go_wp2
                    have hSd := Aside0.mk hSk.out.drew
                    have hXd := Aside0.mk (blk_drew hXk.out)
                    have y0 : wr.drew.cell? ⟨g, mm, none⟩ = some (.slice (some ⟨gm, 0, none⟩) n cm) := (hSd.out.mat.cell hmM).trans (congrArg some ev.out)
                    have y1 : wr.drew.cell? ⟨xb, 1, none⟩ = some (.int .i64 (r : Int)) := (blk_cell hXd.out 1).trans rfl
                    have hRm := hSd.out.mat.rows mm hmM
                    rw [ev.out] at hRm
                    obtain ⟨z0, z1⟩ := Kd.R_celln (enc := Value.int .u8) (h1 := fun _ => rfl) (0 : Int) hRm (ix : Int) (Int.natCast_nonneg ix) hixi
                    rw [Int.toNat_natCast, upd_same] at z0
                    rw [Int.toNat_natCast] at z1
                    clear hRm hSk hXk x0_ x1_
                    try clear o0_
                    refine start_ (n := 13) (S := fun w' => w'.cell? ⟨g, mm, none⟩ = some (.slice (some ⟨gm, 0, none⟩) n cm) ∧ w'.cell? ⟨xb, 1, none⟩ = some (.int .i64 (r : Int))) (ds := [12]) #[false, false, false, false, false, false, false, false, false, false, false, false, false] (by kernel_rfl) rfl rfl ⟨y0, y1⟩ (fun hHeld => ?_)
                    generalize wr.drew = wD at y0 y1 z0 z1 hSd hXd hHeld ⊢
                    refine pure_ (i := 0) (N := some 80) (v := ?_) (a' := ?_) #[true, false, false, false, false, false, false, false, false, false, false, false, false] rfl rfl (by kernel_rfl) (fun _ _ _ h => h) (Or.inl ⟨by rfl, ?_⟩) ?_ ?_
                    rotate_left
                    · intro w'
                      go_simp
                      with_reducible rfl
                    rotate_left
                    · simp only [Act.put, List.setIfInBounds_toArray, List.set_cons_zero, List.set_cons_succ, i64_w, i32_w]
                      rfl
                    refine pure_ (i := 1) (N := some 81) (v := ?_) (a' := ?_) #[true, true, false, false, false, false, false, false, false, false, false, false, false] rfl rfl (by kernel_rfl) (fun _ _ _ h => h) (Or.inl ⟨by rfl, ?_⟩) ?_ ?_
                    rotate_left
                    · intro w'
                      go_simp
                      with_reducible rfl
                    rotate_left
                    · simp only [Act.put, List.setIfInBounds_toArray, List.set_cons_zero, List.set_cons_succ, i64_w, i32_w]
                      rfl
                    refine pure_ (i := 2) (N := some 82) (v := ?_) (a' := ?_) #[true, true, true, false, false, false, false, false, false, false, false, false, false] rfl rfl (by kernel_rfl) (fun _ _ _ h => h) (Or.inl ⟨by rfl, ?_⟩) ?_ ?_
                    rotate_left
                    · intro w'
                      go_simp
                      with_reducible rfl
                    rotate_left
                    · simp only [Act.put, List.setIfInBounds_toArray, List.set_cons_zero, List.set_cons_succ, i64_w, i32_w]
                      rfl
                    refine pure_ (i := 4) (N := some 84) (v := ?_) (a' := ?_) #[true, true, true, false, true, false, false, false, false, false, false, false, false] rfl rfl (by kernel_rfl) (fun _ _ _ h => h) (Or.inl ⟨by rfl, ?_⟩) ?_ ?_
                    rotate_left
                    · intro w'
                      go_simp
                      with_reducible rfl
                    rotate_left
                    · simp only [Act.put, List.setIfInBounds_toArray, List.set_cons_zero, List.set_cons_succ, i64_w, i32_w]
                      rfl
                    refine pure_ (i := 6) (N := some 86) (v := ?_) (a' := ?_) #[true, true, true, false, true, false, true, false, false, false, false, false, false] rfl rfl (by kernel_rfl) (fun _ _ _ h => h) (Or.inl ⟨by rfl, ?_⟩) ?_ ?_
                    rotate_left
                    · intro w'
                      go_simp
                      with_reducible rfl
                    rotate_left
                    · simp only [Act.put, List.setIfInBounds_toArray, List.set_cons_zero, List.set_cons_succ, i64_w, i32_w]
                      rfl
                    refine pure_ (i := 8) (N := some 88) (v := ?_) (a' := ?_) #[true, true, true, false, true, false, true, false, true, false, false, false, false] rfl rfl (by kernel_rfl) (fun _ _ _ h => h) (Or.inl ⟨by rfl, ?_⟩) ?_ ?_
                    rotate_left
                    · intro w'
                      go_simp
                      with_reducible rfl
                    rotate_left
                    · simp only [Act.put, List.setIfInBounds_toArray, List.set_cons_zero, List.set_cons_succ, i64_w, i32_w]
                      rfl
                    refine pure_ (i := 10) (N := some 90) (v := ?_) (a' := ?_) #[true, true, true, false, true, false, true, false, true, false, true, false, false] rfl rfl (by kernel_rfl) (fun _ _ _ h => h) (Or.inl ⟨by rfl, ?_⟩) ?_ ?_
                    rotate_left
                    · intro w'
                      go_simp
                      with_reducible rfl
                    rotate_left
                    · simp only [Act.put, List.setIfInBounds_toArray, List.set_cons_zero, List.set_cons_succ, i64_w, i32_w]
                      rfl
                    refine take_ (i := 3) (N := some 83) (v := ?_) (a' := ?_) #[true, true, true, true, true, false, true, false, true, false, true, false, false] rfl rfl (by kernel_rfl) (fun _ _ _ h => h) (Or.inl ⟨by rfl, ?_⟩) hHeld ?_ ?_
                    rotate_left
                    · rintro w' ⟨s0, s1⟩
                      go_simp
                      with_reducible rfl
                    rotate_left
                    · simp only [Act.put, List.setIfInBounds_toArray, List.set_cons_zero, List.set_cons_succ, i64_w, i32_w]
                      rfl
                    refine take_ (i := 5) (N := some 85) (v := ?_) (a' := ?_) #[true, true, true, true, true, true, true, false, true, false, true, false, false] rfl rfl (by kernel_rfl) (fun _ _ _ h => h) (Or.inl ⟨by rfl, ?_⟩) hHeld ?_ ?_
                    rotate_left
                    · rintro w' ⟨s0, s1⟩
                      go_simp
                      with_reducible rfl
                    rotate_left
                    · simp only [Act.put, List.setIfInBounds_toArray, List.set_cons_zero, List.set_cons_succ, i64_w, i32_w]
                      rfl
                    refine pure_ (i := 7) (N := some 87) (v := ?_) (a' := ?_) #[true, true, true, true, true, true, true, true, true, false, true, false, false] rfl rfl (by kernel_rfl) (fun _ _ _ h => h) (Or.inl ⟨by rfl, ?_⟩) ?_ ?_
                    rotate_left
                    · intro w'
                      go_simp
                      with_reducible rfl
                    rotate_left
                    · simp only [Act.put, List.setIfInBounds_toArray, List.set_cons_zero, List.set_cons_succ, i64_w, i32_w]
                      rfl
                    refine pure_ (i := 9) (N := some 89) (v := ?_) (a' := ?_) #[true, true, true, true, true, true, true, true, true, true, true, false, false] rfl rfl (by kernel_rfl) (fun _ _ _ h => h) (Or.inl ⟨by rfl, ?_⟩) ?_ ?_
                    rotate_left
                    · intro w'
                      go_simp
                      with_reducible rfl
                    rotate_left
                    · simp only [Act.put, List.setIfInBounds_toArray, List.set_cons_zero, List.set_cons_succ, i64_w, i32_w]
                      rfl
                    refine pure_ (i := 11) (N := some 91) (v := ?_) (a' := ?_) #[true, true, true, true, true, true, true, true, true, true, true, true, false] rfl rfl (by kernel_rfl) (fun _ _ _ h => h) (Or.inl ⟨by rfl, ?_⟩) ?_ ?_
                    rotate_left
                    · intro w'
                      go_simp
                      with_reducible rfl
                    rotate_left
                    · simp only [Act.put, List.setIfInBounds_toArray, List.set_cons_zero, List.set_cons_succ, i64_w, i32_w]
                      rfl
                    refine last_ (i := 12) (N := none) #[true, true, true, true, true, true, true, true, true, true, true, true, true] rfl rfl (by kernel_rfl) (by decide) (fun K hK => ?_)
                    refine skip_ (w1 := ?_) (by rfl) rfl ?_ ?_
                    rotate_left
                    · go_simp
                      rfl
                    refine hK.out _ _ ?_
                    clear hK K
                    refine done_ (by kernel_rfl) ?_
                    have hSn := hSd.out.set hmM ev.out ix (vv)
                    have hXn := Aside0.mk (blk_far hXd.out (p := ⟨gm, ix, none⟩) (fun he => hSd.out.mat.far hmM hvo.out hXd.out (by decide) he) (.int .u8 (vv)))
                    have hSn2 := Aside0.mk (hSn.congr (f' := upd (fun j => if j < mm then memb E (q + 1) j else memb E q j) mm (rowK E q mm (k + 1))) (fun j hj => by
                      by_cases e : j = mm
                      · rw [e, upd_same, upd_same, upd_same]; exact by rw [hvv.out, hix.out, hlo2.out]; exact rowK_put HE.out hlt (Or.inl (by rw [hmx.out, hx.out])) hkC
                      · rw [upd_ne _ _ e, upd_ne _ _ e, upd_ne _ _ e]))
                    clear hSn hSd hXd hHeld z0 z1 y0 y1
                    try clear y2
                    go_wp2
                    go_roundw
                    case rel => exact ⟨k + 1, by omega, by go_num, hSn2, hXn⟩
                    case measure => simp [intOf]; omega
                  · have t1 : ((mm : Int) == (x : Int)) = false := beq_eq_false_iff_ne.mpr (by omega)
                    have t2 : (mm == x) = false := beq_eq_false_iff_ne.mpr hmx
                    by_cases hk1 : E.k = 1
                    · have t3 : (E.k == 1) = true := beq_iff_eq.mpr hk1
                      have hmir := Aside0.mk (show E.mir = true by unfold SE.mir; rw [hk1]; rfl)
                      clear hk1 hmx
                      go_wp2
                      have hSd := Aside0.mk hSk.out.drew
                      have hXd := Aside0.mk (blk_drew hXk.out)
                      have y0 : wr.drew.cell? ⟨g, mm, none⟩ = some (.slice (some ⟨gm, 0, none⟩) n cm) := (hSd.out.mat.cell hmM).trans (congrArg some ev.out)
                      have y1 : wr.drew.cell? ⟨xb, 1, none⟩ = some (.int .i64 (r : Int)) := (blk_cell hXd.out 1).trans rfl
                      have hRm := hSd.out.mat.rows mm hmM
                      rw [ev.out] at hRm
                      obtain ⟨z0, z1⟩ := Kd.R_celln (enc := Value.int .u8) (h1 := fun _ => rfl) (0 : Int) hRm (ix : Int) (Int.natCast_nonneg ix) hixi
                      rw [Int.toNat_natCast, upd_same] at z0
                      rw [Int.toNat_natCast] at z1
                      clear hRm hSk hXk x0_ x1_
                      try clear o0_
                      refine start_ (n := 13) (S := fun w' => w'.cell? ⟨g, mm, none⟩ = some (.slice (some ⟨gm, 0, none⟩) n cm) ∧ w'.cell? ⟨xb, 1, none⟩ = some (.int .i64 (r : Int))) (ds := [12]) #[false, false, false, false, false, false, false, false, false, false, false, false, false] (by kernel_rfl) rfl rfl ⟨y0, y1⟩ (fun hHeld => ?_)
                      generalize wr.drew = wD at y0 y1 z0 z1 hSd hXd hHeld ⊢
                      refine pure_ (i := 0) (N := some 80) (v := ?_) (a' := ?_) #[true, false, false, false, false, false, false, false, false, false, false, false, false] rfl rfl (by kernel_rfl) (fun _ _ _ h => h) (Or.inl ⟨by rfl, ?_⟩) ?_ ?_
                      rotate_left
                      · intro w'
                        go_simp
                        with_reducible rfl
                      rotate_left
                      · simp only [Act.put, List.setIfInBounds_toArray, List.set_cons_zero, List.set_cons_succ, i64_w, i32_w]
                        rfl
                      refine pure_ (i := 1) (N := some 81) (v := ?_) (a' := ?_) #[true, true, false, false, false, false, false, false, false, false, false, false, false] rfl rfl (by kernel_rfl) (fun _ _ _ h => h) (Or.inl ⟨by rfl, ?_⟩) ?_ ?_
                      rotate_left
                      · intro w'
                        go_simp
                        with_reducible rfl
                      rotate_left
                      · simp only [Act.put, List.setIfInBounds_toArray, List.set_cons_zero, List.set_cons_succ, i64_w, i32_w]
                        rfl
                      refine pure_ (i := 2) (N := some 82) (v := ?_) (a' := ?_) #[true, true, true, false, false, false, false, false, false, false, false, false, false] rfl rfl (by kernel_rfl) (fun _ _ _ h => h) (Or.inl ⟨by rfl, ?_⟩) ?_ ?_
                      rotate_left
                      · intro w'
                        go_simp
                        with_reducible rfl
                      rotate_left
                      · simp only [Act.put, List.setIfInBounds_toArray, List.set_cons_zero, List.set_cons_succ, i64_w, i32_w]
                        rfl
                      refine pure_ (i := 4) (N := some 84) (v := ?_) (a' := ?_) #[true, true, true, false, true, false, false, false, false, false, false, false, false] rfl rfl (by kernel_rfl) (fun _ _ _ h => h) (Or.inl ⟨by rfl, ?_⟩) ?_ ?_
                      rotate_left
                      · intro w'
                        go_simp
                        with_reducible rfl
                      rotate_left
                      · simp only [Act.put, List.setIfInBounds_toArray, List.set_cons_zero, List.set_cons_succ, i64_w, i32_w]
                        rfl
                      refine pure_ (i := 6) (N := some 86) (v := ?_) (a' := ?_) #[true, true, true, false, true, false, true, false, false, false, false, false, false] rfl rfl (by kernel_rfl) (fun _ _ _ h => h) (Or.inl ⟨by rfl, ?_⟩) ?_ ?_
                      rotate_left
                      · intro w'
                        go_simp
                        with_reducible rfl
                      rotate_left
                      · simp only [Act.put, List.setIfInBounds_toArray, List.set_cons_zero, List.set_cons_succ, i64_w, i32_w]
                        rfl
                      refine pure_ (i := 8) (N := some 88) (v := ?_) (a' := ?_) #[true, true, true, false, true, false, true, false, true, false, false, false, false] rfl rfl (by kernel_rfl) (fun _ _ _ h => h) (Or.inl ⟨by rfl, ?_⟩) ?_ ?_
                      rotate_left
                      · intro w'
                        go_simp
                        with_reducible rfl
                      rotate_left
                      · simp only [Act.put, List.setIfInBounds_toArray, List.set_cons_zero, List.set_cons_succ, i64_w, i32_w]
                        rfl
                      refine pure_ (i := 10) (N := some 90) (v := ?_) (a' := ?_) #[true, true, true, false, true, false, true, false, true, false, true, false, false] rfl rfl (by kernel_rfl) (fun _ _ _ h => h) (Or.inl ⟨by rfl, ?_⟩) ?_ ?_
                      rotate_left
                      · intro w'
                        go_simp
                        with_reducible rfl
                      rotate_left
                      · simp only [Act.put, List.setIfInBounds_toArray, List.set_cons_zero, List.set_cons_succ, i64_w, i32_w]
                        rfl
                      refine take_ (i := 3) (N := some 83) (v := ?_) (a' := ?_) #[true, true, true, true, true, false, true, false, true, false, true, false, false] rfl rfl (by kernel_rfl) (fun _ _ _ h => h) (Or.inl ⟨by rfl, ?_⟩) hHeld ?_ ?_
                      rotate_left
                      · rintro w' ⟨s0, s1⟩
                        go_simp
                        with_reducible rfl
                      rotate_left
                      · simp only [Act.put, List.setIfInBounds_toArray, List.set_cons_zero, List.set_cons_succ, i64_w, i32_w]
                        rfl
                      refine take_ (i := 5) (N := some 85) (v := ?_) (a' := ?_) #[true, true, true, true, true, true, true, false, true, false, true, false, false] rfl rfl (by kernel_rfl) (fun _ _ _ h => h) (Or.inl ⟨by rfl, ?_⟩) hHeld ?_ ?_
                      rotate_left
                      · rintro w' ⟨s0, s1⟩
                        go_simp
                        with_reducible rfl
                      rotate_left
                      · simp only [Act.put, List.setIfInBounds_toArray, List.set_cons_zero, List.set_cons_succ, i64_w, i32_w]
                        rfl
                      refine pure_ (i := 7) (N := some 87) (v := ?_) (a' := ?_) #[true, true, true, true, true, true, true, true, true, false, true, false, false] rfl rfl (by kernel_rfl) (fun _ _ _ h => h) (Or.inl ⟨by rfl, ?_⟩) ?_ ?_
                      rotate_left
                      · intro w'
                        go_simp
                        with_reducible rfl
                      rotate_left
                      · simp only [Act.put, List.setIfInBounds_toArray, List.set_cons_zero, List.set_cons_succ, i64_w, i32_w]
                        rfl
                      refine pure_ (i := 9) (N := some 89) (v := ?_) (a' := ?_) #[true, true, true, true, true, true, true, true, true, true, true, false, false] rfl rfl (by kernel_rfl) (fun _ _ _ h => h) (Or.inl ⟨by rfl, ?_⟩) ?_ ?_
                      rotate_left
                      · intro w'
                        go_simp
                        with_reducible rfl
                      rotate_left
                      · simp only [Act.put, List.setIfInBounds_toArray, List.set_cons_zero, List.set_cons_succ, i64_w, i32_w]
                        rfl
                      refine pure_ (i := 11) (N := some 91) (v := ?_) (a' := ?_) #[true, true, true, true, true, true, true, true, true, true, true, true, false] rfl rfl (by kernel_rfl) (fun _ _ _ h => h) (Or.inl ⟨by rfl, ?_⟩) ?_ ?_
                      rotate_left
                      · intro w'
                        go_simp
                        with_reducible rfl
                      rotate_left
                      · simp only [Act.put, List.setIfInBounds_toArray, List.set_cons_zero, List.set_cons_succ, i64_w, i32_w]
                        rfl
                      refine last_ (i := 12) (N := none) #[true, true, true, true, true, true, true, true, true, true, true, true, true] rfl rfl (by kernel_rfl) (by decide) (fun K hK => ?_)
                      refine skip_ (w1 := ?_) (by rfl) rfl ?_ ?_
                      rotate_left
                      · go_simp
                        rfl
                      refine hK.out _ _ ?_
                      clear hK K
                      refine done_ (by kernel_rfl) ?_
                      have hSn := hSd.out.set hmM ev.out ix (vv)
                      have hXn := Aside0.mk (blk_far hXd.out (p := ⟨gm, ix, none⟩) (fun he => hSd.out.mat.far hmM hvo.out hXd.out (by decide) he) (.int .u8 (vv)))
                      have hSn2 := Aside0.mk (hSn.congr (f' := upd (fun j => if j < mm then memb E (q + 1) j else memb E q j) mm (rowK E q mm (k + 1))) (fun j hj => by
                        by_cases e : j = mm
                        · rw [e, upd_same, upd_same, upd_same]; exact by rw [hvv.out, hix.out, hlo2.out]; exact rowK_put HE.out hlt (Or.inr hmir.out) hkC
                        · rw [upd_ne _ _ e, upd_ne _ _ e, upd_ne _ _ e]))
                      clear hSn hSd hXd hHeld z0 z1 y0 y1
                      try clear y2
                      go_wp2
                      go_roundw
                      case rel => exact ⟨k + 1, by omega, by go_num, hSn2, hXn⟩
                      case measure => simp [intOf]; omega
                    · have t3 : (E.k == 1) = false := beq_eq_false_iff_ne.mpr hk1
                      have hmir := Aside0.mk (show ¬ (mm = E.x q ∨ E.mir = true) by rw [← hx.out]; intro h; rcases h with h | h; · exact hmx h
                                                                                    · unfold SE.mir at h; exact hk1 (of_decide_eq_true h))
                      clear hk1 hmx
                      obtain ⟨ad3, e3, o0_⟩ := Kd.at_int (Kd.R_reads' hSk.out.od).2.2 (r : Int) (by omega) (by rw [odd_len]; omega)
                      subst e3
                      rw [Int.toNat_natCast, hoddp.out] at o0_
                      have hrRi : (r : Int) < (E.R : Int) := by omega
                      by_cases hmp : (mm : Int) = p
                      · have t4 : ((mm : Int) == p) = true := beq_iff_eq.mpr hmp
                        replace hmp := Aside0.mk hmp
                        go_wp2
                        have hSd := Aside0.mk hSk.out.drew
                        have hXd := Aside0.mk (blk_drew hXk.out)
                        have y0 : wr.drew.cell? ⟨g, mm, none⟩ = some (.slice (some ⟨gm, 0, none⟩) n cm) := (hSd.out.mat.cell hmM).trans (congrArg some ev.out)
                        have y1 : wr.drew.cell? ⟨xb, 1, none⟩ = some (.int .i64 (r : Int)) := (blk_cell hXd.out 1).trans rfl
                        have hRm := hSd.out.mat.rows mm hmM
                        rw [ev.out] at hRm
                        obtain ⟨z0, z1⟩ := Kd.R_celln (enc := Value.int .u8) (h1 := fun _ => rfl) (0 : Int) hRm (ix : Int) (Int.natCast_nonneg ix) hixi
                        rw [Int.toNat_natCast, upd_same] at z0
                        rw [Int.toNat_natCast] at z1
                        replace z0 : wr.drew.cell? ⟨gm, ix, none⟩ = some (.int .u8 (rd (rowK E q mm k) (ix : Int))) := z0
                        obtain ⟨aa, haa⟩ : ∃ a, a = rd (rowK E q mm k) (ix : Int) := ⟨_, rfl⟩
                        rw [← haa] at z0
                        replace haa := Aside0.mk haa
                        have y2 := z0
                        clear hRm hSk hXk x0_ x1_
                        try clear o0_
                        refine start_ (n := 16) (S := fun w' => w'.cell? ⟨g, mm, none⟩ = some (.slice (some ⟨gm, 0, none⟩) n cm) ∧ w'.cell? ⟨xb, 1, none⟩ = some (.int .i64 (r : Int)) ∧ w'.cell? ⟨gm, ix, none⟩ = some (.int .u8 aa)) (ds := [15]) #[false, false, false, false, false, false, false, false, false, false, false, false, false, false, false, false] (by kernel_rfl) rfl rfl ⟨y0, y1, y2⟩ (fun hHeld => ?_)
                        generalize wr.drew = wD at y0 y1 y2 z0 z1 hSd hXd hHeld ⊢
                        refine pure_ (i := 0) (N := some 100) (v := ?_) (a' := ?_) #[true, false, false, false, false, false, false, false, false, false, false, false, false, false, false, false] rfl rfl (by kernel_rfl) (fun _ _ _ h => h) (Or.inl ⟨by rfl, ?_⟩) ?_ ?_
                        rotate_left
                        · intro w'
                          go_simp
                          with_reducible rfl
                        rotate_left
                        · simp only [Act.put, List.setIfInBounds_toArray, List.set_cons_zero, List.set_cons_succ, i64_w, i32_w]
                          rfl
                        refine pure_ (i := 1) (N := some 101) (v := ?_) (a' := ?_) #[true, true, false, false, false, false, false, false, false, false, false, false, false, false, false, false] rfl rfl (by kernel_rfl) (fun _ _ _ h => h) (Or.inl ⟨by rfl, ?_⟩) ?_ ?_
                        rotate_left
                        · intro w'
                          go_simp
                          with_reducible rfl
                        rotate_left
                        · simp only [Act.put, List.setIfInBounds_toArray, List.set_cons_zero, List.set_cons_succ, i64_w, i32_w]
                          rfl
                        refine pure_ (i := 2) (N := some 102) (v := ?_) (a' := ?_) #[true, true, true, false, false, false, false, false, false, false, false, false, false, false, false, false] rfl rfl (by kernel_rfl) (fun _ _ _ h => h) (Or.inl ⟨by rfl, ?_⟩) ?_ ?_
                        rotate_left
                        · intro w'
                          go_simp
                          with_reducible rfl
                        rotate_left
                        · simp only [Act.put, List.setIfInBounds_toArray, List.set_cons_zero, List.set_cons_succ, i64_w, i32_w]
                          rfl
                        refine pure_ (i := 4) (N := some 104) (v := ?_) (a' := ?_) #[true, true, true, false, true, false, false, false, false, false, false, false, false, false, false, false] rfl rfl (by kernel_rfl) (fun _ _ _ h => h) (Or.inl ⟨by rfl, ?_⟩) ?_ ?_
                        rotate_left
                        · intro w'
                          go_simp
                          with_reducible rfl
                        rotate_left
                        · simp only [Act.put, List.setIfInBounds_toArray, List.set_cons_zero, List.set_cons_succ, i64_w, i32_w]
                          rfl
                        refine pure_ (i := 6) (N := some 106) (v := ?_) (a' := ?_) #[true, true, true, false, true, false, true, false, false, false, false, false, false, false, false, false] rfl rfl (by kernel_rfl) (fun _ _ _ h => h) (Or.inl ⟨by rfl, ?_⟩) ?_ ?_
                        rotate_left
                        · intro w'
                          go_simp
                          with_reducible rfl
                        rotate_left
                        · simp only [Act.put, List.setIfInBounds_toArray, List.set_cons_zero, List.set_cons_succ, i64_w, i32_w]
                          rfl
                        refine pure_ (i := 8) (N := some 108) (v := ?_) (a' := ?_) #[true, true, true, false, true, false, true, false, true, false, false, false, false, false, false, false] rfl rfl (by kernel_rfl) (fun _ _ _ h => h) (Or.inl ⟨by rfl, ?_⟩) ?_ ?_
                        rotate_left
                        · intro w'
                          go_simp
                          with_reducible rfl
                        rotate_left
                        · simp only [Act.put, List.setIfInBounds_toArray, List.set_cons_zero, List.set_cons_succ, i64_w, i32_w]
                          rfl
                        refine pure_ (i := 12) (N := some 112) (v := ?_) (a' := ?_) #[true, true, true, false, true, false, true, false, true, false, false, false, true, false, false, false] rfl rfl (by kernel_rfl) (fun _ _ _ h => h) (Or.inl ⟨by rfl, ?_⟩) ?_ ?_
                        rotate_left
                        · intro w'
                          go_simp
                          with_reducible rfl
                        rotate_left
                        · simp only [Act.put, List.setIfInBounds_toArray, List.set_cons_zero, List.set_cons_succ, i64_w, i32_w]
                          rfl
                        refine take_ (i := 3) (N := some 103) (v := ?_) (a' := ?_) #[true, true, true, true, true, false, true, false, true, false, false, false, true, false, false, false] rfl rfl (by kernel_rfl) (fun _ _ _ h => h) (Or.inl ⟨by rfl, ?_⟩) hHeld ?_ ?_
                        rotate_left
                        · rintro w' ⟨s0, s1, s2⟩
                          go_simp
                          with_reducible rfl
                        rotate_left
                        · simp only [Act.put, List.setIfInBounds_toArray, List.set_cons_zero, List.set_cons_succ, i64_w, i32_w]
                          rfl
                        refine take_ (i := 5) (N := some 105) (v := ?_) (a' := ?_) #[true, true, true, true, true, true, true, false, true, false, false, false, true, false, false, false] rfl rfl (by kernel_rfl) (fun _ _ _ h => h) (Or.inl ⟨by rfl, ?_⟩) hHeld ?_ ?_
                        rotate_left
                        · rintro w' ⟨s0, s1, s2⟩
                          go_simp
                          with_reducible rfl
                        rotate_left
                        · simp only [Act.put, List.setIfInBounds_toArray, List.set_cons_zero, List.set_cons_succ, i64_w, i32_w]
                          rfl
                        refine pure_ (i := 7) (N := some 107) (v := ?_) (a' := ?_) #[true, true, true, true, true, true, true, true, true, false, false, false, true, false, false, false] rfl rfl (by kernel_rfl) (fun _ _ _ h => h) (Or.inl ⟨by rfl, ?_⟩) ?_ ?_
                        rotate_left
                        · intro w'
                          go_simp
                          with_reducible rfl
                        rotate_left
                        · simp only [Act.put, List.setIfInBounds_toArray, List.set_cons_zero, List.set_cons_succ, i64_w, i32_w]
                          rfl
                        refine pure_ (i := 9) (N := some 109) (v := ?_) (a' := ?_) #[true, true, true, true, true, true, true, true, true, true, false, false, true, false, false, false] rfl rfl (by kernel_rfl) (fun _ _ _ h => h) (Or.inl ⟨by rfl, ?_⟩) ?_ ?_
                        rotate_left
                        · intro w'
                          go_simp
                          with_reducible rfl
                        rotate_left
                        · simp only [Act.put, List.setIfInBounds_toArray, List.set_cons_zero, List.set_cons_succ, i64_w, i32_w]
                          rfl
                        refine pure_ (i := 10) (N := some 110) (v := ?_) (a' := ?_) #[true, true, true, true, true, true, true, true, true, true, true, false, true, false, false, false] rfl rfl (by kernel_rfl) (fun _ _ _ h => h) (Or.inl ⟨by rfl, ?_⟩) ?_ ?_
                        rotate_left
                        · intro w'
                          go_simp
                          with_reducible rfl
                        rotate_left
                        · simp only [Act.put, List.setIfInBounds_toArray, List.set_cons_zero, List.set_cons_succ, i64_w, i32_w]
                          rfl
                        refine take_ (i := 11) (N := some 111) (v := ?_) (a' := ?_) #[true, true, true, true, true, true, true, true, true, true, true, true, true, false, false, false] rfl rfl (by kernel_rfl) (fun _ _ _ h => h) (Or.inl ⟨by rfl, ?_⟩) hHeld ?_ ?_
                        rotate_left
                        · rintro w' ⟨s0, s1, s2⟩
                          go_simp
                          with_reducible rfl
                        rotate_left
                        · simp only [Act.put, List.setIfInBounds_toArray, List.set_cons_zero, List.set_cons_succ, i64_w, i32_w]
                          rfl
                        refine pure_ (i := 13) (N := some 113) (v := ?_) (a' := ?_) #[true, true, true, true, true, true, true, true, true, true, true, true, true, true, false, false] rfl rfl (by kernel_rfl) (fun _ _ _ h => h) (Or.inl ⟨by rfl, ?_⟩) ?_ ?_
                        rotate_left
                        · intro w'
                          go_simp
                          with_reducible rfl
                        rotate_left
                        · simp only [Act.put, List.setIfInBounds_toArray, List.set_cons_zero, List.set_cons_succ, i64_w, i32_w]
                          rfl
                        refine pure_ (i := 14) (N := some 114) (v := ?_) (a' := ?_) #[true, true, true, true, true, true, true, true, true, true, true, true, true, true, true, false] rfl rfl (by kernel_rfl) (fun _ _ _ h => h) (Or.inl ⟨by rfl, ?_⟩) ?_ ?_
                        rotate_left
                        · intro w'
                          go_simp
                          with_reducible rfl
                        rotate_left
                        · simp only [Act.put, List.setIfInBounds_toArray, List.set_cons_zero, List.set_cons_succ, i64_w, i32_w]
                          rfl
                        refine last_ (i := 15) (N := none) #[true, true, true, true, true, true, true, true, true, true, true, true, true, true, true, true] rfl rfl (by kernel_rfl) (by decide) (fun K hK => ?_)
                        refine skip_ (w1 := ?_) (by rfl) rfl ?_ ?_
                        rotate_left
                        · go_simp
                          rfl
                        refine hK.out _ _ ?_
                        clear hK K
                        refine done_ (by kernel_rfl) ?_
                        have hSn := hSd.out.set hmM ev.out ix (Go.bits .xor .u8 aa vv)
                        have hXn := Aside0.mk (blk_far hXd.out (p := ⟨gm, ix, none⟩) (fun he => hSd.out.mat.far hmM hvo.out hXd.out (by decide) he) (.int .u8 (Go.bits .xor .u8 aa vv)))
                        have hSn2 := Aside0.mk (hSn.congr (f' := upd (fun j => if j < mm then memb E (q + 1) j else memb E q j) mm (rowK E q mm (k + 1))) (fun j hj => by
                          by_cases e : j = mm
                          · rw [e, upd_same, upd_same, upd_same]; exact by rw [haa.out, hvv.out, hix.out, hlo2.out]; exact rowK_xor HE.out hlt hmir.out (by rw [hmp.out, hp.out]) hkC
                          · rw [upd_ne _ _ e, upd_ne _ _ e, upd_ne _ _ e]))
                        clear hSn hSd hXd hHeld z0 z1 y0 y1
                        try clear y2
                        go_wp2
                        go_roundw
                        case rel => exact ⟨k + 1, by omega, by go_num, hSn2, hXn⟩
                        case measure => simp [intOf]; omega
                      · have t4 : ((mm : Int) == p) = false := beq_eq_false_iff_ne.mpr hmp
                        replace hmp := Aside0.mk hmp
                        go_wp2
                        go_roundw
                        case rel => exact ⟨k + 1, by omega, by go_num, ⟨hSk.out.congr (fun j hj => by
                          by_cases e : j = mm
                          · rw [e, upd_same, upd_same]; exact rowK_none hmir.out (by rw [← hp.out]; exact hmp.out)
                          · rw [upd_ne _ _ e, upd_ne _ _ e])⟩, hXk⟩
                        case measure => simp [intOf]; omega
                · obtain rfl : k = E.C := by omega
                  clear hkC hkle
                  go_wp2
                  go_roundw
                  case rel => exact ⟨mm + 1, by omega, by go_num, ⟨hSk.out.congr (fun j hj => by
                    by_cases e : j = mm
                    · rw [e, upd_same, rowK_full HE.out hlt, if_pos (by omega)]
                    · rw [upd_ne _ _ e]
                      by_cases e2 : j < mm
                      · rw [if_pos e2, if_pos (by omega)]
                      · rw [if_neg e2, if_neg (by omega)])⟩, hXk⟩
                  case measure => simp [intOf]; omega
            · obtain rfl : mm = E.M := by omega
              clear hmM hmle
              go_wp2
              go_roundw
              case rel => exact ⟨q + 1, by omega, by go_num, ⟨hSm.out.congr (fun j hj => by rw [if_pos hj])⟩⟩
              case measure => simp [intOf]; omega
        · obtain rfl : q = E.Q := by omega
          clear hlt hqle
          go_wp2
          go_ret
          exact ⟨g, cO, rfl, hcO, hS.out.mat.reads (by omega), hS.out.b⟩
end Go.Proofs.Ytdgkbpoljcndgaa.Pure
