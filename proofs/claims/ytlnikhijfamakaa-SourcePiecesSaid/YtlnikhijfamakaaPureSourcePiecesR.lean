/- Pieces of sources: their roads. No condition. -/
import Derived.Test.YtlnikhijfamakaaPureSourcePiecesQ
namespace Go.Proofs.Ytlnikhijfamakaa.Pure
open Go Go.RowKit Go.Maps Go.Proofs.Ytlnikhijfamakaa.QSourceImages Go.Proofs.YtlnikhijfamakaaW.PrintWords Go.Proofs.YtlnikhijfamakaaW.PrintLast Go.Proofs.YtlnikhijfamakaaW.PrintMore
set_option linter.unusedVariables false
set_option linter.unusedSimpArgs false

theorem part_sub (all : List Int) (off n : Int) : ∀ b ∈ partP all off n, b ∈ all := by
  intro b hb
  unfold partP at hb
  split at hb
  · exact List.mem_of_mem_drop (List.mem_of_mem_take hb)
  · exact absurd hb (by simp)
theorem part_len (all : List Int) (off n : Int) : (partP all off n).length ≤ all.length := by
  unfold partP
  split
  · rw [List.length_take, List.length_drop]; omega
  · simp
theorem take_span (l : List S41) (i : Nat) (h : i < l.length) : l.take (i + 1) = l.take i ++ [rd_T41 l (i : Int)] := by
  rw [List.take_add_one]
  simp [rd_T41, List.getD_eq_getElem?_getD, h]
theorem fm_take {β : Type} (f : S41 → List β) (l : List S41) (i : Nat) (h : i < l.length) : (l.take (i + 1)).flatMap f = (l.take i).flatMap f ++ f (rd_T41 l (i : Int)) := by
  rw [take_span l i h, List.flatMap_append]
  simp
/-- where the road's loop stands -/
def PRoad (W wr : World) (G : List S41) (fr : List Int) (vi v : Value) : Prop := ∃ i : Nat, i ≤ G.length ∧ vi = .int .i64 (i : Int) ∧ Aside0 (k41.R 41 wr W.heap.size (fun _ => True) v ((G.take i).flatMap fun x => roadRow fr x.f0 x.f1)) ∧ Aside0 (Below W.heap.size W wr)
theorem road_short (fr : List Int) (o k : Int) : (roadRow fr o k).length ≤ k.toNat := by
  unfold roadRow
  split
  · have := glued_short ((fr.drop o.toNat).take k.toNat) []
    rw [List.length_take] at this
    simp only [List.length_nil] at this
    omega
  · simp
theorem roads_short (fr : List Int) : ∀ G : List S41, (G.flatMap fun x => roadRow fr x.f0 x.f1).length ≤ (G.flatMap bytesS).length
  | [] => Nat.le_refl _
  | x :: G => by
    have h1 := roads_short fr G
    have h2 := road_short fr x.f0 x.f1
    rw [List.flatMap_cons, List.flatMap_cons, List.length_append, List.length_append, bytes_len]
    omega
theorem flat_take (G : List S41) (i : Nat) : ((G.take i).flatMap bytesS).length ≤ (G.flatMap bytesS).length := by
  conv => rhs; rw [← List.take_append_drop i G]
  rw [List.flatMap_append, List.length_append]
  omega
set_option maxHeartbeats 8000000 in
set_option maxRecDepth 100000 in
theorem pcs_road (w : World) (g T : Nat) (x : Value) (A : Option Addr) (c : Nat) (l : List S41) (n : Nat) (h : IsPcs w g T x A c l n) (fR fO fS fP : Nat) (b fr : List Int) (bad : List Bool) (hs : SrcIs w T x fR fO fS fP b fr bad)
    (hn : n ≤ 65536) (hll : l.length ≤ 4096) (hln : (laid l).length = n) (hwl : ∀ q ∈ laid l, 0 ≤ q ∧ q < (fr.length : Int)) (hfl : fr.length ≤ 65536) (hfr : ∀ y ∈ fr, 0 ≤ y ∧ y < 65536) (off k : Int) :
    Calls Try.prog 105 #[.pointer (some ⟨g, 0, none⟩), .int .i64 off, .int .i64 k] w fun e w' => ∃ v0, e = .returned v0 ∧ k41.R 41 w' w.heap.size (fun _ => True) v0 (roadRow (pickI fr (laid l)) off k) ∧ Below w.heap.size w w' := by
  have c2 : w.cell? ⟨g, 2, none⟩ = some (.int .i64 (n : Int)) := (blk_cell h.blk 2).trans rfl
  have hwi := within_val n hn off k
  have HB := Aside0.mk (Below.refl w.heap.size w)
  have HI := Aside0.mk h
  have hpl : (pickI fr (laid l)).length = n := by rw [pickI_len, hln]
  by_cases hR : inR n off k
  · rw [decide_eq_true hR] at hwi
    have hR2 := hR
    unfold inR at hR2
    have hrr : roadRow (pickI fr (laid l)) off k = gluedP [] (pickI fr (partP (laid l) off k)) := by
      unfold roadRow partP
      rw [hpl, if_pos hR, if_pos hR2.1, pickI_cut]
    rw [hrr]
    have hsl := slice_ev l (by omega) off k (by omega) (by omega)
    have hQ : ∀ q ∈ partP (laid l) off k, 0 ≤ q ∧ q < (fr.length : Int) := fun q hq => hwl q (part_sub _ _ _ q hq)
    have hQl := part_len (laid l) off k
    rw [hln] at hQl
    have hGw := glued_within (partP (laid l) off k) fr.length hfl hQ
    have hGl := (laid_glued0 (partP (laid l) off k) (fun q hq => by have := hQ q hq; omega)).2
    have hGs := glued_short (partP (laid l) off k) []
    obtain ⟨G, hG⟩ : ∃ G, G = gluedP [] (partP (laid l) off k) := ⟨_, rfl⟩
    rw [← hG] at hsl hGw hGl hGs
    rw [laid_oks G (fun y hy => (hGw y hy).1)] at hGl
    have hrf := roads_flat fr G (fun y hy => (hGw y hy).2) hfr
    rw [hGl] at hrf
    have hrs : ∀ i, ((G.take i).flatMap fun y => roadRow fr y.f0 y.f1).length ≤ 65536 := fun i => by
      have h1 := roads_short fr (G.take i)
      have h2 := flat_take G i
      rw [hGl] at h2
      omega
    have hgl := glue_ev (G.flatMap fun y => roadRow fr y.f0 y.f1) (by have := hrs G.length; rw [List.take_length] at this; omega)
    rw [hrf] at hgl
    obtain ⟨ks, hks⟩ := hsl.rounds
    obtain ⟨kg, hkg⟩ := hgl.rounds
    obtain ⟨road, hroad⟩ : ∃ r, r = gluedP [] (pickI fr (partP (laid l) off k)) := ⟨_, rfl⟩
    rw [← hroad] at hkg ⊢
    have hGn : G.length ≤ 65536 := by simp only [List.length_nil] at hGs; omega
    have HWI := Aside0.mk hwi
    have HKS := Aside0.mk hks
    have HKG := Aside0.mk hkg
    have HRS := Aside0.mk hrs
    have HS := Aside0.mk hs
    have c1 : w.cell? ⟨g, 1, none⟩ = some (.slice A l.length c) := (blk_cell h.blk 1).trans rfl
    have HIW := Aside0.mk h
    clear h hwi hR hR2 hrr hsl hQ hQl hGw hGl hGs hrf hrs hgl hks hkg hroad hpl hln hwl hfl hfr hs hll hn hG
    go_enter Try.func105, Try.ntmps105
    go_wp2_with (first
      | (go_at_call 33; refine (source_within.calls off k (n : Int) true _ HWI.out).mono ?_; rintro e w1 ⟨rfl, hd⟩; have HB1 := Aside0.mk (below_step HB.out hd.below); have HI1 := Aside0.mk (HI.out.below hd.below); clear c1 c2; have c1 : w1.cell? ⟨g, 1, none⟩ = some (.slice A l.length c) := (blk_cell HI1.out.blk 1).trans rfl; clear hd HB)
      | (go_at_call 107; refine (span_Slice.calls ks A c l off k G _ HI1.out.rl HI1.out.cl HKS.out).mono ?_; rintro e w2 ⟨v0, rfl, hv0, hb2⟩; obtain ⟨AG, cG, eG⟩ := Kd.R_slice hv0; subst eG; have HB2 := Aside0.mk (below_step HB1.out hb2); have HV2 := Aside0.mk (Kd.R_reads' hv0); clear hv0 hb2 c1 HB1 HI1))
    have HG2 := Aside0.mk HV2.out.2.2
    have HI2 := Aside0.mk (HIW.out.below HB2.out)
    have HS2 := Aside0.mk (HS.out.below HB2.out)
    clear HV2 HIW HS
    go_loopw [26, 7] (fun vi v wr => PRoad w2 wr G fr vi v) (fun vi _ _ => G.length - (intOf vi).toNat)
    case atStart => exact ⟨0, Nat.zero_le _, rfl, ⟨by rw [List.take_zero]; exact Kd.R_nil _ _ _ _ _⟩, ⟨Below.refl _ _⟩⟩
    case round =>
      obtain ⟨i, hi, rfl, HO, HBr⟩ := hrel
      by_cases hlt : i < G.length
      · have hlti : (i : Int) < (G.length : Int) := by omega
        have hnx : IntKind.i64.wrap ((i : Int) + 1) = (i : Int) + 1 := by rw [i64_w]; unfold wrap64; omega
        obtain ⟨ad, rfl, e0, e1⟩ := at_T41 (Kd.C_below HG2.out HBr.out) (i : Int) (by omega) hlti
        rw [Int.toNat_natCast] at e0 e1
        obtain ⟨y, hy⟩ : ∃ y, y = rd_T41 G (i : Int) := ⟨_, rfl⟩
        rw [← hy] at e0 e1
        have hX0 := Aside0.mk (blk_new wr (.cells #[.int .i64 y.f0, .int .i64 y.f1] 41))
        have HB1 := Aside0.mk (below_alloc HBr.out (.cells #[.int .i64 y.f0, .int .i64 y.f1] 41))
        have HT := Aside0.mk (fm_take (fun q => roadRow fr q.f0 q.f1) G i hlt)
        rw [← hy] at HT
        have hroom := HRS.out (i + 1)
        rw [HT.out, List.length_append] at hroom
        obtain ⟨AO, cO, eO⟩ := Kd.R_slice HO.out
        obtain ⟨O, hO⟩ : ∃ O, O = (G.take i).flatMap fun q => roadRow fr q.f0 q.f1 := ⟨_, rfl⟩
        rw [← hO] at HO HT eO hroom
        subst eO
        have HOl := Aside0.mk (Kd.R_below HO.out (below_alloc (Below.refl wr.heap.size wr) (.cells #[.int .i64 y.f0, .int .i64 y.f1] 41)))
        have HI1 := Aside0.mk (HI2.out.below HB1.out)
        have HRM := Aside0.mk hroom
        replace hy := Aside0.mk hy
        replace hO := Aside0.mk hO
        clear HO HBr hroom
        go_wp2
        have y0_ : (wr.alloc (.cells #[.int .i64 y.f0, .int .i64 y.f1] 41)).drew.cell? ⟨g, 0, none⟩ = some (.iface T x) := (blk_cell (blk_drew HI1.out.blk) 0).trans rfl
        have y1_ : (wr.alloc (.cells #[.int .i64 y.f0, .int .i64 y.f1] 41)).drew.cell? ⟨wr.heap.size, 0, none⟩ = some (.int .i64 y.f0) := (blk_cell (blk_drew hX0.out) 0).trans rfl
        have y2_ : (wr.alloc (.cells #[.int .i64 y.f0, .int .i64 y.f1] 41)).drew.cell? ⟨wr.heap.size, 1, none⟩ = some (.int .i64 y.f1) := (blk_cell (blk_drew hX0.out) 1).trans rfl
        have HBD := Aside0.mk (below_drew HB1.out)
        have HOD := Aside0.mk (Kd.R_below HOl.out (below_drew (Below.refl (wr.alloc (.cells #[.int .i64 y.f0, .int .i64 y.f1] 41)).heap.size (wr.alloc (.cells #[.int .i64 y.f0, .int .i64 y.f1] 41)))))
        have hmO := Aside0.mk HS2.out.mO
        clear HB1 HOl HI1
        refine start_ (n := 12) (S := fun w' => w'.cell? ⟨g, 0, none⟩ = some (.iface T x) ∧ w'.cell? ⟨wr.heap.size, 0, none⟩ = some (.int .i64 y.f0) ∧ w'.cell? ⟨wr.heap.size, 1, none⟩ = some (.int .i64 y.f1)) (ds := [10]) #[false, false, false, false, false, false, false, false, false, false, false, false] (by kernel_rfl) rfl rfl ⟨y0_, y1_, y2_⟩ (fun hHeld => ?_)
        generalize (wr.alloc (.cells #[.int .i64 y.f0, .int .i64 y.f1] 41)).drew = wD at y0_ y1_ y2_ HBD HOD hHeld ⊢
        refine pure_ (i := 0) (N := some 30) (v := ?_) (a' := ?_) #[true, false, false, false, false, false, false, false, false, false, false, false] rfl rfl (by kernel_rfl) (fun _ _ _ h => h) (Or.inl ⟨by rfl, ?_⟩) ?_ ?_
        rotate_left
        · intro w'
          go_simp
          with_reducible rfl
        rotate_left
        · simp only [Act.put, List.setIfInBounds_toArray, List.set_cons_zero, List.set_cons_succ, i64_w, i32_w]
          rfl
        refine pure_ (i := 1) (N := some 31) (v := ?_) (a' := ?_) #[true, true, false, false, false, false, false, false, false, false, false, false] rfl rfl (by kernel_rfl) (fun _ _ _ h => h) (Or.inl ⟨by rfl, ?_⟩) ?_ ?_
        rotate_left
        · intro w'
          go_simp
          with_reducible rfl
        rotate_left
        · simp only [Act.put, List.setIfInBounds_toArray, List.set_cons_zero, List.set_cons_succ, i64_w, i32_w]
          rfl
        refine pure_ (i := 2) (N := some 32) (v := ?_) (a' := ?_) #[true, true, true, false, false, false, false, false, false, false, false, false] rfl rfl (by kernel_rfl) (fun _ _ _ h => h) (Or.inl ⟨by rfl, ?_⟩) ?_ ?_
        rotate_left
        · intro w'
          go_simp
          with_reducible rfl
        rotate_left
        · simp only [Act.put, List.setIfInBounds_toArray, List.set_cons_zero, List.set_cons_succ, i64_w, i32_w]
          rfl
        refine pure_ (i := 3) (N := some 33) (v := ?_) (a' := ?_) #[true, true, true, true, false, false, false, false, false, false, false, false] rfl rfl (by kernel_rfl) (fun _ _ _ h => h) (Or.inl ⟨by rfl, ?_⟩) ?_ ?_
        rotate_left
        · intro w'
          go_simp
          with_reducible rfl
        rotate_left
        · simp only [Act.put, List.setIfInBounds_toArray, List.set_cons_zero, List.set_cons_succ, i64_w, i32_w]
          rfl
        refine pure_ (i := 5) (N := some 35) (v := ?_) (a' := ?_) #[true, true, true, true, false, true, false, false, false, false, false, false] rfl rfl (by kernel_rfl) (fun _ _ _ h => h) (Or.inl ⟨by rfl, ?_⟩) ?_ ?_
        rotate_left
        · intro w'
          go_simp
          with_reducible rfl
        rotate_left
        · simp only [Act.put, List.setIfInBounds_toArray, List.set_cons_zero, List.set_cons_succ, i64_w, i32_w]
          rfl
        refine pure_ (i := 7) (N := some 37) (v := ?_) (a' := ?_) #[true, true, true, true, false, true, false, true, false, false, false, false] rfl rfl (by kernel_rfl) (fun _ _ _ h => h) (Or.inl ⟨by rfl, ?_⟩) ?_ ?_
        rotate_left
        · intro w'
          go_simp
          with_reducible rfl
        rotate_left
        · simp only [Act.put, List.setIfInBounds_toArray, List.set_cons_zero, List.set_cons_succ, i64_w, i32_w]
          rfl
        refine take_ (i := 4) (N := some 34) (v := ?_) (a' := ?_) #[true, true, true, true, true, true, false, true, false, false, false, false] rfl rfl (by kernel_rfl) (fun _ _ _ h => h) (Or.inl ⟨by rfl, ?_⟩) hHeld ?_ ?_
        rotate_left
        · rintro w' ⟨s0, s1, s2⟩
          go_simp
          with_reducible rfl
        rotate_left
        · simp only [Act.put, List.setIfInBounds_toArray, List.set_cons_zero, List.set_cons_succ, i64_w, i32_w]
          rfl
        refine take_ (i := 6) (N := some 36) (v := ?_) (a' := ?_) #[true, true, true, true, true, true, true, true, false, false, false, false] rfl rfl (by kernel_rfl) (fun _ _ _ h => h) (Or.inl ⟨by rfl, ?_⟩) hHeld ?_ ?_
        rotate_left
        · rintro w' ⟨s0, s1, s2⟩
          go_simp
          with_reducible rfl
        rotate_left
        · simp only [Act.put, List.setIfInBounds_toArray, List.set_cons_zero, List.set_cons_succ, i64_w, i32_w]
          rfl
        refine take_ (i := 8) (N := some 38) (v := ?_) (a' := ?_) #[true, true, true, true, true, true, true, true, true, false, false, false] rfl rfl (by kernel_rfl) (fun _ _ _ h => h) (Or.inl ⟨by rfl, ?_⟩) hHeld ?_ ?_
        rotate_left
        · rintro w' ⟨s0, s1, s2⟩
          go_simp
          with_reducible rfl
        rotate_left
        · simp only [Act.put, List.setIfInBounds_toArray, List.set_cons_zero, List.set_cons_succ, i64_w, i32_w]
          rfl
        refine one_ (i := 9) (N := some 39) #[true, true, true, true, true, true, true, true, true, true, false, false] rfl rfl (by kernel_rfl) (by decide) (fun K hK => ?_)
        refine call_ fO #[x, .int .i64 y.f0, .int .i64 y.f1] (by rfl) rfl ?_ ?_
        · unfold execOp
          simp [resolve, Deferred.ofValue, invoke, callMethod, Act.eval]
          rw [show 167 + Made.depth = 267 from rfl, hmO.out.run]
          exact hmO.out.ent _ _
        with_reducible refine ((HS2.out.ans _ HBD.out).road y.f0 y.f1).mono ?_
        rintro e w3 ⟨v3, rfl, hv3, hb3⟩
        obtain ⟨A3, d3, e3⟩ := Kd.R_slice hv3
        subst e3
        refine ⟨_, rfl, ?_⟩
        refine hK.out _ _ ⟨pw_cell_below hb3 y0_, pw_cell_below hb3 y1_, pw_cell_below hb3 y2_⟩ (fun hHeld => ?_)
        clear hK K
        refine norm_ (a' := ?_) ?_ ?_
        rotate_left
        · show Act.put _ (some 39) _ = _
          simp only [Act.put, List.setIfInBounds_toArray, List.set_cons_zero, List.set_cons_succ, i64_w, i32_w]
          rfl
        refine last_ (i := 10) (N := some 40) #[true, true, true, true, true, true, true, true, true, true, true, false] rfl rfl (by kernel_rfl) (by decide) (fun K hK => ?_)
        refine Kd.R_append_rows_step k41 (Rr := k41.K w3) (w0 := w2) w2.heap.size (by rfl) (.tmp 30) (.tmp 39) 23 41 (.agg #[.int .i64 0, .int .i64 0]) 16 rfl Try.underlying23 info41 rfl (by decide) (by decide) (.slice AO O.length cO) O (roadRow fr y.f0 y.f1) A3 (roadRow fr y.f0 y.f1).length d3 (fun _ => True) (fun _ => False) rfl rfl (Kd.R_below HOD.out hb3) (Kd.R_reads' hv3).2.2 (fun x cs h => (k41_open h) ▸ k41_mkM _ _ _ x) (fun _ h => h.elim) (fun _ _ => trivial) (below_step HBD.out hb3) (below_step HBD.out hb3).size (Nat.le_trans (Nat.mul_le_mul_right 16 HRM.out) (by decide)) ?_
        intro v4 w4 HO4 HB4 hg4 hat4
        refine hK.out _ _ ?_
        clear hK K
        refine norm_ (a' := ?_) ?_ ?_
        rotate_left
        · show Act.put _ (some 40) _ = _
          simp only [Act.put, List.setIfInBounds_toArray, List.set_cons_zero, List.set_cons_succ, i64_w, i32_w]
          rfl
        refine pure_ (i := 11) (N := some 7) (v := ?_) (a' := ?_) #[true, true, true, true, true, true, true, true, true, true, true, true] rfl rfl (by kernel_rfl) (fun _ _ _ h => h) (Or.inl ⟨by rfl, ?_⟩) ?_ ?_
        rotate_left
        · intro w'
          go_simp
          with_reducible rfl
        rotate_left
        · simp only [Act.put, List.setIfInBounds_toArray, List.set_cons_zero, List.set_cons_succ, i64_w, i32_w]
          rfl
        refine done_ (by kernel_rfl) ?_
        go_wp2
        go_roundw
        case rel => exact ⟨i + 1, by omega, by go_num, ⟨by rw [HT.out]; exact HO4⟩, ⟨HB4⟩⟩
        case measure => simp [intOf]; omega
      · obtain rfl : i = G.length := by omega
        rw [List.take_length] at HO
        have hkg := HKG.out
        obtain ⟨O, hO⟩ : ∃ O, O = G.flatMap fun q => roadRow fr q.f0 q.f1 := ⟨_, rfl⟩
        rw [← hO] at HO hkg
        obtain ⟨AO, cO, eO⟩ := Kd.R_slice HO.out
        subst eO
        have HKO := Aside0.mk hkg
        replace HO := Aside0.mk (Kd.R_reads' HO.out)
        clear hO hkg
        go_wp2_with (first
          | (go_at_call 102; refine (span_Glue.calls kg AO cO O road _ HO.out.2.2 HO.out.2.1 HKO.out).mono ?_; rintro e w3 ⟨v0, rfl, hv0, hb3⟩; have HB3 := Aside0.mk (below_step HB2.out (below_step HBr.out hb3)); have HV := Aside0.mk (Kd.R_lower hv0 (below_step HB2.out HBr.out).size); clear hv0 hb3))
        go_ret
        exact ⟨_, rfl, HV.out, HB3.out⟩
  · rw [decide_eq_false hR] at hwi
    have hrr : roadRow (pickI fr (laid l)) off k = [] := by unfold roadRow; rw [hpl, if_neg hR]
    rw [hrr]
    have HWI := Aside0.mk hwi
    clear h hwi hR hrr hn hs hln hwl hfl hfr hpl
    go_enter Try.func105, Try.ntmps105
    go_wp2_with (first
      | (go_at_call 33; refine (source_within.calls off k (n : Int) false _ HWI.out).mono ?_; rintro e w1 ⟨rfl, hd⟩; have HB1 := Aside0.mk (below_step HB.out hd.below); clear hd c2 HB))
    go_ret
    exact ⟨_, rfl, Kd.R_nil _ _ _ _ _, HB1.out⟩
end Go.Proofs.Ytlnikhijfamakaa.Pure
