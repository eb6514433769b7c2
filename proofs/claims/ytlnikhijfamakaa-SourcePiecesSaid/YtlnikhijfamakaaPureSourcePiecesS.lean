/- Pieces of sources: what they read. No condition. -/
import Derived.Test.YtlnikhijfamakaaPureSourcePiecesR
namespace Go.Proofs.Ytlnikhijfamakaa.Pure
open Go Go.RowKit Go.Maps Go.Proofs.Ytlnikhijfamakaa.QSourceImages Go.Proofs.YtlnikhijfamakaaW.PrintWords Go.Proofs.YtlnikhijfamakaaW.PrintLast Go.Proofs.YtlnikhijfamakaaW.PrintMore
set_option linter.unusedVariables false
set_option linter.unusedSimpArgs false

def cutB (b : List Int) (x : S41) : List Int := (b.drop x.f0.toNat).take x.f1.toNat
/-- where the reading loop stands -/
def PRead (W wr : World) (AG : Option Addr) (cG : Nat) (G : List S41) (b : List Int) (bad : List Bool) (vi v : Value) : Prop := ∃ i : Nat, i ≤ G.length ∧ vi = .int .i64 (i : Int) ∧ Aside0 ((Kd.int .u8).R 5 wr W.heap.size (fun _ => True) v ((G.take i).flatMap (cutB b))) ∧ Aside0 (∀ j, j < i → hit bad (rd_T41 G (j : Int)).f0 (rd_T41 G (j : Int)).f1 = false) ∧ Aside0 (Below W.heap.size W wr) ∧ Aside0 (k41.R 41 wr W.heap.size (fun _ => True) (.slice AG G.length cG) G)
theorem cut_short (b : List Int) (x : S41) : (cutB b x).length ≤ x.f1.toNat := by
  unfold cutB
  rw [List.length_take]
  omega
theorem cuts_short (b : List Int) : ∀ G : List S41, (G.flatMap (cutB b)).length ≤ (G.flatMap bytesS).length
  | [] => Nat.le_refl _
  | x :: G => by
    have h1 := cuts_short b G
    have h2 := cut_short b x
    rw [List.flatMap_cons, List.flatMap_cons, List.length_append, List.length_append, bytes_len]
    omega
/-- room for bytes is made -/
theorem make_room (w : World) (m : Nat) (hm : m ≤ 65536) : ∃ wM, (Instr.makeSlice 22 (.int .i64 0) (.int .i64 (m : Int))).run Try.prog w = .ok (.slice (some ⟨w.heap.size, 0, none⟩) 0 m) wM ∧ (Kd.int .u8).R 5 wM w.heap.size (fun _ => True) (.slice (some ⟨w.heap.size, 0, none⟩) 0 m) [] ∧ Below w.heap.size w wM := by
  obtain ⟨i0, hi, hz⟩ := Option.map_eq_some_iff.1 (show (Try.prog.info? 5).map (fun i => (i.zero, i.size, i.bytes)) = some (some (.int .u8 0), 1, 1) from info5)
  simp only [Prod.mk.injEq] at hz
  obtain ⟨wM, h1, h2, h3⟩ := run_make_own (P := Try.prog) w w.heap.size 22 5 i0 (.int .u8 0) 1 Try.underlying22 hi hz.1 hz.2.1 .i64 .i64 m (by rw [hz.2.2]; omega) (by simp [maxLen]; omega) (Nat.le_refl _)
  exact ⟨wM, h1, ⟨fun _ _ => trivial, [], h2, Reps.none _ _⟩, pw_below_grown (Below.refl w.heap.size w) none (Nat.le_refl _) h3 (fun k hk => by cases hk)⟩
theorem hits_none (bad : List Bool) (G : List S41) (h : ∀ j, j < G.length → hit bad (rd_T41 G (j : Int)).f0 (rd_T41 G (j : Int)).f1 = false) : (G.any fun x => hit bad x.f0 x.f1) = false := by
  rw [List.any_eq_false]
  intro x hx
  have := all_rd G (fun y => hit bad y.f0 y.f1 = false) h x hx
  rw [this]
  decide
theorem hits_some (bad : List Bool) (G : List S41) (i : Nat) (hi : i < G.length) (h : hit bad (rd_T41 G (i : Int)).f0 (rd_T41 G (i : Int)).f1 = true) : (G.any fun x => hit bad x.f0 x.f1) = true :=
  List.any_eq_true.2 ⟨_, rd_mem G i hi, h⟩
set_option maxHeartbeats 8000000 in
set_option maxRecDepth 100000 in
theorem pcs_read (w : World) (g T : Nat) (x : Value) (A : Option Addr) (c : Nat) (l : List S41) (n : Nat) (h : IsPcs w g T x A c l n) (fR fO fS fP : Nat) (b fr : List Int) (bad : List Bool) (hs : SrcIs w T x fR fO fS fP b fr bad)
    (hn : n ≤ 65536) (hll : l.length ≤ 4096) (hln : (laid l).length = n) (hwl : ∀ q ∈ laid l, 0 ≤ q ∧ q < (b.length : Int)) (hbl : b.length ≤ 65536) (hbd : bad.length = b.length) (off k : Int) :
    Calls Try.prog 104 #[.pointer (some ⟨g, 0, none⟩), .int .i64 off, .int .i64 k] w fun e w' => ∃ v0, e = .returned (.tuple #[v0, .int .i64 (readErr (pickI b (laid l)).length (pickB bad (laid l)) off k)]) ∧ (Kd.int .u8).R 5 w' w.heap.size (fun _ => True) v0 (readRow (pickI b (laid l)) (pickB bad (laid l)) off k) ∧ Below w.heap.size w w' := by
  have c2 : w.cell? ⟨g, 2, none⟩ = some (.int .i64 (n : Int)) := (blk_cell h.blk 2).trans rfl
  have hwi := within_val n hn off k
  have HB := Aside0.mk (Below.refl w.heap.size w)
  have HI := Aside0.mk h
  have hpl : (pickI b (laid l)).length = n := by rw [pickI_len, hln]
  by_cases hR : inR n off k
  · rw [decide_eq_true hR] at hwi
    have hR2 := hR
    unfold inR at hR2
    obtain ⟨o, rfl⟩ := Int.eq_ofNat_of_zero_le hR2.1
    obtain ⟨m, rfl⟩ := Int.eq_ofNat_of_zero_le hR2.2.1
    have hht : hit (pickB bad (laid l)) (o : Int) (m : Int) = (pickB bad (partP (laid l) (o : Int) (m : Int))).any id := by
      unfold hit partP
      rw [if_pos hR2.1, pickB_cut]
    have hrw : ((pickI b (laid l)).drop (o : Int).toNat).take (m : Int).toNat = pickI b (partP (laid l) (o : Int) (m : Int)) := by
      unfold partP
      rw [if_pos hR2.1, pickI_cut]
    have hsl := slice_ev l (by omega) (o : Int) (m : Int) (by omega) (by omega)
    have hQ : ∀ q ∈ partP (laid l) (o : Int) (m : Int), 0 ≤ q ∧ q < (b.length : Int) := fun q hq => hwl q (part_sub _ _ _ q hq)
    have hQl := part_len (laid l) (o : Int) (m : Int)
    rw [hln] at hQl
    have hGw := glued_within (partP (laid l) (o : Int) (m : Int)) b.length hbl hQ
    have hGl := (laid_glued0 (partP (laid l) (o : Int) (m : Int)) (fun q hq => by have := hQ q hq; omega)).2
    have hGs := glued_short (partP (laid l) (o : Int) (m : Int)) []
    obtain ⟨G, hG⟩ : ∃ G, G = gluedP [] (partP (laid l) (o : Int) (m : Int)) := ⟨_, rfl⟩
    rw [← hG] at hsl hGw hGl hGs
    rw [laid_oks G (fun y hy => (hGw y hy).1)] at hGl
    have hpf := pick_flat b G (fun y hy => (hGw y hy).2)
    have hhf := hit_flat bad G (fun y hy => by rw [hbd]; exact (hGw y hy).2)
    rw [hGl] at hpf hhf
    rw [hhf] at hht
    rw [hpf] at hrw
    have hrs : ∀ i, ((G.take i).flatMap (cutB b)).length ≤ 65536 := fun i => by
      have h1 := cuts_short b (G.take i)
      have h2 := flat_take G i
      rw [hGl] at h2
      omega
    have hin : ∀ i, i < G.length → inR (b.length : Int) (rd_T41 G (i : Int)).f0 (rd_T41 G (i : Int)).f1 := fun i hi => (hGw _ (rd_mem G i hi)).2
    obtain ⟨ks, hks⟩ := hsl.rounds
    have hGn : G.length ≤ 65536 := by simp only [List.length_nil] at hGs; omega
    have hE : readErr (pickI b (laid l)).length (pickB bad (laid l)) (o : Int) (m : Int) = if (G.any fun x => hit bad x.f0 x.f1) = true then 19 else 0 := by
      unfold readErr
      rw [hpl, if_pos hR, hht]
    have hRw : readRow (pickI b (laid l)) (pickB bad (laid l)) (o : Int) (m : Int) = if (G.any fun x => hit bad x.f0 x.f1) = true then [] else G.flatMap (cutB b) := by
      unfold readRow
      rw [hE, hrw]
      by_cases hh : (G.any fun x => hit bad x.f0 x.f1) = true
      · rw [if_pos hh, if_neg (by decide), if_pos hh]
      · rw [if_neg hh, if_pos rfl, if_neg hh]; rfl
    obtain ⟨ez, hez⟩ : ∃ ez : Int, ez = if (G.any fun x => hit bad x.f0 x.f1) = true then 19 else 0 := ⟨_, rfl⟩
    obtain ⟨rz, hrz⟩ : ∃ rz : List Int, rz = if (G.any fun x => hit bad x.f0 x.f1) = true then [] else G.flatMap (cutB b) := ⟨_, rfl⟩
    rw [← hez] at hE
    rw [← hrz] at hRw
    rw [hE, hRw]
    have HEZ := Aside0.mk hez
    have HRZ := Aside0.mk hrz
    clear hez hrz
    have hmN : m ≤ 65536 := by omega
    have HWI := Aside0.mk hwi
    have HKS := Aside0.mk hks
    have HRS := Aside0.mk hrs
    have HIN := Aside0.mk hin
    have HS := Aside0.mk hs
    have HIW := Aside0.mk h
    have c1 : w.cell? ⟨g, 1, none⟩ = some (.slice A l.length c) := (blk_cell h.blk 1).trans rfl
    clear h hwi hR hR2 hE hRw hht hrw hsl hQ hQl hGw hGl hGs hpf hhf hrs hin hks hpl hln hwl hbl hbd hs hll hn hG
    go_enter Try.func104, Try.ntmps104
    go_wp2_with (first
      | (go_at_call 33; refine (source_within.calls (o : Int) (m : Int) (n : Int) true _ HWI.out).mono ?_; rintro e w1 ⟨rfl, hd⟩; obtain ⟨wM, hmk, hown, hgM⟩ := make_room w1 m hmN; have HB1 := Aside0.mk (below_step HB.out hd.below); have HBW := Aside0.mk HB1.out; have HBM := Aside0.mk (below_step HB1.out hgM); have HI1 := Aside0.mk (HIW.out.below HBM.out); clear c1 c2; have c1 : wM.cell? ⟨g, 1, none⟩ = some (.slice A l.length c) := (blk_cell HI1.out.blk 1).trans rfl; have HOM := Aside0.mk hown; clear hd HB HB1 hown hgM)
      | (go_at_call 107; refine (span_Slice.calls ks A c l (o : Int) (m : Int) G _ HI1.out.rl HI1.out.cl HKS.out).mono ?_; rintro e w2 ⟨v0, rfl, hv0, hb2⟩; obtain ⟨AG, cG, eG⟩ := Kd.R_slice hv0; subst eG; have HB2 := Aside0.mk (below_step HBM.out hb2); have HV2 := Aside0.mk (Kd.R_lower hv0 HBM.out.size); have HO2 := Aside0.mk (Kd.R_lower (Kd.R_below HOM.out hb2) HBW.out.size); clear hv0 hb2 c1 HBM HI1 HOM HBW hmk))
    go_loopw [31, 8] (fun vi v wr => PRead w wr AG cG G b bad vi v) (fun vi _ _ => G.length - (intOf vi).toNat)
    case atStart => exact ⟨0, Nat.zero_le _, rfl, ⟨by rw [List.take_zero]; exact HO2.out⟩, ⟨fun j hj => absurd hj (by omega)⟩, HB2, HV2⟩
    case round =>
      clear HB2 HV2 HO2
      obtain ⟨i, hi, rfl, HO, hall, HBr, HG⟩ := hrel
      by_cases hlt : i < G.length
      · have hlti : (i : Int) < (G.length : Int) := by omega
        have hnx : IntKind.i64.wrap ((i : Int) + 1) = (i : Int) + 1 := by rw [i64_w]; unfold wrap64; omega
        obtain ⟨ad, rfl, e0, e1⟩ := at_T41 (Kd.R_reads' HG.out).2.2 (i : Int) (by omega) hlti
        rw [Int.toNat_natCast] at e0 e1
        have hin := HIN.out i hlt
        have hht := hits_some bad G i hlt
        have HT := Aside0.mk (fm_take (cutB b) G i hlt)
        have hall2 := fun (h : hit bad (rd_T41 G (i : Int)).f0 (rd_T41 G (i : Int)).f1 = false) (j : Nat) (hj : j < i + 1) => show hit bad (rd_T41 G (j : Int)).f0 (rd_T41 G (j : Int)).f1 = false from by
          by_cases e : j = i
          · rw [e]; exact h
          · exact hall.out j (by omega)
        obtain ⟨y, hy⟩ : ∃ y, y = rd_T41 G (i : Int) := ⟨_, rfl⟩
        rw [← hy] at e0 e1 HT hin hht hall2
        have hX0 := Aside0.mk (blk_new wr (.cells #[.int .i64 y.f0, .int .i64 y.f1] 41))
        have hba := below_alloc (Below.refl wr.heap.size wr) (.cells #[.int .i64 y.f0, .int .i64 y.f1] 41)
        have HB1 := Aside0.mk (below_alloc HBr.out (.cells #[.int .i64 y.f0, .int .i64 y.f1] 41))
        have hroom := HRS.out (i + 1)
        rw [HT.out, List.length_append] at hroom
        obtain ⟨AO, cO, eO⟩ := Kd.R_slice HO.out
        obtain ⟨O, hO⟩ : ∃ O, O = (G.take i).flatMap (cutB b) := ⟨_, rfl⟩
        rw [← hO] at HO HT eO hroom
        subst eO
        have HOl := Aside0.mk (Kd.R_below HO.out hba)
        have HGl := Aside0.mk (Kd.R_below HG.out hba)
        have HI1 := Aside0.mk (HIW.out.below HB1.out)
        replace hy := Aside0.mk hy
        replace hO := Aside0.mk hO
        by_cases hh : hit bad y.f0 y.f1 = true
        · have hE : readErr b.length bad y.f0 y.f1 = 19 := by unfold readErr; rw [if_pos hin, if_pos hh]
          have hRW : readRow b bad y.f0 y.f1 = [] := by unfold readRow; rw [hE, if_neg (by decide)]
          have HANY := Aside0.mk (hht hh)
          have hrd := fun W (hb : Below w.heap.size w W) => (HS.out.ans W hb).read y.f0 y.f1
          rw [hE, hRW] at hrd
          have HRD := Aside0.mk hrd
          clear hE hRW hrd hh hht hall2 HO HG HBr hroom hba hin hall
          go_wp2
          have y0_ : (wr.alloc (.cells #[.int .i64 y.f0, .int .i64 y.f1] 41)).drew.cell? ⟨g, 0, none⟩ = some (.iface T x) := (blk_cell (blk_drew HI1.out.blk) 0).trans rfl
          have y1_ : (wr.alloc (.cells #[.int .i64 y.f0, .int .i64 y.f1] 41)).drew.cell? ⟨wr.heap.size, 0, none⟩ = some (.int .i64 y.f0) := (blk_cell (blk_drew hX0.out) 0).trans rfl
          have y2_ : (wr.alloc (.cells #[.int .i64 y.f0, .int .i64 y.f1] 41)).drew.cell? ⟨wr.heap.size, 1, none⟩ = some (.int .i64 y.f1) := (blk_cell (blk_drew hX0.out) 1).trans rfl
          have HBD := Aside0.mk (below_drew HB1.out)
          have HOD := Aside0.mk (Kd.R_below HOl.out (below_drew (Below.refl (wr.alloc (.cells #[.int .i64 y.f0, .int .i64 y.f1] 41)).heap.size (wr.alloc (.cells #[.int .i64 y.f0, .int .i64 y.f1] 41)))))
          have HGD := Aside0.mk (Kd.R_below HGl.out (below_drew (Below.refl (wr.alloc (.cells #[.int .i64 y.f0, .int .i64 y.f1] 41)).heap.size (wr.alloc (.cells #[.int .i64 y.f0, .int .i64 y.f1] 41)))))
          have hmR := Aside0.mk HS.out.mR
          clear HB1 HOl HGl HI1
          refine start_ (n := 14) (S := fun w' => w'.cell? ⟨g, 0, none⟩ = some (.iface T x) ∧ w'.cell? ⟨wr.heap.size, 0, none⟩ = some (.int .i64 y.f0) ∧ w'.cell? ⟨wr.heap.size, 1, none⟩ = some (.int .i64 y.f1)) (ds := []) #[false, false, false, false, false, false, false, false, false, false, false, false, false, false] (by kernel_rfl) rfl rfl ⟨y0_, y1_, y2_⟩ (fun hHeld => ?_)
          generalize (wr.alloc (.cells #[.int .i64 y.f0, .int .i64 y.f1] 41)).drew = wD at y0_ y1_ y2_ HBD HOD HGD hHeld ⊢
          refine pure_ (i := 0) (N := some 36) (v := ?_) (a' := ?_) #[true, false, false, false, false, false, false, false, false, false, false, false, false, false] rfl rfl (by kernel_rfl) (fun _ _ _ h => h) (Or.inl ⟨by rfl, ?_⟩) ?_ ?_
          rotate_left
          · intro w'
            go_simp
            with_reducible rfl
          rotate_left
          · simp only [Act.put, List.setIfInBounds_toArray, List.set_cons_zero, List.set_cons_succ, i64_w, i32_w]
            rfl
          refine pure_ (i := 1) (N := some 37) (v := ?_) (a' := ?_) #[true, true, false, false, false, false, false, false, false, false, false, false, false, false] rfl rfl (by kernel_rfl) (fun _ _ _ h => h) (Or.inl ⟨by rfl, ?_⟩) ?_ ?_
          rotate_left
          · intro w'
            go_simp
            with_reducible rfl
          rotate_left
          · simp only [Act.put, List.setIfInBounds_toArray, List.set_cons_zero, List.set_cons_succ, i64_w, i32_w]
            rfl
          refine pure_ (i := 2) (N := some 38) (v := ?_) (a' := ?_) #[true, true, true, false, false, false, false, false, false, false, false, false, false, false] rfl rfl (by kernel_rfl) (fun _ _ _ h => h) (Or.inl ⟨by rfl, ?_⟩) ?_ ?_
          rotate_left
          · intro w'
            go_simp
            with_reducible rfl
          rotate_left
          · simp only [Act.put, List.setIfInBounds_toArray, List.set_cons_zero, List.set_cons_succ, i64_w, i32_w]
            rfl
          refine pure_ (i := 4) (N := some 40) (v := ?_) (a' := ?_) #[true, true, true, false, true, false, false, false, false, false, false, false, false, false] rfl rfl (by kernel_rfl) (fun _ _ _ h => h) (Or.inl ⟨by rfl, ?_⟩) ?_ ?_
          rotate_left
          · intro w'
            go_simp
            with_reducible rfl
          rotate_left
          · simp only [Act.put, List.setIfInBounds_toArray, List.set_cons_zero, List.set_cons_succ, i64_w, i32_w]
            rfl
          refine pure_ (i := 6) (N := some 42) (v := ?_) (a' := ?_) #[true, true, true, false, true, false, true, false, false, false, false, false, false, false] rfl rfl (by kernel_rfl) (fun _ _ _ h => h) (Or.inl ⟨by rfl, ?_⟩) ?_ ?_
          rotate_left
          · intro w'
            go_simp
            with_reducible rfl
          rotate_left
          · simp only [Act.put, List.setIfInBounds_toArray, List.set_cons_zero, List.set_cons_succ, i64_w, i32_w]
            rfl
          refine take_ (i := 3) (N := some 39) (v := ?_) (a' := ?_) #[true, true, true, true, true, false, true, false, false, false, false, false, false, false] rfl rfl (by kernel_rfl) (fun _ _ _ h => h) (Or.inl ⟨by rfl, ?_⟩) hHeld ?_ ?_
          rotate_left
          · rintro w' ⟨s0, s1, s2⟩
            go_simp
            with_reducible rfl
          rotate_left
          · simp only [Act.put, List.setIfInBounds_toArray, List.set_cons_zero, List.set_cons_succ, i64_w, i32_w]
            rfl
          refine take_ (i := 5) (N := some 41) (v := ?_) (a' := ?_) #[true, true, true, true, true, true, true, false, false, false, false, false, false, false] rfl rfl (by kernel_rfl) (fun _ _ _ h => h) (Or.inl ⟨by rfl, ?_⟩) hHeld ?_ ?_
          rotate_left
          · rintro w' ⟨s0, s1, s2⟩
            go_simp
            with_reducible rfl
          rotate_left
          · simp only [Act.put, List.setIfInBounds_toArray, List.set_cons_zero, List.set_cons_succ, i64_w, i32_w]
            rfl
          refine take_ (i := 7) (N := some 43) (v := ?_) (a' := ?_) #[true, true, true, true, true, true, true, true, false, false, false, false, false, false] rfl rfl (by kernel_rfl) (fun _ _ _ h => h) (Or.inl ⟨by rfl, ?_⟩) hHeld ?_ ?_
          rotate_left
          · rintro w' ⟨s0, s1, s2⟩
            go_simp
            with_reducible rfl
          rotate_left
          · simp only [Act.put, List.setIfInBounds_toArray, List.set_cons_zero, List.set_cons_succ, i64_w, i32_w]
            rfl
          refine one_ (i := 8) (N := some 44) #[true, true, true, true, true, true, true, true, true, false, false, false, false, false] rfl rfl (by kernel_rfl) (by decide) (fun K hK => ?_)
          refine call_ fR #[x, .int .i64 y.f0, .int .i64 y.f1] (by rfl) rfl ?_ ?_
          · unfold execOp
            simp [resolve, Deferred.ofValue, invoke, callMethod, Act.eval]
            rw [show 167 + Made.depth = 267 from rfl, hmR.out.run]
            exact hmR.out.ent _ _
          with_reducible refine (HRD.out _ HBD.out).mono ?_
          rintro e w3 ⟨v3, rfl, hv3, hb3⟩
          obtain ⟨A3, d3, e3⟩ := Kd.R_slice hv3
          subst e3
          refine ⟨_, rfl, ?_⟩
          refine hK.out _ _ ⟨pw_cell_below hb3 y0_, pw_cell_below hb3 y1_, pw_cell_below hb3 y2_⟩ (fun hHeld => ?_)
          clear hK K
          refine norm_ (a' := ?_) ?_ ?_
          rotate_left
          · show Act.put _ (some 44) _ = _
            simp only [Act.put, List.setIfInBounds_toArray, List.set_cons_zero, List.set_cons_succ, i64_w, i32_w]
            rfl
          refine pure_ (i := 9) (N := some 35) (v := ?_) (a' := ?_) #[true, true, true, true, true, true, true, true, true, true, false, false, false, false] rfl rfl (by kernel_rfl) (fun _ _ _ h => h) (Or.inl ⟨by rfl, ?_⟩) ?_ ?_
          rotate_left
          · intro w'
            go_simp
            with_reducible rfl
          rotate_left
          · simp only [Act.put, List.setIfInBounds_toArray, List.set_cons_zero, List.set_cons_succ, i64_w, i32_w]
            rfl
          refine pure_ (i := 10) (N := some 45) (v := ?_) (a' := ?_) #[true, true, true, true, true, true, true, true, true, true, true, false, false, false] rfl rfl (by kernel_rfl) (fun _ _ _ h => h) (Or.inl ⟨by rfl, ?_⟩) ?_ ?_
          rotate_left
          · intro w'
            go_simp
            with_reducible rfl
          rotate_left
          · simp only [Act.put, List.setIfInBounds_toArray, List.set_cons_zero, List.set_cons_succ, i64_w, i32_w]
            rfl
          refine pure_ (i := 11) (N := some 46) (v := ?_) (a' := ?_) #[true, true, true, true, true, true, true, true, true, true, true, true, false, false] rfl rfl (by kernel_rfl) (fun _ _ _ h => h) (Or.inl ⟨by rfl, ?_⟩) ?_ ?_
          rotate_left
          · intro w'
            go_simp
            with_reducible rfl
          rotate_left
          · simp only [Act.put, List.setIfInBounds_toArray, List.set_cons_zero, List.set_cons_succ, i64_w, i32_w]
            rfl
          refine pure_ (i := 12) (N := some 11) (v := ?_) (a' := ?_) #[true, true, true, true, true, true, true, true, true, true, true, true, true, false] rfl rfl (by kernel_rfl) (fun _ _ _ h => h) (Or.inl ⟨by rfl, ?_⟩) ?_ ?_
          rotate_left
          · intro w'
            go_simp
            with_reducible rfl
          rotate_left
          · simp only [Act.put, List.setIfInBounds_toArray, List.set_cons_zero, List.set_cons_succ, i64_w, i32_w]
            rfl
          refine pure_ (i := 13) (N := some 12) (v := ?_) (a' := ?_) #[true, true, true, true, true, true, true, true, true, true, true, true, true, true] rfl rfl (by kernel_rfl) (fun _ _ _ h => h) (Or.inl ⟨by rfl, ?_⟩) ?_ ?_
          rotate_left
          · intro w'
            go_simp
            with_reducible rfl
          rotate_left
          · simp only [Act.put, List.setIfInBounds_toArray, List.set_cons_zero, List.set_cons_succ, i64_w, i32_w]
            rfl
          refine done_ (by kernel_rfl) ?_
          have HB3 := Aside0.mk (below_step HBD.out hb3)
          clear HBD HOD HGD hv3 hb3 y0_ y1_ y2_ hHeld
          go_wp2
          refine bodyPost_ret (v := .tuple #[.slice none 0 0, .int .i64 19]) (by simp [results, Try.results104, go_sem]) rfl ?_
          have hez := HEZ.out
          have hrz := HRZ.out
          rw [if_pos HANY.out] at hez hrz
          rw [hez, hrz]
          exact ⟨_, rfl, Kd.R_nil _ _ _ _ _, HB3.out⟩
        · have hE : readErr b.length bad y.f0 y.f1 = 0 := by unfold readErr; rw [if_pos hin, if_neg hh]
          have hRW : readRow b bad y.f0 y.f1 = cutB b y := by unfold readRow cutB; rw [hE, if_pos rfl]
          have HALL := Aside0.mk (hall2 (by simpa using hh))
          have hrd := fun W (hb : Below w.heap.size w W) => (HS.out.ans W hb).read y.f0 y.f1
          rw [hE, hRW] at hrd
          obtain ⟨cy, hcy⟩ : ∃ cy, cy = cutB b y := ⟨_, rfl⟩
          rw [← hcy] at hrd hroom HT
          have HRD := Aside0.mk hrd
          have hroom2 : (O.length + cy.length) * 1 ≤ 140737488355328 := by omega
          have HRM := Aside0.mk hroom2
          clear hE hRW hrd hh hht hall2 HO HG HBr hroom hroom2 hba hin hall hcy
          go_wp2
          have y0_ : (wr.alloc (.cells #[.int .i64 y.f0, .int .i64 y.f1] 41)).drew.cell? ⟨g, 0, none⟩ = some (.iface T x) := (blk_cell (blk_drew HI1.out.blk) 0).trans rfl
          have y1_ : (wr.alloc (.cells #[.int .i64 y.f0, .int .i64 y.f1] 41)).drew.cell? ⟨wr.heap.size, 0, none⟩ = some (.int .i64 y.f0) := (blk_cell (blk_drew hX0.out) 0).trans rfl
          have y2_ : (wr.alloc (.cells #[.int .i64 y.f0, .int .i64 y.f1] 41)).drew.cell? ⟨wr.heap.size, 1, none⟩ = some (.int .i64 y.f1) := (blk_cell (blk_drew hX0.out) 1).trans rfl
          have HBD := Aside0.mk (below_drew HB1.out)
          have HOD := Aside0.mk (Kd.R_below HOl.out (below_drew (Below.refl (wr.alloc (.cells #[.int .i64 y.f0, .int .i64 y.f1] 41)).heap.size (wr.alloc (.cells #[.int .i64 y.f0, .int .i64 y.f1] 41)))))
          have HGD := Aside0.mk (Kd.R_below HGl.out (below_drew (Below.refl (wr.alloc (.cells #[.int .i64 y.f0, .int .i64 y.f1] 41)).heap.size (wr.alloc (.cells #[.int .i64 y.f0, .int .i64 y.f1] 41)))))
          have hmR := Aside0.mk HS.out.mR
          clear HB1 HOl HGl HI1
          refine start_ (n := 14) (S := fun w' => w'.cell? ⟨g, 0, none⟩ = some (.iface T x) ∧ w'.cell? ⟨wr.heap.size, 0, none⟩ = some (.int .i64 y.f0) ∧ w'.cell? ⟨wr.heap.size, 1, none⟩ = some (.int .i64 y.f1)) (ds := []) #[false, false, false, false, false, false, false, false, false, false, false, false, false, false] (by kernel_rfl) rfl rfl ⟨y0_, y1_, y2_⟩ (fun hHeld => ?_)
          generalize (wr.alloc (.cells #[.int .i64 y.f0, .int .i64 y.f1] 41)).drew = wD at y0_ y1_ y2_ HBD HOD HGD hHeld ⊢
          refine pure_ (i := 0) (N := some 36) (v := ?_) (a' := ?_) #[true, false, false, false, false, false, false, false, false, false, false, false, false, false] rfl rfl (by kernel_rfl) (fun _ _ _ h => h) (Or.inl ⟨by rfl, ?_⟩) ?_ ?_
          rotate_left
          · intro w'
            go_simp
            with_reducible rfl
          rotate_left
          · simp only [Act.put, List.setIfInBounds_toArray, List.set_cons_zero, List.set_cons_succ, i64_w, i32_w]
            rfl
          refine pure_ (i := 1) (N := some 37) (v := ?_) (a' := ?_) #[true, true, false, false, false, false, false, false, false, false, false, false, false, false] rfl rfl (by kernel_rfl) (fun _ _ _ h => h) (Or.inl ⟨by rfl, ?_⟩) ?_ ?_
          rotate_left
          · intro w'
            go_simp
            with_reducible rfl
          rotate_left
          · simp only [Act.put, List.setIfInBounds_toArray, List.set_cons_zero, List.set_cons_succ, i64_w, i32_w]
            rfl
          refine pure_ (i := 2) (N := some 38) (v := ?_) (a' := ?_) #[true, true, true, false, false, false, false, false, false, false, false, false, false, false] rfl rfl (by kernel_rfl) (fun _ _ _ h => h) (Or.inl ⟨by rfl, ?_⟩) ?_ ?_
          rotate_left
          · intro w'
            go_simp
            with_reducible rfl
          rotate_left
          · simp only [Act.put, List.setIfInBounds_toArray, List.set_cons_zero, List.set_cons_succ, i64_w, i32_w]
            rfl
          refine pure_ (i := 4) (N := some 40) (v := ?_) (a' := ?_) #[true, true, true, false, true, false, false, false, false, false, false, false, false, false] rfl rfl (by kernel_rfl) (fun _ _ _ h => h) (Or.inl ⟨by rfl, ?_⟩) ?_ ?_
          rotate_left
          · intro w'
            go_simp
            with_reducible rfl
          rotate_left
          · simp only [Act.put, List.setIfInBounds_toArray, List.set_cons_zero, List.set_cons_succ, i64_w, i32_w]
            rfl
          refine pure_ (i := 6) (N := some 42) (v := ?_) (a' := ?_) #[true, true, true, false, true, false, true, false, false, false, false, false, false, false] rfl rfl (by kernel_rfl) (fun _ _ _ h => h) (Or.inl ⟨by rfl, ?_⟩) ?_ ?_
          rotate_left
          · intro w'
            go_simp
            with_reducible rfl
          rotate_left
          · simp only [Act.put, List.setIfInBounds_toArray, List.set_cons_zero, List.set_cons_succ, i64_w, i32_w]
            rfl
          refine take_ (i := 3) (N := some 39) (v := ?_) (a' := ?_) #[true, true, true, true, true, false, true, false, false, false, false, false, false, false] rfl rfl (by kernel_rfl) (fun _ _ _ h => h) (Or.inl ⟨by rfl, ?_⟩) hHeld ?_ ?_
          rotate_left
          · rintro w' ⟨s0, s1, s2⟩
            go_simp
            with_reducible rfl
          rotate_left
          · simp only [Act.put, List.setIfInBounds_toArray, List.set_cons_zero, List.set_cons_succ, i64_w, i32_w]
            rfl
          refine take_ (i := 5) (N := some 41) (v := ?_) (a' := ?_) #[true, true, true, true, true, true, true, false, false, false, false, false, false, false] rfl rfl (by kernel_rfl) (fun _ _ _ h => h) (Or.inl ⟨by rfl, ?_⟩) hHeld ?_ ?_
          rotate_left
          · rintro w' ⟨s0, s1, s2⟩
            go_simp
            with_reducible rfl
          rotate_left
          · simp only [Act.put, List.setIfInBounds_toArray, List.set_cons_zero, List.set_cons_succ, i64_w, i32_w]
            rfl
          refine take_ (i := 7) (N := some 43) (v := ?_) (a' := ?_) #[true, true, true, true, true, true, true, true, false, false, false, false, false, false] rfl rfl (by kernel_rfl) (fun _ _ _ h => h) (Or.inl ⟨by rfl, ?_⟩) hHeld ?_ ?_
          rotate_left
          · rintro w' ⟨s0, s1, s2⟩
            go_simp
            with_reducible rfl
          rotate_left
          · simp only [Act.put, List.setIfInBounds_toArray, List.set_cons_zero, List.set_cons_succ, i64_w, i32_w]
            rfl
          refine one_ (i := 8) (N := some 44) #[true, true, true, true, true, true, true, true, true, false, false, false, false, false] rfl rfl (by kernel_rfl) (by decide) (fun K hK => ?_)
          refine call_ fR #[x, .int .i64 y.f0, .int .i64 y.f1] (by rfl) rfl ?_ ?_
          · unfold execOp
            simp [resolve, Deferred.ofValue, invoke, callMethod, Act.eval]
            rw [show 167 + Made.depth = 267 from rfl, hmR.out.run]
            exact hmR.out.ent _ _
          with_reducible refine (HRD.out _ HBD.out).mono ?_
          rintro e w3 ⟨v3, rfl, hv3, hb3⟩
          obtain ⟨A3, d3, e3⟩ := Kd.R_slice hv3
          subst e3
          refine ⟨_, rfl, ?_⟩
          refine hK.out _ _ ⟨pw_cell_below hb3 y0_, pw_cell_below hb3 y1_, pw_cell_below hb3 y2_⟩ (fun hHeld => ?_)
          clear hK K
          refine norm_ (a' := ?_) ?_ ?_
          rotate_left
          · show Act.put _ (some 44) _ = _
            simp only [Act.put, List.setIfInBounds_toArray, List.set_cons_zero, List.set_cons_succ, i64_w, i32_w]
            rfl
          refine pure_ (i := 9) (N := some 35) (v := ?_) (a' := ?_) #[true, true, true, true, true, true, true, true, true, true, false, false, false, false] rfl rfl (by kernel_rfl) (fun _ _ _ h => h) (Or.inl ⟨by rfl, ?_⟩) ?_ ?_
          rotate_left
          · intro w'
            go_simp
            with_reducible rfl
          rotate_left
          · simp only [Act.put, List.setIfInBounds_toArray, List.set_cons_zero, List.set_cons_succ, i64_w, i32_w]
            rfl
          refine pure_ (i := 10) (N := some 45) (v := ?_) (a' := ?_) #[true, true, true, true, true, true, true, true, true, true, true, false, false, false] rfl rfl (by kernel_rfl) (fun _ _ _ h => h) (Or.inl ⟨by rfl, ?_⟩) ?_ ?_
          rotate_left
          · intro w'
            go_simp
            with_reducible rfl
          rotate_left
          · simp only [Act.put, List.setIfInBounds_toArray, List.set_cons_zero, List.set_cons_succ, i64_w, i32_w]
            rfl
          refine pure_ (i := 11) (N := some 46) (v := ?_) (a' := ?_) #[true, true, true, true, true, true, true, true, true, true, true, true, false, false] rfl rfl (by kernel_rfl) (fun _ _ _ h => h) (Or.inl ⟨by rfl, ?_⟩) ?_ ?_
          rotate_left
          · intro w'
            go_simp
            with_reducible rfl
          rotate_left
          · simp only [Act.put, List.setIfInBounds_toArray, List.set_cons_zero, List.set_cons_succ, i64_w, i32_w]
            rfl
          refine pure_ (i := 12) (N := some 11) (v := ?_) (a' := ?_) #[true, true, true, true, true, true, true, true, true, true, true, true, true, false] rfl rfl (by kernel_rfl) (fun _ _ _ h => h) (Or.inl ⟨by rfl, ?_⟩) ?_ ?_
          rotate_left
          · intro w'
            go_simp
            with_reducible rfl
          rotate_left
          · simp only [Act.put, List.setIfInBounds_toArray, List.set_cons_zero, List.set_cons_succ, i64_w, i32_w]
            rfl
          refine pure_ (i := 13) (N := some 12) (v := ?_) (a' := ?_) #[true, true, true, true, true, true, true, true, true, true, true, true, true, true] rfl rfl (by kernel_rfl) (fun _ _ _ h => h) (Or.inl ⟨by rfl, ?_⟩) ?_ ?_
          rotate_left
          · intro w'
            go_simp
            with_reducible rfl
          rotate_left
          · simp only [Act.put, List.setIfInBounds_toArray, List.set_cons_zero, List.set_cons_succ, i64_w, i32_w]
            rfl
          refine done_ (by kernel_rfl) ?_
          have HB3 := Aside0.mk (below_step HBD.out hb3)
          have HO3 := Aside0.mk (Kd.R_below HOD.out hb3)
          have HG3 := Aside0.mk (Kd.R_below HGD.out hb3)
          have HV3 := Aside0.mk (Kd.R_reads' hv3).2.2
          clear HBD HOD HGD hv3 hb3 y0_ y1_ y2_ hHeld
          go_wp2_with (first | (refine Kd.R_append_rows (Kd.int .u8) (Rr := (Kd.int .u8).K w3) (w0 := w) w.heap.size rfl (.tmp 50) (.tmp 51) 22 5 (.int .u8 0) 1 rfl Try.underlying22 info5 rfl (by decide) (by decide) (.slice AO O.length cO) O cy A3 cy.length d3 (fun _ => True) (fun _ => False) rfl rfl HO3.out HV3.out (fun _ _ h => h) (fun _ h => h.elim) (fun _ _ => trivial) HB3.out HB3.out.size HRM.out ?_; intro v4 w4 HO4 HB4 hg4 hat4))
          go_roundw
          case rel => exact ⟨i + 1, by omega, by go_num, ⟨by rw [HT.out]; exact HO4⟩, HALL, ⟨HB4⟩, ⟨Kd.R_over' HG3.out (fun k hk => Kd.R_typed HO3.out k hk) (by decide) hg4⟩⟩
          case measure => simp [intOf]; omega
      · obtain rfl : i = G.length := by omega
        rw [List.take_length] at HO
        have hno := hits_none bad G hall.out
        obtain ⟨O, hO⟩ : ∃ O, O = G.flatMap (cutB b) := ⟨_, rfl⟩
        rw [← hO] at HO
        obtain ⟨AO, cO, eO⟩ := Kd.R_slice HO.out
        subst eO
        replace hno := Aside0.mk hno
        replace hO := Aside0.mk hO
        go_wp2
        refine bodyPost_ret (v := .tuple #[.slice AO O.length cO, .int .i64 0]) (by simp [results, Try.results104, go_sem]) rfl ?_
        have hez := HEZ.out
        have hrz := HRZ.out
        rw [if_neg (by rw [hno.out]; decide)] at hez hrz
        rw [hez, hrz, ← hO.out]
        exact ⟨_, rfl, HO.out, HBr.out⟩
  · rw [decide_eq_false hR] at hwi
    have hE : readErr (pickI b (laid l)).length (pickB bad (laid l)) off k = 4 := by unfold readErr; rw [hpl, if_neg hR]
    have hrr : readRow (pickI b (laid l)) (pickB bad (laid l)) off k = [] := by unfold readRow; rw [hE, if_neg (by decide)]
    rw [hrr, hE]
    have HWI := Aside0.mk hwi
    clear h hwi hR hrr hE hn hs hln hwl hbl hbd hpl
    go_enter Try.func104, Try.ntmps104
    go_wp2_with (first
      | (go_at_call 33; refine (source_within.calls off k (n : Int) false _ HWI.out).mono ?_; rintro e w1 ⟨rfl, hd⟩; have HB1 := Aside0.mk (below_step HB.out hd.below); clear hd c2 HB))
    refine bodyPost_ret (v := .tuple #[.slice none 0 0, .int .i64 4]) (by simp [results, Try.results104, go_sem]) rfl ?_
    exact ⟨_, rfl, Kd.R_nil _ _ _ _ _, HB1.out⟩
end Go.Proofs.Ytlnikhijfamakaa.Pure
