/- Pieces of sources: they are sources; they are made. No condition. -/
import Derived.Test.YtlnikhijfamakaaPureSourcePiecesS
namespace Go.Proofs.Ytlnikhijfamakaa.Pure
open Go Go.RowKit Go.Maps Go.Proofs.Ytlnikhijfamakaa.QSourceImages Go.Proofs.YtlnikhijfamakaaW.PrintWords Go.Proofs.YtlnikhijfamakaaW.PrintLast Go.Proofs.YtlnikhijfamakaaW.PrintMore
set_option linter.unusedVariables false
set_option linter.unusedSimpArgs false

/-- pieces of a plain source are one -/
theorem pcs_src {w : World} {g T : Nat} {x : Value} {A : Option Addr} {c : Nat} {l : List S41} {n fR fO fS fP : Nat} {b fr : List Int} {bad : List Bool} (h : IsPcs w g T x A c l n) (hs : SrcIs w T x fR fO fS fP b fr bad)
    (hn : n ≤ 65536) (hll : l.length ≤ 4096) (hln : (laid l).length = n) (hwl : ∀ q ∈ laid l, 0 ≤ q ∧ q < (b.length : Int)) (hbl : b.length ≤ 65536) (hfl : fr.length = b.length) (hbd : bad.length = b.length) (hfr : ∀ y ∈ fr, 0 ≤ y ∧ y < 65536) :
    SrcIs w 78 (.pointer (some ⟨g, 0, none⟩)) 104 105 106 103 (pickI b (laid l)) (pickI fr (laid l)) (pickB bad (laid l)) where
  mR := ⟨fun _ => by kernel_rfl, fun _ => by kernel_rfl, enters_of Try.func104 (by kernel_rfl) rfl⟩
  mO := ⟨fun _ => by kernel_rfl, fun _ => by kernel_rfl, enters_of Try.func105 (by kernel_rfl) rfl⟩
  mS := ⟨fun _ => by kernel_rfl, fun _ => by kernel_rfl, enters_of Try.func106 (by kernel_rfl) rfl⟩
  mP := ⟨fun _ => by kernel_rfl, fun _ => by kernel_rfl, enters_of Try.func103 (by kernel_rfl) rfl⟩
  ans := fun W hb =>
    ⟨fun off k => pcs_read W g T x A c l n (h.below hb) fR fO fS fP b fr bad (hs.below hb) hn hll hln hwl hbl hbd off k,
     fun off k => pcs_road W g T x A c l n (h.below hb) fR fO fS fP b fr bad (hs.below hb) hn hll hln (by rw [hfl]; exact hwl) (by rw [hfl]; exact hbl) hfr off k,
     by rw [pickI_len, hln]; exact pcs_size W g T x A c l n (h.below hb),
     pcs_plain W g T x A c l n (h.below hb) fR fO fS fP b fr bad (hs.below hb)⟩
/-- what lies of the pieces that Pieces takes -/
theorem laid_sum (nb : Nat) (hnb : nb ≤ 65536) (l : List S41) (h : ∀ x ∈ l, inR nb x.f0 x.f1) : ((laid l).length : Int) = (l.map S41.f1).sum ∧ ∀ q ∈ laid l, 0 ≤ q ∧ q < (nb : Int) := by
  induction l with
  | nil => exact ⟨rfl, fun q hq => by simp [laid] at hq⟩
  | cons x l ih =>
    obtain ⟨h1, h2⟩ := ih (fun y hy => h y (List.mem_cons_of_mem _ hy))
    have hx := h x (by simp)
    unfold inR at hx
    by_cases hk : okS x
    · rw [laid_ok x l hk]
      refine ⟨?_, fun q hq => ?_⟩
      · rw [List.length_append, bytes_len, List.map_cons, List.sum_cons]
        omega
      · rcases List.mem_append.1 hq with hq | hq
        · have := (mem_bytes x q).1 hq
          omega
        · exact h2 q hq
    · rw [laid_no x l hk]
      have h0 : x.f1 = 0 := by
        unfold okS at hk
        omega
      refine ⟨?_, h2⟩
      rw [h1, List.map_cons, List.sum_cons, h0]
      omega
/-- the error of pieces -/
def pcsErr (nb : Nat) (l : List S41) : Int := if l.length > 4096 then 2 else if (∀ x ∈ l, inR nb x.f0 x.f1) then (if (l.map S41.f1).sum > 65536 then 2 else 0) else 4
/-- what Pieces hands back -/
def PcsEnd (w : World) (nb T : Nat) (x : Value) (l : List S41) (e : Ending) (w' : World) : Prop :=
  (pcsErr nb l = 0 → ∃ g A c, e = .returned (.tuple #[.iface 78 (.pointer (some ⟨g, 0, none⟩)), .int .i64 0]) ∧ IsPcs w' g T x A c l (l.map S41.f1).sum.toNat ∧ k41.R 41 w' w.heap.size (fun _ => True) (.slice A l.length c) l ∧ w.heap.size ≤ g ∧ Below w.heap.size w w') ∧
  (pcsErr nb l ≠ 0 → e = .returned (.tuple #[.nilIface, .int .i64 (pcsErr nb l)]) ∧ Below w.heap.size w w')
theorem sum_up (l : List S41) (i : Nat) (h : i < l.length) : ((l.take (i + 1)).map S41.f1).sum = ((l.take i).map S41.f1).sum + (rd_T41 l (i : Int)).f1 := by
  rw [take_span l i h, List.map_append, List.sum_append]
  simp
theorem sum_bound (nb : Nat) (hnb : nb ≤ 65536) (l : List S41) (i : Nat) (h : i ≤ l.length) (hj : ∀ j, j < i → inR (nb : Int) (rd_T41 l (j : Int)).f0 (rd_T41 l (j : Int)).f1) : 0 ≤ ((l.take i).map S41.f1).sum ∧ ((l.take i).map S41.f1).sum ≤ (i : Int) * 65536 := by
  induction i with
  | zero => simp
  | succ i ih =>
    have h1 := ih (by omega) (fun j hj' => hj j (by omega))
    have h2 := hj i (by omega)
    unfold inR at h2
    rw [sum_up l i (by omega)]
    omega
theorem pcsErr_in {nb : Nat} {l : List S41} (h : pcsErr nb l = 0) : l.length ≤ 4096 ∧ (∀ x ∈ l, inR nb x.f0 x.f1) ∧ (l.map S41.f1).sum ≤ 65536 := by
  unfold pcsErr at h
  by_cases h1 : l.length > 4096
  · rw [if_pos h1] at h; exact absurd h (by decide)
  · rw [if_neg h1] at h
    by_cases h2 : ∀ x ∈ l, inR nb x.f0 x.f1
    · rw [if_pos h2] at h
      by_cases h3 : (l.map S41.f1).sum > 65536
      · rw [if_pos h3] at h; exact absurd h (by decide)
      · exact ⟨by omega, h2, by omega⟩
    · rw [if_neg h2] at h; exact absurd h (by decide)
set_option maxHeartbeats 2000000 in
set_option maxRecDepth 100000 in
theorem pcs_large (T : Nat) (x : Value) (A : Option Addr) (c n : Nat) (w : World) (hn : 4096 < n) :
    Calls Try.prog 17 #[.iface T x, .slice A n c] w fun e w' => e = .returned (.tuple #[.nilIface, .int .i64 2]) ∧ Below w.heap.size w w' := by
  have h1 : decide ((4096 : Int) < (n : Int)) = true := decide_eq_true (by omega)
  clear hn
  go_enter Try.func17, Try.ntmps17
  go_wp2
  refine bodyPost_ret (v := .tuple #[.nilIface, .int .i64 2]) (by simp [results, Try.results17, go_sem]) rfl ?_
  exact ⟨rfl, Below.refl _ _⟩
set_option maxHeartbeats 8000000 in
set_option maxRecDepth 100000 in
theorem pcs_small (w : World) (T : Nat) (x : Value) (fR fO fS fP : Nat) (b fr : List Int) (bad : List Bool) (hs : SrcIs w T x fR fO fS fP b fr bad) (hnb : b.length ≤ 65536) (A : Option Addr) (c : Nat) (l : List S41) (hrl : Kd.C k41 w A l.length l) (hcl : l.length ≤ c) (hl : l.length ≤ 4096) :
    Calls Try.prog 17 #[.iface T x, .slice A l.length c] w fun e w' => PcsEnd w b.length T x l e w' := by
  have hF : slices_Clone_spans.f l = some l := by unfold slices_Clone_spans.f; rw [if_pos (by omega)]
  have HRL := Aside0.mk hrl
  have HCL := Aside0.mk hcl
  have HF := Aside0.mk hF
  have HS := Aside0.mk hs
  have h1 : decide ((4096 : Int) < (l.length : Int)) = false := decide_eq_false (by omega)
  have hu41 := Try.underlying41
  have hu80 := Try.underlying80
  have HB := Aside0.mk (Below.refl w.heap.size w)
  obtain ⟨nb, hnbe⟩ : ∃ nb, nb = b.length := ⟨_, rfl⟩
  have HNB := Aside0.mk hnbe
  rw [← hnbe] at hnb ⊢
  clear hrl hcl hF hs hnbe
  go_enter Try.func17, Try.ntmps17
  go_wp2
  go_loopw [14, 6] (fun vi vs wr => ∃ i : Nat, i ≤ l.length ∧ vi = .int .i64 (i : Int) ∧ vs = .int .i64 ((l.take i).map S41.f1).sum ∧ Aside0 (∀ j, j < i → inR (nb : Int) (rd_T41 l (j : Int)).f0 (rd_T41 l (j : Int)).f1) ∧ Aside0 (Below w.heap.size w wr)) (fun vi _ _ => l.length - (intOf vi).toNat)
  case atStart => exact ⟨0, Nat.zero_le _, rfl, by simp, ⟨fun j hj => absurd hj (by omega)⟩, HB⟩
  case round =>
    clear HB
    obtain ⟨i, hi, rfl, rfl, hall, HB⟩ := hrel
    have hsb := sum_bound nb hnb l i hi hall.out
    have HSU := Aside0.mk (sum_up l i)
    obtain ⟨s, hs⟩ : ∃ s, s = ((l.take i).map S41.f1).sum := ⟨_, rfl⟩
    rw [← hs] at hsb HSU ⊢
    by_cases hlt : i < l.length
    · have hlti : (i : Int) < (l.length : Int) := by omega
      have hnx : IntKind.i64.wrap ((i : Int) + 1) = (i : Int) + 1 := by rw [i64_w]; unfold wrap64; omega
      obtain ⟨ad, rfl, e0, e1⟩ := at_T41 (Kd.C_below HRL.out HB.out) (i : Int) (by omega) hlti
      rw [Int.toNat_natCast] at e0 e1
      have hmem := Aside0.mk (rd_mem l i hlt)
      have HSV := Aside0.mk (HSU.out hlt)
      obtain ⟨y, hy⟩ : ∃ y, y = rd_T41 l (i : Int) := ⟨_, rfl⟩
      rw [← hy] at e0 e1 hmem HSV
      have hX0 := Aside0.mk (blk_new wr (.cells #[.int .i64 y.f0, .int .i64 y.f1] 41))
      have HB1 := Aside0.mk (below_alloc HB.out (.cells #[.int .i64 y.f0, .int .i64 y.f1] 41))
      have hwi := within_val nb hnb y.f0 y.f1
      replace hy := Aside0.mk hy
      replace hs := Aside0.mk hs
      by_cases hr : inR (nb : Int) y.f0 y.f1
      · rw [decide_eq_true hr] at hwi
        have HWI := Aside0.mk hwi
        have hr2 := hr
        unfold inR at hr2
        have hsum : IntKind.i64.wrap (s + y.f1) = s + y.f1 := by rw [i64_w]; unfold wrap64; omega
        have hok := Aside0.mk hr
        clear hwi hr hr2 hsb HSU
        go_wp2
        have y1_ : (wr.alloc (.cells #[.int .i64 y.f0, .int .i64 y.f1] 41)).drew.cell? ⟨wr.heap.size, 0, none⟩ = some (.int .i64 y.f0) := (blk_cell (blk_drew hX0.out) 0).trans rfl
        have y2_ : (wr.alloc (.cells #[.int .i64 y.f0, .int .i64 y.f1] 41)).drew.cell? ⟨wr.heap.size, 1, none⟩ = some (.int .i64 y.f1) := (blk_cell (blk_drew hX0.out) 1).trans rfl
        have HBD := Aside0.mk (below_drew HB1.out)
        have hX1 := Aside0.mk (blk_drew hX0.out)
        have hmS := Aside0.mk HS.out.mS
        clear HB1
        refine start_ (n := 8) (S := fun w' => w'.cell? ⟨wr.heap.size, 0, none⟩ = some (.int .i64 y.f0) ∧ w'.cell? ⟨wr.heap.size, 1, none⟩ = some (.int .i64 y.f1)) (ds := []) #[false, false, false, false, false, false, false, false] (by kernel_rfl) rfl rfl ⟨y1_, y2_⟩ (fun hHeld => ?_)
        generalize (wr.alloc (.cells #[.int .i64 y.f0, .int .i64 y.f1] 41)).drew = wD at y1_ y2_ HBD hX1 hHeld ⊢
        refine pure_ (i := 0) (N := some 18) (v := ?_) (a' := ?_) #[true, false, false, false, false, false, false, false] rfl rfl (by kernel_rfl) (fun _ _ _ h => h) (Or.inl ⟨by rfl, ?_⟩) ?_ ?_
        rotate_left
        · intro w'
          go_simp
          with_reducible rfl
        rotate_left
        · simp only [Act.put, List.setIfInBounds_toArray, List.set_cons_zero, List.set_cons_succ, i64_w, i32_w]
          rfl
        refine pure_ (i := 2) (N := some 20) (v := ?_) (a' := ?_) #[true, false, true, false, false, false, false, false] rfl rfl (by kernel_rfl) (fun _ _ _ h => h) (Or.inl ⟨by rfl, ?_⟩) ?_ ?_
        rotate_left
        · intro w'
          go_simp
          with_reducible rfl
        rotate_left
        · simp only [Act.put, List.setIfInBounds_toArray, List.set_cons_zero, List.set_cons_succ, i64_w, i32_w]
          rfl
        refine pure_ (i := 4) (N := some 22) (v := ?_) (a' := ?_) #[true, false, true, false, true, false, false, false] rfl rfl (by kernel_rfl) (fun _ _ _ h => h) (Or.inl ⟨by rfl, ?_⟩) ?_ ?_
        rotate_left
        · intro w'
          go_simp
          with_reducible rfl
        rotate_left
        · simp only [Act.put, List.setIfInBounds_toArray, List.set_cons_zero, List.set_cons_succ, i64_w, i32_w]
          rfl
        refine take_ (i := 1) (N := some 19) (v := ?_) (a' := ?_) #[true, true, true, false, true, false, false, false] rfl rfl (by kernel_rfl) (fun _ _ _ h => h) (Or.inl ⟨by rfl, ?_⟩) hHeld ?_ ?_
        rotate_left
        · rintro w' ⟨s0, s1⟩
          go_simp
          with_reducible rfl
        rotate_left
        · simp only [Act.put, List.setIfInBounds_toArray, List.set_cons_zero, List.set_cons_succ, i64_w, i32_w]
          rfl
        refine take_ (i := 3) (N := some 21) (v := ?_) (a' := ?_) #[true, true, true, true, true, false, false, false] rfl rfl (by kernel_rfl) (fun _ _ _ h => h) (Or.inl ⟨by rfl, ?_⟩) hHeld ?_ ?_
        rotate_left
        · rintro w' ⟨s0, s1⟩
          go_simp
          with_reducible rfl
        rotate_left
        · simp only [Act.put, List.setIfInBounds_toArray, List.set_cons_zero, List.set_cons_succ, i64_w, i32_w]
          rfl
        refine one_ (i := 5) (N := some 23) #[true, true, true, true, true, true, false, false] rfl rfl (by kernel_rfl) (by decide) (fun K hK => ?_)
        refine call_ fS #[x] (by rfl) rfl ?_ ?_
        · unfold execOp
          simp [resolve, Deferred.ofValue, invoke, callMethod, Act.eval]
          rw [show 167 + Made.depth = 267 from rfl, hmS.out.run]
          exact hmS.out.ent _ _
        with_reducible refine ((HS.out.ans _ HBD.out).size).mono ?_
        rintro e w3 ⟨rfl, hb3⟩
        refine ⟨_, rfl, ?_⟩
        refine hK.out _ _ ⟨pw_cell_below hb3 y1_, pw_cell_below hb3 y2_⟩ (fun hHeld => ?_)
        clear hK K
        refine norm_ (a' := ?_) ?_ ?_
        rotate_left
        · show Act.put _ (some 23) _ = _
          simp only [Act.put, List.setIfInBounds_toArray, List.set_cons_zero, List.set_cons_succ, i64_w, i32_w]
          rfl
        refine one_ (i := 6) (N := some 24) #[true, true, true, true, true, true, true, false] rfl rfl (by kernel_rfl) (by decide) (fun K hK => ?_)
        refine goes_ Try.func33 (by kernel_rfl) rfl #[.int .i64 y.f0, .int .i64 y.f1, .int .i64 (b.length : Int)] (by rfl) rfl rfl (by simp only [List.map_toArray, List.map_cons, List.map_nil]; rfl) ?_
        with_reducible refine (source_within.calls y.f0 y.f1 (b.length : Int) true _ (by rw [← HNB.out]; exact HWI.out)).mono ?_
        rintro e w4 ⟨rfl, hd4⟩
        refine ⟨_, rfl, ?_⟩
        refine hK.out _ _ ⟨pw_cell_below (below_step hb3 hd4.below) y1_, pw_cell_below (below_step hb3 hd4.below) y2_⟩ (fun hHeld => ?_)
        clear hK K
        refine norm_ (a' := ?_) ?_ ?_
        rotate_left
        · show Act.put _ (some 24) _ = _
          simp only [Act.put, List.setIfInBounds_toArray, List.set_cons_zero, List.set_cons_succ, i64_w, i32_w]
          rfl
        refine pure_ (i := 7) (N := some 25) (v := ?_) (a' := ?_) #[true, true, true, true, true, true, true, true] rfl rfl (by kernel_rfl) (fun _ _ _ h => h) (Or.inl ⟨by rfl, ?_⟩) ?_ ?_
        rotate_left
        · intro w'
          go_simp
          with_reducible rfl
        rotate_left
        · simp only [Act.put, List.setIfInBounds_toArray, List.set_cons_zero, List.set_cons_succ, i64_w, i32_w]
          rfl
        refine done_ (by kernel_rfl) ?_
        have HB4 := Aside0.mk (below_step HBD.out (below_step hb3 hd4.below))
        have hX4 := blk_below hX1.out (below_step hb3 hd4.below)
        have x0 : w4.cell? ⟨wr.heap.size, 0, none⟩ = some (.int .i64 y.f0) := (blk_cell hX4 0).trans rfl
        have x1 : w4.cell? ⟨wr.heap.size, 1, none⟩ = some (.int .i64 y.f1) := (blk_cell hX4 1).trans rfl
        clear hX4 hX1 hX0 HBD hb3 hd4 y1_ y2_ hHeld hmS
        go_wp2
        go_roundw
        case rel => exact ⟨i + 1, by omega, by go_num, by rw [HSV.out], ⟨fun j hj => by
          by_cases e : j = i
          · rw [e, ← hy.out]; exact hok.out
          · exact hall.out j (by omega)⟩, HB4⟩
        case measure => simp [intOf]; omega
      · rw [decide_eq_false hr] at hwi
        have HWI := Aside0.mk hwi
        have hno := Aside0.mk hr
        clear hwi hr hsb HSU
        go_wp2
        have y1_ : (wr.alloc (.cells #[.int .i64 y.f0, .int .i64 y.f1] 41)).drew.cell? ⟨wr.heap.size, 0, none⟩ = some (.int .i64 y.f0) := (blk_cell (blk_drew hX0.out) 0).trans rfl
        have y2_ : (wr.alloc (.cells #[.int .i64 y.f0, .int .i64 y.f1] 41)).drew.cell? ⟨wr.heap.size, 1, none⟩ = some (.int .i64 y.f1) := (blk_cell (blk_drew hX0.out) 1).trans rfl
        have HBD := Aside0.mk (below_drew HB1.out)
        have hX1 := Aside0.mk (blk_drew hX0.out)
        have hmS := Aside0.mk HS.out.mS
        clear HB1
        refine start_ (n := 8) (S := fun w' => w'.cell? ⟨wr.heap.size, 0, none⟩ = some (.int .i64 y.f0) ∧ w'.cell? ⟨wr.heap.size, 1, none⟩ = some (.int .i64 y.f1)) (ds := []) #[false, false, false, false, false, false, false, false] (by kernel_rfl) rfl rfl ⟨y1_, y2_⟩ (fun hHeld => ?_)
        generalize (wr.alloc (.cells #[.int .i64 y.f0, .int .i64 y.f1] 41)).drew = wD at y1_ y2_ HBD hX1 hHeld ⊢
        refine pure_ (i := 0) (N := some 18) (v := ?_) (a' := ?_) #[true, false, false, false, false, false, false, false] rfl rfl (by kernel_rfl) (fun _ _ _ h => h) (Or.inl ⟨by rfl, ?_⟩) ?_ ?_
        rotate_left
        · intro w'
          go_simp
          with_reducible rfl
        rotate_left
        · simp only [Act.put, List.setIfInBounds_toArray, List.set_cons_zero, List.set_cons_succ, i64_w, i32_w]
          rfl
        refine pure_ (i := 2) (N := some 20) (v := ?_) (a' := ?_) #[true, false, true, false, false, false, false, false] rfl rfl (by kernel_rfl) (fun _ _ _ h => h) (Or.inl ⟨by rfl, ?_⟩) ?_ ?_
        rotate_left
        · intro w'
          go_simp
          with_reducible rfl
        rotate_left
        · simp only [Act.put, List.setIfInBounds_toArray, List.set_cons_zero, List.set_cons_succ, i64_w, i32_w]
          rfl
        refine pure_ (i := 4) (N := some 22) (v := ?_) (a' := ?_) #[true, false, true, false, true, false, false, false] rfl rfl (by kernel_rfl) (fun _ _ _ h => h) (Or.inl ⟨by rfl, ?_⟩) ?_ ?_
        rotate_left
        · intro w'
          go_simp
          with_reducible rfl
        rotate_left
        · simp only [Act.put, List.setIfInBounds_toArray, List.set_cons_zero, List.set_cons_succ, i64_w, i32_w]
          rfl
        refine take_ (i := 1) (N := some 19) (v := ?_) (a' := ?_) #[true, true, true, false, true, false, false, false] rfl rfl (by kernel_rfl) (fun _ _ _ h => h) (Or.inl ⟨by rfl, ?_⟩) hHeld ?_ ?_
        rotate_left
        · rintro w' ⟨s0, s1⟩
          go_simp
          with_reducible rfl
        rotate_left
        · simp only [Act.put, List.setIfInBounds_toArray, List.set_cons_zero, List.set_cons_succ, i64_w, i32_w]
          rfl
        refine take_ (i := 3) (N := some 21) (v := ?_) (a' := ?_) #[true, true, true, true, true, false, false, false] rfl rfl (by kernel_rfl) (fun _ _ _ h => h) (Or.inl ⟨by rfl, ?_⟩) hHeld ?_ ?_
        rotate_left
        · rintro w' ⟨s0, s1⟩
          go_simp
          with_reducible rfl
        rotate_left
        · simp only [Act.put, List.setIfInBounds_toArray, List.set_cons_zero, List.set_cons_succ, i64_w, i32_w]
          rfl
        refine one_ (i := 5) (N := some 23) #[true, true, true, true, true, true, false, false] rfl rfl (by kernel_rfl) (by decide) (fun K hK => ?_)
        refine call_ fS #[x] (by rfl) rfl ?_ ?_
        · unfold execOp
          simp [resolve, Deferred.ofValue, invoke, callMethod, Act.eval]
          rw [show 167 + Made.depth = 267 from rfl, hmS.out.run]
          exact hmS.out.ent _ _
        with_reducible refine ((HS.out.ans _ HBD.out).size).mono ?_
        rintro e w3 ⟨rfl, hb3⟩
        refine ⟨_, rfl, ?_⟩
        refine hK.out _ _ ⟨pw_cell_below hb3 y1_, pw_cell_below hb3 y2_⟩ (fun hHeld => ?_)
        clear hK K
        refine norm_ (a' := ?_) ?_ ?_
        rotate_left
        · show Act.put _ (some 23) _ = _
          simp only [Act.put, List.setIfInBounds_toArray, List.set_cons_zero, List.set_cons_succ, i64_w, i32_w]
          rfl
        refine one_ (i := 6) (N := some 24) #[true, true, true, true, true, true, true, false] rfl rfl (by kernel_rfl) (by decide) (fun K hK => ?_)
        refine goes_ Try.func33 (by kernel_rfl) rfl #[.int .i64 y.f0, .int .i64 y.f1, .int .i64 (b.length : Int)] (by rfl) rfl rfl (by simp only [List.map_toArray, List.map_cons, List.map_nil]; rfl) ?_
        with_reducible refine (source_within.calls y.f0 y.f1 (b.length : Int) false _ (by rw [← HNB.out]; exact HWI.out)).mono ?_
        rintro e w4 ⟨rfl, hd4⟩
        refine ⟨_, rfl, ?_⟩
        refine hK.out _ _ ⟨pw_cell_below (below_step hb3 hd4.below) y1_, pw_cell_below (below_step hb3 hd4.below) y2_⟩ (fun hHeld => ?_)
        clear hK K
        refine norm_ (a' := ?_) ?_ ?_
        rotate_left
        · show Act.put _ (some 24) _ = _
          simp only [Act.put, List.setIfInBounds_toArray, List.set_cons_zero, List.set_cons_succ, i64_w, i32_w]
          rfl
        refine pure_ (i := 7) (N := some 25) (v := ?_) (a' := ?_) #[true, true, true, true, true, true, true, true] rfl rfl (by kernel_rfl) (fun _ _ _ h => h) (Or.inl ⟨by rfl, ?_⟩) ?_ ?_
        rotate_left
        · intro w'
          go_simp
          with_reducible rfl
        rotate_left
        · simp only [Act.put, List.setIfInBounds_toArray, List.set_cons_zero, List.set_cons_succ, i64_w, i32_w]
          rfl
        refine done_ (by kernel_rfl) ?_
        have HB4 := Aside0.mk (below_step HBD.out (below_step hb3 hd4.below))
        have hX4 := blk_below hX1.out (below_step hb3 hd4.below)
        have x0 : w4.cell? ⟨wr.heap.size, 0, none⟩ = some (.int .i64 y.f0) := (blk_cell hX4 0).trans rfl
        have x1 : w4.cell? ⟨wr.heap.size, 1, none⟩ = some (.int .i64 y.f1) := (blk_cell hX4 1).trans rfl
        clear hX4 hX1 hX0 HBD hb3 hd4 y1_ y2_ hHeld hmS
        go_wp2
        refine bodyPost_ret (v := .tuple #[.nilIface, .int .i64 4]) (by simp [results, Try.results17, go_sem]) rfl ?_
        have hse : pcsErr nb l = 4 := by unfold pcsErr; rw [if_neg (by omega), if_neg (fun h => hno.out (h y hmem.out))]
        exact ⟨fun h => absurd h (by rw [hse]; decide), fun _ => ⟨by rw [hse], HB4.out⟩⟩
    · obtain rfl : i = l.length := by omega
      rw [List.take_length] at hs
      by_cases hle : (65536 : Int) < s
      · have h2 : decide ((65536 : Int) < s) = true := decide_eq_true hle
        replace hs := Aside0.mk hs
        have HLE := Aside0.mk hle
        clear hle hsb HSU
        go_wp2
        refine bodyPost_ret (v := .tuple #[.nilIface, .int .i64 2]) (by simp [results, Try.results17, go_sem]) rfl ?_
        have hse : pcsErr nb l = 2 := by unfold pcsErr; rw [if_neg (by omega), if_pos (all_rd l _ hall.out), if_pos (by have h1 := HLE.out; rw [hs.out] at h1; omega)]
        exact ⟨fun h => absurd h (by rw [hse]; decide), fun _ => ⟨by rw [hse], HB.out⟩⟩
      · have h2 : decide ((65536 : Int) < s) = false := decide_eq_false hle
        have HSB := Aside0.mk hsb
        replace hs := Aside0.mk hs
        have HLE := Aside0.mk hle
        clear hle hsb HSU
        go_wp2_with (first
          | (go_at_call 35; refine (slices_Clone_spans.calls A c l l _ (Kd.C_below HRL.out HB.out) HCL.out HF.out).mono ?_; rintro e w5 ⟨v1, rfl, hv1, hb5⟩; obtain ⟨A1, c1, e1⟩ := Kd.R_slice hv1; subst e1; have HBS := Aside0.mk HB.out; have HB5 := Aside0.mk (below_step HB.out hb5); replace hv1 := Aside0.mk hv1; clear hb5 HB))
        refine bodyPost_ret (v := .tuple #[.iface 78 (.pointer (some ⟨w5.heap.size, 0, none⟩)), .int .i64 0]) (by simp [results, Try.results17, go_sem]) rfl ?_
        have hse : pcsErr nb l = 0 := by unfold pcsErr; rw [if_neg (by omega), if_pos (all_rd l _ hall.out), if_neg (by have h1 := HLE.out; rw [hs.out] at h1; omega)]
        have hal := below_alloc (Below.refl w5.heap.size w5) (.cells #[.iface T x, .slice A1 l.length c1, .int .i64 s] 80)
        refine ⟨fun _ => ⟨w5.heap.size, A1, c1, rfl, ?_, Kd.R_below (Kd.R_lower hv1.out HBS.out.size) hal, HB5.out.size, below_step HB5.out hal⟩, fun h => absurd hse h⟩
        have r1 := Kd.R_reads' hv1.out
        refine ⟨?_, Kd.C_below r1.2.2 hal, r1.2.1⟩
        rw [← hs.out, Int.toNat_of_nonneg HSB.out.1]
        exact blk_new _ _
end Go.Proofs.Ytlnikhijfamakaa.Pure
