/- Arrays joined: the walk of the law where no whole comes of the members. No condition. -/
import Derived.Test.YtlnikhijfamakaaPureArrayJoinsZ7
import Derived.WalkLawsBesides
import Derived.LoopN
namespace Go.Proofs.Ytlnikhijfamakaa.Pure
open Go.Proofs.Ytlnikhijfamakaa.ArrayPlain
open Go Go.RowKit Go.Maps Go.Proofs.Ytlnikhijfamakaa.QArrayJoins Go.Proofs.YtlnikhijfamakaaW.PrintWords Go.Proofs.YtlnikhijfamakaaW.PrintLast Go.Proofs.YtlnikhijfamakaaW.PrintMore
set_option linter.unusedVariables false
set_option linter.unusedSimpArgs false
theorem WE.roadLen {mm : List (List Int)} {k m c : Int} {l : Bool} {Cn rows : Nat} (h : WE mm k m c l Cn rows) (W : Nat) (hW : widthOf k m = (W : Int)) (hW1 : 1 ≤ W) (o n : Nat) (ho : o + n ≤ rows * W * Cn) :
    (laid (spansR mm.length (sizeP mm : Int) (goneOf k mm) (runF k m c l (firstP 0 mm) n (o : Int) (n : Int)))).length ≤ 8 * n := by
  obtain ⟨hs, hM⟩ := h.small
  rw [h.roads W hW hW1 o n ho]
  refine roadF_len _ Cn (rows * W * Cn) (fun o ho => ?_) n o n ho
  rw [h.lenAt_of W hW o ho]
  have := plcL_len mm (sizeP mm) (memAt k m l (firstP 0 mm) Cn W o) (locN Cn W o) mm.length
  omega
set_option maxHeartbeats 8000000 in
set_option maxRecDepth 100000 in
/-- what is wrong is told alike -/
theorem aj_wrong (A0 : Option Addr) (c0 : Nat) (mm : List (List Int)) (k m c : Int) (l : Bool) (off n : Int) (w : World) (hr : Kd.C (Kd.slice 5 (Kd.int .u8)) w A0 mm.length mm) (hc0 : mm.length ≤ c0) (hl : mm.length ≤ 5864062014805) (hsz : (sizeP mm) ≤ 140737488355328) (hsh : ∀ i, i < mm.length → (rd_L3 mm (i : Int)).length ≤ 140737488355328) (hk : -9223372036854775808 ≤ k ∧ k ≤ 9223372036854775807) (hJ : joinR k m c l mm ≠ 0) :
    Calls Try.prog 5 #[.slice A0 mm.length c0, .agg #[.int .i64 k, .int .i64 m, .int .i64 c, .bool l], .int .i64 off, .int .i64 n] w fun e w' => e = .returned (.bool true) ∧ Below w.heap.size w w' := by
  obtain ⟨ka, hka⟩ := arrays_ev.rounds
  have HKA := Aside0.mk hka
  obtain ⟨kj, hkj⟩ := (joinErr_ev k m c l hk mm hl hsh).rounds
  have hjc := fun W (hb : Below w.heap.size w W) => join_calls A0 c0 mm k m c l W (Kd.C_below hr hb) hc0 hl hsz hsh hk
  unfold JoinEnd at hjc
  obtain ⟨J, hJe⟩ : ∃ J, J = joinR k m c l mm := ⟨_, rfl⟩
  rw [← hJe] at hkj hJ hjc
  have HKJ := Aside0.mk hkj
  have HJC := Aside0.mk hjc
  have HJ := Aside0.mk hJ
  have HR := Aside0.mk hr
  have HC0 := Aside0.mk hc0
  have hn1 : (J != 0) = true := bne_iff_ne.mpr hJ
  have hn2 : ¬ (J = 0) := hJ
  have hB := Aside0.mk (below_alloc (Below.refl w.heap.size w) (.cells #[.int .i64 k, .int .i64 m, .int .i64 c, .bool l] 53))
  have hA := Aside0.mk (blk_new w (.cells #[.int .i64 k, .int .i64 m, .int .i64 c, .bool l] 53))
  have hu31 := Try.underlying53
  clear hr hc0 hl hsz hsh hk hJ hka hkj hjc hJe
  go_enter Try.func5, Try.ntmps5
  go_wp2_with (first
    | (go_at_call 19; refine (HJC.out _ hB.out).mono ?_; rintro e w1 ⟨_, h2_⟩; obtain ⟨rfl, hb1⟩ := h2_ HJ.out; have HB1 := Aside0.mk (below_step hB.out hb1); have HA1 := Aside0.mk (blk_below hA.out hb1); clear hb1 h2_ hA; have q0 : w1.cell? ⟨w.heap.size, 0, none⟩ = some (.int .i64 k) := (blk_cell HA1.out 0).trans rfl; have q1 : w1.cell? ⟨w.heap.size, 1, none⟩ = some (.int .i64 m) := (blk_cell HA1.out 1).trans rfl; have q2 : w1.cell? ⟨w.heap.size, 2, none⟩ = some (.int .i64 c) := (blk_cell HA1.out 2).trans rfl; have q3 : w1.cell? ⟨w.heap.size, 3, none⟩ = some (.bool l) := (blk_cell HA1.out 3).trans rfl)
    | (go_at_call 20; refine (wrackref1_JoinErr.calls kj A0 c0 mm k m c l J _ (Kd.C_below HR.out HB1.out) HC0.out HKJ.out).mono ?_; rintro e w2 ⟨rfl, hb2⟩; have HB2 := Aside0.mk (below_step HB1.out hb2); clear hb2 q0 q1 q2 q3 HB1)
    | (go_at_call 21; refine (wracklaw1_arrays.calls ka true _ HKA.out).mono ?_; rintro e w3 ⟨rfl, hb3⟩; have HB2 := Aside0.mk (below_step HB2.out hb3); clear hb3))
  go_ret
  exact ⟨rfl, HB2.out⟩
end Go.Proofs.Ytlnikhijfamakaa.Pure
