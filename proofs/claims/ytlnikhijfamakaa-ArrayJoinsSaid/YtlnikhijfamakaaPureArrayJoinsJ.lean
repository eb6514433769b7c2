/- Arrays joined: joined. No condition. -/
import Derived.Test.YtlnikhijfamakaaPureArrayJoinsO
import Derived.WalkLawsBesides
import Derived.LoopN
namespace Go.Proofs.Ytlnikhijfamakaa.Pure
open Go.Proofs.Ytlnikhijfamakaa.ArrayPlain
open Go Go.RowKit Go.Maps Go.Proofs.Ytlnikhijfamakaa.QArrayJoins Go.Proofs.YtlnikhijfamakaaW.PrintWords Go.Proofs.YtlnikhijfamakaaW.PrintLast Go.Proofs.YtlnikhijfamakaaW.PrintMore
set_option linter.unusedVariables false
set_option linter.unusedSimpArgs false
theorem typed_neA {w : World} {x y : Nat} {t t' : Nat} (h : ∃ c : Array Value, w.heap[x]? = some (.cells c t (0, 0))) (h' : ∃ c : Array Value, w.heap[y]? = some (.cells c t' (0, 0))) (hne : t ≠ t') : x ≠ y := by
  obtain ⟨c, e⟩ := h
  obtain ⟨c', e'⟩ := h'
  exact blk_ne e e' hne
theorem grown_none {w W : World} (h : w.grownBy W none) : Below w.heap.size w W := pw_below_grown (Below.refl w.heap.size w) none (Nat.le_refl _) h (fun k hk => by cases hk)
theorem info22_ : (Try.prog.info? 22).map (fun i => (i.zero, i.size, i.bytes)) = some (some (.slice none 0 0), 1, 24) := by kernel_rfl
/-- rows of bytes that are copied one after the other -/
structure MR (w : World) (L g M k : Nat) (V : Nat → Value) (f : Nat → List Int) : Prop where
  outer : ∃ cur, w.heap[g]? = some (.cells cur 22 (0, 0)) ∧ M ≤ cur.size ∧ ∀ i, i < k → cur[i]? = some (V i)
  rows : ∀ i, i < k → (Kd.int .u8).R 5 w L (fun _ => True) (V i) (f i)
  lg : L ≤ g
section
variable {w W : World} {L g M k : Nat} {V : Nat → Value} {f : Nat → List Int}
theorem MR.below (h : MR w L g M k V f) (hb : Below w.heap.size w W) : MR W L g M k V f := by
  obtain ⟨cur, hc, h1, h2⟩ := h.outer
  exact ⟨⟨cur, blk_below hc hb, h1, h2⟩, fun i hi => Kd.R_below (h.rows i hi) hb, h.lg⟩
theorem MR.any (h : MR w L g M k V f) {i : Nat} (hi : i < M) : ∃ u, w.cell? ⟨g, i, none⟩ = some u ∧ w.frozen? ⟨g, i, none⟩ = false := by
  obtain ⟨cur, hc, h1, _⟩ := h.outer
  exact ⟨_, (blk_cell hc i).trans (Array.getElem?_eq_getElem (show i < cur.size by omega)), blk_frozen hc i⟩
def updV {α : Type} (f : Nat → α) (i : Nat) (x : α) : Nat → α := fun j => if j = i then x else f j
theorem MR.push (h : MR w L g M k V f) (hk : k < M) {v : Value} (hR : (Kd.int .u8).R 5 w L (fun _ => True) v (f k)) : MR (w.setCell ⟨g, k, none⟩ v) L g M (k + 1) (updV V k v) f := by
  obtain ⟨cur, hc, h1, h2⟩ := h.outer
  refine ⟨⟨cur.setIfInBounds k v, blk_put hc k v rfl, by rw [Array.size_setIfInBounds]; exact h1, fun i hi => ?_⟩, fun i hi => ?_, h.lg⟩
  · unfold updV
    by_cases e : i = k
    · subst e; rw [if_pos rfl, Array.getElem?_setIfInBounds, if_pos rfl, if_pos (by omega)]
    · rw [if_neg e, Array.getElem?_setIfInBounds, if_neg (fun h => e h.symm)]; exact h2 i (by omega)
  · unfold updV
    by_cases e : i = k
    · subst e; rw [if_pos rfl]
      exact Kd.R_mono (Kd.R_far (p := ⟨g, i, none⟩) (Kd.R_types hR hc (by decide)) (fun x hx => hx.2) v) (fun _ hx => hx.1)
    · rw [if_neg e]
      exact Kd.R_mono (Kd.R_far (p := ⟨g, k, none⟩) (Kd.R_types (h.rows i (by omega)) hc (by decide)) (fun x hx => hx.2) v) (fun _ hx => hx.1)
theorem MR.other (h : MR w L g M k V f) {p : Addr} {t : TypeId} {cs : Array Value} (hp : w.heap[p.block]? = some (.cells cs t (0, 0))) (h5 : 5 ≠ t) (h22 : 22 ≠ t) (v : Value) : MR (w.setCell p v) L g M k V f := by
  obtain ⟨cur, hc, h1, h2⟩ := h.outer
  refine ⟨⟨cur, blk_far hc (p := p) (typed_neA ⟨_, hc⟩ ⟨_, hp⟩ h22) v, h1, h2⟩, fun i hi => ?_, h.lg⟩
  exact Kd.R_mono (Kd.R_far (p := p) (Kd.R_types (h.rows i hi) hp (fun q hq => by
    have : q = 5 := by simpa [Kd.int, Kd.scalar] using hq
    rw [this]
    exact h5)) (fun x hx => hx.2) v) (fun _ hx => hx.1)
theorem MR.reads (h : MR w L g M M V f) (hm : M ≤ 9223372036854775807) : Kd.C (Kd.slice 5 (Kd.int .u8)) w (some ⟨g, 0, none⟩) M ((List.range M).map f) := by
  obtain ⟨cur, hc, h1, h2⟩ := h.outer
  refine ⟨by simp, hm, fun _ => ⟨_, rfl, fun j p hj => ?_⟩⟩
  have hjm : j < M := by have := (List.getElem?_eq_some_iff.1 hj).1; simpa using this
  rw [List.getElem?_map, List.getElem?_range hjm] at hj
  obtain rfl : f j = p := by simpa using hj
  obtain ⟨A, c, e, hl, hC⟩ := Kd.R_reads (h.rows j hjm)
  refine ⟨[V j], rfl, ⟨A, c, by rw [e], hl, hC⟩, fun i u hu => ?_⟩
  match i, hu with
  | 0, hu =>
    obtain rfl := Option.some.inj hu
    show w.cell? (Addr.add ⟨g, 0, none⟩ (j * 1 + 0)) = _
    rw [add_plain, Nat.mul_one, Nat.add_zero]
    exact (blk_cell hc j).trans (h2 j hjm)
end
theorem rows_map (mm : List (List Int)) : (List.range mm.length).map (fun (i : Nat) => rd_L3 mm (i : Int)) = mm := by
  apply List.ext_getElem?
  intro i
  rw [List.getElem?_map]
  by_cases h : i < mm.length
  · rw [List.getElem?_range h, List.getElem?_eq_getElem h]
    simp [rd_L3, List.getD_eq_getElem?_getD, h]
  · rw [List.getElem?_eq_none (by simpa using h), List.getElem?_eq_none (by simpa using h)]
    rfl
theorem mr_start {w : World} {L M : Nat} {ok : Nat → Prop} {v : Value} {xs : List (List Int)} (h : (Kd.slice 5 (Kd.int .u8)).R 22 w L ok v xs) (hm : xs.length = M) (hp : 0 < M) (V : Nat → Value) (f : Nat → List Int) : ∃ g cO, v = .slice (some ⟨g, 0, none⟩) M cO ∧ M ≤ cO ∧ MR w L g M 0 V f := by
  subst hm
  obtain ⟨inner, ho⟩ := Kd.R_own h
  rcases ho.2 with ⟨_, h0⟩ | ⟨g, cap, cur, rfl, hb, hh, hnc, hcm, hcs, hct⟩
  · omega
  · have hcs2 : cur.size = cap * 1 := hcs
    exact ⟨g, cap, rfl, hnc, ⟨⟨cur, hh, by omega, fun i hi => absurd hi (by omega)⟩, fun i hi => absurd hi (by omega), hb⟩⟩
/-- the error of a join -/
def lostMax (k m : Int) : Int := if k = 0 then 0 else if k = 1 then m - 1 else 1
def joinR (k m c : Int) (l : Bool) (mm : List (List Int)) : Int :=
  if arrErrOf k m c l ≠ 0 then arrErrOf k m c l else if (mm.length : Int) ≠ m ∨ ¬ evenP (sizeP mm) mm ∨ (sizeP mm : Int) % (64 * c) ≠ 0 then 3
  else if 65536 / m < (sizeP mm : Int) then 2 else if lostMax k m < ((goneP 0 mm).length : Int) then 20 else 0
def goneOf (k : Int) (mm : List (List Int)) : Int := if k = 2 ∧ (goneP 0 mm).length = 1 then rd (goneP 0 mm) 0 else -1
def JoinEnd (w : World) (k m c : Int) (l : Bool) (mm : List (List Int)) (e : Ending) (w' : World) : Prop :=
  (joinR k m c l mm = 0 → ∃ g AM cM, e = .returned (.tuple #[.iface 85 (.pointer (some ⟨g, 0, none⟩)), .int .i64 0]) ∧ IsWhole w' g k m c l AM cM mm (sizeP mm : Int) (goneOf k mm) ∧ Below w.heap.size w w') ∧
  (joinR k m c l mm ≠ 0 → e = .returned (.tuple #[.nilIface, .int .i64 (joinR k m c l mm)]) ∧ Below w.heap.size w w')
set_option maxHeartbeats 16000000 in
set_option maxRecDepth 100000 in
theorem join_calls (A0 : Option Addr) (c0 : Nat) (mm : List (List Int)) (k m c : Int) (l : Bool) (w : World) (hr : Kd.C (Kd.slice 5 (Kd.int .u8)) w A0 mm.length mm) (hc0 : mm.length ≤ c0) (hl : mm.length ≤ 5864062014805) (hsz : (sizeP mm) ≤ 140737488355328) (hsh : ∀ i, i < mm.length → (rd_L3 mm (i : Int)).length ≤ 140737488355328) (hk : -9223372036854775808 ≤ k ∧ k ≤ 9223372036854775807) :
    Calls Try.prog 19 #[.slice A0 mm.length c0, .agg #[.int .i64 k, .int .i64 m, .int .i64 c, .bool l]] w fun e w' => JoinEnd w k m c l mm e w' := by
  have HCK := Aside0.mk (check_val 0 k m c l)
  obtain ⟨km, hkm⟩ := (miss_ev mm hl).rounds
  have HKM := Aside0.mk hkm
  have HR := Aside0.mk hr
  have HC0 := Aside0.mk hc0
  have HSHORT := Aside0.mk hsh
  have HB0 := Aside0.mk (below_alloc (Below.refl w.heap.size w) (.cells #[.int .i64 k, .int .i64 m, .int .i64 c, .bool l] 53))
  have HA0 := Aside0.mk (blk_new w (.cells #[.int .i64 k, .int .i64 m, .int .i64 c, .bool l] 53))
  have hu53 := Try.underlying53
  have hu87 := Try.underlying87
  clear hkm hr hc0 hsh
  by_cases hE : arrErrOf k m c l = 0
  · have hg := err_good hE
    have HG := Aside0.mk hg
    obtain ⟨C, hC⟩ : ∃ C, C = 64 * c := ⟨_, rfl⟩
    have hcv := chunk_val hg
    rw [← hC] at hcv
    have HCV := Aside0.mk hcv
    have hg2 := hg
    unfold Good at hg2
    have hCb : 64 ≤ C ∧ C ≤ 1024 := by omega
    obtain ⟨sz, hse⟩ : ∃ sz, sz = sizeP mm := ⟨_, rfl⟩
    have hjr : joinR k m c l mm = if (mm.length : Int) ≠ m ∨ ¬ evenP sz mm ∨ (sz : Int) % C ≠ 0 then 3 else if 65536 / m < (sz : Int) then 2 else if lostMax k m < ((goneP 0 mm).length : Int) then 20 else 0 := by
      unfold joinR; rw [if_neg (by rw [hE]; decide), hC, hse]
    rw [← hse] at hsz
    by_cases h1 : (mm.length : Int) = m
    · by_cases h2 : evenP sz mm
      · have hmr : missR mm = (goneP 0 mm, (sz : Int), true) := by unfold missR; rw [← hse, if_pos h2]
        rw [hmr] at HKM
        obtain ⟨lost, hlo⟩ : ∃ lost, lost = goneP 0 mm := ⟨_, rfl⟩
        have hll := goneP_len 0 mm
        rw [← hlo] at HKM hjr hll
        have hcz : ¬ C = 0 := by omega
        have htm : Int.tmod (sz : Int) C = (sz : Int) % C := Int.tmod_eq_emod_of_nonneg (by omega)
        by_cases h3 : (sz : Int) % C = 0
        · rw [if_neg (by rintro (h | h | h) <;> first | exact h h1 | exact h h2 | exact h h3)] at hjr
          have hmz : ¬ m = 0 := by omega
          have htd : Int.tdiv 65536 m = 65536 / m := Int.tdiv_eq_ediv_of_nonneg (by omega)
          by_cases h4 : 65536 / m < (sz : Int)
          · rw [if_pos h4] at hjr
            rw [h3] at htm
            have hdb : 0 ≤ 65536 / m ∧ 65536 / m ≤ 65536 := ⟨Int.ediv_nonneg (by omega) (by omega), Int.ediv_le_self _ (by omega)⟩
            obtain ⟨d, hd⟩ : ∃ d, d = 65536 / m := ⟨_, rfl⟩
            rw [← hd] at htd h4 hdb
            have hwd : IntKind.i64.wrap d = d := by rw [i64_w]; unfold wrap64; omega
            have n4 : decide (d < (sz : Int)) = true := decide_eq_true h4
            have n1 : ((mm.length : Int) != m) = false := by simp [h1]
            clear h1 h2 h3 h4 hmr hd hlo
            have hck0 := HCK.out
            rw [hE] at hck0
            have HCK0 := Aside0.mk hck0
            have HJ := Aside0.mk hjr
            clear hck0 hE hjr hg hg2 hC hcv hse hsz hl
            go_enter Try.func19, Try.ntmps19
            go_wp2_with (first
              | (go_at_call 36; refine (array_Check.calls 3 k m c l 0 _ HCK0.out).mono ?_; rintro e w1 ⟨rfl, hb1⟩; have HB1 := Aside0.mk (below_step HB0.out hb1); have HA1 := Aside0.mk (blk_below HA0.out hb1); have q0_ : w1.cell? ⟨w.heap.size, 0, none⟩ = some (.int .i64 k) := (blk_cell HA1.out 0).trans rfl; have q1_ : w1.cell? ⟨w.heap.size, 1, none⟩ = some (.int .i64 m) := (blk_cell HA1.out 1).trans rfl; have q2_ : w1.cell? ⟨w.heap.size, 2, none⟩ = some (.int .i64 c) := (blk_cell HA1.out 2).trans rfl; have q3_ : w1.cell? ⟨w.heap.size, 3, none⟩ = some (.bool l) := (blk_cell HA1.out 3).trans rfl; clear hb1 HB0 HA0)
              | (go_at_call 37; refine (array_missing.calls km A0 c0 mm lost (sz : Int) true _ (Kd.C_below HR.out HB1.out) HC0.out HKM.out).mono ?_; rintro e w2 ⟨vL, rfl, hvL, hb2⟩; obtain ⟨AL, cL, eL⟩ := Kd.R_slice hvL; subst eL; have HL2 := Aside0.mk (Kd.R_lower hvL HB1.out.size); have HB2 := Aside0.mk (below_step HB1.out hb2); have HA2 := Aside0.mk (blk_below HA1.out hb2); clear q0_ q1_ q2_ q3_; have q0_ : w2.cell? ⟨w.heap.size, 0, none⟩ = some (.int .i64 k) := (blk_cell HA2.out 0).trans rfl; have q1_ : w2.cell? ⟨w.heap.size, 1, none⟩ = some (.int .i64 m) := (blk_cell HA2.out 1).trans rfl; have q2_ : w2.cell? ⟨w.heap.size, 2, none⟩ = some (.int .i64 c) := (blk_cell HA2.out 2).trans rfl; have q3_ : w2.cell? ⟨w.heap.size, 3, none⟩ = some (.bool l) := (blk_cell HA2.out 3).trans rfl; clear hvL hb2 HA1 HB1)
              | (go_at_call 38; refine (array_chunk.calls k m c l C _ HCV.out).mono ?_; rintro e w3 ⟨rfl, hb3⟩; have HB3 := Aside0.mk (below_step HB2.out hb3); have HA3 := Aside0.mk (blk_below HA2.out hb3); have HL3 := Aside0.mk (Kd.R_below HL2.out hb3); clear q0_ q1_ q2_ q3_; have q0_ : w3.cell? ⟨w.heap.size, 0, none⟩ = some (.int .i64 k) := (blk_cell HA3.out 0).trans rfl; have q1_ : w3.cell? ⟨w.heap.size, 1, none⟩ = some (.int .i64 m) := (blk_cell HA3.out 1).trans rfl; have q2_ : w3.cell? ⟨w.heap.size, 2, none⟩ = some (.int .i64 c) := (blk_cell HA3.out 2).trans rfl; have q3_ : w3.cell? ⟨w.heap.size, 3, none⟩ = some (.bool l) := (blk_cell HA3.out 3).trans rfl; clear hb3 HA2 HB2 HL2))
            refine bodyPost_ret (v := .tuple #[.nilIface, .int .i64 2]) (by simp [results, Try.results19, go_sem]) rfl ?_
            exact ⟨fun h => absurd h (by rw [HJ.out]; decide), fun _ => ⟨by rw [HJ.out], HB3.out⟩⟩
          · rw [if_neg h4] at hjr
            by_cases h5 : lostMax k m < (lost.length : Int)
            · rw [if_pos h5] at hjr
              rw [h3] at htm
              have hdb : 0 ≤ 65536 / m ∧ 65536 / m ≤ 65536 := ⟨Int.ediv_nonneg (by omega) (by omega), Int.ediv_le_self _ (by omega)⟩
              obtain ⟨d, hd⟩ : ∃ d, d = 65536 / m := ⟨_, rfl⟩
              rw [← hd] at htd h4 hdb
              have hwd : IntKind.i64.wrap d = d := by rw [i64_w]; unfold wrap64; omega
              have n4 : decide (d < (sz : Int)) = false := decide_eq_false h4
              have n1 : ((mm.length : Int) != m) = false := by simp [h1]
              have hk0 : 0 ≤ k := hg2.1
              have hk3 : k < 3 := by omega
              have hwm : IntKind.i64.wrap (m - 1) = m - 1 := by rw [i64_w]; unfold wrap64; omega
              obtain ⟨lm, hlm⟩ : ∃ lm, lm = lostMax k m := ⟨_, rfl⟩
              rw [← hlm] at h5
              have HCELL := Aside0.mk (fun W : World => show (W.alloc (.cells #[.int .i64 0, .int .i64 (m - 1), .int .i64 1] 3)).cell? ⟨W.heap.size, k.toNat, none⟩ = some (.int .i64 lm) from by
                rw [blk_cell (blk_new W (.cells #[.int .i64 0, .int .i64 (m - 1), .int .i64 1] 3))]
                rcases (show k = 0 ∨ k = 1 ∨ k = 2 by omega) with e | e | e <;> subst e <;> rw [hlm] <;> rfl)
              have n5 : decide (lm < (lost.length : Int)) = true := decide_eq_true h5
              clear h1 h2 h3 h4 h5 hmr hd hlm hlo
              have hck0 := HCK.out
              rw [hE] at hck0
              have HCK0 := Aside0.mk hck0
              have HJ := Aside0.mk hjr
              clear hck0 hE hjr hg hg2 hC hcv hse hsz hl
              go_enter Try.func19, Try.ntmps19
              go_wp2_with (first
                | (go_at_call 36; refine (array_Check.calls 3 k m c l 0 _ HCK0.out).mono ?_; rintro e w1 ⟨rfl, hb1⟩; have HB1 := Aside0.mk (below_step HB0.out hb1); have HA1 := Aside0.mk (blk_below HA0.out hb1); have q0_ : w1.cell? ⟨w.heap.size, 0, none⟩ = some (.int .i64 k) := (blk_cell HA1.out 0).trans rfl; have q1_ : w1.cell? ⟨w.heap.size, 1, none⟩ = some (.int .i64 m) := (blk_cell HA1.out 1).trans rfl; have q2_ : w1.cell? ⟨w.heap.size, 2, none⟩ = some (.int .i64 c) := (blk_cell HA1.out 2).trans rfl; have q3_ : w1.cell? ⟨w.heap.size, 3, none⟩ = some (.bool l) := (blk_cell HA1.out 3).trans rfl; clear hb1 HB0 HA0)
                | (go_at_call 37; refine (array_missing.calls km A0 c0 mm lost (sz : Int) true _ (Kd.C_below HR.out HB1.out) HC0.out HKM.out).mono ?_; rintro e w2 ⟨vL, rfl, hvL, hb2⟩; obtain ⟨AL, cL, eL⟩ := Kd.R_slice hvL; subst eL; have HL2 := Aside0.mk (Kd.R_lower hvL HB1.out.size); have HB2 := Aside0.mk (below_step HB1.out hb2); have HA2 := Aside0.mk (blk_below HA1.out hb2); clear q0_ q1_ q2_ q3_; have q0_ : w2.cell? ⟨w.heap.size, 0, none⟩ = some (.int .i64 k) := (blk_cell HA2.out 0).trans rfl; have q1_ : w2.cell? ⟨w.heap.size, 1, none⟩ = some (.int .i64 m) := (blk_cell HA2.out 1).trans rfl; have q2_ : w2.cell? ⟨w.heap.size, 2, none⟩ = some (.int .i64 c) := (blk_cell HA2.out 2).trans rfl; have q3_ : w2.cell? ⟨w.heap.size, 3, none⟩ = some (.bool l) := (blk_cell HA2.out 3).trans rfl; clear hvL hb2 HA1 HB1)
                | (go_at_call 38; refine (array_chunk.calls k m c l C _ HCV.out).mono ?_; rintro e w3 ⟨rfl, hb3⟩; have HB3 := Aside0.mk (below_step HB2.out hb3); have HA3 := Aside0.mk (blk_below HA2.out hb3); have HL3 := Aside0.mk (Kd.R_below HL2.out hb3); clear q0_ q1_ q2_ q3_; have q0_ : w3.cell? ⟨w.heap.size, 0, none⟩ = some (.int .i64 k) := (blk_cell HA3.out 0).trans rfl; have q1_ : w3.cell? ⟨w.heap.size, 1, none⟩ = some (.int .i64 m) := (blk_cell HA3.out 1).trans rfl; have q2_ : w3.cell? ⟨w.heap.size, 2, none⟩ = some (.int .i64 c) := (blk_cell HA3.out 2).trans rfl; have q3_ : w3.cell? ⟨w.heap.size, 3, none⟩ = some (.bool l) := (blk_cell HA3.out 3).trans rfl; clear hb3 HA2 HB2 HL2; have q4_ := HCELL.out w3; have q5_ : (w3.alloc (.cells #[.int .i64 0, .int .i64 (m - 1), .int .i64 1] 3)).cell? ⟨w.heap.size, 0, none⟩ = some (.int .i64 k) := pw_cell_below (below_alloc (Below.refl w3.heap.size w3) _) q0_))
              have HB4 := Aside0.mk (below_alloc HB3.out (.cells #[.int .i64 0, .int .i64 (m - 1), .int .i64 1] 3))
              refine bodyPost_ret (v := .tuple #[.nilIface, .int .i64 20]) (by simp [results, Try.results19, go_sem]) rfl ?_
              exact ⟨fun h => absurd h (by rw [HJ.out]; decide), fun _ => ⟨by rw [HJ.out], HB4.out⟩⟩
            · rw [if_neg h5] at hjr
              rw [h3] at htm
              have hdb : 0 ≤ 65536 / m ∧ 65536 / m ≤ 65536 := ⟨Int.ediv_nonneg (by omega) (by omega), Int.ediv_le_self _ (by omega)⟩
              obtain ⟨d, hd⟩ : ∃ d, d = 65536 / m := ⟨_, rfl⟩
              rw [← hd] at htd h4 hdb
              have hwd : IntKind.i64.wrap d = d := by rw [i64_w]; unfold wrap64; omega
              have n4 : decide (d < (sz : Int)) = false := decide_eq_false h4
              have n1 : ((mm.length : Int) != m) = false := by simp [h1]
              have hk0 : 0 ≤ k := hg2.1
              have hk3 : k < 3 := by omega
              have hwm : IntKind.i64.wrap (m - 1) = m - 1 := by rw [i64_w]; unfold wrap64; omega
              obtain ⟨lm, hlm⟩ : ∃ lm, lm = lostMax k m := ⟨_, rfl⟩
              rw [← hlm] at h5
              have HCELL := Aside0.mk (fun W : World => show (W.alloc (.cells #[.int .i64 0, .int .i64 (m - 1), .int .i64 1] 3)).cell? ⟨W.heap.size, k.toNat, none⟩ = some (.int .i64 lm) from by
                rw [blk_cell (blk_new W (.cells #[.int .i64 0, .int .i64 (m - 1), .int .i64 1] 3))]
                rcases (show k = 0 ∨ k = 1 ∨ k = 2 by omega) with e | e | e <;> subst e <;> rw [hlm] <;> rfl)
              have n5 : decide (lm < (lost.length : Int)) = false := decide_eq_false h5
              have HLO := Aside0.mk hlo
              have HSE := Aside0.mk hse
              have HM := Aside0.mk h1
              have HLL := Aside0.mk hll
              have HMB := Aside0.mk (show 2 ≤ m ∧ m ≤ 8 from ⟨hg2.2.2.1, hg2.2.2.2.1⟩)
              clear h1 h2 h3 h4 h5 hmr hd hlm hlo hll
              have hck0 := HCK.out
              rw [hE] at hck0
              have HCK0 := Aside0.mk hck0
              have HJ := Aside0.mk hjr
              clear hck0 hE hjr hg hg2 hC hcv hse hsz
              go_enter Try.func19, Try.ntmps19
              go_wp2_with (first
                | (go_at_call 36; refine (array_Check.calls 3 k m c l 0 _ HCK0.out).mono ?_; rintro e w1 ⟨rfl, hb1⟩; have HB1 := Aside0.mk (below_step HB0.out hb1); have HA1 := Aside0.mk (blk_below HA0.out hb1); have q0_ : w1.cell? ⟨w.heap.size, 0, none⟩ = some (.int .i64 k) := (blk_cell HA1.out 0).trans rfl; have q1_ : w1.cell? ⟨w.heap.size, 1, none⟩ = some (.int .i64 m) := (blk_cell HA1.out 1).trans rfl; have q2_ : w1.cell? ⟨w.heap.size, 2, none⟩ = some (.int .i64 c) := (blk_cell HA1.out 2).trans rfl; have q3_ : w1.cell? ⟨w.heap.size, 3, none⟩ = some (.bool l) := (blk_cell HA1.out 3).trans rfl; clear hb1 HB0 HA0)
                | (go_at_call 37; refine (array_missing.calls km A0 c0 mm lost (sz : Int) true _ (Kd.C_below HR.out HB1.out) HC0.out HKM.out).mono ?_; rintro e w2 ⟨vL, rfl, hvL, hb2⟩; obtain ⟨AL, cL, eL⟩ := Kd.R_slice hvL; subst eL; have HL2 := Aside0.mk (Kd.R_lower hvL HB1.out.size); have HB2 := Aside0.mk (below_step HB1.out hb2); have HA2 := Aside0.mk (blk_below HA1.out hb2); clear q0_ q1_ q2_ q3_; have q0_ : w2.cell? ⟨w.heap.size, 0, none⟩ = some (.int .i64 k) := (blk_cell HA2.out 0).trans rfl; have q1_ : w2.cell? ⟨w.heap.size, 1, none⟩ = some (.int .i64 m) := (blk_cell HA2.out 1).trans rfl; have q2_ : w2.cell? ⟨w.heap.size, 2, none⟩ = some (.int .i64 c) := (blk_cell HA2.out 2).trans rfl; have q3_ : w2.cell? ⟨w.heap.size, 3, none⟩ = some (.bool l) := (blk_cell HA2.out 3).trans rfl; clear hvL hb2 HA1 HB1)
                | (go_at_call 38; refine (array_chunk.calls k m c l C _ HCV.out).mono ?_; rintro e w3 ⟨rfl, hb3⟩; have HB3 := Aside0.mk (below_step HB2.out hb3); have HA3 := Aside0.mk (blk_below HA2.out hb3); have HL3 := Aside0.mk (Kd.R_below HL2.out hb3); clear q0_ q1_ q2_ q3_; have q0_ : w3.cell? ⟨w.heap.size, 0, none⟩ = some (.int .i64 k) := (blk_cell HA3.out 0).trans rfl; have q1_ : w3.cell? ⟨w.heap.size, 1, none⟩ = some (.int .i64 m) := (blk_cell HA3.out 1).trans rfl; have q2_ : w3.cell? ⟨w.heap.size, 2, none⟩ = some (.int .i64 c) := (blk_cell HA3.out 2).trans rfl; have q3_ : w3.cell? ⟨w.heap.size, 3, none⟩ = some (.bool l) := (blk_cell HA3.out 3).trans rfl; clear hb3 HA2 HB2 HL2; have q4_ := HCELL.out w3; have q5_ : (w3.alloc (.cells #[.int .i64 0, .int .i64 (m - 1), .int .i64 1] 3)).cell? ⟨w.heap.size, 0, none⟩ = some (.int .i64 k) := pw_cell_below (below_alloc (Below.refl w3.heap.size w3) _) q0_))
              have HA4 := Aside0.mk (blk_below HA3.out (below_alloc (Below.refl w3.heap.size w3) (.cells #[.int .i64 0, .int .i64 (m - 1), .int .i64 1] 3)))
              have HB4 := Aside0.mk (below_alloc HB3.out (.cells #[.int .i64 0, .int .i64 (m - 1), .int .i64 1] 3))
              have HL4 := Aside0.mk (Kd.R_below HL3.out (below_alloc (Below.refl w3.heap.size w3) (.cells #[.int .i64 0, .int .i64 (m - 1), .int .i64 1] 3)))
              clear q0_ q1_ q2_ q3_ q4_ q5_ HA3 HB3 HL3
              generalize w3.alloc (.cells #[.int .i64 0, .int .i64 (m - 1), .int .i64 1] 3) = w4 at HA4 HB4 HL4 ⊢
              have HB5 := Aside0.mk (below_drew HB4.out)
              have HA5 := Aside0.mk (blk_drew HA4.out)
              have HL5 := Aside0.mk (Kd.R_drew HL4.out)
              have y0 : w4.drew.cell? ⟨w.heap.size, 0, none⟩ = some (.int .i64 k) := (blk_cell HA5.out 0).trans rfl
              have y1 : w4.drew.cell? ⟨w.heap.size, 1, none⟩ = some (.int .i64 m) := (blk_cell HA5.out 1).trans rfl
              have y2 : w4.drew.cell? ⟨w.heap.size, 2, none⟩ = some (.int .i64 c) := (blk_cell HA5.out 2).trans rfl
              have y3 : w4.drew.cell? ⟨w.heap.size, 3, none⟩ = some (.bool l) := (blk_cell HA5.out 3).trans rfl
              clear HB4 HA4 HL4
              refine start_ (n := 8) (S := fun w' => w'.cell? ⟨w.heap.size, 0, none⟩ = some (.int .i64 k) ∧ w'.cell? ⟨w.heap.size, 1, none⟩ = some (.int .i64 m) ∧ w'.cell? ⟨w.heap.size, 2, none⟩ = some (.int .i64 c) ∧ w'.cell? ⟨w.heap.size, 3, none⟩ = some (.bool l)) (ds := []) #[false, false, false, false, false, false, false, false] (by kernel_rfl) rfl rfl ⟨y0, y1, y2, y3⟩ (fun hHeld => ?_)
              generalize w4.drew = w5 at HB5 HA5 HL5 y0 y1 y2 y3 hHeld ⊢
              refine pure_ (i := 1) (N := some 60) (v := ?_) (a' := ?_) #[false, true, false, false, false, false, false, false] rfl rfl (by kernel_rfl) (fun _ _ _ h => h) (Or.inl ⟨by rfl, ?_⟩) ?_ ?_
              rotate_left
              · intro w'
                go_simp
                with_reducible rfl
              rotate_left
              · simp only [Act.put, List.setIfInBounds_toArray, List.set_cons_zero, List.set_cons_succ, i64_w, i32_w]
                rfl
              refine pure_ (i := 2) (N := some 61) (v := ?_) (a' := ?_) #[false, true, true, false, false, false, false, false] rfl rfl (by kernel_rfl) (fun _ _ _ h => h) (Or.inl ⟨by rfl, ?_⟩) ?_ ?_
              rotate_left
              · intro w'
                go_simp
                with_reducible rfl
              rotate_left
              · simp only [Act.put, List.setIfInBounds_toArray, List.set_cons_zero, List.set_cons_succ, i64_w, i32_w]
                rfl
              refine pure_ (i := 4) (N := some 63) (v := ?_) (a' := ?_) #[false, true, true, false, true, false, false, false] rfl rfl (by kernel_rfl) (fun _ _ _ h => h) (Or.inl ⟨by rfl, ?_⟩) ?_ ?_
              rotate_left
              · intro w'
                go_simp
                with_reducible rfl
              rotate_left
              · simp only [Act.put, List.setIfInBounds_toArray, List.set_cons_zero, List.set_cons_succ, i64_w, i32_w]
                rfl
              refine take_ (i := 0) (N := some 59) (v := ?_) (a' := ?_) #[true, true, true, false, true, false, false, false] rfl rfl (by kernel_rfl) (fun _ _ _ h => h) (Or.inl ⟨by rfl, ?_⟩) hHeld ?_ ?_
              rotate_left
              · rintro w' ⟨s0, s1, s2, s3⟩
                go_simp
                with_reducible rfl
              rotate_left
              · simp only [Act.put, List.setIfInBounds_toArray, List.set_cons_zero, List.set_cons_succ, i64_w, i32_w]
                rfl
              refine one_ (i := 3) (N := some 62) #[true, true, true, true, true, false, false, false] rfl rfl (by kernel_rfl) (by decide) (fun K hK => ?_)
              refine Kd.R_make_step (Kd.slice 5 (Kd.int .u8)) (w0 := w) w.heap.size 22 (by rfl) (N := 62) rfl 51 _ _ rfl (mm.length : Int) rfl rfl Try.underlying51 (.slice none 0 0) 24 info22_ rfl (by decide) (by decide) [] (ok := fun _ => True) (okp := fun _ => True) ⟨_, rfl, Kd.R_nil _ _ _ _ _⟩ (fun _ hk => hk) trivial (by omega) (by have h1 := HM.out; have h2 := HMB.out; omega) HB5.out HB5.out.size ?_
              intro vR w6 hR6 hb6 hg6 hn6
              rw [Int.toNat_natCast] at hR6
              obtain ⟨gR, cR, eR, hcR, hMR⟩ := mr_start hR6 (M := mm.length) (by simp) (by have h1 := HM.out; have h2 := HMB.out; omega) (fun _ => .nilIface) (fun (i : Nat) => rd_L3 mm (i : Int))
              subst eR
              have HA6 := blk_grown HA5.out hg6 (by simp)
              have HL6 := Aside0.mk (Kd.R_below HL5.out (grown_none hg6))
              have HB6 := Aside0.mk hb6
              refine hK.out _ _ ⟨(blk_cell HA6 0).trans rfl, (blk_cell HA6 1).trans rfl, (blk_cell HA6 2).trans rfl, (blk_cell HA6 3).trans rfl⟩ (fun hHeld => ?_)
              clear hK K
              refine norm_ (a' := ?_) ?_ ?_
              rotate_left
              · show Act.put _ (some 62) _ = _
                simp only [Act.put, List.setIfInBounds_toArray, List.set_cons_zero, List.set_cons_succ, i64_w, i32_w]
                rfl
              refine pure_ (i := 5) (N := some 64) (v := ?_) (a' := ?_) #[true, true, true, true, true, true, false, false] rfl rfl (by kernel_rfl) (fun _ _ _ h => h) (Or.inl ⟨by rfl, ?_⟩) ?_ ?_
              rotate_left
              · intro w'
                go_simp
                with_reducible rfl
              rotate_left
              · simp only [Act.put, List.setIfInBounds_toArray, List.set_cons_zero, List.set_cons_succ, i64_w, i32_w]
                rfl
              refine one_ (i := 6) (N := some 65) #[true, true, true, true, true, true, true, false] rfl rfl (by kernel_rfl) (by decide) (fun K hK => ?_)
              refine value_ (w1 := ?_) (v := ?_) (by rfl) rfl ?_ ?_
              rotate_left 2
              · go_simp
                constructor
                · rfl
                · rfl
              refine hK.out _ _ ⟨pw_cell_below (below_alloc (Below.refl w6.heap.size w6) _) ((blk_cell HA6 0).trans rfl), pw_cell_below (below_alloc (Below.refl w6.heap.size w6) _) ((blk_cell HA6 1).trans rfl), pw_cell_below (below_alloc (Below.refl w6.heap.size w6) _) ((blk_cell HA6 2).trans rfl), pw_cell_below (below_alloc (Below.refl w6.heap.size w6) _) ((blk_cell HA6 3).trans rfl)⟩ (fun hHeld => ?_)
              clear hK K
              refine norm_ (a' := ?_) ?_ ?_
              rotate_left
              · show Act.put _ (some 65) _ = _
                simp only [Act.put, List.setIfInBounds_toArray, List.set_cons_zero, List.set_cons_succ, i64_w, i32_w]
                rfl
              refine pure_ (i := 7) (N := some 10) (v := ?_) (a' := ?_) #[true, true, true, true, true, true, true, true] rfl rfl (by kernel_rfl) (fun _ _ _ h => h) (Or.inl ⟨by rfl, ?_⟩) ?_ ?_
              rotate_left
              · intro w'
                go_simp
                with_reducible rfl
              rotate_left
              · simp only [Act.put, List.setIfInBounds_toArray, List.set_cons_zero, List.set_cons_succ, i64_w, i32_w]
                rfl
              refine done_ (by kernel_rfl) ?_
              have hbx := below_alloc (Below.refl w6.heap.size w6) (.cells #[.int .i64 k, .int .i64 m, .int .i64 c, .bool l, .slice (some ⟨gR, 0, none⟩) mm.length cR, .int .i64 (sz : Int), .int .i64 (-1)] 87)
              have HM7 := Aside0.mk (hMR.below hbx)
              have HW7 := Aside0.mk (blk_new w6 (.cells #[.int .i64 k, .int .i64 m, .int .i64 c, .bool l, .slice (some ⟨gR, 0, none⟩) mm.length cR, .int .i64 (sz : Int), .int .i64 (-1)] 87))
              have HA7 := Aside0.mk (blk_below HA6 hbx)
              have HL7 := Aside0.mk (Kd.R_below HL6.out hbx)
              have HB7 := Aside0.mk (below_step HB6.out hbx)
              have HGW := Aside0.mk HB6.out.size
              clear hMR HA6 HL6 HB6 HA5 HB5 HL5 hR6 hb6 hg6 hn6 y0 y1 y2 y3 hHeld
              generalize w6.alloc (.cells #[.int .i64 k, .int .i64 m, .int .i64 c, .bool l, .slice (some ⟨gR, 0, none⟩) mm.length cR, .int .i64 (sz : Int), .int .i64 (-1)] 87) = w7 at hbx HM7 HW7 HA7 HL7 HB7 ⊢
              generalize w6.heap.size = gW at hbx HW7 HGW ⊢
              clear hbx
              go_wp2
              go_loopw [68] (fun vi wr => ∃ (i : Nat) (V : Nat → Value), i ≤ mm.length ∧ vi = .int .i64 (i : Int) ∧ Aside0 (MR wr w.heap.size gR mm.length i V (fun (i : Nat) => rd_L3 mm (i : Int))) ∧ Aside0 (wr.heap[gW]? = some (.cells #[.int .i64 k, .int .i64 m, .int .i64 c, .bool l, .slice (some ⟨gR, 0, none⟩) mm.length cR, .int .i64 (sz : Int), .int .i64 (-1)] 87 (0, 0))) ∧ Aside0 (wr.heap[w.heap.size]? = some (.cells #[.int .i64 k, .int .i64 m, .int .i64 c, .bool l] 53 (0, 0))) ∧ Aside0 ((Kd.int .i64).R 3 wr w.heap.size (fun _ => True) (.slice AL lost.length cL) lost) ∧ Aside0 (Below w.heap.size w wr)) (fun vi _ => mm.length - (intOf vi).toNat)
              case atStart => exact ⟨0, _, Nat.zero_le _, rfl, HM7, HW7, HA7, HL7, HB7⟩
              case round =>
                clear HM7 HW7 HA7 HL7 HB7
                obtain ⟨i, V, hi, rfl, HMR, HW, HA, HL, HBr⟩ := hrel
                by_cases hlt : i < mm.length
                · have hlti : (i : Int) < (mm.length : Int) := by omega
                  have hnx : IntKind.i64.wrap ((i : Int) + 1) = (i : Int) + 1 := by rw [i64_w]; unfold wrap64; omega
                  obtain ⟨ad, Ai, ci, rfl, e0, hle, hCi⟩ := at_L3 (Kd.C_below HR.out HBr.out) (i : Int) (by omega) hlti
                  rw [Int.toNat_natCast] at e0
                  have hxl := HSHORT.out i hlt
                  obtain ⟨x, hx⟩ : ∃ x, x = rd_L3 mm (i : Int) := ⟨_, rfl⟩
                  rw [← hx] at e0 hle hCi hxl
                  have hF : slices_Clone_byte.f x = some x := by unfold slices_Clone_byte.f; rw [if_pos (by omega)]
                  have HF := Aside0.mk hF
                  have HCi := Aside0.mk hCi
                  have HLE8 := Aside0.mk hle
                  replace hx := Aside0.mk hx
                  have HLTI := Aside0.mk hlt
                  clear hCi hF hle hxl
                  go_wp2
                  have HMD := Aside0.mk (HMR.out.below (below_drew (Below.refl wr.heap.size wr)))
                  have HWD := Aside0.mk (blk_drew HW.out)
                  have HAD := Aside0.mk (blk_drew HA.out)
                  have HLD := Aside0.mk (Kd.R_drew HL.out)
                  have HBD := Aside0.mk (below_drew HBr.out)
                  have y0 : wr.drew.cell? ⟨gW, 4, none⟩ = some (.slice (some ⟨gR, 0, none⟩) mm.length cR) := (blk_cell HWD.out 4).trans rfl
                  replace HCi := Aside0.mk (Kd.C_drew HCi.out)
                  clear HMR HW HA HL HBr
                  refine start_ (n := 9) (S := fun w' => w'.cell? ⟨gW, 4, none⟩ = some (.slice (some ⟨gR, 0, none⟩) mm.length cR)) (ds := [8]) #[false, false, false, false, false, false, false, false, false] (by kernel_rfl) rfl rfl (y0) (fun hHeld => ?_)
                  generalize wr.drew = wD at HMD HWD HAD HLD HBD HCi y0 hHeld ⊢
                  refine pure_ (i := 0) (N := some 73) (v := ?_) (a' := ?_) #[true, false, false, false, false, false, false, false, false] rfl rfl (by kernel_rfl) (fun _ _ _ h => h) (Or.inl ⟨by rfl, ?_⟩) ?_ ?_
                  rotate_left
                  · intro w'
                    go_simp
                    with_reducible rfl
                  rotate_left
                  · simp only [Act.put, List.setIfInBounds_toArray, List.set_cons_zero, List.set_cons_succ, i64_w, i32_w]
                    rfl
                  refine pure_ (i := 1) (N := some 74) (v := ?_) (a' := ?_) #[true, true, false, false, false, false, false, false, false] rfl rfl (by kernel_rfl) (fun _ _ _ h => h) (Or.inl ⟨by rfl, ?_⟩) ?_ ?_
                  rotate_left
                  · intro w'
                    go_simp
                    with_reducible rfl
                  rotate_left
                  · simp only [Act.put, List.setIfInBounds_toArray, List.set_cons_zero, List.set_cons_succ, i64_w, i32_w]
                    rfl
                  refine pure_ (i := 2) (N := some 75) (v := ?_) (a' := ?_) #[true, true, true, false, false, false, false, false, false] rfl rfl (by kernel_rfl) (fun _ _ _ h => h) (Or.inl ⟨by rfl, ?_⟩) ?_ ?_
                  rotate_left
                  · intro w'
                    go_simp
                    with_reducible rfl
                  rotate_left
                  · simp only [Act.put, List.setIfInBounds_toArray, List.set_cons_zero, List.set_cons_succ, i64_w, i32_w]
                    rfl
                  refine pure_ (i := 4) (N := some 77) (v := ?_) (a' := ?_) #[true, true, true, false, true, false, false, false, false] rfl rfl (by kernel_rfl) (fun _ _ _ h => h) (Or.inl ⟨by rfl, ?_⟩) ?_ ?_
                  rotate_left
                  · intro w'
                    go_simp
                    with_reducible rfl
                  rotate_left
                  · simp only [Act.put, List.setIfInBounds_toArray, List.set_cons_zero, List.set_cons_succ, i64_w, i32_w]
                    rfl
                  refine pure_ (i := 5) (N := some 78) (v := ?_) (a' := ?_) #[true, true, true, false, true, true, false, false, false] rfl rfl (by kernel_rfl) (fun _ _ _ h => h) (Or.inl ⟨by rfl, ?_⟩) ?_ ?_
                  rotate_left
                  · intro w'
                    go_simp
                    with_reducible rfl
                  rotate_left
                  · simp only [Act.put, List.setIfInBounds_toArray, List.set_cons_zero, List.set_cons_succ, i64_w, i32_w]
                    rfl
                  refine take_ (i := 3) (N := some 76) (v := ?_) (a' := ?_) #[true, true, true, true, true, true, false, false, false] rfl rfl (by kernel_rfl) (fun _ _ _ h => h) (Or.inl ⟨by rfl, ?_⟩) hHeld ?_ ?_
                  rotate_left
                  · intro w' s0
                    go_simp
                    with_reducible rfl
                  rotate_left
                  · simp only [Act.put, List.setIfInBounds_toArray, List.set_cons_zero, List.set_cons_succ, i64_w, i32_w]
                    rfl
                  refine one_ (i := 6) (N := some 79) #[true, true, true, true, true, true, true, false, false] rfl rfl (by kernel_rfl) (by decide) (fun K hK => ?_)
                  refine goes_ Try.func29 (by kernel_rfl) rfl #[.slice Ai x.length ci] (by rfl) rfl rfl (by simp only [List.map_toArray, List.map_cons, List.map_nil]; rfl) ?_
                  with_reducible refine (slices_Clone_byte.calls Ai ci x x _ HCi.out HLE8.out HF.out).mono ?_
                  rintro e w8 ⟨v8, rfl, hv8, hb8⟩
                  obtain ⟨A8, c8, e8⟩ := Kd.R_slice hv8
                  subst e8
                  have HM8 := HMD.out.below hb8
                  obtain ⟨u8_, hc8, hf8⟩ := HM8.any HLTI.out
                  refine ⟨_, rfl, ?_⟩
                  refine hK.out _ _ (pw_cell_below hb8 y0) (fun hHeld => ?_)
                  clear hK K
                  refine norm_ (a' := ?_) ?_ ?_
                  rotate_left
                  · show Act.put _ (some 79) _ = _
                    simp only [Act.put, List.setIfInBounds_toArray, List.set_cons_zero, List.set_cons_succ, i64_w, i32_w]
                    rfl
                  refine pure_ (i := 7) (N := some 80) (v := ?_) (a' := ?_) #[true, true, true, true, true, true, true, true, false] rfl rfl (by kernel_rfl) (fun _ _ _ h => h) (Or.inl ⟨by rfl, ?_⟩) ?_ ?_
                  rotate_left
                  · intro w'
                    go_simp
                    with_reducible rfl
                  rotate_left
                  · simp only [Act.put, List.setIfInBounds_toArray, List.set_cons_zero, List.set_cons_succ, i64_w, i32_w]
                    rfl
                  refine last_ (i := 8) (N := none) #[true, true, true, true, true, true, true, true, true] rfl rfl (by kernel_rfl) (by decide) (fun K hK => ?_)
                  refine skip_ (w1 := ?_) (by rfl) rfl ?_ ?_
                  rotate_left
                  · go_simp
                    rfl
                  refine hK.out _ _ ?_
                  clear hK K
                  refine done_ (by kernel_rfl) ?_
                  have hm9 := (HM8.push HLTI.out (by rw [← hx.out]; exact Kd.R_lower hv8 HBD.out.size))
                  have hc22 : ∃ c : Array Value, w8.heap[gR]? = some (.cells c 22 (0, 0)) := by obtain ⟨cur, hc, _⟩ := HM8.outer; exact ⟨cur, hc⟩
                  obtain ⟨cur, hcur⟩ := hc22
                  have hw9 := blk_far (blk_below HWD.out hb8) (p := ⟨gR, i, none⟩) (typed_neA ⟨_, blk_below HWD.out hb8⟩ ⟨_, hcur⟩ (by decide)) (.slice A8 x.length c8)
                  have ha9 := blk_far (blk_below HAD.out hb8) (p := ⟨gR, i, none⟩) (typed_neA ⟨_, blk_below HAD.out hb8⟩ ⟨_, hcur⟩ (by decide)) (.slice A8 x.length c8)
                  have hl9 := Kd.R_mono (Kd.R_far (p := ⟨gR, i, none⟩) (Kd.R_types (Kd.R_below HLD.out hb8) hcur (by decide)) (fun y hy => hy.2) (.slice A8 x.length c8)) (fun _ hy => hy.1)
                  have hb9 := (below_step HBD.out hb8).setCell (p := ⟨gR, i, none⟩) HM8.lg (.slice A8 x.length c8)
                  replace hm9 := Aside0.mk hm9
                  replace hw9 := Aside0.mk hw9
                  replace ha9 := Aside0.mk ha9
                  replace hl9 := Aside0.mk hl9
                  replace hb9 := Aside0.mk hb9
                  clear hcur hc8 hf8 hb8 hv8 HM8 HWD HAD HLD HBD HMD y0 hHeld
                  go_wp2
                  go_roundw
                  case rel => exact ⟨i + 1, _, by omega, by go_num, hm9, hw9, ha9, hl9, hb9⟩
                  case measure => simp [intOf]; omega
                · obtain rfl : i = mm.length := by omega
                  have a0_ : wr.cell? ⟨w.heap.size, 0, none⟩ = some (.int .i64 k) := (blk_cell HA.out 0).trans rfl
                  have hrm := HMR.out.reads (by have h1 := HM.out; have h2 := HMB.out; omega)
                  rw [rows_map] at hrm
                  have HRM := Aside0.mk hrm
                  clear hrm
                  by_cases hk2 : k = 2
                  · have u0 : (k == 2) = true := by simpa using hk2
                    by_cases hl1 : lost.length = 1
                    · have u1 : ((lost.length : Int) == 1) = true := by simp [hl1]
                      have hlz : 0 < lost.length := by omega
                      obtain ⟨adl, eAL, cl⟩ := Kd.at_int (Kd.R_reads' HL.out).2.2 (0 : Int) (by omega) (by omega)
                      subst eAL
                      rw [show (0 : Int).toNat = 0 from rfl, show adl.add 0 = adl by simp [Addr.add]] at cl
                      obtain ⟨go, hgo⟩ : ∃ go, go = rd lost 0 := ⟨_, rfl⟩
                      rw [← hgo] at cl
                      have o6_ : wr.cell? ⟨gW, 6, none⟩ = some (.int .i64 (-1)) := (blk_cell HW.out 6).trans rfl
                      have k6_ := blk_frozen HW.out 6
                      have hm9 := Aside0.mk (HMR.out.other (p := ⟨gW, 6, none⟩) HW.out (by decide) (by decide) (.int .i64 go))
                      have hw9 := Aside0.mk (blk_put HW.out 6 (.int .i64 go) rfl)
                      have hb9 := Aside0.mk (HBr.out.setCell (p := ⟨gW, 6, none⟩) HGW.out (.int .i64 go))
                      have HGO := Aside0.mk (show goneOf k mm = go by unfold goneOf; rw [← HLO.out, if_pos ⟨hk2, hl1⟩, hgo])
                      clear hk2 hl1 hgo
                      go_wp2
                      refine bodyPost_ret (v := .tuple #[.iface 85 (.pointer (some ⟨gW, 0, none⟩)), .int .i64 0]) (by simp [results, Try.results19, go_sem]) rfl ?_
                      refine ⟨fun _ => ⟨gW, some ⟨gR, 0, none⟩, cR, rfl, ?_, hb9.out⟩, fun h => absurd HJ.out h⟩
                      have hrm := hm9.out.reads (by have h1 := HM.out; have h2 := HMB.out; omega)
                      rw [rows_map] at hrm
                      rw [HGO.out, ← HSE.out]
                      exact ⟨hw9.out, hrm, hcR⟩
                    · have u1 : ((lost.length : Int) == 1) = false := by
                        rw [beq_eq_false_iff_ne]; omega
                      have HGO := Aside0.mk (show goneOf k mm = -1 by unfold goneOf; rw [← HLO.out, if_neg (fun h => hl1 h.2)])
                      clear hk2 hl1
                      go_wp2
                      refine bodyPost_ret (v := .tuple #[.iface 85 (.pointer (some ⟨gW, 0, none⟩)), .int .i64 0]) (by simp [results, Try.results19, go_sem]) rfl ?_
                      refine ⟨fun _ => ⟨gW, some ⟨gR, 0, none⟩, cR, rfl, ?_, HBr.out⟩, fun h => absurd HJ.out h⟩
                      rw [HGO.out, ← HSE.out]
                      exact ⟨HW.out, HRM.out, hcR⟩
                  · have u0 : (k == 2) = false := by simpa using hk2
                    have HGO := Aside0.mk (show goneOf k mm = -1 by unfold goneOf; rw [if_neg (fun h => hk2 h.1)])
                    clear hk2
                    go_wp2
                    refine bodyPost_ret (v := .tuple #[.iface 85 (.pointer (some ⟨gW, 0, none⟩)), .int .i64 0]) (by simp [results, Try.results19, go_sem]) rfl ?_
                    refine ⟨fun _ => ⟨gW, some ⟨gR, 0, none⟩, cR, rfl, ?_, HBr.out⟩, fun h => absurd HJ.out h⟩
                    rw [HGO.out, ← HSE.out]
                    exact ⟨HW.out, HRM.out, hcR⟩
        · rw [if_pos (Or.inr (Or.inr h3))] at hjr
          obtain ⟨ra, hra⟩ : ∃ ra, ra = (sz : Int) % C := ⟨_, rfl⟩
          rw [← hra] at htm h3
          have n3 : (ra != 0) = true := by simp [h3]
          have n1 : ((mm.length : Int) != m) = false := by simp [h1]
          clear h1 h2 h3 hmr hra hlo
          have hck0 := HCK.out
          rw [hE] at hck0
          have HCK0 := Aside0.mk hck0
          have HJ := Aside0.mk hjr
          clear hck0 hE hjr hg hg2 hC hcv hse hsz hl
          go_enter Try.func19, Try.ntmps19
          go_wp2_with (first
            | (go_at_call 36; refine (array_Check.calls 3 k m c l 0 _ HCK0.out).mono ?_; rintro e w1 ⟨rfl, hb1⟩; have HB1 := Aside0.mk (below_step HB0.out hb1); have HA1 := Aside0.mk (blk_below HA0.out hb1); have q0_ : w1.cell? ⟨w.heap.size, 0, none⟩ = some (.int .i64 k) := (blk_cell HA1.out 0).trans rfl; have q1_ : w1.cell? ⟨w.heap.size, 1, none⟩ = some (.int .i64 m) := (blk_cell HA1.out 1).trans rfl; have q2_ : w1.cell? ⟨w.heap.size, 2, none⟩ = some (.int .i64 c) := (blk_cell HA1.out 2).trans rfl; have q3_ : w1.cell? ⟨w.heap.size, 3, none⟩ = some (.bool l) := (blk_cell HA1.out 3).trans rfl; clear hb1 HB0 HA0)
            | (go_at_call 37; refine (array_missing.calls km A0 c0 mm lost (sz : Int) true _ (Kd.C_below HR.out HB1.out) HC0.out HKM.out).mono ?_; rintro e w2 ⟨vL, rfl, hvL, hb2⟩; obtain ⟨AL, cL, eL⟩ := Kd.R_slice hvL; subst eL; have HL2 := Aside0.mk (Kd.R_lower hvL HB1.out.size); have HB2 := Aside0.mk (below_step HB1.out hb2); have HA2 := Aside0.mk (blk_below HA1.out hb2); clear q0_ q1_ q2_ q3_; have q0_ : w2.cell? ⟨w.heap.size, 0, none⟩ = some (.int .i64 k) := (blk_cell HA2.out 0).trans rfl; have q1_ : w2.cell? ⟨w.heap.size, 1, none⟩ = some (.int .i64 m) := (blk_cell HA2.out 1).trans rfl; have q2_ : w2.cell? ⟨w.heap.size, 2, none⟩ = some (.int .i64 c) := (blk_cell HA2.out 2).trans rfl; have q3_ : w2.cell? ⟨w.heap.size, 3, none⟩ = some (.bool l) := (blk_cell HA2.out 3).trans rfl; clear hvL hb2 HA1 HB1)
            | (go_at_call 38; refine (array_chunk.calls k m c l C _ HCV.out).mono ?_; rintro e w3 ⟨rfl, hb3⟩; have HB3 := Aside0.mk (below_step HB2.out hb3); have HA3 := Aside0.mk (blk_below HA2.out hb3); have HL3 := Aside0.mk (Kd.R_below HL2.out hb3); clear q0_ q1_ q2_ q3_; have q0_ : w3.cell? ⟨w.heap.size, 0, none⟩ = some (.int .i64 k) := (blk_cell HA3.out 0).trans rfl; have q1_ : w3.cell? ⟨w.heap.size, 1, none⟩ = some (.int .i64 m) := (blk_cell HA3.out 1).trans rfl; have q2_ : w3.cell? ⟨w.heap.size, 2, none⟩ = some (.int .i64 c) := (blk_cell HA3.out 2).trans rfl; have q3_ : w3.cell? ⟨w.heap.size, 3, none⟩ = some (.bool l) := (blk_cell HA3.out 3).trans rfl; clear hb3 HA2 HB2 HL2))
          refine bodyPost_ret (v := .tuple #[.nilIface, .int .i64 3]) (by simp [results, Try.results19, go_sem]) rfl ?_
          exact ⟨fun h => absurd h (by rw [HJ.out]; decide), fun _ => ⟨by rw [HJ.out], HB3.out⟩⟩
      · rw [if_pos (Or.inr (Or.inl h2))] at hjr
        have hmr : missR mm = ([], 0, false) := by unfold missR; rw [← hse, if_neg h2]
        rw [hmr] at HKM
        have n1 : ((mm.length : Int) != m) = false := by simp [h1]
        clear h1 h2 hmr
        have hck0 := HCK.out
        rw [hE] at hck0
        have HCK0 := Aside0.mk hck0
        have HJ := Aside0.mk hjr
        clear hck0 hE hjr hg hg2 hC hcv hse hsz hl
        go_enter Try.func19, Try.ntmps19
        go_wp2_with (first
          | (go_at_call 36; refine (array_Check.calls 3 k m c l 0 _ HCK0.out).mono ?_; rintro e w1 ⟨rfl, hb1⟩; have HB1 := Aside0.mk (below_step HB0.out hb1); have HA1 := Aside0.mk (blk_below HA0.out hb1); have q0_ : w1.cell? ⟨w.heap.size, 0, none⟩ = some (.int .i64 k) := (blk_cell HA1.out 0).trans rfl; have q1_ : w1.cell? ⟨w.heap.size, 1, none⟩ = some (.int .i64 m) := (blk_cell HA1.out 1).trans rfl; have q2_ : w1.cell? ⟨w.heap.size, 2, none⟩ = some (.int .i64 c) := (blk_cell HA1.out 2).trans rfl; have q3_ : w1.cell? ⟨w.heap.size, 3, none⟩ = some (.bool l) := (blk_cell HA1.out 3).trans rfl; clear hb1 HB0 HA0)
          | (go_at_call 37; refine (array_missing.calls km A0 c0 mm [] 0 false _ (Kd.C_below HR.out HB1.out) HC0.out HKM.out).mono ?_; rintro e w2 ⟨vL, rfl, hvL, hb2⟩; obtain ⟨AL, cL, eL⟩ := Kd.R_slice hvL; subst eL; have HL2 := Aside0.mk (Kd.R_lower hvL HB1.out.size); have HB2 := Aside0.mk (below_step HB1.out hb2); have HA2 := Aside0.mk (blk_below HA1.out hb2); clear q0_ q1_ q2_ q3_; have q0_ : w2.cell? ⟨w.heap.size, 0, none⟩ = some (.int .i64 k) := (blk_cell HA2.out 0).trans rfl; have q1_ : w2.cell? ⟨w.heap.size, 1, none⟩ = some (.int .i64 m) := (blk_cell HA2.out 1).trans rfl; have q2_ : w2.cell? ⟨w.heap.size, 2, none⟩ = some (.int .i64 c) := (blk_cell HA2.out 2).trans rfl; have q3_ : w2.cell? ⟨w.heap.size, 3, none⟩ = some (.bool l) := (blk_cell HA2.out 3).trans rfl; clear hvL hb2 HA1 HB1))
        refine bodyPost_ret (v := .tuple #[.nilIface, .int .i64 3]) (by simp [results, Try.results19, go_sem]) rfl ?_
        exact ⟨fun h => absurd h (by rw [HJ.out]; decide), fun _ => ⟨by rw [HJ.out], HB2.out⟩⟩
    · rw [if_pos (Or.inl h1)] at hjr
      obtain ⟨⟨r1, r2, r3⟩, hmr⟩ : ∃ r, r = missR mm := ⟨_, rfl⟩
      rw [← hmr] at HKM
      have n1 : ((mm.length : Int) != m) = true := by simp [h1]
      clear h1 hmr
      have hck0 := HCK.out
      rw [hE] at hck0
      have HCK0 := Aside0.mk hck0
      have HJ := Aside0.mk hjr
      clear hck0 hE hjr hg hg2 hC hcv hse hsz hl
      go_enter Try.func19, Try.ntmps19
      go_wp2_with (first
        | (go_at_call 36; refine (array_Check.calls 3 k m c l 0 _ HCK0.out).mono ?_; rintro e w1 ⟨rfl, hb1⟩; have HB1 := Aside0.mk (below_step HB0.out hb1); have HA1 := Aside0.mk (blk_below HA0.out hb1); have q0_ : w1.cell? ⟨w.heap.size, 0, none⟩ = some (.int .i64 k) := (blk_cell HA1.out 0).trans rfl; have q1_ : w1.cell? ⟨w.heap.size, 1, none⟩ = some (.int .i64 m) := (blk_cell HA1.out 1).trans rfl; have q2_ : w1.cell? ⟨w.heap.size, 2, none⟩ = some (.int .i64 c) := (blk_cell HA1.out 2).trans rfl; have q3_ : w1.cell? ⟨w.heap.size, 3, none⟩ = some (.bool l) := (blk_cell HA1.out 3).trans rfl; clear hb1 HB0 HA0)
        | (go_at_call 37; refine (array_missing.calls km A0 c0 mm r1 r2 r3 _ (Kd.C_below HR.out HB1.out) HC0.out HKM.out).mono ?_; rintro e w2 ⟨vL, rfl, hvL, hb2⟩; obtain ⟨AL, cL, eL⟩ := Kd.R_slice hvL; subst eL; have HL2 := Aside0.mk (Kd.R_lower hvL HB1.out.size); have HB2 := Aside0.mk (below_step HB1.out hb2); have HA2 := Aside0.mk (blk_below HA1.out hb2); clear q0_ q1_ q2_ q3_; have q0_ : w2.cell? ⟨w.heap.size, 0, none⟩ = some (.int .i64 k) := (blk_cell HA2.out 0).trans rfl; have q1_ : w2.cell? ⟨w.heap.size, 1, none⟩ = some (.int .i64 m) := (blk_cell HA2.out 1).trans rfl; have q2_ : w2.cell? ⟨w.heap.size, 2, none⟩ = some (.int .i64 c) := (blk_cell HA2.out 2).trans rfl; have q3_ : w2.cell? ⟨w.heap.size, 3, none⟩ = some (.bool l) := (blk_cell HA2.out 3).trans rfl; clear hvL hb2 HA1 HB1))
      refine bodyPost_ret (v := .tuple #[.nilIface, .int .i64 3]) (by simp [results, Try.results19, go_sem]) rfl ?_
      exact ⟨fun h => absurd h (by rw [HJ.out]; decide), fun _ => ⟨by rw [HJ.out], HB2.out⟩⟩
  · have hjr : joinR k m c l mm = arrErrOf k m c l := by unfold joinR; rw [if_pos hE]
    obtain ⟨er, her⟩ : ∃ er, er = arrErrOf k m c l := ⟨_, rfl⟩
    rw [← her] at HCK hjr hE
    have hz : (er == 0) = false := by simpa using hE
    have hz2 : (er != 0) = true := by simpa using hE
    have HJ := Aside0.mk hjr
    have HE := Aside0.mk hE
    clear hjr her hE hl hsz
    go_enter Try.func19, Try.ntmps19
    go_wp2_with (first
      | (go_at_call 36; refine (array_Check.calls 3 k m c l er _ HCK.out).mono ?_; rintro e w1 ⟨rfl, hb1⟩; have HB1 := Aside0.mk (below_step HB0.out hb1); clear hb1))
    refine bodyPost_ret (v := .tuple #[.nilIface, .int .i64 er]) (by simp [results, Try.results19, go_sem]) rfl ?_
    exact ⟨fun h => absurd h (by rw [HJ.out]; exact HE.out), fun _ => ⟨by rw [HJ.out], HB1.out⟩⟩
end Go.Proofs.Ytlnikhijfamakaa.Pure
