/- Rows of bytes of the call's own; bytes added onto a row. No condition. -/
import Derived.Test.YtdgkbpoljcndgaaPureArraySplitsA
namespace Go.Proofs.Ytdgkbpoljcndgaa.Pure
open Go Go.RowKit Go.Maps Go.Proofs.Ytdgkbpoljcndgaa.QArraySplits Go.Proofs.YtdgkbpoljcndgaaW.PrintWords Go.Proofs.YtdgkbpoljcndgaaW.PrintLast Go.Proofs.YtdgkbpoljcndgaaW.PrintMore Go.Proofs.Ytdgkbpoljcndgaa.ArrayPlain
set_option linter.unusedVariables false
set_option linter.unusedSimpArgs false
section
variable {E : SE}
theorem memb_put {q : Nat} (hmir : E.mir = false) (hp : E.p q < 0) (j : Nat) : upd (memb E q) (E.x q) (putAt (memb E q (E.x q)) (E.lo q) (E.part q)) j = memb E (q + 1) j := by
  show _ = stepC E.mir (E.x q) (E.lo q) (E.p q) (E.part q) (memb E q) j
  unfold stepC
  by_cases h : j = E.x q
  · rw [if_pos (Or.inl h), h, upd_same]
  · rw [upd_ne _ _ h, if_neg (fun h2 => h2.elim h (fun h3 => by rw [hmir] at h3; exact absurd h3 (by decide))), if_neg (by omega)]
theorem memb_xor {q pn : Nat} (hmir : E.mir = false) (hp : (pn : Int) = E.p q) (hne : E.x q ≠ pn) (j : Nat) :
    upd (upd (memb E q) (E.x q) (putAt (memb E q (E.x q)) (E.lo q) (E.part q))) pn (xorAt (upd (memb E q) (E.x q) (putAt (memb E q (E.x q)) (E.lo q) (E.part q)) pn) (E.lo q) (E.part q)) j = memb E (q + 1) j := by
  show _ = stepC E.mir (E.x q) (E.lo q) (E.p q) (E.part q) (memb E q) j
  unfold stepC
  by_cases h : j = E.x q
  · rw [if_pos (Or.inl h), h, upd_ne _ _ hne, upd_same]
  · rw [if_neg (fun h2 => h2.elim h (fun h3 => by rw [hmir] at h3; exact absurd h3 (by decide)))]
    by_cases h2 : j = pn
    · subst h2; rw [upd_same, upd_ne _ _ h, if_pos hp]
    · rw [upd_ne _ _ h2, upd_ne _ _ h, if_neg (by omega)]
theorem memb_mir {q : Nat} (hE : E.Fits) (hq : q < E.Q) (hmir : E.mir = true) (j : Nat) :
    putAt (upd (memb E q) (E.x q) (putAt (memb E q (E.x q)) (E.lo q) (E.part q)) j) (E.lo q) (E.part q) = memb E (q + 1) j := by
  show _ = stepC E.mir (E.x q) (E.lo q) (E.p q) (E.part q) (memb E q) j
  unfold stepC
  rw [if_pos (Or.inr hmir)]
  by_cases h : j = E.x q
  · rw [h, upd_same, putAt_twice (by rw [hE.part_len hq, hE.memb_len q (by omega)]; exact hE.lo_le hq)]
  · rw [upd_ne _ _ h]
end
/-- m rows of bytes of the call's own, the first k of which are made; each in a block of its own -/
structure Mat (w : World) (L g cO m k : Nat) (V : Nat → Value) (f : Nat → List Int) : Prop where
  outer : ∃ cur, w.heap[g]? = some (.cells cur 22 (0, 0)) ∧ m ≤ cur.size ∧ ∀ i, i < k → cur[i]? = some (V i)
  rows : ∀ i, i < k → (Kd.int .u8).R 5 w L (fun q => some q = (V i).ownBlock) (V i) (f i)
  apart : ∀ i j, i < k → j < k → i ≠ j → ∀ q, (V i).ownBlock = some q → (V j).ownBlock ≠ some q
  lg : L ≤ g
section
variable {w W : World} {L g cO m k : Nat} {V : Nat → Value} {f : Nat → List Int}
theorem Mat.lt (h : Mat w L g cO m k V f) : g < w.heap.size := by obtain ⟨cur, hc, _⟩ := h.outer; exact blk_lt hc
theorem Mat.ne (h : Mat w L g cO m k V f) {i q : Nat} (hi : i < k) (hq : (V i).ownBlock = some q) : g ≠ q := by
  obtain ⟨cur, hc, _⟩ := h.outer
  obtain ⟨c2, e2⟩ := Kd.R_typed (h.rows i hi) q hq
  exact blk_ne hc e2 (by decide)
theorem Mat.step (h : Mat w L g cO m k V f) (ho : W.heap[g]? = w.heap[g]?) (hr : ∀ i, i < k → ∀ q, (V i).ownBlock = some q → W.heap[q]? = w.heap[q]?) : Mat W L g cO m k V f := by
  obtain ⟨cur, hc, h1, h2⟩ := h.outer
  exact ⟨⟨cur, ho.trans hc, h1, h2⟩, fun i hi => Kd.R_move (h.rows i hi) fun q hq => hr i hi q hq.symm, h.apart, h.lg⟩
theorem Mat.below (h : Mat w L g cO m k V f) (hb : Below w.heap.size w W) : Mat W L g cO m k V f :=
  h.step (hb.block _ h.lt) fun i hi q hq => hb.block q (Kd.R_lt (h.rows i hi) q hq)
theorem Mat.drew (h : Mat w L g cO m k V f) : Mat w.drew L g cO m k V f := h.below (below_drew (Below.refl _ _))
theorem Mat.cell (h : Mat w L g cO m k V f) {i : Nat} (hi : i < k) : w.cell? ⟨g, i, none⟩ = some (V i) := by
  obtain ⟨cur, hc, _, h2⟩ := h.outer
  exact (blk_cell hc i).trans (h2 i hi)
/-- a row is written -/
theorem Mat.put (h : Mat w L g cO m k V f) {i gi : Nat} (hi : i < k) (hv : (V i).ownBlock = some gi) {row : List Int} (hg : w.grownBy W (some gi)) (hR : (Kd.int .u8).R 5 W L (fun q => some q = (V i).ownBlock) (V i) row) : Mat W L g cO m k V (upd f i row) := by
  obtain ⟨cur, hc, h1, h2⟩ := h.outer
  refine ⟨⟨cur, blk_grown hc hg (fun he => h.ne hi hv (Option.some.inj he)), h1, h2⟩, fun j hj => ?_, h.apart, h.lg⟩
  by_cases e : j = i
  · subst e; rw [upd_same]; exact hR
  · rw [upd_ne _ _ e]
    exact Kd.R_grown (h.rows j hj) hg fun q hq he => h.apart i j hi hj (Ne.symm e) gi hv (by rw [← hq, he])
/-- a row is made: it lies in a new block, and its slice is stored -/
theorem Mat.push (h : Mat w L g cO m k V f) (hk : k < m) {v : Value} {q : Nat} {row : List Int} (hg : w.grownBy W none) (hq : v.ownBlock = some q) (hqs : w.heap.size ≤ q) {ok : Nat → Prop} (hR : (Kd.int .u8).R 5 W L ok v row) :
    Mat (W.setCell ⟨g, k, none⟩ v) L g cO m (k + 1) (upd V k v) (upd f k row) := by
  obtain ⟨cur, hc, h1, h2⟩ := h.outer
  have hcW : W.heap[g]? = some (.cells cur 22 (0, 0)) := blk_grown hc hg (by simp)
  have hq' : ∀ j, j < k → (V j).ownBlock ≠ some q := fun j hj he => by have := Kd.R_lt (h.rows j hj) q he; omega
  have hgq : g ≠ q := by have := h.lt; omega
  have hb := blk_set hcW k v
  have hR2 : (Kd.int .u8).R 5 W L (fun x => some x = v.ownBlock) v row := by
    obtain ⟨h0, inner, ho, hr⟩ := hR
    exact ⟨fun x hx => hx.symm, inner, ho, hr.imp_ fun _ _ hp => by simpa [Kd.int, Kd.scalar] using hp⟩
  refine ⟨⟨cur.setIfInBounds k v, hb, by rw [Array.size_setIfInBounds]; exact h1, fun i hi => ?_⟩, fun i hi => ?_, fun i j hi hj hne x hx => ?_, h.lg⟩
  · by_cases e : i = k
    · subst e; rw [upd_same, Array.getElem?_setIfInBounds, if_pos rfl, if_pos (by omega)]
    · rw [upd_ne _ _ e, Array.getElem?_setIfInBounds, if_neg (fun h => e h.symm)]; exact h2 i (by omega)
  · by_cases e : i = k
    · subst e; rw [upd_same, upd_same]
      exact Kd.R_far (p := ⟨g, i, none⟩) hR2 (fun x hx => by rw [hq] at hx; have := Option.some.inj hx; show x ≠ g; omega) v
    · rw [upd_ne _ _ e, upd_ne _ _ e]
      exact Kd.R_far (p := ⟨g, k, none⟩) (Kd.R_grown (h.rows i (by omega)) hg (fun _ _ => by simp)) (fun x hx => Ne.symm (h.ne (i := i) (by omega) hx.symm)) v
  · by_cases e : i = k
    · subst e; rw [upd_same, hq] at hx; rw [upd_ne _ _ (Ne.symm hne), ← hx]; exact hq' j (by omega)
    · by_cases e2 : j = k
      · subst e2; rw [upd_ne _ _ e] at hx; rw [upd_same, hq]; exact fun he => hq' i (by omega) (by rw [hx, ← he])
      · rw [upd_ne _ _ e] at hx; rw [upd_ne _ _ e2]; exact h.apart i j (by omega) (by omega) hne x hx
theorem Mat.congr {f' : Nat → List Int} (h : Mat w L g cO m k V f) (he : ∀ i, i < k → f i = f' i) : Mat w L g cO m k V f' :=
  ⟨h.outer, fun i hi => by rw [← he i hi]; exact h.rows i hi, h.apart, h.lg⟩
/-- the rows are read -/
theorem Mat.reads (h : Mat w L g cO m m V f) (hm : m ≤ 9223372036854775807) : Kd.C (Kd.slice 5 (Kd.int .u8)) w (some ⟨g, 0, none⟩) m ((List.range m).map f) := by
  obtain ⟨cur, hc, h1, h2⟩ := h.outer
  refine ⟨by simp, hm, fun _ => ⟨_, rfl, fun j p hj => ?_⟩⟩
  have hjm : j < m := by have := (List.getElem?_eq_some_iff.1 hj).1; simpa using this
  rw [List.getElem?_map, List.getElem?_range hjm] at hj
  obtain rfl : f j = p := by simpa using hj
  obtain ⟨A, c, e, hl, hC⟩ := Kd.R_reads (h.rows j hjm)
  refine ⟨[V j], rfl, ⟨A, c, by rw [e], hl, hC⟩, fun i u hu => ?_⟩
  match i, hu with
  | 0, hu => obtain rfl := Option.some.inj hu; have := h.cell hjm; show w.cell? (Addr.add ⟨g, 0, none⟩ (j * 1 + 0)) = _; rw [add_plain, Nat.mul_one, Nat.add_zero]; exact this
theorem Mat.any (h : Mat w L g cO m k V f) {i : Nat} (hi : i < m) : ∃ u, w.cell? ⟨g, i, none⟩ = some u ∧ w.frozen? ⟨g, i, none⟩ = false := by
  obtain ⟨cur, hc, h1, _⟩ := h.outer
  exact ⟨_, (blk_cell hc i).trans (Array.getElem?_eq_getElem (show i < cur.size by omega)), blk_frozen hc i⟩
end
theorem mat_start {w : World} {L m : Nat} {ok : Nat → Prop} {v : Value} {xs : List (List Int)} (h : (Kd.slice 5 (Kd.int .u8)).R 22 w L ok v xs) (hm : xs.length = m) (hp : 0 < m) (V : Nat → Value) (f : Nat → List Int) : ∃ g cO, v = .slice (some ⟨g, 0, none⟩) m cO ∧ m ≤ cO ∧ Mat w L g cO m 0 V f := by
  subst hm
  obtain ⟨inner, ho⟩ := Kd.R_own h
  rcases ho.2 with ⟨_, h0⟩ | ⟨g, cap, cur, rfl, hb, hh, hnc, hcm, hcs, hct⟩
  · omega
  · have hcs2 : cur.size = cap * 1 := hcs
    exact ⟨g, cap, rfl, hnc, ⟨⟨cur, hh, by omega, fun i hi => absurd hi (by omega)⟩, fun i hi => absurd hi (by omega), fun i j hi => absurd hi (by omega), hb⟩⟩
/-- a row of bytes that is read lies whole in what follows -/
theorem row_form {w : World} {L : Nat} {ok : Nat → Prop} {v : Value} {row : List Int} {n : Nat} (h : (Kd.int .u8).R 5 w L ok v row) (hn : row.length = n) (hp : 0 < n) : ∃ gi ci, v = .slice (some ⟨gi, 0, none⟩) n ci ∧ n ≤ ci ∧ L ≤ gi ∧ v.ownBlock = some gi := by
  subst hn
  obtain ⟨g, c, e, hb, hl, _⟩ := Kd.R_form h hp
  subst e
  exact ⟨g, c, rfl, (Kd.R_reads' h).2.1, hb, rfl⟩
set_option maxHeartbeats 2000000 in
set_option maxRecDepth 100000 in
/-- bytes are added onto the middle of a row -/
theorem xor_calls (g n cap lo k2 c2 : Nat) (row ys : List Int) (A1 : Option Addr) (c1 : Nat) (ok : Nat → Prop) (w0 w : World) (L : Nat) (hL : L = w0.heap.size)
    (hR : (Kd.int .u8).R 5 w L ok (.slice (some ⟨g, 0, none⟩) n cap) row) (hB : Below L w0 w) (hC : Kd.C (Kd.int .u8) w0 A1 ys.length ys) (hc1 : ys.length ≤ c1) (hk : lo + ys.length ≤ n) (hk2 : ys.length ≤ k2) (hn : n ≤ 65536) :
    Calls Try.prog 91 #[.slice (some ⟨g, lo, none⟩) k2 c2, .slice A1 ys.length c1] w fun e w' => e = .returned (.tuple #[]) ∧ (Kd.int .u8).R 5 w' L ok (.slice (some ⟨g, 0, none⟩) n cap) (xorAt row lo ys) ∧ w.grownBy w' (some g) ∧ Below L w0 w' := by
  subst hL
  have hrl := (Kd.R_reads' hR).1
  have hgL : w0.heap.size ≤ g := Kd.R_base hR g rfl
  have HR := Aside0.mk hR
  have HB := Aside0.mk hB
  have HC := Aside0.mk hC
  have HK := Aside0.mk (And.intro hk hk2)
  have HRL := Aside0.mk hrl
  have HGR := Aside0.mk (World.grownBy.mk (w := w) (w' := w) (row := some g) rfl rfl rfl (Nat.le_refl _) (fun _ _ _ => rfl))
  clear hR hB hC
  go_enter Try.func91, Try.ntmps91
  go_wp2
  go_loopw [8] (fun v8 wr => ∃ k : Nat, k ≤ ys.length ∧ v8 = .int .i64 (k : Int) ∧ Aside0 ((Kd.int .u8).R 5 wr w0.heap.size ok (.slice (some ⟨g, 0, none⟩) n cap) (xorAt row lo (ys.take k))) ∧ Aside0 (w.grownBy wr (some g)) ∧ Aside0 (Below w0.heap.size w0 wr)) (fun v8 _ => ys.length - (intOf v8).toNat)
  case atStart => exact ⟨0, Nat.zero_le _, rfl, ⟨by rw [List.take_zero, xorAt_nil]; exact HR.out⟩, HGR, HB⟩
  case round =>
    clear HR HGR HB
    obtain ⟨k, hk', rfl, HR, HGR, HB⟩ := hrel
    by_cases hlt : k < ys.length
    · have hlti : (k : Int) < (ys.length : Int) := by omega
      have hlt2 : (k : Int) < (k2 : Int) := by omega
      have hnx : IntKind.i64.wrap ((k : Int) + 1) = (k : Int) + 1 := by rw [i64_w]; unfold wrap64; omega
      obtain ⟨ad, rfl, e0⟩ := Kd.at_int (Kd.C_below HC.out HB.out) (k : Int) (by omega) hlti
      rw [Int.toNat_natCast] at e0
      obtain ⟨f0, f1⟩ := Kd.R_celln (enc := Value.int .u8) (h1 := fun _ => rfl) (0 : Int) HR.out ((lo + k : Nat) : Int) (by omega) (by omega)
      rw [Int.toNat_natCast] at f0 f1
      have hx : rdOf 0 (xorAt row lo (ys.take k)) ((lo + k : Nat) : Int) = rd row ((lo + k : Nat) : Int) := xorAt_at (by omega) hlt
      rw [hx] at f0
      have hp := Kd.R_putg (enc := Value.int .u8) (h1 := fun _ => rfl) HR.out ((lo + k : Nat) : Int) (bx (rd row ((lo + k : Nat) : Int)) (rd ys (k : Int)))
      rw [Int.toNat_natCast, xorAt_snoc (by omega) hlt] at hp
      have hb2 := HB.out.setCell (p := ⟨g, lo + k, none⟩) hgL (.int .u8 (bx (rd row ((lo + k : Nat) : Int)) (rd ys (k : Int))))
      have hg2 := HGR.out.trans hp.2
      unfold bx at hp hb2 hg2
      replace hp := Aside0.mk hp
      replace hb2 := Aside0.mk hb2
      replace hg2 := Aside0.mk hg2
      clear hx
      generalize rd row ((lo + k : Nat) : Int) = a0 at *
      generalize rd ys (k : Int) = a1 at *
      go_wp2
      go_roundw
      case rel => exact ⟨k + 1, by omega, by go_num, ⟨hp.out.1⟩, hg2, hb2⟩
      case measure => simp [intOf]; omega
    · obtain rfl : k = ys.length := by omega
      rw [List.take_of_length_le (Nat.le_refl _)] at HR
      go_wp2
      go_end0
      exact ⟨rfl, HR.out, HGR.out, HB.out⟩
theorem part_cut {w : World} {A0 : Option Addr} {len c0 off C : Nat} {b : List Int} (h : off + C ≤ len) (hc : len ≤ c0) (hb : b.length = len) : ∃ AP,
    (∀ W : World, (Instr.slice 22 (.slice A0 len c0) (some (.int .i64 (off : Int))) (some (.int .i64 ((off : Int) + (C : Int)))) none).run Try.prog W = .ok (.slice AP C (c0 - off)) W) ∧
    ∀ W : World, Kd.C (Kd.int .u8) W A0 len b → Kd.C (Kd.int .u8) W AP C ((b.drop off).take C) := by
  subst hb
  obtain ⟨i5, hi5, hy5⟩ := Option.map_eq_some_iff.1 info5
  simp only [Prod.mk.injEq] at hy5
  refine ⟨if c0 = off then A0 else A0.map (·.add (off * 1)), fun W => ?_, fun W hC => ?_⟩
  · have h1 := cut_mid (P := Try.prog) 22 5 .i64 .i64 Try.underlying22 hi5 1 hy5.2.1 A0 b.length c0 (off : Int) ((off : Int) + (C : Int)) (by omega) (by omega) (by omega) hc W
    rw [Int.toNat_natCast, show ((off : Int) + (C : Int)).toNat = off + C by omega, Nat.add_sub_cancel_left] at h1
    exact h1
  · have h1 := Kd.C_mid (lo := off) (hi := off + C) hC (by omega) h hc
    rw [List.drop_take, show off + C - off = C by omega] at h1
    rw [show ((b.drop off).take C).length = C by rw [List.length_take, List.length_drop]; omega] at h1
    exact h1
theorem row_cut {gx n cx lo : Nat} (h : lo < n) (hn : n ≤ cx) (W : World) : (Instr.slice 22 (.slice (some ⟨gx, 0, none⟩) n cx) (some (.int .i64 (lo : Int))) none none).run Try.prog W = .ok (.slice (some ⟨gx, lo, none⟩) (n - lo) (cx - lo)) W := by
  obtain ⟨i5, hi5, hy5⟩ := Option.map_eq_some_iff.1 info5
  simp only [Prod.mk.injEq] at hy5
  have h1 := cut_from (P := Try.prog) 22 5 .i64 Try.underlying22 hi5 1 hy5.2.1 (some ⟨gx, 0, none⟩) n cx (lo : Int) (by omega) (by omega) W
  rw [Int.toNat_natCast, if_neg (by omega), Nat.mul_one, Option.map_some, add_plain] at h1
  exact h1
theorem row_cut2 {gx n cx lo C : Nat} {hi : Int} (hh : hi = ((lo + C : Nat) : Int)) (hC : 0 < C) (h : lo + C ≤ n) (hn : n ≤ cx) (W : World) : (Instr.slice 22 (.slice (some ⟨gx, 0, none⟩) n cx) (some (.int .i64 (lo : Int))) (some (.int .i64 hi)) none).run Try.prog W = .ok (.slice (some ⟨gx, lo, none⟩) C (cx - lo)) W := by
  obtain ⟨i5, hi5, hy5⟩ := Option.map_eq_some_iff.1 info5
  simp only [Prod.mk.injEq] at hy5
  have h1 := cut_mid (P := Try.prog) 22 5 .i64 .i64 Try.underlying22 hi5 1 hy5.2.1 (some ⟨gx, 0, none⟩) n cx (lo : Int) hi (by omega) (by omega) (by omega) hn W
  rw [Int.toNat_natCast, if_neg (by omega), Nat.mul_one, Option.map_some, add_plain, show hi.toNat - lo = C by omega] at h1
  exact h1
section
variable {w W w0 : World} {L g cO m k : Nat} {V : Nat → Value} {f : Nat → List Int}
theorem Mat.far (h : Mat w L g cO m k V f) {i gi : Nat} (hi : i < k) (hv : (V i).ownBlock = some gi) {ab : Nat} {cs : Array Value} {t : TypeId} (hb : w.heap[ab]? = some (.cells cs t (0, 0))) (ht : t ≠ 5) : ab ≠ gi := by
  obtain ⟨c2, e2⟩ := Kd.R_typed (h.rows i hi) gi hv
  exact blk_ne hb e2 ht
theorem Mat.copy (h : Mat w L g cO m k V f) {i gi n ci lo C : Nat} (hi : i < k) (hv : V i = .slice (some ⟨gi, 0, none⟩) n ci) {ys : List Int} (hys : ys.length = C) (hC : 0 < C) (hlo : lo + C ≤ n) {AP : Option Addr} {cp : Nat} (hP : Kd.C (Kd.int .u8) w AP C ys) :
    ∃ w', (Builtin.copy_ #[22, 22] 3 #[.slice (some ⟨gi, lo, none⟩) (n - lo) (ci - lo), .slice AP C cp]).run Try.prog w = .ok (goInt ((C : Nat) : Int)) w' ∧ Mat w' L g cO m k V (upd f i (putAt (f i) lo ys)) ∧ w.grownBy w' (some gi) ∧ L ≤ gi := by
  obtain ⟨i5, hi5, hy5⟩ := Option.map_eq_some_iff.1 info5
  simp only [Prod.mk.injEq] at hy5
  have hR := h.rows i hi
  have hvo : (V i).ownBlock = some gi := by rw [hv]; rfl
  have hR2 := hR
  rw [hv] at hR2
  obtain ⟨w', h1, h2, h3⟩ := copy_run (P := Try.prog) (enc := Value.int .u8) (h1 := fun _ => rfl) (0 : Int) L 22 22 3 5 Try.underlying22 (by rw [hi5]; simp [hy5.2.1]) (lo := lo) (k := n - lo) (c2 := ci - lo) (c := cp) hR2 hP (by omega) (by omega) hC
  refine ⟨w', h1, h.put hi hvo h3 ?_, h3, Kd.R_base hR gi hvo⟩
  rw [hv]
  unfold putAt
  rw [hys]
  exact h2
theorem Mat.xor (h : Mat w L g cO m k V f) (hL : L = w0.heap.size) (hB : Below L w0 w) {i gi n ci lo C : Nat} (hi : i < k) (hv : V i = .slice (some ⟨gi, 0, none⟩) n ci) {ys : List Int} (hys : ys.length = C) (hlo : lo + C ≤ n) (hn : n ≤ 65536) {AP : Option Addr} {cp : Nat} (hcp : C ≤ cp) (hP : Kd.C (Kd.int .u8) w0 AP C ys) :
    Calls Try.prog 91 #[.slice (some ⟨gi, lo, none⟩) C (ci - lo), .slice AP C cp] w fun e w' => e = .returned (.tuple #[]) ∧ Mat w' L g cO m k V (upd f i (xorAt (f i) lo ys)) ∧ w.grownBy w' (some gi) ∧ L ≤ gi ∧ Below L w0 w' := by
  have hR := h.rows i hi
  have hvo : (V i).ownBlock = some gi := by rw [hv]; rfl
  have hR2 := hR
  rw [hv] at hR2
  subst hys
  refine (xor_calls gi n ci lo ys.length (ci - lo) (f i) ys AP cp _ w0 w L hL hR2 hB hP hcp hlo (Nat.le_refl _) hn).mono ?_
  rintro e w' ⟨rfl, h1, h2, h3⟩
  refine ⟨rfl, h.put hi hvo h2 ?_, h2, Kd.R_base hR gi hvo, h3⟩
  rw [hv]
  exact h1
end
end Go.Proofs.Ytdgkbpoljcndgaa.Pure
