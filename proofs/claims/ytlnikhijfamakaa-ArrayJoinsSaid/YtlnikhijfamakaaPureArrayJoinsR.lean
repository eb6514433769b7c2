/- Arrays joined: what a whole reads. No condition. -/
import Derived.Test.YtlnikhijfamakaaPureArrayJoinsN
import Derived.WalkLawsBesides
import Derived.LoopN
namespace Go.Proofs.Ytlnikhijfamakaa.Pure
open Go.Proofs.Ytlnikhijfamakaa.ArrayPlain
open Go Go.RowKit Go.Maps Go.Proofs.Ytlnikhijfamakaa.QArrayJoins Go.Proofs.YtlnikhijfamakaaW.PrintWords Go.Proofs.YtlnikhijfamakaaW.PrintLast Go.Proofs.YtlnikhijfamakaaW.PrintMore
set_option linter.unusedVariables false
set_option linter.unusedSimpArgs false
def bx (x y : Int) : Int := Go.bits .xor .u8 x y
def putAt (row : List Int) (lo : Nat) (ys : List Int) : List Int := row.take lo ++ (ys ++ row.drop (lo + ys.length))
def xorAt (row : List Int) (lo : Nat) (ys : List Int) : List Int := row.take lo ++ (List.zipWith bx (row.drop lo) ys ++ row.drop (lo + ys.length))
theorem putAt_len {row ys : List Int} {lo : Nat} (h : lo + ys.length ≤ row.length) : (putAt row lo ys).length = row.length := by
  unfold putAt; simp only [List.length_append, List.length_take, List.length_drop]; omega
theorem xorAt_len {row ys : List Int} {lo : Nat} (h : lo + ys.length ≤ row.length) : (xorAt row lo ys).length = row.length := by
  unfold xorAt; simp only [List.length_append, List.length_take, List.length_drop, List.length_zipWith]; omega
theorem putAt_get {row ys : List Int} {lo : Nat} (h : lo + ys.length ≤ row.length) (i : Nat) : (putAt row lo ys)[i]? = if lo ≤ i ∧ i < lo + ys.length then ys[i - lo]? else row[i]? := by
  unfold putAt
  by_cases h1 : i < lo
  · rw [List.getElem?_append_left (by rw [List.length_take]; omega), List.getElem?_take_of_lt h1, if_neg (by omega)]
  · rw [List.getElem?_append_right (by rw [List.length_take]; omega), List.length_take, Nat.min_eq_left (by omega)]
    by_cases h2 : i < lo + ys.length
    · rw [List.getElem?_append_left (by omega), if_pos (by omega)]
    · rw [List.getElem?_append_right (by omega), List.getElem?_drop, if_neg (by omega), show lo + ys.length + (i - lo - ys.length) = i by omega]
theorem xorAt_get {row ys : List Int} {lo : Nat} (h : lo + ys.length ≤ row.length) (i : Nat) : (xorAt row lo ys)[i]? = if lo ≤ i ∧ i < lo + ys.length then some (bx (rd row (i : Int)) (rd ys ((i - lo : Nat) : Int))) else row[i]? := by
  unfold xorAt
  have hz : (List.zipWith bx (row.drop lo) ys).length = ys.length := by rw [List.length_zipWith, List.length_drop]; omega
  by_cases h1 : i < lo
  · rw [List.getElem?_append_left (by rw [List.length_take]; omega), List.getElem?_take_of_lt h1, if_neg (by omega)]
  · rw [List.getElem?_append_right (by rw [List.length_take]; omega), List.length_take, Nat.min_eq_left (by omega)]
    by_cases h2 : i < lo + ys.length
    · rw [List.getElem?_append_left (by omega), if_pos (by omega), List.getElem?_zipWith, List.getElem?_drop, show lo + (i - lo) = i by omega, List.getElem?_eq_getElem (show i < row.length by omega), List.getElem?_eq_getElem (show i - lo < ys.length by omega)]
      have e1 : rd row (i : Int) = row[i]'(by omega) := by simp [rd, List.getD_eq_getElem?_getD, show i < row.length by omega]
      have e2 : rd ys ((i - lo : Nat) : Int) = ys[i - lo]'(by omega) := by unfold rd; rw [Int.toNat_natCast, List.getD_eq_getElem?_getD, List.getElem?_eq_getElem (show i - lo < ys.length by omega)]; rfl
      rw [e1, e2]
    · rw [List.getElem?_append_right (by omega), List.getElem?_drop, if_neg (by omega), hz, show lo + ys.length + (i - lo - ys.length) = i by omega]
theorem rd_get {xs : List Int} {i : Nat} (h : i < xs.length) : xs[i]? = some (rd xs (i : Int)) := by
  rw [List.getElem?_eq_getElem h]; simp [rd, List.getD_eq_getElem?_getD, h]
theorem putAt_nil (row : List Int) (lo : Nat) : putAt row lo [] = row := by unfold putAt; simp
theorem xorAt_nil (row : List Int) (lo : Nat) : xorAt row lo [] = row := by unfold xorAt; simp
theorem putAt_snoc {row ys : List Int} {lo k : Nat} (h : lo + ys.length ≤ row.length) (hk : k < ys.length) : (putAt row lo (ys.take k)).set (lo + k) (rd ys (k : Int)) = putAt row lo (ys.take (k + 1)) := by
  have l1 : (ys.take k).length = k := by rw [List.length_take]; omega
  have l2 : (ys.take (k + 1)).length = k + 1 := by rw [List.length_take]; omega
  apply List.ext_getElem?
  intro i
  rw [List.getElem?_set, putAt_len (by omega), putAt_get (by omega), putAt_get (by omega), l1, l2]
  by_cases e : lo + k = i
  · rw [if_pos e, if_pos (by omega), if_pos (by omega), List.getElem?_take_of_lt (by omega), show i - lo = k by omega, rd_get hk]
  · rw [if_neg e]
    by_cases h1 : lo ≤ i ∧ i < lo + k
    · rw [if_pos h1, if_pos (by omega), List.getElem?_take_of_lt (by omega), List.getElem?_take_of_lt (by omega)]
    · rw [if_neg h1, if_neg (by omega)]
theorem xorAt_at {row ys : List Int} {lo k : Nat} (h : lo + ys.length ≤ row.length) (hk : k < ys.length) : rd (xorAt row lo (ys.take k)) ((lo + k : Nat) : Int) = rd row ((lo + k : Nat) : Int) := by
  have l1 : (ys.take k).length = k := by rw [List.length_take]; omega
  have h1 : (xorAt row lo (ys.take k))[lo + k]? = row[lo + k]? := by rw [xorAt_get (by omega), l1, if_neg (by omega)]
  unfold rd
  rw [Int.toNat_natCast, List.getD_eq_getElem?_getD, List.getD_eq_getElem?_getD, h1]
theorem xorAt_snoc {row ys : List Int} {lo k : Nat} (h : lo + ys.length ≤ row.length) (hk : k < ys.length) : (xorAt row lo (ys.take k)).set (lo + k) (bx (rd row ((lo + k : Nat) : Int)) (rd ys (k : Int))) = xorAt row lo (ys.take (k + 1)) := by
  have l1 : (ys.take k).length = k := by rw [List.length_take]; omega
  have l2 : (ys.take (k + 1)).length = k + 1 := by rw [List.length_take]; omega
  have rt : ∀ n j : Nat, j < n → rd (ys.take n) (j : Int) = rd ys (j : Int) := fun n j hj => by
    unfold rd; rw [Int.toNat_natCast, List.getD_eq_getElem?_getD, List.getD_eq_getElem?_getD, List.getElem?_take_of_lt hj]
  apply List.ext_getElem?
  intro i
  rw [List.getElem?_set, xorAt_len (by omega), xorAt_get (by omega), xorAt_get (by omega), l1, l2]
  by_cases e : lo + k = i
  · subst e
    rw [if_pos rfl, if_pos (by omega), if_pos (by omega), show lo + k - lo = k by omega, rt _ _ (by omega)]
  · rw [if_neg e]
    by_cases h1 : lo ≤ i ∧ i < lo + k
    · rw [if_pos h1, if_pos (by omega), rt _ _ (by omega), rt _ _ (by omega)]
    · rw [if_neg h1, if_neg (by omega)]
theorem xor_calls (g n cap lo k2 c2 : Nat) (row ys : List Int) (A1 : Option Addr) (c1 : Nat) (ok : Nat → Prop) (w0 w : World) (L : Nat) (hL : L = w0.heap.size)
    (hR : (Kd.int .u8).R 5 w L ok (.slice (some ⟨g, 0, none⟩) n cap) row) (hB : Below L w0 w) (hC : Kd.C (Kd.int .u8) w0 A1 ys.length ys) (hc1 : ys.length ≤ c1) (hk : lo + ys.length ≤ n) (hk2 : ys.length ≤ k2) (hn : n ≤ 65536) :
    Calls Try.prog 114 #[.slice (some ⟨g, lo, none⟩) k2 c2, .slice A1 ys.length c1] w fun e w' => e = .returned (.tuple #[]) ∧ (Kd.int .u8).R 5 w' L ok (.slice (some ⟨g, 0, none⟩) n cap) (xorAt row lo ys) ∧ w.grownBy w' (some g) ∧ Below L w0 w' := by
  subst hL
  have hrl := (Kd.R_reads' hR).1
  have hgL : w0.heap.size ≤ g := Kd.R_base hR g rfl
  have HR := Aside0.mk hR
  have HB := Aside0.mk hB
  have HC := Aside0.mk hC
  have HK := Aside0.mk (And.intro hk hk2)
  have HRL := Aside0.mk hrl
  have HGR := Aside0.mk (World.grownBy.mk (w := w) (w' := w) (row := some g) rfl rfl rfl (Nat.le_refl _) (fun _ _ _ => rfl))
  clear hR hB hC
  go_enter Try.func114, Try.ntmps114
  go_wp2
  go_loopw [8] (fun v8 wr => ∃ k : Nat, k ≤ ys.length ∧ v8 = .int .i64 (k : Int) ∧ Aside0 ((Kd.int .u8).R 5 wr w0.heap.size ok (.slice (some ⟨g, 0, none⟩) n cap) (xorAt row lo (ys.take k))) ∧ Aside0 (w.grownBy wr (some g)) ∧ Aside0 (Below w0.heap.size w0 wr)) (fun v8 _ => ys.length - (intOf v8).toNat)
  case atStart => exact ⟨0, Nat.zero_le _, rfl, ⟨by rw [List.take_zero, xorAt_nil]; exact HR.out⟩, HGR, HB⟩
  case round =>
    clear HR HGR HB
    obtain ⟨k, hk', rfl, HR, HGR, HB⟩ := hrel
    by_cases hlt : k < ys.length
    · have hlti : (k : Int) < (ys.length : Int) := by omega
      have hlt2 : (k : Int) < (k2 : Int) := by omega
      have hnx : IntKind.i64.wrap ((k : Int) + 1) = (k : Int) + 1 := by rw [i64_w]; unfold wrap64; omega
      obtain ⟨ad, rfl, e0⟩ := Kd.at_int (Kd.C_below HC.out HB.out) (k : Int) (by omega) hlti
      rw [Int.toNat_natCast] at e0
      obtain ⟨f0, f1⟩ := Kd.R_celln (enc := Value.int .u8) (h1 := fun _ => rfl) (0 : Int) HR.out ((lo + k : Nat) : Int) (by omega) (by omega)
      rw [Int.toNat_natCast] at f0 f1
      have hx : rdOf 0 (xorAt row lo (ys.take k)) ((lo + k : Nat) : Int) = rd row ((lo + k : Nat) : Int) := xorAt_at (by omega) hlt
      rw [hx] at f0
      have hp := Kd.R_putg (enc := Value.int .u8) (h1 := fun _ => rfl) HR.out ((lo + k : Nat) : Int) (bx (rd row ((lo + k : Nat) : Int)) (rd ys (k : Int)))
      rw [Int.toNat_natCast, xorAt_snoc (by omega) hlt] at hp
      have hb2 := HB.out.setCell (p := ⟨g, lo + k, none⟩) hgL (.int .u8 (bx (rd row ((lo + k : Nat) : Int)) (rd ys (k : Int))))
      have hg2 := HGR.out.trans hp.2
      unfold bx at hp hb2 hg2
      replace hp := Aside0.mk hp
      replace hb2 := Aside0.mk hb2
      replace hg2 := Aside0.mk hg2
      clear hx
      generalize rd row ((lo + k : Nat) : Int) = a0 at *
      generalize rd ys (k : Int) = a1 at *
      go_wp2
      go_roundw
      case rel => exact ⟨k + 1, by omega, by go_num, ⟨hp.out.1⟩, hg2, hb2⟩
      case measure => simp [intOf]; omega
    · obtain rfl : k = ys.length := by omega
      rw [List.take_of_length_le (Nat.le_refl _)] at HR
      go_wp2
      go_end0
      exact ⟨rfl, HR.out, HGR.out, HB.out⟩
theorem part_cut {w : World} {A0 : Option Addr} {len c0 off C : Nat} {b : List Int} (h : off + C ≤ len) (hc : len ≤ c0) (hb : b.length = len) : ∃ AP,
    (∀ W : World, (Instr.slice 22 (.slice A0 len c0) (some (.int .i64 (off : Int))) (some (.int .i64 ((off : Int) + (C : Int)))) none).run Try.prog W = .ok (.slice AP C (c0 - off)) W) ∧
    ∀ W : World, Kd.C (Kd.int .u8) W A0 len b → Kd.C (Kd.int .u8) W AP C ((b.drop off).take C) := by
  subst hb
  obtain ⟨i5, hi5, hy5⟩ := Option.map_eq_some_iff.1 info5
  simp only [Prod.mk.injEq] at hy5
  refine ⟨if c0 = off then A0 else A0.map (·.add (off * 1)), fun W => ?_, fun W hC => ?_⟩
  · have h1 := cut_mid (P := Try.prog) 22 5 .i64 .i64 Try.underlying22 hi5 1 hy5.2.1 A0 b.length c0 (off : Int) ((off : Int) + (C : Int)) (by omega) (by omega) (by omega) hc W
    rw [Int.toNat_natCast, show ((off : Int) + (C : Int)).toNat = off + C by omega, Nat.add_sub_cancel_left] at h1
    exact h1
  · have h1 := Kd.C_mid (lo := off) (hi := off + C) hC (by omega) h hc
    rw [List.drop_take, show off + C - off = C by omega] at h1
    rw [show ((b.drop off).take C).length = C by rw [List.length_take, List.length_drop]; omega] at h1
    exact h1
/-- the bytes of a member that a span of the image stands for -/
def spByte (mm : List (List Int)) (s : Int) (sp : S41) : List Int := ((rd_L3 mm (sp.f0 / s)).drop (sp.f0 % s).toNat).take sp.f1.toNat
def partX (mm : List (List Int)) (s : Int) (row : List Int) (S : List S41) : List Int := S.foldl (fun row sp => xorAt row 0 (spByte mm s sp)) row
def partR (mm : List (List Int)) (s gone : Int) (q : R3) : List Int := partX mm s (List.replicate q.f2.toNat 0) (atP mm.length s gone q.f0 q.f1 q.f2)
def spanOk (mm : List (List Int)) (s n : Int) (sp : S41) : Prop := 0 ≤ sp.f0 ∧ sp.f0 / s < (mm.length : Int) ∧ ((rd_L3 mm (sp.f0 / s)).length : Int) = s ∧ sp.f0 % s + sp.f1 ≤ s ∧ sp.f1 = n
theorem take_span (l : List S41) (i : Nat) (h : i < l.length) : l.take (i + 1) = l.take i ++ [rd_T41 l (i : Int)] := by
  rw [List.take_add_one]
  simp [rd_T41, List.getD_eq_getElem?_getD, h]
theorem rd_mem (l : List S41) (i : Nat) (h : i < l.length) : rd_T41 l (i : Int) ∈ l := by
  unfold rd_T41
  rw [Int.toNat_natCast, List.getD_eq_getElem?_getD, List.getElem?_eq_getElem h]
  exact List.getElem_mem h
theorem part_step (mm : List (List Int)) (s : Int) (row : List Int) (S : List S41) (j : Nat) (h : j < S.length) : partX mm s row (S.take (j + 1)) = xorAt (partX mm s row (S.take j)) 0 (spByte mm s (rd_T41 S (j : Int))) := by
  unfold partX
  rw [take_span S j h, List.foldl_append]
  rfl
theorem spByte_len (mm : List (List Int)) (s n : Int) (sp : S41) (h : spanOk mm s n sp) (hs : 0 < s) : (spByte mm s sp).length = n.toNat := by
  obtain ⟨h0, h1, h2, h3, h4⟩ := h
  have := Int.emod_nonneg sp.f0 (show s ≠ 0 by omega)
  unfold spByte
  rw [List.length_take, List.length_drop]
  omega
theorem partX_len (mm : List (List Int)) (s n : Int) (hs : 0 < s) : ∀ (S : List S41) (row : List Int), (∀ sp ∈ S, spanOk mm s n sp) → row.length = n.toNat → (partX mm s row S).length = n.toNat
  | [], row, _, h => h
  | sp :: S, row, hS, h => by
    have h1 := spByte_len mm s n sp (hS sp (by simp)) hs
    exact partX_len mm s n hs S _ (fun y hy => hS y (List.mem_cons_of_mem _ hy)) (by rw [xorAt_len (by omega)]; exact h)
/-- where the inner loop stands -/
def InRel (wp wr : World) (gP capP nn : Nat) (mm : List (List Int)) (s : Int) (S : List S41) (AS : Option Addr) (cS : Nat) (vi : Value) : Prop := ∃ j : Nat, j ≤ S.length ∧ vi = .int .i64 (j : Int) ∧ Aside0 ((Kd.int .u8).R 5 wr wp.heap.size (fun _ => True) (.slice (some ⟨gP, 0, none⟩) nn capP) (partX mm s (List.replicate nn 0) (S.take j))) ∧ Aside0 (Below wp.heap.size wp wr) ∧ Aside0 (k41.R 41 wr wp.heap.size (fun _ => True) (.slice AS S.length cS) S)
/-- where the outer loop stands -/
def OutRel (w wr : World) (mm : List (List Int)) (s gone : Int) (R : List R3) (AG : Option Addr) (cG : Nat) (vi v : Value) : Prop := ∃ i : Nat, i ≤ R.length ∧ vi = .int .i64 (i : Int) ∧ Aside0 ((Kd.int .u8).R 5 wr w.heap.size (fun _ => True) v ((R.take i).flatMap (partR mm s gone))) ∧ Aside0 (Below w.heap.size w wr) ∧ Aside0 (k3.R 162 wr w.heap.size (fun _ => True) (.slice AG R.length cG) R)
theorem parts_take (mm : List (List Int)) (s gone : Int) (R : List R3) (i : Nat) (h : i < R.length) : (R.take (i + 1)).flatMap (partR mm s gone) = (R.take i).flatMap (partR mm s gone) ++ partR mm s gone (rd_R3 R (i : Int)) := by
  rw [take_R3 R i h, List.flatMap_append]
  simp
/-- room for bytes is made -/
theorem make_room (w : World) (m : Nat) (hm : m ≤ 65536) : ∃ wM, (Instr.makeSlice 22 (.int .i64 0) (.int .i64 (m : Int))).run Try.prog w = .ok (.slice (some ⟨w.heap.size, 0, none⟩) 0 m) wM ∧ (Kd.int .u8).R 5 wM w.heap.size (fun _ => True) (.slice (some ⟨w.heap.size, 0, none⟩) 0 m) [] ∧ Below w.heap.size w wM := by
  obtain ⟨i0, hi, hz⟩ := Option.map_eq_some_iff.1 (show (Try.prog.info? 5).map (fun i => (i.zero, i.size, i.bytes)) = some (some (.int .u8 0), 1, 1) from info5)
  simp only [Prod.mk.injEq] at hz
  obtain ⟨wM, h1, h2, h3⟩ := run_make_own (P := Try.prog) w w.heap.size 22 5 i0 (.int .u8 0) 1 Try.underlying22 hi hz.1 hz.2.1 .i64 .i64 m (by rw [hz.2.2]; omega) (by simp [maxLen]; omega) (Nat.le_refl _)
  exact ⟨wM, h1, ⟨fun _ _ => trivial, [], h2, Reps.none _ _⟩, pw_below_grown (Below.refl w.heap.size w) none (Nat.le_refl _) h3 (fun k hk => by cases hk)⟩
theorem xor_at (g n cap n2 : Nat) (row ys : List Int) (A1 : Option Addr) (c1 : Nat) (w0 w : World) (hy : ys.length = n2) (hR : (Kd.int .u8).R 5 w w0.heap.size (fun _ => True) (.slice (some ⟨g, 0, none⟩) n cap) row) (hB : Below w0.heap.size w0 w) (hC : Kd.C (Kd.int .u8) w0 A1 n2 ys) (hc1 : n2 ≤ c1) (hk : n2 ≤ n) (hn : n ≤ 65536) :
    Calls Try.prog 114 #[.slice (some ⟨g, 0, none⟩) n cap, .slice A1 n2 c1] w fun e w' => e = .returned (.tuple #[]) ∧ (Kd.int .u8).R 5 w' w0.heap.size (fun _ => True) (.slice (some ⟨g, 0, none⟩) n cap) (xorAt row 0 ys) ∧ w.grownBy w' (some g) ∧ Below w0.heap.size w0 w' := by
  subst hy
  exact xor_calls g n cap 0 n cap row ys A1 c1 (fun _ => True) w0 w w0.heap.size rfl hR hB hC hc1 (by omega) (by omega) hn
set_option maxHeartbeats 16000000 in
set_option maxRecDepth 100000 in
theorem whole_read_in (w : World) (g : Nat) (k m c : Int) (l : Bool) (AM : Option Addr) (cM : Nat) (mm : List (List Int)) (s gone : Int) (h : IsWhole w g k m c l AM cM mm s gone) (hg : Good k m c l) (hM : mm.length ≤ 8) (hs0 : 0 < s) (hs1 : s ≤ 65536) (o n : Int) (hR : inW (totW k m s) o n) (ht : totW k m s ≤ 65536)
    (hrun : ∀ q ∈ runF k m c l (firstP 0 mm) n.toNat o n, 0 ≤ q.f0 ∧ q.f0 ≤ 8 ∧ 0 ≤ q.f1 ∧ q.f1 ≤ 65536 ∧ 1 ≤ q.f2 ∧ q.f2 ≤ 65536 ∧ ∀ sp ∈ atP mm.length s gone q.f0 q.f1 q.f2, spanOk mm s q.f2 sp)
    (hsum : ∀ i, ((runF k m c l (firstP 0 mm) n.toNat o n).take i).flatMap (partR mm s gone) = [] ∨ (((runF k m c l (firstP 0 mm) n.toNat o n).take i).flatMap (partR mm s gone)).length ≤ 65536) :
    Calls Try.prog 109 #[.pointer (some ⟨g, 0, none⟩), .int .i64 o, .int .i64 n] w fun e w' => ∃ v0, e = .returned (.tuple #[v0, .int .i64 0]) ∧ (Kd.int .u8).R 5 w' w.heap.size (fun _ => True) v0 ((runF k m c l (firstP 0 mm) n.toNat o n).flatMap (partR mm s gone)) ∧ Below w.heap.size w w' := by
  unfold inW at hR
  have hrl := runF_len k m c l (firstP 0 mm) n.toNat o n
  obtain ⟨R, hRe⟩ : ∃ R, R = runF k m c l (firstP 0 mm) n.toNat o n := ⟨_, rfl⟩
  obtain ⟨nn, rfl⟩ := Int.eq_ofNat_of_zero_le hR.2.1
  have HRUNS := Aside0.mk (fun W (hb : Below w.heap.size w W) => whole_runs W g k m c l AM cM mm s gone (h.below hb) hg hM o (nn : Int) hR.1 hR.2.1 (by omega))
  rw [← hRe] at hrun hrl hsum HRUNS ⊢
  have hRl : R.length ≤ 65536 := by omega
  have hnl : nn ≤ 65536 := by omega
  have HRN := Aside0.mk hrun
  have HSUM := Aside0.mk (fun i => show ((R.take i).flatMap (partR mm s gone)).length ≤ 65536 from by
    rcases hsum i with h | h
    · rw [h]; simp
    · exact h)
  have HI := Aside0.mk h
  have HS0 := Aside0.mk hs0
  have HM := Aside0.mk hM
  have HS1 := Aside0.mk hs1
  have HSZ := Aside0.mk (fun W (hb : Below w.heap.size w W) => whole_size W g k m c l AM cM mm s gone (h.below hb) hg (by omega) hs1)
  have HAT := Aside0.mk (fun W (hb : Below w.heap.size w W) mI off nn => whole_at W g k m c l AM cM mm s gone (h.below hb) (by omega) hs1 hM mI off nn)
  have HB := Aside0.mk (Below.refl w.heap.size w)
  obtain ⟨t, hte⟩ : ∃ t, t = totW k m s := ⟨_, rfl⟩
  rw [← hte] at hR ht
  have htw : s * widthOf k m = t := hte.symm
  rw [htw] at HSZ
  have t0 : decide (o < 0) = false := decide_eq_false (by omega)
  have t1 : decide ((nn : Int) < 0) = false := decide_eq_false (by omega)
  have t2 : decide (t < (nn : Int)) = false := decide_eq_false (by omega)
  have hws : IntKind.i64.wrap (t - (nn : Int)) = t - (nn : Int) := by rw [i64_w]; unfold wrap64; omega
  have t3 : decide (t - (nn : Int) < o) = false := decide_eq_false (by omega)
  clear h hg hM hs0 hs1 hR ht hrun hrl hRe hte htw hsum
  go_enter Try.func109, Try.ntmps109
  go_wp2_with fail
  refine (HSZ.out _ HB.out).mono ?_
  rintro e w1 ⟨rfl, hb1⟩
  replace HB := Aside0.mk (below_step HB.out hb1)
  clear hb1
  go_wp2_with fail
  refine (HSZ.out _ HB.out).mono ?_
  rintro e w2 ⟨rfl, hb1⟩
  replace HB := Aside0.mk (below_step HB.out hb1)
  clear hb1
  obtain ⟨wM, hmk, hown, hgM⟩ := make_room w2 nn hnl
  have HBM := Aside0.mk (below_step HB.out hgM)
  have HOM := Aside0.mk (Kd.R_lower hown HB.out.size)
  clear hown hgM HB
  go_wp2_with (first
    | (go_at_call 112; refine (HRUNS.out _ HBM.out).mono ?_; rintro e w3 ⟨v2, rfl, hv2, hb2⟩; obtain ⟨AG, cG, eG⟩ := Kd.R_slice hv2; subst eG; have HB3 := Aside0.mk (below_step HBM.out hb2); have HG3 := Aside0.mk (Kd.R_lower hv2 HBM.out.size); have HO3 := Aside0.mk (Kd.R_below HOM.out hb2); clear hv2 hb2 HBM HOM hmk))
  go_loopw [41, 8] (fun vi v wr => OutRel w wr mm s gone R AG cG vi v) (fun vi _ _ => R.length - (intOf vi).toNat)
  case atStart => exact ⟨0, Nat.zero_le _, rfl, ⟨by rw [List.take_zero]; exact HO3.out⟩, HB3, HG3⟩
  case round =>
    clear HB3 HG3 HO3
    obtain ⟨i, hi, rfl, HO, HBr, HG⟩ := hrel
    obtain ⟨wo, rfl⟩ : ∃ x, x = wr := ⟨_, rfl⟩
    by_cases hlt : i < R.length
    · have hlti : (i : Int) < (R.length : Int) := by omega
      have hnx : IntKind.i64.wrap ((i : Int) + 1) = (i : Int) + 1 := by rw [i64_w]; unfold wrap64; omega
      obtain ⟨ad, rfl, e0, e1, e2⟩ := at_R3 (Kd.R_reads' HG.out).2.2 (i : Int) (by omega) hlti
      rw [Int.toNat_natCast] at e0 e1 e2
      have hqm := HRN.out _ (rd_R3_mem R i hlt)
      have hT := parts_take mm s gone R i hlt
      have hl1 := HSUM.out (i + 1)
      have hpr : partR mm s gone (rd_R3 R (i : Int)) = partX mm s (List.replicate (rd_R3 R (i : Int)).f2.toNat 0) (atP mm.length s gone (rd_R3 R (i : Int)).f0 (rd_R3 R (i : Int)).f1 (rd_R3 R (i : Int)).f2) := rfl
      obtain ⟨q, hq⟩ : ∃ q, q = rd_R3 R (i : Int) := ⟨_, rfl⟩
      rw [← hq] at e0 e1 e2 hqm hT hpr
      rw [hT, List.length_append] at hl1
      obtain ⟨q0, q1, q2⟩ := q
      simp only at e0 e1 e2 hqm hpr
      obtain ⟨pn, rfl⟩ := Int.eq_ofNat_of_zero_le (show 0 ≤ q2 by omega)
      rw [Int.toNat_natCast] at hpr
      obtain ⟨S, hS⟩ : ∃ S, S = atP mm.length s gone q0 q1 (pn : Int) := ⟨_, rfl⟩
      rw [← hS] at hqm hpr
      have hX0 := Aside0.mk (blk_new wo (.cells #[.int .i64 q0, .int .i64 q1, .int .i64 (pn : Int)] 162))
      have hba := below_alloc (Below.refl wo.heap.size wo) (.cells #[.int .i64 q0, .int .i64 q1, .int .i64 (pn : Int)] 162)
      have HB1 := Aside0.mk (below_step HBr.out hba)
      obtain ⟨AO, cO, eO⟩ := Kd.R_slice HO.out
      obtain ⟨O, hO⟩ : ∃ O, O = (R.take i).flatMap (partR mm s gone) := ⟨_, rfl⟩
      rw [← hO] at HO hT eO hl1
      subst eO
      have hplen := partX_len mm s (pn : Int) HS0.out S (List.replicate pn 0) hqm.2.2.2.2.2.2 (by simp)
      rw [Int.toNat_natCast] at hplen
      rw [hpr] at hl1 hT
      have HOl := Aside0.mk (Kd.R_below HO.out hba)
      have HGl := Aside0.mk (Kd.R_below HG.out hba)
      have HRM := Aside0.mk (show (O.length + pn) * 1 ≤ 140737488355328 by omega)
      have HT := Aside0.mk hT
      have HQM := Aside0.mk hqm
      have HPL := Aside0.mk hplen
      have hpn : 0 < pn := by have := hqm.2.2.2.2.1; omega
      have hpn2 : pn ≤ 65536 := by have := hqm.2.2.2.2.2.1; omega
      have HSE := Aside0.mk hS
      clear HO HG HBr hl1 hT hqm hba hq hO hpr hplen hS
      go_wp2_with (first
        | ((with_reducible refine gate_dst (N := 47) rfl ?_); generalize wo.alloc (.cells #[.int .i64 q0, .int .i64 q1, .int .i64 (pn : Int)] 162) = wx at hX0 HOl HGl HB1 ⊢; refine Kd.R_make (Kd.int .u8) (w0 := wx) wx.heap.size 5 rfl (N := 47) rfl 22 _ _ rfl (pn : Int) rfl rfl Try.underlying22 (.int .u8 0) 1 info5 rfl (by decide) (by decide) 0 (ok := fun _ => True) (okp := fun _ => True) rfl (fun _ hk => hk) trivial (by omega) (by rw [Int.toNat_natCast]; omega) (Below.refl _ _) (Nat.le_refl _) ?_; intro vP w4 hRP hb4 hg4 hn4; rw [Int.toNat_natCast] at hRP; obtain ⟨gP, capP, eP, _, _, _⟩ := Kd.R_form hRP (by rw [List.length_replicate]; exact hpn); rw [List.length_replicate] at eP; subst eP; have HP4 := Aside0.mk hRP; have HB4 := Aside0.mk hb4; have hX4 := Aside0.mk (blk_below hX0.out hb4); have x0_ : w4.cell? ⟨wo.heap.size, 0, none⟩ = some (.int .i64 q0) := (blk_cell hX4.out 0).trans rfl; have x1_ : w4.cell? ⟨wo.heap.size, 1, none⟩ = some (.int .i64 q1) := (blk_cell hX4.out 1).trans rfl; have x2_ : w4.cell? ⟨wo.heap.size, 2, none⟩ = some (.int .i64 (pn : Int)) := (blk_cell hX4.out 2).trans rfl; clear hRP hb4 hg4 hn4)
        | (go_at_call 113; refine (HAT.out _ (below_step HB1.out HB4.out) q0 q1 (pn : Int) HQM.out.1 HQM.out.2.1 HQM.out.2.2.1 HQM.out.2.2.2.1).mono ?_; rintro e w5 ⟨v5, rfl, hv5, hb5⟩; rw [← HSE.out] at hv5; obtain ⟨AS, cS, eS⟩ := Kd.R_slice hv5; subst eS; have HS5 := Aside0.mk (Kd.R_lower hv5 HB4.out.size); have HP5 := Aside0.mk (Kd.R_below HP4.out hb5); have HB5 := Aside0.mk (below_step HB4.out hb5); clear hv5 hb5 HP4 HB4 hX4 x0_ x1_ x2_))
      go_loopw [57] (fun vj wi => InRel wx wi gP capP pn mm s S AS cS vj) (fun vj _ => S.length - (intOf vj).toNat)
      case atStart => exact ⟨0, Nat.zero_le _, rfl, ⟨by rw [List.take_zero]; exact HP5.out⟩, HB5, HS5⟩
      case round =>
        clear HS5 HP5 HB5
        obtain ⟨j, hj, rfl, HP, HBi, HSp⟩ := hrel
        by_cases hjl : j < S.length
        · have hjli : (j : Int) < (S.length : Int) := by omega
          have hnj : IntKind.i64.wrap ((j : Int) + 1) = (j : Int) + 1 := by
            have h8 : S.length ≤ 8 := by rw [HSE.out]; exact atP_len mm.length HM.out s gone q0 q1 (pn : Int)
            rw [i64_w]; unfold wrap64; omega
          obtain ⟨ads, rfl, f0, f1⟩ := at_T41 (Kd.R_reads' HSp.out).2.2 (j : Int) (by omega) hjli
          rw [Int.toNat_natCast] at f0 f1
          have hok := HQM.out.2.2.2.2.2.2 _ (rd_mem S j hjl)
          have hps := part_step mm s (List.replicate pn 0) S j hjl
          obtain ⟨sp, hsp⟩ : ∃ sp, sp = rd_T41 S (j : Int) := ⟨_, rfl⟩
          rw [← hsp] at f0 f1 hok hps
          obtain ⟨p0, p1⟩ := sp
          obtain ⟨h0, h1, h2, h3, h4⟩ := hok
          simp only at f0 f1 h0 h1 h2 h3 h4
          subst h4
          have hs0 := HS0.out
          have hs1 := HS1.out
          have hyl := spByte_len mm s (pn : Int) ⟨p0, (pn : Int)⟩ ⟨h0, h1, h2, h3, rfl⟩ hs0
          rw [Int.toNat_natCast] at hyl
          have hsb : spByte mm s ⟨p0, (pn : Int)⟩ = ((rd_L3 mm (p0 / s)).drop (p0 % s).toNat).take pn := rfl
          have hq0 : 0 ≤ p0 / s := Int.ediv_nonneg h0 (by omega)
          have hr0 := Int.emod_nonneg p0 (show s ≠ 0 by omega)
          have htd : Int.tdiv p0 s = p0 / s := Int.tdiv_eq_ediv_of_nonneg h0
          have htm : Int.tmod p0 s = p0 % s := Int.tmod_eq_emod_of_nonneg h0
          obtain ⟨mN, hmN⟩ := Int.eq_ofNat_of_zero_le hq0
          obtain ⟨oN, hoN⟩ := Int.eq_ofNat_of_zero_le hr0
          rw [hmN] at htd h1 h2 hsb
          rw [hoN] at htm h3 hsb
          rw [Int.toNat_natCast] at hsb
          obtain ⟨adm, Ai, ci, eAM, em, hle, hCi⟩ := at_L3 (HI.out.below HB1.out).rm (mN : Int) (by omega) h1
          subst eAM
          rw [Int.toNat_natCast] at em
          obtain ⟨x, hx⟩ : ∃ x, x = rd_L3 mm (mN : Int) := ⟨_, rfl⟩
          rw [← hx] at em hle hCi h2 hsb
          obtain ⟨AP, hcut, hCP⟩ := part_cut (w := w) (A0 := Ai) (len := x.length) (c0 := ci) (off := oN) (C := pn) (b := x) (by omega) hle rfl
          have hCY := hCP wx hCi
          rw [← hsb] at hCY
          obtain ⟨ys, hys⟩ : ∃ ys, ys = spByte mm s ⟨p0, (pn : Int)⟩ := ⟨_, rfl⟩
          rw [← hys] at hCY hyl hps
          have HCY := Aside0.mk hCY
          have HYL := Aside0.mk hyl
          have HPS := Aside0.mk hps
          have HCI := Aside0.mk (show pn ≤ ci - oN by omega)
          have hsz : ¬ s = 0 := by omega
          have hw1 : IntKind.i64.wrap ((oN : Int) + (pn : Int)) = (oN : Int) + (pn : Int) := by rw [i64_w]; unfold wrap64; omega
          have hw2 : IntKind.i64.wrap (mN : Int) = (mN : Int) := by have h8 := HM.out; rw [i64_w]; unfold wrap64; omega
          obtain ⟨Pr, hPr⟩ : ∃ Pr, Pr = partX mm s (List.replicate pn 0) (S.take j) := ⟨_, rfl⟩
          rw [← hPr] at HP HPS
          have hY0 := Aside0.mk (blk_new wr (.cells #[.int .i64 p0, .int .i64 (pn : Int)] 41))
          have hbi := below_alloc (Below.refl wr.heap.size wr) (.cells #[.int .i64 p0, .int .i64 (pn : Int)] 41)
          have HBy := Aside0.mk (below_step HBi.out hbi)
          have HPy := Aside0.mk (Kd.R_below HP.out hbi)
          have HSy := Aside0.mk (Kd.R_below HSp.out hbi)
          have HWy := Aside0.mk (HI.out.below (below_step HB1.out HBy.out))
          have HEm := Aside0.mk (pw_cell_below HBy.out em)
          clear hps hyl hsb hq0 hr0 hmN hoN hCi hCY hCP hys hPr HP HSp HBi hbi em h0 h2 h3 hsp hx hs0 hs1 hle
          go_wp2
          have y0_ : (wr.alloc (.cells #[.int .i64 p0, .int .i64 (pn : Int)] 41)).drew.cell? ⟨g, 4, none⟩ = some (.slice (some adm) mm.length cM) := (blk_cell (blk_drew HWy.out.blk) 4).trans rfl
          have y1_ : (wr.alloc (.cells #[.int .i64 p0, .int .i64 (pn : Int)] 41)).drew.cell? ⟨g, 5, none⟩ = some (.int .i64 s) := (blk_cell (blk_drew HWy.out.blk) 5).trans rfl
          have y2_ : (wr.alloc (.cells #[.int .i64 p0, .int .i64 (pn : Int)] 41)).drew.cell? ⟨wr.heap.size, 0, none⟩ = some (.int .i64 p0) := (blk_cell (blk_drew hY0.out) 0).trans rfl
          have y3_ : (wr.alloc (.cells #[.int .i64 p0, .int .i64 (pn : Int)] 41)).drew.cell? ⟨wr.heap.size, 1, none⟩ = some (.int .i64 (pn : Int)) := (blk_cell (blk_drew hY0.out) 1).trans rfl
          have y4_ : (wr.alloc (.cells #[.int .i64 p0, .int .i64 (pn : Int)] 41)).drew.cell? (adm.add mN) = some (.slice Ai x.length ci) := pw_cell_below (below_drew (Below.refl (wr.alloc (.cells #[.int .i64 p0, .int .i64 (pn : Int)] 41)).heap.size (wr.alloc (.cells #[.int .i64 p0, .int .i64 (pn : Int)] 41)))) HEm.out
          have HBD := Aside0.mk (below_drew HBy.out)
          have HPD := Aside0.mk (Kd.R_below HPy.out (below_drew (Below.refl (wr.alloc (.cells #[.int .i64 p0, .int .i64 (pn : Int)] 41)).heap.size (wr.alloc (.cells #[.int .i64 p0, .int .i64 (pn : Int)] 41)))))
          have HSD := Aside0.mk (Kd.R_below HSy.out (below_drew (Below.refl (wr.alloc (.cells #[.int .i64 p0, .int .i64 (pn : Int)] 41)).heap.size (wr.alloc (.cells #[.int .i64 p0, .int .i64 (pn : Int)] 41)))))
          clear HBy HPy HSy HWy HEm
          refine start_ (n := 33) (S := fun w' => w'.cell? ⟨g, 4, none⟩ = some (.slice (some adm) mm.length cM) ∧ w'.cell? ⟨g, 5, none⟩ = some (.int .i64 s) ∧ w'.cell? ⟨wr.heap.size, 0, none⟩ = some (.int .i64 p0) ∧ w'.cell? ⟨wr.heap.size, 1, none⟩ = some (.int .i64 (pn : Int)) ∧ w'.cell? (adm.add mN) = some (.slice Ai x.length ci)) (ds := [32]) #[false, false, false, false, false, false, false, false, false, false, false, false, false, false, false, false, false, false, false, false, false, false, false, false, false, false, false, false, false, false, false, false, false] (by kernel_rfl) rfl rfl ⟨y0_, y1_, y2_, y3_, y4_⟩ (fun hHeld => ?_)
          generalize (wr.alloc (.cells #[.int .i64 p0, .int .i64 (pn : Int)] 41)).drew = wD at y0_ y1_ y2_ y3_ y4_ HBD HPD HSD hHeld ⊢
          refine pure_ (i := 0) (N := some 61) (v := ?_) (a' := ?_) #[true, false, false, false, false, false, false, false, false, false, false, false, false, false, false, false, false, false, false, false, false, false, false, false, false, false, false, false, false, false, false, false, false] rfl rfl (by kernel_rfl) (fun _ _ _ h => h) (Or.inl ⟨by rfl, ?_⟩) ?_ ?_
          rotate_left
          · intro w'
            go_simp
            with_reducible rfl
          rotate_left
          · simp only [Act.put, List.setIfInBounds_toArray, List.set_cons_zero, List.set_cons_succ, i64_w, i32_w]
            rfl
          refine pure_ (i := 1) (N := some 62) (v := ?_) (a' := ?_) #[true, true, false, false, false, false, false, false, false, false, false, false, false, false, false, false, false, false, false, false, false, false, false, false, false, false, false, false, false, false, false, false, false] rfl rfl (by kernel_rfl) (fun _ _ _ h => h) (Or.inl ⟨by rfl, ?_⟩) ?_ ?_
          rotate_left
          · intro w'
            go_simp
            with_reducible rfl
          rotate_left
          · simp only [Act.put, List.setIfInBounds_toArray, List.set_cons_zero, List.set_cons_succ, i64_w, i32_w]
            rfl
          refine pure_ (i := 2) (N := some 63) (v := ?_) (a' := ?_) #[true, true, true, false, false, false, false, false, false, false, false, false, false, false, false, false, false, false, false, false, false, false, false, false, false, false, false, false, false, false, false, false, false] rfl rfl (by kernel_rfl) (fun _ _ _ h => h) (Or.inl ⟨by rfl, ?_⟩) ?_ ?_
          rotate_left
          · intro w'
            go_simp
            with_reducible rfl
          rotate_left
          · simp only [Act.put, List.setIfInBounds_toArray, List.set_cons_zero, List.set_cons_succ, i64_w, i32_w]
            rfl
          refine pure_ (i := 3) (N := some 64) (v := ?_) (a' := ?_) #[true, true, true, true, false, false, false, false, false, false, false, false, false, false, false, false, false, false, false, false, false, false, false, false, false, false, false, false, false, false, false, false, false] rfl rfl (by kernel_rfl) (fun _ _ _ h => h) (Or.inl ⟨by rfl, ?_⟩) ?_ ?_
          rotate_left
          · intro w'
            go_simp
            with_reducible rfl
          rotate_left
          · simp only [Act.put, List.setIfInBounds_toArray, List.set_cons_zero, List.set_cons_succ, i64_w, i32_w]
            rfl
          refine pure_ (i := 5) (N := some 66) (v := ?_) (a' := ?_) #[true, true, true, true, false, true, false, false, false, false, false, false, false, false, false, false, false, false, false, false, false, false, false, false, false, false, false, false, false, false, false, false, false] rfl rfl (by kernel_rfl) (fun _ _ _ h => h) (Or.inl ⟨by rfl, ?_⟩) ?_ ?_
          rotate_left
          · intro w'
            go_simp
            with_reducible rfl
          rotate_left
          · simp only [Act.put, List.setIfInBounds_toArray, List.set_cons_zero, List.set_cons_succ, i64_w, i32_w]
            rfl
          refine pure_ (i := 7) (N := some 68) (v := ?_) (a' := ?_) #[true, true, true, true, false, true, false, true, false, false, false, false, false, false, false, false, false, false, false, false, false, false, false, false, false, false, false, false, false, false, false, false, false] rfl rfl (by kernel_rfl) (fun _ _ _ h => h) (Or.inl ⟨by rfl, ?_⟩) ?_ ?_
          rotate_left
          · intro w'
            go_simp
            with_reducible rfl
          rotate_left
          · simp only [Act.put, List.setIfInBounds_toArray, List.set_cons_zero, List.set_cons_succ, i64_w, i32_w]
            rfl
          refine pure_ (i := 8) (N := some 69) (v := ?_) (a' := ?_) #[true, true, true, true, false, true, false, true, true, false, false, false, false, false, false, false, false, false, false, false, false, false, false, false, false, false, false, false, false, false, false, false, false] rfl rfl (by kernel_rfl) (fun _ _ _ h => h) (Or.inl ⟨by rfl, ?_⟩) ?_ ?_
          rotate_left
          · intro w'
            go_simp
            with_reducible rfl
          rotate_left
          · simp only [Act.put, List.setIfInBounds_toArray, List.set_cons_zero, List.set_cons_succ, i64_w, i32_w]
            rfl
          refine pure_ (i := 9) (N := some 70) (v := ?_) (a' := ?_) #[true, true, true, true, false, true, false, true, true, true, false, false, false, false, false, false, false, false, false, false, false, false, false, false, false, false, false, false, false, false, false, false, false] rfl rfl (by kernel_rfl) (fun _ _ _ h => h) (Or.inl ⟨by rfl, ?_⟩) ?_ ?_
          rotate_left
          · intro w'
            go_simp
            with_reducible rfl
          rotate_left
          · simp only [Act.put, List.setIfInBounds_toArray, List.set_cons_zero, List.set_cons_succ, i64_w, i32_w]
            rfl
          refine pure_ (i := 14) (N := some 75) (v := ?_) (a' := ?_) #[true, true, true, true, false, true, false, true, true, true, false, false, false, false, true, false, false, false, false, false, false, false, false, false, false, false, false, false, false, false, false, false, false] rfl rfl (by kernel_rfl) (fun _ _ _ h => h) (Or.inl ⟨by rfl, ?_⟩) ?_ ?_
          rotate_left
          · intro w'
            go_simp
            with_reducible rfl
          rotate_left
          · simp only [Act.put, List.setIfInBounds_toArray, List.set_cons_zero, List.set_cons_succ, i64_w, i32_w]
            rfl
          refine pure_ (i := 16) (N := some 77) (v := ?_) (a' := ?_) #[true, true, true, true, false, true, false, true, true, true, false, false, false, false, true, false, true, false, false, false, false, false, false, false, false, false, false, false, false, false, false, false, false] rfl rfl (by kernel_rfl) (fun _ _ _ h => h) (Or.inl ⟨by rfl, ?_⟩) ?_ ?_
          rotate_left
          · intro w'
            go_simp
            with_reducible rfl
          rotate_left
          · simp only [Act.put, List.setIfInBounds_toArray, List.set_cons_zero, List.set_cons_succ, i64_w, i32_w]
            rfl
          refine pure_ (i := 17) (N := some 78) (v := ?_) (a' := ?_) #[true, true, true, true, false, true, false, true, true, true, false, false, false, false, true, false, true, true, false, false, false, false, false, false, false, false, false, false, false, false, false, false, false] rfl rfl (by kernel_rfl) (fun _ _ _ h => h) (Or.inl ⟨by rfl, ?_⟩) ?_ ?_
          rotate_left
          · intro w'
            go_simp
            with_reducible rfl
          rotate_left
          · simp only [Act.put, List.setIfInBounds_toArray, List.set_cons_zero, List.set_cons_succ, i64_w, i32_w]
            rfl
          refine pure_ (i := 18) (N := some 79) (v := ?_) (a' := ?_) #[true, true, true, true, false, true, false, true, true, true, false, false, false, false, true, false, true, true, true, false, false, false, false, false, false, false, false, false, false, false, false, false, false] rfl rfl (by kernel_rfl) (fun _ _ _ h => h) (Or.inl ⟨by rfl, ?_⟩) ?_ ?_
          rotate_left
          · intro w'
            go_simp
            with_reducible rfl
          rotate_left
          · simp only [Act.put, List.setIfInBounds_toArray, List.set_cons_zero, List.set_cons_succ, i64_w, i32_w]
            rfl
          refine pure_ (i := 21) (N := some 82) (v := ?_) (a' := ?_) #[true, true, true, true, false, true, false, true, true, true, false, false, false, false, true, false, true, true, true, false, false, true, false, false, false, false, false, false, false, false, false, false, false] rfl rfl (by kernel_rfl) (fun _ _ _ h => h) (Or.inl ⟨by rfl, ?_⟩) ?_ ?_
          rotate_left
          · intro w'
            go_simp
            with_reducible rfl
          rotate_left
          · simp only [Act.put, List.setIfInBounds_toArray, List.set_cons_zero, List.set_cons_succ, i64_w, i32_w]
            rfl
          refine pure_ (i := 23) (N := some 84) (v := ?_) (a' := ?_) #[true, true, true, true, false, true, false, true, true, true, false, false, false, false, true, false, true, true, true, false, false, true, false, true, false, false, false, false, false, false, false, false, false] rfl rfl (by kernel_rfl) (fun _ _ _ h => h) (Or.inl ⟨by rfl, ?_⟩) ?_ ?_
          rotate_left
          · intro w'
            go_simp
            with_reducible rfl
          rotate_left
          · simp only [Act.put, List.setIfInBounds_toArray, List.set_cons_zero, List.set_cons_succ, i64_w, i32_w]
            rfl
          refine pure_ (i := 24) (N := some 85) (v := ?_) (a' := ?_) #[true, true, true, true, false, true, false, true, true, true, false, false, false, false, true, false, true, true, true, false, false, true, false, true, true, false, false, false, false, false, false, false, false] rfl rfl (by kernel_rfl) (fun _ _ _ h => h) (Or.inl ⟨by rfl, ?_⟩) ?_ ?_
          rotate_left
          · intro w'
            go_simp
            with_reducible rfl
          rotate_left
          · simp only [Act.put, List.setIfInBounds_toArray, List.set_cons_zero, List.set_cons_succ, i64_w, i32_w]
            rfl
          refine pure_ (i := 25) (N := some 86) (v := ?_) (a' := ?_) #[true, true, true, true, false, true, false, true, true, true, false, false, false, false, true, false, true, true, true, false, false, true, false, true, true, true, false, false, false, false, false, false, false] rfl rfl (by kernel_rfl) (fun _ _ _ h => h) (Or.inl ⟨by rfl, ?_⟩) ?_ ?_
          rotate_left
          · intro w'
            go_simp
            with_reducible rfl
          rotate_left
          · simp only [Act.put, List.setIfInBounds_toArray, List.set_cons_zero, List.set_cons_succ, i64_w, i32_w]
            rfl
          refine pure_ (i := 28) (N := some 89) (v := ?_) (a' := ?_) #[true, true, true, true, false, true, false, true, true, true, false, false, false, false, true, false, true, true, true, false, false, true, false, true, true, true, false, false, true, false, false, false, false] rfl rfl (by kernel_rfl) (fun _ _ _ h => h) (Or.inl ⟨by rfl, ?_⟩) ?_ ?_
          rotate_left
          · intro w'
            go_simp
            with_reducible rfl
          rotate_left
          · simp only [Act.put, List.setIfInBounds_toArray, List.set_cons_zero, List.set_cons_succ, i64_w, i32_w]
            rfl
          refine take_ (i := 4) (N := some 65) (v := ?_) (a' := ?_) #[true, true, true, true, true, true, false, true, true, true, false, false, false, false, true, false, true, true, true, false, false, true, false, true, true, true, false, false, true, false, false, false, false] rfl rfl (by kernel_rfl) (fun _ _ _ h => h) (Or.inl ⟨by rfl, ?_⟩) hHeld ?_ ?_
          rotate_left
          · rintro w' ⟨s0, s1, s2, s3, s4⟩
            go_simp
            with_reducible rfl
          rotate_left
          · simp only [Act.put, List.setIfInBounds_toArray, List.set_cons_zero, List.set_cons_succ, i64_w, i32_w]
            rfl
          refine take_ (i := 6) (N := some 67) (v := ?_) (a' := ?_) #[true, true, true, true, true, true, true, true, true, true, false, false, false, false, true, false, true, true, true, false, false, true, false, true, true, true, false, false, true, false, false, false, false] rfl rfl (by kernel_rfl) (fun _ _ _ h => h) (Or.inl ⟨by rfl, ?_⟩) hHeld ?_ ?_
          rotate_left
          · rintro w' ⟨s0, s1, s2, s3, s4⟩
            go_simp
            with_reducible rfl
          rotate_left
          · simp only [Act.put, List.setIfInBounds_toArray, List.set_cons_zero, List.set_cons_succ, i64_w, i32_w]
            rfl
          refine take_ (i := 10) (N := some 71) (v := ?_) (a' := ?_) #[true, true, true, true, true, true, true, true, true, true, true, false, false, false, true, false, true, true, true, false, false, true, false, true, true, true, false, false, true, false, false, false, false] rfl rfl (by kernel_rfl) (fun _ _ _ h => h) (Or.inl ⟨by rfl, ?_⟩) hHeld ?_ ?_
          rotate_left
          · rintro w' ⟨s0, s1, s2, s3, s4⟩
            go_simp
            with_reducible rfl
          rotate_left
          · simp only [Act.put, List.setIfInBounds_toArray, List.set_cons_zero, List.set_cons_succ, i64_w, i32_w]
            rfl
          refine pure_ (i := 11) (N := some 72) (v := ?_) (a' := ?_) #[true, true, true, true, true, true, true, true, true, true, true, true, false, false, true, false, true, true, true, false, false, true, false, true, true, true, false, false, true, false, false, false, false] rfl rfl (by kernel_rfl) (fun _ _ _ h => h) (Or.inl ⟨by rfl, ?_⟩) ?_ ?_
          rotate_left
          · intro w'
            go_simp
            with_reducible rfl
          rotate_left
          · simp only [Act.put, List.setIfInBounds_toArray, List.set_cons_zero, List.set_cons_succ, i64_w, i32_w]
            rfl
          refine pure_ (i := 12) (N := some 73) (v := ?_) (a' := ?_) #[true, true, true, true, true, true, true, true, true, true, true, true, true, false, true, false, true, true, true, false, false, true, false, true, true, true, false, false, true, false, false, false, false] rfl rfl (by kernel_rfl) (fun _ _ _ h => h) (Or.inl ⟨by rfl, ?_⟩) ?_ ?_
          rotate_left
          · intro w'
            go_simp
            with_reducible rfl
          rotate_left
          · simp only [Act.put, List.setIfInBounds_toArray, List.set_cons_zero, List.set_cons_succ, i64_w, i32_w]
            rfl
          refine take_ (i := 13) (N := some 74) (v := ?_) (a' := ?_) #[true, true, true, true, true, true, true, true, true, true, true, true, true, true, true, false, true, true, true, false, false, true, false, true, true, true, false, false, true, false, false, false, false] rfl rfl (by kernel_rfl) (fun _ _ _ h => h) (Or.inl ⟨by rfl, ?_⟩) hHeld ?_ ?_
          rotate_left
          · rintro w' ⟨s0, s1, s2, s3, s4⟩
            go_simp
            with_reducible rfl
          rotate_left
          · simp only [Act.put, List.setIfInBounds_toArray, List.set_cons_zero, List.set_cons_succ, i64_w, i32_w]
            rfl
          refine take_ (i := 15) (N := some 76) (v := ?_) (a' := ?_) #[true, true, true, true, true, true, true, true, true, true, true, true, true, true, true, true, true, true, true, false, false, true, false, true, true, true, false, false, true, false, false, false, false] rfl rfl (by kernel_rfl) (fun _ _ _ h => h) (Or.inl ⟨by rfl, ?_⟩) hHeld ?_ ?_
          rotate_left
          · rintro w' ⟨s0, s1, s2, s3, s4⟩
            go_simp
            with_reducible rfl
          rotate_left
          · simp only [Act.put, List.setIfInBounds_toArray, List.set_cons_zero, List.set_cons_succ, i64_w, i32_w]
            rfl
          refine take_ (i := 19) (N := some 80) (v := ?_) (a' := ?_) #[true, true, true, true, true, true, true, true, true, true, true, true, true, true, true, true, true, true, true, true, false, true, false, true, true, true, false, false, true, false, false, false, false] rfl rfl (by kernel_rfl) (fun _ _ _ h => h) (Or.inl ⟨by rfl, ?_⟩) hHeld ?_ ?_
          rotate_left
          · rintro w' ⟨s0, s1, s2, s3, s4⟩
            go_simp
            with_reducible rfl
          rotate_left
          · simp only [Act.put, List.setIfInBounds_toArray, List.set_cons_zero, List.set_cons_succ, i64_w, i32_w]
            rfl
          refine pure_ (i := 20) (N := some 81) (v := ?_) (a' := ?_) #[true, true, true, true, true, true, true, true, true, true, true, true, true, true, true, true, true, true, true, true, true, true, false, true, true, true, false, false, true, false, false, false, false] rfl rfl (by kernel_rfl) (fun _ _ _ h => h) (Or.inl ⟨by rfl, ?_⟩) ?_ ?_
          rotate_left
          · intro w'
            go_simp
            with_reducible rfl
          rotate_left
          · simp only [Act.put, List.setIfInBounds_toArray, List.set_cons_zero, List.set_cons_succ, i64_w, i32_w]
            rfl
          refine take_ (i := 22) (N := some 83) (v := ?_) (a' := ?_) #[true, true, true, true, true, true, true, true, true, true, true, true, true, true, true, true, true, true, true, true, true, true, true, true, true, true, false, false, true, false, false, false, false] rfl rfl (by kernel_rfl) (fun _ _ _ h => h) (Or.inl ⟨by rfl, ?_⟩) hHeld ?_ ?_
          rotate_left
          · rintro w' ⟨s0, s1, s2, s3, s4⟩
            go_simp
            with_reducible rfl
          rotate_left
          · simp only [Act.put, List.setIfInBounds_toArray, List.set_cons_zero, List.set_cons_succ, i64_w, i32_w]
            rfl
          refine take_ (i := 26) (N := some 87) (v := ?_) (a' := ?_) #[true, true, true, true, true, true, true, true, true, true, true, true, true, true, true, true, true, true, true, true, true, true, true, true, true, true, true, false, true, false, false, false, false] rfl rfl (by kernel_rfl) (fun _ _ _ h => h) (Or.inl ⟨by rfl, ?_⟩) hHeld ?_ ?_
          rotate_left
          · rintro w' ⟨s0, s1, s2, s3, s4⟩
            go_simp
            with_reducible rfl
          rotate_left
          · simp only [Act.put, List.setIfInBounds_toArray, List.set_cons_zero, List.set_cons_succ, i64_w, i32_w]
            rfl
          refine pure_ (i := 27) (N := some 88) (v := ?_) (a' := ?_) #[true, true, true, true, true, true, true, true, true, true, true, true, true, true, true, true, true, true, true, true, true, true, true, true, true, true, true, true, true, false, false, false, false] rfl rfl (by kernel_rfl) (fun _ _ _ h => h) (Or.inl ⟨by rfl, ?_⟩) ?_ ?_
          rotate_left
          · intro w'
            go_simp
            with_reducible rfl
          rotate_left
          · simp only [Act.put, List.setIfInBounds_toArray, List.set_cons_zero, List.set_cons_succ, i64_w, i32_w]
            rfl
          refine take_ (i := 29) (N := some 90) (v := ?_) (a' := ?_) #[true, true, true, true, true, true, true, true, true, true, true, true, true, true, true, true, true, true, true, true, true, true, true, true, true, true, true, true, true, true, false, false, false] rfl rfl (by kernel_rfl) (fun _ _ _ h => h) (Or.inl ⟨by rfl, ?_⟩) hHeld ?_ ?_
          rotate_left
          · rintro w' ⟨s0, s1, s2, s3, s4⟩
            go_simp
            with_reducible rfl
          rotate_left
          · simp only [Act.put, List.setIfInBounds_toArray, List.set_cons_zero, List.set_cons_succ, i64_w, i32_w]
            rfl
          refine pure_ (i := 30) (N := some 91) (v := ?_) (a' := ?_) #[true, true, true, true, true, true, true, true, true, true, true, true, true, true, true, true, true, true, true, true, true, true, true, true, true, true, true, true, true, true, true, false, false] rfl rfl (by kernel_rfl) (fun _ _ _ h => h) (Or.inl ⟨by rfl, ?_⟩) ?_ ?_
          rotate_left
          · intro w'
            go_simp
            with_reducible rfl
          rotate_left
          · simp only [Act.put, List.setIfInBounds_toArray, List.set_cons_zero, List.set_cons_succ, i64_w, i32_w]
            rfl
          refine pure_ (i := 31) (N := some 92) (v := ?_) (a' := ?_) #[true, true, true, true, true, true, true, true, true, true, true, true, true, true, true, true, true, true, true, true, true, true, true, true, true, true, true, true, true, true, true, true, false] rfl rfl (by kernel_rfl) (fun _ _ _ h => h) (Or.inl ⟨by rfl, ?_⟩) ?_ ?_
          rotate_left
          · intro w'
            go_simp
            with_reducible rfl
          rotate_left
          · simp only [Act.put, List.setIfInBounds_toArray, List.set_cons_zero, List.set_cons_succ, i64_w, i32_w]
            rfl
          refine last_ (i := 32) (N := some 93) #[true, true, true, true, true, true, true, true, true, true, true, true, true, true, true, true, true, true, true, true, true, true, true, true, true, true, true, true, true, true, true, true, true] rfl rfl (by kernel_rfl) (by decide) (fun K hK => ?_)
          refine goes_ Try.func114 (by kernel_rfl) rfl #[.slice (some ⟨gP, 0, none⟩) pn capP, .slice AP pn (ci - oN)] (by rfl) rfl rfl (by simp only [List.map_toArray, List.map_cons, List.map_nil]; rfl) ?_
          with_reducible refine (xor_at gP pn capP pn Pr ys AP (ci - oN) wx _ HYL.out HPD.out HBD.out HCY.out HCI.out (Nat.le_refl _) hpn2).mono ?_
          rintro e w7 ⟨rfl, hR7, hg7, hb7⟩
          refine ⟨_, rfl, ?_⟩
          refine hK.out _ _ ?_
          clear hK K
          refine norm_ (a' := ?_) ?_ ?_
          rotate_left
          · show Act.put _ (some 93) _ = _
            simp only [Act.put, List.setIfInBounds_toArray, List.set_cons_zero, List.set_cons_succ, i64_w, i32_w]
            rfl
          refine done_ (by kernel_rfl) ?_
          go_wp2
          go_roundw
          case rel => exact ⟨j + 1, by omega, by go_num, ⟨by rw [HPS.out]; exact hR7⟩, ⟨hb7⟩, ⟨Kd.R_over' HSD.out (fun k hk => Kd.R_typed HPD.out k hk) (by decide) hg7⟩⟩
          case measure => simp [intOf]; omega
        · obtain rfl : j = S.length := by omega
          rw [List.take_length] at HP
          obtain ⟨Pr, hPr⟩ : ∃ Pr, Pr = partX mm s (List.replicate pn 0) S := ⟨_, rfl⟩
          rw [← hPr] at HP HT HPL
          have hpl := HPL.out
          have hcp := (Kd.R_reads' HP.out).2.2
          rw [hpl] at hcp
          have HCP := Aside0.mk hcp
          have HOi := Aside0.mk (Kd.R_below HOl.out HBi.out)
          have HGi := Aside0.mk (Kd.R_below HGl.out HBi.out)
          have HBw := Aside0.mk (below_step HB1.out HBi.out)
          clear hpl hcp hPr
          go_wp2_with (first | (refine Kd.R_append_rows (Kd.int .u8) (Rr := (Kd.int .u8).K wr) (w0 := w) w.heap.size rfl (.tmp 95) (.tmp 96) 22 5 (.int .u8 0) 1 rfl Try.underlying22 info5 rfl (by decide) (by decide) (.slice AO O.length cO) O Pr (some ⟨gP, 0, none⟩) pn capP (fun _ => True) (fun _ => False) rfl rfl HOi.out HCP.out (fun _ _ h => h) (fun _ h => h.elim) (fun _ _ => trivial) HBw.out HBw.out.size HRM.out ?_; intro v8 w8 HO8 HB8 hg8 hat8))
          go_roundw
          case rel => exact ⟨i + 1, by omega, by go_num, ⟨by rw [HT.out]; exact HO8⟩, ⟨HB8⟩, ⟨Kd.R_over' HGi.out (fun k hk => Kd.R_typed HOi.out k hk) (by decide) hg8⟩⟩
          case measure => simp [intOf]; omega
    · obtain rfl : i = R.length := by omega
      rw [List.take_length] at HO
      obtain ⟨O, hO⟩ : ∃ O, O = R.flatMap (partR mm s gone) := ⟨_, rfl⟩
      rw [← hO] at HO
      obtain ⟨AO, cO, eO⟩ := Kd.R_slice HO.out
      subst eO
      replace hO := Aside0.mk hO
      go_wp2
      refine bodyPost_ret (v := .tuple #[.slice AO O.length cO, .int .i64 0]) (by simp [results, Try.results109, go_sem]) rfl ?_
      exact ⟨_, rfl, by rw [← hO.out]; exact HO.out, HBr.out⟩
end Go.Proofs.Ytlnikhijfamakaa.Pure
