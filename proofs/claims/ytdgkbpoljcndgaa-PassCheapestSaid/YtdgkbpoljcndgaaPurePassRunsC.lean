/- The reference's attempt on a block. No condition. -/
import Derived.Test.YtdgkbpoljcndgaaPurePassRunsA
namespace Go.Proofs.Ytdgkbpoljcndgaa.Pure
open Go Go.RowKit Go.Maps Go.Proofs.Ytdgkbpoljcndgaa.QPassRuns Go.Proofs.YtdgkbpoljcndgaaW.PrintWords Go.Proofs.YtdgkbpoljcndgaaW.PrintLast Go.Proofs.YtdgkbpoljcndgaaW.PrintMore
set_option linter.unusedVariables false
set_option linter.unusedSimpArgs false
section
variable {P : Program} {α : Type}
/-- the same, the source as long or longer -/
theorem copy_min {enc : α → Value} {h1 : ∀ x, (enc x).oneCell' = true} (d : α) {W : World} (base : Nat) (t t' ty e : TypeId)
    (ht : P.underlying t = some (.slice e)) (hinfo : (P.info? e).map (·.size) = some 1)
    {g n cap lo k c2 : Nat} {xs ys : List α} {A : Option Addr} {m c : Nat} {ok : Nat → Prop}
    (HO : (Kd.scalar enc h1).R e W base ok (.slice (some ⟨g, 0, none⟩) n cap) xs) (HR : (Kd.scalar enc h1).C W A m ys) (hk : lo + k ≤ n) (hm : k ≤ m) (hm0 : 0 < k) :
    ∃ w1, (Builtin.copy_ #[t, t'] ty #[.slice (some ⟨g, lo, none⟩) k c2, .slice A m c]).run P W = .ok (goInt ((k : Nat) : Int)) w1 ∧ (Kd.scalar enc h1).R e w1 base ok (.slice (some ⟨g, 0, none⟩) n cap) (xs.take lo ++ (ys.take k ++ xs.drop (lo + k))) ∧ W.grownBy w1 (some g) := by
  have hR := Kd.reads_of_C (enc := enc) (d := d) (h1 := h1) HR
  have hym : ys.length = m := hR.1
  obtain ⟨hn, _⟩ := Kd.R_reads' HO
  have hown := Kd.own_of_R HO
  obtain ⟨ad, hA, hc⟩ := hR.2.2 (by omega)
  rcases hown.2 with ⟨hv, _⟩ | ⟨g', cap', cur, hv, hb, hh, hnc, hcm, hcs, htake⟩
  · simp at hv
  simp only [Value.slice.injEq, Option.some.injEq, Addr.mk.injEq, and_true, true_and] at hv
  obtain ⟨hg, _, hcap⟩ := hv
  subst hg
  have hcs1 : cur.size = cap' := by omega
  have hsrc : ∀ j u, (encs enc (ys.take k))[j]? = some u → W.cell? (ad.add j) = some u := by
    intro j u hu
    have hj : j < (ys.take k).length := by
      rcases Nat.lt_or_ge j (ys.take k).length with h | h
      · exact h
      · rw [List.getElem?_eq_none (by rw [encs_length]; exact h)] at hu
        cases hu
    rw [encs_get (d := d) _ j hj] at hu
    rw [List.length_take] at hj
    rw [hc j (by omega), ← hu]
    simp [List.getD_eq_getElem?_getD, List.getElem?_take_of_lt (show j < k by omega)]
  have hkl : (encs enc (ys.take k)).length = k := by rw [encs_length, List.length_take]; omega
  have hr := run_copy_cells (P := P) W t t' ty e g lo k c2 ad m c (encs enc (ys.take k)) ht hinfo (by rw [hkl]; exact (Nat.min_eq_right hm).symm) hsrc
    (fun j hj => by rw [cell_of_row W g _ cur e (0, 0) hh]; simp; omega) (fun j _ => blk_frozen hh _) (by intro u hu; simp only [encs, List.mem_map] at hu; obtain ⟨q, _, rfl⟩ := hu; exact h1 q)
  obtain ⟨cur', h3, h4, h5⟩ := setCells_row (encs enc (ys.take k)) lo W cur hh (by rw [hkl]; omega)
  obtain ⟨s1, s2, s3, s4⟩ := setCells_same g (encs enc (ys.take k)) lo W
  have hln : (xs.take lo ++ (ys.take k ++ xs.drop (lo + k))).length = xs.length := by
    simp only [List.length_append, List.length_take, List.length_drop]; omega
  refine ⟨_, by rw [hA, hr, hkl], ?_, ⟨s1, s2, s3, by rw [s4]; exact Nat.le_refl _, fun i _ hi => setCells_far _ _ i (fun he => hi (by rw [he]))⟩⟩
  refine Kd.R_of_own ?_ HO.1
  rw [hln, hn]
  refine ⟨by rw [encs_length, hln, Nat.mul_one], .inr ⟨g, cap, cur', rfl, hb, h3, by omega, by omega, by omega, ?_⟩⟩
  have htk : cur.toList.take xs.length = encs enc xs := by rw [← htake, Nat.mul_one]
  have hdr : cur.toList.drop xs.length = cur.toList.drop xs.length := rfl
  have hcur : cur.toList = encs enc xs ++ cur.toList.drop xs.length := by rw [← htk, List.take_append_drop]
  rw [h5, hkl, Nat.mul_one, hcur]
  have he : (encs enc xs).length = xs.length := encs_length _
  have t1 : (encs enc xs ++ cur.toList.drop xs.length).take lo = (encs enc xs).take lo := List.take_append_of_le_length (by rw [he]; omega)
  have t2 : (encs enc xs ++ cur.toList.drop xs.length).drop (lo + k) = (encs enc xs).drop (lo + k) ++ cur.toList.drop xs.length := List.drop_append_of_le_length (by rw [he]; omega)
  rw [t1, t2]
  rw [show encs enc (xs.take lo ++ (ys.take k ++ xs.drop (lo + k))) = (encs enc xs).take lo ++ encs enc (ys.take k) ++ (encs enc xs).drop (lo + k) by simp [encs, List.map_take, List.map_drop]]
  rw [← List.append_assoc, List.take_append_of_le_length (by simp only [List.length_append, List.length_take, List.length_drop, he, hkl]; omega)]
  rw [List.take_of_length_le (by simp only [List.length_append, List.length_take, List.length_drop, he, hkl]; omega)]
end
/-- the places of the reference -/
structure RE where
  db : Nat
  tb : Nat
  ob : Nat
  A0 : Option Addr
  c0 : Nat
  data : List Int
  A1 : Option Addr
  c1 : Nat
  faults : List S121
  n : Nat
  AS : Option Addr
  cS : Nat
  AD : Option Addr
  cD : Nat
  AT : Option Addr
  cT : Nat
  pb : Nat
  rb : Nat
  skip : Int
  tries : Int
def RE.vS (E : RE) : Value := .slice E.AS E.n E.cS
def RE.vD (E : RE) : Value := .slice E.AD (64 * E.n) E.cD
def RE.vT (E : RE) : Value := .slice E.AT E.n E.cT
def trs (n : Nat) (T : Int → Int) : List Int := (List.range n).map fun (j : Nat) => T (j : Int)
theorem trs_set (n : Nat) (T : Int → Int) (k : Nat) (u : Int) : (trs n T).set k u = trs n (fun j => if j = (k : Int) then u else T j) := by
  unfold trs
  apply List.ext_getElem?
  intro i
  simp only [List.getElem?_set, List.getElem?_map, List.length_map, List.length_range]
  by_cases h : k = i
  · subst h
    by_cases hk : k < n
    · simp [hk, List.getElem?_range hk]
    · simp [hk, List.getElem?_eq_none (l := List.range n) (i := k) (by simp; omega)]
  · rw [if_neg h]
    have h2 : ¬ ((i : Int) = (k : Int)) := by omega
    by_cases hi : i < n
    · simp [List.getElem?_range hi, h2]
    · simp [List.getElem?_eq_none (l := List.range n) (i := i) (by simp; omega)]
theorem trs_get (n : Nat) (T : Int → Int) (k : Nat) (hk : k < n) : (trs n T).getD k 0 = T (k : Int) := by
  unfold trs
  simp [List.getD_eq_getElem?_getD, List.getElem?_range hk]
structure IsRef (E : RE) (w0 w : World) (vR : Value) (s : PS) : Prop where
  below : Below w0.heap.size w0 w
  r0 : Kd.C (Kd.int .u8) w0 E.A0 E.data.length E.data
  r1 : Kd.C k121 w0 E.A1 E.faults.length E.faults
  k0 : E.data.length ≤ E.c0
  k1 : E.faults.length ≤ E.c1
  d : w.heap[E.db]? = some (.cells #[.slice E.A0 E.data.length E.c0, .slice E.A1 E.faults.length E.c1] 46 (0, 0))
  t : w.heap[E.tb]? = some (.cells #[E.vT] 37 (0, 0))
  o : w.heap[E.ob]? = some (.cells #[E.vS, E.vD, vR, .int .i64 s.tm] 82 (0, 0))
  S : (Kd.int .i64).R 3 w w0.heap.size (fun k => some k = E.vS.ownBlock) E.vS s.st
  D : (Kd.int .u8).R 5 w w0.heap.size (fun k => some k = E.vD.ownBlock) E.vD s.dat
  T : (Kd.int .i64).R 3 w w0.heap.size (fun k => some k = E.vT.ownBlock ∧ some k ≠ E.vS.ownBlock) E.vT (trs E.n s.tr)
  R : (Kd.int .i64).R 3 w w0.heap.size (fun k => some k = vR.ownBlock ∧ some k ≠ E.vS.ownBlock ∧ some k ≠ E.vT.ownBlock) vR s.rd
  bd : w0.heap.size ≤ E.db
  bt : w0.heap.size ≤ E.tb
  bo : w0.heap.size ≤ E.ob
  p : w.heap[E.pb]? = some (.cells #[.int .i64 E.skip, .int .i64 E.tries] 80 (0, 0))
  q : w.heap[E.rb]? = some (.cells #[.slice none 0 0, .slice none 0 0, .slice none 0 0, .int .i64 0] 82 (0, 0))
  ne : E.rb ≠ E.ob
section
variable {E : RE} {w0 w W w1 : World} {vR : Value} {s : PS}
theorem own_ne {α : Type} {d : Kd α} {e b : Nat} {ok : Nat → Prop} {v : Value} {xs : List α} {X t : Nat} {cs : Array Value} (h : d.R e w b ok v xs) (hX : w.heap[X]? = some (.cells cs t (0, 0))) (ht : e ≠ t) : ∀ k, some k = v.ownBlock → k ≠ X := by
  intro k hk he
  obtain ⟨c1, e1⟩ := Kd.R_typed h k hk.symm
  rw [he, hX] at e1
  injection e1 with e1
  injection e1 with _ e1
  exact ht e1.symm
theorem IsRef.drew (h : IsRef E w0 w vR s) : IsRef E w0 w.drew vR s := ⟨below_drew h.below, h.r0, h.r1, h.k0, h.k1, h.d, h.t, h.o, Kd.R_drew h.S, Kd.R_drew h.D, Kd.R_drew h.T, Kd.R_drew h.R, h.bd, h.bt, h.bo, blk_drew h.p, blk_drew h.q, h.ne⟩
theorem IsRef.later (h : IsRef E w0 w vR s) (hb : Below w.heap.size w W) : IsRef E w0 W vR s :=
  ⟨below_step h.below hb, h.r0, h.r1, h.k0, h.k1, blk_below h.d hb, blk_below h.t hb, blk_below h.o hb, Kd.R_below h.S hb, Kd.R_below h.D hb, Kd.R_below h.T hb, Kd.R_below h.R hb, h.bd, h.bt, h.bo, blk_below h.p hb, blk_below h.q hb, h.ne⟩
/-- a try is counted -/
theorem IsRef.tries (h : IsRef E w0 w vR s) {X : Nat} (hX : E.AT = some ⟨X, 0, none⟩) (k : Nat) (u : Int) : IsRef E w0 (w.setCell ⟨X, k, none⟩ (.int .i64 u)) vR { s with tr := fun j => if j = (k : Int) then u else s.tr j } := by
  have hown : E.vT.ownBlock = some X := by simp [RE.vT, hX, Value.ownBlock]
  have hb := Kd.R_base h.T X hown
  have oth : ∀ i, i ≠ X → (w.setCell ⟨X, k, none⟩ (.int .i64 u)).heap[i]? = w.heap[i]? := fun i hi => Below.heap_setCell w ⟨X, k, none⟩ _ i hi
  have ty := Kd.R_typed h.T X hown
  obtain ⟨cs, hty⟩ := ty
  have hT := h.T
  unfold RE.vT at hT hown
  rw [hX] at hT
  have hput := (Kd.R_putg (enc := Value.int .i64) (h1 := fun _ => rfl) hT (k : Int) u).1
  simp only [Int.toNat_natCast] at hput
  rw [trs_set] at hput
  refine ⟨h.below.setCell (p := ⟨X, k, none⟩) hb _, h.r0, h.r1, h.k0, h.k1, (oth _ ?_).trans h.d, (oth _ ?_).trans h.t, (oth _ ?_).trans h.o, Kd.R_move h.S fun i hi => oth i ?_, Kd.R_move h.D fun i hi => oth i (own_ne h.D hty (by decide) i hi), ?_, Kd.R_move h.R fun i hi => oth i ?_, h.bd, h.bt, h.bo, (oth _ (blk_ne h.p hty (by decide))).trans h.p, (oth _ (blk_ne h.q hty (by decide))).trans h.q, h.ne⟩
  · exact blk_ne h.d hty (by decide)
  · exact blk_ne h.t hty (by decide)
  · exact blk_ne h.o hty (by decide)
  · intro he; exact (h.T.1 X (by unfold RE.vT; exact hown)).2 (by rw [← he]; exact hi)
  · unfold RE.vT; rw [hX]; exact hput
  · intro he; exact hi.2.2 (by rw [he]; unfold RE.vT; exact hown.symm)
/-- a state is written -/
theorem IsRef.state (h : IsRef E w0 w vR s) {X : Nat} (hX : E.AS = some ⟨X, 0, none⟩) (k : Nat) (x : Int) : IsRef E w0 (w.setCell ⟨X, k, none⟩ (.int .i64 x)) vR { s with st := s.st.set k x } := by
  have hown : E.vS.ownBlock = some X := by simp [RE.vS, hX, Value.ownBlock]
  have hb := Kd.R_base h.S X hown
  have oth : ∀ i, i ≠ X → (w.setCell ⟨X, k, none⟩ (.int .i64 x)).heap[i]? = w.heap[i]? := fun i hi => Below.heap_setCell w ⟨X, k, none⟩ _ i hi
  obtain ⟨cs, hty⟩ := Kd.R_typed h.S X hown
  have hS := h.S
  unfold RE.vS at hS hown
  rw [hX] at hS
  have hput := (Kd.R_putg (enc := Value.int .i64) (h1 := fun _ => rfl) hS (k : Int) x).1
  simp only [Int.toNat_natCast] at hput
  refine ⟨h.below.setCell (p := ⟨X, k, none⟩) hb _, h.r0, h.r1, h.k0, h.k1, (oth _ (blk_ne h.d hty (by decide))).trans h.d, (oth _ (blk_ne h.t hty (by decide))).trans h.t, (oth _ (blk_ne h.o hty (by decide))).trans h.o, ?_, Kd.R_move h.D fun i hi => oth i (own_ne h.D hty (by decide) i hi), Kd.R_move h.T fun i hi => oth i ?_, Kd.R_move h.R fun i hi => oth i ?_, h.bd, h.bt, h.bo, (oth _ (blk_ne h.p hty (by decide))).trans h.p, (oth _ (blk_ne h.q hty (by decide))).trans h.q, h.ne⟩
  · unfold RE.vS; rw [hX]; exact hput
  · intro he; exact hi.2 (by rw [he]; unfold RE.vS; exact hown.symm)
  · intro he; exact hi.2.1 (by rw [he]; unfold RE.vS; exact hown.symm)
/-- the time is stored -/
theorem IsRef.time (h : IsRef E w0 w vR s) (x : Int) : IsRef E w0 (w.setCell ⟨E.ob, 3, none⟩ (.int .i64 x)) vR { s with tm := x } := by
  have oth : ∀ i, i ≠ E.ob → (w.setCell ⟨E.ob, 3, none⟩ (.int .i64 x)).heap[i]? = w.heap[i]? := fun i hi => Below.heap_setCell w ⟨E.ob, 3, none⟩ _ i hi
  exact ⟨h.below.setCell (p := ⟨E.ob, 3, none⟩) h.bo _, h.r0, h.r1, h.k0, h.k1, (oth _ (blk_ne h.d h.o (by decide))).trans h.d, (oth _ (blk_ne h.t h.o (by decide))).trans h.t, blk_put h.o 3 _ rfl,
    Kd.R_move h.S fun i hi => oth i (own_ne h.S h.o (by decide) i hi), Kd.R_move h.D fun i hi => oth i (own_ne h.D h.o (by decide) i hi), Kd.R_move h.T fun i hi => oth i (own_ne h.T h.o (by decide) i hi.1), Kd.R_move h.R fun i hi => oth i (own_ne h.R h.o (by decide) i hi.1), h.bd, h.bt, h.bo, (oth _ (blk_ne h.p h.o (by decide))).trans h.p, (oth _ h.ne).trans h.q, h.ne⟩
/-- a block has been appended to the reads, and the reads are stored -/
theorem IsRef.reads (h : IsRef E w0 W vR s) {v1 : Value} {x : Int} (hr : (Kd.int .i64).R 3 w1 w0.heap.size (fun k => some k ≠ E.vS.ownBlock ∧ some k ≠ E.vT.ownBlock) v1 (s.rd ++ [x])) (hg : W.grownBy w1 vR.ownBlock) :
    w1.heap[E.ob]? = some (.cells #[E.vS, E.vD, vR, .int .i64 s.tm] 82 (0, 0)) ∧ IsRef E w0 (w1.setCell ⟨E.ob, 2, none⟩ v1) v1 { s with rd := s.rd ++ [x] } := by
  have far : ∀ {X t : Nat} {cs : Array Value}, W.heap[X]? = some (.cells cs t (0, 0)) → 3 ≠ t → some X ≠ vR.ownBlock := fun hX ht he => own_ne h.R hX ht _ he rfl
  have hj : w1.heap[E.ob]? = some (.cells #[E.vS, E.vD, vR, .int .i64 s.tm] 82 (0, 0)) := (hg.block _ (blk_lt h.o) (far h.o (by decide))).trans h.o
  refine ⟨hj, ?_⟩
  have oth : ∀ k, k < W.heap.size → k ≠ E.ob → some k ≠ vR.ownBlock → (w1.setCell ⟨E.ob, 2, none⟩ v1).heap[k]? = W.heap[k]? := fun k h1 h2 h3 => (Below.heap_setCell w1 ⟨E.ob, 2, none⟩ v1 k h2).trans (hg.block k h1 h3)
  have hRD : ∀ k, some k = E.vD.ownBlock → some k ≠ vR.ownBlock := by
    intro k hk he
    obtain ⟨c1, e1⟩ := Kd.R_typed h.R k he.symm
    exact own_ne h.D e1 (by decide) k hk rfl
  have hbase : ∀ k, vR.ownBlock = some k → w0.heap.size ≤ k := Kd.R_base h.R
  refine ⟨(h.below.grown hg h.below.size hbase).setCell (p := ⟨E.ob, 2, none⟩) h.bo _, h.r0, h.r1, h.k0, h.k1, (oth _ (blk_lt h.d) (blk_ne h.d h.o (by decide)) (far h.d (by decide))).trans h.d, (oth _ (blk_lt h.t) (blk_ne h.t h.o (by decide)) (far h.t (by decide))).trans h.t, blk_put hj 2 _ rfl,
    Kd.R_move h.S fun k hk => oth k (Kd.R_lt h.S k hk.symm) (own_ne h.S h.o (by decide) k hk) (fun he => (h.R.1 k he.symm).2.1 hk),
    Kd.R_move h.D fun k hk => oth k (Kd.R_lt h.D k hk.symm) (own_ne h.D h.o (by decide) k hk) (hRD k hk),
    Kd.R_move h.T fun k hk => oth k (Kd.R_lt h.T k hk.1.symm) (own_ne h.T h.o (by decide) k hk.1) (fun he => (h.R.1 k he.symm).2.2 hk.1), ?_, h.bd, h.bt, h.bo, (oth _ (blk_lt h.p) (blk_ne h.p h.o (by decide)) (far h.p (by decide))).trans h.p, (oth _ (blk_lt h.q) h.ne (far h.q (by decide))).trans h.q, h.ne⟩
  exact Kd.R_move (Kd.R_tight2 (d := Kd.int .i64) rfl hr) fun k hk => Below.heap_setCell w1 ⟨E.ob, 2, none⟩ v1 k (own_ne hr hj (by decide) k hk.1)
/-- the row of bytes is written -/
theorem IsRef.bytes (h : IsRef E w0 W vR s) {X : Nat} (hD : E.AD = some ⟨X, 0, none⟩) {dat : List Int} (hr : (Kd.int .u8).R 5 w1 w0.heap.size (fun k => some k = E.vD.ownBlock) E.vD dat) (hg : W.grownBy w1 (some X)) : IsRef E w0 w1 vR { s with dat := dat } := by
  have hown : E.vD.ownBlock = some X := by simp [RE.vD, hD, Value.ownBlock]
  obtain ⟨cs, hty⟩ := Kd.R_typed h.D X hown
  have oth : ∀ i, i < W.heap.size → i ≠ X → w1.heap[i]? = W.heap[i]? := fun i h1 h2 => hg.block i h1 (by simpa using h2)
  exact ⟨h.below.grown hg h.below.size (fun k e => by cases e; exact Kd.R_base h.D X hown), h.r0, h.r1, h.k0, h.k1, (oth _ (blk_lt h.d) (blk_ne h.d hty (by decide))).trans h.d, (oth _ (blk_lt h.t) (blk_ne h.t hty (by decide))).trans h.t, (oth _ (blk_lt h.o) (blk_ne h.o hty (by decide))).trans h.o,
    Kd.R_move h.S fun i hi => oth i (Kd.R_lt h.S i hi.symm) (own_ne h.S hty (by decide) i hi), hr, Kd.R_move h.T fun i hi => oth i (Kd.R_lt h.T i hi.1.symm) (own_ne h.T hty (by decide) i hi.1), Kd.R_move h.R fun i hi => oth i (Kd.R_lt h.R i hi.1.symm) (own_ne h.R hty (by decide) i hi.1), h.bd, h.bt, h.bo, (oth _ (blk_lt h.p) (blk_ne h.p hty (by decide))).trans h.p, (oth _ (blk_lt h.q) (blk_ne h.q hty (by decide))).trans h.q, h.ne⟩
end
/-- the reference's drive is right -/
structure RightR (E : RE) : Prop where
  right : RightF ((E.data.length : Int) / 64) E.faults
  size : (E.data.length : Int) ≤ 65536
  len : E.data.length = 64 * E.n
  few : E.faults.length ≤ 5864062014805
set_option maxHeartbeats 16000000 in
set_option maxRecDepth 100000 in
/-- the reference's attempt -/
theorem att_calls {E : RE} {w0 w : World} {vR : Value} {s : PS} {N : Nat} (h : IsRef E w0 w vR s) (hz : Sized E.n N s) (hE : RightR E) (hN : N ≤ 1000000) (k : Nat) (hk : k < E.n) :
    Calls Try.prog 96 #[.int .i64 (k : Int), .pointer (some ⟨E.db, 0, none⟩), .pointer (some ⟨E.tb, 0, none⟩), .pointer (some ⟨E.ob, 0, none⟩)] w fun e w' => e = .returned (.bool (att E.data E.faults s k).2) ∧ ∃ vR', IsRef E w0 w' vR' (att E.data E.faults s k).1 := by
  obtain ⟨AR, cR, eR⟩ := Kd.R_slice h.R
  subst eR
  have hs := hE.size
  have hl := hE.len
  have hf1 := hE.few
  obtain ⟨⟨need, cost⟩, hnc⟩ : ∃ p, needs E.faults (k : Int) = p := ⟨_, rfl⟩
  obtain ⟨kn, hkn⟩ := (needs_ev E.data E.faults (k : Int) hE.right.kind (by omega)).rounds
  rw [hnc] at hkn
  have hTk := hz.tr (k : Int)
  obtain ⟨u, hu⟩ : ∃ u, s.tr (k : Int) + 1 = u := ⟨_, rfl⟩
  obtain ⟨S, cS', hvS, hbS, _, _⟩ := Kd.R_form h.S (by rw [hz.st]; omega)
  obtain ⟨D, cD', hvD, hbD, _, _⟩ := Kd.R_form h.D (by rw [hz.dat]; omega)
  obtain ⟨X, cT', hvT, hbT, _, _⟩ := Kd.R_form h.T (by simp [trs]; omega)
  have hAS : E.AS = some ⟨S, 0, none⟩ := by simp only [RE.vS, Value.slice.injEq] at hvS; exact hvS.1
  have hAD : E.AD = some ⟨D, 0, none⟩ := by simp only [RE.vD, Value.slice.injEq] at hvD; exact hvD.1
  have hAT : E.AT = some ⟨X, 0, none⟩ := by simp only [RE.vT, Value.slice.injEq] at hvT; exact hvT.1
  have HVS := Aside0.mk (show E.vS = .slice (some ⟨S, 0, none⟩) E.n E.cS by unfold RE.vS; rw [hAS])
  have HVD := Aside0.mk (show E.vD = .slice (some ⟨D, 0, none⟩) (64 * E.n) E.cD by unfold RE.vD; rw [hAD])
  have HVT := Aside0.mk (show E.vT = .slice (some ⟨X, 0, none⟩) E.n E.cT by unfold RE.vT; rw [hAT])
  have hkn2 : (k : Int) < (E.n : Int) := by omega
  have hadd : IntKind.i64.wrap (s.tr (k : Int) + 1) = u := by rw [i64_w, hu]; unfold wrap64; omega
  have hu46 := Try.underlying46
  have d0 : w.cell? ⟨E.db, 0, none⟩ = some (.slice E.A0 E.data.length E.c0) := (blk_cell h.d 0).trans rfl
  have d1 : w.cell? ⟨E.db, 1, none⟩ = some (.slice E.A1 E.faults.length E.c1) := (blk_cell h.d 1).trans rfl
  have cellT : ∀ {W : World} {v : Value} {z : PS}, IsRef E w0 W v z → W.cell? ⟨X, k, none⟩ = some (.int .i64 (z.tr (k : Int))) ∧ W.frozen? ⟨X, k, none⟩ = false := by
    intro W v z hh
    have := hh.T
    unfold RE.vT at this
    rw [hAT] at this
    have := Kd.R_celln (enc := Value.int .i64) (h1 := fun _ => rfl) (0 : Int) this (k : Int) (by omega) (by omega)
    have e2 : rdOf (0 : Int) (trs E.n z.tr) (k : Int) = z.tr (k : Int) := by unfold rdOf; rw [Int.toNat_natCast]; exact trs_get E.n z.tr k hk
    rw [e2] at this
    simpa using this
  have cellS : ∀ {W : World} {v : Value} {z : PS}, IsRef E w0 W v z → ∃ x, W.cell? ⟨S, k, none⟩ = some (.int .i64 x) ∧ W.frozen? ⟨S, k, none⟩ = false := by
    intro W v z hh
    have := hh.S
    unfold RE.vS at this
    rw [hAS] at this
    have := Kd.R_celln (enc := Value.int .i64) (h1 := fun _ => rfl) (0 : Int) this (k : Int) (by omega) (by omega)
    exact ⟨_, by simpa using this⟩
  have HJ := Aside0.mk h
  have HZ := Aside0.mk hz
  have HN := Aside0.mk hN
  have HK := Aside0.mk hk
  have HU := Aside0.mk hu
  have HNC := Aside0.mk hnc
  have HAS := Aside0.mk hAS
  have HAD := Aside0.mk hAD
  have HAT := Aside0.mk hAT
  have HL := Aside0.mk hl
  have HR := Aside0.mk hE
  have HS := Aside0.mk hs
  have HKN := Aside0.mk hkn
  have CT := Aside0.mk @cellT
  have CS := Aside0.mk @cellS
  clear hs hl hf1 hTk hu hnc hvS hvD hvT hAS hAD hAT h hz hN hk hE hkn hbS hbD hbT cellT cellS
  go_enter Try.func96, Try.ntmps96
  go_wp2_with (first
    | (go_at_call 33; refine (wrackref1_Needs.calls kn E.A0 E.c0 E.data E.A1 E.c1 E.faults (k : Int) need cost _ (Kd.C_below HJ.out.r0 HJ.out.below) HJ.out.k0 (Kd.C_below HJ.out.r1 HJ.out.below) HJ.out.k1 HKN.out).mono ?_; rintro e w1 ⟨rfl, hb1⟩; have J1 := Aside0.mk (HJ.out.later hb1); obtain ⟨f0, f1⟩ := CT.out J1.out; have ct : w1.cell? ⟨E.tb, 0, none⟩ = some (.slice (some ⟨X, 0, none⟩) E.n E.cT) := (blk_cell J1.out.t 0).trans (congrArg some HVT.out); clear hb1 d0 d1))
  have J2 := Aside0.mk ((J1.out.tries HAT.out k u).drew)
  have q2 : (w1.setCell ⟨X, k, none⟩ (.int .i64 u)).drew.cell? ⟨E.ob, 2, none⟩ = some (.slice AR s.rd.length cR) := (blk_cell J2.out.o 2).trans rfl
  have q3 : (w1.setCell ⟨X, k, none⟩ (.int .i64 u)).drew.cell? ⟨E.ob, 3, none⟩ = some (.int .i64 s.tm) := (blk_cell J2.out.o 3).trans rfl
  clear f0 f1 ct
  refine start_ (n := 13) (S := fun w' => w'.cell? ⟨E.ob, 2, none⟩ = some (.slice AR s.rd.length cR) ∧ w'.cell? ⟨E.ob, 3, none⟩ = some (.int .i64 s.tm)) (ds := [10, 12]) #[false, false, false, false, false, false, false, false, false, false, false, false, false] (by kernel_rfl) rfl rfl ⟨q2, q3⟩ (fun hHeld => ?_)
  generalize (w1.setCell ⟨X, k, none⟩ (.int .i64 u)).drew = w2 at J2 q2 q3 hHeld ⊢
  refine pure_ (i := 0) (N := some 20) (v := ?_) (a' := ?_) #[true, false, false, false, false, false, false, false, false, false, false, false, false] rfl rfl (by kernel_rfl) (fun _ _ _ h => h) (Or.inl ⟨by rfl, ?_⟩) ?_ ?_
  rotate_left
  · intro w'
    go_simp
    with_reducible rfl
  rotate_left
  · simp only [Act.put, List.setIfInBounds_toArray, List.set_cons_zero, List.set_cons_succ, i64_w, i32_w]
    rfl
  refine pure_ (i := 2) (N := some 22) (v := ?_) (a' := ?_) #[true, false, true, false, false, false, false, false, false, false, false, false, false] rfl rfl (by kernel_rfl) (fun _ _ _ h => h) (Or.inl ⟨by rfl, ?_⟩) ?_ ?_
  rotate_left
  · intro w'
    go_simp
    with_reducible rfl
  rotate_left
  · simp only [Act.put, List.setIfInBounds_toArray, List.set_cons_zero, List.set_cons_succ, i64_w, i32_w]
    rfl
  refine pure_ (i := 5) (N := some 25) (v := ?_) (a' := ?_) #[true, false, true, false, false, true, false, false, false, false, false, false, false] rfl rfl (by kernel_rfl) (fun _ _ _ h => h) (Or.inl ⟨by rfl, ?_⟩) ?_ ?_
  rotate_left
  · intro w'
    go_simp
    with_reducible rfl
  rotate_left
  · simp only [Act.put, List.setIfInBounds_toArray, List.set_cons_zero, List.set_cons_succ, i64_w, i32_w]
    rfl
  refine pure_ (i := 7) (N := some 27) (v := ?_) (a' := ?_) #[true, false, true, false, false, true, false, true, false, false, false, false, false] rfl rfl (by kernel_rfl) (fun _ _ _ h => h) (Or.inl ⟨by rfl, ?_⟩) ?_ ?_
  rotate_left
  · intro w'
    go_simp
    with_reducible rfl
  rotate_left
  · simp only [Act.put, List.setIfInBounds_toArray, List.set_cons_zero, List.set_cons_succ, i64_w, i32_w]
    rfl
  refine take_ (i := 1) (N := some 21) (v := ?_) (a' := ?_) #[true, true, true, false, false, true, false, true, false, false, false, false, false] rfl rfl (by kernel_rfl) (fun _ _ _ h => h) (Or.inl ⟨by rfl, ?_⟩) hHeld ?_ ?_
  rotate_left
  · rintro w' ⟨s0, s1⟩
    go_simp
    with_reducible rfl
  rotate_left
  · simp only [Act.put, List.setIfInBounds_toArray, List.set_cons_zero, List.set_cons_succ, i64_w, i32_w]
    rfl
  refine take_ (i := 6) (N := some 26) (v := ?_) (a' := ?_) #[true, true, true, false, false, true, true, true, false, false, false, false, false] rfl rfl (by kernel_rfl) (fun _ _ _ h => h) (Or.inl ⟨by rfl, ?_⟩) hHeld ?_ ?_
  rotate_left
  · rintro w' ⟨s0, s1⟩
    go_simp
    with_reducible rfl
  rotate_left
  · simp only [Act.put, List.setIfInBounds_toArray, List.set_cons_zero, List.set_cons_succ, i64_w, i32_w]
    rfl
  refine pure_ (i := 8) (N := some 28) (v := ?_) (a' := ?_) #[true, true, true, false, false, true, true, true, true, false, false, false, false] rfl rfl (by kernel_rfl) (fun _ _ _ h => h) (Or.inl ⟨by rfl, ?_⟩) ?_ ?_
  rotate_left
  · intro w'
    go_simp
    with_reducible rfl
  rotate_left
  · simp only [Act.put, List.setIfInBounds_toArray, List.set_cons_zero, List.set_cons_succ, i64_w, i32_w]
    rfl
  refine one_ (i := 3) (N := some 23) #[true, true, true, true, false, true, true, true, true, false, false, false, false] rfl rfl (by kernel_rfl) (by decide) (fun K hK => ?_)
  refine value_ (w1 := ?_) (v := ?_) (by rfl) rfl ?_ ?_
  rotate_left 2
  · go_simp
    constructor
    · rfl
    · rfl
  refine hK.out _ _ ⟨pw_cell_below (below_alloc (Below.refl w2.heap.size w2) _) q2, pw_cell_below (below_alloc (Below.refl w2.heap.size w2) _) q3⟩ (fun hHeld => ?_)
  clear hK K
  refine norm_ (a' := ?_) ?_ ?_
  rotate_left
  · show Act.put _ (some 23) _ = _
    simp only [Act.put, List.setIfInBounds_toArray, List.set_cons_zero, List.set_cons_succ, i64_w, i32_w]
    rfl
  refine one_ (i := 4) (N := some 24) #[true, true, true, true, true, true, true, true, true, false, false, false, false] rfl rfl (by kernel_rfl) (by decide) (fun K hK => ?_)
  refine Kd.R_append_step (Kd.int .i64) (w0 := w2) w0.heap.size (by rfl) (.tmp 21) (.tmp 23) 37 3 (.int .i64 0) 8 rfl Try.underlying37 info3 rfl (by decide) (by decide) (.slice AR s.rd.length cR) s.rd (k : Int) [.int .i64 (k : Int)] (fun i => some i ≠ E.vS.ownBlock ∧ some i ≠ E.vT.ownBlock) (fun _ => False) rfl rfl rfl (fun _ h => h.elim) (fun i hi => ⟨fun he => absurd (Kd.R_lt J2.out.S i he.symm) (by omega), fun he => absurd (Kd.R_lt J2.out.T i he.symm) (by omega)⟩) (Kd.R_mono J2.out.R fun i hi => hi.2) (Below.refl _ _) J2.out.below.size (by have := HZ.out.rd; have := HN.out; omega) ?_
  intro v1 w3 hR3 hB3 hG3 hat3
  obtain ⟨AR2, cR2, eV2⟩ := Kd.R_slice hR3
  rw [show (s.rd ++ [(k : Int)]).length = s.rd.length + 1 by simp] at eV2
  subst eV2
  obtain ⟨hj3, J3⟩ := J2.out.reads hR3 hG3
  have d2 : w3.cell? ⟨E.ob, 2, none⟩ = some (.slice AR s.rd.length cR) := (blk_cell hj3 2).trans rfl
  have e2 := blk_frozen hj3 2
  have d3 : (w3.setCell ⟨E.ob, 2, none⟩ (.slice AR2 (s.rd.length + 1) cR2)).cell? ⟨E.ob, 3, none⟩ = some (.int .i64 s.tm) := (blk_cell J3.o 3).trans rfl
  have e3 := blk_frozen J3.o 3
  have hx2 : w3.cell? ⟨E.ob, 2, none⟩ = some (.slice AR s.rd.length cR) := d2
  have hx3 : w3.cell? ⟨E.ob, 3, none⟩ = some (.int .i64 s.tm) := (blk_cell hj3 3).trans rfl
  refine hK.out _ _ ⟨hx2, hx3⟩ (fun hHeld => ?_)
  clear hK K
  refine norm_ (a' := ?_) ?_ ?_
  rotate_left
  · show Act.put _ (some 24) _ = _
    simp only [Act.put, List.setIfInBounds_toArray, List.set_cons_zero, List.set_cons_succ, i64_w, i32_w]
    rfl
  refine pure_ (i := 9) (N := some 29) (v := ?_) (a' := ?_) #[true, true, true, true, true, true, true, true, true, true, false, false, false] rfl rfl (by kernel_rfl) (fun _ _ _ h => h) (Or.inl ⟨by rfl, ?_⟩) ?_ ?_
  rotate_left
  · intro w'
    go_simp
    with_reducible rfl
  rotate_left
  · simp only [Act.put, List.setIfInBounds_toArray, List.set_cons_zero, List.set_cons_succ, i64_w, i32_w]
    rfl
  refine last_ (i := 10) (N := none) #[true, true, true, true, true, true, true, true, true, true, true, false, false] rfl rfl (by kernel_rfl) (by decide) (fun K hK => ?_)
  refine skip_ (w1 := ?_) (by rfl) rfl ?_ ?_
  rotate_left
  · go_simp
    rfl
  refine hK.out _ _ ?_
  clear hK K
  refine pure_ (i := 11) (N := some 30) (v := ?_) (a' := ?_) #[true, true, true, true, true, true, true, true, true, true, true, true, false] rfl rfl (by kernel_rfl) (fun _ _ _ h => h) (Or.inl ⟨by rfl, ?_⟩) ?_ ?_
  rotate_left
  · intro w'
    go_simp
    with_reducible rfl
  rotate_left
  · simp only [Act.put, List.setIfInBounds_toArray, List.set_cons_zero, List.set_cons_succ, i64_w, i32_w]
    rfl
  refine last_ (i := 12) (N := none) #[true, true, true, true, true, true, true, true, true, true, true, true, true] rfl rfl (by kernel_rfl) (by decide) (fun K hK => ?_)
  refine skip_ (w1 := ?_) (by rfl) rfl ?_ ?_
  rotate_left
  · go_simp
    rfl
  refine hK.out _ _ ?_
  clear hK K
  refine done_ (by kernel_rfl) ?_
  obtain ⟨tn, htn⟩ : ∃ tn, wrap64 (s.tm + cost) = tn := ⟨_, rfl⟩
  have J4 := Aside0.mk (J3.time tn)
  rw [htn]
  have HTN := Aside0.mk htn
  generalize (w3.setCell ⟨E.ob, 2, none⟩ (.slice AR2 (s.rd.length + 1) cR2)).setCell ⟨E.ob, 3, none⟩ (.int .i64 tn) = w4 at J4 ⊢
  clear J3 hR3 d2 e2 d3 e3 hx2 hx3 hB3 hG3 hat3 hj3 hHeld q2 q3 htn
  obtain ⟨f0, _⟩ := CT.out J4.out
  simp only [if_true] at f0
  have ct : w4.cell? ⟨E.tb, 0, none⟩ = some (.slice (some ⟨X, 0, none⟩) E.n E.cT) := (blk_cell J4.out.t 0).trans (congrArg some HVT.out)
  obtain ⟨x, fs, gs⟩ := CS.out J4.out
  have co : w4.cell? ⟨E.ob, 0, none⟩ = some (.slice (some ⟨S, 0, none⟩) E.n E.cS) := (blk_cell J4.out.o 0).trans (congrArg some HVS.out)
  by_cases hb0 : need = 0
  · have hz1 : (need == 0) = true := beq_iff_eq.mpr hb0
    have HBB := Aside0.mk (show need = 0 ∨ u < need from Or.inl hb0)
    clear hb0
    have := J4.out.state HAS.out k 2
    go_wp2
    go_ret
    unfold att
    rw [if_pos (by rw [HNC.out, HU.out]; exact HBB.out)]
    refine ⟨rfl, .slice AR2 (s.rd.length + 1) cR2, ?_⟩
    rw [HU.out, HNC.out, HTN.out]
    exact this
  · have hz1 : (need == 0) = false := beq_eq_false_iff_ne.mpr hb0
    by_cases hb1 : u < need
    · have hz2 := decide_eq_true hb1
      have HBB := Aside0.mk (show need = 0 ∨ u < need from Or.inr hb1)
      clear hb0 hb1
      have := J4.out.state HAS.out k 2
      go_wp2
      go_ret
      unfold att
      rw [if_pos (by rw [HNC.out, HU.out]; exact HBB.out)]
      refine ⟨rfl, .slice AR2 (s.rd.length + 1) cR2, ?_⟩
      rw [HU.out, HNC.out, HTN.out]
      exact this
    · have hz2 := decide_eq_false hb1
      have HBB := Aside0.mk (show ¬ (need = 0 ∨ u < need) by rintro (h | h); exact hb0 h; exact hb1 h)
      clear hb0 hb1
      go_wp2
      have J6 := Aside0.mk ((J4.out.state HAS.out k 1).drew)
      have q1 : (w4.setCell ⟨S, k, none⟩ (.int .i64 1)).drew.cell? ⟨E.ob, 1, none⟩ = some (.slice (some ⟨D, 0, none⟩) (64 * E.n) E.cD) := (blk_cell J6.out.o 1).trans (congrArg some HVD.out)
      have q0 : (w4.setCell ⟨S, k, none⟩ (.int .i64 1)).drew.cell? ⟨E.db, 0, none⟩ = some (.slice E.A0 E.data.length E.c0) := (blk_cell J6.out.d 0).trans rfl
      clear f0 ct fs gs co
      refine start_ (n := 14) (S := fun w' => w'.cell? ⟨E.ob, 1, none⟩ = some (.slice (some ⟨D, 0, none⟩) (64 * E.n) E.cD) ∧ w'.cell? ⟨E.db, 0, none⟩ = some (.slice E.A0 E.data.length E.c0)) (ds := []) #[false, false, false, false, false, false, false, false, false, false, false, false, false, false] (by kernel_rfl) rfl rfl ⟨q1, q0⟩ (fun hHeld => ?_)
      generalize (w4.setCell ⟨S, k, none⟩ (.int .i64 1)).drew = w6 at J6 q0 q1 hHeld ⊢
      obtain ⟨lo, hlo⟩ : ∃ lo : Nat, 64 * k = lo := ⟨_, rfl⟩
      obtain ⟨hi, hhi⟩ : ∃ hi : Nat, lo + 64 = hi := ⟨_, rfl⟩
      have hln : hi ≤ 64 * E.n := by have := HK.out; omega
      have hbig : E.n ≤ 1024 := by have := HL.out; have := HS.out; omega
      have hm1 : wrap64 (64 * (k : Int)) = (lo : Int) := by unfold wrap64; omega
      have hm2 : wrap64 ((lo : Int) + 64) = (hi : Int) := by unfold wrap64; omega
      obtain ⟨i5, hi5, hy0, hy1, hy2⟩ := info_parts info5
      have hcD : 64 * E.n ≤ E.cD := by have := J6.out.D; rw [HVD.out] at this; exact (Kd.R_reads' this).2.1
      have hcutD := cut_mid (P := Try.prog) 22 5 .i64 .i64 Try.underlying22 hi5 1 hy1 (some ⟨D, 0, none⟩) (64 * E.n) E.cD (lo : Int) (hi : Int) (by omega) (by omega) (by omega) hcD
      rw [Int.toNat_natCast, Int.toNat_natCast, if_neg (by omega), show hi - lo = 64 by omega] at hcutD
      have hadr : (⟨D, 0, none⟩ : Addr).add (lo * 1) = ⟨D, lo, none⟩ := by by_cases h : lo = 0 <;> simp [Addr.add, h]
      simp only [Option.map_some, hadr] at hcutD
      clear hadr
      have hcutS := cut_from (P := Try.prog) 22 5 .i64 Try.underlying22 hi5 1 hy1 E.A0 E.data.length E.c0 (lo : Int) (by omega) (by have := HL.out; omega)
      rw [Int.toNat_natCast] at hcutS
      have hk0 := HJ.out.k0
      have hCs := Kd.C_mid (lo := lo) (hi := E.data.length) (Kd.C_below J6.out.r0 J6.out.below) (by have := HL.out; omega) (Nat.le_refl _) hk0
      rw [List.take_length, List.length_drop] at hCs
      replace hcutS : ∀ W : World, (Instr.slice 22 (.slice E.A0 E.data.length E.c0) (some (.int .i64 (lo : Int))) none none).run Try.prog W = .ok (.slice (if E.c0 = lo then E.A0 else E.A0.map (·.add (lo * 1))) (E.data.length - lo) (E.c0 - lo)) W := hcutS
      replace hCs : Kd.C (Kd.int .u8) w6 (if E.c0 = lo then E.A0 else E.A0.map (·.add (lo * 1))) (E.data.length - lo) (E.data.drop lo) := hCs
      generalize (if E.c0 = lo then E.A0 else E.A0.map (·.add (lo * 1))) = AC at hcutS hCs
      obtain ⟨w7, hr7, hD7, hg7⟩ := copy_min (P := Try.prog) (enc := Value.int .u8) (h1 := fun _ => rfl) (0 : Int) w0.heap.size 22 22 3 5 Try.underlying22 (by rw [hi5]; simp [hy1]) (lo := lo) (k := 64) (c2 := E.cD - lo) (c := E.c0 - lo) (by have := J6.out.D; rw [HVD.out] at this; exact this) hCs (by omega) (by have := HL.out; omega) (by decide)
      have J7 := Aside0.mk (J6.out.bytes HAD.out (by rw [HVD.out]; exact hD7) hg7)
      have y1 : w7.cell? ⟨E.ob, 1, none⟩ = some (.slice (some ⟨D, 0, none⟩) (64 * E.n) E.cD) := (blk_cell J7.out.o 1).trans (congrArg some HVD.out)
      have y0 : w7.cell? ⟨E.db, 0, none⟩ = some (.slice E.A0 E.data.length E.c0) := (blk_cell J7.out.d 0).trans rfl
      clear hD7 hg7 hk0
      replace hlo := Aside0.mk hlo
      replace hhi := Aside0.mk hhi
      refine pure_ (i := 0) (N := some 49) (v := ?_) (a' := ?_) #[true, false, false, false, false, false, false, false, false, false, false, false, false, false] rfl rfl (by kernel_rfl) (fun _ _ _ h => h) (Or.inl ⟨by rfl, ?_⟩) ?_ ?_
      rotate_left
      · intro w'
        go_simp
        with_reducible rfl
      rotate_left
      · simp only [Act.put, List.setIfInBounds_toArray, List.set_cons_zero, List.set_cons_succ, i64_w, i32_w]
        rfl
      refine pure_ (i := 2) (N := some 51) (v := ?_) (a' := ?_) #[true, false, true, false, false, false, false, false, false, false, false, false, false, false] rfl rfl (by kernel_rfl) (fun _ _ _ h => h) (Or.inl ⟨by rfl, ?_⟩) ?_ ?_
      rotate_left
      · intro w'
        go_simp
        with_reducible rfl
      rotate_left
      · simp only [Act.put, List.setIfInBounds_toArray, List.set_cons_zero, List.set_cons_succ, i64_w, i32_w]
        rfl
      refine pure_ (i := 3) (N := some 52) (v := ?_) (a' := ?_) #[true, false, true, true, false, false, false, false, false, false, false, false, false, false] rfl rfl (by kernel_rfl) (fun _ _ _ h => h) (Or.inl ⟨by rfl, ?_⟩) ?_ ?_
      rotate_left
      · intro w'
        go_simp
        with_reducible rfl
      rotate_left
      · simp only [Act.put, List.setIfInBounds_toArray, List.set_cons_zero, List.set_cons_succ, i64_w, i32_w]
        rfl
      refine pure_ (i := 4) (N := some 53) (v := ?_) (a' := ?_) #[true, false, true, true, true, false, false, false, false, false, false, false, false, false] rfl rfl (by kernel_rfl) (fun _ _ _ h => h) (Or.inl ⟨by rfl, ?_⟩) ?_ ?_
      rotate_left
      · intro w'
        go_simp
        with_reducible rfl
      rotate_left
      · simp only [Act.put, List.setIfInBounds_toArray, List.set_cons_zero, List.set_cons_succ, i64_w, i32_w]
        rfl
      refine pure_ (i := 5) (N := some 54) (v := ?_) (a' := ?_) #[true, false, true, true, true, true, false, false, false, false, false, false, false, false] rfl rfl (by kernel_rfl) (fun _ _ _ h => h) (Or.inl ⟨by rfl, ?_⟩) ?_ ?_
      rotate_left
      · intro w'
        go_simp
        with_reducible rfl
      rotate_left
      · simp only [Act.put, List.setIfInBounds_toArray, List.set_cons_zero, List.set_cons_succ, i64_w, i32_w]
        rfl
      refine pure_ (i := 6) (N := some 55) (v := ?_) (a' := ?_) #[true, false, true, true, true, true, true, false, false, false, false, false, false, false] rfl rfl (by kernel_rfl) (fun _ _ _ h => h) (Or.inl ⟨by rfl, ?_⟩) ?_ ?_
      rotate_left
      · intro w'
        go_simp
        with_reducible rfl
      rotate_left
      · simp only [Act.put, List.setIfInBounds_toArray, List.set_cons_zero, List.set_cons_succ, i64_w, i32_w]
        rfl
      refine pure_ (i := 8) (N := some 57) (v := ?_) (a' := ?_) #[true, false, true, true, true, true, true, false, true, false, false, false, false, false] rfl rfl (by kernel_rfl) (fun _ _ _ h => h) (Or.inl ⟨by rfl, ?_⟩) ?_ ?_
      rotate_left
      · intro w'
        go_simp
        with_reducible rfl
      rotate_left
      · simp only [Act.put, List.setIfInBounds_toArray, List.set_cons_zero, List.set_cons_succ, i64_w, i32_w]
        rfl
      refine pure_ (i := 10) (N := some 59) (v := ?_) (a' := ?_) #[true, false, true, true, true, true, true, false, true, false, true, false, false, false] rfl rfl (by kernel_rfl) (fun _ _ _ h => h) (Or.inl ⟨by rfl, ?_⟩) ?_ ?_
      rotate_left
      · intro w'
        go_simp
        with_reducible rfl
      rotate_left
      · simp only [Act.put, List.setIfInBounds_toArray, List.set_cons_zero, List.set_cons_succ, i64_w, i32_w]
        rfl
      refine pure_ (i := 11) (N := some 60) (v := ?_) (a' := ?_) #[true, false, true, true, true, true, true, false, true, false, true, true, false, false] rfl rfl (by kernel_rfl) (fun _ _ _ h => h) (Or.inl ⟨by rfl, ?_⟩) ?_ ?_
      rotate_left
      · intro w'
        go_simp
        with_reducible rfl
      rotate_left
      · simp only [Act.put, List.setIfInBounds_toArray, List.set_cons_zero, List.set_cons_succ, i64_w, i32_w]
        rfl
      refine take_ (i := 1) (N := some 50) (v := ?_) (a' := ?_) #[true, true, true, true, true, true, true, false, true, false, true, true, false, false] rfl rfl (by kernel_rfl) (fun _ _ _ h => h) (Or.inl ⟨by rfl, ?_⟩) hHeld ?_ ?_
      rotate_left
      · rintro w' ⟨s0, s1⟩
        go_simp
        with_reducible rfl
      rotate_left
      · simp only [Act.put, List.setIfInBounds_toArray, List.set_cons_zero, List.set_cons_succ, i64_w, i32_w]
        rfl
      refine pure_ (i := 7) (N := some 56) (v := ?_) (a' := ?_) #[true, true, true, true, true, true, true, true, true, false, true, true, false, false] rfl rfl (by kernel_rfl) (fun _ _ _ h => h) (Or.inl ⟨by rfl, ?_⟩) ?_ ?_
      rotate_left
      · intro w'
        go_simp
        with_reducible rfl
      rotate_left
      · simp only [Act.put, List.setIfInBounds_toArray, List.set_cons_zero, List.set_cons_succ, i64_w, i32_w]
        rfl
      refine take_ (i := 9) (N := some 58) (v := ?_) (a' := ?_) #[true, true, true, true, true, true, true, true, true, true, true, true, false, false] rfl rfl (by kernel_rfl) (fun _ _ _ h => h) (Or.inl ⟨by rfl, ?_⟩) hHeld ?_ ?_
      rotate_left
      · rintro w' ⟨s0, s1⟩
        go_simp
        with_reducible rfl
      rotate_left
      · simp only [Act.put, List.setIfInBounds_toArray, List.set_cons_zero, List.set_cons_succ, i64_w, i32_w]
        rfl
      refine pure_ (i := 12) (N := some 61) (v := ?_) (a' := ?_) #[true, true, true, true, true, true, true, true, true, true, true, true, true, false] rfl rfl (by kernel_rfl) (fun _ _ _ h => h) (Or.inl ⟨by rfl, ?_⟩) ?_ ?_
      rotate_left
      · intro w'
        go_simp
        with_reducible rfl
      rotate_left
      · simp only [Act.put, List.setIfInBounds_toArray, List.set_cons_zero, List.set_cons_succ, i64_w, i32_w]
        rfl
      refine one_ (i := 13) (N := some 62) #[true, true, true, true, true, true, true, true, true, true, true, true, true, true] rfl rfl (by kernel_rfl) (by decide) (fun K hK => ?_)
      refine value_ (w1 := ?_) (v := ?_) (by rfl) rfl ?_ ?_
      rotate_left 2
      · go_simp
        constructor
        · rfl
        · rfl
      refine hK.out _ _ ⟨y1, y0⟩ (fun hHeld => ?_)
      clear hK K
      refine norm_ (a' := ?_) ?_ ?_
      rotate_left
      · show Act.put _ (some 62) _ = _
        simp only [Act.put, List.setIfInBounds_toArray, List.set_cons_zero, List.set_cons_succ, i64_w, i32_w]
        rfl
      refine done_ (by kernel_rfl) ?_
      go_wp2
      go_ret
      unfold att
      rw [if_neg (by rw [HNC.out, HU.out]; exact HBB.out)]
      refine ⟨rfl, .slice AR2 (s.rd.length + 1) cR2, ?_⟩
      rw [HU.out, HNC.out, HTN.out]
      have := J7.out
      rw [List.take_drop, hhi.out, ← hhi.out, ← hlo.out] at this
      rw [show (((k : Int) + 1) * 64).toNat = 64 * k + 64 by omega, show ((k : Int) * 64).toNat = 64 * k by omega]
      exact this
end Go.Proofs.Ytdgkbpoljcndgaa.Pure
