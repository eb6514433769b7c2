/- The reference's model of an image. No condition. -/
import Derived.Test.YtagcaheopbmdiaaGreatYPureLockOpensD
import Derived.Outline
namespace Go.Proofs.YtagcaheopbmdiaaGreat.Pure
open Go Go.RowKit Go.Maps Go.Proofs.YtagcaheopbmdiaaGreat.QLockOpens Go.Proofs.YtagcaheopbmdiaaGreatW.PrintWords Go.Proofs.YtagcaheopbmdiaaGreatW.PrintLast Go.Proofs.YtagcaheopbmdiaaGreatW.PrintMore
set_option linter.unusedVariables false
set_option linter.unusedSimpArgs false
theorem q13I : type_of% @List.setIfInBounds_toArray := @List.setIfInBounds_toArray
theorem q130 : type_of% @List.set_cons_zero := @List.set_cons_zero
theorem q131 : type_of% @List.set_cons_succ := @List.set_cons_succ
theorem q13a : type_of% @Aside0.mk := @Aside0.mk
/-- the reference's model while it is made -/
structure IM (w0 w : World) (rb mb : Nat) (A0 : Option Addr) (n c0 : Nat) (vF vB vM : Value) (fl : List Int) (bl ml : List Bool) : Prop where
 b : Below w0.heap.size w0 w
 r : w.heap[rb]? = some (.cells #[.slice none 0 0, .slice none 0 0, .slice none 0 0] 29 (0, 0))
 m : w.heap[mb]? = some (.cells #[.slice A0 n c0, vF, vB] 29 (0, 0))
 F : (Kd.int .i64).R 3 w w0.heap.size (fun k => some k = vF.ownBlock) vF fl
 B : Kd.bool.R 4 w w0.heap.size (fun k => some k = vB.ownBlock) vB bl
 M : Kd.bool.R 4 w w0.heap.size (fun k => some k = vM.ownBlock) vM ml
 apart : ∀ q, vB.ownBlock = some q → vM.ownBlock ≠ some q
 le : w0.heap.size ≤ rb ∧ w0.heap.size ≤ mb ∧ rb ≠ mb
section
variable {w0 w W : World} {rb mb : Nat} {A0 : Option Addr} {n c0 : Nat} {vF vB vM : Value} {fl : List Int} {bl ml : List Bool}
theorem IM.step (h : IM w0 w rb mb A0 n c0 vF vB vM fl bl ml) (hb : Below w0.heap.size w0 W) (hr : W.heap[rb]? = w.heap[rb]?) (hm : W.heap[mb]? = w.heap[mb]?) (hF : ∀ q, vF.ownBlock = some q → W.heap[q]? = w.heap[q]?) (hB : ∀ q, vB.ownBlock = some q → W.heap[q]? = w.heap[q]?) (hM : ∀ q, vM.ownBlock = some q → W.heap[q]? = w.heap[q]?) : IM w0 W rb mb A0 n c0 vF vB vM fl bl ml :=
 ⟨hb, hr.trans h.r, hm.trans h.m, Kd.R_move h.F fun q hq => hF q hq.symm, Kd.R_move h.B fun q hq => hB q hq.symm, Kd.R_move h.M fun q hq => hM q hq.symm, h.apart, h.le⟩
theorem IM.below (h : IM w0 w rb mb A0 n c0 vF vB vM fl bl ml) (hb : Below w.heap.size w W) : IM w0 W rb mb A0 n c0 vF vB vM fl bl ml :=
 h.step (below_step h.b hb) (hb.block _ (blk_lt h.r)) (hb.block _ (blk_lt h.m)) (fun q hq => hb.block q (Kd.R_lt h.F q hq)) (fun q hq => hb.block q (Kd.R_lt h.B q hq)) (fun q hq => hb.block q (Kd.R_lt h.M q hq))
theorem IM.drew (h : IM w0 w rb mb A0 n c0 vF vB vM fl bl ml) : IM w0 w.drew rb mb A0 n c0 vF vB vM fl bl ml := h.below (below_drew (Below.refl _ _))
theorem typed_ne {w : World} {x y : Nat} {t t' : Nat} (h : ∃ c : Array Value, w.heap[x]? = some (.cells c t (0, 0))) (h' : ∃ c : Array Value, w.heap[y]? = some (.cells c t' (0, 0))) (hne : t ≠ t') : x ≠ y := by
 obtain ⟨c, e⟩ := h
 obtain ⟨c', e'⟩ := h'
 exact blk_ne e e' hne
/-- a number has been appended, and its row's slice is stored -/
theorem IM.push (h : IM w0 w rb mb A0 n c0 vF vB vM fl bl ml) {vF' : Value} {fl' : List Int} (hR : (Kd.int .i64).R 3 W w0.heap.size (fun _ => True) vF' fl') (hg : w.grownBy W vF.ownBlock) (hat : ∀ q, vF'.ownBlock = some q → vF.ownBlock = some q ∨ w.heap.size ≤ q) :
  W.heap[mb]? = some (.cells #[.slice A0 n c0, vF, vB] 29 (0, 0)) ∧ IM w0 (W.setCell ⟨mb, 1, none⟩ vF') rb mb A0 n c0 vF' vB vM fl' bl ml := by
 have hFt := fun q hq => Kd.R_typed h.F q hq
 have hBt := fun q hq => Kd.R_typed h.B q hq
 have hMt := fun q hq => Kd.R_typed h.M q hq
 have hnr : some rb ≠ vF.ownBlock := fun he => (typed_ne ⟨_, h.r⟩ (hFt rb he.symm) (by decide)) rfl
 have hnm : some mb ≠ vF.ownBlock := fun he => (typed_ne ⟨_, h.m⟩ (hFt mb he.symm) (by decide)) rfl
 have hmW := blk_grown h.m hg hnm
 have hrW := blk_grown h.r hg hnr
 have hbW : Below w0.heap.size w0 W := pw_below_grown h.b vF.ownBlock h.b.size hg (fun k hk => Kd.R_base h.F k hk)
 have hF' : (Kd.int .i64).R 3 W w0.heap.size (fun k => some k = vF'.ownBlock) vF' fl' := by
  obtain ⟨h0, inner, ho, hr⟩ := hR
  exact ⟨fun x hx => hx.symm, inner, ho, hr.imp_ fun _ _ hp => by simpa [Kd.int, Kd.scalar] using hp⟩
 have hB' : Kd.bool.R 4 W w0.heap.size (fun k => some k = vB.ownBlock) vB bl := Kd.R_grown h.B hg fun q hq he => (typed_ne (hBt q hq.symm) (hFt q he.symm) (by decide)) rfl
 have hM' : Kd.bool.R 4 W w0.heap.size (fun k => some k = vM.ownBlock) vM ml := Kd.R_grown h.M hg fun q hq he => (typed_ne (hMt q hq.symm) (hFt q he.symm) (by decide)) rfl
 refine ⟨hmW, hbW.setCell (p := ⟨mb, 1, none⟩) h.le.2.1 _, blk_far hrW (p := ⟨mb, 1, none⟩) h.le.2.2 _, blk_put hmW 1 vF' rfl, ?_, ?_, ?_, h.apart, h.le⟩
 · exact Kd.R_far (p := ⟨mb, 1, none⟩) hF' (fun k hk he => (typed_ne (Kd.R_typed hF' k hk.symm) ⟨_, hmW⟩ (by decide)) he) _
 · exact Kd.R_far (p := ⟨mb, 1, none⟩) hB' (fun k hk he => (typed_ne (Kd.R_typed hB' k hk.symm) ⟨_, hmW⟩ (by decide)) he) _
 · exact Kd.R_far (p := ⟨mb, 1, none⟩) hM' (fun k hk he => (typed_ne (Kd.R_typed hM' k hk.symm) ⟨_, hmW⟩ (by decide)) he) _
/-- a mark is stored -/
theorem IM.mark (h : IM w0 w rb mb A0 n c0 vF vB vM fl bl ml) {gB m cB : Nat} (hv : vB = .slice (some ⟨gB, 0, none⟩) m cB) (i : Nat) (x : Bool) : IM w0 (w.setCell ⟨gB, i, none⟩ (.bool x)) rb mb A0 n c0 vF vB vM fl (bl.set i x) ml := by
 have hvo : vB.ownBlock = some gB := by rw [hv]; rfl
 have hB2 := h.B
 rw [hv] at hB2
 have hp := Kd.R_putg (enc := Value.bool) (h1 := fun _ => rfl) hB2 (i : Int) x
 rw [Int.toNat_natCast] at hp
 have hBt := Kd.R_typed h.B gB hvo
 refine ⟨h.b.setCell (p := ⟨gB, i, none⟩) (Kd.R_base h.B gB hvo) _, blk_far h.r (p := ⟨gB, i, none⟩) (typed_ne ⟨_, h.r⟩ hBt (by decide)) _, blk_far h.m (p := ⟨gB, i, none⟩) (typed_ne ⟨_, h.m⟩ hBt (by decide)) _, ?_, ?_, ?_, h.apart, h.le⟩
 · exact Kd.R_far (p := ⟨gB, i, none⟩) h.F (fun k hk he => (typed_ne (Kd.R_typed h.F k hk.symm) hBt (by decide)) he) _
 · rw [hv]; exact hp.1
 · exact Kd.R_far (p := ⟨gB, i, none⟩) h.M (fun k hk he => h.apart gB hvo (by have he2 : k = gB := he; rw [← he2]; exact hk.symm)) _
end
theorem idx_succ (n : Nat) : idx (n + 1) = idx n ++ [(n : Int)] := by unfold idx; rw [List.range_succ, List.map_append]; rfl
/-- marks on the way -/
def bAt (n : Nat) (l : List S52) (i : Nat) : List Bool := (badOf n l).take i ++ List.replicate (n - i) false
theorem bAt_len (n : Nat) (l : List S52) (i : Nat) (h : i ≤ n) : (bAt n l i).length = n := by unfold bAt; rw [List.length_append, List.length_take, badOf_len, List.length_replicate]; omega
theorem bAt_zero (n : Nat) (l : List S52) : bAt n l 0 = List.replicate n false := by unfold bAt; simp
theorem bAt_full (n : Nat) (l : List S52) : bAt n l n = badOf n l := by unfold bAt; rw [List.take_of_length_le (by rw [badOf_len]; exact Nat.le_refl _)]; simp
theorem bAt_set (n : Nat) (l : List S52) (i : Nat) (h : i < n) (x : Bool) (hx : x = isBad l i) : (bAt n l i).set i x = bAt n l (i + 1) := by
 apply List.ext_getElem?
 intro j
 rw [List.getElem?_set, bAt_len n l i (by omega)]
 have hl : ∀ k, k ≤ n → ((badOf n l).take k).length = k := fun k hk => by rw [List.length_take, badOf_len]; omega
 have hg : ∀ k, k < n → (badOf n l)[k]? = some (isBad l k) := fun k hk => by unfold badOf; rw [List.getElem?_map, List.getElem?_range hk]; rfl
 by_cases e : i = j
 ·
  subst e
  rw [if_pos rfl, if_pos h, hx]
  unfold bAt
  rw [List.getElem?_append_left (by rw [hl _ (by omega)]; omega), List.getElem?_take_of_lt (by omega), hg i h]
 ·
  rw [if_neg e]
  unfold bAt
  by_cases hj : j < i
  · rw [List.getElem?_append_left (by rw [hl _ (by omega)]; omega), List.getElem?_append_left (by rw [hl _ (by omega)]; omega), List.getElem?_take_of_lt hj, List.getElem?_take_of_lt (by omega)]
  ·
   rw [List.getElem?_append_right (by rw [hl _ (by omega)]; omega), List.getElem?_append_right (by rw [hl _ (by omega)]; omega), hl _ (by omega), hl _ (by omega), List.getElem?_replicate, List.getElem?_replicate]
   by_cases h2 : j < n
   · rw [if_pos (by omega), if_pos (by omega)]
   · rw [if_neg (by omega), if_neg (by omega)]
theorem R_exact {α : Type} {enc : α → Value} {h1 : ∀ x, (enc x).oneCell' = true} {e : Nat} {w : World} {base : Nat} {ok : Nat → Prop} {v : Value} {xs : List α} (h : (Kd.scalar enc h1).R e w base ok v xs) : (Kd.scalar enc h1).R e w base (fun k => some k = v.ownBlock) v xs := by
 obtain ⟨h0, inner, ho, hr⟩ := h
 exact ⟨fun x hx => hx.symm, inner, ho, hr.imp_ fun _ _ hp => hp⟩
theorem hat_of {v v1 : Value} {s : Nat} (h : v1.ownBlock = v.ownBlock ∨ ∃ b, v1.ownBlock = some b ∧ s ≤ b) : ∀ q, v1.ownBlock = some q → v.ownBlock = some q ∨ s ≤ q := fun q hq => by
 rcases h with h | ⟨b', h1, h2⟩
 · exact Or.inl (h ▸ hq)
 · rw [h1] at hq; injection hq with hq; exact Or.inr (by omega)
theorem im_start {w w3 w4 : World} {mb n c0 : Nat} {A0 : Option Addr} {vB vM : Value} {bl ml : List Bool} (hB3 : Below w.heap.size w w3) (hZ3 : w3.heap[w.heap.size]? = some (.cells #[.slice none 0 0, .slice none 0 0, .slice none 0 0] 29 (0, 0))) (hX3 : w3.heap[mb]? = some (.cells #[.slice A0 n c0, .slice none 0 0, vB] 29 (0, 0)))
  (hRB3 : Kd.bool.R 4 w3 w.heap.size (fun _ => True) vB bl) (hne : w.heap.size ≠ mb) (hle : w.heap.size ≤ mb) (hb4 : Below w3.heap.size w3 w4) (hvM : Kd.bool.R 4 w4 w3.heap.size (fun _ => True) vM ml) : IM w w4 w.heap.size mb A0 n c0 (.slice none 0 0) vB vM (idx 0) bl ml :=
 ⟨below_step hB3 hb4, blk_below hZ3 hb4, blk_below hX3 hb4, Kd.R_nil _ _ _ _ _, R_exact (Kd.R_below hRB3 hb4), R_exact (Kd.R_lower hvM hB3.size),
  fun q hq he => by have h1 := Kd.R_lt hRB3 q hq; have h2 := Kd.R_base hvM q he; omega, Nat.le_refl _, hle, hne⟩
set_option maxHeartbeats 8000000 in
set_option maxRecDepth 100000 in
/-- the reference's model of an image -/
theorem image_calls (A0 : Option Addr) (c0 : Nat) (b : List Int) (A1 : Option Addr) (c1 : Nat) (l : List S52) (w : World) (hr1 : Kd.C k52 w A1 l.length l) (hc1 : l.length ≤ c1) (hn : b.length ≤ 65536) (hl : l.length ≤ 8796093021952) :
  Calls Tryz.prog 18 #[.slice A0 b.length c0, .slice A1 l.length c1] w fun e w' => ∃ V1 d1 V2 d2, e = .returned (.agg #[.slice A0 b.length c0, .slice V1 b.length d1, .slice V2 b.length d2]) ∧
   Kd.C (Kd.int .i64) w' V1 b.length (idx b.length) ∧ b.length ≤ d1 ∧ Kd.C Kd.bool w' V2 b.length (badOf b.length l) ∧ Below w.heap.size w w' := by
 obtain ⟨ml, ⟨hml, hmg⟩, hev⟩ := marks_ev l (by omega)
 obtain ⟨km, hkm⟩ := hev.rounds
 have hmv : ∀ i, i < 65536 → rdOf false ml ((i : Nat) : Int) = isBad l i := fun i hi => by
  rw [rdB]
  have h1 := hmg i hi
  have h2 := isBad_iff l i
  rw [Bool.eq_iff_iff, h1, h2]
 have HR1 := q13a hr1
 have HKM := q13a hkm
 have HMV := q13a hmv
 have HML := q13a hml
 obtain ⟨n, hnb⟩ : ∃ n, n = b.length := ⟨_, rfl⟩
 rw [← hnb] at hn ⊢
 have hu34 := Tryz.underlying29
 have hB1 := q13a (below_alloc (Below.refl w.heap.size w) (.cells #[.slice none 0 0, .slice none 0 0, .slice none 0 0] 29))
 have hZ1 := q13a (blk_new w (.cells #[.slice none 0 0, .slice none 0 0, .slice none 0 0] 29))
 clear hr1 hmg hev hkm hmv hml hnb
 go_enter Tryz.func18, Tryz.ntmps18
 go_wp2_with (first
  | ((with_reducible refine gate_dst (N:=11) rfl ?_); refine Kd.R_make Kd.bool (w0 := w) w.heap.size 4 rfl (N:=11) rfl 27 _ _ rfl (n : Int) rfl rfl Tryz.underlying27 (.bool false) 1 info4 rfl (by decide) (by decide) false (ok := fun _ => True) (okp := fun _ => True) rfl (fun _ hk => hk) trivial (by omega) (by rw [Int.toNat_natCast]; omega) hB1.out hB1.out.size ?_; intro vB w2 hRB hb2 hg2 hn2; rw [Int.toNat_natCast] at hRB; obtain ⟨AB, cB, eB⟩ := Kd.R_slice hRB; rw [List.length_replicate] at eB; subst eB; have hB2 := q13a hb2; have hZ2 := q13a (blk_grown hZ1.out hg2 (by simp)); replace hRB := q13a hRB; clear hb2 hg2 hn2 hB1 hZ1)
  | (go_at_call 38; have hb3 := below_alloc (Below.refl w2.heap.size w2) (.cells #[.slice A0 n c0, .slice none 0 0, .slice AB n cB] 29); have hX3 := blk_new w2 (.cells #[.slice A0 n c0, .slice none 0 0, .slice AB n cB] 29); have hB3 := below_step hB2.out hb3; have hZ3 := blk_below hZ2.out hb3; have hRB3 := Kd.R_below hRB.out hb3; have hmbn : w.heap.size ≠ w2.heap.size := (by have := blk_lt hZ2.out; omega); have hmle : w.heap.size ≤ w2.heap.size := hB2.out.size; clear hB2 hZ2 hRB hb3; generalize w2.alloc (.cells #[.slice A0 n c0, .slice none 0 0, .slice AB n cB] 29) = w3 at hX3 hB3 hZ3 hRB3 ⊢; generalize w2.heap.size = mb at hX3 hmbn hmle ⊢; refine (wrackref1_Marks.calls km A1 c1 l ml _ (Kd.C_below HR1.out hB3) hc1 HKM.out).mono ?_; rintro e w4 ⟨vM, rfl, hvM, hb4⟩; have hI := im_start hB3 hZ3 hX3 hRB3 hmbn hmle hb4 hvM; obtain ⟨AM, cM, eM⟩ := Kd.R_slice hvM; rw [HML.out] at eM; subst eM; replace hI := q13a hI; clear hX3 hB3 hZ3 hRB3 hvM hb4))
 go_loopw [17] (fun vi wr => ∃ (i : Nat) (vF : Value), i ≤ n ∧ vi = .int .i64 (i : Int) ∧ Aside0 (IM w wr w.heap.size mb A0 n c0 vF (.slice AB n cB) (.slice AM 65536 cM) (idx i) (bAt n l i) ml)) (fun vi _ => n - (intOf vi).toNat)
 case atStart => exact ⟨0, _, Nat.zero_le _, rfl, ⟨by rw [bAt_zero]; exact hI.out⟩⟩
 case round =>
  clear hI
  obtain ⟨i, vF, hi, rfl, hI⟩ := hrel
  by_cases hlt : i < n
  ·
   have hlti : (i : Int) < (n : Int) := by omega
   have hnx : IntKind.i64.wrap ((i : Int) + 1) = (i : Int) + 1 := by rw [i64_w]; unfold wrap64; omega
   obtain ⟨AF, cF, eF⟩ := Kd.R_slice hI.out.F
   rw [idx_len] at eF
   subst eF
   have f1_ : wr.cell? ⟨mb, 1, none⟩ = some (.slice AF i cF) := (blk_cell hI.out.m 1).trans rfl
   have hbx := q13a (bAt_len n l i hi)
   go_wp2_with (first
    | ((with_reducible refine gate_builtin (b := .append) (xs := #[.tmp 21, .tmp 23]) rfl ?_); at_builtin; refine Kd.R_append (Kd.int .i64) (w0 := w) w.heap.size rfl (.tmp 21) (.tmp 23) 26 3 (.int .i64 0) 8 rfl Tryz.underlying26 info3 rfl (by decide) (by decide) (.slice AF i cF) (idx i) (i : Int) [.int .i64 (i : Int)] (fun _ => True) (fun _ => False) rfl rfl rfl (fun _ h => h.elim) (fun _ _ => trivial) (Kd.R_mono hI.out.F (fun _ _ => trivial)) hI.out.b hI.out.b.size (by rw [idx_len]; omega) ?_; intro v1 w5 hR5 hB5 hG5 hat5; rw [← idx_succ] at hR5; obtain ⟨AF2, cF2, eF2⟩ := Kd.R_slice hR5; rw [idx_len] at eF2; subst eF2; obtain ⟨hm5, hI5⟩ := hI.out.push hR5 hG5 (hat_of hat5); have d1_ : w5.cell? ⟨mb, 1, none⟩ = some (.slice AF i cF) := (blk_cell hm5 1).trans rfl; have z1_ := blk_frozen hm5 1; replace hI5 := q13a hI5; clear hR5 hB5 hG5 hat5 hm5 f1_))
   have hI6 := hI5.out
   generalize w5.setCell ⟨mb, 1, none⟩ (.slice AF2 (i + 1) cF2) = w6 at hI6 ⊢
   clear hI5 d1_ z1_
   obtain ⟨gB, cB', eB, _, _, _⟩ := Kd.R_form hI6.B (by rw [bAt_len n l i hi]; omega)
   injection eB with eA eN eC
   subst eA
   subst eC
   have y0 : w6.drew.cell? ⟨mb, 2, none⟩ = some (.slice (some ⟨gB, 0, none⟩) n cB) := (blk_cell hI6.m 2).trans rfl
   obtain ⟨gM, cM', eM, _, _, _⟩ := Kd.R_form hI6.M (by rw [HML.out]; omega)
   injection eM with eA2 eN2 eC2
   subst eA2
   subst eC2
   obtain ⟨ad2, e2, y1⟩ := Kd.at_bool (Kd.R_reads' hI6.drew.M).2.2 (i : Int) (by omega) (by rw [HML.out]; omega)
   injection e2 with e2
   subst e2
   rw [add_plain, Int.toNat_natCast, HMV.out i (by omega)] at y1
   obtain ⟨xb, hxb⟩ : ∃ x, x = isBad l i := ⟨_, rfl⟩
   rw [← hxb] at y1
   obtain ⟨z0, z1⟩ := Kd.R_celln (enc := Value.bool) (h1 := fun _ => rfl) false hI6.drew.B (i : Int) (by omega) (by omega)
   rw [Int.toNat_natCast] at z0 z1
   have hI7 := hI6.drew.mark rfl i xb
   rw [bAt_set n l i hlt xb hxb] at hI7
   have hi65 : (i : Int) < 65536 := by omega
   replace hI6 := q13a hI7
   replace hxb := q13a hxb
   clear hI7 hI eN eN2
   go_wp2
   refine start_ (n := 9) (S := fun w' => w'.cell? ⟨mb, 2, none⟩ = some (.slice (some ⟨gB, 0, none⟩) n cB) ∧ w'.cell? ⟨gM, i, none⟩ = some (.bool xb)) (ds := [8]) #[false,false,false,false,false,false,false,false,false] (by kernel_rfl) rfl rfl ⟨y0, y1⟩ (fun hHeld => ?_)
   generalize w6.drew = wD at y0 y1 z0 z1 hI6 hHeld ⊢
   refine pure_ (i:=0) (N:=some 26) (v:=?_) (a':=?_) #[true,false,false,false,false,false,false,false,false] rfl rfl (by kernel_rfl) (fun _ _ _ h => h) (Or.inl ⟨by rfl, ?_⟩) ?_ ?_
   rotate_left
   ·
    intro w'
    go_simp
    with_reducible rfl
   rotate_left
   ·
    simp only [Act.put, q13I, q130, q131, i64_w, i32_w]
    rfl
   refine pure_ (i:=2) (N:=some 28) (v:=?_) (a':=?_) #[true,false,true,false,false,false,false,false,false] rfl rfl (by kernel_rfl) (fun _ _ _ h => h) (Or.inl ⟨by rfl, ?_⟩) ?_ ?_
   rotate_left
   ·
    intro w'
    go_simp
    with_reducible rfl
   rotate_left
   ·
    simp only [Act.put, q13I, q130, q131, i64_w, i32_w]
    rfl
   refine pure_ (i:=3) (N:=some 29) (v:=?_) (a':=?_) #[true,false,true,true,false,false,false,false,false] rfl rfl (by kernel_rfl) (fun _ _ _ h => h) (Or.inl ⟨by rfl, ?_⟩) ?_ ?_
   rotate_left
   ·
    intro w'
    go_simp
    with_reducible rfl
   rotate_left
   ·
    simp only [Act.put, q13I, q130, q131, i64_w, i32_w]
    rfl
   refine pure_ (i:=4) (N:=some 30) (v:=?_) (a':=?_) #[true,false,true,true,true,false,false,false,false] rfl rfl (by kernel_rfl) (fun _ _ _ h => h) (Or.inl ⟨by rfl, ?_⟩) ?_ ?_
   rotate_left
   ·
    intro w'
    go_simp
    with_reducible rfl
   rotate_left
   ·
    simp only [Act.put, q13I, q130, q131, i64_w, i32_w]
    rfl
   refine pure_ (i:=5) (N:=some 31) (v:=?_) (a':=?_) #[true,false,true,true,true,true,false,false,false] rfl rfl (by kernel_rfl) (fun _ _ _ h => h) (Or.inl ⟨by rfl, ?_⟩) ?_ ?_
   rotate_left
   ·
    intro w'
    go_simp
    with_reducible rfl
   rotate_left
   ·
    simp only [Act.put, q13I, q130, q131, i64_w, i32_w]
    rfl
   refine take_ (i:=1) (N:=some 27) (v:=?_) (a':=?_) #[true,true,true,true,true,true,false,false,false] rfl rfl (by kernel_rfl) (fun _ _ _ h => h) (Or.inl ⟨by rfl, ?_⟩) hHeld ?_ ?_
   rotate_left
   ·
    rintro w' ⟨s0, s1⟩
    go_simp
    with_reducible rfl
   rotate_left
   ·
    simp only [Act.put, q13I, q130, q131, i64_w, i32_w]
    rfl
   refine take_ (i:=6) (N:=some 32) (v:=?_) (a':=?_) #[true,true,true,true,true,true,true,false,false] rfl rfl (by kernel_rfl) (fun _ _ _ h => h) (Or.inl ⟨by rfl, ?_⟩) hHeld ?_ ?_
   rotate_left
   ·
    rintro w' ⟨s0, s1⟩
    go_simp
    with_reducible rfl
   rotate_left
   ·
    simp only [Act.put, q13I, q130, q131, i64_w, i32_w]
    rfl
   refine pure_ (i:=7) (N:=some 33) (v:=?_) (a':=?_) #[true,true,true,true,true,true,true,true,false] rfl rfl (by kernel_rfl) (fun _ _ _ h => h) (Or.inl ⟨by rfl, ?_⟩) ?_ ?_
   rotate_left
   ·
    intro w'
    go_simp
    with_reducible rfl
   rotate_left
   ·
    simp only [Act.put, q13I, q130, q131, i64_w, i32_w]
    rfl
   refine last_ (i:=8) (N:=none) #[true,true,true,true,true,true,true,true,true] rfl rfl (by kernel_rfl) (by decide) (fun K hK => ?_)
   refine skip_ (w1 := ?_) (by rfl) rfl ?_ ?_
   rotate_left
   ·
    go_simp
    rfl
   refine hK.out _ _ ?_
   clear hK K
   refine done_ (by kernel_rfl) ?_
   clear y0 y1 z0 z1 hHeld
   go_wp2
   go_roundw
   case rel => exact ⟨i + 1, _, by omega, by go_num, hI6⟩
   case measure => simp [intOf]; omega
  ·
   obtain rfl : i = n := by omega
   rw [bAt_full] at hI
   obtain ⟨AF, cF, eF⟩ := Kd.R_slice hI.out.F
   rw [idx_len] at eF
   subst eF
   have c0_ : wr.cell? ⟨mb, 0, none⟩ = some (.slice A0 i c0) := (blk_cell hI.out.m 0).trans rfl
   have c1_ : wr.cell? ⟨mb, 1, none⟩ = some (.slice AF i cF) := (blk_cell hI.out.m 1).trans rfl
   have c2_ : wr.cell? ⟨mb, 2, none⟩ = some (.slice AB i cB) := (blk_cell hI.out.m 2).trans rfl
   have o0 : wr.cell? ⟨w.heap.size, 0, none⟩ = some (.slice none 0 0) := (blk_cell hI.out.r 0).trans rfl
   have k0 := blk_frozen hI.out.r 0
   have y1 := blk_put hI.out.r 0 (.slice A0 i c0) rfl
   have o1 : (wr.setCell ⟨w.heap.size, 0, none⟩ (.slice A0 i c0)).cell? ⟨w.heap.size, 1, none⟩ = some (.slice none 0 0) := (blk_cell y1 1).trans rfl
   have k1 := blk_frozen y1 1
   have y2 := blk_put y1 1 (.slice AF i cF) rfl
   have o2 : ((wr.setCell ⟨w.heap.size, 0, none⟩ (.slice A0 i c0)).setCell ⟨w.heap.size, 1, none⟩ (.slice AF i cF)).cell? ⟨w.heap.size, 2, none⟩ = some (.slice none 0 0) := (blk_cell y2 2).trans rfl
   have k2 := blk_frozen y2 2
   have y3 := q13a (blk_put y2 2 (.slice AB i cB) rfl)
   have hb9 := q13a (((hI.out.b.setCell (p := ⟨w.heap.size, 0, none⟩) (Nat.le_refl _) (.slice A0 i c0)).setCell (p := ⟨w.heap.size, 1, none⟩) (Nat.le_refl _) (.slice AF i cF)).setCell (p := ⟨w.heap.size, 2, none⟩) (Nat.le_refl _) (.slice AB i cB))
   have hF9 := q13a (Kd.R_far (p := ⟨w.heap.size, 2, none⟩) (Kd.R_far (p := ⟨w.heap.size, 1, none⟩) (Kd.R_far (p := ⟨w.heap.size, 0, none⟩) hI.out.F (fun k hk he => (typed_ne (Kd.R_typed hI.out.F k hk.symm) ⟨_, hI.out.r⟩ (by decide)) he) (.slice A0 i c0)) (fun k hk he => (typed_ne (Kd.R_typed hI.out.F k hk.symm) ⟨_, hI.out.r⟩ (by decide)) he) (.slice AF i cF)) (fun k hk he => (typed_ne (Kd.R_typed hI.out.F k hk.symm) ⟨_, hI.out.r⟩ (by decide)) he) (.slice AB i cB))
   have hB9 := q13a (Kd.R_far (p := ⟨w.heap.size, 2, none⟩) (Kd.R_far (p := ⟨w.heap.size, 1, none⟩) (Kd.R_far (p := ⟨w.heap.size, 0, none⟩) hI.out.B (fun k hk he => (typed_ne (Kd.R_typed hI.out.B k hk.symm) ⟨_, hI.out.r⟩ (by decide)) he) (.slice A0 i c0)) (fun k hk he => (typed_ne (Kd.R_typed hI.out.B k hk.symm) ⟨_, hI.out.r⟩ (by decide)) he) (.slice AF i cF)) (fun k hk he => (typed_ne (Kd.R_typed hI.out.B k hk.symm) ⟨_, hI.out.r⟩ (by decide)) he) (.slice AB i cB))
   clear y1 y2 hI hlt hi
   go_wp2
   refine bodyPost_ret (results_cell_row rfl _ _ w.heap.size 29 _ (0, 0) _ rfl y3.out Tryz.underlying29 rfl (by kernel_rfl)) rfl ?_
   have q1 := Kd.R_reads' hF9.out
   have q2 := Kd.R_reads' hB9.out
   rw [idx_len] at q1
   rw [badOf_len] at q2
   exact ⟨AF, cF, AB, cB, rfl, q1.2.2, q1.2.1, q2.2.2, hb9.out⟩
end Go.Proofs.YtagcaheopbmdiaaGreat.Pure
