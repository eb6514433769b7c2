/- The image of a law, and the bytes of a source as the reference takes them. No condition. -/
import Derived.Test.YtagcaheopbmdiaaGreatYPureLockOpensP
import Derived.Lib.Bytes
import Derived.Lib.Repeat
import Derived.Lib.EndianBits
namespace Go.Proofs.YtagcaheopbmdiaaGreat.Pure
open Go.Proofs.YtagcaheopbmdiaaGreat.SumPlain Go.Maps
open Go Go.RowKit Go.Proofs.YtagcaheopbmdiaaGreat.QLockOpens Go.Proofs.YtagcaheopbmdiaaGreatW.PrintWords Go.Proofs.YtagcaheopbmdiaaGreatW.PrintLast Go.Proofs.YtagcaheopbmdiaaGreatW.PrintMore
set_option linter.unusedVariables false
set_option linter.unusedSimpArgs false
theorem q16a : type_of% @Aside0.mk := @Aside0.mk
def isSlc : Value → Bool | .slice _ _ _ => true | _ => false
theorem cell_apart {w : World} {ad : Addr} {u : Value} {g t : Nat} {cs : Array Value} (h : w.cell? ad = some u) (hg : w.heap[g]? = some (.cells cs t (0, 0))) (hne : ∀ j : Nat, cs[j]? ≠ some u) : ad.block ≠ g := by
 intro e
 unfold World.cell? at h
 rw [e, hg] at h
 simp only at h
 split at h
 · cases h
 · exact hne _ h
theorem C_apart {α : Type} {d : Kd α} {w : World} {A : Option Addr} {n g t : Nat} {xs : List α} {cs : Array Value} (hd : ∀ {W W' : World} {x : α} {cs : List Value}, d.K W x cs → d.K W' x cs) (hs : 0 < d.sz) (hf : ∀ (W : World) (x : α) (cs : List Value), d.K W x cs → ∀ u, cs[0]? = some u → isSlc u = false) (h : d.C w A n xs) (hg : w.heap[g]? = some (.cells cs t (0, 0))) (hcs : ∀ (j : Nat) (u : Value), cs[j]? = some u → isSlc u = true) :
  ∀ W', KeepBut w W' g none → d.C W' A n xs := by
 intro W' hk
 refine ⟨h.1, h.2.1, fun hn => ?_⟩
 obtain ⟨ad, he, hc⟩ := h.2.2 hn
 have hne : ad.block ≠ g := by
  obtain ⟨c, hcl, hK, hcell⟩ := hc 0 _ (List.getElem?_eq_getElem (by rw [h.1]; exact hn))
  have hc0 : c[0]? = some (c[0]'(by omega)) := List.getElem?_eq_getElem (by omega)
  have h1 := hcell 0 _ hc0
  rw [Nat.zero_mul, Nat.zero_add, Addr.add_zero'] at h1
  refine cell_apart h1 hg (fun j hj => ?_)
  have a := hcs j _ hj
  have b := hf _ _ _ hK _ hc0
  rw [a] at b
  cases b
 refine ⟨ad, he, fun j p hj => ?_⟩
 obtain ⟨c2, h1, h2, h3⟩ := hc j p hj
 exact ⟨c2, h1, hd h2, fun i u hu => keep_cell hk (h3 i u hu) (by rw [add_block]; exact hne)⟩
theorem three_slc (A B C : Value) (h0 : isSlc A = true) (h1 : isSlc B = true) (h2 : isSlc C = true) : ∀ (j : Nat) (u : Value), (#[A, B, C] : Array Value)[j]? = some u → isSlc u = true
 | 0, u, h => by obtain rfl := Option.some.inj h; exact h0
 | 1, u, h => by obtain rfl := Option.some.inj h; exact h1
 | 2, u, h => by obtain rfl := Option.some.inj h; exact h2
 | j + 3, u, h => by simp at h
theorem u8_apart {w : World} {A : Option Addr} {n g t : Nat} {xs : List Int} {cs : Array Value} {k : IntKind} (h : Kd.C (Kd.int k) w A n xs) (hg : w.heap[g]? = some (.cells cs t (0, 0))) (hcs : ∀ (j : Nat) (u : Value), cs[j]? = some u → isSlc u = true) : ∀ W', KeepBut w W' g none → Kd.C (Kd.int k) W' A n xs :=
 C_apart (fun h => h) (by show 0 < 1; decide) (fun W x cs h u hu => by
  have h : cs = [.int k x] := h
  subst h
  obtain rfl := Option.some.inj hu
  rfl) h hg hcs
theorem bool_apart {w : World} {A : Option Addr} {n g t : Nat} {xs : List Bool} {cs : Array Value} (h : Kd.C Kd.bool w A n xs) (hg : w.heap[g]? = some (.cells cs t (0, 0))) (hcs : ∀ (j : Nat) (u : Value), cs[j]? = some u → isSlc u = true) : ∀ W', KeepBut w W' g none → Kd.C Kd.bool W' A n xs :=
 C_apart (fun h => h) (by show 0 < 1; decide) (fun W x cs h u hu => by
  have h : cs = [.bool x] := h
  subst h
  obtain rfl := Option.some.inj hu
  rfl) h hg hcs
theorem k52_apart {w : World} {A : Option Addr} {n g t : Nat} {xs : List S52} {cs : Array Value} (h : Kd.C k52 w A n xs) (hg : w.heap[g]? = some (.cells cs t (0, 0))) (hcs : ∀ (j : Nat) (u : Value), cs[j]? = some u → isSlc u = true) : ∀ W', KeepBut w W' g none → Kd.C k52 W' A n xs :=
 C_apart (fun h => (k52_open h) ▸ k52_mk _ _) (by show 0 < 2; decide) (fun W x cs h u hu => by
  have h := k52_open h
  subst h
  obtain rfl := Option.some.inj hu
  rfl) h hg hcs
theorem img_keep {w W : World} {g gM T : Nat} {A : Option Addr} {c : Nat} {b : List Int} {A' : Option Addr} {c' : Nat} {l : List S52} {cs : Array Value} (h : IsImg w g A c b A' c' l) (hM : w.heap[gM]? = some (.cells cs T (0, 0))) (hT : 82 ≠ T) (hcs : ∀ (j : Nat) (u : Value), cs[j]? = some u → isSlc u = true) (hk : KeepBut w W gM none) : IsImg W g A c b A' c' l :=
 ⟨(hk.2 g (blk_lt h.blk) (blk_ne h.blk hM hT) (by simp)).trans h.blk, u8_apart h.rb hM hcs W hk, h.cb, k52_apart h.rl hM hcs W hk, h.cl⟩
set_option maxHeartbeats 8000000 in
set_option maxRecDepth 100000 in
/-- a source over at most 65536 bytes, some of which cannot be read -/
theorem image_law (A0 : Option Addr) (c0 : Nat) (b : List Int) (A1 : Option Addr) (c1 : Nat) (bad : List S52) (w : World) (hrb : Kd.C (Kd.int .u8) w A0 b.length b) (hcb : b.length ≤ c0) (hrl : Kd.C k52 w A1 bad.length bad) (hcl : bad.length ≤ c1) (hl : bad.length * 16 ≤ 140737488351232) (p : List Int) (hp : p = b.take (min b.length 65536)) :
  Calls Tryz.prog 4 #[.slice A0 b.length c0, .slice A1 bad.length c1] w fun e w' => ∃ g B1 d1 B2 d2 V1 e1 V2 e2, e = .returned (.tuple #[.iface 79 (.pointer (some ⟨g, 0, none⟩)), .agg #[.slice A0 p.length c0, .slice V1 p.length e1, .slice V2 p.length e2]]) ∧ IsImg w' g B1 d1 p B2 d2 (normP (cutS bad p.length)) ∧ Kd.C (Kd.int .u8) w' A0 p.length p ∧ Kd.C (Kd.int .i64) w' V1 p.length (idx p.length) ∧ p.length ≤ e1 ∧ Kd.C Kd.bool w' V2 p.length (badOf p.length (cutS bad p.length)) ∧ Below w.heap.size w w' := by
 obtain ⟨i5, hi5, hy5⟩ := Option.map_eq_some_iff.1 info5
 obtain ⟨m, hm⟩ : ∃ m, m = min b.length 65536 := ⟨_, rfl⟩
 rw [← hm] at hp
 have hcut := cut_to (P := Tryz.prog) 22 5 .i64 Tryz.underlying22 hi5 A0 b.length c0 (m : Int) (by omega) (by omega) hcb
 rw [Int.toNat_natCast] at hcut
 have hrc := Kd.C_take hrb (m := m) (by omega)
 have hpl : m = p.length := by rw [hp, List.length_take]; omega
 rw [← hp] at hrc
 have hmm : min (b.length : Int) 65536 = (p.length : Int) := by omega
 have hmm2 : (if (65536 : Int) < (b.length : Int) then (65536 : Int) else (b.length : Int)) = (p.length : Int) := by split <;> omega
 rw [hpl] at hcut
 have hpm : p.length ≤ 65536 := by omega
 have hpc : p.length ≤ c0 := by omega
 have hLl := cut_few bad p.length hpm
 have hLr := cut_right bad p.length hpm
 obtain ⟨L, hL⟩ : ∃ L, L = cutS bad p.length := ⟨_, rfl⟩
 obtain ⟨km, hkm⟩ := (meet_ev bad [⟨0, (p.length : Int)⟩] (by rw [List.length_singleton]; omega)).rounds
 rw [show meetP (normP bad) (normP [⟨0, (p.length : Int)⟩]) = cutS bad p.length from rfl, ← hL] at hkm
 rw [← hL] at hLl hLr ⊢
 have hLs : L.length ≤ 8796093021952 := by omega
 have HLS := q16a hLs
 have HBAD := q16a (fun W AM cM (h1 : Kd.C (Kd.int .u8) W A0 p.length p) (h2 : Kd.C k52 W AM L.length L) (h3 : L.length ≤ cM) => bad_small A0 c0 p AM cM L W h1 hpc h2 h3 hpm hLs)
 have HIM := q16a (fun W AM cM (h2 : Kd.C k52 W AM L.length L) (h3 : L.length ≤ cM) => image_calls A0 c0 p AM cM L W h2 h3 hpm hLs)
 have HKM := q16a hkm
 have HLR := q16a hLr
 have HRP := q16a hrc
 have HRL := q16a hrl
 have HCL := q16a hcl
 have HPL := q16a hpl
 have hu29 := Tryz.underlying29
 have HB0 := q16a (below_alloc (Below.refl w.heap.size w) (.cells #[.slice none 0 0, .slice none 0 0, .slice none 0 0] 29))
 have HX0 := q16a (blk_new w (.cells #[.slice none 0 0, .slice none 0 0, .slice none 0 0] 29))
 clear hrb hcb hrl hcl hl hp hm hi5 hy5 hpl hLl hLr hL hkm hLs hpc hrc hpm
 go_enter Tryz.func4, Tryz.ntmps4
 go_wp2_with (first
  | ((with_reducible refine gate_dst (N:=18) rfl ?_); refine Kd.R_lit k52 (w0 := w) w.heap.size 52 ?hg (N:=18) ?hd (xs := ([⟨0, (p.length : Int)⟩] : List S52)) (inner := [.int .i64 0, .int .i64 (p.length : Int)]) (ok := fun _ => True) (okp := fun _ => True) ?hr (one_reps _ _ _ _ _) (fun _ hk => hk) trivial HB0.out HB0.out.size (by simp) ?_; (case hd => rfl); (case hg => rfl); (case hr => first | (go_simp; done) | (go_simp; rfl)); intro vF w2 hF2 hB2 hG2 hn2; obtain ⟨AF, cF, eF⟩ := Kd.R_slice hF2; rw [show ([⟨0, (p.length : Int)⟩] : List S52).length = 1 from rfl] at eF; subst eF; replace hF2 := q16a hF2; have HX2 := q16a (blk_below HX0.out (none_below hG2)); have HB2 := q16a hB2; clear hG2 hn2 hB2 HB0 HX0)
  | (go_at_call 16; refine (span_Meet.calls km A1 c1 bad AF cF [⟨0, (p.length : Int)⟩] L _ (Kd.C_below HRL.out HB2.out) HCL.out (Kd.R_reads' hF2.out).2.2 (Kd.R_reads' hF2.out).2.1 HKM.out).mono ?_; rintro e w3 ⟨v0, rfl, hv0, hb3⟩; obtain ⟨AM, cM, eM⟩ := Kd.R_slice hv0; subst eM; have HB3 := q16a (below_step HB2.out hb3); have HX3 := q16a (blk_below HX2.out hb3); have HV3 := q16a (Kd.R_reads' hv0); clear hv0 hb3 HB2 HX2 hF2)
  | (go_at_call 17; refine (HBAD.out _ AM cM (Kd.C_below HRP.out HB3.out) HV3.out.2.2 HV3.out.2.1).mono ?_; rintro e w4 ⟨h1_, _⟩; obtain ⟨gS, B1, d1, B2, d2, rfl, hS, hb4⟩ := h1_ HLR.out; have HB4 := q16a (below_step HB3.out hb4); have HX4 := q16a (blk_below HX3.out hb4); have HV4 := q16a (Kd.C_below HV3.out.2.2 hb4); have HS4 := q16a hS; clear hb4 h1_ hS HB3 HX3)
  | (go_at_call 18; refine (HIM.out _ AM cM HV4.out HV3.out.2.1).mono ?_; rintro e w5 ⟨V1, e1, V2, e2, rfl, hC1, hl1, hC2, hb5⟩; have HB5 := q16a (below_step HB4.out hb5); have HX5 := q16a (blk_below HX4.out hb5); have HS5 := q16a (HS4.out.below hb5); have hi1 := q16a (And.intro hC1 (And.intro hl1 hC2)); clear hC1 hl1 hC2 hb5 HB4 HX4 HS4; have hy0 := HX5.out; have q0 : w5.cell? ⟨w.heap.size, 0, none⟩ = some (.slice none 0 0) := (blk_cell hy0 0).trans rfl; have k0 := blk_frozen hy0 0; have hy1 := blk_put hy0 0 (.slice A0 p.length c0) rfl; have q1 : (w5.setCell ⟨w.heap.size, 0, none⟩ (.slice A0 p.length c0)).cell? ⟨w.heap.size, 1, none⟩ = some (.slice none 0 0) := (blk_cell hy1 1).trans rfl; have k1 := blk_frozen hy1 1; have hy2 := blk_put hy1 1 (.slice V1 p.length e1) rfl; have q2 : ((w5.setCell ⟨w.heap.size, 0, none⟩ (.slice A0 p.length c0)).setCell ⟨w.heap.size, 1, none⟩ (.slice V1 p.length e1)).cell? ⟨w.heap.size, 2, none⟩ = some (.slice none 0 0) := (blk_cell hy2 2).trans rfl; have k2 := blk_frozen hy2 2; have hy3 := blk_put hy2 2 (.slice V2 p.length e2) rfl; clear hy0 hy1 hy2; replace hy3 := q16a hy3))
 have hk5 : KeepBut w5 (((w5.setCell ⟨w.heap.size, 0, none⟩ (.slice A0 p.length c0)).setCell ⟨w.heap.size, 1, none⟩ (.slice V1 p.length e1)).setCell ⟨w.heap.size, 2, none⟩ (.slice V2 p.length e2)) w.heap.size none := (((KeepBut.refl w5 w.heap.size none).set_ 0 _).set_ 1 _).set_ 2 _
 have hsl := three_slc (.slice none 0 0) (.slice none 0 0) (.slice none 0 0) rfl rfl rfl
 have HB9 := q16a (below_set (below_set (below_set HB5.out (Nat.le_refl w.heap.size) (j := 0) (v := (.slice A0 p.length c0))) (Nat.le_refl w.heap.size) (j := 1) (v := (.slice V1 p.length e1))) (Nat.le_refl w.heap.size) (j := 2) (v := (.slice V2 p.length e2)))
 have HS9 := q16a (img_keep HS5.out HX5.out (by decide) hsl hk5)
 have hC1 := q16a (u8_apart hi1.out.1 HX5.out hsl _ hk5)
 have hC2 := q16a (bool_apart hi1.out.2.2 HX5.out hsl _ hk5)
 have r0 : (((w5.setCell ⟨w.heap.size, 0, none⟩ (.slice A0 p.length c0)).setCell ⟨w.heap.size, 1, none⟩ (.slice V1 p.length e1)).setCell ⟨w.heap.size, 2, none⟩ (.slice V2 p.length e2)).cell? ⟨w.heap.size, 0, none⟩ = some (.slice A0 p.length c0) := (blk_cell hy3.out 0).trans rfl
 have r1 : (((w5.setCell ⟨w.heap.size, 0, none⟩ (.slice A0 p.length c0)).setCell ⟨w.heap.size, 1, none⟩ (.slice V1 p.length e1)).setCell ⟨w.heap.size, 2, none⟩ (.slice V2 p.length e2)).cell? ⟨w.heap.size, 1, none⟩ = some (.slice V1 p.length e1) := (blk_cell hy3.out 1).trans rfl
 have r2 : (((w5.setCell ⟨w.heap.size, 0, none⟩ (.slice A0 p.length c0)).setCell ⟨w.heap.size, 1, none⟩ (.slice V1 p.length e1)).setCell ⟨w.heap.size, 2, none⟩ (.slice V2 p.length e2)).cell? ⟨w.heap.size, 2, none⟩ = some (.slice V2 p.length e2) := (blk_cell hy3.out 2).trans rfl
 generalize (((w5.setCell ⟨w.heap.size, 0, none⟩ (.slice A0 p.length c0)).setCell ⟨w.heap.size, 1, none⟩ (.slice V1 p.length e1)).setCell ⟨w.heap.size, 2, none⟩ (.slice V2 p.length e2)) = w9 at r0 r1 r2 HB9 HS9 hC1 hC2 ⊢
 clear hk5 hsl q0 q1 q2 k0 k1 k2 hy3 HS5 HB5 HX5
 refine bodyPost_ret (v := .tuple #[.iface 79 (.pointer (some ⟨gS, 0, none⟩)), .agg #[(.slice A0 p.length c0), (.slice V1 p.length e1), (.slice V2 p.length e2)]]) (by simp [results, Tryz.results4, go_sem, r0, r1, r2, hu29]) rfl ?_
 exact ⟨gS, B1, d1, B2, d2, V1, e1, V2, e2, rfl, HS9.out, Kd.C_below HRP.out HB9.out, hC1.out, hi1.out.2.1, hC2.out, HB9.out⟩
set_option maxHeartbeats 8000000 in
set_option maxRecDepth 100000 in
/-- the reference's bytes of a source -/
theorem get_calls (w : World) (T : Nat) (x : Value) (fR fO fS fP : Nat) (b fr : List Int) (bad : List Bool) (h : SrcIs w T x fR fO fS fP b fr bad) (off k : Int) :
  Calls Tryz.prog 24 #[.iface T x, .int .i64 off, .int .i64 k] w fun e w' => e = .returned (.string (strOfNums (readRow b bad off k))) ∧ Below w.heap.size w w' := by
 have hread := (h.ans w (Below.refl _ _)).read off k
 have hRr := h.mR.run
 have hRe := h.mR.ent
 obtain ⟨r, hr⟩ : ∃ r, r = readRow b bad off k := ⟨_, rfl⟩
 obtain ⟨E, hE⟩ : ∃ E, E = readErr b.length bad off k := ⟨_, rfl⟩
 rw [← hr, ← hE] at hread
 by_cases he : E = 0
 ·
  rw [← hr]
  subst he
  have HREAD := q16a hread
  clear h hread hr hE
  go_enter Tryz.func24, Tryz.ntmps24
  go_wp2
  refine HREAD.out.mono ?_
  rintro e w1 ⟨v0, rfl, hv0, hb1⟩
  obtain ⟨A, c, ev⟩ := Kd.R_slice hv0
  subst ev
  have hcv : (convert 22 9 (.slice A r.length c)).run Tryz.prog w1 = .ok (.string (strOfNums r)) w1 := Kd.C_string (P := Tryz.prog) (c := c) (xs := r) Tryz.underlying22 Tryz.underlying5 Tryz.underlying9 (Kd.R_reads' hv0).2.2
  have HB1 := q16a hb1
  clear hb1 hv0 HREAD
  go_wp2
  go_ret
  exact ⟨rfl, HB1.out⟩
 ·
  have hrn : readRow b bad off k = [] := by unfold readRow; rw [← hE, if_neg he]
  rw [hrn]
  have hn1 : (E != 0) = true := bne_iff_ne.mpr he
  have hs : strOfNums [] = (⟨#[]⟩ : ByteArray) := by decide
  rw [hs]
  have HREAD := q16a hread
  clear h hread hr hE hrn hs
  go_enter Tryz.func24, Tryz.ntmps24
  go_wp2
  refine HREAD.out.mono ?_
  rintro e w1 ⟨v0, rfl, hv0, hb1⟩
  have HB1 := q16a hb1
  clear hb1 hv0 HREAD
  go_wp2
  go_ret
  exact ⟨rfl, HB1.out⟩
end Go.Proofs.YtagcaheopbmdiaaGreat.Pure
