/- Packed layers over numbers and lists alone: unpacking both ways, numbers in bytes, the units' places. No condition. -/
import Derived.Test.YtagcaheopbmdiaaGreatYPureLockOpensE
import Derived.Outline
import Derived.Lib.Bytes
import Derived.Lib.Repeat
import Derived.Lib.EndianBits
namespace Go.Proofs.YtagcaheopbmdiaaGreat.Pure
open Go Go.RowKit Go.Maps Go.Proofs.YtagcaheopbmdiaaGreat.QLockOpens Go.Proofs.YtagcaheopbmdiaaGreatW.PrintWords Go.Proofs.YtagcaheopbmdiaaGreatW.PrintLast Go.Proofs.YtagcaheopbmdiaaGreatW.PrintMore
set_option linter.unusedVariables false
set_option linter.unusedSimpArgs false
/-- Of: an image, or none -/
theorem of_calls (A : Option Addr) (c : Nat) (b : List Int) (w : World) (hrb : Kd.C (Kd.int .u8) w A b.length b) (hcb : b.length ≤ c) (hn : b.length ≤ 65536) :
  Calls Tryz.prog 44 #[.slice A b.length c] w fun e w' => ∃ g A1 c1 A2 c2, e = .returned (.tuple #[.iface 79 (.pointer (some ⟨g, 0, none⟩)), .int .i64 0]) ∧ IsImg w' g A1 c1 b A2 c2 (normP []) ∧ Below w.heap.size w w' := by
 have hb := fun W (h : Kd.C (Kd.int .u8) W A b.length b) => bad_small A c b none 0 [] W h hcb (Kd.C_nil _ _) (Nat.le_refl _) hn (by simp)
 have hse : srcErr b.length [] = 0 := by unfold srcErr; rw [if_neg (by omega), if_pos (fun x hx => by simp at hx)]
 have HB := Aside0.mk (hb w hrb)
 have HSE := Aside0.mk hse
 clear hb hrb hse hn hcb
 go_enter Tryz.func44, Tryz.ntmps44
 go_wp2_with (first
  | (go_at_call 17; refine HB.out.mono ?_; rintro e w1 ⟨h1, _⟩; obtain ⟨g, A1, c1, A2, c2, rfl, hI, hb1⟩ := h1 HSE.out; replace hI := Aside0.mk hI; have HB1 := Aside0.mk hb1; clear hb1 h1))
 refine bodyPost_ret (v := .tuple #[.iface 79 (.pointer (some ⟨g, 0, none⟩)), .int .i64 0]) (by simp [results, Tryz.results44, go_sem]) rfl ?_
 exact ⟨g, A1, c1, A2, c2, rfl, hI.out, HB1.out⟩
set_option maxHeartbeats 8000000 in
set_option maxRecDepth 100000 in
/-- the fact on a part of an image -/
theorem sources_calls (w : World) : Calls Tryz.prog 20 #[] w fun e w' => e = .returned (.bool true) ∧ Below w.heap.size w w' := by
 have hof := fun A c W h0 h1 => of_calls A c [97, 98, 99, 100, 101, 102] W h0 h1 (by decide)
 have HOF := Aside0.mk hof
 have hrow : readRow ([97, 98, 99, 100, 101, 102] : List Int) (badOf ([97, 98, 99, 100, 101, 102] : List Int).length []) 1 2 = [98, 99] := by decide
 have herr : readErr ([97, 98, 99, 100, 101, 102] : List Int).length (badOf ([97, 98, 99, 100, 101, 102] : List Int).length []) 1 2 = 0 := by decide
 have hss : strOfNums [98, 99] = ⟨#[98, 99]⟩ := by decide
 clear hof
 have HB := Aside0.mk (Below.refl w.heap.size w)
 go_enter Tryz.func20, Tryz.ntmps20
 go_wp2_with (first
  | ((with_reducible refine gate_dst (N:=6) rfl ?_); refine Kd.C_litbytes (xs := [97, 98, 99, 100, 101, 102]) (e := 5) rfl rfl (N:=6) rfl ?hr Tryz.underlying22 Tryz.underlying5 rfl (fun _ => rfl) (by simp) ?_; (case hr => first | (go_simp; done) | (go_simp; rfl)); intro A1 c1 w1 hC hc hb; have HB1 := Aside0.mk hb; have HC := Aside0.mk hC; have HCC := Aside0.mk hc; clear hC hc hb)
  | (go_at_call 44; refine (HOF.out A1 c1 _ HC.out HCC.out).mono ?_; rintro e w2 ⟨g, A2, c2, A3, c3, rfl, hI, hb2⟩; have HB2 := Aside0.mk (below_step HB1.out hb2); have hS := img_src hI (by decide) (by simp); have hRr := hS.mR.run; have hRe := hS.mR.ent; have hrd := (hS.ans _ (Below.refl _ _)).read 1 2; rw [hrow, herr] at hrd; replace hrd := Aside0.mk hrd; clear hI hb2 hS)
  | (go_at_call 118; refine hrd.out.mono ?_; rintro e w3 ⟨v0, rfl, hv0, hb3⟩; obtain ⟨V0, d0, e0⟩ := Kd.R_slice hv0; rw [show ([98, 99] : List Int).length = 2 from rfl] at e0; subst e0; have HB3 := Aside0.mk (below_step HB2.out hb3); have hcv : (convert 22 9 (.slice V0 2 d0)).run Tryz.prog w3 = .ok (.string ⟨#[98, 99]⟩) w3 := (Kd.C_string (P := Tryz.prog) (c := d0) (xs := [98, 99]) Tryz.underlying22 Tryz.underlying5 Tryz.underlying9 (Kd.R_reads' hv0).2.2).trans (by rw [hss]); clear hv0 hb3))
 go_ret
 exact ⟨rfl, HB3.out⟩
end Go.Proofs.YtagcaheopbmdiaaGreat.Pure
namespace Go.Proofs.YtagcaheopbmdiaaGreat.Pure
open Go.Proofs.YtagcaheopbmdiaaGreat.SumPlain
open Go Go.RowKit Go.Proofs.YtagcaheopbmdiaaGreat.QLockOpens Go.Proofs.YtagcaheopbmdiaaGreatW.PrintWords Go.Proofs.YtagcaheopbmdiaaGreatW.PrintLast Go.Proofs.YtagcaheopbmdiaaGreatW.PrintMore
set_option linter.unusedVariables false
set_option linter.unusedSimpArgs false
theorem b_cut {l : List Int} (h : Bytes l) (a b : Nat) : Bytes ((l.drop a).take b) := fun x hx => h x (List.mem_of_mem_drop (List.mem_of_mem_take hx))
theorem b_tk {l : List Int} (h : Bytes l) (b : Nat) : Bytes (l.take b) := fun x hx => h x (List.mem_of_mem_take hx)
/-- what cannot be read of so many bytes -/
def cutS (bad : List S52) (n : Nat) : List S52 := meetP (normP bad) (normP [⟨0, (n : Int)⟩])
theorem oks_one (n : Nat) (hn : n ≤ 65536) (i : Int) : memS (oks [⟨0, (n : Int)⟩]) i ↔ 0 ≤ i ∧ i < (n : Int) := by
 unfold memS oks
 constructor
 ·
  rintro ⟨x, hx, h1, h2⟩
  have hx := (List.mem_filter.1 hx).1
  rw [List.mem_singleton] at hx
  subst hx
  simp only at h1 h2
  omega
 ·
  rintro ⟨h1, h2⟩
  refine ⟨⟨0, (n : Int)⟩, List.mem_filter.2 ⟨by simp, ?_⟩, h1, by simp only; omega⟩
  refine decide_eq_true ?_
  unfold okS
  simp only
  omega
theorem cut_in (bad : List S52) (n : Nat) (hn : n ≤ 65536) : ∀ x ∈ cutS bad n, 0 ≤ x.f0 ∧ 0 < x.f1 ∧ x.f0 + x.f1 ≤ (n : Int) := by
 intro x hx
 obtain ⟨hsep, hmem⟩ := meet_set bad [⟨0, (n : Int)⟩]
 have hp := hsep.1 x hx
 have a := (oks_one n hn _).1 ((hmem x.f0).1 ⟨x, hx, by omega, by omega⟩).2
 have b := (oks_one n hn _).1 ((hmem (x.f0 + x.f1 - 1)).1 ⟨x, hx, by omega, by omega⟩).2
 omega
theorem cut_right (bad : List S52) (n : Nat) (hn : n ≤ 65536) : srcErr n (cutS bad n) = 0 := by
 unfold srcErr
 rw [if_neg (by omega), if_pos]
 intro x hx
 have := cut_in bad n hn x hx
 unfold rightS
 omega
theorem sep_len (n : Int) : ∀ (l : List S52) (lo : Int), lo ≤ n → Sep l → (∀ x ∈ l, lo ≤ x.f0 ∧ x.f0 + x.f1 ≤ n) → (l.length : Int) ≤ n - lo
 | [], lo, h, _, _ => by simp; omega
 | x :: l, lo, h, hs, hx => by
  obtain ⟨h1, h2, h3⟩ := Sep_cons.1 hs
  have h4 := hx x (by simp)
  have ih := sep_len n l (x.f0 + x.f1) h4.2 h3 (fun y hy => ⟨by have := h2 y hy; omega, (hx y (by simp [hy])).2⟩)
  rw [List.length_cons]
  omega
theorem cut_few (bad : List S52) (n : Nat) (hn : n ≤ 65536) : (cutS bad n).length ≤ n := by
 have h := sep_len (n : Int) (cutS bad n) 0 (by omega) (meet_set bad [⟨0, (n : Int)⟩]).1 (fun x hx => by have := cut_in bad n hn x hx; omega)
 omega
theorem cut_bad (bad : List S52) (n : Nat) (hn : n ≤ 65536) : badOf n (cutS bad n) = badOf n bad := by
 unfold badOf
 apply List.map_congr_left
 intro i hi
 have hil := List.mem_range.1 hi
 obtain ⟨hsep, hmem⟩ := meet_set bad [⟨0, (n : Int)⟩]
 have hok : oks (cutS bad n) = cutS bad n := by
  unfold oks
  rw [List.filter_eq_self]
  intro x hx
  have := cut_in bad n hn x hx
  refine decide_eq_true ?_
  unfold okS
  omega
 have e : isBad (cutS bad n) i = true ↔ isBad bad i = true := by
  rw [isBad_iff, isBad_iff, hok]
  constructor
  ·
   intro h
   exact ((hmem i).1 h).1
  ·
   intro h
   exact (hmem i).2 ⟨h, (oks_one n hn _).2 ⟨by omega, by omega⟩⟩
 cases h1 : isBad (cutS bad n) i <;> cases h2 : isBad bad i <;> simp_all
end Go.Proofs.YtagcaheopbmdiaaGreat.Pure
