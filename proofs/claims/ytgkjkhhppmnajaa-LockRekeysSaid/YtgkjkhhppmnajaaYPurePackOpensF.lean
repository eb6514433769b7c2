/- Sources of bytes: the fact on a part of an image. No condition. -/
import Derived.Test.YtgkjkhhppmnajaaYPurePackOpensE
import Derived.Outline
namespace Go.Proofs.Ytgkjkhhppmnajaa.Pure
open Go Go.RowKit Go.Maps Go.Proofs.Ytgkjkhhppmnajaa.QPackOpens Go.Proofs.YtgkjkhhppmnajaaW.PrintWords Go.Proofs.YtgkjkhhppmnajaaW.PrintLast Go.Proofs.YtgkjkhhppmnajaaW.PrintMore
set_option linter.unusedVariables false
set_option linter.unusedSimpArgs false
/-- Of: an image, or none -/
theorem of_calls (A : Option Addr) (c : Nat) (b : List Int) (w : World) (hrb : Kd.C (Kd.int .u8) w A b.length b) (hcb : b.length ≤ c) (hn : b.length ≤ 65536) :
  Calls Try.prog 73 #[.slice A b.length c] w fun e w' => ∃ g A1 c1 A2 c2, e = .returned (.tuple #[.iface 121 (.pointer (some ⟨g, 0, none⟩)), .int .i64 0]) ∧ IsImg w' g A1 c1 b A2 c2 (normP []) ∧ Below w.heap.size w w' := by
 have hb := fun W (h : Kd.C (Kd.int .u8) W A b.length b) => bad_small A c b none 0 [] W h hcb (Kd.C_nil _ _) (Nat.le_refl _) hn (by simp)
 have hse : srcErr b.length [] = 0 := by unfold srcErr; rw [if_neg (by omega), if_pos (fun x hx => by simp at hx)]
 have HB := Aside0.mk (hb w hrb)
 have HSE := Aside0.mk hse
 clear hb hrb hse hn hcb
 go_enter Try.func73, Try.ntmps73
 go_wp2_with (first
  | (go_at_call 35; refine HB.out.mono ?_; rintro e w1 ⟨h1, _⟩; obtain ⟨g, A1, c1, A2, c2, rfl, hI, hb1⟩ := h1 HSE.out; replace hI := Aside0.mk hI; have HB1 := Aside0.mk hb1; clear hb1 h1))
 refine bodyPost_ret (v := .tuple #[.iface 121 (.pointer (some ⟨g, 0, none⟩)), .int .i64 0]) (by simp [results, Try.results73, go_sem]) rfl ?_
 exact ⟨g, A1, c1, A2, c2, rfl, hI.out, HB1.out⟩
set_option maxHeartbeats 8000000 in
set_option maxRecDepth 100000 in
/-- the fact on a part of an image -/
theorem sources_calls (w : World) : Calls Try.prog 38 #[] w fun e w' => e = .returned (.bool true) ∧ Below w.heap.size w w' := by
 have hof := fun A c W h0 h1 => of_calls A c [97, 98, 99, 100, 101, 102] W h0 h1 (by decide)
 have HOF := Aside0.mk hof
 have hrow : readRow ([97, 98, 99, 100, 101, 102] : List Int) (badOf ([97, 98, 99, 100, 101, 102] : List Int).length []) 1 2 = [98, 99] := by decide
 have herr : readErr ([97, 98, 99, 100, 101, 102] : List Int).length (badOf ([97, 98, 99, 100, 101, 102] : List Int).length []) 1 2 = 0 := by decide
 have hss : strOfNums [98, 99] = ⟨#[98, 99]⟩ := by decide
 clear hof
 have HB := Aside0.mk (Below.refl w.heap.size w)
 go_enter Try.func38, Try.ntmps38
 go_wp2_with (first
  | ((with_reducible refine gate_dst (N:=6) rfl ?_); refine Kd.C_litbytes (xs := [97, 98, 99, 100, 101, 102]) (e := 5) rfl rfl (N:=6) rfl ?hr Try.underlying22 Try.underlying5 rfl (fun _ => rfl) (by simp) ?_; (case hr => first | (go_simp; done) | (go_simp; rfl)); intro A1 c1 w1 hC hc hb; have HB1 := Aside0.mk hb; have HC := Aside0.mk hC; have HCC := Aside0.mk hc; clear hC hc hb)
  | (go_at_call 73; refine (HOF.out A1 c1 _ HC.out HCC.out).mono ?_; rintro e w2 ⟨g, A2, c2, A3, c3, rfl, hI, hb2⟩; have HB2 := Aside0.mk (below_step HB1.out hb2); have hS := img_src hI (by decide) (by simp); have hRr := hS.mR.run; have hRe := hS.mR.ent; have hrd := (hS.ans _ (Below.refl _ _)).read 1 2; rw [hrow, herr] at hrd; replace hrd := Aside0.mk hrd; clear hI hb2 hS)
  | (go_at_call 155; refine hrd.out.mono ?_; rintro e w3 ⟨v0, rfl, hv0, hb3⟩; obtain ⟨V0, d0, e0⟩ := Kd.R_slice hv0; rw [show ([98, 99] : List Int).length = 2 from rfl] at e0; subst e0; have HB3 := Aside0.mk (below_step HB2.out hb3); have hcv : (convert 22 9 (.slice V0 2 d0)).run Try.prog w3 = .ok (.string ⟨#[98, 99]⟩) w3 := (Kd.C_string (P := Try.prog) (c := d0) (xs := [98, 99]) Try.underlying22 Try.underlying5 Try.underlying9 (Kd.R_reads' hv0).2.2).trans (by rw [hss]); clear hv0 hb3))
 go_ret
 exact ⟨rfl, HB3.out⟩
end Go.Proofs.Ytgkjkhhppmnajaa.Pure
