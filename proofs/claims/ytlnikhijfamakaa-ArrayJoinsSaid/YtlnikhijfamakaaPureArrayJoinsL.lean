/- Arrays joined: its runs, walked. No condition. -/
import Derived.Test.YtlnikhijfamakaaPureArrayJoinsK
import Derived.WalkLawsBesides
import Derived.LoopN
namespace Go.Proofs.Ytlnikhijfamakaa.Pure
open Go.Proofs.Ytlnikhijfamakaa.ArrayPlain
open Go Go.RowKit Go.Maps Go.Proofs.Ytlnikhijfamakaa.QArrayJoins Go.Proofs.YtlnikhijfamakaaW.PrintWords Go.Proofs.YtlnikhijfamakaaW.PrintLast Go.Proofs.YtlnikhijfamakaaW.PrintMore
set_option linter.unusedVariables false
set_option linter.unusedSimpArgs false
/-- the first member that is there -/
def firstP (i : Int) : List (List Int) → Int
  | [] => -1
  | b :: m => if b.length > 0 then i else firstP (i + 1) m
theorem full_of (A : Option Addr) (n c : Nat) (w : World) : Calls Try.prog 116 #[.slice A n c] w fun e w' => e = .returned (.bool (decide (0 < n))) ∧ Below w.heap.size w w' := by
  go_enter Try.func116, Try.ntmps116
  go_wp2
  go_ret
  exact ⟨rfl, Below.refl _ _⟩
set_option maxHeartbeats 4000000 in
set_option maxRecDepth 100000 in
theorem index_full (AM : Option Addr) (cM : Nat) (mm : List (List Int)) (w : World) (hr : Kd.C (Kd.slice 5 (Kd.int .u8)) w AM mm.length mm) (hl : mm.length ≤ 8) :
    Calls Try.prog 115 #[.slice AM mm.length cM, .func (.func 116) #[] #[]] w fun e w' => e = .returned (.int .i64 (firstP 0 mm)) ∧ Below w.heap.size w w' := by
  have HR := Aside0.mk hr
  have HB := Aside0.mk (Below.refl w.heap.size w)
  have he := enters_ Try.func116 (by kernel_rfl) rfl
  clear hr
  go_enter Try.func115, Try.ntmps115
  go_wp2
  go_loopw [8] (fun vi wr => ∃ i : Nat, i ≤ mm.length ∧ vi = .int .i64 (i : Int) ∧ Aside0 (firstP (i : Int) (mm.drop i) = firstP 0 mm) ∧ Aside0 (Below w.heap.size w wr)) (fun vi _ => mm.length - (intOf vi).toNat)
  case atStart => exact ⟨0, Nat.zero_le _, rfl, ⟨rfl⟩, HB⟩
  case round =>
    clear HB
    obtain ⟨i, hi, rfl, HF, HB⟩ := hrel
    by_cases hlt : i < mm.length
    · have hlti : (i : Int) < (mm.length : Int) := by omega
      have hnx : IntKind.i64.wrap ((i : Int) + 1) = (i : Int) + 1 := by rw [i64_w]; unfold wrap64; omega
      obtain ⟨ad, A0, c0, rfl, e0, _, _⟩ := at_L3 (Kd.C_below HR.out HB.out) (i : Int) (by omega) hlti
      rw [Int.toNat_natCast] at e0
      have hf := HF.out
      rw [drop_L3 mm i hlt] at hf
      obtain ⟨x, hx⟩ : ∃ x, x = rd_L3 mm (i : Int) := ⟨_, rfl⟩
      rw [← hx] at e0 hf
      rw [show firstP (i : Int) (x :: mm.drop (i + 1)) = if x.length > 0 then (i : Int) else firstP ((i : Int) + 1) (mm.drop (i + 1)) from rfl] at hf
      replace hf := Aside0.mk hf
      replace hx := Aside0.mk hx
      clear HF
      by_cases hx0 : x.length > 0
      · have t0 : decide (0 < x.length) = true := decide_eq_true hx0
        have hf2 := hf.out
        rw [if_pos hx0] at hf2
        replace hf2 := Aside0.mk hf2
        clear hx0
        go_wp2_with fail
        refine (full_of A0 x.length c0 _).mono ?_
        rintro e w1 ⟨rfl, hb⟩
        have HB1 := Aside0.mk (below_step HB.out hb)
        clear hb
        go_wp2
        go_ret
        exact ⟨by rw [← hf2.out]; rfl, HB1.out⟩
      · have t0 : decide (0 < x.length) = false := decide_eq_false hx0
        have hf2 := hf.out
        rw [if_neg hx0] at hf2
        replace hf2 := Aside0.mk hf2
        clear hx0
        go_wp2_with fail
        refine (full_of A0 x.length c0 _).mono ?_
        rintro e w1 ⟨rfl, hb⟩
        have HB1 := Aside0.mk (below_step HB.out hb)
        clear hb
        go_wp2
        go_roundw
        case rel => exact ⟨i + 1, by omega, by go_num, ⟨hf2.out⟩, HB1⟩
        case measure => simp [intOf]; omega
    · obtain rfl : i = mm.length := by omega
      have hf := HF.out
      rw [List.drop_length] at hf
      replace hf := Aside0.mk hf
      go_wp2
      go_ret
      exact ⟨by rw [← hf.out]; rfl, HB.out⟩
/-! the runs -/
def locM (k m c : Int) (l : Bool) (o : Int) : Int := stepOf (parOf k m l (o / (64 * c) / widthOf k m)) (o / (64 * c) % widthOf k m)
def locA (k m c : Int) (l : Bool) (o : Int) : Int := o / (64 * c) / widthOf k m * (64 * c) + o % (64 * c)
def runQ (k m c : Int) (l : Bool) (first o n : Int) : R3 := if k = 1 then ⟨first, locA k m c l o, n⟩ else ⟨locM k m c l o, locA k m c l o, min n (64 * c - locA k m c l o % (64 * c))⟩
def runF (k m c : Int) (l : Bool) (first : Int) : Nat → Int → Int → List R3
  | 0, _, _ => []
  | f + 1, o, n => if n ≤ 0 then [] else runQ k m c l first o n :: runF k m c l first f (o + (runQ k m c l first o n).f2) (n - (runQ k m c l first o n).f2)
theorem runQ_len (k m c : Int) (l : Bool) (first o n : Int) (hg : Good k m c l) (hn : 0 < n) : 1 ≤ (runQ k m c l first o n).f2 ∧ (runQ k m c l first o n).f2 ≤ n := by
  unfold Good at hg
  have h1 := Int.emod_lt_of_pos (locA k m c l o) (show 0 < 64 * c by omega)
  unfold runQ
  split
  · exact ⟨by show 1 ≤ n; omega, Int.le_refl _⟩
  · show 1 ≤ min n (64 * c - locA k m c l o % (64 * c)) ∧ min n (64 * c - locA k m c l o % (64 * c)) ≤ n
    omega
theorem runF_len (k m c : Int) (l : Bool) (first : Int) : ∀ (f : Nat) (o n : Int), (runF k m c l first f o n).length ≤ f
  | 0, _, _ => Nat.le_refl _
  | f + 1, o, n => by
    have := runF_len k m c l first f (o + (runQ k m c l first o n).f2) (n - (runQ k m c l first o n).f2)
    unfold runF
    split
    · simp
    · rw [List.length_cons]; omega
theorem locA_bound {k m c : Int} {l : Bool} (hg : Good k m c l) (o : Int) (h0 : 0 ≤ o) (h1 : o < 65536) : 0 ≤ locA k m c l o ∧ locA k m c l o ≤ o := by
  have hw := width_pos hg
  unfold Good at hg
  have hc : 0 < 64 * c := by omega
  have e := Int.mul_ediv_add_emod o (64 * c)
  have q0 : 0 ≤ o / (64 * c) := Int.ediv_nonneg h0 (by omega)
  have q1 : 0 ≤ o / (64 * c) / widthOf k m := Int.ediv_nonneg q0 (by omega)
  have q2 : o / (64 * c) / widthOf k m ≤ o / (64 * c) := Int.ediv_le_self _ q0
  have r0 := Int.emod_nonneg o (show (64 * c) ≠ 0 by omega)
  unfold locA
  have q3 : o / (64 * c) / widthOf k m * (64 * c) ≤ o / (64 * c) * (64 * c) := Int.mul_le_mul_of_nonneg_right q2 (by omega)
  have q4 : 0 ≤ o / (64 * c) / widthOf k m * (64 * c) := Int.mul_nonneg q1 (by omega)
  rw [Int.mul_comm (64 * c)] at e
  omega
/-- where the runs' loop stands -/
def RunRel (w wr : World) (k m c : Int) (l : Bool) (first : Int) (all : List R3) (lim : Int) (vo vn v : Value) : Prop := ∃ (o n : Int) (f : Nat) (out : List R3), vo = .int .i64 o ∧ vn = .int .i64 n ∧ 0 ≤ o ∧ o + n ≤ lim ∧ n ≤ (f : Int) ∧ f ≤ 65536 ∧ (0 ≤ n) ∧ Aside0 (out ++ runF k m c l first f o n = all) ∧ out.length + f ≤ 65536 ∧ Aside0 (k3.R 162 wr w.heap.size (fun _ => True) v out) ∧ Aside0 (Below w.heap.size w wr)
set_option maxHeartbeats 8000000 in
set_option maxRecDepth 100000 in
theorem whole_runs (w : World) (g : Nat) (k m c : Int) (l : Bool) (AM : Option Addr) (cM : Nat) (mm : List (List Int)) (s gone : Int) (h : IsWhole w g k m c l AM cM mm s gone) (hg : Good k m c l) (hM : mm.length ≤ 8) (o n : Int) (ho : 0 ≤ o) (hn : 0 ≤ n) (hon : o + n ≤ 65536) :
    Calls Try.prog 112 #[.pointer (some ⟨g, 0, none⟩), .int .i64 o, .int .i64 n] w fun e w' => ∃ v0, e = .returned v0 ∧ k3.R 162 w' w.heap.size (fun _ => True) v0 (runF k m c l (firstP 0 mm) n.toNat o n) ∧ Below w.heap.size w w' := by
  obtain ⟨all, hall⟩ : ∃ all, all = runF k m c l (firstP 0 mm) n.toNat o n := ⟨_, rfl⟩
  obtain ⟨first, hfirst⟩ : ∃ f, f = firstP 0 mm := ⟨_, rfl⟩
  rw [← hfirst] at hall
  rw [← hfirst, ← hall]
  have HG := Aside0.mk hg
  have HI := Aside0.mk h
  have HFI := Aside0.mk hfirst
  obtain ⟨C, hC⟩ : ∃ C, C = 64 * c := ⟨_, rfl⟩
  have hcv := chunk_val hg
  rw [← hC] at hcv
  have HCV := Aside0.mk hcv
  have hg2 := hg
  unfold Good at hg2
  have hC0 : 64 ≤ C ∧ C ≤ 1024 := by omega
  have HCC := Aside0.mk hC
  clear hcv hg2 hC
  have HB := Aside0.mk (Below.refl w.heap.size w)
  have a0 : w.cell? ⟨g, 0, none⟩ = some (.int .i64 k) := (blk_cell h.blk 0).trans rfl
  have a1 : w.cell? ⟨g, 1, none⟩ = some (.int .i64 m) := (blk_cell h.blk 1).trans rfl
  have a2 : w.cell? ⟨g, 2, none⟩ = some (.int .i64 c) := (blk_cell h.blk 2).trans rfl
  have a3 : w.cell? ⟨g, 3, none⟩ = some (.bool l) := (blk_cell h.blk 3).trans rfl
  have HALL := Aside0.mk hall
  clear h hg hfirst hall
  go_enter Try.func112, Try.ntmps112
  go_wp2_with (first
    | (go_at_call 38; refine (array_chunk.calls k m c l C _ HCV.out).mono ?_; rintro e w1 ⟨rfl, hb1⟩; have HB1 := Aside0.mk hb1; clear hb1))
  clear a0 a1 a2 a3
  go_loopw [1, 2, 7] (fun vo vn v wr => RunRel w wr k m c l first all 65536 vo vn v) (fun _ vn _ _ => (intOf vn).toNat)
  case atStart => exact ⟨o, n, n.toNat, [], rfl, rfl, ho, hon, by omega, by omega, hn, ⟨by rw [HALL.out]; rfl⟩, by simp; omega, ⟨Kd.R_nil _ _ _ _ _⟩, HB1⟩
  case round =>
    clear HB HB1 HALL ho hn hon
    obtain ⟨o1, n1, f, out, rfl, rfl, ho, hon, hnf, hf, hn, HALL, hol, HO, HBr⟩ := hrel
    by_cases hlt : 0 < n1
    · have t0 : decide (0 < n1) = true := decide_eq_true hlt
      obtain ⟨f, rfl⟩ : ∃ f', f = f' + 1 := ⟨f - 1, by omega⟩
      have hall := HALL.out
      rw [show runF k m c l first (f + 1) o1 n1 = if n1 ≤ 0 then [] else runQ k m c l first o1 n1 :: runF k m c l first f (o1 + (runQ k m c l first o1 n1).f2) (n1 - (runQ k m c l first o1 n1).f2) from rfl, if_neg (by omega)] at hall
      have hql := runQ_len k m c l first o1 n1 HG.out hlt
      have hab := locA_bound HG.out o1 ho (by omega)
      have hpv : array_place.f k m c l o1 = some (locM k m c l o1, locA k m c l o1) := place_val HG.out o1 ho (by omega)
      have hrq : runQ k m c l first o1 n1 = if k = 1 then ⟨first, locA k m c l o1, n1⟩ else ⟨locM k m c l o1, locA k m c l o1, min n1 (64 * c - locA k m c l o1 % (64 * c))⟩ := rfl
      rw [← HCC.out] at hrq
      obtain ⟨q, hq⟩ : ∃ q, q = runQ k m c l first o1 n1 := ⟨_, rfl⟩
      obtain ⟨M, hMe⟩ : ∃ M, M = locM k m c l o1 := ⟨_, rfl⟩
      obtain ⟨a, ha⟩ : ∃ a, a = locA k m c l o1 := ⟨_, rfl⟩
      rw [← hq] at hall hql hrq
      rw [← hMe, ← ha] at hpv hrq
      rw [← ha] at hab
      have HPV := Aside0.mk hpv
      have hi1 := HI.out.below HBr.out
      have a0 : wr.cell? ⟨g, 0, none⟩ = some (.int .i64 k) := (blk_cell hi1.blk 0).trans rfl
      have a1 : wr.cell? ⟨g, 1, none⟩ = some (.int .i64 m) := (blk_cell hi1.blk 1).trans rfl
      have a2 : wr.cell? ⟨g, 2, none⟩ = some (.int .i64 c) := (blk_cell hi1.blk 2).trans rfl
      have a3 : wr.cell? ⟨g, 3, none⟩ = some (.bool l) := (blk_cell hi1.blk 3).trans rfl
      have hm0 := Int.emod_nonneg a (show C ≠ 0 by omega)
      have hm1 := Int.emod_lt_of_pos a (show 0 < C by omega)
      have htm : Int.tmod a C = a % C := Int.tmod_eq_emod_of_nonneg hab.1
      obtain ⟨ra, hra⟩ : ∃ r, r = a % C := ⟨_, rfl⟩
      rw [← hra] at hm0 hm1 htm hrq
      have hcz : ¬ C = 0 := by omega
      have hws : IntKind.i64.wrap (C - ra) = C - ra := by rw [i64_w]; unfold wrap64; omega
      obtain ⟨kk, hkk⟩ : ∃ kk, kk = min n1 (C - ra) := ⟨_, rfl⟩
      rw [← hkk] at hrq
      have hkb : 1 ≤ kk ∧ kk ≤ n1 := by omega
      have hmn : (if C - ra < n1 then C - ra else n1) = kk := by rw [hkk]; split <;> omega
      obtain ⟨AO, cO, eO⟩ := Kd.R_slice HO.out
      subst eO
      have HALL2 := Aside0.mk (show (out ++ [q]) ++ runF k m c l first f (o1 + q.f2) (n1 - q.f2) = all by rw [List.append_assoc]; exact hall)
      have HRM := Aside0.mk (show (out.length + 1) * 24 ≤ 140737488355328 by omega)
      clear hi1 hall hpv hq hMe ha hra HALL hkk
      by_cases hk : k = 1
      · have u0 : decide (k = 1) = true := decide_eq_true hk
        have u1 : (k == 1) = true := by simpa using hk
        rw [if_pos hk] at hrq
        clear hk
        go_wp2_with (first
          | (go_at_call 47; refine (array_place.calls k m c l o1 M a _ HPV.out).mono ?_; rintro e w2 ⟨rfl, hb2⟩; have HB2 := Aside0.mk (below_step HBr.out hb2); have HO2 := Aside0.mk (Kd.R_below HO.out hb2); have hi2 := HI.out.below HB2.out; have a0' : w2.cell? ⟨g, 0, none⟩ = some (.int .i64 k) := (blk_cell hi2.blk 0).trans rfl; have a4 : w2.cell? ⟨g, 4, none⟩ = some (.slice AM mm.length cM) := (blk_cell hi2.blk 4).trans rfl; clear hb2 a0 a1 a2 a3 hi2))
        refine (index_full AM cM mm _ (Kd.C_below HI.out.rm HB2.out) hM).mono ?_
        rintro e w3 ⟨rfl, hb3⟩
        rw [← HFI.out]
        have HB3 := Aside0.mk (below_step HB2.out hb3)
        have HO3 := Aside0.mk (Kd.R_below HO2.out hb3)
        clear hb3 a4 a0'
        rw [hrq] at HALL2 hql
        replace HALL2 := Aside0.mk (show (out ++ [⟨first, a, n1⟩]) ++ runF k m c l first f (o1 + n1) 0 = all by have h := HALL2.out; rw [show n1 - n1 = 0 by omega] at h; exact h)
        have hwo : IntKind.i64.wrap (o1 + n1) = o1 + n1 := by rw [i64_w]; unfold wrap64; omega
        have hwn : IntKind.i64.wrap (n1 - n1) = n1 - n1 := by rw [i64_w]; unfold wrap64; omega
        clear hrq hmn
        go_wp2_with (first
          | ((with_reducible refine gate_builtin (b := .append) (xs := #[.tmp 47, .tmp 52]) rfl ?_); at_builtin; refine Kd.R_append k3 (w0 := w) w.heap.size rfl (.tmp 47) (.tmp 52) 160 162 (.agg #[.int .i64 0, .int .i64 0, .int .i64 0]) 24 rfl Try.underlying160 info3_ rfl (by decide) (by decide) (.slice AO out.length cO) out ⟨first, a, n1⟩ [.int .i64 first, .int .i64 a, .int .i64 n1] (fun _ => True) (fun _ => False) rfl rfl (k3_mkM _ _ _ ⟨first, a, n1⟩) (fun _ h => h.elim) (fun _ _ => trivial) HO3.out HB3.out HB3.out.size HRM.out ?_; intro v4 w4 HO4 HB4 hg4 hat4))
        go_roundw
        case rel => exact ⟨o1 + n1, 0, f, out ++ [⟨first, a, n1⟩], rfl, rfl, by omega, by omega, by omega, by omega, by omega, HALL2, by simp; omega, ⟨HO4⟩, ⟨HB4⟩⟩
        case measure => simp [intOf]; omega
      · have u0 : decide (k = 1) = false := decide_eq_false hk
        have u1 : (k == 1) = false := by simpa using hk
        rw [if_neg hk] at hrq
        clear hk
        rw [hrq] at HALL2 hql
        have hwo : IntKind.i64.wrap (o1 + kk) = o1 + kk := by rw [i64_w]; unfold wrap64; omega
        have hwn : IntKind.i64.wrap (n1 - kk) = n1 - kk := by rw [i64_w]; unfold wrap64; omega
        clear hrq
        go_wp2_with (first
          | (go_at_call 47; refine (array_place.calls k m c l o1 M a _ HPV.out).mono ?_; rintro e w2 ⟨rfl, hb2⟩; have HB2 := Aside0.mk (below_step HBr.out hb2); have HO2 := Aside0.mk (Kd.R_below HO.out hb2); have hi2 := HI.out.below HB2.out; have a0' : w2.cell? ⟨g, 0, none⟩ = some (.int .i64 k) := (blk_cell hi2.blk 0).trans rfl; clear hb2 a0 a1 a2 a3 hi2)
          | ((with_reducible refine gate_builtin (b := .append) (xs := #[.tmp 47, .tmp 52]) rfl ?_); at_builtin; refine Kd.R_append k3 (w0 := w) w.heap.size rfl (.tmp 47) (.tmp 52) 160 162 (.agg #[.int .i64 0, .int .i64 0, .int .i64 0]) 24 rfl Try.underlying160 info3_ rfl (by decide) (by decide) (.slice AO out.length cO) out ⟨M, a, kk⟩ [.int .i64 M, .int .i64 a, .int .i64 kk] (fun _ => True) (fun _ => False) rfl rfl (k3_mkM _ _ _ ⟨M, a, kk⟩) (fun _ h => h.elim) (fun _ _ => trivial) HO2.out HB2.out HB2.out.size HRM.out ?_; intro v4 w4 HO4 HB4 hg4 hat4))
        go_roundw
        case rel => exact ⟨o1 + kk, n1 - kk, f, out ++ [⟨M, a, kk⟩], rfl, rfl, by omega, by omega, by omega, by omega, by omega, HALL2, by simp; omega, ⟨HO4⟩, ⟨HB4⟩⟩
        case measure => simp [intOf]; omega
    · obtain rfl : n1 = 0 := by omega
      have hall := HALL.out
      have he : runF k m c l first f o1 0 = [] := by cases f with | zero => rfl | succ f => exact if_pos (by omega)
      rw [he, List.append_nil] at hall
      obtain ⟨AO, cO, eO⟩ := Kd.R_slice HO.out
      subst eO
      replace hall := Aside0.mk hall
      clear he HALL
      go_wp2
      go_ret
      exact ⟨_, rfl, by rw [← hall.out]; exact HO.out, HBr.out⟩
end Go.Proofs.Ytlnikhijfamakaa.Pure
