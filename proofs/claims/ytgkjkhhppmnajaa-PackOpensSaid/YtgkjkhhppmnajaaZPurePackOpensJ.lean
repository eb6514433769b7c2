/- Packed layers: reading. No condition. -/
import Derived.Test.YtgkjkhhppmnajaaZPurePackOpensI
import Derived.Lib.Bytes
import Derived.Lib.Repeat
import Derived.Lib.EndianBits
namespace Go.Proofs.Ytgkjkhhppmnajaa.Pure
open Go.Proofs.Ytgkjkhhppmnajaa.SumPlain Go.Maps
open Go Go.RowKit Go.Proofs.Ytgkjkhhppmnajaa.QPackOpens Go.Proofs.YtgkjkhhppmnajaaW.PrintWords Go.Proofs.YtgkjkhhppmnajaaW.PrintLast Go.Proofs.YtgkjkhhppmnajaaW.PrintMore
set_option linter.unusedVariables false
set_option linter.unusedSimpArgs false
theorem q14a : type_of% @Aside0.mk := @Aside0.mk
/-- units' bytes, one after the other -/
def catR (R : Nat → List Int × Int) (a : Nat) : Nat → List Int
 | 0 => []
 | j + 1 => catR R a j ++ (R (a + j)).1
def okRun (b : List Int) (bad : List Bool) (l : List S45) (R : Nat → List Int × Int) (a k : Nat) : Prop := ∀ j, j < k → okU b bad l R (a + j) = true
theorem okU_len {b : List Int} {bad : List Bool} {size : Nat} {l : List S45} {R : Nat → List Int × Int} (hU : UN b bad size l R) (i : Nat) (hi : i < l.length) (h : okU b bad l R i = true) : ((R i).1.length : Int) = min 256 ((size : Int) - (i : Int) * 256) ∧ Bytes (R i).1 := by
 unfold okU at h
 have h2 := of_decide_eq_true h
 obtain ⟨h3, _⟩ := hU.ev i hi h2.1
 exact ⟨h3.2.1 h2.2.1, h3.1⟩
theorem catR_len {b : List Int} {bad : List Bool} {size : Nat} {l : List S45} {R : Nat → List Int × Int} (hU : UN b bad size l R) (hL : l.length = nUn size) (a : Nat) (ha : a < l.length) : ∀ k, a + k ≤ l.length → okRun b bad l R a k → ((catR R a k).length : Int) = min (((a + k : Nat) : Int) * 256) (size : Int) - (a : Int) * 256
 | 0, _, _ => by
  unfold nUn at hL
  simp only [catR, List.length_nil, Nat.add_zero]
  omega
 | k + 1, hk, hg => by
  have ih := catR_len hU hL a ha k (by omega) (fun j hj => hg j (by omega))
  have h1 := (okU_len hU (a + k) (by omega) (hg k (by omega))).1
  unfold nUn at hL
  rw [catR, List.length_append, Int.natCast_add, ih, h1]
  omega
set_option maxHeartbeats 4000000 in
set_option maxRecDepth 100000 in
theorem bclone (W : World) (A : Option Addr) (c n : Nat) (xs : List Int) (hl : xs.length = n) (hC : Kd.C (Kd.int .u8) W A n xs) (hc : n ≤ c) (hn : 0 < n) (hn2 : n ≤ 1000000) :
  Calls Try.prog 152 #[.slice A n c] W fun e w' => ∃ v0, e = .returned v0 ∧ (Kd.int .u8).R 5 w' W.heap.size (fun _ => True) v0 xs ∧ Below W.heap.size W w' := by
 obtain ⟨ad, rfl, _⟩ := hC.2.2 hn
 subst hl
 have HC := q14a hC
 have HB := q14a (Below.refl W.heap.size W)
 have HRM := q14a (show (([] : List Int).length + xs.length) * 1 ≤ 140737488355328 by simp; omega)
 have q22 : ∀ (w : World) (a : Option Addr) (n c n' c' : Nat), (binOp .eql 22 (.slice a n c) (.slice none n' c')).run Try.prog w = .ok (.bool a.isNone) w := fun w a n c n' c' => Go.Lib.run_eql_slice_nil w _ _ a n c n' c' Try.underlying22
 clear hC hc hn
 go_enter Try.func152, Try.ntmps152
 go_wp2_with (first
  | ((with_reducible refine gate_dst (N:=5) rfl ?_); refine Kd.R_lit (Kd.int .u8) (w0 := W) W.heap.size 5 ?hg (N:=5) ?hd (xs := ([] : List Int)) (inner := []) (ok := fun _ => True) (okp := fun _ => True) ?hr ?hp (fun _ hk => hk) trivial HB.out HB.out.size (by simp) ?_; (case hd => rfl); (case hg => rfl); (case hr => first | (go_simp; done) | (go_simp; rfl)); (case hp => exact ⟨rfl, fun j p hj => by simp at hj⟩); intro vF w2 hF2 hB2 hG2 hn2_; obtain ⟨AF, cF, eF⟩ := Kd.R_slice hF2; rw [List.length_nil] at eF; subst eF; have HF2 := q14a hF2; have HC2 := q14a (Kd.C_below HC.out (none_below hG2)); have HB2 := q14a hB2; clear hF2 hB2 hG2 hn2_)
  | (refine Kd.R_append_rows (Kd.int .u8) (Rr := (Kd.int .u8).K w2) (w0 := W) W.heap.size rfl (.tmp 5) (.tmp 6) 22 5 (.int .u8 0) 1 rfl Try.underlying22 info5 rfl (by decide) (by decide) (.slice AF 0 cF) [] xs (some ad) xs.length c (fun _ => True) (fun _ => False) rfl rfl HF2.out HC2.out (fun _ _ h => h) (fun _ h => h.elim) (fun _ _ => trivial) HB2.out HB2.out.size HRM.out ?_; intro v8 w8 HO8 HB8 hg8 hat8))
 go_ret
 exact ⟨_, rfl, HO8, HB8⟩
/-- what reading hands back -/
def RdEnd (w : World) (b : List Int) (bad : List Bool) (l : List S45) (R : Nat → List Int × Int) (o m : Nat) (e : Ending) (w' : World) : Prop :=
 (okRun b bad l R (o / 256) ((o + m - 1) / 256 - o / 256 + 1) → ∃ v0, e = .returned (.tuple #[v0, .int .i64 0]) ∧ (Kd.int .u8).R 5 w' w.heap.size (fun _ => True) v0 (((catR R (o / 256) ((o + m - 1) / 256 - o / 256 + 1)).drop (o % 256)).take m)) ∧
 (¬ okRun b bad l R (o / 256) ((o + m - 1) / 256 - o / 256 + 1) → e = .returned (.tuple #[.slice none 0 0, .int .i64 19])) ∧ Below w.heap.size w w'
theorem nat_tdiv (o : Nat) : Int.tdiv (o : Int) 256 = ((o / 256 : Nat) : Int) := by rw [Int.tdiv_eq_ediv_of_nonneg (Int.natCast_nonneg _)]; rfl
theorem nat_tmod (o : Nat) : Int.tmod (o : Int) 256 = ((o % 256 : Nat) : Int) := by rw [Int.tmod_eq_emod_of_nonneg (Int.natCast_nonneg _)]; rfl
theorem nat_wrap (n : Nat) (h : n ≤ 1000000) : IntKind.i64.wrap (n : Int) = (n : Int) := by rw [i64_w]; unfold wrap64; omega
theorem nat_wrap2 (n m : Nat) (h : n + m ≤ 1000000) : IntKind.i64.wrap ((n : Int) + (m : Int)) = (n : Int) + (m : Int) := by rw [i64_w]; unfold wrap64; omega
theorem nat_wrap3 (n m : Nat) (h : n + m ≤ 1000000) (hm : 0 < m) : IntKind.i64.wrap ((n : Int) + (m : Int) - 1) = ((n + m - 1 : Nat) : Int) := by rw [i64_w]; unfold wrap64; omega
theorem cat_nums (o m size len : Nat) (hm : 0 < m) (hom : o + m ≤ size) (hs : size ≤ 65536) (h : (len : Int) = min (((o / 256 + ((o + m - 1) / 256 - o / 256 + 1) : Nat) : Int) * 256) (size : Int) - ((o / 256 : Nat) : Int) * 256) : o % 256 + m ≤ len ∧ len ≤ 65536 := by
 have e1 := Nat.div_add_mod o 256
 have e2 := Nat.mod_lt o (show 0 < 256 by decide)
 have e3 := Nat.div_add_mod (o + m - 1) 256
 have e4 := Nat.mod_lt (o + m - 1) (show 0 < 256 by decide)
 generalize o / 256 = a at *
 generalize o % 256 = f at *
 generalize (o + m - 1) / 256 = z at *
 generalize (o + m - 1) % 256 = r at *
 omega
theorem cat_few (a k size len : Nat) (hs : size ≤ 65536) (h : (len : Int) = min (((a + k : Nat) : Int) * 256) (size : Int) - (a : Int) * 256) : len ≤ 65536 := by omega
theorem rd_nums (o m size U : Nat) (hm : 0 < m) (hom : o + m ≤ size) (hs : size ≤ 65536) (hU : U = nUn size) : o / 256 ≤ (o + m - 1) / 256 ∧ (o + m - 1) / 256 < U ∧ (o + m - 1) / 256 ≤ 256 ∧ o % 256 < 256 := by
 unfold nUn at hU
 omega
theorem row_room {p q : Nat} {s : Int} (h1 : p ≤ 65536) (h2 : (q : Int) = min 256 s) : (p + q) * 1 ≤ 140737488355328 := by omega
theorem meas_dec {i z : Nat} (h : i ≤ z) : z + 1 - (intOf (.int .i64 ((i : Int) + 1))).toNat < z + 1 - (intOf (.int .i64 (i : Int))).toNat := by simp [intOf]; omega
theorem in_run {i a j z : Nat} (h : i = a + j) (h1 : i ≤ z) (h2 : a ≤ z) : j < z - a + 1 := by omega
theorem end_run {i a j z : Nat} (h : i = a + j) (h1 : ¬ i ≤ z) (h3 : i ≤ z + 1) (h2 : a ≤ z) : j = z - a + 1 := by omega
theorem cut_full {f m n : Nat} (h : f + m ≤ n) : min m (n - f) = m := by omega
def RdRel (w wr : World) (b : List Int) (bad : List Bool) (l : List S45) (R : Nat → List Int × Int) (a z : Nat) (vo vi : Value) : Prop := ∃ (j i : Nat), Aside0 (i = a + j) ∧ vi = .int .i64 (i : Int) ∧ i ≤ z + 1 ∧ Aside0 (okRun b bad l R a j) ∧ Aside0 ((Kd.int .u8).R 5 wr w.heap.size (fun _ => True) vo (catR R a j)) ∧ Aside0 (Below w.heap.size w wr)
set_option maxHeartbeats 16000000 in
set_option maxRecDepth 100000 in
theorem lay_read (w : World) (g T : Nat) (x : Value) (fR fO fS fP : Nat) (b fr : List Int) (bad : List Bool) (h : SrcIs w T x fR fO fS fP b fr bad) (hb : Bytes b) (hn : b.length ≤ 65536) (size : Nat) (A : Option Addr) (c : Nat) (l : List S45) (hI : IsLay w g T x size A c l) (hs : size ≤ 65536) (hL : l.length = nUn size) (R : Nat → List Int × Int) (hU : UN b bad size l R) (h4 : ∀ y ∈ l, 4 ≤ y.f1) (o m : Nat) (hm : 0 < m) (hom : o + m ≤ size) :
  Calls Try.prog 147 #[.pointer (some ⟨g, 0, none⟩), .int .i64 (o : Int), .int .i64 (m : Int)] w fun e w' => RdEnd w b bad l R o m e w' := by
 have hl : l.length ≤ 65536 := by unfold nUn at hL; omega
 have hunit := fun W (hb2 : Below w.heap.size w W) (i : Nat) (hi : i < l.length) => unit_calls W g T x fR fO fS fP b fr bad (h.below hb2) hb hn size A c l (hI.below hb2) hs hl R hU h4 i hi
 have hwr := lay_wrong w g T x size A c l hI hs (o : Int) (m : Int)
 rw [decide_eq_false (fun h => h ⟨by omega, by omega, by omega⟩)] at hwr
 obtain ⟨n1, n2, n3, n4⟩ := rd_nums o m size l.length hm hom hs hL
 have hcl := catR_len hU hL (o / 256) (Nat.lt_of_le_of_lt n1 n2)
 have hul := fun i hi hk => (okU_len hU i hi hk).1
 have hcat : okRun b bad l R (o / 256) ((o + m - 1) / 256 - o / 256 + 1) → o % 256 + m ≤ (catR R (o / 256) ((o + m - 1) / 256 - o / 256 + 1)).length ∧ (catR R (o / 256) ((o + m - 1) / 256 - o / 256 + 1)).length ≤ 65536 := fun hg => cat_nums o m size _ hm hom hs (hcl _ (by omega) hg)
 have hcl2 : ∀ k, o / 256 + k ≤ l.length → okRun b bad l R (o / 256) k → (catR R (o / 256) k).length ≤ 65536 := fun k hk hg => cat_few (o / 256) k size _ hs (hcl k hk hg)
 unfold RdEnd
 have ho : o + m ≤ 1000000 := by omega
 have hm6 : m ≤ 65536 := by omega
 have hf6 : o % 256 + m ≤ 1000000 := by omega
 have q1 := nat_tdiv o
 have q6 := nat_tdiv (o + m - 1)
 have q9 := nat_tmod o
 have q4 := nat_wrap2 o m ho
 have q5 := nat_wrap3 o m ho hm
 obtain ⟨a, ha⟩ : ∃ a, a = o / 256 := ⟨_, rfl⟩
 obtain ⟨y, hy⟩ : ∃ y, y = o + m - 1 := ⟨_, rfl⟩
 obtain ⟨z, hz⟩ : ∃ z, z = y / 256 := ⟨_, rfl⟩
 obtain ⟨f, hf⟩ : ∃ f, f = o % 256 := ⟨_, rfl⟩
 rw [← ha] at q1
 rw [← hy] at q5
 rw [← hy, ← hz] at q6
 rw [← hf] at q9
 rw [← ha, ← hy, ← hz, ← hf] at hcat
 rw [← ha] at hcl2
 rw [← ha, ← hy, ← hz, ← hf]
 rw [← hy, ← hz] at n2 n3
 rw [← ha, ← hy, ← hz] at n1
 rw [← hf] at n4 hf6
 have haz : a ≤ z := n1
 have hzl : z < l.length := n2
 have hzb : z ≤ 65536 := Nat.le_trans n3 (by decide)
 have HUNIT := q14a hunit
 have HWR := q14a hwr
 have HCAT := q14a hcat
 have HCL2 := q14a hcl2
 have HUL := q14a hul
 have q3 : IntKind.i64.wrap (a : Int) = (a : Int) := nat_wrap a (Nat.le_trans haz (Nat.le_trans hzb (by decide)))
 have q8 : IntKind.i64.wrap (z : Int) = (z : Int) := nat_wrap z (Nat.le_trans hzb (by decide))
 have q11 : IntKind.i64.wrap (f : Int) = (f : Int) := nat_wrap f (Nat.le_trans (Nat.le_of_lt n4) (by decide))
 have q3b : wrap64 (a : Int) = (a : Int) := by rw [← i64_w]; exact q3
 have q8b : wrap64 (z : Int) = (z : Int) := by rw [← i64_w]; exact q8
 have q11b : wrap64 (f : Int) = (f : Int) := by rw [← i64_w]; exact q11
 have q12 : IntKind.i64.wrap ((f : Int) + (m : Int)) = (f : Int) + (m : Int) := nat_wrap2 f m hf6
 have tm1 : decide ((m : Int) = 0) = false := decide_eq_false (fun h => Nat.pos_iff_ne_zero.1 hm (Int.ofNat_eq_zero.1 h))
 have tm3 : ((m : Int) == 0) = false := beq_eq_false_iff_ne.2 (fun h => Nat.pos_iff_ne_zero.1 hm (Int.ofNat_eq_zero.1 h))
 have tm2 : ¬ (m = 0) := Nat.pos_iff_ne_zero.1 hm
 have HB0 := q14a (Below.refl w.heap.size w)
 have HM := q14a hm
 clear h hb hI hL hU h4 hunit hwr hcat hcl hcl2 hul ha hz hf hom hy hn hs n1 n2 n3 n4 ho hf6
 go_enter Try.func147, Try.ntmps147
 go_wp2_with (first
  | (go_at_call 150; refine HWR.out.mono ?_; rintro e w1 ⟨rfl, hb1⟩; have HB1 := q14a hb1; clear hb1))
 go_loopw [8, 9] (fun vo vi wr => RdRel w wr b bad l R a z vo vi) (fun _ vi _ => z + 1 - (intOf vi).toNat)
 case atStart => exact ⟨0, a, ⟨rfl⟩, rfl, Nat.le_succ_of_le haz, ⟨fun j hj => absurd hj (Nat.not_lt_zero j)⟩, ⟨Kd.R_nil _ _ _ _ _⟩, HB1⟩
 case round =>
  clear HB1 HB0
  obtain ⟨j, i, HIJ, rfl, hiz, HOK, HR, HB⟩ := hrel
  by_cases hlt : i ≤ z
  ·
   have t0 : decide ((i : Int) ≤ (z : Int)) = true := decide_eq_true (Int.ofNat_le.2 hlt)
   have t0n : decide (i ≤ z) = true := decide_eq_true hlt
   have hnx : IntKind.i64.wrap ((i : Int) + 1) = (i : Int) + 1 := nat_wrap2 i 1 (Nat.le_trans (Nat.succ_le_succ (Nat.le_trans hlt hzb)) (by decide))
   have HIL := q14a (show i < l.length from Nat.lt_of_le_of_lt hlt hzl)
   have HJB := q14a (show a + j ≤ l.length by rw [← HIJ.out]; exact Nat.le_of_lt HIL.out)
   by_cases hk : okU b bad l R i = true
   ·
    have HK := q14a hk
    have HUNI := q14a (show ∀ W, Below w.heap.size w W → Calls Try.prog 151 #[.pointer (some ⟨g, 0, none⟩), .int .i64 (i : Int)] W fun e w' => ∃ v0, e = .returned (.tuple #[v0, .bool true]) ∧ (Kd.int .u8).R 5 w' W.heap.size (fun _ => True) v0 (R i).1 ∧ Below W.heap.size W w' from fun W hb => (HUNIT.out W hb i HIL.out).mono (fun e w' ⟨v0, he, hr, hb⟩ => ⟨v0, by rw [HK.out] at he; exact he, hr HK.out, hb⟩))
    obtain ⟨O, hO⟩ : ∃ O, O = catR R a j := ⟨_, rfl⟩
    obtain ⟨P, hP⟩ : ∃ P, P = (R i).1 := ⟨_, rfl⟩
    rw [← hO] at HR
    rw [← hP] at HUNI
    have HCJ := q14a (show catR R a (j + 1) = O ++ P by rw [hO, hP, HIJ.out]; rfl)
    have HRM := q14a (show (O.length + P.length) * 1 ≤ 140737488355328 by
     have h1 := HCL2.out j HJB.out HOK.out
     have h2 := HUL.out i HIL.out HK.out
     rw [← hO] at h1
     rw [← hP] at h2
     exact row_room h1 h2)
    have HOK2 := q14a (show okRun b bad l R a (j + 1) from fun j2 hj2 => by
     by_cases e : j2 < j
     · exact HOK.out j2 e
     ·
      obtain rfl : j2 = j := Nat.le_antisymm (Nat.lt_succ_iff.1 hj2) (Nat.not_lt.1 e)
      rw [← HIJ.out]; exact HK.out)
    have HIJ2 := q14a (show i + 1 = a + (j + 1) by rw [HIJ.out]; rfl)
    obtain ⟨AO, cO, eO⟩ := Kd.R_slice HR.out
    subst eO
    clear hO hP hk HOK HIJ
    go_wp2_with (first
     | (go_at_call 151; refine (HUNI.out _ HB.out).mono ?_; rintro e w3 ⟨v3, rfl, hv3, hb3⟩; obtain ⟨A3, d3, e3⟩ := Kd.R_slice hv3; subst e3; have HB3 := q14a (below_step HB.out hb3); have HR3 := q14a (Kd.R_below HR.out hb3); have HV3 := q14a (Kd.R_reads' hv3).2.2; clear hv3 hb3)
     | (refine Kd.R_append_rows (Kd.int .u8) (Rr := (Kd.int .u8).K w3) (w0 := w) w.heap.size rfl (.tmp 38) (.tmp 39) 22 5 (.int .u8 0) 1 rfl Try.underlying22 info5 rfl (by decide) (by decide) (.slice AO O.length cO) O P A3 P.length d3 (fun _ => True) (fun _ => False) rfl rfl HR3.out HV3.out (fun _ _ h => h) (fun _ h => h.elim) (fun _ _ => trivial) HB3.out HB3.out.size HRM.out ?_; intro v8 w8 HO8 HB8 hg8 hat8))
    go_roundw
    case rel => exact ⟨j + 1, i + 1, HIJ2, by go_num, Nat.succ_le_succ hlt, HOK2, ⟨by rw [HCJ.out]; exact HO8⟩, ⟨HB8⟩⟩
    case measure => exact meas_dec hlt
   ·
    have hkf : okU b bad l R i = false := by simpa using hk
    have HUNI := q14a (show ∀ W, Below w.heap.size w W → Calls Try.prog 151 #[.pointer (some ⟨g, 0, none⟩), .int .i64 (i : Int)] W fun e w' => ∃ v0, e = .returned (.tuple #[v0, .bool false]) ∧ Below W.heap.size W w' from fun W hb => (HUNIT.out W hb i HIL.out).mono (fun e w' ⟨v0, he, _, hb⟩ => ⟨v0, by rw [hkf] at he; exact he, hb⟩))
    have HNO := q14a (show ¬ okRun b bad l R a (z - a + 1) from fun h2 => hk (by have h3 := h2 j (in_run HIJ.out hlt haz); rw [← HIJ.out] at h3; exact h3))
    clear hk hkf HOK
    go_wp2_with (first
     | (go_at_call 151; refine (HUNI.out _ HB.out).mono ?_; rintro e w3 ⟨v3, rfl, hb3⟩; have HB3 := q14a (below_step HB.out hb3); clear hb3))
    refine bodyPost_ret (v := .tuple #[.slice none 0 0, .int .i64 19]) (by simp [results, Try.results147, go_sem]) rfl ?_
    exact ⟨(fun h2 => absurd h2 HNO.out), (fun _ => rfl), HB3.out⟩
  ·
   have t0 : decide ((i : Int) ≤ (z : Int)) = false := decide_eq_false (fun h => hlt (Int.ofNat_le.1 h))
   have t0n : ¬ (i ≤ z) := hlt
   have hjz : j = z - a + 1 := end_run HIJ.out hlt hiz haz
   subst hjz
   obtain ⟨O, hO⟩ : ∃ O, O = catR R a (z - a + 1) := ⟨_, rfl⟩
   have hc2 := HCAT.out HOK.out
   rw [← hO] at HR hc2
   have HO := q14a hO
   obtain ⟨AO, cO, eO⟩ := Kd.R_slice HR.out
   subst eO
   have hrr := Kd.R_reads' HR.out
   obtain ⟨AP, hcut, hCP⟩ := part_cut (w := w) (A0 := AO) (len := O.length) (c0 := cO) (off := f) (C := m) (b := O) hc2.1 hrr.2.1 rfl
   have HCPR := q14a (hCP _ hrr.2.2)
   have HXL := q14a (show ((O.drop f).take m).length = m by rw [List.length_take, List.length_drop]; exact cut_full hc2.1)
   obtain ⟨X, hX⟩ : ∃ X, X = (O.drop f).take m := ⟨_, rfl⟩
   rw [← hX] at HCPR HXL
   have HX := q14a hX
   have HCC := q14a (show m ≤ cO - f from Nat.le_sub_of_add_le (by rw [Nat.add_comm]; exact Nat.le_trans hc2.1 hrr.2.1))
   have HCLO := q14a (fun W (hb : Below wr.heap.size wr W) => bclone W AP (cO - f) m X HXL.out (Kd.C_below HCPR.out hb) HCC.out HM.out (Nat.le_trans hm6 (by decide)))
   clear hX hO hc2 hrr hCP hlt
   go_wp2_with (first
    | (go_at_call 152; refine (HCLO.out _ (Below.refl _ _)).mono ?_; rintro e w4 ⟨v4, rfl, hv4, hb4⟩; have HB4 := q14a (below_step HB.out hb4); have HV4 := q14a (Kd.R_lower hv4 HB.out.size); clear hv4 hb4))
   refine bodyPost_ret (v := .tuple #[v4, .int .i64 0]) (by simp [results, Try.results147, go_sem]) rfl ?_
   exact ⟨(fun _ => ⟨v4, rfl, by rw [← HO.out, ← HX.out]; exact HV4.out⟩), (fun h2 => absurd HOK.out h2), HB4.out⟩
end Go.Proofs.Ytgkjkhhppmnajaa.Pure
