/- Packed layers: a unit. No condition. -/
import Derived.Test.YtgkjkhhppmnajaaZPurePackOpensH
import Derived.Lib.Bytes
import Derived.Lib.Repeat
import Derived.Lib.EndianBits
namespace Go.Proofs.Ytgkjkhhppmnajaa.Pure
open Go.Proofs.Ytgkjkhhppmnajaa.SumPlain Go.Maps
open Go Go.RowKit Go.Proofs.Ytgkjkhhppmnajaa.QPackOpens Go.Proofs.YtgkjkhhppmnajaaW.PrintWords Go.Proofs.YtgkjkhhppmnajaaW.PrintLast Go.Proofs.YtgkjkhhppmnajaaW.PrintMore
set_option linter.unusedVariables false
set_option linter.unusedSimpArgs false
theorem q13I : type_of% @List.setIfInBounds_toArray := @List.setIfInBounds_toArray
theorem q130 : type_of% @List.set_cons_zero := @List.set_cons_zero
theorem q131 : type_of% @List.set_cons_succ := @List.set_cons_succ
theorem q13t : type_of% @decide_eq_true := @decide_eq_true
theorem q13P : type_of% @pw_cell_below := @pw_cell_below
theorem q13S : type_of% @below_step := @below_step
theorem q13a : type_of% @Aside0.mk := @Aside0.mk
theorem cut_four {A : Option Addr} {c m : Nat} {row : List Int} (h4 : 4 ≤ m) (hc : m ≤ c) (hl : row.length = m) : ∃ AT, (∀ W : World, (Instr.slice 22 (.slice A m c) (some (.int .i64 4)) none none).run Try.prog W = .ok (.slice AT (m - 4) (c - 4)) W) ∧ ∀ W : World, Kd.C (Kd.int .u8) W A m row → Kd.C (Kd.int .u8) W AT (m - 4) (row.drop 4) := by
 obtain ⟨i5, hi5, hy5⟩ := Option.map_eq_some_iff.1 info5
 simp only [Prod.mk.injEq] at hy5
 refine ⟨if c = 4 then A else A.map (·.add (4 * 1)), fun W => ?_, fun W hC => ?_⟩
 · exact cut_from (P := Try.prog) 22 5 .i64 Try.underlying22 hi5 1 hy5.2.1 A m c 4 (by decide) (by omega) W
 ·
  have hC2 : Kd.C (Kd.int .u8) W A row.length row := by rw [hl]; exact hC
  have h1 := Kd.C_mid (lo := 4) (hi := m) (c := c) hC2 (by omega) (by omega) (by omega)
  rw [show (row.take m).drop 4 = row.drop 4 by rw [List.take_of_length_le (by omega)]] at h1
  rw [show (row.drop 4).length = m - 4 by rw [List.length_drop, hl]] at h1
  exact h1
theorem cut_head {A : Option Addr} {c m : Nat} {row : List Int} (h4 : 4 ≤ m) (hc : m ≤ c) (hl : row.length = m) : (∀ W : World, (Instr.slice 22 (.slice A m c) none (some (.int .i64 4)) none).run Try.prog W = .ok (.slice A 4 c) W) ∧ ∀ W : World, Kd.C (Kd.int .u8) W A m row → Kd.C (Kd.int .u8) W A 4 (row.take 4) := by
 obtain ⟨i5, hi5, hy5⟩ := Option.map_eq_some_iff.1 info5
 simp only [Prod.mk.injEq] at hy5
 refine ⟨cut_to (P := Try.prog) 22 5 .i64 Try.underlying22 hi5 A m c 4 (by decide) (by omega) hc, fun W hC => ?_⟩
 have hC2 : Kd.C (Kd.int .u8) W A row.length row := by rw [hl]; exact hC
 have h1 := Kd.C_take (m := 4) hC2 (by omega)
 rw [show (row.take 4).length = 4 by rw [List.length_take]; omega] at h1
 exact h1
theorem up_at (W : World) (A : Option Addr) (c n : Nat) (t : List Int) (mn : Int) (r : List Int × Int) (hl : t.length = n) (hC : Kd.C (Kd.int .u8) W A n t) (hc : n ≤ c) (h : Ev (fun k => pack_Unpack.f k t mn) r) :
  Calls Try.prog 37 #[.slice A n c, .int .i64 mn] W fun e w' => ∃ v0, e = .returned (.tuple #[v0, .int .i64 r.2]) ∧ (Kd.int .u8).R 5 w' W.heap.size (fun _ => True) v0 r.1 ∧ Below W.heap.size W w' := by
 subst hl
 obtain ⟨k, hk⟩ := h.rounds
 refine (pack_Unpack.calls k (fun _ => True) A c t mn r.1 r.2 W (Kd.V_mk hc (F_of_C hC)) hk).mono ?_
 rintro e w' ⟨v0, rfl, hv, hb⟩
 exact ⟨v0, rfl, Kd.R_mono hv (fun _ _ => trivial), hb⟩
/-- what the units' bytes unpack to -/
structure UN (b : List Int) (bad : List Bool) (size : Nat) (l : List S45) (R : Nat → List Int × Int) : Prop where
 ev : ∀ i, i < l.length → readErr b.length bad (rd_T45 l (i : Int)).f0 (rd_T45 l (i : Int)).f1 = 0 →
  okR (min 256 ((size : Int) - (i : Int) * 256)) (R i) ∧ Ev (fun k => pack_Unpack.f k ((readRow b bad (rd_T45 l (i : Int)).f0 (rd_T45 l (i : Int)).f1).drop 4) (min 256 ((size : Int) - (i : Int) * 256))) (R i) ∧
  Ev (fun k => wrackref1_Tokens.f k (strOfNums ((readRow b bad (rd_T45 l (i : Int)).f0 (rd_T45 l (i : Int)).f1).drop 4)) (min 256 ((size : Int) - (i : Int) * 256))) (strOfNums (R i).1, (R i).2)
theorem un_of (b : List Int) (bad : List Bool) (size : Nat) (l : List S45) (hb : Bytes b) (hn : b.length ≤ 65536) : ∃ R, UN b bad size l R := by
 have h : ∀ i : Nat, ∃ r : List Int × Int, okR (min 256 ((size : Int) - (i : Int) * 256)) r ∧ Ev (fun k => pack_Unpack.f k ((readRow b bad (rd_T45 l (i : Int)).f0 (rd_T45 l (i : Int)).f1).drop 4) (min 256 ((size : Int) - (i : Int) * 256))) r ∧
   Ev (fun k => wrackref1_Tokens.f k (strOfNums ((readRow b bad (rd_T45 l (i : Int)).f0 (rd_T45 l (i : Int)).f1).drop 4)) (min 256 ((size : Int) - (i : Int) * 256))) (strOfNums r.1, r.2) := fun i => by
  refine all_both _ _ ?_ (b_dr ?_ 4)
  ·
   unfold readRow
   split
   · rw [List.length_drop, List.length_take, List.length_drop]; omega
   · simp
  ·
   unfold readRow
   split
   · exact b_cut hb _ _
   · intro y hy; simp at hy
 obtain ⟨R, hR⟩ := Classical.skolem.1 h
 exact ⟨R, ⟨fun i _ _ => hR i⟩⟩
/-- whether a unit is right -/
def okU (b : List Int) (bad : List Bool) (l : List S45) (R : Nat → List Int × Int) (i : Nat) : Bool :=
 decide (readErr b.length bad (rd_T45 l (i : Int)).f0 (rd_T45 l (i : Int)).f1 = 0 ∧ (R i).2 = 0 ∧ crcOf (R i).1 = leN ((readRow b bad (rd_T45 l (i : Int)).f0 (rd_T45 l (i : Int)).f1).take 4))
theorem lay_size (w : World) (g T : Nat) (x : Value) (size : Nat) (A : Option Addr) (c : Nat) (l : List S45) (h : IsLay w g T x size A c l) :
  Calls Try.prog 149 #[.pointer (some ⟨g, 0, none⟩)] w fun e w' => e = .returned (.int .i64 (size : Int)) ∧ Below w.heap.size w w' := by
 have c1 : w.cell? ⟨g, 1, none⟩ = some (.int .i64 (size : Int)) := (blk_cell h.blk 1).trans rfl
 clear h
 go_enter Try.func149, Try.ntmps149
 go_wp2
 go_ret
 exact ⟨rfl, Below.refl _ _⟩
theorem lay_plain (w : World) (v : Value) :
  Calls Try.prog 146 #[v] w fun e w' => e = .returned (.bool false) ∧ Below w.heap.size w w' := by
 go_enter Try.func146, Try.ntmps146
 go_wp2
 go_ret
 exact ⟨rfl, Below.refl _ _⟩
set_option maxHeartbeats 4000000 in
theorem lay_wrong (w : World) (g T : Nat) (x : Value) (size : Nat) (A : Option Addr) (c : Nat) (l : List S45) (h : IsLay w g T x size A c l) (hs : size ≤ 65536) (off n : Int) :
  Calls Try.prog 150 #[.pointer (some ⟨g, 0, none⟩), .int .i64 off, .int .i64 n] w fun e w' => e = .returned (.bool (decide (¬ inR (size : Int) off n))) ∧ Below w.heap.size w w' := by
 have c1 : w.cell? ⟨g, 1, none⟩ = some (.int .i64 (size : Int)) := (blk_cell h.blk 1).trans rfl
 clear h
 by_cases d0 : off < 0
 ·
  rw [q13t (show ¬ inR (size : Int) off n from fun h => by have := h.1; omega)]
  have t0 := q13t d0
  clear d0
  go_enter Try.func150, Try.ntmps150
  go_wp2
  go_ret
  exact ⟨rfl, Below.refl _ _⟩
 ·
  have t0 := decide_eq_false d0
  by_cases d1 : n < 0
  ·
   rw [q13t (show ¬ inR (size : Int) off n from fun h => by have := h.2.1; omega)]
   have t1 := q13t d1
   clear d0 d1
   go_enter Try.func150, Try.ntmps150
   go_wp2
   go_ret
   exact ⟨rfl, Below.refl _ _⟩
  ·
   have t1 := decide_eq_false d1
   by_cases d2 : (size : Int) < n
   ·
    rw [q13t (show ¬ inR (size : Int) off n from fun h => by have := h.2.2; have := h.1; omega)]
    have t2 := q13t d2
    clear d0 d1 d2
    go_enter Try.func150, Try.ntmps150
    go_wp2
    go_ret
    exact ⟨rfl, Below.refl _ _⟩
   ·
    have t2 := decide_eq_false d2
    have hws : IntKind.i64.wrap ((size : Int) - n) = (size : Int) - n := by rw [i64_w]; unfold wrap64; omega
    have e : decide (¬ inR (size : Int) off n) = decide ((size : Int) - n < off) := decide_eq_decide.2 ⟨fun h => Classical.byContradiction fun h2 => h ⟨by omega, by omega, by omega⟩, fun h h2 => by have := h2.2.2; omega⟩
    rw [e]
    clear d0 d1 d2 e
    go_enter Try.func150, Try.ntmps150
    go_wp2
    go_ret
    exact ⟨rfl, Below.refl _ _⟩
set_option maxHeartbeats 16000000 in
set_option maxRecDepth 100000 in
/-- a unit's bytes -/
theorem unit_calls (w : World) (g T : Nat) (x : Value) (fR fO fS fP : Nat) (b fr : List Int) (bad : List Bool) (h : SrcIs w T x fR fO fS fP b fr bad) (hb : Bytes b) (hn : b.length ≤ 65536) (size : Nat) (A : Option Addr) (c : Nat) (l : List S45) (hI0 : IsLay w g T x size A c l) (hs : size ≤ 65536) (hl : l.length ≤ 65536) (R : Nat → List Int × Int) (hU : UN b bad size l R) (h4 : ∀ y ∈ l, 4 ≤ y.f1) (i : Nat) (hi : i < l.length) :
  Calls Try.prog 151 #[.pointer (some ⟨g, 0, none⟩), .int .i64 (i : Int)] w fun e w' => ∃ v0, e = .returned (.tuple #[v0, .bool (okU b bad l R i)]) ∧ (okU b bad l R i = true → (Kd.int .u8).R 5 w' w.heap.size (fun _ => True) v0 (R i).1) ∧ Below w.heap.size w w' := by
 have hlti : (i : Int) < (l.length : Int) := by omega
 obtain ⟨ad, rfl, e0, e1⟩ := at_T45 hI0.rl (i : Int) (by omega) hlti
 rw [Int.toNat_natCast] at e0 e1
 have hU2 := hU.ev i hi
 have hy := h4 (rd_T45 l (i : Int)) (rd_mem l i hi)
 unfold okU
 obtain ⟨f0, hf0⟩ : ∃ f, f = (rd_T45 l (i : Int)).f0 := ⟨_, rfl⟩
 obtain ⟨f1, hf1⟩ : ∃ f, f = (rd_T45 l (i : Int)).f1 := ⟨_, rfl⟩
 obtain ⟨r, hr⟩ : ∃ r, r = R i := ⟨_, rfl⟩
 rw [← hf0] at e0
 rw [← hf1] at e1 hy
 rw [← hf0, ← hf1, ← hr] at hU2 ⊢
 obtain ⟨r1, r2⟩ := r
 simp only at hU2 ⊢
 have hI := q13a hI0
 have hread := fun W (hb : Below w.heap.size w W) => (h.ans W hb).read f0 f1
 have hmR := q13a h.mR
 have hRa := h.mR.ahead
 have hlt2 : decide ((i : Int) < (l.length : Int)) = true := q13t hlti
 have hlt3 : decide (i < l.length) = true := q13t hi
 by_cases e : readErr b.length bad f0 f1 = 0
 ·
  obtain ⟨hok, hev, hev2⟩ := hU2 e
  rw [e] at hread
  have hR := Classical.byContradiction fun hR2 : ¬ inR b.length f0 f1 => by unfold readErr at e; rw [if_neg hR2] at e; exact absurd e (by decide)
  obtain ⟨row, hrow⟩ : ∃ q, q = readRow b bad f0 f1 := ⟨_, rfl⟩
  rw [← hrow] at hread hev ⊢
  have hrl : row.length = f1.toNat := by
   rw [hrow]; unfold readRow; rw [if_pos e, List.length_take, List.length_drop]
   have := hR.1; have := hR.2.1; have := hR.2.2; omega
  have hrB : Bytes row := by
   rw [hrow]; unfold readRow; rw [if_pos e]; exact b_cut hb _ _
  obtain ⟨m, hm⟩ : ∃ m, m = f1.toNat := ⟨_, rfl⟩
  rw [← hm] at hrl
  have hm4 : 4 ≤ m := by omega
  have hm6 : m ≤ 65536 := by have := hR.1; have := hR.2.2; omega
  obtain ⟨mn, hmn⟩ : ∃ q, q = min 256 ((size : Int) - (i : Int) * 256) := ⟨_, rfl⟩
  rw [← hmn] at hok hev
  have HREAD := q13a hread
  have HE := q13a e
  have HUP := q13a hev
  have HRB := q13a hok.1
  have HRL := q13a (show r1.length ≤ 140737488351232 by have h9 : r1.length ≤ 256 := hok.2.2; omega)
  have HROW := q13a hrl
  have HTL := q13a (show (row.drop 4).length = m - 4 by rw [List.length_drop, hrl])
  have HR4 := q13a (show (row.take 4).length = 4 by rw [List.length_take, hrl]; omega)
  have HRB4 := q13a (b_tk hrB 4)
  obtain ⟨q, hq⟩ : ∃ q, leN (row.take 4) = q := ⟨_, rfl⟩
  obtain ⟨cr, hcr⟩ : ∃ q, crcOf r1 = q := ⟨_, rfl⟩
  have HQ := q13a hq
  have HCR := q13a hcr
  rw [hq, hcr]
  obtain ⟨o, ho⟩ : ∃ o, o = (i : Int) * 256 := ⟨_, rfl⟩
  have ho2 : 0 ≤ o ∧ o ≤ 16777216 := by omega
  have hw1 : IntKind.i64.wrap ((i : Int) * 256) = o := by rw [i64_w, ← ho]; unfold wrap64; omega
  have hw1b : wrap64 ((i : Int) * 256) = o := by rw [← ho]; unfold wrap64; omega
  rw [← ho] at hmn
  obtain ⟨Y, hY⟩ : ∃ Y, Y = (size : Int) - o := ⟨_, rfl⟩
  have hw2 : IntKind.i64.wrap ((size : Int) - o) = Y := by rw [i64_w, ← hY]; unfold wrap64; omega
  have hw2b : wrap64 ((size : Int) - o) = Y := by rw [← hY]; unfold wrap64; omega
  rw [← hY] at hmn
  have hx1 : min 256 Y = mn := hmn.symm
  have hx2 : (if Y < 256 then Y else 256) = mn := by rw [hmn]; split <;> omega
  have hx3 : (if (256 : Int) < Y then 256 else Y) = mn := by rw [hmn]; split <;> omega
  clear h hI0 hread hU2 hy hU h4 hr hf0 hf1 hrow hm hmn hok hev hev2 hR e hrl hrB hq hcr ho ho2 hY hb hn hl
  by_cases hr2 : r2 = 0
  ·
   subst hr2
   by_cases hcq : cr = q
   ·
    rw [q13t ⟨HE.out, rfl, hcq⟩]
    have tq1 : (cr == q) = true := by simpa using hcq
    have tq2 : decide (cr = q) = true := q13t hcq
    have HCQ := q13a hcq
    clear hcq
    go_enter Try.func151, Try.ntmps151
    go_wp2
    have HBD := q13a (below_drew (Below.refl w.heap.size w))
    have y0_ : w.drew.cell? ⟨g, 0, none⟩ = some (.iface T x) := (blk_cell (blk_drew hI.out.blk) 0).trans rfl
    have y1_ : w.drew.cell? ⟨g, 2, none⟩ = some (.slice (some ad) l.length c) := (blk_cell (blk_drew hI.out.blk) 2).trans rfl
    have y2_ : w.drew.cell? (ad.add (i * 2)) = some (.int .i64 f0) := q13P (below_drew (Below.refl w.heap.size w)) e0
    have y3_ : w.drew.cell? ⟨(ad.add (i * 2)).block, (ad.add (i * 2)).off + 1, none⟩ = some (.int .i64 f1) := q13P (below_drew (Below.refl w.heap.size w)) e1
    refine start_ (n := 28) (S := fun w' => w'.cell? ⟨g, 0, none⟩ = some (.iface T x) ∧ w'.cell? ⟨g, 2, none⟩ = some (.slice (some ad) l.length c) ∧ w'.cell? (ad.add (i * 2)) = some (.int .i64 f0) ∧ w'.cell? ⟨(ad.add (i * 2)).block, (ad.add (i * 2)).off + 1, none⟩ = some (.int .i64 f1)) (ds := []) #[false,false,false,false,false,false,false,false,false,false,false,false,false,false,false,false,false,false,false,false,false,false,false,false,false,false,false,false] (by kernel_rfl) rfl rfl ⟨y0_, y1_, y2_, y3_⟩ (fun hHeld => ?_)
    generalize w.drew = wD at y0_ y1_ y2_ y3_ HBD hHeld ⊢
    refine pure_ (i:=0) (N:=some 10) (v:=?_) (a':=?_) #[true,false,false,false,false,false,false,false,false,false,false,false,false,false,false,false,false,false,false,false,false,false,false,false,false,false,false,false] rfl rfl (by kernel_rfl) (fun _ _ _ h => h) (Or.inl ⟨by rfl, ?_⟩) ?_ ?_
    rotate_left
    ·
     intro w'
     go_simp
     with_reducible rfl
    rotate_left
    ·
     simp only [Act.put, q13I, q130, q131, i64_w, i32_w]
     rfl
    refine pure_ (i:=1) (N:=some 11) (v:=?_) (a':=?_) #[true,true,false,false,false,false,false,false,false,false,false,false,false,false,false,false,false,false,false,false,false,false,false,false,false,false,false,false] rfl rfl (by kernel_rfl) (fun _ _ _ h => h) (Or.inl ⟨by rfl, ?_⟩) ?_ ?_
    rotate_left
    ·
     intro w'
     go_simp
     with_reducible rfl
    rotate_left
    ·
     simp only [Act.put, q13I, q130, q131, i64_w, i32_w]
     rfl
    refine pure_ (i:=2) (N:=some 12) (v:=?_) (a':=?_) #[true,true,true,false,false,false,false,false,false,false,false,false,false,false,false,false,false,false,false,false,false,false,false,false,false,false,false,false] rfl rfl (by kernel_rfl) (fun _ _ _ h => h) (Or.inl ⟨by rfl, ?_⟩) ?_ ?_
    rotate_left
    ·
     intro w'
     go_simp
     with_reducible rfl
    rotate_left
    ·
     simp only [Act.put, q13I, q130, q131, i64_w, i32_w]
     rfl
    refine pure_ (i:=4) (N:=some 14) (v:=?_) (a':=?_) #[true,true,true,false,true,false,false,false,false,false,false,false,false,false,false,false,false,false,false,false,false,false,false,false,false,false,false,false] rfl rfl (by kernel_rfl) (fun _ _ _ h => h) (Or.inl ⟨by rfl, ?_⟩) ?_ ?_
    rotate_left
    ·
     intro w'
     go_simp
     with_reducible rfl
    rotate_left
    ·
     simp only [Act.put, q13I, q130, q131, i64_w, i32_w]
     rfl
    refine pure_ (i:=5) (N:=some 15) (v:=?_) (a':=?_) #[true,true,true,false,true,true,false,false,false,false,false,false,false,false,false,false,false,false,false,false,false,false,false,false,false,false,false,false] rfl rfl (by kernel_rfl) (fun _ _ _ h => h) (Or.inl ⟨by rfl, ?_⟩) ?_ ?_
    rotate_left
    ·
     intro w'
     go_simp
     with_reducible rfl
    rotate_left
    ·
     simp only [Act.put, q13I, q130, q131, i64_w, i32_w]
     rfl
    refine pure_ (i:=6) (N:=some 16) (v:=?_) (a':=?_) #[true,true,true,false,true,true,true,false,false,false,false,false,false,false,false,false,false,false,false,false,false,false,false,false,false,false,false,false] rfl rfl (by kernel_rfl) (fun _ _ _ h => h) (Or.inl ⟨by rfl, ?_⟩) ?_ ?_
    rotate_left
    ·
     intro w'
     go_simp
     with_reducible rfl
    rotate_left
    ·
     simp only [Act.put, q13I, q130, q131, i64_w, i32_w]
     rfl
    refine pure_ (i:=8) (N:=some 18) (v:=?_) (a':=?_) #[true,true,true,false,true,true,true,false,true,false,false,false,false,false,false,false,false,false,false,false,false,false,false,false,false,false,false,false] rfl rfl (by kernel_rfl) (fun _ _ _ h => h) (Or.inl ⟨by rfl, ?_⟩) ?_ ?_
    rotate_left
    ·
     intro w'
     go_simp
     with_reducible rfl
    rotate_left
    ·
     simp only [Act.put, q13I, q130, q131, i64_w, i32_w]
     rfl
    refine pure_ (i:=12) (N:=some 22) (v:=?_) (a':=?_) #[true,true,true,false,true,true,true,false,true,false,false,false,true,false,false,false,false,false,false,false,false,false,false,false,false,false,false,false] rfl rfl (by kernel_rfl) (fun _ _ _ h => h) (Or.inl ⟨by rfl, ?_⟩) ?_ ?_
    rotate_left
    ·
     intro w'
     go_simp
     with_reducible rfl
    rotate_left
    ·
     simp only [Act.put, q13I, q130, q131, i64_w, i32_w]
     rfl
    refine pure_ (i:=13) (N:=some 23) (v:=?_) (a':=?_) #[true,true,true,false,true,true,true,false,true,false,false,false,true,true,false,false,false,false,false,false,false,false,false,false,false,false,false,false] rfl rfl (by kernel_rfl) (fun _ _ _ h => h) (Or.inl ⟨by rfl, ?_⟩) ?_ ?_
    rotate_left
    ·
     intro w'
     go_simp
     with_reducible rfl
    rotate_left
    ·
     simp only [Act.put, q13I, q130, q131, i64_w, i32_w]
     rfl
    refine pure_ (i:=14) (N:=some 24) (v:=?_) (a':=?_) #[true,true,true,false,true,true,true,false,true,false,false,false,true,true,true,false,false,false,false,false,false,false,false,false,false,false,false,false] rfl rfl (by kernel_rfl) (fun _ _ _ h => h) (Or.inl ⟨by rfl, ?_⟩) ?_ ?_
    rotate_left
    ·
     intro w'
     go_simp
     with_reducible rfl
    rotate_left
    ·
     simp only [Act.put, q13I, q130, q131, i64_w, i32_w]
     rfl
    refine pure_ (i:=16) (N:=some 26) (v:=?_) (a':=?_) #[true,true,true,false,true,true,true,false,true,false,false,false,true,true,true,false,true,false,false,false,false,false,false,false,false,false,false,false] rfl rfl (by kernel_rfl) (fun _ _ _ h => h) (Or.inl ⟨by rfl, ?_⟩) ?_ ?_
    rotate_left
    ·
     intro w'
     go_simp
     with_reducible rfl
    rotate_left
    ·
     simp only [Act.put, q13I, q130, q131, i64_w, i32_w]
     rfl
    refine take_ (i:=3) (N:=some 13) (v:=?_) (a':=?_) #[true,true,true,true,true,true,true,false,true,false,false,false,true,true,true,false,true,false,false,false,false,false,false,false,false,false,false,false] rfl rfl (by kernel_rfl) (fun _ _ _ h => h) (Or.inl ⟨by rfl, ?_⟩) hHeld ?_ ?_
    rotate_left
    ·
     rintro w' ⟨s0, s1, s2, s3⟩
     go_simp
     with_reducible rfl
    rotate_left
    ·
     simp only [Act.put, q13I, q130, q131, i64_w, i32_w]
     rfl
    refine pure_ (i:=20) (N:=some 30) (v:=?_) (a':=?_) #[true,true,true,true,true,true,true,false,true,false,false,false,true,true,true,false,true,false,false,false,true,false,false,false,false,false,false,false] rfl rfl (by kernel_rfl) (fun _ _ _ h => h) (Or.inl ⟨by rfl, ?_⟩) ?_ ?_
    rotate_left
    ·
     intro w'
     go_simp
     with_reducible rfl
    rotate_left
    ·
     simp only [Act.put, q13I, q130, q131, i64_w, i32_w]
     rfl
    refine pure_ (i:=21) (N:=some 31) (v:=?_) (a':=?_) #[true,true,true,true,true,true,true,false,true,false,false,false,true,true,true,false,true,false,false,false,true,true,false,false,false,false,false,false] rfl rfl (by kernel_rfl) (fun _ _ _ h => h) (Or.inl ⟨by rfl, ?_⟩) ?_ ?_
    rotate_left
    ·
     intro w'
     go_simp
     with_reducible rfl
    rotate_left
    ·
     simp only [Act.put, q13I, q130, q131, i64_w, i32_w]
     rfl
    refine take_ (i:=7) (N:=some 17) (v:=?_) (a':=?_) #[true,true,true,true,true,true,true,true,true,false,false,false,true,true,true,false,true,false,false,false,true,true,false,false,false,false,false,false] rfl rfl (by kernel_rfl) (fun _ _ _ h => h) (Or.inl ⟨by rfl, ?_⟩) hHeld ?_ ?_
    rotate_left
    ·
     rintro w' ⟨s0, s1, s2, s3⟩
     go_simp
     with_reducible rfl
    rotate_left
    ·
     simp only [Act.put, q13I, q130, q131, i64_w, i32_w]
     rfl
    refine pure_ (i:=9) (N:=some 19) (v:=?_) (a':=?_) #[true,true,true,true,true,true,true,true,true,true,false,false,true,true,true,false,true,false,false,false,true,true,false,false,false,false,false,false] rfl rfl (by kernel_rfl) (fun _ _ _ h => h) (Or.inl ⟨by rfl, ?_⟩) ?_ ?_
    rotate_left
    ·
     intro w'
     go_simp
     with_reducible rfl
    rotate_left
    ·
     simp only [Act.put, q13I, q130, q131, i64_w, i32_w]
     rfl
    refine pure_ (i:=10) (N:=some 20) (v:=?_) (a':=?_) #[true,true,true,true,true,true,true,true,true,true,true,false,true,true,true,false,true,false,false,false,true,true,false,false,false,false,false,false] rfl rfl (by kernel_rfl) (fun _ _ _ h => h) (Or.inl ⟨by rfl, ?_⟩) ?_ ?_
    rotate_left
    ·
     intro w'
     go_simp
     with_reducible rfl
    rotate_left
    ·
     simp only [Act.put, q13I, q130, q131, i64_w, i32_w]
     rfl
    refine take_ (i:=11) (N:=some 21) (v:=?_) (a':=?_) #[true,true,true,true,true,true,true,true,true,true,true,true,true,true,true,false,true,false,false,false,true,true,false,false,false,false,false,false] rfl rfl (by kernel_rfl) (fun _ _ _ h => h) (Or.inl ⟨by rfl, ?_⟩) hHeld ?_ ?_
    rotate_left
    ·
     rintro w' ⟨s0, s1, s2, s3⟩
     go_simp
     with_reducible rfl
    rotate_left
    ·
     simp only [Act.put, q13I, q130, q131, i64_w, i32_w]
     rfl
    refine take_ (i:=15) (N:=some 25) (v:=?_) (a':=?_) #[true,true,true,true,true,true,true,true,true,true,true,true,true,true,true,true,true,false,false,false,true,true,false,false,false,false,false,false] rfl rfl (by kernel_rfl) (fun _ _ _ h => h) (Or.inl ⟨by rfl, ?_⟩) hHeld ?_ ?_
    rotate_left
    ·
     rintro w' ⟨s0, s1, s2, s3⟩
     go_simp
     with_reducible rfl
    rotate_left
    ·
     simp only [Act.put, q13I, q130, q131, i64_w, i32_w]
     rfl
    refine pure_ (i:=17) (N:=some 27) (v:=?_) (a':=?_) #[true,true,true,true,true,true,true,true,true,true,true,true,true,true,true,true,true,true,false,false,true,true,false,false,false,false,false,false] rfl rfl (by kernel_rfl) (fun _ _ _ h => h) (Or.inl ⟨by rfl, ?_⟩) ?_ ?_
    rotate_left
    ·
     intro w'
     go_simp
     with_reducible rfl
    rotate_left
    ·
     simp only [Act.put, q13I, q130, q131, i64_w, i32_w]
     rfl
    refine pure_ (i:=18) (N:=some 28) (v:=?_) (a':=?_) #[true,true,true,true,true,true,true,true,true,true,true,true,true,true,true,true,true,true,true,false,true,true,false,false,false,false,false,false] rfl rfl (by kernel_rfl) (fun _ _ _ h => h) (Or.inl ⟨by rfl, ?_⟩) ?_ ?_
    rotate_left
    ·
     intro w'
     go_simp
     with_reducible rfl
    rotate_left
    ·
     simp only [Act.put, q13I, q130, q131, i64_w, i32_w]
     rfl
    refine take_ (i:=19) (N:=some 29) (v:=?_) (a':=?_) #[true,true,true,true,true,true,true,true,true,true,true,true,true,true,true,true,true,true,true,true,true,true,false,false,false,false,false,false] rfl rfl (by kernel_rfl) (fun _ _ _ h => h) (Or.inl ⟨by rfl, ?_⟩) hHeld ?_ ?_
    rotate_left
    ·
     rintro w' ⟨s0, s1, s2, s3⟩
     go_simp
     with_reducible rfl
    rotate_left
    ·
     simp only [Act.put, q13I, q130, q131, i64_w, i32_w]
     rfl
    refine one_ (i:=22) (N:=some 32) #[true,true,true,true,true,true,true,true,true,true,true,true,true,true,true,true,true,true,true,true,true,true,true,false,false,false,false,false] rfl rfl (by kernel_rfl) (by decide) (fun K hK => ?_)
    refine call_ fR #[x, .int .i64 f0, .int .i64 f1] (by rfl) rfl ?_ ?_
    ·
     unfold execOp
     simp [resolve, Deferred.ofValue, invoke, callMethod, Act.eval]
     rw [show 199 + Made.depth = 299 from rfl, hmR.out.run]
     exact hmR.out.ent _ _
    with_reducible refine (HREAD.out _ HBD.out).mono ?_
    rintro e w3 ⟨v3, rfl, hv3, hb3⟩
    refine ⟨_, rfl, ?_⟩
    refine hK.out _ _ ⟨q13P hb3 y0_, q13P hb3 y1_, q13P hb3 y2_, q13P hb3 y3_⟩ (fun hHeld => ?_)
    clear hK K
    refine norm_ (a' := ?_) ?_ ?_
    rotate_left
    ·
     show Act.put _ (some 32) _ = _
     simp only [Act.put, q13I, q130, q131, i64_w, i32_w]
     rfl
    refine pure_ (i:=23) (N:=some 9) (v:=?_) (a':=?_) #[true,true,true,true,true,true,true,true,true,true,true,true,true,true,true,true,true,true,true,true,true,true,true,true,false,false,false,false] rfl rfl (by kernel_rfl) (fun _ _ _ h => h) (Or.inl ⟨by rfl, ?_⟩) ?_ ?_
    rotate_left
    ·
     intro w'
     go_simp
     with_reducible rfl
    rotate_left
    ·
     simp only [Act.put, q13I, q130, q131, i64_w, i32_w]
     rfl
    refine pure_ (i:=24) (N:=some 33) (v:=?_) (a':=?_) #[true,true,true,true,true,true,true,true,true,true,true,true,true,true,true,true,true,true,true,true,true,true,true,true,true,false,false,false] rfl rfl (by kernel_rfl) (fun _ _ _ h => h) (Or.inl ⟨by rfl, ?_⟩) ?_ ?_
    rotate_left
    ·
     intro w'
     go_simp
     with_reducible rfl
    rotate_left
    ·
     simp only [Act.put, q13I, q130, q131, i64_w, i32_w]
     rfl
    refine pure_ (i:=25) (N:=some 34) (v:=?_) (a':=?_) #[true,true,true,true,true,true,true,true,true,true,true,true,true,true,true,true,true,true,true,true,true,true,true,true,true,true,false,false] rfl rfl (by kernel_rfl) (fun _ _ _ h => h) (Or.inl ⟨by rfl, ?_⟩) ?_ ?_
    rotate_left
    ·
     intro w'
     go_simp
     with_reducible rfl
    rotate_left
    ·
     simp only [Act.put, q13I, q130, q131, i64_w, i32_w]
     rfl
    refine pure_ (i:=26) (N:=some 6) (v:=?_) (a':=?_) #[true,true,true,true,true,true,true,true,true,true,true,true,true,true,true,true,true,true,true,true,true,true,true,true,true,true,true,false] rfl rfl (by kernel_rfl) (fun _ _ _ h => h) (Or.inl ⟨by rfl, ?_⟩) ?_ ?_
    rotate_left
    ·
     intro w'
     go_simp
     with_reducible rfl
    rotate_left
    ·
     simp only [Act.put, q13I, q130, q131, i64_w, i32_w]
     rfl
    refine pure_ (i:=27) (N:=some 7) (v:=?_) (a':=?_) #[true,true,true,true,true,true,true,true,true,true,true,true,true,true,true,true,true,true,true,true,true,true,true,true,true,true,true,true] rfl rfl (by kernel_rfl) (fun _ _ _ h => h) (Or.inl ⟨by rfl, ?_⟩) ?_ ?_
    rotate_left
    ·
     intro w'
     go_simp
     with_reducible rfl
    rotate_left
    ·
     simp only [Act.put, q13I, q130, q131, i64_w, i32_w]
     rfl
    refine done_ (by kernel_rfl) ?_
    have HB3 := q13a (q13S HBD.out hb3)
    obtain ⟨AB, cB, eB⟩ := Kd.R_slice hv3
    rw [HROW.out] at eB
    subst eB
    have hVX := Kd.R_reads' hv3
    rw [HROW.out] at hVX
    have HV3 := q13a hVX.2.2
    have HC4 := q13a (show 4 ≤ cB from Nat.le_trans hm4 hVX.2.1)
    have HTC := q13a (show m - 4 ≤ cB - 4 by have := hVX.2.1; omega)
    have hI3 := q13a (hI.out.below (q13S HBD.out hb3))
    obtain ⟨AT, hct, hCT⟩ := cut_four (A := AB) hm4 hVX.2.1 HROW.out
    replace hCT := q13a hCT
    obtain ⟨hc4, hCR4⟩ := cut_head (A := AB) hm4 hVX.2.1 HROW.out
    replace hCR4 := q13a hCR4
    clear HBD hb3 hv3 y0_ y1_ y2_ y3_ hHeld hVX hI
    go_wp2
    have HXD := q13a (below_drew (Below.refl w3.heap.size w3))
    have z0_ : w3.drew.cell? ⟨g, 1, none⟩ = some (.int .i64 (size : Int)) := (blk_cell (blk_drew hI3.out.blk) 1).trans rfl
    refine start_ (n := 16) (S := fun w' => w'.cell? ⟨g, 1, none⟩ = some (.int .i64 (size : Int))) (ds := []) #[false,false,false,false,false,false,false,false,false,false,false,false,false,false,false,false] (by kernel_rfl) rfl rfl (z0_) (fun hHeld => ?_)
    generalize w3.drew = wE at z0_ HXD hHeld ⊢
    refine pure_ (i:=0) (N:=some 38) (v:=?_) (a':=?_) #[true,false,false,false,false,false,false,false,false,false,false,false,false,false,false,false] rfl rfl (by kernel_rfl) (fun _ _ _ h => h) (Or.inl ⟨by rfl, ?_⟩) ?_ ?_
    rotate_left
    ·
     intro w'
     go_simp
     with_reducible rfl
    rotate_left
    ·
     simp only [Act.put, q13I, q130, q131, i64_w, i32_w]
     rfl
    refine pure_ (i:=1) (N:=some 39) (v:=?_) (a':=?_) #[true,true,false,false,false,false,false,false,false,false,false,false,false,false,false,false] rfl rfl (by kernel_rfl) (fun _ _ _ h => h) (Or.inl ⟨by rfl, ?_⟩) ?_ ?_
    rotate_left
    ·
     intro w'
     go_simp
     with_reducible rfl
    rotate_left
    ·
     simp only [Act.put, q13I, q130, q131, i64_w, i32_w]
     rfl
    refine pure_ (i:=2) (N:=some 40) (v:=?_) (a':=?_) #[true,true,true,false,false,false,false,false,false,false,false,false,false,false,false,false] rfl rfl (by kernel_rfl) (fun _ _ _ h => h) (Or.inl ⟨by rfl, ?_⟩) ?_ ?_
    rotate_left
    ·
     intro w'
     go_simp
     with_reducible rfl
    rotate_left
    ·
     simp only [Act.put, q13I, q130, q131, i64_w, i32_w]
     rfl
    refine pure_ (i:=3) (N:=some 41) (v:=?_) (a':=?_) #[true,true,true,true,false,false,false,false,false,false,false,false,false,false,false,false] rfl rfl (by kernel_rfl) (fun _ _ _ h => h) (Or.inl ⟨by rfl, ?_⟩) ?_ ?_
    rotate_left
    ·
     intro w'
     go_simp
     with_reducible rfl
    rotate_left
    ·
     simp only [Act.put, q13I, q130, q131, i64_w, i32_w]
     rfl
    refine pure_ (i:=4) (N:=some 42) (v:=?_) (a':=?_) #[true,true,true,true,true,false,false,false,false,false,false,false,false,false,false,false] rfl rfl (by kernel_rfl) (fun _ _ _ h => h) (Or.inl ⟨by rfl, ?_⟩) ?_ ?_
    rotate_left
    ·
     intro w'
     go_simp
     with_reducible rfl
    rotate_left
    ·
     simp only [Act.put, q13I, q130, q131, i64_w, i32_w]
     rfl
    refine pure_ (i:=6) (N:=some 44) (v:=?_) (a':=?_) #[true,true,true,true,true,false,true,false,false,false,false,false,false,false,false,false] rfl rfl (by kernel_rfl) (fun _ _ _ h => h) (Or.inl ⟨by rfl, ?_⟩) ?_ ?_
    rotate_left
    ·
     intro w'
     go_simp
     with_reducible rfl
    rotate_left
    ·
     simp only [Act.put, q13I, q130, q131, i64_w, i32_w]
     rfl
    refine pure_ (i:=7) (N:=some 45) (v:=?_) (a':=?_) #[true,true,true,true,true,false,true,true,false,false,false,false,false,false,false,false] rfl rfl (by kernel_rfl) (fun _ _ _ h => h) (Or.inl ⟨by rfl, ?_⟩) ?_ ?_
    rotate_left
    ·
     intro w'
     go_simp
     with_reducible rfl
    rotate_left
    ·
     simp only [Act.put, q13I, q130, q131, i64_w, i32_w]
     rfl
    refine take_ (i:=5) (N:=some 43) (v:=?_) (a':=?_) #[true,true,true,true,true,true,true,true,false,false,false,false,false,false,false,false] rfl rfl (by kernel_rfl) (fun _ _ _ h => h) (Or.inl ⟨by rfl, ?_⟩) hHeld ?_ ?_
    rotate_left
    ·
     intro w' s0
     go_simp
     with_reducible rfl
    rotate_left
    ·
     simp only [Act.put, q13I, q130, q131, i64_w, i32_w]
     rfl
    refine pure_ (i:=8) (N:=some 46) (v:=?_) (a':=?_) #[true,true,true,true,true,true,true,true,true,false,false,false,false,false,false,false] rfl rfl (by kernel_rfl) (fun _ _ _ h => h) (Or.inl ⟨by rfl, ?_⟩) ?_ ?_
    rotate_left
    ·
     intro w'
     go_simp
     with_reducible rfl
    rotate_left
    ·
     simp only [Act.put, q13I, q130, q131, i64_w, i32_w]
     rfl
    refine pure_ (i:=9) (N:=some 47) (v:=?_) (a':=?_) #[true,true,true,true,true,true,true,true,true,true,false,false,false,false,false,false] rfl rfl (by kernel_rfl) (fun _ _ _ h => h) (Or.inl ⟨by rfl, ?_⟩) ?_ ?_
    rotate_left
    ·
     intro w'
     go_simp
     with_reducible rfl
    rotate_left
    ·
     simp only [Act.put, q13I, q130, q131, i64_w, i32_w]
     rfl
    refine one_ (i:=10) (N:=some 48) #[true,true,true,true,true,true,true,true,true,true,true,false,false,false,false,false] rfl rfl (by kernel_rfl) (by decide) (fun K hK => ?_)
    refine goes_ Try.func37 (by kernel_rfl) rfl #[.slice AT (m - 4) (cB - 4), .int .i64 mn] (by rfl) rfl rfl (by simp only [List.map_toArray, List.map_cons, List.map_nil]; rfl) ?_
    with_reducible refine (up_at _ AT (cB - 4) (m - 4) (row.drop 4) mn _ HTL.out (hCT.out _ (Kd.C_below HV3.out HXD.out)) HTC.out HUP.out).mono ?_
    rintro e w5 ⟨v5, rfl, hv5, hb5⟩
    refine ⟨_, rfl, ?_⟩
    refine hK.out _ _ (q13P hb5 z0_) (fun hHeld => ?_)
    clear hK K
    refine norm_ (a' := ?_) ?_ ?_
    rotate_left
    ·
     show Act.put _ (some 48) _ = _
     simp only [Act.put, q13I, q130, q131, i64_w, i32_w]
     rfl
    refine pure_ (i:=11) (N:=some 37) (v:=?_) (a':=?_) #[true,true,true,true,true,true,true,true,true,true,true,true,false,false,false,false] rfl rfl (by kernel_rfl) (fun _ _ _ h => h) (Or.inl ⟨by rfl, ?_⟩) ?_ ?_
    rotate_left
    ·
     intro w'
     go_simp
     with_reducible rfl
    rotate_left
    ·
     simp only [Act.put, q13I, q130, q131, i64_w, i32_w]
     rfl
    refine pure_ (i:=12) (N:=some 49) (v:=?_) (a':=?_) #[true,true,true,true,true,true,true,true,true,true,true,true,true,false,false,false] rfl rfl (by kernel_rfl) (fun _ _ _ h => h) (Or.inl ⟨by rfl, ?_⟩) ?_ ?_
    rotate_left
    ·
     intro w'
     go_simp
     with_reducible rfl
    rotate_left
    ·
     simp only [Act.put, q13I, q130, q131, i64_w, i32_w]
     rfl
    refine pure_ (i:=13) (N:=some 50) (v:=?_) (a':=?_) #[true,true,true,true,true,true,true,true,true,true,true,true,true,true,false,false] rfl rfl (by kernel_rfl) (fun _ _ _ h => h) (Or.inl ⟨by rfl, ?_⟩) ?_ ?_
    rotate_left
    ·
     intro w'
     go_simp
     with_reducible rfl
    rotate_left
    ·
     simp only [Act.put, q13I, q130, q131, i64_w, i32_w]
     rfl
    refine pure_ (i:=14) (N:=some 8) (v:=?_) (a':=?_) #[true,true,true,true,true,true,true,true,true,true,true,true,true,true,true,false] rfl rfl (by kernel_rfl) (fun _ _ _ h => h) (Or.inl ⟨by rfl, ?_⟩) ?_ ?_
    rotate_left
    ·
     intro w'
     go_simp
     with_reducible rfl
    rotate_left
    ·
     simp only [Act.put, q13I, q130, q131, i64_w, i32_w]
     rfl
    refine pure_ (i:=15) (N:=some 7) (v:=?_) (a':=?_) #[true,true,true,true,true,true,true,true,true,true,true,true,true,true,true,true] rfl rfl (by kernel_rfl) (fun _ _ _ h => h) (Or.inl ⟨by rfl, ?_⟩) ?_ ?_
    rotate_left
    ·
     intro w'
     go_simp
     with_reducible rfl
    rotate_left
    ·
     simp only [Act.put, q13I, q130, q131, i64_w, i32_w]
     rfl
    refine done_ (by kernel_rfl) ?_
    obtain ⟨A5, c5, e5⟩ := Kd.R_slice hv5
    subst e5
    have HV5 := q13a (Kd.R_reads' hv5).2.2
    have HV5c := q13a (Kd.R_reads' hv5).2.1
    have HV5R := q13a hv5
    have HB5 := q13a (q13S HB3.out (q13S HXD.out hb5))
    have HVR := q13a (Kd.C_below HV3.out (q13S HXD.out hb5))
    have HSZ3 := q13a (q13S HB3.out HXD.out).size
    clear hb5 hv5 z0_ hHeld HB3 HXD HV3
    go_wp2
    have HYD := q13a (below_drew (Below.refl w5.heap.size w5))
    refine start_ (n := 13) (S := fun w' => True) (ds := []) #[false,false,false,false,false,false,false,false,false,false,false,false,false] (by kernel_rfl) rfl rfl trivial (fun hHeld => ?_)
    generalize w5.drew = wF at HYD hHeld ⊢
    refine pure_ (i:=0) (N:=some 51) (v:=?_) (a':=?_) #[true,false,false,false,false,false,false,false,false,false,false,false,false] rfl rfl (by kernel_rfl) (fun _ _ _ h => h) (Or.inl ⟨by rfl, ?_⟩) ?_ ?_
    rotate_left
    ·
     intro w'
     go_simp
     with_reducible rfl
    rotate_left
    ·
     simp only [Act.put, q13I, q130, q131, i64_w, i32_w]
     rfl
    refine pure_ (i:=1) (N:=some 52) (v:=?_) (a':=?_) #[true,true,false,false,false,false,false,false,false,false,false,false,false] rfl rfl (by kernel_rfl) (fun _ _ _ h => h) (Or.inl ⟨by rfl, ?_⟩) ?_ ?_
    rotate_left
    ·
     intro w'
     go_simp
     with_reducible rfl
    rotate_left
    ·
     simp only [Act.put, q13I, q130, q131, i64_w, i32_w]
     rfl
    refine pure_ (i:=2) (N:=some 53) (v:=?_) (a':=?_) #[true,true,true,false,false,false,false,false,false,false,false,false,false] rfl rfl (by kernel_rfl) (fun _ _ _ h => h) (Or.inl ⟨by rfl, ?_⟩) ?_ ?_
    rotate_left
    ·
     intro w'
     go_simp
     with_reducible rfl
    rotate_left
    ·
     simp only [Act.put, q13I, q130, q131, i64_w, i32_w]
     rfl
    refine pure_ (i:=3) (N:=some 54) (v:=?_) (a':=?_) #[true,true,true,true,false,false,false,false,false,false,false,false,false] rfl rfl (by kernel_rfl) (fun _ _ _ h => h) (Or.inl ⟨by rfl, ?_⟩) ?_ ?_
    rotate_left
    ·
     intro w'
     go_simp
     with_reducible rfl
    rotate_left
    ·
     simp only [Act.put, q13I, q130, q131, i64_w, i32_w]
     rfl
    refine pure_ (i:=4) (N:=some 55) (v:=?_) (a':=?_) #[true,true,true,true,true,false,false,false,false,false,false,false,false] rfl rfl (by kernel_rfl) (fun _ _ _ h => h) (Or.inl ⟨by rfl, ?_⟩) ?_ ?_
    rotate_left
    ·
     intro w'
     go_simp
     with_reducible rfl
    rotate_left
    ·
     simp only [Act.put, q13I, q130, q131, i64_w, i32_w]
     rfl
    refine pure_ (i:=6) (N:=some 57) (v:=?_) (a':=?_) #[true,true,true,true,true,false,true,false,false,false,false,false,false] rfl rfl (by kernel_rfl) (fun _ _ _ h => h) (Or.inl ⟨by rfl, ?_⟩) ?_ ?_
    rotate_left
    ·
     intro w'
     go_simp
     with_reducible rfl
    rotate_left
    ·
     simp only [Act.put, q13I, q130, q131, i64_w, i32_w]
     rfl
    refine pure_ (i:=7) (N:=some 58) (v:=?_) (a':=?_) #[true,true,true,true,true,false,true,true,false,false,false,false,false] rfl rfl (by kernel_rfl) (fun _ _ _ h => h) (Or.inl ⟨by rfl, ?_⟩) ?_ ?_
    rotate_left
    ·
     intro w'
     go_simp
     with_reducible rfl
    rotate_left
    ·
     simp only [Act.put, q13I, q130, q131, i64_w, i32_w]
     rfl
    refine one_ (i:=5) (N:=some 56) #[true,true,true,true,true,true,true,true,false,false,false,false,false] rfl rfl (by kernel_rfl) (by decide) (fun K hK => ?_)
    refine goes_ Try.func41 (by kernel_rfl) rfl #[.slice A5 r1.length c5] (by rfl) rfl rfl (by simp only [List.map_toArray, List.map_cons, List.map_nil]; rfl) ?_
    with_reducible refine (crc_at _ A5 c5 r1.length r1 rfl HRB.out (Kd.C_below HV5.out HYD.out) HV5c.out cr HCR.out HRL.out).mono ?_
    rintro e w6 ⟨rfl, hd6⟩
    refine ⟨_, rfl, ?_⟩
    refine hK.out _ _ trivial (fun hHeld => ?_)
    clear hK K
    refine norm_ (a' := ?_) ?_ ?_
    rotate_left
    ·
     show Act.put _ (some 56) _ = _
     simp only [Act.put, q13I, q130, q131, i64_w, i32_w]
     rfl
    refine one_ (i:=8) (N:=some 59) #[true,true,true,true,true,true,true,true,true,false,false,false,false] rfl rfl (by kernel_rfl) (by decide) (fun K hK => ?_)
    refine goes_ Try.func39 (by kernel_rfl) rfl #[.slice AB 4 cB] (by rfl) rfl rfl (by simp only [List.map_toArray, List.map_cons, List.map_nil]; rfl) ?_
    with_reducible refine (pget4 _ AB cB 4 (row.take 4) HR4.out HRB4.out (by decide) (hCR4.out _ (Kd.C_below HVR.out (q13S HYD.out hd6.below))) HC4.out q HQ.out).mono ?_
    rintro e w7 ⟨rfl, hd7⟩
    refine ⟨_, rfl, ?_⟩
    refine hK.out _ _ trivial (fun hHeld => ?_)
    clear hK K
    refine norm_ (a' := ?_) ?_ ?_
    rotate_left
    ·
     show Act.put _ (some 59) _ = _
     simp only [Act.put, q13I, q130, q131, i64_w, i32_w]
     rfl
    refine pure_ (i:=9) (N:=some 60) (v:=?_) (a':=?_) #[true,true,true,true,true,true,true,true,true,true,false,false,false] rfl rfl (by kernel_rfl) (fun _ _ _ h => h) (Or.inl ⟨by rfl, ?_⟩) ?_ ?_
    rotate_left
    ·
     intro w'
     go_simp
     with_reducible rfl
    rotate_left
    ·
     simp only [Act.put, q13I, q130, q131, i64_w, i32_w]
     rfl
    refine pure_ (i:=10) (N:=some 61) (v:=?_) (a':=?_) #[true,true,true,true,true,true,true,true,true,true,true,false,false] rfl rfl (by kernel_rfl) (fun _ _ _ h => h) (Or.inl ⟨by rfl, ?_⟩) ?_ ?_
    rotate_left
    ·
     intro w'
     go_simp
     with_reducible rfl
    rotate_left
    ·
     simp only [Act.put, q13I, q130, q131, i64_w, i32_w]
     rfl
    refine pure_ (i:=11) (N:=some 4) (v:=?_) (a':=?_) #[true,true,true,true,true,true,true,true,true,true,true,true,false] rfl rfl (by kernel_rfl) (fun _ _ _ h => h) (Or.inl ⟨by rfl, ?_⟩) ?_ ?_
    rotate_left
    ·
     intro w'
     go_simp
     with_reducible rfl
    rotate_left
    ·
     simp only [Act.put, q13I, q130, q131, i64_w, i32_w]
     rfl
    refine pure_ (i:=12) (N:=some 5) (v:=?_) (a':=?_) #[true,true,true,true,true,true,true,true,true,true,true,true,true] rfl rfl (by kernel_rfl) (fun _ _ _ h => h) (Or.inl ⟨by rfl, ?_⟩) ?_ ?_
    rotate_left
    ·
     intro w'
     go_simp
     with_reducible rfl
    rotate_left
    ·
     simp only [Act.put, q13I, q130, q131, i64_w, i32_w]
     rfl
    refine done_ (by kernel_rfl) ?_
    have HB7 := q13a (q13S HB5.out (q13S HYD.out (q13S hd6.below hd7.below)))
    have HRV := q13a (Kd.R_lower (Kd.R_below HV5R.out (q13S HYD.out (q13S hd6.below hd7.below))) HSZ3.out)
    clear HB5 HV5R HYD hHeld hd6 hd7
    go_wp2
    refine bodyPost_ret (v := .tuple #[.slice A5 r1.length c5, .bool true]) (by simp [results, Try.results151, go_sem]) rfl ?_
    exact ⟨_, rfl, (fun _ => HRV.out), HB7.out⟩
   ·
    rw [decide_eq_false (fun h => hcq h.2.2)]
    have tq1 : (cr == q) = false := by simpa using hcq
    have tq2 : ¬ (cr = q) := hcq
    clear hcq
    go_enter Try.func151, Try.ntmps151
    go_wp2
    have HBD := q13a (below_drew (Below.refl w.heap.size w))
    have y0_ : w.drew.cell? ⟨g, 0, none⟩ = some (.iface T x) := (blk_cell (blk_drew hI.out.blk) 0).trans rfl
    have y1_ : w.drew.cell? ⟨g, 2, none⟩ = some (.slice (some ad) l.length c) := (blk_cell (blk_drew hI.out.blk) 2).trans rfl
    have y2_ : w.drew.cell? (ad.add (i * 2)) = some (.int .i64 f0) := q13P (below_drew (Below.refl w.heap.size w)) e0
    have y3_ : w.drew.cell? ⟨(ad.add (i * 2)).block, (ad.add (i * 2)).off + 1, none⟩ = some (.int .i64 f1) := q13P (below_drew (Below.refl w.heap.size w)) e1
    refine start_ (n := 28) (S := fun w' => w'.cell? ⟨g, 0, none⟩ = some (.iface T x) ∧ w'.cell? ⟨g, 2, none⟩ = some (.slice (some ad) l.length c) ∧ w'.cell? (ad.add (i * 2)) = some (.int .i64 f0) ∧ w'.cell? ⟨(ad.add (i * 2)).block, (ad.add (i * 2)).off + 1, none⟩ = some (.int .i64 f1)) (ds := []) #[false,false,false,false,false,false,false,false,false,false,false,false,false,false,false,false,false,false,false,false,false,false,false,false,false,false,false,false] (by kernel_rfl) rfl rfl ⟨y0_, y1_, y2_, y3_⟩ (fun hHeld => ?_)
    generalize w.drew = wD at y0_ y1_ y2_ y3_ HBD hHeld ⊢
    refine pure_ (i:=0) (N:=some 10) (v:=?_) (a':=?_) #[true,false,false,false,false,false,false,false,false,false,false,false,false,false,false,false,false,false,false,false,false,false,false,false,false,false,false,false] rfl rfl (by kernel_rfl) (fun _ _ _ h => h) (Or.inl ⟨by rfl, ?_⟩) ?_ ?_
    rotate_left
    ·
     intro w'
     go_simp
     with_reducible rfl
    rotate_left
    ·
     simp only [Act.put, q13I, q130, q131, i64_w, i32_w]
     rfl
    refine pure_ (i:=1) (N:=some 11) (v:=?_) (a':=?_) #[true,true,false,false,false,false,false,false,false,false,false,false,false,false,false,false,false,false,false,false,false,false,false,false,false,false,false,false] rfl rfl (by kernel_rfl) (fun _ _ _ h => h) (Or.inl ⟨by rfl, ?_⟩) ?_ ?_
    rotate_left
    ·
     intro w'
     go_simp
     with_reducible rfl
    rotate_left
    ·
     simp only [Act.put, q13I, q130, q131, i64_w, i32_w]
     rfl
    refine pure_ (i:=2) (N:=some 12) (v:=?_) (a':=?_) #[true,true,true,false,false,false,false,false,false,false,false,false,false,false,false,false,false,false,false,false,false,false,false,false,false,false,false,false] rfl rfl (by kernel_rfl) (fun _ _ _ h => h) (Or.inl ⟨by rfl, ?_⟩) ?_ ?_
    rotate_left
    ·
     intro w'
     go_simp
     with_reducible rfl
    rotate_left
    ·
     simp only [Act.put, q13I, q130, q131, i64_w, i32_w]
     rfl
    refine pure_ (i:=4) (N:=some 14) (v:=?_) (a':=?_) #[true,true,true,false,true,false,false,false,false,false,false,false,false,false,false,false,false,false,false,false,false,false,false,false,false,false,false,false] rfl rfl (by kernel_rfl) (fun _ _ _ h => h) (Or.inl ⟨by rfl, ?_⟩) ?_ ?_
    rotate_left
    ·
     intro w'
     go_simp
     with_reducible rfl
    rotate_left
    ·
     simp only [Act.put, q13I, q130, q131, i64_w, i32_w]
     rfl
    refine pure_ (i:=5) (N:=some 15) (v:=?_) (a':=?_) #[true,true,true,false,true,true,false,false,false,false,false,false,false,false,false,false,false,false,false,false,false,false,false,false,false,false,false,false] rfl rfl (by kernel_rfl) (fun _ _ _ h => h) (Or.inl ⟨by rfl, ?_⟩) ?_ ?_
    rotate_left
    ·
     intro w'
     go_simp
     with_reducible rfl
    rotate_left
    ·
     simp only [Act.put, q13I, q130, q131, i64_w, i32_w]
     rfl
    refine pure_ (i:=6) (N:=some 16) (v:=?_) (a':=?_) #[true,true,true,false,true,true,true,false,false,false,false,false,false,false,false,false,false,false,false,false,false,false,false,false,false,false,false,false] rfl rfl (by kernel_rfl) (fun _ _ _ h => h) (Or.inl ⟨by rfl, ?_⟩) ?_ ?_
    rotate_left
    ·
     intro w'
     go_simp
     with_reducible rfl
    rotate_left
    ·
     simp only [Act.put, q13I, q130, q131, i64_w, i32_w]
     rfl
    refine pure_ (i:=8) (N:=some 18) (v:=?_) (a':=?_) #[true,true,true,false,true,true,true,false,true,false,false,false,false,false,false,false,false,false,false,false,false,false,false,false,false,false,false,false] rfl rfl (by kernel_rfl) (fun _ _ _ h => h) (Or.inl ⟨by rfl, ?_⟩) ?_ ?_
    rotate_left
    ·
     intro w'
     go_simp
     with_reducible rfl
    rotate_left
    ·
     simp only [Act.put, q13I, q130, q131, i64_w, i32_w]
     rfl
    refine pure_ (i:=12) (N:=some 22) (v:=?_) (a':=?_) #[true,true,true,false,true,true,true,false,true,false,false,false,true,false,false,false,false,false,false,false,false,false,false,false,false,false,false,false] rfl rfl (by kernel_rfl) (fun _ _ _ h => h) (Or.inl ⟨by rfl, ?_⟩) ?_ ?_
    rotate_left
    ·
     intro w'
     go_simp
     with_reducible rfl
    rotate_left
    ·
     simp only [Act.put, q13I, q130, q131, i64_w, i32_w]
     rfl
    refine pure_ (i:=13) (N:=some 23) (v:=?_) (a':=?_) #[true,true,true,false,true,true,true,false,true,false,false,false,true,true,false,false,false,false,false,false,false,false,false,false,false,false,false,false] rfl rfl (by kernel_rfl) (fun _ _ _ h => h) (Or.inl ⟨by rfl, ?_⟩) ?_ ?_
    rotate_left
    ·
     intro w'
     go_simp
     with_reducible rfl
    rotate_left
    ·
     simp only [Act.put, q13I, q130, q131, i64_w, i32_w]
     rfl
    refine pure_ (i:=14) (N:=some 24) (v:=?_) (a':=?_) #[true,true,true,false,true,true,true,false,true,false,false,false,true,true,true,false,false,false,false,false,false,false,false,false,false,false,false,false] rfl rfl (by kernel_rfl) (fun _ _ _ h => h) (Or.inl ⟨by rfl, ?_⟩) ?_ ?_
    rotate_left
    ·
     intro w'
     go_simp
     with_reducible rfl
    rotate_left
    ·
     simp only [Act.put, q13I, q130, q131, i64_w, i32_w]
     rfl
    refine pure_ (i:=16) (N:=some 26) (v:=?_) (a':=?_) #[true,true,true,false,true,true,true,false,true,false,false,false,true,true,true,false,true,false,false,false,false,false,false,false,false,false,false,false] rfl rfl (by kernel_rfl) (fun _ _ _ h => h) (Or.inl ⟨by rfl, ?_⟩) ?_ ?_
    rotate_left
    ·
     intro w'
     go_simp
     with_reducible rfl
    rotate_left
    ·
     simp only [Act.put, q13I, q130, q131, i64_w, i32_w]
     rfl
    refine take_ (i:=3) (N:=some 13) (v:=?_) (a':=?_) #[true,true,true,true,true,true,true,false,true,false,false,false,true,true,true,false,true,false,false,false,false,false,false,false,false,false,false,false] rfl rfl (by kernel_rfl) (fun _ _ _ h => h) (Or.inl ⟨by rfl, ?_⟩) hHeld ?_ ?_
    rotate_left
    ·
     rintro w' ⟨s0, s1, s2, s3⟩
     go_simp
     with_reducible rfl
    rotate_left
    ·
     simp only [Act.put, q13I, q130, q131, i64_w, i32_w]
     rfl
    refine pure_ (i:=20) (N:=some 30) (v:=?_) (a':=?_) #[true,true,true,true,true,true,true,false,true,false,false,false,true,true,true,false,true,false,false,false,true,false,false,false,false,false,false,false] rfl rfl (by kernel_rfl) (fun _ _ _ h => h) (Or.inl ⟨by rfl, ?_⟩) ?_ ?_
    rotate_left
    ·
     intro w'
     go_simp
     with_reducible rfl
    rotate_left
    ·
     simp only [Act.put, q13I, q130, q131, i64_w, i32_w]
     rfl
    refine pure_ (i:=21) (N:=some 31) (v:=?_) (a':=?_) #[true,true,true,true,true,true,true,false,true,false,false,false,true,true,true,false,true,false,false,false,true,true,false,false,false,false,false,false] rfl rfl (by kernel_rfl) (fun _ _ _ h => h) (Or.inl ⟨by rfl, ?_⟩) ?_ ?_
    rotate_left
    ·
     intro w'
     go_simp
     with_reducible rfl
    rotate_left
    ·
     simp only [Act.put, q13I, q130, q131, i64_w, i32_w]
     rfl
    refine take_ (i:=7) (N:=some 17) (v:=?_) (a':=?_) #[true,true,true,true,true,true,true,true,true,false,false,false,true,true,true,false,true,false,false,false,true,true,false,false,false,false,false,false] rfl rfl (by kernel_rfl) (fun _ _ _ h => h) (Or.inl ⟨by rfl, ?_⟩) hHeld ?_ ?_
    rotate_left
    ·
     rintro w' ⟨s0, s1, s2, s3⟩
     go_simp
     with_reducible rfl
    rotate_left
    ·
     simp only [Act.put, q13I, q130, q131, i64_w, i32_w]
     rfl
    refine pure_ (i:=9) (N:=some 19) (v:=?_) (a':=?_) #[true,true,true,true,true,true,true,true,true,true,false,false,true,true,true,false,true,false,false,false,true,true,false,false,false,false,false,false] rfl rfl (by kernel_rfl) (fun _ _ _ h => h) (Or.inl ⟨by rfl, ?_⟩) ?_ ?_
    rotate_left
    ·
     intro w'
     go_simp
     with_reducible rfl
    rotate_left
    ·
     simp only [Act.put, q13I, q130, q131, i64_w, i32_w]
     rfl
    refine pure_ (i:=10) (N:=some 20) (v:=?_) (a':=?_) #[true,true,true,true,true,true,true,true,true,true,true,false,true,true,true,false,true,false,false,false,true,true,false,false,false,false,false,false] rfl rfl (by kernel_rfl) (fun _ _ _ h => h) (Or.inl ⟨by rfl, ?_⟩) ?_ ?_
    rotate_left
    ·
     intro w'
     go_simp
     with_reducible rfl
    rotate_left
    ·
     simp only [Act.put, q13I, q130, q131, i64_w, i32_w]
     rfl
    refine take_ (i:=11) (N:=some 21) (v:=?_) (a':=?_) #[true,true,true,true,true,true,true,true,true,true,true,true,true,true,true,false,true,false,false,false,true,true,false,false,false,false,false,false] rfl rfl (by kernel_rfl) (fun _ _ _ h => h) (Or.inl ⟨by rfl, ?_⟩) hHeld ?_ ?_
    rotate_left
    ·
     rintro w' ⟨s0, s1, s2, s3⟩
     go_simp
     with_reducible rfl
    rotate_left
    ·
     simp only [Act.put, q13I, q130, q131, i64_w, i32_w]
     rfl
    refine take_ (i:=15) (N:=some 25) (v:=?_) (a':=?_) #[true,true,true,true,true,true,true,true,true,true,true,true,true,true,true,true,true,false,false,false,true,true,false,false,false,false,false,false] rfl rfl (by kernel_rfl) (fun _ _ _ h => h) (Or.inl ⟨by rfl, ?_⟩) hHeld ?_ ?_
    rotate_left
    ·
     rintro w' ⟨s0, s1, s2, s3⟩
     go_simp
     with_reducible rfl
    rotate_left
    ·
     simp only [Act.put, q13I, q130, q131, i64_w, i32_w]
     rfl
    refine pure_ (i:=17) (N:=some 27) (v:=?_) (a':=?_) #[true,true,true,true,true,true,true,true,true,true,true,true,true,true,true,true,true,true,false,false,true,true,false,false,false,false,false,false] rfl rfl (by kernel_rfl) (fun _ _ _ h => h) (Or.inl ⟨by rfl, ?_⟩) ?_ ?_
    rotate_left
    ·
     intro w'
     go_simp
     with_reducible rfl
    rotate_left
    ·
     simp only [Act.put, q13I, q130, q131, i64_w, i32_w]
     rfl
    refine pure_ (i:=18) (N:=some 28) (v:=?_) (a':=?_) #[true,true,true,true,true,true,true,true,true,true,true,true,true,true,true,true,true,true,true,false,true,true,false,false,false,false,false,false] rfl rfl (by kernel_rfl) (fun _ _ _ h => h) (Or.inl ⟨by rfl, ?_⟩) ?_ ?_
    rotate_left
    ·
     intro w'
     go_simp
     with_reducible rfl
    rotate_left
    ·
     simp only [Act.put, q13I, q130, q131, i64_w, i32_w]
     rfl
    refine take_ (i:=19) (N:=some 29) (v:=?_) (a':=?_) #[true,true,true,true,true,true,true,true,true,true,true,true,true,true,true,true,true,true,true,true,true,true,false,false,false,false,false,false] rfl rfl (by kernel_rfl) (fun _ _ _ h => h) (Or.inl ⟨by rfl, ?_⟩) hHeld ?_ ?_
    rotate_left
    ·
     rintro w' ⟨s0, s1, s2, s3⟩
     go_simp
     with_reducible rfl
    rotate_left
    ·
     simp only [Act.put, q13I, q130, q131, i64_w, i32_w]
     rfl
    refine one_ (i:=22) (N:=some 32) #[true,true,true,true,true,true,true,true,true,true,true,true,true,true,true,true,true,true,true,true,true,true,true,false,false,false,false,false] rfl rfl (by kernel_rfl) (by decide) (fun K hK => ?_)
    refine call_ fR #[x, .int .i64 f0, .int .i64 f1] (by rfl) rfl ?_ ?_
    ·
     unfold execOp
     simp [resolve, Deferred.ofValue, invoke, callMethod, Act.eval]
     rw [show 199 + Made.depth = 299 from rfl, hmR.out.run]
     exact hmR.out.ent _ _
    with_reducible refine (HREAD.out _ HBD.out).mono ?_
    rintro e w3 ⟨v3, rfl, hv3, hb3⟩
    refine ⟨_, rfl, ?_⟩
    refine hK.out _ _ ⟨q13P hb3 y0_, q13P hb3 y1_, q13P hb3 y2_, q13P hb3 y3_⟩ (fun hHeld => ?_)
    clear hK K
    refine norm_ (a' := ?_) ?_ ?_
    rotate_left
    ·
     show Act.put _ (some 32) _ = _
     simp only [Act.put, q13I, q130, q131, i64_w, i32_w]
     rfl
    refine pure_ (i:=23) (N:=some 9) (v:=?_) (a':=?_) #[true,true,true,true,true,true,true,true,true,true,true,true,true,true,true,true,true,true,true,true,true,true,true,true,false,false,false,false] rfl rfl (by kernel_rfl) (fun _ _ _ h => h) (Or.inl ⟨by rfl, ?_⟩) ?_ ?_
    rotate_left
    ·
     intro w'
     go_simp
     with_reducible rfl
    rotate_left
    ·
     simp only [Act.put, q13I, q130, q131, i64_w, i32_w]
     rfl
    refine pure_ (i:=24) (N:=some 33) (v:=?_) (a':=?_) #[true,true,true,true,true,true,true,true,true,true,true,true,true,true,true,true,true,true,true,true,true,true,true,true,true,false,false,false] rfl rfl (by kernel_rfl) (fun _ _ _ h => h) (Or.inl ⟨by rfl, ?_⟩) ?_ ?_
    rotate_left
    ·
     intro w'
     go_simp
     with_reducible rfl
    rotate_left
    ·
     simp only [Act.put, q13I, q130, q131, i64_w, i32_w]
     rfl
    refine pure_ (i:=25) (N:=some 34) (v:=?_) (a':=?_) #[true,true,true,true,true,true,true,true,true,true,true,true,true,true,true,true,true,true,true,true,true,true,true,true,true,true,false,false] rfl rfl (by kernel_rfl) (fun _ _ _ h => h) (Or.inl ⟨by rfl, ?_⟩) ?_ ?_
    rotate_left
    ·
     intro w'
     go_simp
     with_reducible rfl
    rotate_left
    ·
     simp only [Act.put, q13I, q130, q131, i64_w, i32_w]
     rfl
    refine pure_ (i:=26) (N:=some 6) (v:=?_) (a':=?_) #[true,true,true,true,true,true,true,true,true,true,true,true,true,true,true,true,true,true,true,true,true,true,true,true,true,true,true,false] rfl rfl (by kernel_rfl) (fun _ _ _ h => h) (Or.inl ⟨by rfl, ?_⟩) ?_ ?_
    rotate_left
    ·
     intro w'
     go_simp
     with_reducible rfl
    rotate_left
    ·
     simp only [Act.put, q13I, q130, q131, i64_w, i32_w]
     rfl
    refine pure_ (i:=27) (N:=some 7) (v:=?_) (a':=?_) #[true,true,true,true,true,true,true,true,true,true,true,true,true,true,true,true,true,true,true,true,true,true,true,true,true,true,true,true] rfl rfl (by kernel_rfl) (fun _ _ _ h => h) (Or.inl ⟨by rfl, ?_⟩) ?_ ?_
    rotate_left
    ·
     intro w'
     go_simp
     with_reducible rfl
    rotate_left
    ·
     simp only [Act.put, q13I, q130, q131, i64_w, i32_w]
     rfl
    refine done_ (by kernel_rfl) ?_
    have HB3 := q13a (q13S HBD.out hb3)
    obtain ⟨AB, cB, eB⟩ := Kd.R_slice hv3
    rw [HROW.out] at eB
    subst eB
    have hVX := Kd.R_reads' hv3
    rw [HROW.out] at hVX
    have HV3 := q13a hVX.2.2
    have HC4 := q13a (show 4 ≤ cB from Nat.le_trans hm4 hVX.2.1)
    have HTC := q13a (show m - 4 ≤ cB - 4 by have := hVX.2.1; omega)
    have hI3 := q13a (hI.out.below (q13S HBD.out hb3))
    obtain ⟨AT, hct, hCT⟩ := cut_four (A := AB) hm4 hVX.2.1 HROW.out
    replace hCT := q13a hCT
    obtain ⟨hc4, hCR4⟩ := cut_head (A := AB) hm4 hVX.2.1 HROW.out
    replace hCR4 := q13a hCR4
    clear HBD hb3 hv3 y0_ y1_ y2_ y3_ hHeld hVX hI
    go_wp2
    have HXD := q13a (below_drew (Below.refl w3.heap.size w3))
    have z0_ : w3.drew.cell? ⟨g, 1, none⟩ = some (.int .i64 (size : Int)) := (blk_cell (blk_drew hI3.out.blk) 1).trans rfl
    refine start_ (n := 16) (S := fun w' => w'.cell? ⟨g, 1, none⟩ = some (.int .i64 (size : Int))) (ds := []) #[false,false,false,false,false,false,false,false,false,false,false,false,false,false,false,false] (by kernel_rfl) rfl rfl (z0_) (fun hHeld => ?_)
    generalize w3.drew = wE at z0_ HXD hHeld ⊢
    refine pure_ (i:=0) (N:=some 38) (v:=?_) (a':=?_) #[true,false,false,false,false,false,false,false,false,false,false,false,false,false,false,false] rfl rfl (by kernel_rfl) (fun _ _ _ h => h) (Or.inl ⟨by rfl, ?_⟩) ?_ ?_
    rotate_left
    ·
     intro w'
     go_simp
     with_reducible rfl
    rotate_left
    ·
     simp only [Act.put, q13I, q130, q131, i64_w, i32_w]
     rfl
    refine pure_ (i:=1) (N:=some 39) (v:=?_) (a':=?_) #[true,true,false,false,false,false,false,false,false,false,false,false,false,false,false,false] rfl rfl (by kernel_rfl) (fun _ _ _ h => h) (Or.inl ⟨by rfl, ?_⟩) ?_ ?_
    rotate_left
    ·
     intro w'
     go_simp
     with_reducible rfl
    rotate_left
    ·
     simp only [Act.put, q13I, q130, q131, i64_w, i32_w]
     rfl
    refine pure_ (i:=2) (N:=some 40) (v:=?_) (a':=?_) #[true,true,true,false,false,false,false,false,false,false,false,false,false,false,false,false] rfl rfl (by kernel_rfl) (fun _ _ _ h => h) (Or.inl ⟨by rfl, ?_⟩) ?_ ?_
    rotate_left
    ·
     intro w'
     go_simp
     with_reducible rfl
    rotate_left
    ·
     simp only [Act.put, q13I, q130, q131, i64_w, i32_w]
     rfl
    refine pure_ (i:=3) (N:=some 41) (v:=?_) (a':=?_) #[true,true,true,true,false,false,false,false,false,false,false,false,false,false,false,false] rfl rfl (by kernel_rfl) (fun _ _ _ h => h) (Or.inl ⟨by rfl, ?_⟩) ?_ ?_
    rotate_left
    ·
     intro w'
     go_simp
     with_reducible rfl
    rotate_left
    ·
     simp only [Act.put, q13I, q130, q131, i64_w, i32_w]
     rfl
    refine pure_ (i:=4) (N:=some 42) (v:=?_) (a':=?_) #[true,true,true,true,true,false,false,false,false,false,false,false,false,false,false,false] rfl rfl (by kernel_rfl) (fun _ _ _ h => h) (Or.inl ⟨by rfl, ?_⟩) ?_ ?_
    rotate_left
    ·
     intro w'
     go_simp
     with_reducible rfl
    rotate_left
    ·
     simp only [Act.put, q13I, q130, q131, i64_w, i32_w]
     rfl
    refine pure_ (i:=6) (N:=some 44) (v:=?_) (a':=?_) #[true,true,true,true,true,false,true,false,false,false,false,false,false,false,false,false] rfl rfl (by kernel_rfl) (fun _ _ _ h => h) (Or.inl ⟨by rfl, ?_⟩) ?_ ?_
    rotate_left
    ·
     intro w'
     go_simp
     with_reducible rfl
    rotate_left
    ·
     simp only [Act.put, q13I, q130, q131, i64_w, i32_w]
     rfl
    refine pure_ (i:=7) (N:=some 45) (v:=?_) (a':=?_) #[true,true,true,true,true,false,true,true,false,false,false,false,false,false,false,false] rfl rfl (by kernel_rfl) (fun _ _ _ h => h) (Or.inl ⟨by rfl, ?_⟩) ?_ ?_
    rotate_left
    ·
     intro w'
     go_simp
     with_reducible rfl
    rotate_left
    ·
     simp only [Act.put, q13I, q130, q131, i64_w, i32_w]
     rfl
    refine take_ (i:=5) (N:=some 43) (v:=?_) (a':=?_) #[true,true,true,true,true,true,true,true,false,false,false,false,false,false,false,false] rfl rfl (by kernel_rfl) (fun _ _ _ h => h) (Or.inl ⟨by rfl, ?_⟩) hHeld ?_ ?_
    rotate_left
    ·
     intro w' s0
     go_simp
     with_reducible rfl
    rotate_left
    ·
     simp only [Act.put, q13I, q130, q131, i64_w, i32_w]
     rfl
    refine pure_ (i:=8) (N:=some 46) (v:=?_) (a':=?_) #[true,true,true,true,true,true,true,true,true,false,false,false,false,false,false,false] rfl rfl (by kernel_rfl) (fun _ _ _ h => h) (Or.inl ⟨by rfl, ?_⟩) ?_ ?_
    rotate_left
    ·
     intro w'
     go_simp
     with_reducible rfl
    rotate_left
    ·
     simp only [Act.put, q13I, q130, q131, i64_w, i32_w]
     rfl
    refine pure_ (i:=9) (N:=some 47) (v:=?_) (a':=?_) #[true,true,true,true,true,true,true,true,true,true,false,false,false,false,false,false] rfl rfl (by kernel_rfl) (fun _ _ _ h => h) (Or.inl ⟨by rfl, ?_⟩) ?_ ?_
    rotate_left
    ·
     intro w'
     go_simp
     with_reducible rfl
    rotate_left
    ·
     simp only [Act.put, q13I, q130, q131, i64_w, i32_w]
     rfl
    refine one_ (i:=10) (N:=some 48) #[true,true,true,true,true,true,true,true,true,true,true,false,false,false,false,false] rfl rfl (by kernel_rfl) (by decide) (fun K hK => ?_)
    refine goes_ Try.func37 (by kernel_rfl) rfl #[.slice AT (m - 4) (cB - 4), .int .i64 mn] (by rfl) rfl rfl (by simp only [List.map_toArray, List.map_cons, List.map_nil]; rfl) ?_
    with_reducible refine (up_at _ AT (cB - 4) (m - 4) (row.drop 4) mn _ HTL.out (hCT.out _ (Kd.C_below HV3.out HXD.out)) HTC.out HUP.out).mono ?_
    rintro e w5 ⟨v5, rfl, hv5, hb5⟩
    refine ⟨_, rfl, ?_⟩
    refine hK.out _ _ (q13P hb5 z0_) (fun hHeld => ?_)
    clear hK K
    refine norm_ (a' := ?_) ?_ ?_
    rotate_left
    ·
     show Act.put _ (some 48) _ = _
     simp only [Act.put, q13I, q130, q131, i64_w, i32_w]
     rfl
    refine pure_ (i:=11) (N:=some 37) (v:=?_) (a':=?_) #[true,true,true,true,true,true,true,true,true,true,true,true,false,false,false,false] rfl rfl (by kernel_rfl) (fun _ _ _ h => h) (Or.inl ⟨by rfl, ?_⟩) ?_ ?_
    rotate_left
    ·
     intro w'
     go_simp
     with_reducible rfl
    rotate_left
    ·
     simp only [Act.put, q13I, q130, q131, i64_w, i32_w]
     rfl
    refine pure_ (i:=12) (N:=some 49) (v:=?_) (a':=?_) #[true,true,true,true,true,true,true,true,true,true,true,true,true,false,false,false] rfl rfl (by kernel_rfl) (fun _ _ _ h => h) (Or.inl ⟨by rfl, ?_⟩) ?_ ?_
    rotate_left
    ·
     intro w'
     go_simp
     with_reducible rfl
    rotate_left
    ·
     simp only [Act.put, q13I, q130, q131, i64_w, i32_w]
     rfl
    refine pure_ (i:=13) (N:=some 50) (v:=?_) (a':=?_) #[true,true,true,true,true,true,true,true,true,true,true,true,true,true,false,false] rfl rfl (by kernel_rfl) (fun _ _ _ h => h) (Or.inl ⟨by rfl, ?_⟩) ?_ ?_
    rotate_left
    ·
     intro w'
     go_simp
     with_reducible rfl
    rotate_left
    ·
     simp only [Act.put, q13I, q130, q131, i64_w, i32_w]
     rfl
    refine pure_ (i:=14) (N:=some 8) (v:=?_) (a':=?_) #[true,true,true,true,true,true,true,true,true,true,true,true,true,true,true,false] rfl rfl (by kernel_rfl) (fun _ _ _ h => h) (Or.inl ⟨by rfl, ?_⟩) ?_ ?_
    rotate_left
    ·
     intro w'
     go_simp
     with_reducible rfl
    rotate_left
    ·
     simp only [Act.put, q13I, q130, q131, i64_w, i32_w]
     rfl
    refine pure_ (i:=15) (N:=some 7) (v:=?_) (a':=?_) #[true,true,true,true,true,true,true,true,true,true,true,true,true,true,true,true] rfl rfl (by kernel_rfl) (fun _ _ _ h => h) (Or.inl ⟨by rfl, ?_⟩) ?_ ?_
    rotate_left
    ·
     intro w'
     go_simp
     with_reducible rfl
    rotate_left
    ·
     simp only [Act.put, q13I, q130, q131, i64_w, i32_w]
     rfl
    refine done_ (by kernel_rfl) ?_
    obtain ⟨A5, c5, e5⟩ := Kd.R_slice hv5
    subst e5
    have HV5 := q13a (Kd.R_reads' hv5).2.2
    have HV5c := q13a (Kd.R_reads' hv5).2.1
    have HV5R := q13a hv5
    have HB5 := q13a (q13S HB3.out (q13S HXD.out hb5))
    have HVR := q13a (Kd.C_below HV3.out (q13S HXD.out hb5))
    have HSZ3 := q13a (q13S HB3.out HXD.out).size
    clear hb5 hv5 z0_ hHeld HB3 HXD HV3
    go_wp2
    have HYD := q13a (below_drew (Below.refl w5.heap.size w5))
    refine start_ (n := 13) (S := fun w' => True) (ds := []) #[false,false,false,false,false,false,false,false,false,false,false,false,false] (by kernel_rfl) rfl rfl trivial (fun hHeld => ?_)
    generalize w5.drew = wF at HYD hHeld ⊢
    refine pure_ (i:=0) (N:=some 51) (v:=?_) (a':=?_) #[true,false,false,false,false,false,false,false,false,false,false,false,false] rfl rfl (by kernel_rfl) (fun _ _ _ h => h) (Or.inl ⟨by rfl, ?_⟩) ?_ ?_
    rotate_left
    ·
     intro w'
     go_simp
     with_reducible rfl
    rotate_left
    ·
     simp only [Act.put, q13I, q130, q131, i64_w, i32_w]
     rfl
    refine pure_ (i:=1) (N:=some 52) (v:=?_) (a':=?_) #[true,true,false,false,false,false,false,false,false,false,false,false,false] rfl rfl (by kernel_rfl) (fun _ _ _ h => h) (Or.inl ⟨by rfl, ?_⟩) ?_ ?_
    rotate_left
    ·
     intro w'
     go_simp
     with_reducible rfl
    rotate_left
    ·
     simp only [Act.put, q13I, q130, q131, i64_w, i32_w]
     rfl
    refine pure_ (i:=2) (N:=some 53) (v:=?_) (a':=?_) #[true,true,true,false,false,false,false,false,false,false,false,false,false] rfl rfl (by kernel_rfl) (fun _ _ _ h => h) (Or.inl ⟨by rfl, ?_⟩) ?_ ?_
    rotate_left
    ·
     intro w'
     go_simp
     with_reducible rfl
    rotate_left
    ·
     simp only [Act.put, q13I, q130, q131, i64_w, i32_w]
     rfl
    refine pure_ (i:=3) (N:=some 54) (v:=?_) (a':=?_) #[true,true,true,true,false,false,false,false,false,false,false,false,false] rfl rfl (by kernel_rfl) (fun _ _ _ h => h) (Or.inl ⟨by rfl, ?_⟩) ?_ ?_
    rotate_left
    ·
     intro w'
     go_simp
     with_reducible rfl
    rotate_left
    ·
     simp only [Act.put, q13I, q130, q131, i64_w, i32_w]
     rfl
    refine pure_ (i:=4) (N:=some 55) (v:=?_) (a':=?_) #[true,true,true,true,true,false,false,false,false,false,false,false,false] rfl rfl (by kernel_rfl) (fun _ _ _ h => h) (Or.inl ⟨by rfl, ?_⟩) ?_ ?_
    rotate_left
    ·
     intro w'
     go_simp
     with_reducible rfl
    rotate_left
    ·
     simp only [Act.put, q13I, q130, q131, i64_w, i32_w]
     rfl
    refine pure_ (i:=6) (N:=some 57) (v:=?_) (a':=?_) #[true,true,true,true,true,false,true,false,false,false,false,false,false] rfl rfl (by kernel_rfl) (fun _ _ _ h => h) (Or.inl ⟨by rfl, ?_⟩) ?_ ?_
    rotate_left
    ·
     intro w'
     go_simp
     with_reducible rfl
    rotate_left
    ·
     simp only [Act.put, q13I, q130, q131, i64_w, i32_w]
     rfl
    refine pure_ (i:=7) (N:=some 58) (v:=?_) (a':=?_) #[true,true,true,true,true,false,true,true,false,false,false,false,false] rfl rfl (by kernel_rfl) (fun _ _ _ h => h) (Or.inl ⟨by rfl, ?_⟩) ?_ ?_
    rotate_left
    ·
     intro w'
     go_simp
     with_reducible rfl
    rotate_left
    ·
     simp only [Act.put, q13I, q130, q131, i64_w, i32_w]
     rfl
    refine one_ (i:=5) (N:=some 56) #[true,true,true,true,true,true,true,true,false,false,false,false,false] rfl rfl (by kernel_rfl) (by decide) (fun K hK => ?_)
    refine goes_ Try.func41 (by kernel_rfl) rfl #[.slice A5 r1.length c5] (by rfl) rfl rfl (by simp only [List.map_toArray, List.map_cons, List.map_nil]; rfl) ?_
    with_reducible refine (crc_at _ A5 c5 r1.length r1 rfl HRB.out (Kd.C_below HV5.out HYD.out) HV5c.out cr HCR.out HRL.out).mono ?_
    rintro e w6 ⟨rfl, hd6⟩
    refine ⟨_, rfl, ?_⟩
    refine hK.out _ _ trivial (fun hHeld => ?_)
    clear hK K
    refine norm_ (a' := ?_) ?_ ?_
    rotate_left
    ·
     show Act.put _ (some 56) _ = _
     simp only [Act.put, q13I, q130, q131, i64_w, i32_w]
     rfl
    refine one_ (i:=8) (N:=some 59) #[true,true,true,true,true,true,true,true,true,false,false,false,false] rfl rfl (by kernel_rfl) (by decide) (fun K hK => ?_)
    refine goes_ Try.func39 (by kernel_rfl) rfl #[.slice AB 4 cB] (by rfl) rfl rfl (by simp only [List.map_toArray, List.map_cons, List.map_nil]; rfl) ?_
    with_reducible refine (pget4 _ AB cB 4 (row.take 4) HR4.out HRB4.out (by decide) (hCR4.out _ (Kd.C_below HVR.out (q13S HYD.out hd6.below))) HC4.out q HQ.out).mono ?_
    rintro e w7 ⟨rfl, hd7⟩
    refine ⟨_, rfl, ?_⟩
    refine hK.out _ _ trivial (fun hHeld => ?_)
    clear hK K
    refine norm_ (a' := ?_) ?_ ?_
    rotate_left
    ·
     show Act.put _ (some 59) _ = _
     simp only [Act.put, q13I, q130, q131, i64_w, i32_w]
     rfl
    refine pure_ (i:=9) (N:=some 60) (v:=?_) (a':=?_) #[true,true,true,true,true,true,true,true,true,true,false,false,false] rfl rfl (by kernel_rfl) (fun _ _ _ h => h) (Or.inl ⟨by rfl, ?_⟩) ?_ ?_
    rotate_left
    ·
     intro w'
     go_simp
     with_reducible rfl
    rotate_left
    ·
     simp only [Act.put, q13I, q130, q131, i64_w, i32_w]
     rfl
    refine pure_ (i:=10) (N:=some 61) (v:=?_) (a':=?_) #[true,true,true,true,true,true,true,true,true,true,true,false,false] rfl rfl (by kernel_rfl) (fun _ _ _ h => h) (Or.inl ⟨by rfl, ?_⟩) ?_ ?_
    rotate_left
    ·
     intro w'
     go_simp
     with_reducible rfl
    rotate_left
    ·
     simp only [Act.put, q13I, q130, q131, i64_w, i32_w]
     rfl
    refine pure_ (i:=11) (N:=some 4) (v:=?_) (a':=?_) #[true,true,true,true,true,true,true,true,true,true,true,true,false] rfl rfl (by kernel_rfl) (fun _ _ _ h => h) (Or.inl ⟨by rfl, ?_⟩) ?_ ?_
    rotate_left
    ·
     intro w'
     go_simp
     with_reducible rfl
    rotate_left
    ·
     simp only [Act.put, q13I, q130, q131, i64_w, i32_w]
     rfl
    refine pure_ (i:=12) (N:=some 5) (v:=?_) (a':=?_) #[true,true,true,true,true,true,true,true,true,true,true,true,true] rfl rfl (by kernel_rfl) (fun _ _ _ h => h) (Or.inl ⟨by rfl, ?_⟩) ?_ ?_
    rotate_left
    ·
     intro w'
     go_simp
     with_reducible rfl
    rotate_left
    ·
     simp only [Act.put, q13I, q130, q131, i64_w, i32_w]
     rfl
    refine done_ (by kernel_rfl) ?_
    have HB7 := q13a (q13S HB5.out (q13S HYD.out (q13S hd6.below hd7.below)))
    have HRV := q13a (Kd.R_lower (Kd.R_below HV5R.out (q13S HYD.out (q13S hd6.below hd7.below))) HSZ3.out)
    clear HB5 HV5R HYD hHeld hd6 hd7
    go_wp2
    refine bodyPost_ret (v := .tuple #[.slice A5 r1.length c5, .bool false]) (by simp [results, Try.results151, go_sem]) rfl ?_
    exact ⟨_, rfl, (fun h => by cases h), HB7.out⟩
  ·
   rw [decide_eq_false (fun h => hr2 h.2.1)]
   have tr1 : (r2 == 0) = false := by simpa using hr2
   have tr2 : ¬ (r2 = 0) := hr2
   clear hr2
   go_enter Try.func151, Try.ntmps151
   go_wp2
   have HBD := q13a (below_drew (Below.refl w.heap.size w))
   have y0_ : w.drew.cell? ⟨g, 0, none⟩ = some (.iface T x) := (blk_cell (blk_drew hI.out.blk) 0).trans rfl
   have y1_ : w.drew.cell? ⟨g, 2, none⟩ = some (.slice (some ad) l.length c) := (blk_cell (blk_drew hI.out.blk) 2).trans rfl
   have y2_ : w.drew.cell? (ad.add (i * 2)) = some (.int .i64 f0) := q13P (below_drew (Below.refl w.heap.size w)) e0
   have y3_ : w.drew.cell? ⟨(ad.add (i * 2)).block, (ad.add (i * 2)).off + 1, none⟩ = some (.int .i64 f1) := q13P (below_drew (Below.refl w.heap.size w)) e1
   refine start_ (n := 28) (S := fun w' => w'.cell? ⟨g, 0, none⟩ = some (.iface T x) ∧ w'.cell? ⟨g, 2, none⟩ = some (.slice (some ad) l.length c) ∧ w'.cell? (ad.add (i * 2)) = some (.int .i64 f0) ∧ w'.cell? ⟨(ad.add (i * 2)).block, (ad.add (i * 2)).off + 1, none⟩ = some (.int .i64 f1)) (ds := []) #[false,false,false,false,false,false,false,false,false,false,false,false,false,false,false,false,false,false,false,false,false,false,false,false,false,false,false,false] (by kernel_rfl) rfl rfl ⟨y0_, y1_, y2_, y3_⟩ (fun hHeld => ?_)
   generalize w.drew = wD at y0_ y1_ y2_ y3_ HBD hHeld ⊢
   refine pure_ (i:=0) (N:=some 10) (v:=?_) (a':=?_) #[true,false,false,false,false,false,false,false,false,false,false,false,false,false,false,false,false,false,false,false,false,false,false,false,false,false,false,false] rfl rfl (by kernel_rfl) (fun _ _ _ h => h) (Or.inl ⟨by rfl, ?_⟩) ?_ ?_
   rotate_left
   ·
    intro w'
    go_simp
    with_reducible rfl
   rotate_left
   ·
    simp only [Act.put, q13I, q130, q131, i64_w, i32_w]
    rfl
   refine pure_ (i:=1) (N:=some 11) (v:=?_) (a':=?_) #[true,true,false,false,false,false,false,false,false,false,false,false,false,false,false,false,false,false,false,false,false,false,false,false,false,false,false,false] rfl rfl (by kernel_rfl) (fun _ _ _ h => h) (Or.inl ⟨by rfl, ?_⟩) ?_ ?_
   rotate_left
   ·
    intro w'
    go_simp
    with_reducible rfl
   rotate_left
   ·
    simp only [Act.put, q13I, q130, q131, i64_w, i32_w]
    rfl
   refine pure_ (i:=2) (N:=some 12) (v:=?_) (a':=?_) #[true,true,true,false,false,false,false,false,false,false,false,false,false,false,false,false,false,false,false,false,false,false,false,false,false,false,false,false] rfl rfl (by kernel_rfl) (fun _ _ _ h => h) (Or.inl ⟨by rfl, ?_⟩) ?_ ?_
   rotate_left
   ·
    intro w'
    go_simp
    with_reducible rfl
   rotate_left
   ·
    simp only [Act.put, q13I, q130, q131, i64_w, i32_w]
    rfl
   refine pure_ (i:=4) (N:=some 14) (v:=?_) (a':=?_) #[true,true,true,false,true,false,false,false,false,false,false,false,false,false,false,false,false,false,false,false,false,false,false,false,false,false,false,false] rfl rfl (by kernel_rfl) (fun _ _ _ h => h) (Or.inl ⟨by rfl, ?_⟩) ?_ ?_
   rotate_left
   ·
    intro w'
    go_simp
    with_reducible rfl
   rotate_left
   ·
    simp only [Act.put, q13I, q130, q131, i64_w, i32_w]
    rfl
   refine pure_ (i:=5) (N:=some 15) (v:=?_) (a':=?_) #[true,true,true,false,true,true,false,false,false,false,false,false,false,false,false,false,false,false,false,false,false,false,false,false,false,false,false,false] rfl rfl (by kernel_rfl) (fun _ _ _ h => h) (Or.inl ⟨by rfl, ?_⟩) ?_ ?_
   rotate_left
   ·
    intro w'
    go_simp
    with_reducible rfl
   rotate_left
   ·
    simp only [Act.put, q13I, q130, q131, i64_w, i32_w]
    rfl
   refine pure_ (i:=6) (N:=some 16) (v:=?_) (a':=?_) #[true,true,true,false,true,true,true,false,false,false,false,false,false,false,false,false,false,false,false,false,false,false,false,false,false,false,false,false] rfl rfl (by kernel_rfl) (fun _ _ _ h => h) (Or.inl ⟨by rfl, ?_⟩) ?_ ?_
   rotate_left
   ·
    intro w'
    go_simp
    with_reducible rfl
   rotate_left
   ·
    simp only [Act.put, q13I, q130, q131, i64_w, i32_w]
    rfl
   refine pure_ (i:=8) (N:=some 18) (v:=?_) (a':=?_) #[true,true,true,false,true,true,true,false,true,false,false,false,false,false,false,false,false,false,false,false,false,false,false,false,false,false,false,false] rfl rfl (by kernel_rfl) (fun _ _ _ h => h) (Or.inl ⟨by rfl, ?_⟩) ?_ ?_
   rotate_left
   ·
    intro w'
    go_simp
    with_reducible rfl
   rotate_left
   ·
    simp only [Act.put, q13I, q130, q131, i64_w, i32_w]
    rfl
   refine pure_ (i:=12) (N:=some 22) (v:=?_) (a':=?_) #[true,true,true,false,true,true,true,false,true,false,false,false,true,false,false,false,false,false,false,false,false,false,false,false,false,false,false,false] rfl rfl (by kernel_rfl) (fun _ _ _ h => h) (Or.inl ⟨by rfl, ?_⟩) ?_ ?_
   rotate_left
   ·
    intro w'
    go_simp
    with_reducible rfl
   rotate_left
   ·
    simp only [Act.put, q13I, q130, q131, i64_w, i32_w]
    rfl
   refine pure_ (i:=13) (N:=some 23) (v:=?_) (a':=?_) #[true,true,true,false,true,true,true,false,true,false,false,false,true,true,false,false,false,false,false,false,false,false,false,false,false,false,false,false] rfl rfl (by kernel_rfl) (fun _ _ _ h => h) (Or.inl ⟨by rfl, ?_⟩) ?_ ?_
   rotate_left
   ·
    intro w'
    go_simp
    with_reducible rfl
   rotate_left
   ·
    simp only [Act.put, q13I, q130, q131, i64_w, i32_w]
    rfl
   refine pure_ (i:=14) (N:=some 24) (v:=?_) (a':=?_) #[true,true,true,false,true,true,true,false,true,false,false,false,true,true,true,false,false,false,false,false,false,false,false,false,false,false,false,false] rfl rfl (by kernel_rfl) (fun _ _ _ h => h) (Or.inl ⟨by rfl, ?_⟩) ?_ ?_
   rotate_left
   ·
    intro w'
    go_simp
    with_reducible rfl
   rotate_left
   ·
    simp only [Act.put, q13I, q130, q131, i64_w, i32_w]
    rfl
   refine pure_ (i:=16) (N:=some 26) (v:=?_) (a':=?_) #[true,true,true,false,true,true,true,false,true,false,false,false,true,true,true,false,true,false,false,false,false,false,false,false,false,false,false,false] rfl rfl (by kernel_rfl) (fun _ _ _ h => h) (Or.inl ⟨by rfl, ?_⟩) ?_ ?_
   rotate_left
   ·
    intro w'
    go_simp
    with_reducible rfl
   rotate_left
   ·
    simp only [Act.put, q13I, q130, q131, i64_w, i32_w]
    rfl
   refine take_ (i:=3) (N:=some 13) (v:=?_) (a':=?_) #[true,true,true,true,true,true,true,false,true,false,false,false,true,true,true,false,true,false,false,false,false,false,false,false,false,false,false,false] rfl rfl (by kernel_rfl) (fun _ _ _ h => h) (Or.inl ⟨by rfl, ?_⟩) hHeld ?_ ?_
   rotate_left
   ·
    rintro w' ⟨s0, s1, s2, s3⟩
    go_simp
    with_reducible rfl
   rotate_left
   ·
    simp only [Act.put, q13I, q130, q131, i64_w, i32_w]
    rfl
   refine pure_ (i:=20) (N:=some 30) (v:=?_) (a':=?_) #[true,true,true,true,true,true,true,false,true,false,false,false,true,true,true,false,true,false,false,false,true,false,false,false,false,false,false,false] rfl rfl (by kernel_rfl) (fun _ _ _ h => h) (Or.inl ⟨by rfl, ?_⟩) ?_ ?_
   rotate_left
   ·
    intro w'
    go_simp
    with_reducible rfl
   rotate_left
   ·
    simp only [Act.put, q13I, q130, q131, i64_w, i32_w]
    rfl
   refine pure_ (i:=21) (N:=some 31) (v:=?_) (a':=?_) #[true,true,true,true,true,true,true,false,true,false,false,false,true,true,true,false,true,false,false,false,true,true,false,false,false,false,false,false] rfl rfl (by kernel_rfl) (fun _ _ _ h => h) (Or.inl ⟨by rfl, ?_⟩) ?_ ?_
   rotate_left
   ·
    intro w'
    go_simp
    with_reducible rfl
   rotate_left
   ·
    simp only [Act.put, q13I, q130, q131, i64_w, i32_w]
    rfl
   refine take_ (i:=7) (N:=some 17) (v:=?_) (a':=?_) #[true,true,true,true,true,true,true,true,true,false,false,false,true,true,true,false,true,false,false,false,true,true,false,false,false,false,false,false] rfl rfl (by kernel_rfl) (fun _ _ _ h => h) (Or.inl ⟨by rfl, ?_⟩) hHeld ?_ ?_
   rotate_left
   ·
    rintro w' ⟨s0, s1, s2, s3⟩
    go_simp
    with_reducible rfl
   rotate_left
   ·
    simp only [Act.put, q13I, q130, q131, i64_w, i32_w]
    rfl
   refine pure_ (i:=9) (N:=some 19) (v:=?_) (a':=?_) #[true,true,true,true,true,true,true,true,true,true,false,false,true,true,true,false,true,false,false,false,true,true,false,false,false,false,false,false] rfl rfl (by kernel_rfl) (fun _ _ _ h => h) (Or.inl ⟨by rfl, ?_⟩) ?_ ?_
   rotate_left
   ·
    intro w'
    go_simp
    with_reducible rfl
   rotate_left
   ·
    simp only [Act.put, q13I, q130, q131, i64_w, i32_w]
    rfl
   refine pure_ (i:=10) (N:=some 20) (v:=?_) (a':=?_) #[true,true,true,true,true,true,true,true,true,true,true,false,true,true,true,false,true,false,false,false,true,true,false,false,false,false,false,false] rfl rfl (by kernel_rfl) (fun _ _ _ h => h) (Or.inl ⟨by rfl, ?_⟩) ?_ ?_
   rotate_left
   ·
    intro w'
    go_simp
    with_reducible rfl
   rotate_left
   ·
    simp only [Act.put, q13I, q130, q131, i64_w, i32_w]
    rfl
   refine take_ (i:=11) (N:=some 21) (v:=?_) (a':=?_) #[true,true,true,true,true,true,true,true,true,true,true,true,true,true,true,false,true,false,false,false,true,true,false,false,false,false,false,false] rfl rfl (by kernel_rfl) (fun _ _ _ h => h) (Or.inl ⟨by rfl, ?_⟩) hHeld ?_ ?_
   rotate_left
   ·
    rintro w' ⟨s0, s1, s2, s3⟩
    go_simp
    with_reducible rfl
   rotate_left
   ·
    simp only [Act.put, q13I, q130, q131, i64_w, i32_w]
    rfl
   refine take_ (i:=15) (N:=some 25) (v:=?_) (a':=?_) #[true,true,true,true,true,true,true,true,true,true,true,true,true,true,true,true,true,false,false,false,true,true,false,false,false,false,false,false] rfl rfl (by kernel_rfl) (fun _ _ _ h => h) (Or.inl ⟨by rfl, ?_⟩) hHeld ?_ ?_
   rotate_left
   ·
    rintro w' ⟨s0, s1, s2, s3⟩
    go_simp
    with_reducible rfl
   rotate_left
   ·
    simp only [Act.put, q13I, q130, q131, i64_w, i32_w]
    rfl
   refine pure_ (i:=17) (N:=some 27) (v:=?_) (a':=?_) #[true,true,true,true,true,true,true,true,true,true,true,true,true,true,true,true,true,true,false,false,true,true,false,false,false,false,false,false] rfl rfl (by kernel_rfl) (fun _ _ _ h => h) (Or.inl ⟨by rfl, ?_⟩) ?_ ?_
   rotate_left
   ·
    intro w'
    go_simp
    with_reducible rfl
   rotate_left
   ·
    simp only [Act.put, q13I, q130, q131, i64_w, i32_w]
    rfl
   refine pure_ (i:=18) (N:=some 28) (v:=?_) (a':=?_) #[true,true,true,true,true,true,true,true,true,true,true,true,true,true,true,true,true,true,true,false,true,true,false,false,false,false,false,false] rfl rfl (by kernel_rfl) (fun _ _ _ h => h) (Or.inl ⟨by rfl, ?_⟩) ?_ ?_
   rotate_left
   ·
    intro w'
    go_simp
    with_reducible rfl
   rotate_left
   ·
    simp only [Act.put, q13I, q130, q131, i64_w, i32_w]
    rfl
   refine take_ (i:=19) (N:=some 29) (v:=?_) (a':=?_) #[true,true,true,true,true,true,true,true,true,true,true,true,true,true,true,true,true,true,true,true,true,true,false,false,false,false,false,false] rfl rfl (by kernel_rfl) (fun _ _ _ h => h) (Or.inl ⟨by rfl, ?_⟩) hHeld ?_ ?_
   rotate_left
   ·
    rintro w' ⟨s0, s1, s2, s3⟩
    go_simp
    with_reducible rfl
   rotate_left
   ·
    simp only [Act.put, q13I, q130, q131, i64_w, i32_w]
    rfl
   refine one_ (i:=22) (N:=some 32) #[true,true,true,true,true,true,true,true,true,true,true,true,true,true,true,true,true,true,true,true,true,true,true,false,false,false,false,false] rfl rfl (by kernel_rfl) (by decide) (fun K hK => ?_)
   refine call_ fR #[x, .int .i64 f0, .int .i64 f1] (by rfl) rfl ?_ ?_
   ·
    unfold execOp
    simp [resolve, Deferred.ofValue, invoke, callMethod, Act.eval]
    rw [show 199 + Made.depth = 299 from rfl, hmR.out.run]
    exact hmR.out.ent _ _
   with_reducible refine (HREAD.out _ HBD.out).mono ?_
   rintro e w3 ⟨v3, rfl, hv3, hb3⟩
   refine ⟨_, rfl, ?_⟩
   refine hK.out _ _ ⟨q13P hb3 y0_, q13P hb3 y1_, q13P hb3 y2_, q13P hb3 y3_⟩ (fun hHeld => ?_)
   clear hK K
   refine norm_ (a' := ?_) ?_ ?_
   rotate_left
   ·
    show Act.put _ (some 32) _ = _
    simp only [Act.put, q13I, q130, q131, i64_w, i32_w]
    rfl
   refine pure_ (i:=23) (N:=some 9) (v:=?_) (a':=?_) #[true,true,true,true,true,true,true,true,true,true,true,true,true,true,true,true,true,true,true,true,true,true,true,true,false,false,false,false] rfl rfl (by kernel_rfl) (fun _ _ _ h => h) (Or.inl ⟨by rfl, ?_⟩) ?_ ?_
   rotate_left
   ·
    intro w'
    go_simp
    with_reducible rfl
   rotate_left
   ·
    simp only [Act.put, q13I, q130, q131, i64_w, i32_w]
    rfl
   refine pure_ (i:=24) (N:=some 33) (v:=?_) (a':=?_) #[true,true,true,true,true,true,true,true,true,true,true,true,true,true,true,true,true,true,true,true,true,true,true,true,true,false,false,false] rfl rfl (by kernel_rfl) (fun _ _ _ h => h) (Or.inl ⟨by rfl, ?_⟩) ?_ ?_
   rotate_left
   ·
    intro w'
    go_simp
    with_reducible rfl
   rotate_left
   ·
    simp only [Act.put, q13I, q130, q131, i64_w, i32_w]
    rfl
   refine pure_ (i:=25) (N:=some 34) (v:=?_) (a':=?_) #[true,true,true,true,true,true,true,true,true,true,true,true,true,true,true,true,true,true,true,true,true,true,true,true,true,true,false,false] rfl rfl (by kernel_rfl) (fun _ _ _ h => h) (Or.inl ⟨by rfl, ?_⟩) ?_ ?_
   rotate_left
   ·
    intro w'
    go_simp
    with_reducible rfl
   rotate_left
   ·
    simp only [Act.put, q13I, q130, q131, i64_w, i32_w]
    rfl
   refine pure_ (i:=26) (N:=some 6) (v:=?_) (a':=?_) #[true,true,true,true,true,true,true,true,true,true,true,true,true,true,true,true,true,true,true,true,true,true,true,true,true,true,true,false] rfl rfl (by kernel_rfl) (fun _ _ _ h => h) (Or.inl ⟨by rfl, ?_⟩) ?_ ?_
   rotate_left
   ·
    intro w'
    go_simp
    with_reducible rfl
   rotate_left
   ·
    simp only [Act.put, q13I, q130, q131, i64_w, i32_w]
    rfl
   refine pure_ (i:=27) (N:=some 7) (v:=?_) (a':=?_) #[true,true,true,true,true,true,true,true,true,true,true,true,true,true,true,true,true,true,true,true,true,true,true,true,true,true,true,true] rfl rfl (by kernel_rfl) (fun _ _ _ h => h) (Or.inl ⟨by rfl, ?_⟩) ?_ ?_
   rotate_left
   ·
    intro w'
    go_simp
    with_reducible rfl
   rotate_left
   ·
    simp only [Act.put, q13I, q130, q131, i64_w, i32_w]
    rfl
   refine done_ (by kernel_rfl) ?_
   have HB3 := q13a (q13S HBD.out hb3)
   obtain ⟨AB, cB, eB⟩ := Kd.R_slice hv3
   rw [HROW.out] at eB
   subst eB
   have hVX := Kd.R_reads' hv3
   rw [HROW.out] at hVX
   have HV3 := q13a hVX.2.2
   have HC4 := q13a (show 4 ≤ cB from Nat.le_trans hm4 hVX.2.1)
   have HTC := q13a (show m - 4 ≤ cB - 4 by have := hVX.2.1; omega)
   have hI3 := q13a (hI.out.below (q13S HBD.out hb3))
   obtain ⟨AT, hct, hCT⟩ := cut_four (A := AB) hm4 hVX.2.1 HROW.out
   replace hCT := q13a hCT
   obtain ⟨hc4, hCR4⟩ := cut_head (A := AB) hm4 hVX.2.1 HROW.out
   replace hCR4 := q13a hCR4
   clear HBD hb3 hv3 y0_ y1_ y2_ y3_ hHeld hVX hI
   go_wp2
   have HXD := q13a (below_drew (Below.refl w3.heap.size w3))
   have z0_ : w3.drew.cell? ⟨g, 1, none⟩ = some (.int .i64 (size : Int)) := (blk_cell (blk_drew hI3.out.blk) 1).trans rfl
   refine start_ (n := 16) (S := fun w' => w'.cell? ⟨g, 1, none⟩ = some (.int .i64 (size : Int))) (ds := []) #[false,false,false,false,false,false,false,false,false,false,false,false,false,false,false,false] (by kernel_rfl) rfl rfl (z0_) (fun hHeld => ?_)
   generalize w3.drew = wE at z0_ HXD hHeld ⊢
   refine pure_ (i:=0) (N:=some 38) (v:=?_) (a':=?_) #[true,false,false,false,false,false,false,false,false,false,false,false,false,false,false,false] rfl rfl (by kernel_rfl) (fun _ _ _ h => h) (Or.inl ⟨by rfl, ?_⟩) ?_ ?_
   rotate_left
   ·
    intro w'
    go_simp
    with_reducible rfl
   rotate_left
   ·
    simp only [Act.put, q13I, q130, q131, i64_w, i32_w]
    rfl
   refine pure_ (i:=1) (N:=some 39) (v:=?_) (a':=?_) #[true,true,false,false,false,false,false,false,false,false,false,false,false,false,false,false] rfl rfl (by kernel_rfl) (fun _ _ _ h => h) (Or.inl ⟨by rfl, ?_⟩) ?_ ?_
   rotate_left
   ·
    intro w'
    go_simp
    with_reducible rfl
   rotate_left
   ·
    simp only [Act.put, q13I, q130, q131, i64_w, i32_w]
    rfl
   refine pure_ (i:=2) (N:=some 40) (v:=?_) (a':=?_) #[true,true,true,false,false,false,false,false,false,false,false,false,false,false,false,false] rfl rfl (by kernel_rfl) (fun _ _ _ h => h) (Or.inl ⟨by rfl, ?_⟩) ?_ ?_
   rotate_left
   ·
    intro w'
    go_simp
    with_reducible rfl
   rotate_left
   ·
    simp only [Act.put, q13I, q130, q131, i64_w, i32_w]
    rfl
   refine pure_ (i:=3) (N:=some 41) (v:=?_) (a':=?_) #[true,true,true,true,false,false,false,false,false,false,false,false,false,false,false,false] rfl rfl (by kernel_rfl) (fun _ _ _ h => h) (Or.inl ⟨by rfl, ?_⟩) ?_ ?_
   rotate_left
   ·
    intro w'
    go_simp
    with_reducible rfl
   rotate_left
   ·
    simp only [Act.put, q13I, q130, q131, i64_w, i32_w]
    rfl
   refine pure_ (i:=4) (N:=some 42) (v:=?_) (a':=?_) #[true,true,true,true,true,false,false,false,false,false,false,false,false,false,false,false] rfl rfl (by kernel_rfl) (fun _ _ _ h => h) (Or.inl ⟨by rfl, ?_⟩) ?_ ?_
   rotate_left
   ·
    intro w'
    go_simp
    with_reducible rfl
   rotate_left
   ·
    simp only [Act.put, q13I, q130, q131, i64_w, i32_w]
    rfl
   refine pure_ (i:=6) (N:=some 44) (v:=?_) (a':=?_) #[true,true,true,true,true,false,true,false,false,false,false,false,false,false,false,false] rfl rfl (by kernel_rfl) (fun _ _ _ h => h) (Or.inl ⟨by rfl, ?_⟩) ?_ ?_
   rotate_left
   ·
    intro w'
    go_simp
    with_reducible rfl
   rotate_left
   ·
    simp only [Act.put, q13I, q130, q131, i64_w, i32_w]
    rfl
   refine pure_ (i:=7) (N:=some 45) (v:=?_) (a':=?_) #[true,true,true,true,true,false,true,true,false,false,false,false,false,false,false,false] rfl rfl (by kernel_rfl) (fun _ _ _ h => h) (Or.inl ⟨by rfl, ?_⟩) ?_ ?_
   rotate_left
   ·
    intro w'
    go_simp
    with_reducible rfl
   rotate_left
   ·
    simp only [Act.put, q13I, q130, q131, i64_w, i32_w]
    rfl
   refine take_ (i:=5) (N:=some 43) (v:=?_) (a':=?_) #[true,true,true,true,true,true,true,true,false,false,false,false,false,false,false,false] rfl rfl (by kernel_rfl) (fun _ _ _ h => h) (Or.inl ⟨by rfl, ?_⟩) hHeld ?_ ?_
   rotate_left
   ·
    intro w' s0
    go_simp
    with_reducible rfl
   rotate_left
   ·
    simp only [Act.put, q13I, q130, q131, i64_w, i32_w]
    rfl
   refine pure_ (i:=8) (N:=some 46) (v:=?_) (a':=?_) #[true,true,true,true,true,true,true,true,true,false,false,false,false,false,false,false] rfl rfl (by kernel_rfl) (fun _ _ _ h => h) (Or.inl ⟨by rfl, ?_⟩) ?_ ?_
   rotate_left
   ·
    intro w'
    go_simp
    with_reducible rfl
   rotate_left
   ·
    simp only [Act.put, q13I, q130, q131, i64_w, i32_w]
    rfl
   refine pure_ (i:=9) (N:=some 47) (v:=?_) (a':=?_) #[true,true,true,true,true,true,true,true,true,true,false,false,false,false,false,false] rfl rfl (by kernel_rfl) (fun _ _ _ h => h) (Or.inl ⟨by rfl, ?_⟩) ?_ ?_
   rotate_left
   ·
    intro w'
    go_simp
    with_reducible rfl
   rotate_left
   ·
    simp only [Act.put, q13I, q130, q131, i64_w, i32_w]
    rfl
   refine one_ (i:=10) (N:=some 48) #[true,true,true,true,true,true,true,true,true,true,true,false,false,false,false,false] rfl rfl (by kernel_rfl) (by decide) (fun K hK => ?_)
   refine goes_ Try.func37 (by kernel_rfl) rfl #[.slice AT (m - 4) (cB - 4), .int .i64 mn] (by rfl) rfl rfl (by simp only [List.map_toArray, List.map_cons, List.map_nil]; rfl) ?_
   with_reducible refine (up_at _ AT (cB - 4) (m - 4) (row.drop 4) mn _ HTL.out (hCT.out _ (Kd.C_below HV3.out HXD.out)) HTC.out HUP.out).mono ?_
   rintro e w5 ⟨v5, rfl, hv5, hb5⟩
   refine ⟨_, rfl, ?_⟩
   refine hK.out _ _ (q13P hb5 z0_) (fun hHeld => ?_)
   clear hK K
   refine norm_ (a' := ?_) ?_ ?_
   rotate_left
   ·
    show Act.put _ (some 48) _ = _
    simp only [Act.put, q13I, q130, q131, i64_w, i32_w]
    rfl
   refine pure_ (i:=11) (N:=some 37) (v:=?_) (a':=?_) #[true,true,true,true,true,true,true,true,true,true,true,true,false,false,false,false] rfl rfl (by kernel_rfl) (fun _ _ _ h => h) (Or.inl ⟨by rfl, ?_⟩) ?_ ?_
   rotate_left
   ·
    intro w'
    go_simp
    with_reducible rfl
   rotate_left
   ·
    simp only [Act.put, q13I, q130, q131, i64_w, i32_w]
    rfl
   refine pure_ (i:=12) (N:=some 49) (v:=?_) (a':=?_) #[true,true,true,true,true,true,true,true,true,true,true,true,true,false,false,false] rfl rfl (by kernel_rfl) (fun _ _ _ h => h) (Or.inl ⟨by rfl, ?_⟩) ?_ ?_
   rotate_left
   ·
    intro w'
    go_simp
    with_reducible rfl
   rotate_left
   ·
    simp only [Act.put, q13I, q130, q131, i64_w, i32_w]
    rfl
   refine pure_ (i:=13) (N:=some 50) (v:=?_) (a':=?_) #[true,true,true,true,true,true,true,true,true,true,true,true,true,true,false,false] rfl rfl (by kernel_rfl) (fun _ _ _ h => h) (Or.inl ⟨by rfl, ?_⟩) ?_ ?_
   rotate_left
   ·
    intro w'
    go_simp
    with_reducible rfl
   rotate_left
   ·
    simp only [Act.put, q13I, q130, q131, i64_w, i32_w]
    rfl
   refine pure_ (i:=14) (N:=some 8) (v:=?_) (a':=?_) #[true,true,true,true,true,true,true,true,true,true,true,true,true,true,true,false] rfl rfl (by kernel_rfl) (fun _ _ _ h => h) (Or.inl ⟨by rfl, ?_⟩) ?_ ?_
   rotate_left
   ·
    intro w'
    go_simp
    with_reducible rfl
   rotate_left
   ·
    simp only [Act.put, q13I, q130, q131, i64_w, i32_w]
    rfl
   refine pure_ (i:=15) (N:=some 7) (v:=?_) (a':=?_) #[true,true,true,true,true,true,true,true,true,true,true,true,true,true,true,true] rfl rfl (by kernel_rfl) (fun _ _ _ h => h) (Or.inl ⟨by rfl, ?_⟩) ?_ ?_
   rotate_left
   ·
    intro w'
    go_simp
    with_reducible rfl
   rotate_left
   ·
    simp only [Act.put, q13I, q130, q131, i64_w, i32_w]
    rfl
   refine done_ (by kernel_rfl) ?_
   obtain ⟨A5, c5, e5⟩ := Kd.R_slice hv5
   subst e5
   have HV5 := q13a (Kd.R_reads' hv5).2.2
   have HV5c := q13a (Kd.R_reads' hv5).2.1
   have HV5R := q13a hv5
   have HB5 := q13a (q13S HB3.out (q13S HXD.out hb5))
   have HVR := q13a (Kd.C_below HV3.out (q13S HXD.out hb5))
   have HSZ3 := q13a (q13S HB3.out HXD.out).size
   clear hb5 hv5 z0_ hHeld HB3 HXD HV3
   go_wp2
   have HYD := q13a (below_drew (Below.refl w5.heap.size w5))
   refine start_ (n := 13) (S := fun w' => True) (ds := []) #[false,false,false,false,false,false,false,false,false,false,false,false,false] (by kernel_rfl) rfl rfl trivial (fun hHeld => ?_)
   generalize w5.drew = wF at HYD hHeld ⊢
   refine pure_ (i:=0) (N:=some 51) (v:=?_) (a':=?_) #[true,false,false,false,false,false,false,false,false,false,false,false,false] rfl rfl (by kernel_rfl) (fun _ _ _ h => h) (Or.inl ⟨by rfl, ?_⟩) ?_ ?_
   rotate_left
   ·
    intro w'
    go_simp
    with_reducible rfl
   rotate_left
   ·
    simp only [Act.put, q13I, q130, q131, i64_w, i32_w]
    rfl
   refine pure_ (i:=1) (N:=some 52) (v:=?_) (a':=?_) #[true,true,false,false,false,false,false,false,false,false,false,false,false] rfl rfl (by kernel_rfl) (fun _ _ _ h => h) (Or.inl ⟨by rfl, ?_⟩) ?_ ?_
   rotate_left
   ·
    intro w'
    go_simp
    with_reducible rfl
   rotate_left
   ·
    simp only [Act.put, q13I, q130, q131, i64_w, i32_w]
    rfl
   refine pure_ (i:=2) (N:=some 53) (v:=?_) (a':=?_) #[true,true,true,false,false,false,false,false,false,false,false,false,false] rfl rfl (by kernel_rfl) (fun _ _ _ h => h) (Or.inl ⟨by rfl, ?_⟩) ?_ ?_
   rotate_left
   ·
    intro w'
    go_simp
    with_reducible rfl
   rotate_left
   ·
    simp only [Act.put, q13I, q130, q131, i64_w, i32_w]
    rfl
   refine pure_ (i:=3) (N:=some 54) (v:=?_) (a':=?_) #[true,true,true,true,false,false,false,false,false,false,false,false,false] rfl rfl (by kernel_rfl) (fun _ _ _ h => h) (Or.inl ⟨by rfl, ?_⟩) ?_ ?_
   rotate_left
   ·
    intro w'
    go_simp
    with_reducible rfl
   rotate_left
   ·
    simp only [Act.put, q13I, q130, q131, i64_w, i32_w]
    rfl
   refine pure_ (i:=4) (N:=some 55) (v := undef) (a' := ?_) #[true,true,true,true,true,false,false,false,false,false,false,false,false] rfl rfl (by kernel_rfl) (fun _ _ _ h => h) (Or.inr ⟨by rfl, rfl⟩) ?_ ?_
   rotate_left
   ·
    simp only [Act.put, q13I, q130, q131, i64_w, i32_w]
    rfl
   refine pure_ (i:=5) (N:=some 56) (v := undef) (a' := ?_) #[true,true,true,true,true,true,false,false,false,false,false,false,false] rfl rfl (by kernel_rfl) (fun _ _ _ h => h) (Or.inr ⟨by rfl, rfl⟩) ?_ ?_
   rotate_left
   ·
    simp only [Act.put, q13I, q130, q131, i64_w, i32_w]
    rfl
   refine pure_ (i:=6) (N:=some 57) (v := undef) (a' := ?_) #[true,true,true,true,true,true,true,false,false,false,false,false,false] rfl rfl (by kernel_rfl) (fun _ _ _ h => h) (Or.inr ⟨by rfl, rfl⟩) ?_ ?_
   rotate_left
   ·
    simp only [Act.put, q13I, q130, q131, i64_w, i32_w]
    rfl
   refine pure_ (i:=7) (N:=some 58) (v := undef) (a' := ?_) #[true,true,true,true,true,true,true,true,false,false,false,false,false] rfl rfl (by kernel_rfl) (fun _ _ _ h => h) (Or.inr ⟨by rfl, rfl⟩) ?_ ?_
   rotate_left
   ·
    simp only [Act.put, q13I, q130, q131, i64_w, i32_w]
    rfl
   refine pure_ (i:=8) (N:=some 59) (v := undef) (a' := ?_) #[true,true,true,true,true,true,true,true,true,false,false,false,false] rfl rfl (by kernel_rfl) (fun _ _ _ h => h) (Or.inr ⟨by rfl, rfl⟩) ?_ ?_
   rotate_left
   ·
    simp only [Act.put, q13I, q130, q131, i64_w, i32_w]
    rfl
   refine pure_ (i:=9) (N:=some 60) (v := undef) (a' := ?_) #[true,true,true,true,true,true,true,true,true,true,false,false,false] rfl rfl (by kernel_rfl) (fun _ _ _ h => h) (Or.inr ⟨by rfl, rfl⟩) ?_ ?_
   rotate_left
   ·
    simp only [Act.put, q13I, q130, q131, i64_w, i32_w]
    rfl
   refine pure_ (i:=10) (N:=some 61) (v:=?_) (a':=?_) #[true,true,true,true,true,true,true,true,true,true,true,false,false] rfl rfl (by kernel_rfl) (fun _ _ _ h => h) (Or.inl ⟨by rfl, ?_⟩) ?_ ?_
   rotate_left
   ·
    intro w'
    go_simp
    with_reducible rfl
   rotate_left
   ·
    simp only [Act.put, q13I, q130, q131, i64_w, i32_w]
    rfl
   refine pure_ (i:=11) (N:=some 4) (v:=?_) (a':=?_) #[true,true,true,true,true,true,true,true,true,true,true,true,false] rfl rfl (by kernel_rfl) (fun _ _ _ h => h) (Or.inl ⟨by rfl, ?_⟩) ?_ ?_
   rotate_left
   ·
    intro w'
    go_simp
    with_reducible rfl
   rotate_left
   ·
    simp only [Act.put, q13I, q130, q131, i64_w, i32_w]
    rfl
   refine pure_ (i:=12) (N:=some 5) (v:=?_) (a':=?_) #[true,true,true,true,true,true,true,true,true,true,true,true,true] rfl rfl (by kernel_rfl) (fun _ _ _ h => h) (Or.inl ⟨by rfl, ?_⟩) ?_ ?_
   rotate_left
   ·
    intro w'
    go_simp
    with_reducible rfl
   rotate_left
   ·
    simp only [Act.put, q13I, q130, q131, i64_w, i32_w]
    rfl
   refine done_ (by kernel_rfl) ?_
   have HB7 := q13a (q13S HB5.out (HYD.out))
   have HRV := q13a (Kd.R_lower (Kd.R_below HV5R.out (HYD.out)) HSZ3.out)
   clear HB5 HV5R HYD hHeld 
   go_wp2
   refine bodyPost_ret (v := .tuple #[.slice A5 r1.length c5, .bool false]) (by simp [results, Try.results151, go_sem]) rfl ?_
   exact ⟨_, rfl, (fun h => by cases h), HB7.out⟩
 ·
  rw [decide_eq_false (fun h => e h.1)]
  obtain ⟨E, hE⟩ : ∃ E, E = readErr b.length bad f0 f1 := ⟨_, rfl⟩
  rw [← hE] at hread e
  have te1 : (E != 0) = true := bne_iff_ne.mpr e
  have te2 : ¬ (E = 0) := e
  have HREAD := q13a hread
  clear h hI0 hread e hE hU2 hy hU h4 hr hf0 hf1 hb hn hl
  go_enter Try.func151, Try.ntmps151
  go_wp2
  have HBD := q13a (below_drew (Below.refl w.heap.size w))
  have y0_ : w.drew.cell? ⟨g, 0, none⟩ = some (.iface T x) := (blk_cell (blk_drew hI.out.blk) 0).trans rfl
  have y1_ : w.drew.cell? ⟨g, 2, none⟩ = some (.slice (some ad) l.length c) := (blk_cell (blk_drew hI.out.blk) 2).trans rfl
  have y2_ : w.drew.cell? (ad.add (i * 2)) = some (.int .i64 f0) := q13P (below_drew (Below.refl w.heap.size w)) e0
  have y3_ : w.drew.cell? ⟨(ad.add (i * 2)).block, (ad.add (i * 2)).off + 1, none⟩ = some (.int .i64 f1) := q13P (below_drew (Below.refl w.heap.size w)) e1
  refine start_ (n := 28) (S := fun w' => w'.cell? ⟨g, 0, none⟩ = some (.iface T x) ∧ w'.cell? ⟨g, 2, none⟩ = some (.slice (some ad) l.length c) ∧ w'.cell? (ad.add (i * 2)) = some (.int .i64 f0) ∧ w'.cell? ⟨(ad.add (i * 2)).block, (ad.add (i * 2)).off + 1, none⟩ = some (.int .i64 f1)) (ds := []) #[false,false,false,false,false,false,false,false,false,false,false,false,false,false,false,false,false,false,false,false,false,false,false,false,false,false,false,false] (by kernel_rfl) rfl rfl ⟨y0_, y1_, y2_, y3_⟩ (fun hHeld => ?_)
  generalize w.drew = wD at y0_ y1_ y2_ y3_ HBD hHeld ⊢
  refine pure_ (i:=0) (N:=some 10) (v:=?_) (a':=?_) #[true,false,false,false,false,false,false,false,false,false,false,false,false,false,false,false,false,false,false,false,false,false,false,false,false,false,false,false] rfl rfl (by kernel_rfl) (fun _ _ _ h => h) (Or.inl ⟨by rfl, ?_⟩) ?_ ?_
  rotate_left
  ·
   intro w'
   go_simp
   with_reducible rfl
  rotate_left
  ·
   simp only [Act.put, q13I, q130, q131, i64_w, i32_w]
   rfl
  refine pure_ (i:=1) (N:=some 11) (v:=?_) (a':=?_) #[true,true,false,false,false,false,false,false,false,false,false,false,false,false,false,false,false,false,false,false,false,false,false,false,false,false,false,false] rfl rfl (by kernel_rfl) (fun _ _ _ h => h) (Or.inl ⟨by rfl, ?_⟩) ?_ ?_
  rotate_left
  ·
   intro w'
   go_simp
   with_reducible rfl
  rotate_left
  ·
   simp only [Act.put, q13I, q130, q131, i64_w, i32_w]
   rfl
  refine pure_ (i:=2) (N:=some 12) (v:=?_) (a':=?_) #[true,true,true,false,false,false,false,false,false,false,false,false,false,false,false,false,false,false,false,false,false,false,false,false,false,false,false,false] rfl rfl (by kernel_rfl) (fun _ _ _ h => h) (Or.inl ⟨by rfl, ?_⟩) ?_ ?_
  rotate_left
  ·
   intro w'
   go_simp
   with_reducible rfl
  rotate_left
  ·
   simp only [Act.put, q13I, q130, q131, i64_w, i32_w]
   rfl
  refine pure_ (i:=4) (N:=some 14) (v:=?_) (a':=?_) #[true,true,true,false,true,false,false,false,false,false,false,false,false,false,false,false,false,false,false,false,false,false,false,false,false,false,false,false] rfl rfl (by kernel_rfl) (fun _ _ _ h => h) (Or.inl ⟨by rfl, ?_⟩) ?_ ?_
  rotate_left
  ·
   intro w'
   go_simp
   with_reducible rfl
  rotate_left
  ·
   simp only [Act.put, q13I, q130, q131, i64_w, i32_w]
   rfl
  refine pure_ (i:=5) (N:=some 15) (v:=?_) (a':=?_) #[true,true,true,false,true,true,false,false,false,false,false,false,false,false,false,false,false,false,false,false,false,false,false,false,false,false,false,false] rfl rfl (by kernel_rfl) (fun _ _ _ h => h) (Or.inl ⟨by rfl, ?_⟩) ?_ ?_
  rotate_left
  ·
   intro w'
   go_simp
   with_reducible rfl
  rotate_left
  ·
   simp only [Act.put, q13I, q130, q131, i64_w, i32_w]
   rfl
  refine pure_ (i:=6) (N:=some 16) (v:=?_) (a':=?_) #[true,true,true,false,true,true,true,false,false,false,false,false,false,false,false,false,false,false,false,false,false,false,false,false,false,false,false,false] rfl rfl (by kernel_rfl) (fun _ _ _ h => h) (Or.inl ⟨by rfl, ?_⟩) ?_ ?_
  rotate_left
  ·
   intro w'
   go_simp
   with_reducible rfl
  rotate_left
  ·
   simp only [Act.put, q13I, q130, q131, i64_w, i32_w]
   rfl
  refine pure_ (i:=8) (N:=some 18) (v:=?_) (a':=?_) #[true,true,true,false,true,true,true,false,true,false,false,false,false,false,false,false,false,false,false,false,false,false,false,false,false,false,false,false] rfl rfl (by kernel_rfl) (fun _ _ _ h => h) (Or.inl ⟨by rfl, ?_⟩) ?_ ?_
  rotate_left
  ·
   intro w'
   go_simp
   with_reducible rfl
  rotate_left
  ·
   simp only [Act.put, q13I, q130, q131, i64_w, i32_w]
   rfl
  refine pure_ (i:=12) (N:=some 22) (v:=?_) (a':=?_) #[true,true,true,false,true,true,true,false,true,false,false,false,true,false,false,false,false,false,false,false,false,false,false,false,false,false,false,false] rfl rfl (by kernel_rfl) (fun _ _ _ h => h) (Or.inl ⟨by rfl, ?_⟩) ?_ ?_
  rotate_left
  ·
   intro w'
   go_simp
   with_reducible rfl
  rotate_left
  ·
   simp only [Act.put, q13I, q130, q131, i64_w, i32_w]
   rfl
  refine pure_ (i:=13) (N:=some 23) (v:=?_) (a':=?_) #[true,true,true,false,true,true,true,false,true,false,false,false,true,true,false,false,false,false,false,false,false,false,false,false,false,false,false,false] rfl rfl (by kernel_rfl) (fun _ _ _ h => h) (Or.inl ⟨by rfl, ?_⟩) ?_ ?_
  rotate_left
  ·
   intro w'
   go_simp
   with_reducible rfl
  rotate_left
  ·
   simp only [Act.put, q13I, q130, q131, i64_w, i32_w]
   rfl
  refine pure_ (i:=14) (N:=some 24) (v:=?_) (a':=?_) #[true,true,true,false,true,true,true,false,true,false,false,false,true,true,true,false,false,false,false,false,false,false,false,false,false,false,false,false] rfl rfl (by kernel_rfl) (fun _ _ _ h => h) (Or.inl ⟨by rfl, ?_⟩) ?_ ?_
  rotate_left
  ·
   intro w'
   go_simp
   with_reducible rfl
  rotate_left
  ·
   simp only [Act.put, q13I, q130, q131, i64_w, i32_w]
   rfl
  refine pure_ (i:=16) (N:=some 26) (v:=?_) (a':=?_) #[true,true,true,false,true,true,true,false,true,false,false,false,true,true,true,false,true,false,false,false,false,false,false,false,false,false,false,false] rfl rfl (by kernel_rfl) (fun _ _ _ h => h) (Or.inl ⟨by rfl, ?_⟩) ?_ ?_
  rotate_left
  ·
   intro w'
   go_simp
   with_reducible rfl
  rotate_left
  ·
   simp only [Act.put, q13I, q130, q131, i64_w, i32_w]
   rfl
  refine take_ (i:=3) (N:=some 13) (v:=?_) (a':=?_) #[true,true,true,true,true,true,true,false,true,false,false,false,true,true,true,false,true,false,false,false,false,false,false,false,false,false,false,false] rfl rfl (by kernel_rfl) (fun _ _ _ h => h) (Or.inl ⟨by rfl, ?_⟩) hHeld ?_ ?_
  rotate_left
  ·
   rintro w' ⟨s0, s1, s2, s3⟩
   go_simp
   with_reducible rfl
  rotate_left
  ·
   simp only [Act.put, q13I, q130, q131, i64_w, i32_w]
   rfl
  refine pure_ (i:=20) (N:=some 30) (v:=?_) (a':=?_) #[true,true,true,true,true,true,true,false,true,false,false,false,true,true,true,false,true,false,false,false,true,false,false,false,false,false,false,false] rfl rfl (by kernel_rfl) (fun _ _ _ h => h) (Or.inl ⟨by rfl, ?_⟩) ?_ ?_
  rotate_left
  ·
   intro w'
   go_simp
   with_reducible rfl
  rotate_left
  ·
   simp only [Act.put, q13I, q130, q131, i64_w, i32_w]
   rfl
  refine pure_ (i:=21) (N:=some 31) (v:=?_) (a':=?_) #[true,true,true,true,true,true,true,false,true,false,false,false,true,true,true,false,true,false,false,false,true,true,false,false,false,false,false,false] rfl rfl (by kernel_rfl) (fun _ _ _ h => h) (Or.inl ⟨by rfl, ?_⟩) ?_ ?_
  rotate_left
  ·
   intro w'
   go_simp
   with_reducible rfl
  rotate_left
  ·
   simp only [Act.put, q13I, q130, q131, i64_w, i32_w]
   rfl
  refine take_ (i:=7) (N:=some 17) (v:=?_) (a':=?_) #[true,true,true,true,true,true,true,true,true,false,false,false,true,true,true,false,true,false,false,false,true,true,false,false,false,false,false,false] rfl rfl (by kernel_rfl) (fun _ _ _ h => h) (Or.inl ⟨by rfl, ?_⟩) hHeld ?_ ?_
  rotate_left
  ·
   rintro w' ⟨s0, s1, s2, s3⟩
   go_simp
   with_reducible rfl
  rotate_left
  ·
   simp only [Act.put, q13I, q130, q131, i64_w, i32_w]
   rfl
  refine pure_ (i:=9) (N:=some 19) (v:=?_) (a':=?_) #[true,true,true,true,true,true,true,true,true,true,false,false,true,true,true,false,true,false,false,false,true,true,false,false,false,false,false,false] rfl rfl (by kernel_rfl) (fun _ _ _ h => h) (Or.inl ⟨by rfl, ?_⟩) ?_ ?_
  rotate_left
  ·
   intro w'
   go_simp
   with_reducible rfl
  rotate_left
  ·
   simp only [Act.put, q13I, q130, q131, i64_w, i32_w]
   rfl
  refine pure_ (i:=10) (N:=some 20) (v:=?_) (a':=?_) #[true,true,true,true,true,true,true,true,true,true,true,false,true,true,true,false,true,false,false,false,true,true,false,false,false,false,false,false] rfl rfl (by kernel_rfl) (fun _ _ _ h => h) (Or.inl ⟨by rfl, ?_⟩) ?_ ?_
  rotate_left
  ·
   intro w'
   go_simp
   with_reducible rfl
  rotate_left
  ·
   simp only [Act.put, q13I, q130, q131, i64_w, i32_w]
   rfl
  refine take_ (i:=11) (N:=some 21) (v:=?_) (a':=?_) #[true,true,true,true,true,true,true,true,true,true,true,true,true,true,true,false,true,false,false,false,true,true,false,false,false,false,false,false] rfl rfl (by kernel_rfl) (fun _ _ _ h => h) (Or.inl ⟨by rfl, ?_⟩) hHeld ?_ ?_
  rotate_left
  ·
   rintro w' ⟨s0, s1, s2, s3⟩
   go_simp
   with_reducible rfl
  rotate_left
  ·
   simp only [Act.put, q13I, q130, q131, i64_w, i32_w]
   rfl
  refine take_ (i:=15) (N:=some 25) (v:=?_) (a':=?_) #[true,true,true,true,true,true,true,true,true,true,true,true,true,true,true,true,true,false,false,false,true,true,false,false,false,false,false,false] rfl rfl (by kernel_rfl) (fun _ _ _ h => h) (Or.inl ⟨by rfl, ?_⟩) hHeld ?_ ?_
  rotate_left
  ·
   rintro w' ⟨s0, s1, s2, s3⟩
   go_simp
   with_reducible rfl
  rotate_left
  ·
   simp only [Act.put, q13I, q130, q131, i64_w, i32_w]
   rfl
  refine pure_ (i:=17) (N:=some 27) (v:=?_) (a':=?_) #[true,true,true,true,true,true,true,true,true,true,true,true,true,true,true,true,true,true,false,false,true,true,false,false,false,false,false,false] rfl rfl (by kernel_rfl) (fun _ _ _ h => h) (Or.inl ⟨by rfl, ?_⟩) ?_ ?_
  rotate_left
  ·
   intro w'
   go_simp
   with_reducible rfl
  rotate_left
  ·
   simp only [Act.put, q13I, q130, q131, i64_w, i32_w]
   rfl
  refine pure_ (i:=18) (N:=some 28) (v:=?_) (a':=?_) #[true,true,true,true,true,true,true,true,true,true,true,true,true,true,true,true,true,true,true,false,true,true,false,false,false,false,false,false] rfl rfl (by kernel_rfl) (fun _ _ _ h => h) (Or.inl ⟨by rfl, ?_⟩) ?_ ?_
  rotate_left
  ·
   intro w'
   go_simp
   with_reducible rfl
  rotate_left
  ·
   simp only [Act.put, q13I, q130, q131, i64_w, i32_w]
   rfl
  refine take_ (i:=19) (N:=some 29) (v:=?_) (a':=?_) #[true,true,true,true,true,true,true,true,true,true,true,true,true,true,true,true,true,true,true,true,true,true,false,false,false,false,false,false] rfl rfl (by kernel_rfl) (fun _ _ _ h => h) (Or.inl ⟨by rfl, ?_⟩) hHeld ?_ ?_
  rotate_left
  ·
   rintro w' ⟨s0, s1, s2, s3⟩
   go_simp
   with_reducible rfl
  rotate_left
  ·
   simp only [Act.put, q13I, q130, q131, i64_w, i32_w]
   rfl
  refine one_ (i:=22) (N:=some 32) #[true,true,true,true,true,true,true,true,true,true,true,true,true,true,true,true,true,true,true,true,true,true,true,false,false,false,false,false] rfl rfl (by kernel_rfl) (by decide) (fun K hK => ?_)
  refine call_ fR #[x, .int .i64 f0, .int .i64 f1] (by rfl) rfl ?_ ?_
  ·
   unfold execOp
   simp [resolve, Deferred.ofValue, invoke, callMethod, Act.eval]
   rw [show 199 + Made.depth = 299 from rfl, hmR.out.run]
   exact hmR.out.ent _ _
  with_reducible refine (HREAD.out _ HBD.out).mono ?_
  rintro e w3 ⟨v3, rfl, hv3, hb3⟩
  refine ⟨_, rfl, ?_⟩
  refine hK.out _ _ ⟨q13P hb3 y0_, q13P hb3 y1_, q13P hb3 y2_, q13P hb3 y3_⟩ (fun hHeld => ?_)
  clear hK K
  refine norm_ (a' := ?_) ?_ ?_
  rotate_left
  ·
   show Act.put _ (some 32) _ = _
   simp only [Act.put, q13I, q130, q131, i64_w, i32_w]
   rfl
  refine pure_ (i:=23) (N:=some 9) (v:=?_) (a':=?_) #[true,true,true,true,true,true,true,true,true,true,true,true,true,true,true,true,true,true,true,true,true,true,true,true,false,false,false,false] rfl rfl (by kernel_rfl) (fun _ _ _ h => h) (Or.inl ⟨by rfl, ?_⟩) ?_ ?_
  rotate_left
  ·
   intro w'
   go_simp
   with_reducible rfl
  rotate_left
  ·
   simp only [Act.put, q13I, q130, q131, i64_w, i32_w]
   rfl
  refine pure_ (i:=24) (N:=some 33) (v:=?_) (a':=?_) #[true,true,true,true,true,true,true,true,true,true,true,true,true,true,true,true,true,true,true,true,true,true,true,true,true,false,false,false] rfl rfl (by kernel_rfl) (fun _ _ _ h => h) (Or.inl ⟨by rfl, ?_⟩) ?_ ?_
  rotate_left
  ·
   intro w'
   go_simp
   with_reducible rfl
  rotate_left
  ·
   simp only [Act.put, q13I, q130, q131, i64_w, i32_w]
   rfl
  refine pure_ (i:=25) (N:=some 34) (v:=?_) (a':=?_) #[true,true,true,true,true,true,true,true,true,true,true,true,true,true,true,true,true,true,true,true,true,true,true,true,true,true,false,false] rfl rfl (by kernel_rfl) (fun _ _ _ h => h) (Or.inl ⟨by rfl, ?_⟩) ?_ ?_
  rotate_left
  ·
   intro w'
   go_simp
   with_reducible rfl
  rotate_left
  ·
   simp only [Act.put, q13I, q130, q131, i64_w, i32_w]
   rfl
  refine pure_ (i:=26) (N:=some 6) (v:=?_) (a':=?_) #[true,true,true,true,true,true,true,true,true,true,true,true,true,true,true,true,true,true,true,true,true,true,true,true,true,true,true,false] rfl rfl (by kernel_rfl) (fun _ _ _ h => h) (Or.inl ⟨by rfl, ?_⟩) ?_ ?_
  rotate_left
  ·
   intro w'
   go_simp
   with_reducible rfl
  rotate_left
  ·
   simp only [Act.put, q13I, q130, q131, i64_w, i32_w]
   rfl
  refine pure_ (i:=27) (N:=some 7) (v:=?_) (a':=?_) #[true,true,true,true,true,true,true,true,true,true,true,true,true,true,true,true,true,true,true,true,true,true,true,true,true,true,true,true] rfl rfl (by kernel_rfl) (fun _ _ _ h => h) (Or.inl ⟨by rfl, ?_⟩) ?_ ?_
  rotate_left
  ·
   intro w'
   go_simp
   with_reducible rfl
  rotate_left
  ·
   simp only [Act.put, q13I, q130, q131, i64_w, i32_w]
   rfl
  refine done_ (by kernel_rfl) ?_
  have HB3 := q13a (q13S HBD.out hb3)
  clear HBD hb3 hv3 y0_ y1_ y2_ y3_ hHeld
  go_wp2
  refine bodyPost_ret (v := .tuple #[.slice none 0 0, .bool false]) (by simp [results, Try.results151, go_sem]) rfl ?_
  exact ⟨_, rfl, (fun h => by cases h), HB3.out⟩
end Go.Proofs.Ytgkjkhhppmnajaa.Pure
