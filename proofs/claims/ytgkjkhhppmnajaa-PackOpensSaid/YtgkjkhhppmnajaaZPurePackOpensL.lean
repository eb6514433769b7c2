/- Packed layers: a unit of the reference. No condition. -/
import Derived.Test.YtgkjkhhppmnajaaZPurePackOpensK
import Derived.Lib.Bytes
import Derived.Lib.Repeat
import Derived.Lib.EndianBits
namespace Go.Proofs.Ytgkjkhhppmnajaa.Pure
open Go.Proofs.Ytgkjkhhppmnajaa.SumPlain Go.Maps
open Go Go.RowKit Go.Proofs.Ytgkjkhhppmnajaa.QPackOpens Go.Proofs.YtgkjkhhppmnajaaW.PrintWords Go.Proofs.YtgkjkhhppmnajaaW.PrintLast Go.Proofs.YtgkjkhhppmnajaaW.PrintMore
set_option linter.unusedVariables false
set_option linter.unusedSimpArgs false
theorem q16I : type_of% @List.setIfInBounds_toArray := @List.setIfInBounds_toArray
theorem q160 : type_of% @List.set_cons_zero := @List.set_cons_zero
theorem q161 : type_of% @List.set_cons_succ := @List.set_cons_succ
theorem q16T : type_of% @List.map_toArray := @List.map_toArray
theorem q16M : type_of% @List.map_cons := @List.map_cons
theorem q16P : type_of% @pw_cell_below := @pw_cell_below
theorem q16L : type_of% @List.map_nil := @List.map_nil
theorem q16S : type_of% @below_step := @below_step
theorem q16a : type_of% @Aside0.mk := @Aside0.mk
theorem bytes_back (xs : List Int) (h : Bytes xs) : bytesOf (strOfNums xs) = xs := by
 unfold bytesOf strOfNums
 simp only [List.map_map]
 conv => rhs; rw [← List.map_id xs]
 apply List.map_congr_left
 intro x hx
 have := h x hx
 simp only [Function.comp, id]
 rw [UInt8.toNat_ofNat']
 omega
theorem arr3_0 (a b c : Value) : (#[a, b, c] : Array Value)[0]? = some a := rfl
theorem arr3_2 (a b c : Value) : (#[a, b, c] : Array Value)[2]? = some c := rfl
set_option maxHeartbeats 16000000 in
set_option maxRecDepth 100000 in
/-- the reference's bytes of a unit -/
theorem runit_calls (w : World) (T : Nat) (x : Value) (fR fO fS fP : Nat) (b fr : List Int) (bad : List Bool) (h : SrcIs w T x fR fO fS fP b fr bad) (hb : Bytes b) (hn : b.length ≤ 65536) (size : Nat) (hd : Int) (A : Option Addr) (c : Nat) (l : List S45) (hC : Kd.C k45 w A l.length l) (hs : size ≤ 65536) (hl : l.length ≤ 65536) (R : Nat → List Int × Int) (hU : UN b bad size l R) (h4 : ∀ y ∈ l, 4 ≤ y.f1) (i : Nat) (hi : i < l.length) :
  Calls Try.prog 11 #[.agg #[.int .i64 (size : Int), .int .i64 hd, .slice A l.length c], .iface T x, .int .i64 (i : Int)] w fun e w' => ∃ u, e = .returned (.tuple #[.string u, .bool (okU b bad l R i)]) ∧ (okU b bad l R i = true → u = strOfNums (R i).1) ∧ u.size ≤ 256 ∧ Below w.heap.size w w' := by
 have hlti : (i : Int) < (l.length : Int) := by omega
 have hBx := below_alloc (Below.refl w.heap.size w) (.cells #[.int .i64 (size : Int), .int .i64 hd, .slice A l.length c] 37)
 have hXx := blk_new w (.cells #[.int .i64 (size : Int), .int .i64 hd, .slice A l.length c] 37)
 obtain ⟨ad, rfl, e0, e1⟩ := at_T45 (Kd.C_below hC hBx) (i : Int) (by omega) hlti
 rw [Int.toNat_natCast] at e0 e1
 have hU2 := hU.ev i hi
 have hy := h4 (rd_T45 l (i : Int)) (rd_mem l i hi)
 unfold okU
 obtain ⟨f0, hf0⟩ : ∃ f, f = (rd_T45 l (i : Int)).f0 := ⟨_, rfl⟩
 obtain ⟨f1, hf1⟩ : ∃ f, f = (rd_T45 l (i : Int)).f1 := ⟨_, rfl⟩
 obtain ⟨r, hr⟩ : ∃ r, r = R i := ⟨_, rfl⟩
 rw [← hf0] at e0
 rw [← hf1] at e1 hy
 rw [← hf0, ← hf1, ← hr] at hU2 ⊢
 obtain ⟨r1, r2⟩ := r
 simp only at hU2 ⊢
 obtain ⟨row, hrow⟩ : ∃ q, q = readRow b bad f0 f1 := ⟨_, rfl⟩
 have hget := fun W (hb : Below w.heap.size w W) => get_calls W T x fR fO fS fP b fr bad (h.below hb) f0 f1
 rw [← hrow] at hget hU2 ⊢
 have hu37 := Try.underlying37
 have hlt2 : decide ((i : Int) < (l.length : Int)) = true := decide_eq_true hlti
 have hlt3 : decide (i < l.length) = true := decide_eq_true hi
 obtain ⟨s, hse⟩ : ∃ s, s = strOfNums row := ⟨_, rfl⟩
 rw [← hse] at hget
 have HGET := q16a hget
 have hX1 := q16a hXx
 have HB1 := q16a hBx
 by_cases e : readErr b.length bad f0 f1 = 0
 ·
  obtain ⟨hok, _, hev⟩ := hU2 e
  have hR := Classical.byContradiction fun hR2 : ¬ inR b.length f0 f1 => by unfold readErr at e; rw [if_neg hR2] at e; exact absurd e (by decide)
  have hrl : row.length = f1.toNat := by
   rw [hrow]; unfold readRow; rw [if_pos e, List.length_take, List.length_drop]
   have := hR.1; have := hR.2.1; have := hR.2.2; omega
  have hrB : Bytes row := by
   rw [hrow]; unfold readRow; rw [if_pos e]; exact b_cut hb _ _
  have hm4 : 4 ≤ row.length := by omega
  have hm6 : row.length ≤ 65536 := by have := hR.1; have := hR.2.2; omega
  have hne : ¬ (s.toList = []) := fun h2 => by
   rw [hse] at h2
   have := (str_nil row).1 h2
   rw [this] at hm4
   simp at hm4
  have hsz : s.size = row.length := by rw [hse, str_size]
  obtain ⟨s4, hs4⟩ : ∃ t, t = strOfNums (row.drop 4) := ⟨_, rfl⟩
  obtain ⟨h4s, hh4⟩ : ∃ t, t = strOfNums (row.take 4) := ⟨_, rfl⟩
  have hcut4 : s.extract 4 s.size = s4 := by rw [hsz, hse, hs4, str_cut, List.take_length]
  have hcut0 : s.extract 0 4 = h4s := by rw [hse, hh4, str_cut, List.drop_zero]
  obtain ⟨mn, hmn⟩ : ∃ q, q = min 256 ((size : Int) - (i : Int) * 256) := ⟨_, rfl⟩
  rw [← hmn, ← hs4] at hev
  obtain ⟨u, hu⟩ : ∃ u, u = strOfNums r1 := ⟨_, rfl⟩
  rw [← hu] at hev
  obtain ⟨kt, hkt⟩ := hev.rounds
  have HTK := q16a hkt
  have h256 : r1.length ≤ 256 := hok.2.2
  have HUS := q16a (show u.size ≤ 140737488355328 by rw [hu, str_size]; omega)
  have HUL := q16a (show u.size ≤ 256 by rw [hu, str_size]; exact h256)
  have HUB := q16a (show bytesOf u = r1 by rw [hu]; exact bytes_back r1 hok.1)
  obtain ⟨q, hq⟩ : ∃ q, leN (row.take 4) = q := ⟨_, rfl⟩
  obtain ⟨cr, hcr⟩ : ∃ q, crcOf r1 = q := ⟨_, rfl⟩
  obtain ⟨kc, hkc⟩ := (ref_ev r1 hok.1 (by omega)).rounds
  obtain ⟨kn, hkn⟩ := (num_ev (row.take 4) (b_tk hrB 4) (by rw [List.length_take]; omega)).rounds
  rw [hcr] at hkc
  rw [← hh4, hq] at hkn
  have HKC := q16a hkc
  have HKN := q16a hkn
  rw [hq, hcr]
  obtain ⟨o, ho⟩ : ∃ o, o = (i : Int) * 256 := ⟨_, rfl⟩
  have ho2 : 0 ≤ o ∧ o ≤ 16777216 := by omega
  have hw1 : IntKind.i64.wrap (256 * (i : Int)) = o := by rw [i64_w, ho]; unfold wrap64; omega
  have hw1b : wrap64 (256 * (i : Int)) = o := by rw [ho]; unfold wrap64; omega
  rw [← ho] at hmn
  obtain ⟨Y, hY⟩ : ∃ Y, Y = (size : Int) - o := ⟨_, rfl⟩
  have hw2 : IntKind.i64.wrap ((size : Int) - o) = Y := by rw [i64_w, ← hY]; unfold wrap64; omega
  have hw2b : wrap64 ((size : Int) - o) = Y := by rw [← hY]; unfold wrap64; omega
  rw [← hY] at hmn
  have hx1 : min 256 Y = mn := hmn.symm
  have hx2 : (if Y < 256 then Y else 256) = mn := by rw [hmn]; split <;> omega
  have hx3 : (if (256 : Int) < Y then 256 else Y) = mn := by rw [hmn]; split <;> omega
  have hne3 : s.toList.isEmpty = false := by
   cases h9 : s.toList with
   | nil => exact absurd h9 hne
   | cons y ys => rfl
  have hne2 : decide (s.toList = []) = false := decide_eq_false hne
  have hs4n : 4 ≤ s.size := by rw [hsz]; exact hm4
  have hs4i : (4 : Int) ≤ (s.size : Int) := by omega
  have hs4d : decide (4 ≤ s.size) = true := decide_eq_true hs4n
  have HU1 := q16a (show u = strOfNums r1 from hu)
  have HE := q16a e
  clear h hU2 hy hU h4 hr hf0 hf1 hb hn hl hget hse hrow e hBx hXx hC hs hok hev hR hrl hrB hm4 hm6 hsz hs4 hh4 hmn hu hkt h256 hq hcr hkc hkn ho ho2 hY
  by_cases hr2 : r2 = 0
  ·
   subst hr2
   by_cases hcq : cr = q
   ·
    rw [decide_eq_true ⟨HE.out, rfl, hcq⟩]
    have tq1 : (cr == q) = true := by simpa using hcq
    have tq2 : decide (cr = q) = true := decide_eq_true hcq
    clear hcq
    go_enter Try.func11, Try.ntmps11
    go_wp2
    generalize w.alloc (.cells #[.int .i64 (size : Int), .int .i64 hd, .slice (some ad) l.length c] 37) = w1 at hX1 HB1 e0 e1 ⊢
    have HBD := q16a (below_drew HB1.out)
    have y0_ : w1.drew.cell? ⟨w.heap.size, 2, none⟩ = some (.slice (some ad) l.length c) := (blk_cell (blk_drew hX1.out) 2).trans (arr3_2 _ _ _)
    have y1_ : w1.drew.cell? (ad.add (i * 2)) = some (.int .i64 f0) := q16P (below_drew (Below.refl w1.heap.size w1)) e0
    have y2_ : w1.drew.cell? ⟨(ad.add (i * 2)).block, (ad.add (i * 2)).off + 1, none⟩ = some (.int .i64 f1) := q16P (below_drew (Below.refl w1.heap.size w1)) e1
    have hXD := q16a (blk_drew hX1.out)
    clear HB1 hX1 e0 e1
    refine start_ (n := 15) (S := fun w' => w'.cell? ⟨w.heap.size, 2, none⟩ = some (.slice (some ad) l.length c) ∧ w'.cell? (ad.add (i * 2)) = some (.int .i64 f0) ∧ w'.cell? ⟨(ad.add (i * 2)).block, (ad.add (i * 2)).off + 1, none⟩ = some (.int .i64 f1)) (ds := []) #[false,false,false,false,false,false,false,false,false,false,false,false,false,false,false] (by kernel_rfl) rfl rfl ⟨y0_, y1_, y2_⟩ (fun hHeld => ?_)
    generalize w1.drew = wD at y0_ y1_ y2_ HBD hXD hHeld ⊢
    refine pure_ (i:=0) (N:=some 11) (v:=?_) (a':=?_) #[true,false,false,false,false,false,false,false,false,false,false,false,false,false,false] rfl rfl (by kernel_rfl) (fun _ _ _ h => h) (Or.inl ⟨by rfl, ?_⟩) ?_ ?_
    rotate_left
    ·
     intro w'
     go_simp
     with_reducible rfl
    rotate_left
    ·
     simp only [Act.put, q16I, q160, q161, i64_w, i32_w]
     rfl
    refine pure_ (i:=1) (N:=some 12) (v:=?_) (a':=?_) #[true,true,false,false,false,false,false,false,false,false,false,false,false,false,false] rfl rfl (by kernel_rfl) (fun _ _ _ h => h) (Or.inl ⟨by rfl, ?_⟩) ?_ ?_
    rotate_left
    ·
     intro w'
     go_simp
     with_reducible rfl
    rotate_left
    ·
     simp only [Act.put, q16I, q160, q161, i64_w, i32_w]
     rfl
    refine pure_ (i:=3) (N:=some 14) (v:=?_) (a':=?_) #[true,true,false,true,false,false,false,false,false,false,false,false,false,false,false] rfl rfl (by kernel_rfl) (fun _ _ _ h => h) (Or.inl ⟨by rfl, ?_⟩) ?_ ?_
    rotate_left
    ·
     intro w'
     go_simp
     with_reducible rfl
    rotate_left
    ·
     simp only [Act.put, q16I, q160, q161, i64_w, i32_w]
     rfl
    refine pure_ (i:=7) (N:=some 18) (v:=?_) (a':=?_) #[true,true,false,true,false,false,false,true,false,false,false,false,false,false,false] rfl rfl (by kernel_rfl) (fun _ _ _ h => h) (Or.inl ⟨by rfl, ?_⟩) ?_ ?_
    rotate_left
    ·
     intro w'
     go_simp
     with_reducible rfl
    rotate_left
    ·
     simp only [Act.put, q16I, q160, q161, i64_w, i32_w]
     rfl
    refine pure_ (i:=9) (N:=some 20) (v:=?_) (a':=?_) #[true,true,false,true,false,false,false,true,false,true,false,false,false,false,false] rfl rfl (by kernel_rfl) (fun _ _ _ h => h) (Or.inl ⟨by rfl, ?_⟩) ?_ ?_
    rotate_left
    ·
     intro w'
     go_simp
     with_reducible rfl
    rotate_left
    ·
     simp only [Act.put, q16I, q160, q161, i64_w, i32_w]
     rfl
    refine take_ (i:=2) (N:=some 13) (v:=?_) (a':=?_) #[true,true,true,true,false,false,false,true,false,true,false,false,false,false,false] rfl rfl (by kernel_rfl) (fun _ _ _ h => h) (Or.inl ⟨by rfl, ?_⟩) hHeld ?_ ?_
    rotate_left
    ·
     rintro w' ⟨s0, s1, s2⟩
     go_simp
     with_reducible rfl
    rotate_left
    ·
     simp only [Act.put, q16I, q160, q161, i64_w, i32_w]
     rfl
    refine pure_ (i:=4) (N:=some 15) (v:=?_) (a':=?_) #[true,true,true,true,true,false,false,true,false,true,false,false,false,false,false] rfl rfl (by kernel_rfl) (fun _ _ _ h => h) (Or.inl ⟨by rfl, ?_⟩) ?_ ?_
    rotate_left
    ·
     intro w'
     go_simp
     with_reducible rfl
    rotate_left
    ·
     simp only [Act.put, q16I, q160, q161, i64_w, i32_w]
     rfl
    refine pure_ (i:=5) (N:=some 16) (v:=?_) (a':=?_) #[true,true,true,true,true,true,false,true,false,true,false,false,false,false,false] rfl rfl (by kernel_rfl) (fun _ _ _ h => h) (Or.inl ⟨by rfl, ?_⟩) ?_ ?_
    rotate_left
    ·
     intro w'
     go_simp
     with_reducible rfl
    rotate_left
    ·
     simp only [Act.put, q16I, q160, q161, i64_w, i32_w]
     rfl
    refine take_ (i:=6) (N:=some 17) (v:=?_) (a':=?_) #[true,true,true,true,true,true,true,true,false,true,false,false,false,false,false] rfl rfl (by kernel_rfl) (fun _ _ _ h => h) (Or.inl ⟨by rfl, ?_⟩) hHeld ?_ ?_
    rotate_left
    ·
     rintro w' ⟨s0, s1, s2⟩
     go_simp
     with_reducible rfl
    rotate_left
    ·
     simp only [Act.put, q16I, q160, q161, i64_w, i32_w]
     rfl
    refine take_ (i:=8) (N:=some 19) (v:=?_) (a':=?_) #[true,true,true,true,true,true,true,true,true,true,false,false,false,false,false] rfl rfl (by kernel_rfl) (fun _ _ _ h => h) (Or.inl ⟨by rfl, ?_⟩) hHeld ?_ ?_
    rotate_left
    ·
     rintro w' ⟨s0, s1, s2⟩
     go_simp
     with_reducible rfl
    rotate_left
    ·
     simp only [Act.put, q16I, q160, q161, i64_w, i32_w]
     rfl
    refine pure_ (i:=10) (N:=some 21) (v:=?_) (a':=?_) #[true,true,true,true,true,true,true,true,true,true,true,false,false,false,false] rfl rfl (by kernel_rfl) (fun _ _ _ h => h) (Or.inl ⟨by rfl, ?_⟩) ?_ ?_
    rotate_left
    ·
     intro w'
     go_simp
     with_reducible rfl
    rotate_left
    ·
     simp only [Act.put, q16I, q160, q161, i64_w, i32_w]
     rfl
    refine pure_ (i:=11) (N:=some 22) (v:=?_) (a':=?_) #[true,true,true,true,true,true,true,true,true,true,true,true,false,false,false] rfl rfl (by kernel_rfl) (fun _ _ _ h => h) (Or.inl ⟨by rfl, ?_⟩) ?_ ?_
    rotate_left
    ·
     intro w'
     go_simp
     with_reducible rfl
    rotate_left
    ·
     simp only [Act.put, q16I, q160, q161, i64_w, i32_w]
     rfl
    refine take_ (i:=12) (N:=some 23) (v:=?_) (a':=?_) #[true,true,true,true,true,true,true,true,true,true,true,true,true,false,false] rfl rfl (by kernel_rfl) (fun _ _ _ h => h) (Or.inl ⟨by rfl, ?_⟩) hHeld ?_ ?_
    rotate_left
    ·
     rintro w' ⟨s0, s1, s2⟩
     go_simp
     with_reducible rfl
    rotate_left
    ·
     simp only [Act.put, q16I, q160, q161, i64_w, i32_w]
     rfl
    refine one_ (i:=13) (N:=some 24) #[true,true,true,true,true,true,true,true,true,true,true,true,true,true,false] rfl rfl (by kernel_rfl) (by decide) (fun K hK => ?_)
    refine goes_ Try.func42 (by kernel_rfl) rfl #[.iface T x, .int .i64 f0, .int .i64 f1] (by rfl) rfl rfl (by simp only [q16T, q16M, q16L]; rfl) ?_
    with_reducible refine (HGET.out _ HBD.out).mono ?_
    rintro e w3 ⟨rfl, hb3⟩
    refine ⟨_, rfl, ?_⟩
    refine hK.out _ _ ⟨q16P hb3 y0_, q16P hb3 y1_, q16P hb3 y2_⟩ (fun hHeld => ?_)
    clear hK K
    refine norm_ (a' := ?_) ?_ ?_
    rotate_left
    ·
     show Act.put _ (some 24) _ = _
     simp only [Act.put, q16I, q160, q161, i64_w, i32_w]
     rfl
    refine pure_ (i:=14) (N:=some 8) (v:=?_) (a':=?_) #[true,true,true,true,true,true,true,true,true,true,true,true,true,true,true] rfl rfl (by kernel_rfl) (fun _ _ _ h => h) (Or.inl ⟨by rfl, ?_⟩) ?_ ?_
    rotate_left
    ·
     intro w'
     go_simp
     with_reducible rfl
    rotate_left
    ·
     simp only [Act.put, q16I, q160, q161, i64_w, i32_w]
     rfl
    refine done_ (by kernel_rfl) ?_
    have HB3 := q16a (q16S HBD.out hb3)
    have hX3 := q16a (blk_below hXD.out hb3)
    clear HBD hb3 y0_ y1_ y2_ hHeld hXD
    go_wp2
    have HXD := q16a (below_drew HB3.out)
    have z0_ : w3.drew.cell? ⟨w.heap.size, 0, none⟩ = some (.int .i64 (size : Int)) := (blk_cell (blk_drew hX3.out) 0).trans (arr3_0 _ _ _)
    clear HB3 hX3
    refine start_ (n := 14) (S := fun w' => w'.cell? ⟨w.heap.size, 0, none⟩ = some (.int .i64 (size : Int))) (ds := []) #[false,false,false,false,false,false,false,false,false,false,false,false,false,false] (by kernel_rfl) rfl rfl (z0_) (fun hHeld => ?_)
    generalize w3.drew = wE at z0_ HXD hHeld ⊢
    refine pure_ (i:=0) (N:=some 28) (v:=?_) (a':=?_) #[true,false,false,false,false,false,false,false,false,false,false,false,false,false] rfl rfl (by kernel_rfl) (fun _ _ _ h => h) (Or.inl ⟨by rfl, ?_⟩) ?_ ?_
    rotate_left
    ·
     intro w'
     go_simp
     with_reducible rfl
    rotate_left
    ·
     simp only [Act.put, q16I, q160, q161, i64_w, i32_w]
     rfl
    refine pure_ (i:=1) (N:=some 29) (v:=?_) (a':=?_) #[true,true,false,false,false,false,false,false,false,false,false,false,false,false] rfl rfl (by kernel_rfl) (fun _ _ _ h => h) (Or.inl ⟨by rfl, ?_⟩) ?_ ?_
    rotate_left
    ·
     intro w'
     go_simp
     with_reducible rfl
    rotate_left
    ·
     simp only [Act.put, q16I, q160, q161, i64_w, i32_w]
     rfl
    refine pure_ (i:=2) (N:=some 30) (v:=?_) (a':=?_) #[true,true,true,false,false,false,false,false,false,false,false,false,false,false] rfl rfl (by kernel_rfl) (fun _ _ _ h => h) (Or.inl ⟨by rfl, ?_⟩) ?_ ?_
    rotate_left
    ·
     intro w'
     go_simp
     with_reducible rfl
    rotate_left
    ·
     simp only [Act.put, q16I, q160, q161, i64_w, i32_w]
     rfl
    refine pure_ (i:=4) (N:=some 32) (v:=?_) (a':=?_) #[true,true,true,false,true,false,false,false,false,false,false,false,false,false] rfl rfl (by kernel_rfl) (fun _ _ _ h => h) (Or.inl ⟨by rfl, ?_⟩) ?_ ?_
    rotate_left
    ·
     intro w'
     go_simp
     with_reducible rfl
    rotate_left
    ·
     simp only [Act.put, q16I, q160, q161, i64_w, i32_w]
     rfl
    refine pure_ (i:=5) (N:=some 33) (v:=?_) (a':=?_) #[true,true,true,false,true,true,false,false,false,false,false,false,false,false] rfl rfl (by kernel_rfl) (fun _ _ _ h => h) (Or.inl ⟨by rfl, ?_⟩) ?_ ?_
    rotate_left
    ·
     intro w'
     go_simp
     with_reducible rfl
    rotate_left
    ·
     simp only [Act.put, q16I, q160, q161, i64_w, i32_w]
     rfl
    refine take_ (i:=3) (N:=some 31) (v:=?_) (a':=?_) #[true,true,true,true,true,true,false,false,false,false,false,false,false,false] rfl rfl (by kernel_rfl) (fun _ _ _ h => h) (Or.inl ⟨by rfl, ?_⟩) hHeld ?_ ?_
    rotate_left
    ·
     intro w' s0
     go_simp
     with_reducible rfl
    rotate_left
    ·
     simp only [Act.put, q16I, q160, q161, i64_w, i32_w]
     rfl
    refine pure_ (i:=6) (N:=some 34) (v:=?_) (a':=?_) #[true,true,true,true,true,true,true,false,false,false,false,false,false,false] rfl rfl (by kernel_rfl) (fun _ _ _ h => h) (Or.inl ⟨by rfl, ?_⟩) ?_ ?_
    rotate_left
    ·
     intro w'
     go_simp
     with_reducible rfl
    rotate_left
    ·
     simp only [Act.put, q16I, q160, q161, i64_w, i32_w]
     rfl
    refine pure_ (i:=7) (N:=some 35) (v:=?_) (a':=?_) #[true,true,true,true,true,true,true,true,false,false,false,false,false,false] rfl rfl (by kernel_rfl) (fun _ _ _ h => h) (Or.inl ⟨by rfl, ?_⟩) ?_ ?_
    rotate_left
    ·
     intro w'
     go_simp
     with_reducible rfl
    rotate_left
    ·
     simp only [Act.put, q16I, q160, q161, i64_w, i32_w]
     rfl
    refine one_ (i:=8) (N:=some 36) #[true,true,true,true,true,true,true,true,true,false,false,false,false,false] rfl rfl (by kernel_rfl) (by decide) (fun K hK => ?_)
    refine goes_ Try.func47 (by kernel_rfl) rfl #[.string s4, .int .i64 mn] (by rfl) rfl rfl (by simp only [q16T, q16M, q16L]; rfl) ?_
    with_reducible refine (wrackref1_Tokens.calls kt s4 mn u _ _ HTK.out).mono ?_
    rintro e w5 ⟨rfl, hb5⟩
    refine ⟨_, rfl, ?_⟩
    refine hK.out _ _ (q16P hb5 z0_) (fun hHeld => ?_)
    clear hK K
    refine norm_ (a' := ?_) ?_ ?_
    rotate_left
    ·
     show Act.put _ (some 36) _ = _
     simp only [Act.put, q16I, q160, q161, i64_w, i32_w]
     rfl
    refine pure_ (i:=9) (N:=some 27) (v:=?_) (a':=?_) #[true,true,true,true,true,true,true,true,true,true,false,false,false,false] rfl rfl (by kernel_rfl) (fun _ _ _ h => h) (Or.inl ⟨by rfl, ?_⟩) ?_ ?_
    rotate_left
    ·
     intro w'
     go_simp
     with_reducible rfl
    rotate_left
    ·
     simp only [Act.put, q16I, q160, q161, i64_w, i32_w]
     rfl
    refine pure_ (i:=10) (N:=some 37) (v:=?_) (a':=?_) #[true,true,true,true,true,true,true,true,true,true,true,false,false,false] rfl rfl (by kernel_rfl) (fun _ _ _ h => h) (Or.inl ⟨by rfl, ?_⟩) ?_ ?_
    rotate_left
    ·
     intro w'
     go_simp
     with_reducible rfl
    rotate_left
    ·
     simp only [Act.put, q16I, q160, q161, i64_w, i32_w]
     rfl
    refine pure_ (i:=11) (N:=some 38) (v:=?_) (a':=?_) #[true,true,true,true,true,true,true,true,true,true,true,true,false,false] rfl rfl (by kernel_rfl) (fun _ _ _ h => h) (Or.inl ⟨by rfl, ?_⟩) ?_ ?_
    rotate_left
    ·
     intro w'
     go_simp
     with_reducible rfl
    rotate_left
    ·
     simp only [Act.put, q16I, q160, q161, i64_w, i32_w]
     rfl
    refine pure_ (i:=12) (N:=some 9) (v:=?_) (a':=?_) #[true,true,true,true,true,true,true,true,true,true,true,true,true,false] rfl rfl (by kernel_rfl) (fun _ _ _ h => h) (Or.inl ⟨by rfl, ?_⟩) ?_ ?_
    rotate_left
    ·
     intro w'
     go_simp
     with_reducible rfl
    rotate_left
    ·
     simp only [Act.put, q16I, q160, q161, i64_w, i32_w]
     rfl
    refine pure_ (i:=13) (N:=some 10) (v:=?_) (a':=?_) #[true,true,true,true,true,true,true,true,true,true,true,true,true,true] rfl rfl (by kernel_rfl) (fun _ _ _ h => h) (Or.inl ⟨by rfl, ?_⟩) ?_ ?_
    rotate_left
    ·
     intro w'
     go_simp
     with_reducible rfl
    rotate_left
    ·
     simp only [Act.put, q16I, q160, q161, i64_w, i32_w]
     rfl
    refine done_ (by kernel_rfl) ?_
    have HB5 := q16a (q16S HXD.out hb5)
    clear HXD hb5 z0_ hHeld
    go_wp2
    have HYD := q16a (below_drew HB5.out)
    clear HB5
    refine start_ (n := 14) (S := fun w' => True) (ds := []) #[false,false,false,false,false,false,false,false,false,false,false,false,false,false] (by kernel_rfl) rfl rfl trivial (fun hHeld => ?_)
    generalize w5.drew = wF at HYD hHeld ⊢
    refine pure_ (i:=0) (N:=some 39) (v:=?_) (a':=?_) #[true,false,false,false,false,false,false,false,false,false,false,false,false,false] rfl rfl (by kernel_rfl) (fun _ _ _ h => h) (Or.inl ⟨by rfl, ?_⟩) ?_ ?_
    rotate_left
    ·
     intro w'
     go_simp
     with_reducible rfl
    rotate_left
    ·
     simp only [Act.put, q16I, q160, q161, i64_w, i32_w]
     rfl
    refine pure_ (i:=1) (N:=some 40) (v:=?_) (a':=?_) #[true,true,false,false,false,false,false,false,false,false,false,false,false,false] rfl rfl (by kernel_rfl) (fun _ _ _ h => h) (Or.inl ⟨by rfl, ?_⟩) ?_ ?_
    rotate_left
    ·
     intro w'
     go_simp
     with_reducible rfl
    rotate_left
    ·
     simp only [Act.put, q16I, q160, q161, i64_w, i32_w]
     rfl
    refine pure_ (i:=2) (N:=some 41) (v:=?_) (a':=?_) #[true,true,true,false,false,false,false,false,false,false,false,false,false,false] rfl rfl (by kernel_rfl) (fun _ _ _ h => h) (Or.inl ⟨by rfl, ?_⟩) ?_ ?_
    rotate_left
    ·
     intro w'
     go_simp
     with_reducible rfl
    rotate_left
    ·
     simp only [Act.put, q16I, q160, q161, i64_w, i32_w]
     rfl
    refine pure_ (i:=3) (N:=some 42) (v:=?_) (a':=?_) #[true,true,true,true,false,false,false,false,false,false,false,false,false,false] rfl rfl (by kernel_rfl) (fun _ _ _ h => h) (Or.inl ⟨by rfl, ?_⟩) ?_ ?_
    rotate_left
    ·
     intro w'
     go_simp
     with_reducible rfl
    rotate_left
    ·
     simp only [Act.put, q16I, q160, q161, i64_w, i32_w]
     rfl
    refine pure_ (i:=4) (N:=some 43) (v:=?_) (a':=?_) #[true,true,true,true,true,false,false,false,false,false,false,false,false,false] rfl rfl (by kernel_rfl) (fun _ _ _ h => h) (Or.inl ⟨by rfl, ?_⟩) ?_ ?_
    rotate_left
    ·
     intro w'
     go_simp
     with_reducible rfl
    rotate_left
    ·
     simp only [Act.put, q16I, q160, q161, i64_w, i32_w]
     rfl
    refine pure_ (i:=7) (N:=some 46) (v:=?_) (a':=?_) #[true,true,true,true,true,false,false,true,false,false,false,false,false,false] rfl rfl (by kernel_rfl) (fun _ _ _ h => h) (Or.inl ⟨by rfl, ?_⟩) ?_ ?_
    rotate_left
    ·
     intro w'
     go_simp
     with_reducible rfl
    rotate_left
    ·
     simp only [Act.put, q16I, q160, q161, i64_w, i32_w]
     rfl
    refine pure_ (i:=8) (N:=some 47) (v:=?_) (a':=?_) #[true,true,true,true,true,false,false,true,true,false,false,false,false,false] rfl rfl (by kernel_rfl) (fun _ _ _ h => h) (Or.inl ⟨by rfl, ?_⟩) ?_ ?_
    rotate_left
    ·
     intro w'
     go_simp
     with_reducible rfl
    rotate_left
    ·
     simp only [Act.put, q16I, q160, q161, i64_w, i32_w]
     rfl
    refine one_ (i:=5) (N:=some 44) #[true,true,true,true,true,true,false,true,true,false,false,false,false,false] rfl rfl (by kernel_rfl) (by decide) (fun K hK => ?_)
    refine Kd.C_bytes_step (by rfl) (N:=44) rfl 9 22 _ rfl u rfl Try.underlying9 Try.underlying22 Try.underlying5 HUS.out ?_
    intro A6 c6 w6 hC6 hc6 hb6
    rw [HUB.out] at hC6 hc6 ⊢
    refine hK.out _ _ trivial (fun hHeld => ?_)
    clear hK K
    refine norm_ (a' := ?_) ?_ ?_
    rotate_left
    ·
     show Act.put _ (some 44) _ = _
     simp only [Act.put, q16I, q160, q161, i64_w, i32_w]
     rfl
    refine one_ (i:=6) (N:=some 45) #[true,true,true,true,true,true,true,true,true,false,false,false,false,false] rfl rfl (by kernel_rfl) (by decide) (fun K hK => ?_)
    refine goes_ Try.func46 (by kernel_rfl) rfl #[.slice A6 r1.length c6] (by rfl) rfl rfl (by simp only [q16T, q16M, q16L]; rfl) ?_
    with_reducible refine (wrackref1_Check32.calls kc A6 c6 r1 cr _ hC6 hc6 HKC.out).mono ?_
    rintro e w7 ⟨rfl, hd7⟩
    refine ⟨_, rfl, ?_⟩
    refine hK.out _ _ trivial (fun hHeld => ?_)
    clear hK K
    refine norm_ (a' := ?_) ?_ ?_
    rotate_left
    ·
     show Act.put _ (some 45) _ = _
     simp only [Act.put, q16I, q160, q161, i64_w, i32_w]
     rfl
    refine one_ (i:=9) (N:=some 48) #[true,true,true,true,true,true,true,true,true,true,false,false,false,false] rfl rfl (by kernel_rfl) (by decide) (fun K hK => ?_)
    refine goes_ Try.func45 (by kernel_rfl) rfl #[.string h4s] (by rfl) rfl rfl (by simp only [q16T, q16M, q16L]; rfl) ?_
    with_reducible refine (wrackref1_Number.calls kn h4s q _ HKN.out).mono ?_
    rintro e w8 ⟨rfl, hd8⟩
    refine ⟨_, rfl, ?_⟩
    refine hK.out _ _ trivial (fun hHeld => ?_)
    clear hK K
    refine norm_ (a' := ?_) ?_ ?_
    rotate_left
    ·
     show Act.put _ (some 48) _ = _
     simp only [Act.put, q16I, q160, q161, i64_w, i32_w]
     rfl
    refine pure_ (i:=10) (N:=some 49) (v:=?_) (a':=?_) #[true,true,true,true,true,true,true,true,true,true,true,false,false,false] rfl rfl (by kernel_rfl) (fun _ _ _ h => h) (Or.inl ⟨by rfl, ?_⟩) ?_ ?_
    rotate_left
    ·
     intro w'
     go_simp
     with_reducible rfl
    rotate_left
    ·
     simp only [Act.put, q16I, q160, q161, i64_w, i32_w]
     rfl
    refine pure_ (i:=11) (N:=some 50) (v:=?_) (a':=?_) #[true,true,true,true,true,true,true,true,true,true,true,true,false,false] rfl rfl (by kernel_rfl) (fun _ _ _ h => h) (Or.inl ⟨by rfl, ?_⟩) ?_ ?_
    rotate_left
    ·
     intro w'
     go_simp
     with_reducible rfl
    rotate_left
    ·
     simp only [Act.put, q16I, q160, q161, i64_w, i32_w]
     rfl
    refine pure_ (i:=12) (N:=some 6) (v:=?_) (a':=?_) #[true,true,true,true,true,true,true,true,true,true,true,true,true,false] rfl rfl (by kernel_rfl) (fun _ _ _ h => h) (Or.inl ⟨by rfl, ?_⟩) ?_ ?_
    rotate_left
    ·
     intro w'
     go_simp
     with_reducible rfl
    rotate_left
    ·
     simp only [Act.put, q16I, q160, q161, i64_w, i32_w]
     rfl
    refine pure_ (i:=13) (N:=some 7) (v:=?_) (a':=?_) #[true,true,true,true,true,true,true,true,true,true,true,true,true,true] rfl rfl (by kernel_rfl) (fun _ _ _ h => h) (Or.inl ⟨by rfl, ?_⟩) ?_ ?_
    rotate_left
    ·
     intro w'
     go_simp
     with_reducible rfl
    rotate_left
    ·
     simp only [Act.put, q16I, q160, q161, i64_w, i32_w]
     rfl
    refine done_ (by kernel_rfl) ?_
    have HB8 := q16a (q16S HYD.out (q16S hb6 (q16S hd7.below hd8.below)))
    go_wp2
    refine bodyPost_ret (v := .tuple #[.string u, .bool true]) (by simp [results, Try.results11, go_sem]) rfl ?_
    exact ⟨_, rfl, (fun _ => HU1.out), HUL.out, HB8.out⟩
   ·
    rw [decide_eq_false (fun h => hcq h.2.2)]
    have tq1 : (cr == q) = false := by simpa using hcq
    have tq2 : ¬ (cr = q) := hcq
    clear hcq
    go_enter Try.func11, Try.ntmps11
    go_wp2
    generalize w.alloc (.cells #[.int .i64 (size : Int), .int .i64 hd, .slice (some ad) l.length c] 37) = w1 at hX1 HB1 e0 e1 ⊢
    have HBD := q16a (below_drew HB1.out)
    have y0_ : w1.drew.cell? ⟨w.heap.size, 2, none⟩ = some (.slice (some ad) l.length c) := (blk_cell (blk_drew hX1.out) 2).trans (arr3_2 _ _ _)
    have y1_ : w1.drew.cell? (ad.add (i * 2)) = some (.int .i64 f0) := q16P (below_drew (Below.refl w1.heap.size w1)) e0
    have y2_ : w1.drew.cell? ⟨(ad.add (i * 2)).block, (ad.add (i * 2)).off + 1, none⟩ = some (.int .i64 f1) := q16P (below_drew (Below.refl w1.heap.size w1)) e1
    have hXD := q16a (blk_drew hX1.out)
    clear HB1 hX1 e0 e1
    refine start_ (n := 15) (S := fun w' => w'.cell? ⟨w.heap.size, 2, none⟩ = some (.slice (some ad) l.length c) ∧ w'.cell? (ad.add (i * 2)) = some (.int .i64 f0) ∧ w'.cell? ⟨(ad.add (i * 2)).block, (ad.add (i * 2)).off + 1, none⟩ = some (.int .i64 f1)) (ds := []) #[false,false,false,false,false,false,false,false,false,false,false,false,false,false,false] (by kernel_rfl) rfl rfl ⟨y0_, y1_, y2_⟩ (fun hHeld => ?_)
    generalize w1.drew = wD at y0_ y1_ y2_ HBD hXD hHeld ⊢
    refine pure_ (i:=0) (N:=some 11) (v:=?_) (a':=?_) #[true,false,false,false,false,false,false,false,false,false,false,false,false,false,false] rfl rfl (by kernel_rfl) (fun _ _ _ h => h) (Or.inl ⟨by rfl, ?_⟩) ?_ ?_
    rotate_left
    ·
     intro w'
     go_simp
     with_reducible rfl
    rotate_left
    ·
     simp only [Act.put, q16I, q160, q161, i64_w, i32_w]
     rfl
    refine pure_ (i:=1) (N:=some 12) (v:=?_) (a':=?_) #[true,true,false,false,false,false,false,false,false,false,false,false,false,false,false] rfl rfl (by kernel_rfl) (fun _ _ _ h => h) (Or.inl ⟨by rfl, ?_⟩) ?_ ?_
    rotate_left
    ·
     intro w'
     go_simp
     with_reducible rfl
    rotate_left
    ·
     simp only [Act.put, q16I, q160, q161, i64_w, i32_w]
     rfl
    refine pure_ (i:=3) (N:=some 14) (v:=?_) (a':=?_) #[true,true,false,true,false,false,false,false,false,false,false,false,false,false,false] rfl rfl (by kernel_rfl) (fun _ _ _ h => h) (Or.inl ⟨by rfl, ?_⟩) ?_ ?_
    rotate_left
    ·
     intro w'
     go_simp
     with_reducible rfl
    rotate_left
    ·
     simp only [Act.put, q16I, q160, q161, i64_w, i32_w]
     rfl
    refine pure_ (i:=7) (N:=some 18) (v:=?_) (a':=?_) #[true,true,false,true,false,false,false,true,false,false,false,false,false,false,false] rfl rfl (by kernel_rfl) (fun _ _ _ h => h) (Or.inl ⟨by rfl, ?_⟩) ?_ ?_
    rotate_left
    ·
     intro w'
     go_simp
     with_reducible rfl
    rotate_left
    ·
     simp only [Act.put, q16I, q160, q161, i64_w, i32_w]
     rfl
    refine pure_ (i:=9) (N:=some 20) (v:=?_) (a':=?_) #[true,true,false,true,false,false,false,true,false,true,false,false,false,false,false] rfl rfl (by kernel_rfl) (fun _ _ _ h => h) (Or.inl ⟨by rfl, ?_⟩) ?_ ?_
    rotate_left
    ·
     intro w'
     go_simp
     with_reducible rfl
    rotate_left
    ·
     simp only [Act.put, q16I, q160, q161, i64_w, i32_w]
     rfl
    refine take_ (i:=2) (N:=some 13) (v:=?_) (a':=?_) #[true,true,true,true,false,false,false,true,false,true,false,false,false,false,false] rfl rfl (by kernel_rfl) (fun _ _ _ h => h) (Or.inl ⟨by rfl, ?_⟩) hHeld ?_ ?_
    rotate_left
    ·
     rintro w' ⟨s0, s1, s2⟩
     go_simp
     with_reducible rfl
    rotate_left
    ·
     simp only [Act.put, q16I, q160, q161, i64_w, i32_w]
     rfl
    refine pure_ (i:=4) (N:=some 15) (v:=?_) (a':=?_) #[true,true,true,true,true,false,false,true,false,true,false,false,false,false,false] rfl rfl (by kernel_rfl) (fun _ _ _ h => h) (Or.inl ⟨by rfl, ?_⟩) ?_ ?_
    rotate_left
    ·
     intro w'
     go_simp
     with_reducible rfl
    rotate_left
    ·
     simp only [Act.put, q16I, q160, q161, i64_w, i32_w]
     rfl
    refine pure_ (i:=5) (N:=some 16) (v:=?_) (a':=?_) #[true,true,true,true,true,true,false,true,false,true,false,false,false,false,false] rfl rfl (by kernel_rfl) (fun _ _ _ h => h) (Or.inl ⟨by rfl, ?_⟩) ?_ ?_
    rotate_left
    ·
     intro w'
     go_simp
     with_reducible rfl
    rotate_left
    ·
     simp only [Act.put, q16I, q160, q161, i64_w, i32_w]
     rfl
    refine take_ (i:=6) (N:=some 17) (v:=?_) (a':=?_) #[true,true,true,true,true,true,true,true,false,true,false,false,false,false,false] rfl rfl (by kernel_rfl) (fun _ _ _ h => h) (Or.inl ⟨by rfl, ?_⟩) hHeld ?_ ?_
    rotate_left
    ·
     rintro w' ⟨s0, s1, s2⟩
     go_simp
     with_reducible rfl
    rotate_left
    ·
     simp only [Act.put, q16I, q160, q161, i64_w, i32_w]
     rfl
    refine take_ (i:=8) (N:=some 19) (v:=?_) (a':=?_) #[true,true,true,true,true,true,true,true,true,true,false,false,false,false,false] rfl rfl (by kernel_rfl) (fun _ _ _ h => h) (Or.inl ⟨by rfl, ?_⟩) hHeld ?_ ?_
    rotate_left
    ·
     rintro w' ⟨s0, s1, s2⟩
     go_simp
     with_reducible rfl
    rotate_left
    ·
     simp only [Act.put, q16I, q160, q161, i64_w, i32_w]
     rfl
    refine pure_ (i:=10) (N:=some 21) (v:=?_) (a':=?_) #[true,true,true,true,true,true,true,true,true,true,true,false,false,false,false] rfl rfl (by kernel_rfl) (fun _ _ _ h => h) (Or.inl ⟨by rfl, ?_⟩) ?_ ?_
    rotate_left
    ·
     intro w'
     go_simp
     with_reducible rfl
    rotate_left
    ·
     simp only [Act.put, q16I, q160, q161, i64_w, i32_w]
     rfl
    refine pure_ (i:=11) (N:=some 22) (v:=?_) (a':=?_) #[true,true,true,true,true,true,true,true,true,true,true,true,false,false,false] rfl rfl (by kernel_rfl) (fun _ _ _ h => h) (Or.inl ⟨by rfl, ?_⟩) ?_ ?_
    rotate_left
    ·
     intro w'
     go_simp
     with_reducible rfl
    rotate_left
    ·
     simp only [Act.put, q16I, q160, q161, i64_w, i32_w]
     rfl
    refine take_ (i:=12) (N:=some 23) (v:=?_) (a':=?_) #[true,true,true,true,true,true,true,true,true,true,true,true,true,false,false] rfl rfl (by kernel_rfl) (fun _ _ _ h => h) (Or.inl ⟨by rfl, ?_⟩) hHeld ?_ ?_
    rotate_left
    ·
     rintro w' ⟨s0, s1, s2⟩
     go_simp
     with_reducible rfl
    rotate_left
    ·
     simp only [Act.put, q16I, q160, q161, i64_w, i32_w]
     rfl
    refine one_ (i:=13) (N:=some 24) #[true,true,true,true,true,true,true,true,true,true,true,true,true,true,false] rfl rfl (by kernel_rfl) (by decide) (fun K hK => ?_)
    refine goes_ Try.func42 (by kernel_rfl) rfl #[.iface T x, .int .i64 f0, .int .i64 f1] (by rfl) rfl rfl (by simp only [q16T, q16M, q16L]; rfl) ?_
    with_reducible refine (HGET.out _ HBD.out).mono ?_
    rintro e w3 ⟨rfl, hb3⟩
    refine ⟨_, rfl, ?_⟩
    refine hK.out _ _ ⟨q16P hb3 y0_, q16P hb3 y1_, q16P hb3 y2_⟩ (fun hHeld => ?_)
    clear hK K
    refine norm_ (a' := ?_) ?_ ?_
    rotate_left
    ·
     show Act.put _ (some 24) _ = _
     simp only [Act.put, q16I, q160, q161, i64_w, i32_w]
     rfl
    refine pure_ (i:=14) (N:=some 8) (v:=?_) (a':=?_) #[true,true,true,true,true,true,true,true,true,true,true,true,true,true,true] rfl rfl (by kernel_rfl) (fun _ _ _ h => h) (Or.inl ⟨by rfl, ?_⟩) ?_ ?_
    rotate_left
    ·
     intro w'
     go_simp
     with_reducible rfl
    rotate_left
    ·
     simp only [Act.put, q16I, q160, q161, i64_w, i32_w]
     rfl
    refine done_ (by kernel_rfl) ?_
    have HB3 := q16a (q16S HBD.out hb3)
    have hX3 := q16a (blk_below hXD.out hb3)
    clear HBD hb3 y0_ y1_ y2_ hHeld hXD
    go_wp2
    have HXD := q16a (below_drew HB3.out)
    have z0_ : w3.drew.cell? ⟨w.heap.size, 0, none⟩ = some (.int .i64 (size : Int)) := (blk_cell (blk_drew hX3.out) 0).trans (arr3_0 _ _ _)
    clear HB3 hX3
    refine start_ (n := 14) (S := fun w' => w'.cell? ⟨w.heap.size, 0, none⟩ = some (.int .i64 (size : Int))) (ds := []) #[false,false,false,false,false,false,false,false,false,false,false,false,false,false] (by kernel_rfl) rfl rfl (z0_) (fun hHeld => ?_)
    generalize w3.drew = wE at z0_ HXD hHeld ⊢
    refine pure_ (i:=0) (N:=some 28) (v:=?_) (a':=?_) #[true,false,false,false,false,false,false,false,false,false,false,false,false,false] rfl rfl (by kernel_rfl) (fun _ _ _ h => h) (Or.inl ⟨by rfl, ?_⟩) ?_ ?_
    rotate_left
    ·
     intro w'
     go_simp
     with_reducible rfl
    rotate_left
    ·
     simp only [Act.put, q16I, q160, q161, i64_w, i32_w]
     rfl
    refine pure_ (i:=1) (N:=some 29) (v:=?_) (a':=?_) #[true,true,false,false,false,false,false,false,false,false,false,false,false,false] rfl rfl (by kernel_rfl) (fun _ _ _ h => h) (Or.inl ⟨by rfl, ?_⟩) ?_ ?_
    rotate_left
    ·
     intro w'
     go_simp
     with_reducible rfl
    rotate_left
    ·
     simp only [Act.put, q16I, q160, q161, i64_w, i32_w]
     rfl
    refine pure_ (i:=2) (N:=some 30) (v:=?_) (a':=?_) #[true,true,true,false,false,false,false,false,false,false,false,false,false,false] rfl rfl (by kernel_rfl) (fun _ _ _ h => h) (Or.inl ⟨by rfl, ?_⟩) ?_ ?_
    rotate_left
    ·
     intro w'
     go_simp
     with_reducible rfl
    rotate_left
    ·
     simp only [Act.put, q16I, q160, q161, i64_w, i32_w]
     rfl
    refine pure_ (i:=4) (N:=some 32) (v:=?_) (a':=?_) #[true,true,true,false,true,false,false,false,false,false,false,false,false,false] rfl rfl (by kernel_rfl) (fun _ _ _ h => h) (Or.inl ⟨by rfl, ?_⟩) ?_ ?_
    rotate_left
    ·
     intro w'
     go_simp
     with_reducible rfl
    rotate_left
    ·
     simp only [Act.put, q16I, q160, q161, i64_w, i32_w]
     rfl
    refine pure_ (i:=5) (N:=some 33) (v:=?_) (a':=?_) #[true,true,true,false,true,true,false,false,false,false,false,false,false,false] rfl rfl (by kernel_rfl) (fun _ _ _ h => h) (Or.inl ⟨by rfl, ?_⟩) ?_ ?_
    rotate_left
    ·
     intro w'
     go_simp
     with_reducible rfl
    rotate_left
    ·
     simp only [Act.put, q16I, q160, q161, i64_w, i32_w]
     rfl
    refine take_ (i:=3) (N:=some 31) (v:=?_) (a':=?_) #[true,true,true,true,true,true,false,false,false,false,false,false,false,false] rfl rfl (by kernel_rfl) (fun _ _ _ h => h) (Or.inl ⟨by rfl, ?_⟩) hHeld ?_ ?_
    rotate_left
    ·
     intro w' s0
     go_simp
     with_reducible rfl
    rotate_left
    ·
     simp only [Act.put, q16I, q160, q161, i64_w, i32_w]
     rfl
    refine pure_ (i:=6) (N:=some 34) (v:=?_) (a':=?_) #[true,true,true,true,true,true,true,false,false,false,false,false,false,false] rfl rfl (by kernel_rfl) (fun _ _ _ h => h) (Or.inl ⟨by rfl, ?_⟩) ?_ ?_
    rotate_left
    ·
     intro w'
     go_simp
     with_reducible rfl
    rotate_left
    ·
     simp only [Act.put, q16I, q160, q161, i64_w, i32_w]
     rfl
    refine pure_ (i:=7) (N:=some 35) (v:=?_) (a':=?_) #[true,true,true,true,true,true,true,true,false,false,false,false,false,false] rfl rfl (by kernel_rfl) (fun _ _ _ h => h) (Or.inl ⟨by rfl, ?_⟩) ?_ ?_
    rotate_left
    ·
     intro w'
     go_simp
     with_reducible rfl
    rotate_left
    ·
     simp only [Act.put, q16I, q160, q161, i64_w, i32_w]
     rfl
    refine one_ (i:=8) (N:=some 36) #[true,true,true,true,true,true,true,true,true,false,false,false,false,false] rfl rfl (by kernel_rfl) (by decide) (fun K hK => ?_)
    refine goes_ Try.func47 (by kernel_rfl) rfl #[.string s4, .int .i64 mn] (by rfl) rfl rfl (by simp only [q16T, q16M, q16L]; rfl) ?_
    with_reducible refine (wrackref1_Tokens.calls kt s4 mn u _ _ HTK.out).mono ?_
    rintro e w5 ⟨rfl, hb5⟩
    refine ⟨_, rfl, ?_⟩
    refine hK.out _ _ (q16P hb5 z0_) (fun hHeld => ?_)
    clear hK K
    refine norm_ (a' := ?_) ?_ ?_
    rotate_left
    ·
     show Act.put _ (some 36) _ = _
     simp only [Act.put, q16I, q160, q161, i64_w, i32_w]
     rfl
    refine pure_ (i:=9) (N:=some 27) (v:=?_) (a':=?_) #[true,true,true,true,true,true,true,true,true,true,false,false,false,false] rfl rfl (by kernel_rfl) (fun _ _ _ h => h) (Or.inl ⟨by rfl, ?_⟩) ?_ ?_
    rotate_left
    ·
     intro w'
     go_simp
     with_reducible rfl
    rotate_left
    ·
     simp only [Act.put, q16I, q160, q161, i64_w, i32_w]
     rfl
    refine pure_ (i:=10) (N:=some 37) (v:=?_) (a':=?_) #[true,true,true,true,true,true,true,true,true,true,true,false,false,false] rfl rfl (by kernel_rfl) (fun _ _ _ h => h) (Or.inl ⟨by rfl, ?_⟩) ?_ ?_
    rotate_left
    ·
     intro w'
     go_simp
     with_reducible rfl
    rotate_left
    ·
     simp only [Act.put, q16I, q160, q161, i64_w, i32_w]
     rfl
    refine pure_ (i:=11) (N:=some 38) (v:=?_) (a':=?_) #[true,true,true,true,true,true,true,true,true,true,true,true,false,false] rfl rfl (by kernel_rfl) (fun _ _ _ h => h) (Or.inl ⟨by rfl, ?_⟩) ?_ ?_
    rotate_left
    ·
     intro w'
     go_simp
     with_reducible rfl
    rotate_left
    ·
     simp only [Act.put, q16I, q160, q161, i64_w, i32_w]
     rfl
    refine pure_ (i:=12) (N:=some 9) (v:=?_) (a':=?_) #[true,true,true,true,true,true,true,true,true,true,true,true,true,false] rfl rfl (by kernel_rfl) (fun _ _ _ h => h) (Or.inl ⟨by rfl, ?_⟩) ?_ ?_
    rotate_left
    ·
     intro w'
     go_simp
     with_reducible rfl
    rotate_left
    ·
     simp only [Act.put, q16I, q160, q161, i64_w, i32_w]
     rfl
    refine pure_ (i:=13) (N:=some 10) (v:=?_) (a':=?_) #[true,true,true,true,true,true,true,true,true,true,true,true,true,true] rfl rfl (by kernel_rfl) (fun _ _ _ h => h) (Or.inl ⟨by rfl, ?_⟩) ?_ ?_
    rotate_left
    ·
     intro w'
     go_simp
     with_reducible rfl
    rotate_left
    ·
     simp only [Act.put, q16I, q160, q161, i64_w, i32_w]
     rfl
    refine done_ (by kernel_rfl) ?_
    have HB5 := q16a (q16S HXD.out hb5)
    clear HXD hb5 z0_ hHeld
    go_wp2
    have HYD := q16a (below_drew HB5.out)
    clear HB5
    refine start_ (n := 14) (S := fun w' => True) (ds := []) #[false,false,false,false,false,false,false,false,false,false,false,false,false,false] (by kernel_rfl) rfl rfl trivial (fun hHeld => ?_)
    generalize w5.drew = wF at HYD hHeld ⊢
    refine pure_ (i:=0) (N:=some 39) (v:=?_) (a':=?_) #[true,false,false,false,false,false,false,false,false,false,false,false,false,false] rfl rfl (by kernel_rfl) (fun _ _ _ h => h) (Or.inl ⟨by rfl, ?_⟩) ?_ ?_
    rotate_left
    ·
     intro w'
     go_simp
     with_reducible rfl
    rotate_left
    ·
     simp only [Act.put, q16I, q160, q161, i64_w, i32_w]
     rfl
    refine pure_ (i:=1) (N:=some 40) (v:=?_) (a':=?_) #[true,true,false,false,false,false,false,false,false,false,false,false,false,false] rfl rfl (by kernel_rfl) (fun _ _ _ h => h) (Or.inl ⟨by rfl, ?_⟩) ?_ ?_
    rotate_left
    ·
     intro w'
     go_simp
     with_reducible rfl
    rotate_left
    ·
     simp only [Act.put, q16I, q160, q161, i64_w, i32_w]
     rfl
    refine pure_ (i:=2) (N:=some 41) (v:=?_) (a':=?_) #[true,true,true,false,false,false,false,false,false,false,false,false,false,false] rfl rfl (by kernel_rfl) (fun _ _ _ h => h) (Or.inl ⟨by rfl, ?_⟩) ?_ ?_
    rotate_left
    ·
     intro w'
     go_simp
     with_reducible rfl
    rotate_left
    ·
     simp only [Act.put, q16I, q160, q161, i64_w, i32_w]
     rfl
    refine pure_ (i:=3) (N:=some 42) (v:=?_) (a':=?_) #[true,true,true,true,false,false,false,false,false,false,false,false,false,false] rfl rfl (by kernel_rfl) (fun _ _ _ h => h) (Or.inl ⟨by rfl, ?_⟩) ?_ ?_
    rotate_left
    ·
     intro w'
     go_simp
     with_reducible rfl
    rotate_left
    ·
     simp only [Act.put, q16I, q160, q161, i64_w, i32_w]
     rfl
    refine pure_ (i:=4) (N:=some 43) (v:=?_) (a':=?_) #[true,true,true,true,true,false,false,false,false,false,false,false,false,false] rfl rfl (by kernel_rfl) (fun _ _ _ h => h) (Or.inl ⟨by rfl, ?_⟩) ?_ ?_
    rotate_left
    ·
     intro w'
     go_simp
     with_reducible rfl
    rotate_left
    ·
     simp only [Act.put, q16I, q160, q161, i64_w, i32_w]
     rfl
    refine pure_ (i:=7) (N:=some 46) (v:=?_) (a':=?_) #[true,true,true,true,true,false,false,true,false,false,false,false,false,false] rfl rfl (by kernel_rfl) (fun _ _ _ h => h) (Or.inl ⟨by rfl, ?_⟩) ?_ ?_
    rotate_left
    ·
     intro w'
     go_simp
     with_reducible rfl
    rotate_left
    ·
     simp only [Act.put, q16I, q160, q161, i64_w, i32_w]
     rfl
    refine pure_ (i:=8) (N:=some 47) (v:=?_) (a':=?_) #[true,true,true,true,true,false,false,true,true,false,false,false,false,false] rfl rfl (by kernel_rfl) (fun _ _ _ h => h) (Or.inl ⟨by rfl, ?_⟩) ?_ ?_
    rotate_left
    ·
     intro w'
     go_simp
     with_reducible rfl
    rotate_left
    ·
     simp only [Act.put, q16I, q160, q161, i64_w, i32_w]
     rfl
    refine one_ (i:=5) (N:=some 44) #[true,true,true,true,true,true,false,true,true,false,false,false,false,false] rfl rfl (by kernel_rfl) (by decide) (fun K hK => ?_)
    refine Kd.C_bytes_step (by rfl) (N:=44) rfl 9 22 _ rfl u rfl Try.underlying9 Try.underlying22 Try.underlying5 HUS.out ?_
    intro A6 c6 w6 hC6 hc6 hb6
    rw [HUB.out] at hC6 hc6 ⊢
    refine hK.out _ _ trivial (fun hHeld => ?_)
    clear hK K
    refine norm_ (a' := ?_) ?_ ?_
    rotate_left
    ·
     show Act.put _ (some 44) _ = _
     simp only [Act.put, q16I, q160, q161, i64_w, i32_w]
     rfl
    refine one_ (i:=6) (N:=some 45) #[true,true,true,true,true,true,true,true,true,false,false,false,false,false] rfl rfl (by kernel_rfl) (by decide) (fun K hK => ?_)
    refine goes_ Try.func46 (by kernel_rfl) rfl #[.slice A6 r1.length c6] (by rfl) rfl rfl (by simp only [q16T, q16M, q16L]; rfl) ?_
    with_reducible refine (wrackref1_Check32.calls kc A6 c6 r1 cr _ hC6 hc6 HKC.out).mono ?_
    rintro e w7 ⟨rfl, hd7⟩
    refine ⟨_, rfl, ?_⟩
    refine hK.out _ _ trivial (fun hHeld => ?_)
    clear hK K
    refine norm_ (a' := ?_) ?_ ?_
    rotate_left
    ·
     show Act.put _ (some 45) _ = _
     simp only [Act.put, q16I, q160, q161, i64_w, i32_w]
     rfl
    refine one_ (i:=9) (N:=some 48) #[true,true,true,true,true,true,true,true,true,true,false,false,false,false] rfl rfl (by kernel_rfl) (by decide) (fun K hK => ?_)
    refine goes_ Try.func45 (by kernel_rfl) rfl #[.string h4s] (by rfl) rfl rfl (by simp only [q16T, q16M, q16L]; rfl) ?_
    with_reducible refine (wrackref1_Number.calls kn h4s q _ HKN.out).mono ?_
    rintro e w8 ⟨rfl, hd8⟩
    refine ⟨_, rfl, ?_⟩
    refine hK.out _ _ trivial (fun hHeld => ?_)
    clear hK K
    refine norm_ (a' := ?_) ?_ ?_
    rotate_left
    ·
     show Act.put _ (some 48) _ = _
     simp only [Act.put, q16I, q160, q161, i64_w, i32_w]
     rfl
    refine pure_ (i:=10) (N:=some 49) (v:=?_) (a':=?_) #[true,true,true,true,true,true,true,true,true,true,true,false,false,false] rfl rfl (by kernel_rfl) (fun _ _ _ h => h) (Or.inl ⟨by rfl, ?_⟩) ?_ ?_
    rotate_left
    ·
     intro w'
     go_simp
     with_reducible rfl
    rotate_left
    ·
     simp only [Act.put, q16I, q160, q161, i64_w, i32_w]
     rfl
    refine pure_ (i:=11) (N:=some 50) (v:=?_) (a':=?_) #[true,true,true,true,true,true,true,true,true,true,true,true,false,false] rfl rfl (by kernel_rfl) (fun _ _ _ h => h) (Or.inl ⟨by rfl, ?_⟩) ?_ ?_
    rotate_left
    ·
     intro w'
     go_simp
     with_reducible rfl
    rotate_left
    ·
     simp only [Act.put, q16I, q160, q161, i64_w, i32_w]
     rfl
    refine pure_ (i:=12) (N:=some 6) (v:=?_) (a':=?_) #[true,true,true,true,true,true,true,true,true,true,true,true,true,false] rfl rfl (by kernel_rfl) (fun _ _ _ h => h) (Or.inl ⟨by rfl, ?_⟩) ?_ ?_
    rotate_left
    ·
     intro w'
     go_simp
     with_reducible rfl
    rotate_left
    ·
     simp only [Act.put, q16I, q160, q161, i64_w, i32_w]
     rfl
    refine pure_ (i:=13) (N:=some 7) (v:=?_) (a':=?_) #[true,true,true,true,true,true,true,true,true,true,true,true,true,true] rfl rfl (by kernel_rfl) (fun _ _ _ h => h) (Or.inl ⟨by rfl, ?_⟩) ?_ ?_
    rotate_left
    ·
     intro w'
     go_simp
     with_reducible rfl
    rotate_left
    ·
     simp only [Act.put, q16I, q160, q161, i64_w, i32_w]
     rfl
    refine done_ (by kernel_rfl) ?_
    have HB8 := q16a (q16S HYD.out (q16S hb6 (q16S hd7.below hd8.below)))
    go_wp2
    refine bodyPost_ret (v := .tuple #[.string u, .bool false]) (by simp [results, Try.results11, go_sem]) rfl ?_
    exact ⟨_, rfl, (fun h => by cases h), HUL.out, HB8.out⟩
  ·
   rw [decide_eq_false (fun h => hr2 h.2.1)]
   have tr1 : (r2 == 0) = false := by simpa using hr2
   have tr2 : ¬ (r2 = 0) := hr2
   clear hr2
   go_enter Try.func11, Try.ntmps11
   go_wp2
   generalize w.alloc (.cells #[.int .i64 (size : Int), .int .i64 hd, .slice (some ad) l.length c] 37) = w1 at hX1 HB1 e0 e1 ⊢
   have HBD := q16a (below_drew HB1.out)
   have y0_ : w1.drew.cell? ⟨w.heap.size, 2, none⟩ = some (.slice (some ad) l.length c) := (blk_cell (blk_drew hX1.out) 2).trans (arr3_2 _ _ _)
   have y1_ : w1.drew.cell? (ad.add (i * 2)) = some (.int .i64 f0) := q16P (below_drew (Below.refl w1.heap.size w1)) e0
   have y2_ : w1.drew.cell? ⟨(ad.add (i * 2)).block, (ad.add (i * 2)).off + 1, none⟩ = some (.int .i64 f1) := q16P (below_drew (Below.refl w1.heap.size w1)) e1
   have hXD := q16a (blk_drew hX1.out)
   clear HB1 hX1 e0 e1
   refine start_ (n := 15) (S := fun w' => w'.cell? ⟨w.heap.size, 2, none⟩ = some (.slice (some ad) l.length c) ∧ w'.cell? (ad.add (i * 2)) = some (.int .i64 f0) ∧ w'.cell? ⟨(ad.add (i * 2)).block, (ad.add (i * 2)).off + 1, none⟩ = some (.int .i64 f1)) (ds := []) #[false,false,false,false,false,false,false,false,false,false,false,false,false,false,false] (by kernel_rfl) rfl rfl ⟨y0_, y1_, y2_⟩ (fun hHeld => ?_)
   generalize w1.drew = wD at y0_ y1_ y2_ HBD hXD hHeld ⊢
   refine pure_ (i:=0) (N:=some 11) (v:=?_) (a':=?_) #[true,false,false,false,false,false,false,false,false,false,false,false,false,false,false] rfl rfl (by kernel_rfl) (fun _ _ _ h => h) (Or.inl ⟨by rfl, ?_⟩) ?_ ?_
   rotate_left
   ·
    intro w'
    go_simp
    with_reducible rfl
   rotate_left
   ·
    simp only [Act.put, q16I, q160, q161, i64_w, i32_w]
    rfl
   refine pure_ (i:=1) (N:=some 12) (v:=?_) (a':=?_) #[true,true,false,false,false,false,false,false,false,false,false,false,false,false,false] rfl rfl (by kernel_rfl) (fun _ _ _ h => h) (Or.inl ⟨by rfl, ?_⟩) ?_ ?_
   rotate_left
   ·
    intro w'
    go_simp
    with_reducible rfl
   rotate_left
   ·
    simp only [Act.put, q16I, q160, q161, i64_w, i32_w]
    rfl
   refine pure_ (i:=3) (N:=some 14) (v:=?_) (a':=?_) #[true,true,false,true,false,false,false,false,false,false,false,false,false,false,false] rfl rfl (by kernel_rfl) (fun _ _ _ h => h) (Or.inl ⟨by rfl, ?_⟩) ?_ ?_
   rotate_left
   ·
    intro w'
    go_simp
    with_reducible rfl
   rotate_left
   ·
    simp only [Act.put, q16I, q160, q161, i64_w, i32_w]
    rfl
   refine pure_ (i:=7) (N:=some 18) (v:=?_) (a':=?_) #[true,true,false,true,false,false,false,true,false,false,false,false,false,false,false] rfl rfl (by kernel_rfl) (fun _ _ _ h => h) (Or.inl ⟨by rfl, ?_⟩) ?_ ?_
   rotate_left
   ·
    intro w'
    go_simp
    with_reducible rfl
   rotate_left
   ·
    simp only [Act.put, q16I, q160, q161, i64_w, i32_w]
    rfl
   refine pure_ (i:=9) (N:=some 20) (v:=?_) (a':=?_) #[true,true,false,true,false,false,false,true,false,true,false,false,false,false,false] rfl rfl (by kernel_rfl) (fun _ _ _ h => h) (Or.inl ⟨by rfl, ?_⟩) ?_ ?_
   rotate_left
   ·
    intro w'
    go_simp
    with_reducible rfl
   rotate_left
   ·
    simp only [Act.put, q16I, q160, q161, i64_w, i32_w]
    rfl
   refine take_ (i:=2) (N:=some 13) (v:=?_) (a':=?_) #[true,true,true,true,false,false,false,true,false,true,false,false,false,false,false] rfl rfl (by kernel_rfl) (fun _ _ _ h => h) (Or.inl ⟨by rfl, ?_⟩) hHeld ?_ ?_
   rotate_left
   ·
    rintro w' ⟨s0, s1, s2⟩
    go_simp
    with_reducible rfl
   rotate_left
   ·
    simp only [Act.put, q16I, q160, q161, i64_w, i32_w]
    rfl
   refine pure_ (i:=4) (N:=some 15) (v:=?_) (a':=?_) #[true,true,true,true,true,false,false,true,false,true,false,false,false,false,false] rfl rfl (by kernel_rfl) (fun _ _ _ h => h) (Or.inl ⟨by rfl, ?_⟩) ?_ ?_
   rotate_left
   ·
    intro w'
    go_simp
    with_reducible rfl
   rotate_left
   ·
    simp only [Act.put, q16I, q160, q161, i64_w, i32_w]
    rfl
   refine pure_ (i:=5) (N:=some 16) (v:=?_) (a':=?_) #[true,true,true,true,true,true,false,true,false,true,false,false,false,false,false] rfl rfl (by kernel_rfl) (fun _ _ _ h => h) (Or.inl ⟨by rfl, ?_⟩) ?_ ?_
   rotate_left
   ·
    intro w'
    go_simp
    with_reducible rfl
   rotate_left
   ·
    simp only [Act.put, q16I, q160, q161, i64_w, i32_w]
    rfl
   refine take_ (i:=6) (N:=some 17) (v:=?_) (a':=?_) #[true,true,true,true,true,true,true,true,false,true,false,false,false,false,false] rfl rfl (by kernel_rfl) (fun _ _ _ h => h) (Or.inl ⟨by rfl, ?_⟩) hHeld ?_ ?_
   rotate_left
   ·
    rintro w' ⟨s0, s1, s2⟩
    go_simp
    with_reducible rfl
   rotate_left
   ·
    simp only [Act.put, q16I, q160, q161, i64_w, i32_w]
    rfl
   refine take_ (i:=8) (N:=some 19) (v:=?_) (a':=?_) #[true,true,true,true,true,true,true,true,true,true,false,false,false,false,false] rfl rfl (by kernel_rfl) (fun _ _ _ h => h) (Or.inl ⟨by rfl, ?_⟩) hHeld ?_ ?_
   rotate_left
   ·
    rintro w' ⟨s0, s1, s2⟩
    go_simp
    with_reducible rfl
   rotate_left
   ·
    simp only [Act.put, q16I, q160, q161, i64_w, i32_w]
    rfl
   refine pure_ (i:=10) (N:=some 21) (v:=?_) (a':=?_) #[true,true,true,true,true,true,true,true,true,true,true,false,false,false,false] rfl rfl (by kernel_rfl) (fun _ _ _ h => h) (Or.inl ⟨by rfl, ?_⟩) ?_ ?_
   rotate_left
   ·
    intro w'
    go_simp
    with_reducible rfl
   rotate_left
   ·
    simp only [Act.put, q16I, q160, q161, i64_w, i32_w]
    rfl
   refine pure_ (i:=11) (N:=some 22) (v:=?_) (a':=?_) #[true,true,true,true,true,true,true,true,true,true,true,true,false,false,false] rfl rfl (by kernel_rfl) (fun _ _ _ h => h) (Or.inl ⟨by rfl, ?_⟩) ?_ ?_
   rotate_left
   ·
    intro w'
    go_simp
    with_reducible rfl
   rotate_left
   ·
    simp only [Act.put, q16I, q160, q161, i64_w, i32_w]
    rfl
   refine take_ (i:=12) (N:=some 23) (v:=?_) (a':=?_) #[true,true,true,true,true,true,true,true,true,true,true,true,true,false,false] rfl rfl (by kernel_rfl) (fun _ _ _ h => h) (Or.inl ⟨by rfl, ?_⟩) hHeld ?_ ?_
   rotate_left
   ·
    rintro w' ⟨s0, s1, s2⟩
    go_simp
    with_reducible rfl
   rotate_left
   ·
    simp only [Act.put, q16I, q160, q161, i64_w, i32_w]
    rfl
   refine one_ (i:=13) (N:=some 24) #[true,true,true,true,true,true,true,true,true,true,true,true,true,true,false] rfl rfl (by kernel_rfl) (by decide) (fun K hK => ?_)
   refine goes_ Try.func42 (by kernel_rfl) rfl #[.iface T x, .int .i64 f0, .int .i64 f1] (by rfl) rfl rfl (by simp only [q16T, q16M, q16L]; rfl) ?_
   with_reducible refine (HGET.out _ HBD.out).mono ?_
   rintro e w3 ⟨rfl, hb3⟩
   refine ⟨_, rfl, ?_⟩
   refine hK.out _ _ ⟨q16P hb3 y0_, q16P hb3 y1_, q16P hb3 y2_⟩ (fun hHeld => ?_)
   clear hK K
   refine norm_ (a' := ?_) ?_ ?_
   rotate_left
   ·
    show Act.put _ (some 24) _ = _
    simp only [Act.put, q16I, q160, q161, i64_w, i32_w]
    rfl
   refine pure_ (i:=14) (N:=some 8) (v:=?_) (a':=?_) #[true,true,true,true,true,true,true,true,true,true,true,true,true,true,true] rfl rfl (by kernel_rfl) (fun _ _ _ h => h) (Or.inl ⟨by rfl, ?_⟩) ?_ ?_
   rotate_left
   ·
    intro w'
    go_simp
    with_reducible rfl
   rotate_left
   ·
    simp only [Act.put, q16I, q160, q161, i64_w, i32_w]
    rfl
   refine done_ (by kernel_rfl) ?_
   have HB3 := q16a (q16S HBD.out hb3)
   have hX3 := q16a (blk_below hXD.out hb3)
   clear HBD hb3 y0_ y1_ y2_ hHeld hXD
   go_wp2
   have HXD := q16a (below_drew HB3.out)
   have z0_ : w3.drew.cell? ⟨w.heap.size, 0, none⟩ = some (.int .i64 (size : Int)) := (blk_cell (blk_drew hX3.out) 0).trans (arr3_0 _ _ _)
   clear HB3 hX3
   refine start_ (n := 14) (S := fun w' => w'.cell? ⟨w.heap.size, 0, none⟩ = some (.int .i64 (size : Int))) (ds := []) #[false,false,false,false,false,false,false,false,false,false,false,false,false,false] (by kernel_rfl) rfl rfl (z0_) (fun hHeld => ?_)
   generalize w3.drew = wE at z0_ HXD hHeld ⊢
   refine pure_ (i:=0) (N:=some 28) (v:=?_) (a':=?_) #[true,false,false,false,false,false,false,false,false,false,false,false,false,false] rfl rfl (by kernel_rfl) (fun _ _ _ h => h) (Or.inl ⟨by rfl, ?_⟩) ?_ ?_
   rotate_left
   ·
    intro w'
    go_simp
    with_reducible rfl
   rotate_left
   ·
    simp only [Act.put, q16I, q160, q161, i64_w, i32_w]
    rfl
   refine pure_ (i:=1) (N:=some 29) (v:=?_) (a':=?_) #[true,true,false,false,false,false,false,false,false,false,false,false,false,false] rfl rfl (by kernel_rfl) (fun _ _ _ h => h) (Or.inl ⟨by rfl, ?_⟩) ?_ ?_
   rotate_left
   ·
    intro w'
    go_simp
    with_reducible rfl
   rotate_left
   ·
    simp only [Act.put, q16I, q160, q161, i64_w, i32_w]
    rfl
   refine pure_ (i:=2) (N:=some 30) (v:=?_) (a':=?_) #[true,true,true,false,false,false,false,false,false,false,false,false,false,false] rfl rfl (by kernel_rfl) (fun _ _ _ h => h) (Or.inl ⟨by rfl, ?_⟩) ?_ ?_
   rotate_left
   ·
    intro w'
    go_simp
    with_reducible rfl
   rotate_left
   ·
    simp only [Act.put, q16I, q160, q161, i64_w, i32_w]
    rfl
   refine pure_ (i:=4) (N:=some 32) (v:=?_) (a':=?_) #[true,true,true,false,true,false,false,false,false,false,false,false,false,false] rfl rfl (by kernel_rfl) (fun _ _ _ h => h) (Or.inl ⟨by rfl, ?_⟩) ?_ ?_
   rotate_left
   ·
    intro w'
    go_simp
    with_reducible rfl
   rotate_left
   ·
    simp only [Act.put, q16I, q160, q161, i64_w, i32_w]
    rfl
   refine pure_ (i:=5) (N:=some 33) (v:=?_) (a':=?_) #[true,true,true,false,true,true,false,false,false,false,false,false,false,false] rfl rfl (by kernel_rfl) (fun _ _ _ h => h) (Or.inl ⟨by rfl, ?_⟩) ?_ ?_
   rotate_left
   ·
    intro w'
    go_simp
    with_reducible rfl
   rotate_left
   ·
    simp only [Act.put, q16I, q160, q161, i64_w, i32_w]
    rfl
   refine take_ (i:=3) (N:=some 31) (v:=?_) (a':=?_) #[true,true,true,true,true,true,false,false,false,false,false,false,false,false] rfl rfl (by kernel_rfl) (fun _ _ _ h => h) (Or.inl ⟨by rfl, ?_⟩) hHeld ?_ ?_
   rotate_left
   ·
    intro w' s0
    go_simp
    with_reducible rfl
   rotate_left
   ·
    simp only [Act.put, q16I, q160, q161, i64_w, i32_w]
    rfl
   refine pure_ (i:=6) (N:=some 34) (v:=?_) (a':=?_) #[true,true,true,true,true,true,true,false,false,false,false,false,false,false] rfl rfl (by kernel_rfl) (fun _ _ _ h => h) (Or.inl ⟨by rfl, ?_⟩) ?_ ?_
   rotate_left
   ·
    intro w'
    go_simp
    with_reducible rfl
   rotate_left
   ·
    simp only [Act.put, q16I, q160, q161, i64_w, i32_w]
    rfl
   refine pure_ (i:=7) (N:=some 35) (v:=?_) (a':=?_) #[true,true,true,true,true,true,true,true,false,false,false,false,false,false] rfl rfl (by kernel_rfl) (fun _ _ _ h => h) (Or.inl ⟨by rfl, ?_⟩) ?_ ?_
   rotate_left
   ·
    intro w'
    go_simp
    with_reducible rfl
   rotate_left
   ·
    simp only [Act.put, q16I, q160, q161, i64_w, i32_w]
    rfl
   refine one_ (i:=8) (N:=some 36) #[true,true,true,true,true,true,true,true,true,false,false,false,false,false] rfl rfl (by kernel_rfl) (by decide) (fun K hK => ?_)
   refine goes_ Try.func47 (by kernel_rfl) rfl #[.string s4, .int .i64 mn] (by rfl) rfl rfl (by simp only [q16T, q16M, q16L]; rfl) ?_
   with_reducible refine (wrackref1_Tokens.calls kt s4 mn u _ _ HTK.out).mono ?_
   rintro e w5 ⟨rfl, hb5⟩
   refine ⟨_, rfl, ?_⟩
   refine hK.out _ _ (q16P hb5 z0_) (fun hHeld => ?_)
   clear hK K
   refine norm_ (a' := ?_) ?_ ?_
   rotate_left
   ·
    show Act.put _ (some 36) _ = _
    simp only [Act.put, q16I, q160, q161, i64_w, i32_w]
    rfl
   refine pure_ (i:=9) (N:=some 27) (v:=?_) (a':=?_) #[true,true,true,true,true,true,true,true,true,true,false,false,false,false] rfl rfl (by kernel_rfl) (fun _ _ _ h => h) (Or.inl ⟨by rfl, ?_⟩) ?_ ?_
   rotate_left
   ·
    intro w'
    go_simp
    with_reducible rfl
   rotate_left
   ·
    simp only [Act.put, q16I, q160, q161, i64_w, i32_w]
    rfl
   refine pure_ (i:=10) (N:=some 37) (v:=?_) (a':=?_) #[true,true,true,true,true,true,true,true,true,true,true,false,false,false] rfl rfl (by kernel_rfl) (fun _ _ _ h => h) (Or.inl ⟨by rfl, ?_⟩) ?_ ?_
   rotate_left
   ·
    intro w'
    go_simp
    with_reducible rfl
   rotate_left
   ·
    simp only [Act.put, q16I, q160, q161, i64_w, i32_w]
    rfl
   refine pure_ (i:=11) (N:=some 38) (v:=?_) (a':=?_) #[true,true,true,true,true,true,true,true,true,true,true,true,false,false] rfl rfl (by kernel_rfl) (fun _ _ _ h => h) (Or.inl ⟨by rfl, ?_⟩) ?_ ?_
   rotate_left
   ·
    intro w'
    go_simp
    with_reducible rfl
   rotate_left
   ·
    simp only [Act.put, q16I, q160, q161, i64_w, i32_w]
    rfl
   refine pure_ (i:=12) (N:=some 9) (v:=?_) (a':=?_) #[true,true,true,true,true,true,true,true,true,true,true,true,true,false] rfl rfl (by kernel_rfl) (fun _ _ _ h => h) (Or.inl ⟨by rfl, ?_⟩) ?_ ?_
   rotate_left
   ·
    intro w'
    go_simp
    with_reducible rfl
   rotate_left
   ·
    simp only [Act.put, q16I, q160, q161, i64_w, i32_w]
    rfl
   refine pure_ (i:=13) (N:=some 10) (v:=?_) (a':=?_) #[true,true,true,true,true,true,true,true,true,true,true,true,true,true] rfl rfl (by kernel_rfl) (fun _ _ _ h => h) (Or.inl ⟨by rfl, ?_⟩) ?_ ?_
   rotate_left
   ·
    intro w'
    go_simp
    with_reducible rfl
   rotate_left
   ·
    simp only [Act.put, q16I, q160, q161, i64_w, i32_w]
    rfl
   refine done_ (by kernel_rfl) ?_
   have HB5 := q16a (q16S HXD.out hb5)
   clear HXD hb5 z0_ hHeld
   go_wp2
   have HYD := q16a (below_drew HB5.out)
   clear HB5
   refine start_ (n := 14) (S := fun w' => True) (ds := []) #[false,false,false,false,false,false,false,false,false,false,false,false,false,false] (by kernel_rfl) rfl rfl trivial (fun hHeld => ?_)
   generalize w5.drew = wF at HYD hHeld ⊢
   refine pure_ (i:=0) (N:=some 39) (v:=?_) (a':=?_) #[true,false,false,false,false,false,false,false,false,false,false,false,false,false] rfl rfl (by kernel_rfl) (fun _ _ _ h => h) (Or.inl ⟨by rfl, ?_⟩) ?_ ?_
   rotate_left
   ·
    intro w'
    go_simp
    with_reducible rfl
   rotate_left
   ·
    simp only [Act.put, q16I, q160, q161, i64_w, i32_w]
    rfl
   refine pure_ (i:=1) (N:=some 40) (v:=?_) (a':=?_) #[true,true,false,false,false,false,false,false,false,false,false,false,false,false] rfl rfl (by kernel_rfl) (fun _ _ _ h => h) (Or.inl ⟨by rfl, ?_⟩) ?_ ?_
   rotate_left
   ·
    intro w'
    go_simp
    with_reducible rfl
   rotate_left
   ·
    simp only [Act.put, q16I, q160, q161, i64_w, i32_w]
    rfl
   refine pure_ (i:=2) (N:=some 41) (v:=?_) (a':=?_) #[true,true,true,false,false,false,false,false,false,false,false,false,false,false] rfl rfl (by kernel_rfl) (fun _ _ _ h => h) (Or.inl ⟨by rfl, ?_⟩) ?_ ?_
   rotate_left
   ·
    intro w'
    go_simp
    with_reducible rfl
   rotate_left
   ·
    simp only [Act.put, q16I, q160, q161, i64_w, i32_w]
    rfl
   refine pure_ (i:=3) (N:=some 42) (v:=?_) (a':=?_) #[true,true,true,true,false,false,false,false,false,false,false,false,false,false] rfl rfl (by kernel_rfl) (fun _ _ _ h => h) (Or.inl ⟨by rfl, ?_⟩) ?_ ?_
   rotate_left
   ·
    intro w'
    go_simp
    with_reducible rfl
   rotate_left
   ·
    simp only [Act.put, q16I, q160, q161, i64_w, i32_w]
    rfl
   refine pure_ (i:=4) (N:=some 43) (v := undef) (a' := ?_) #[true,true,true,true,true,false,false,false,false,false,false,false,false,false] rfl rfl (by kernel_rfl) (fun _ _ _ h => h) (Or.inr ⟨by rfl, rfl⟩) ?_ ?_
   rotate_left
   ·
    simp only [Act.put, q16I, q160, q161, i64_w, i32_w]
    rfl
   refine pure_ (i:=5) (N:=some 44) (v := undef) (a' := ?_) #[true,true,true,true,true,true,false,false,false,false,false,false,false,false] rfl rfl (by kernel_rfl) (fun _ _ _ h => h) (Or.inr ⟨by rfl, rfl⟩) ?_ ?_
   rotate_left
   ·
    simp only [Act.put, q16I, q160, q161, i64_w, i32_w]
    rfl
   refine pure_ (i:=6) (N:=some 45) (v := undef) (a' := ?_) #[true,true,true,true,true,true,true,false,false,false,false,false,false,false] rfl rfl (by kernel_rfl) (fun _ _ _ h => h) (Or.inr ⟨by rfl, rfl⟩) ?_ ?_
   rotate_left
   ·
    simp only [Act.put, q16I, q160, q161, i64_w, i32_w]
    rfl
   refine pure_ (i:=7) (N:=some 46) (v := undef) (a' := ?_) #[true,true,true,true,true,true,true,true,false,false,false,false,false,false] rfl rfl (by kernel_rfl) (fun _ _ _ h => h) (Or.inr ⟨by rfl, rfl⟩) ?_ ?_
   rotate_left
   ·
    simp only [Act.put, q16I, q160, q161, i64_w, i32_w]
    rfl
   refine pure_ (i:=8) (N:=some 47) (v := undef) (a' := ?_) #[true,true,true,true,true,true,true,true,true,false,false,false,false,false] rfl rfl (by kernel_rfl) (fun _ _ _ h => h) (Or.inr ⟨by rfl, rfl⟩) ?_ ?_
   rotate_left
   ·
    simp only [Act.put, q16I, q160, q161, i64_w, i32_w]
    rfl
   refine pure_ (i:=9) (N:=some 48) (v := undef) (a' := ?_) #[true,true,true,true,true,true,true,true,true,true,false,false,false,false] rfl rfl (by kernel_rfl) (fun _ _ _ h => h) (Or.inr ⟨by rfl, rfl⟩) ?_ ?_
   rotate_left
   ·
    simp only [Act.put, q16I, q160, q161, i64_w, i32_w]
    rfl
   refine pure_ (i:=10) (N:=some 49) (v := undef) (a' := ?_) #[true,true,true,true,true,true,true,true,true,true,true,false,false,false] rfl rfl (by kernel_rfl) (fun _ _ _ h => h) (Or.inr ⟨by rfl, rfl⟩) ?_ ?_
   rotate_left
   ·
    simp only [Act.put, q16I, q160, q161, i64_w, i32_w]
    rfl
   refine pure_ (i:=11) (N:=some 50) (v:=?_) (a':=?_) #[true,true,true,true,true,true,true,true,true,true,true,true,false,false] rfl rfl (by kernel_rfl) (fun _ _ _ h => h) (Or.inl ⟨by rfl, ?_⟩) ?_ ?_
   rotate_left
   ·
    intro w'
    go_simp
    with_reducible rfl
   rotate_left
   ·
    simp only [Act.put, q16I, q160, q161, i64_w, i32_w]
    rfl
   refine pure_ (i:=12) (N:=some 6) (v:=?_) (a':=?_) #[true,true,true,true,true,true,true,true,true,true,true,true,true,false] rfl rfl (by kernel_rfl) (fun _ _ _ h => h) (Or.inl ⟨by rfl, ?_⟩) ?_ ?_
   rotate_left
   ·
    intro w'
    go_simp
    with_reducible rfl
   rotate_left
   ·
    simp only [Act.put, q16I, q160, q161, i64_w, i32_w]
    rfl
   refine pure_ (i:=13) (N:=some 7) (v:=?_) (a':=?_) #[true,true,true,true,true,true,true,true,true,true,true,true,true,true] rfl rfl (by kernel_rfl) (fun _ _ _ h => h) (Or.inl ⟨by rfl, ?_⟩) ?_ ?_
   rotate_left
   ·
    intro w'
    go_simp
    with_reducible rfl
   rotate_left
   ·
    simp only [Act.put, q16I, q160, q161, i64_w, i32_w]
    rfl
   refine done_ (by kernel_rfl) ?_
   have HB8 := q16a (q16S HYD.out (Below.refl _ _))
   go_wp2
   refine bodyPost_ret (v := .tuple #[.string u, .bool false]) (by simp [results, Try.results11, go_sem]) rfl ?_
   exact ⟨_, rfl, (fun h => by cases h), HUL.out, HB8.out⟩
 ·
  rw [decide_eq_false (fun h => e h.1)]
  have hrn : row = [] := by rw [hrow]; unfold readRow; rw [if_neg e]
  subst hrn
  obtain rfl : s = (⟨#[]⟩ : ByteArray) := by rw [hse]; decide
  clear h hU2 hy hU h4 hr hf0 hf1 hb hn hl hget hse hrow e hBx hXx hC hs
  go_enter Try.func11, Try.ntmps11
  go_wp2
  generalize w.alloc (.cells #[.int .i64 (size : Int), .int .i64 hd, .slice (some ad) l.length c] 37) = w1 at hX1 HB1 e0 e1 ⊢
  have HBD := q16a (below_drew HB1.out)
  have y0_ : w1.drew.cell? ⟨w.heap.size, 2, none⟩ = some (.slice (some ad) l.length c) := (blk_cell (blk_drew hX1.out) 2).trans (arr3_2 _ _ _)
  have y1_ : w1.drew.cell? (ad.add (i * 2)) = some (.int .i64 f0) := q16P (below_drew (Below.refl w1.heap.size w1)) e0
  have y2_ : w1.drew.cell? ⟨(ad.add (i * 2)).block, (ad.add (i * 2)).off + 1, none⟩ = some (.int .i64 f1) := q16P (below_drew (Below.refl w1.heap.size w1)) e1
  have hXD := q16a (blk_drew hX1.out)
  clear HB1 hX1 e0 e1
  refine start_ (n := 15) (S := fun w' => w'.cell? ⟨w.heap.size, 2, none⟩ = some (.slice (some ad) l.length c) ∧ w'.cell? (ad.add (i * 2)) = some (.int .i64 f0) ∧ w'.cell? ⟨(ad.add (i * 2)).block, (ad.add (i * 2)).off + 1, none⟩ = some (.int .i64 f1)) (ds := []) #[false,false,false,false,false,false,false,false,false,false,false,false,false,false,false] (by kernel_rfl) rfl rfl ⟨y0_, y1_, y2_⟩ (fun hHeld => ?_)
  generalize w1.drew = wD at y0_ y1_ y2_ HBD hXD hHeld ⊢
  refine pure_ (i:=0) (N:=some 11) (v:=?_) (a':=?_) #[true,false,false,false,false,false,false,false,false,false,false,false,false,false,false] rfl rfl (by kernel_rfl) (fun _ _ _ h => h) (Or.inl ⟨by rfl, ?_⟩) ?_ ?_
  rotate_left
  ·
   intro w'
   go_simp
   with_reducible rfl
  rotate_left
  ·
   simp only [Act.put, q16I, q160, q161, i64_w, i32_w]
   rfl
  refine pure_ (i:=1) (N:=some 12) (v:=?_) (a':=?_) #[true,true,false,false,false,false,false,false,false,false,false,false,false,false,false] rfl rfl (by kernel_rfl) (fun _ _ _ h => h) (Or.inl ⟨by rfl, ?_⟩) ?_ ?_
  rotate_left
  ·
   intro w'
   go_simp
   with_reducible rfl
  rotate_left
  ·
   simp only [Act.put, q16I, q160, q161, i64_w, i32_w]
   rfl
  refine pure_ (i:=3) (N:=some 14) (v:=?_) (a':=?_) #[true,true,false,true,false,false,false,false,false,false,false,false,false,false,false] rfl rfl (by kernel_rfl) (fun _ _ _ h => h) (Or.inl ⟨by rfl, ?_⟩) ?_ ?_
  rotate_left
  ·
   intro w'
   go_simp
   with_reducible rfl
  rotate_left
  ·
   simp only [Act.put, q16I, q160, q161, i64_w, i32_w]
   rfl
  refine pure_ (i:=7) (N:=some 18) (v:=?_) (a':=?_) #[true,true,false,true,false,false,false,true,false,false,false,false,false,false,false] rfl rfl (by kernel_rfl) (fun _ _ _ h => h) (Or.inl ⟨by rfl, ?_⟩) ?_ ?_
  rotate_left
  ·
   intro w'
   go_simp
   with_reducible rfl
  rotate_left
  ·
   simp only [Act.put, q16I, q160, q161, i64_w, i32_w]
   rfl
  refine pure_ (i:=9) (N:=some 20) (v:=?_) (a':=?_) #[true,true,false,true,false,false,false,true,false,true,false,false,false,false,false] rfl rfl (by kernel_rfl) (fun _ _ _ h => h) (Or.inl ⟨by rfl, ?_⟩) ?_ ?_
  rotate_left
  ·
   intro w'
   go_simp
   with_reducible rfl
  rotate_left
  ·
   simp only [Act.put, q16I, q160, q161, i64_w, i32_w]
   rfl
  refine take_ (i:=2) (N:=some 13) (v:=?_) (a':=?_) #[true,true,true,true,false,false,false,true,false,true,false,false,false,false,false] rfl rfl (by kernel_rfl) (fun _ _ _ h => h) (Or.inl ⟨by rfl, ?_⟩) hHeld ?_ ?_
  rotate_left
  ·
   rintro w' ⟨s0, s1, s2⟩
   go_simp
   with_reducible rfl
  rotate_left
  ·
   simp only [Act.put, q16I, q160, q161, i64_w, i32_w]
   rfl
  refine pure_ (i:=4) (N:=some 15) (v:=?_) (a':=?_) #[true,true,true,true,true,false,false,true,false,true,false,false,false,false,false] rfl rfl (by kernel_rfl) (fun _ _ _ h => h) (Or.inl ⟨by rfl, ?_⟩) ?_ ?_
  rotate_left
  ·
   intro w'
   go_simp
   with_reducible rfl
  rotate_left
  ·
   simp only [Act.put, q16I, q160, q161, i64_w, i32_w]
   rfl
  refine pure_ (i:=5) (N:=some 16) (v:=?_) (a':=?_) #[true,true,true,true,true,true,false,true,false,true,false,false,false,false,false] rfl rfl (by kernel_rfl) (fun _ _ _ h => h) (Or.inl ⟨by rfl, ?_⟩) ?_ ?_
  rotate_left
  ·
   intro w'
   go_simp
   with_reducible rfl
  rotate_left
  ·
   simp only [Act.put, q16I, q160, q161, i64_w, i32_w]
   rfl
  refine take_ (i:=6) (N:=some 17) (v:=?_) (a':=?_) #[true,true,true,true,true,true,true,true,false,true,false,false,false,false,false] rfl rfl (by kernel_rfl) (fun _ _ _ h => h) (Or.inl ⟨by rfl, ?_⟩) hHeld ?_ ?_
  rotate_left
  ·
   rintro w' ⟨s0, s1, s2⟩
   go_simp
   with_reducible rfl
  rotate_left
  ·
   simp only [Act.put, q16I, q160, q161, i64_w, i32_w]
   rfl
  refine take_ (i:=8) (N:=some 19) (v:=?_) (a':=?_) #[true,true,true,true,true,true,true,true,true,true,false,false,false,false,false] rfl rfl (by kernel_rfl) (fun _ _ _ h => h) (Or.inl ⟨by rfl, ?_⟩) hHeld ?_ ?_
  rotate_left
  ·
   rintro w' ⟨s0, s1, s2⟩
   go_simp
   with_reducible rfl
  rotate_left
  ·
   simp only [Act.put, q16I, q160, q161, i64_w, i32_w]
   rfl
  refine pure_ (i:=10) (N:=some 21) (v:=?_) (a':=?_) #[true,true,true,true,true,true,true,true,true,true,true,false,false,false,false] rfl rfl (by kernel_rfl) (fun _ _ _ h => h) (Or.inl ⟨by rfl, ?_⟩) ?_ ?_
  rotate_left
  ·
   intro w'
   go_simp
   with_reducible rfl
  rotate_left
  ·
   simp only [Act.put, q16I, q160, q161, i64_w, i32_w]
   rfl
  refine pure_ (i:=11) (N:=some 22) (v:=?_) (a':=?_) #[true,true,true,true,true,true,true,true,true,true,true,true,false,false,false] rfl rfl (by kernel_rfl) (fun _ _ _ h => h) (Or.inl ⟨by rfl, ?_⟩) ?_ ?_
  rotate_left
  ·
   intro w'
   go_simp
   with_reducible rfl
  rotate_left
  ·
   simp only [Act.put, q16I, q160, q161, i64_w, i32_w]
   rfl
  refine take_ (i:=12) (N:=some 23) (v:=?_) (a':=?_) #[true,true,true,true,true,true,true,true,true,true,true,true,true,false,false] rfl rfl (by kernel_rfl) (fun _ _ _ h => h) (Or.inl ⟨by rfl, ?_⟩) hHeld ?_ ?_
  rotate_left
  ·
   rintro w' ⟨s0, s1, s2⟩
   go_simp
   with_reducible rfl
  rotate_left
  ·
   simp only [Act.put, q16I, q160, q161, i64_w, i32_w]
   rfl
  refine one_ (i:=13) (N:=some 24) #[true,true,true,true,true,true,true,true,true,true,true,true,true,true,false] rfl rfl (by kernel_rfl) (by decide) (fun K hK => ?_)
  refine goes_ Try.func42 (by kernel_rfl) rfl #[.iface T x, .int .i64 f0, .int .i64 f1] (by rfl) rfl rfl (by simp only [q16T, q16M, q16L]; rfl) ?_
  with_reducible refine (HGET.out _ HBD.out).mono ?_
  rintro e w3 ⟨rfl, hb3⟩
  refine ⟨_, rfl, ?_⟩
  refine hK.out _ _ ⟨q16P hb3 y0_, q16P hb3 y1_, q16P hb3 y2_⟩ (fun hHeld => ?_)
  clear hK K
  refine norm_ (a' := ?_) ?_ ?_
  rotate_left
  ·
   show Act.put _ (some 24) _ = _
   simp only [Act.put, q16I, q160, q161, i64_w, i32_w]
   rfl
  refine pure_ (i:=14) (N:=some 8) (v:=?_) (a':=?_) #[true,true,true,true,true,true,true,true,true,true,true,true,true,true,true] rfl rfl (by kernel_rfl) (fun _ _ _ h => h) (Or.inl ⟨by rfl, ?_⟩) ?_ ?_
  rotate_left
  ·
   intro w'
   go_simp
   with_reducible rfl
  rotate_left
  ·
   simp only [Act.put, q16I, q160, q161, i64_w, i32_w]
   rfl
  refine done_ (by kernel_rfl) ?_
  clear hHeld y0_ y1_ y2_ hXD
  have HB3 := q16a (q16S HBD.out hb3)
  go_wp2
  refine bodyPost_ret (v := .tuple #[.string ⟨#[]⟩, .bool false]) (by simp [results, Try.results11, go_sem]) rfl ?_
  exact ⟨_, rfl, (fun h => by cases h), by decide, HB3.out⟩
end Go.Proofs.Ytgkjkhhppmnajaa.Pure
