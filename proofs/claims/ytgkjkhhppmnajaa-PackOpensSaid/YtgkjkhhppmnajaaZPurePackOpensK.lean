/- Packed layers: the road. No condition. -/
import Derived.Test.YtgkjkhhppmnajaaZPurePackOpensJ
import Derived.Lib.Bytes
import Derived.Lib.Repeat
import Derived.Lib.EndianBits
namespace Go.Proofs.Ytgkjkhhppmnajaa.Pure
open Go.Proofs.Ytgkjkhhppmnajaa.SumPlain Go.Maps
open Go Go.RowKit Go.Proofs.Ytgkjkhhppmnajaa.QPackOpens Go.Proofs.YtgkjkhhppmnajaaW.PrintWords Go.Proofs.YtgkjkhhppmnajaaW.PrintLast Go.Proofs.YtgkjkhhppmnajaaW.PrintMore
set_option linter.unusedVariables false
set_option linter.unusedSimpArgs false
theorem q15I : type_of% @List.setIfInBounds_toArray := @List.setIfInBounds_toArray
theorem q150 : type_of% @List.set_cons_zero := @List.set_cons_zero
theorem q151 : type_of% @List.set_cons_succ := @List.set_cons_succ
theorem q15a : type_of% @Aside0.mk := @Aside0.mk
/-- the roads of the head with the index, and of units -/
def rowsR (fr : List Int) (l : List S45) (a : Nat) : Nat → List S45
 | 0 => roadRow fr 0 (16 + 2 * (l.length : Int))
 | j + 1 => rowsR fr l a j ++ roadRow fr (rd_T45 l ((a + j : Nat) : Int)).f0 (rd_T45 l ((a + j : Nat) : Int)).f1
theorem roadRow_len (fr : List Int) (h : fr.length ≤ 65536) (off k : Int) : (roadRow fr off k).length ≤ 65536 := by
 unfold roadRow
 split
 ·
  have h1 := glued_short ((fr.drop off.toNat).take k.toNat) []
  rw [List.length_nil, List.length_take, List.length_drop] at h1
  omega
 · simp
theorem rowsR_len (fr : List Int) (l : List S45) (h : fr.length ≤ 65536) (a : Nat) : ∀ j, (rowsR fr l a j).length ≤ 65536 * (j + 1)
 | 0 => by have := roadRow_len fr h 0 (16 + 2 * (l.length : Int)); unfold rowsR; omega
 | j + 1 => by
  have h1 := rowsR_len fr l h a j
  have h2 := roadRow_len fr h (rd_T45 l ((a + j : Nat) : Int)).f0 (rd_T45 l ((a + j : Nat) : Int)).f1
  rw [rowsR, List.length_append]
  omega
theorem rows_room {p q : Nat} {j : Nat} (h1 : p ≤ 65536 * (j + 1)) (h2 : q ≤ 65536) (hj : j ≤ 1000) : (p + q) * 16 ≤ 140737488355328 := by omega
theorem run_few {i a j z : Nat} (h : i = a + j) (h1 : i ≤ z) (hz : z ≤ 256) : j ≤ 1000 := by omega
def RoRel (w wr : World) (fr : List Int) (l : List S45) (a z : Nat) (vo vi : Value) : Prop := ∃ (j i : Nat), Aside0 (i = a + j) ∧ vi = .int .i64 (i : Int) ∧ i ≤ z + 1 ∧ Aside0 (k45.R 45 wr w.heap.size (fun _ => True) vo (rowsR fr l a j)) ∧ Aside0 (Below w.heap.size w wr)
set_option maxHeartbeats 16000000 in
set_option maxRecDepth 100000 in
theorem lay_road (w : World) (g T : Nat) (x : Value) (fR fO fS fP : Nat) (b fr : List Int) (bad : List Bool) (h : SrcIs w T x fR fO fS fP b fr bad) (hfr : fr.length ≤ 65536) (size : Nat) (A : Option Addr) (c : Nat) (l : List S45) (hI0 : IsLay w g T x size A c l) (hs : size ≤ 65536) (hL : l.length = nUn size) (o m : Nat) (hm : 0 < m) (hom : o + m ≤ size) :
  Calls Try.prog 148 #[.pointer (some ⟨g, 0, none⟩), .int .i64 (o : Int), .int .i64 (m : Int)] w fun e w' => ∃ v0, e = .returned v0 ∧ k45.R 45 w' w.heap.size (fun _ => True) v0 (gluedP [] (laid (rowsR fr l (o / 256) ((o + m - 1) / 256 - o / 256 + 1)))) ∧ Below w.heap.size w w' := by
 have hl : l.length ≤ 1000 := by unfold nUn at hL; omega
 have hwr := lay_wrong w g T x size A c l hI0 hs (o : Int) (m : Int)
 rw [decide_eq_false (fun h => h ⟨by omega, by omega, by omega⟩)] at hwr
 obtain ⟨n1, n2, n3, n4⟩ := rd_nums o m size l.length hm hom hs hL
 have ho : o + m ≤ 1000000 := by omega
 have hk : (o + m - 1) / 256 - o / 256 + 1 ≤ 1000 := by omega
 have hgl := glue_ev (rowsR fr l (o / 256) ((o + m - 1) / 256 - o / 256 + 1)) (by have := rowsR_len fr l hfr (o / 256) ((o + m - 1) / 256 - o / 256 + 1); omega)
 obtain ⟨kg, hkg⟩ := hgl.rounds
 have q1 := nat_tdiv o
 have q6 := nat_tdiv (o + m - 1)
 have q4 := nat_wrap2 o m ho
 have q5 := nat_wrap3 o m ho hm
 obtain ⟨a, ha⟩ : ∃ a, a = o / 256 := ⟨_, rfl⟩
 obtain ⟨y, hy⟩ : ∃ y, y = o + m - 1 := ⟨_, rfl⟩
 obtain ⟨z, hz⟩ : ∃ z, z = y / 256 := ⟨_, rfl⟩
 rw [← ha] at q1
 rw [← hy] at q5
 rw [← hy, ← hz] at q6
 rw [← ha, ← hy, ← hz] at hkg
 rw [← ha, ← hy, ← hz]
 rw [← hy, ← hz] at n2 n3
 rw [← ha, ← hy, ← hz] at n1
 have haz : a ≤ z := n1
 have hzl : z < l.length := n2
 have q3 : IntKind.i64.wrap (a : Int) = (a : Int) := nat_wrap a (Nat.le_trans haz (Nat.le_trans n3 (by decide)))
 have q8 : IntKind.i64.wrap (z : Int) = (z : Int) := nat_wrap z (Nat.le_trans n3 (by decide))
 have q3b : wrap64 (a : Int) = (a : Int) := by rw [← i64_w]; exact q3
 have q8b : wrap64 (z : Int) = (z : Int) := by rw [← i64_w]; exact q8
 have qa : wrap64 (2 * (l.length : Int)) = 2 * (l.length : Int) := by unfold wrap64; omega
 have qb : wrap64 (16 + 2 * (l.length : Int)) = 16 + 2 * (l.length : Int) := by unfold wrap64; omega
 have qa2 : IntKind.i64.wrap (2 * (l.length : Int)) = 2 * (l.length : Int) := by rw [i64_w]; exact qa
 have qb2 : IntKind.i64.wrap (16 + 2 * (l.length : Int)) = 16 + 2 * (l.length : Int) := by rw [i64_w]; exact qb
 have tm1 : decide ((m : Int) = 0) = false := decide_eq_false (fun h => Nat.pos_iff_ne_zero.1 hm (Int.ofNat_eq_zero.1 h))
 have tm3 : ((m : Int) == 0) = false := beq_eq_false_iff_ne.2 (fun h => Nat.pos_iff_ne_zero.1 hm (Int.ofNat_eq_zero.1 h))
 have tm2 : ¬ (m = 0) := Nat.pos_iff_ne_zero.1 hm
 have HWR := q15a hwr
 have HKG := q15a hkg
 have HFR := q15a hfr
 have HROAD := q15a (fun (p q : Int) W (hb : Below w.heap.size w W) => (h.ans W hb).road p q)
 have HROAD0 := q15a (fun W (hb : Below w.heap.size w W) => (h.ans W hb).road 0 (16 + 2 * (l.length : Int)))
 have hmO := q15a h.mO
 have hI := q15a hI0
 have HZ2 := q15a n3
 clear h hwr hkg hgl hfr ha hz hy hom hm hs hL hl n1 n2 n3 n4 ho hk hI0
 go_enter Try.func148, Try.ntmps148
 go_wp2_with (first
  | (go_at_call 150; refine HWR.out.mono ?_; rintro e w1 ⟨rfl, hb1⟩; have HB1 := q15a hb1; clear hb1))
 have HBD := q15a (below_drew HB1.out)
 have hI1 := q15a (hI.out.below HB1.out)
 have y0_ : w1.drew.cell? ⟨g, 0, none⟩ = some (.iface T x) := (blk_cell (blk_drew hI1.out.blk) 0).trans rfl
 have y1_ : w1.drew.cell? ⟨g, 2, none⟩ = some (.slice A l.length c) := (blk_cell (blk_drew hI1.out.blk) 2).trans rfl
 clear HB1
 refine start_ (n := 15) (S := fun w' => w'.cell? ⟨g, 0, none⟩ = some (.iface T x) ∧ w'.cell? ⟨g, 2, none⟩ = some (.slice A l.length c)) (ds := []) #[false,false,false,false,false,false,false,false,false,false,false,false,false,false,false] (by kernel_rfl) rfl rfl ⟨y0_, y1_⟩ (fun hHeld => ?_)
 generalize w1.drew = wD at y0_ y1_ HBD hHeld ⊢
 refine pure_ (i:=0) (N:=some 17) (v:=?_) (a':=?_) #[true,false,false,false,false,false,false,false,false,false,false,false,false,false,false] rfl rfl (by kernel_rfl) (fun _ _ _ h => h) (Or.inl ⟨by rfl, ?_⟩) ?_ ?_
 rotate_left
 ·
  intro w'
  go_simp
  with_reducible rfl
 rotate_left
 ·
  simp only [Act.put, q15I, q150, q151, i64_w, i32_w]
  rfl
 refine pure_ (i:=1) (N:=some 18) (v:=?_) (a':=?_) #[true,true,false,false,false,false,false,false,false,false,false,false,false,false,false] rfl rfl (by kernel_rfl) (fun _ _ _ h => h) (Or.inl ⟨by rfl, ?_⟩) ?_ ?_
 rotate_left
 ·
  intro w'
  go_simp
  with_reducible rfl
 rotate_left
 ·
  simp only [Act.put, q15I, q150, q151, i64_w, i32_w]
  rfl
 refine pure_ (i:=2) (N:=some 19) (v:=?_) (a':=?_) #[true,true,true,false,false,false,false,false,false,false,false,false,false,false,false] rfl rfl (by kernel_rfl) (fun _ _ _ h => h) (Or.inl ⟨by rfl, ?_⟩) ?_ ?_
 rotate_left
 ·
  intro w'
  go_simp
  with_reducible rfl
 rotate_left
 ·
  simp only [Act.put, q15I, q150, q151, i64_w, i32_w]
  rfl
 refine pure_ (i:=4) (N:=some 21) (v:=?_) (a':=?_) #[true,true,true,false,true,false,false,false,false,false,false,false,false,false,false] rfl rfl (by kernel_rfl) (fun _ _ _ h => h) (Or.inl ⟨by rfl, ?_⟩) ?_ ?_
 rotate_left
 ·
  intro w'
  go_simp
  with_reducible rfl
 rotate_left
 ·
  simp only [Act.put, q15I, q150, q151, i64_w, i32_w]
  rfl
 refine pure_ (i:=5) (N:=some 22) (v:=?_) (a':=?_) #[true,true,true,false,true,true,false,false,false,false,false,false,false,false,false] rfl rfl (by kernel_rfl) (fun _ _ _ h => h) (Or.inl ⟨by rfl, ?_⟩) ?_ ?_
 rotate_left
 ·
  intro w'
  go_simp
  with_reducible rfl
 rotate_left
 ·
  simp only [Act.put, q15I, q150, q151, i64_w, i32_w]
  rfl
 refine pure_ (i:=6) (N:=some 23) (v:=?_) (a':=?_) #[true,true,true,false,true,true,true,false,false,false,false,false,false,false,false] rfl rfl (by kernel_rfl) (fun _ _ _ h => h) (Or.inl ⟨by rfl, ?_⟩) ?_ ?_
 rotate_left
 ·
  intro w'
  go_simp
  with_reducible rfl
 rotate_left
 ·
  simp only [Act.put, q15I, q150, q151, i64_w, i32_w]
  rfl
 refine take_ (i:=3) (N:=some 20) (v:=?_) (a':=?_) #[true,true,true,true,true,true,true,false,false,false,false,false,false,false,false] rfl rfl (by kernel_rfl) (fun _ _ _ h => h) (Or.inl ⟨by rfl, ?_⟩) hHeld ?_ ?_
 rotate_left
 ·
  rintro w' ⟨s0, s1⟩
  go_simp
  with_reducible rfl
 rotate_left
 ·
  simp only [Act.put, q15I, q150, q151, i64_w, i32_w]
  rfl
 refine pure_ (i:=11) (N:=some 28) (v:=?_) (a':=?_) #[true,true,true,true,true,true,true,false,false,false,false,true,false,false,false] rfl rfl (by kernel_rfl) (fun _ _ _ h => h) (Or.inl ⟨by rfl, ?_⟩) ?_ ?_
 rotate_left
 ·
  intro w'
  go_simp
  with_reducible rfl
 rotate_left
 ·
  simp only [Act.put, q15I, q150, q151, i64_w, i32_w]
  rfl
 refine pure_ (i:=12) (N:=some 29) (v:=?_) (a':=?_) #[true,true,true,true,true,true,true,false,false,false,false,true,true,false,false] rfl rfl (by kernel_rfl) (fun _ _ _ h => h) (Or.inl ⟨by rfl, ?_⟩) ?_ ?_
 rotate_left
 ·
  intro w'
  go_simp
  with_reducible rfl
 rotate_left
 ·
  simp only [Act.put, q15I, q150, q151, i64_w, i32_w]
  rfl
 refine take_ (i:=7) (N:=some 24) (v:=?_) (a':=?_) #[true,true,true,true,true,true,true,true,false,false,false,true,true,false,false] rfl rfl (by kernel_rfl) (fun _ _ _ h => h) (Or.inl ⟨by rfl, ?_⟩) hHeld ?_ ?_
 rotate_left
 ·
  rintro w' ⟨s0, s1⟩
  go_simp
  with_reducible rfl
 rotate_left
 ·
  simp only [Act.put, q15I, q150, q151, i64_w, i32_w]
  rfl
 refine pure_ (i:=8) (N:=some 25) (v:=?_) (a':=?_) #[true,true,true,true,true,true,true,true,true,false,false,true,true,false,false] rfl rfl (by kernel_rfl) (fun _ _ _ h => h) (Or.inl ⟨by rfl, ?_⟩) ?_ ?_
 rotate_left
 ·
  intro w'
  go_simp
  with_reducible rfl
 rotate_left
 ·
  simp only [Act.put, q15I, q150, q151, i64_w, i32_w]
  rfl
 refine pure_ (i:=9) (N:=some 26) (v:=?_) (a':=?_) #[true,true,true,true,true,true,true,true,true,true,false,true,true,false,false] rfl rfl (by kernel_rfl) (fun _ _ _ h => h) (Or.inl ⟨by rfl, ?_⟩) ?_ ?_
 rotate_left
 ·
  intro w'
  go_simp
  with_reducible rfl
 rotate_left
 ·
  simp only [Act.put, q15I, q150, q151, i64_w, i32_w]
  rfl
 refine pure_ (i:=10) (N:=some 27) (v:=?_) (a':=?_) #[true,true,true,true,true,true,true,true,true,true,true,true,true,false,false] rfl rfl (by kernel_rfl) (fun _ _ _ h => h) (Or.inl ⟨by rfl, ?_⟩) ?_ ?_
 rotate_left
 ·
  intro w'
  go_simp
  with_reducible rfl
 rotate_left
 ·
  simp only [Act.put, q15I, q150, q151, i64_w, i32_w]
  rfl
 refine one_ (i:=13) (N:=some 30) #[true,true,true,true,true,true,true,true,true,true,true,true,true,true,false] rfl rfl (by kernel_rfl) (by decide) (fun K hK => ?_)
 refine call_ fO #[x, .int .i64 0, .int .i64 (16 + 2 * (l.length : Int))] (by rfl) rfl ?_ ?_
 ·
  unfold execOp
  simp [resolve, Deferred.ofValue, invoke, callMethod, Act.eval]
  rw [show 199 + Made.depth = 299 from rfl, hmO.out.run]
  exact hmO.out.ent _ _
 with_reducible refine (HROAD0.out _ HBD.out).mono ?_
 rintro e w3 ⟨v3, rfl, hv3, hb3⟩
 refine ⟨_, rfl, ?_⟩
 refine hK.out _ _ ⟨pw_cell_below hb3 y0_, pw_cell_below hb3 y1_⟩ (fun hHeld => ?_)
 clear hK K
 refine norm_ (a' := ?_) ?_ ?_
 rotate_left
 ·
  show Act.put _ (some 30) _ = _
  simp only [Act.put, q15I, q150, q151, i64_w, i32_w]
  rfl
 refine pure_ (i:=14) (N:=some 7) (v:=?_) (a':=?_) #[true,true,true,true,true,true,true,true,true,true,true,true,true,true,true] rfl rfl (by kernel_rfl) (fun _ _ _ h => h) (Or.inl ⟨by rfl, ?_⟩) ?_ ?_
 rotate_left
 ·
  intro w'
  go_simp
  with_reducible rfl
 rotate_left
 ·
  simp only [Act.put, q15I, q150, q151, i64_w, i32_w]
  rfl
 refine done_ (by kernel_rfl) ?_
 have HB3 := q15a (below_step HBD.out hb3)
 have HV3 := q15a (Kd.R_lower hv3 HBD.out.size)
 clear HBD hb3 hv3 y0_ y1_ hHeld hI1
 go_wp2
 go_loopw [7, 8] (fun vo vi wr => RoRel w wr fr l a z vo vi) (fun _ vi _ => z + 1 - (intOf vi).toNat)
 case atStart => exact ⟨0, a, ⟨rfl⟩, rfl, Nat.le_succ_of_le haz, HV3, HB3⟩
 case round =>
  clear HB3 HV3
  obtain ⟨j, i, HIJ, rfl, hiz, HR, HB⟩ := hrel
  by_cases hlt : i ≤ z
  ·
   have t0 : decide ((i : Int) ≤ (z : Int)) = true := decide_eq_true (Int.ofNat_le.2 hlt)
   have t0n : decide (i ≤ z) = true := decide_eq_true hlt
   have hil : i < l.length := Nat.lt_of_le_of_lt hlt hzl
   have hlti : (i : Int) < (l.length : Int) := Int.ofNat_lt.2 hil
   have hnx : IntKind.i64.wrap ((i : Int) + 1) = (i : Int) + 1 := nat_wrap2 i 1 (Nat.le_trans (Nat.succ_le_succ (Nat.le_trans hlt HZ2.out)) (by decide))
   have hI1 := q15a (hI.out.below HB.out)
   obtain ⟨ad, eA, e0, e1⟩ := at_T45 hI1.out.rl (i : Int) (Int.natCast_nonneg _) hlti
   subst eA
   rw [Int.toNat_natCast] at e0 e1
   obtain ⟨O, hO⟩ : ∃ O, O = rowsR fr l a j := ⟨_, rfl⟩
   have hol := rowsR_len fr l HFR.out a j
   obtain ⟨f0, hf0⟩ : ∃ f, f = (rd_T45 l (i : Int)).f0 := ⟨_, rfl⟩
   obtain ⟨f1, hf1⟩ : ∃ f, f = (rd_T45 l (i : Int)).f1 := ⟨_, rfl⟩
   rw [← hf0] at e0
   rw [← hf1] at e1
   rw [← hO] at HR hol
   have HRM := q15a (show (O.length + (roadRow fr f0 f1).length) * 16 ≤ 140737488355328 from rows_room hol (roadRow_len fr HFR.out f0 f1) (run_few HIJ.out hlt HZ2.out))
   have HCJ := q15a (show rowsR fr l a (j + 1) = O ++ roadRow fr f0 f1 by rw [hO, hf0, hf1, HIJ.out]; rfl)
   have HIJ2 := q15a (show i + 1 = a + (j + 1) by rw [HIJ.out]; rfl)
   have HLT := q15a hlt
   have hlt2 : decide ((i : Int) < ((l.length : Nat) : Int)) = true := decide_eq_true hlti
   have hlt3 : decide (i < l.length) = true := decide_eq_true hil
   obtain ⟨AO, cO, eO⟩ := Kd.R_slice HR.out
   subst eO
   clear hO hol hf0 hf1 HIJ
   go_wp2
   have HBD := q15a (below_drew HB.out)
   have HOD := q15a (Kd.R_below HR.out (below_drew (Below.refl wr.heap.size wr)))
   have y0_ : wr.drew.cell? ⟨g, 0, none⟩ = some (.iface T x) := (blk_cell (blk_drew hI1.out.blk) 0).trans rfl
   have y1_ : wr.drew.cell? ⟨g, 2, none⟩ = some (.slice (some ad) l.length c) := (blk_cell (blk_drew hI1.out.blk) 2).trans rfl
   have y2_ : wr.drew.cell? (ad.add (i * 2)) = some (.int .i64 f0) := pw_cell_below (below_drew (Below.refl wr.heap.size wr)) e0
   have y3_ : wr.drew.cell? ⟨(ad.add (i * 2)).block, (ad.add (i * 2)).off + 1, none⟩ = some (.int .i64 f1) := pw_cell_below (below_drew (Below.refl wr.heap.size wr)) e1
   clear HB HR hI1 e0 e1
   refine start_ (n := 26) (S := fun w' => w'.cell? ⟨g, 0, none⟩ = some (.iface T x) ∧ w'.cell? ⟨g, 2, none⟩ = some (.slice (some ad) l.length c) ∧ w'.cell? (ad.add (i * 2)) = some (.int .i64 f0) ∧ w'.cell? ⟨(ad.add (i * 2)).block, (ad.add (i * 2)).off + 1, none⟩ = some (.int .i64 f1)) (ds := [24]) #[false,false,false,false,false,false,false,false,false,false,false,false,false,false,false,false,false,false,false,false,false,false,false,false,false,false] (by kernel_rfl) rfl rfl ⟨y0_, y1_, y2_, y3_⟩ (fun hHeld => ?_)
   generalize wr.drew = wD at y0_ y1_ y2_ y3_ HBD HOD hHeld ⊢
   refine pure_ (i:=0) (N:=some 42) (v:=?_) (a':=?_) #[true,false,false,false,false,false,false,false,false,false,false,false,false,false,false,false,false,false,false,false,false,false,false,false,false,false] rfl rfl (by kernel_rfl) (fun _ _ _ h => h) (Or.inl ⟨by rfl, ?_⟩) ?_ ?_
   rotate_left
   ·
    intro w'
    go_simp
    with_reducible rfl
   rotate_left
   ·
    simp only [Act.put, q15I, q150, q151, i64_w, i32_w]
    rfl
   refine pure_ (i:=1) (N:=some 43) (v:=?_) (a':=?_) #[true,true,false,false,false,false,false,false,false,false,false,false,false,false,false,false,false,false,false,false,false,false,false,false,false,false] rfl rfl (by kernel_rfl) (fun _ _ _ h => h) (Or.inl ⟨by rfl, ?_⟩) ?_ ?_
   rotate_left
   ·
    intro w'
    go_simp
    with_reducible rfl
   rotate_left
   ·
    simp only [Act.put, q15I, q150, q151, i64_w, i32_w]
    rfl
   refine pure_ (i:=2) (N:=some 44) (v:=?_) (a':=?_) #[true,true,true,false,false,false,false,false,false,false,false,false,false,false,false,false,false,false,false,false,false,false,false,false,false,false] rfl rfl (by kernel_rfl) (fun _ _ _ h => h) (Or.inl ⟨by rfl, ?_⟩) ?_ ?_
   rotate_left
   ·
    intro w'
    go_simp
    with_reducible rfl
   rotate_left
   ·
    simp only [Act.put, q15I, q150, q151, i64_w, i32_w]
    rfl
   refine pure_ (i:=3) (N:=some 45) (v:=?_) (a':=?_) #[true,true,true,true,false,false,false,false,false,false,false,false,false,false,false,false,false,false,false,false,false,false,false,false,false,false] rfl rfl (by kernel_rfl) (fun _ _ _ h => h) (Or.inl ⟨by rfl, ?_⟩) ?_ ?_
   rotate_left
   ·
    intro w'
    go_simp
    with_reducible rfl
   rotate_left
   ·
    simp only [Act.put, q15I, q150, q151, i64_w, i32_w]
    rfl
   refine pure_ (i:=5) (N:=some 47) (v:=?_) (a':=?_) #[true,true,true,true,false,true,false,false,false,false,false,false,false,false,false,false,false,false,false,false,false,false,false,false,false,false] rfl rfl (by kernel_rfl) (fun _ _ _ h => h) (Or.inl ⟨by rfl, ?_⟩) ?_ ?_
   rotate_left
   ·
    intro w'
    go_simp
    with_reducible rfl
   rotate_left
   ·
    simp only [Act.put, q15I, q150, q151, i64_w, i32_w]
    rfl
   refine pure_ (i:=6) (N:=some 48) (v:=?_) (a':=?_) #[true,true,true,true,false,true,true,false,false,false,false,false,false,false,false,false,false,false,false,false,false,false,false,false,false,false] rfl rfl (by kernel_rfl) (fun _ _ _ h => h) (Or.inl ⟨by rfl, ?_⟩) ?_ ?_
   rotate_left
   ·
    intro w'
    go_simp
    with_reducible rfl
   rotate_left
   ·
    simp only [Act.put, q15I, q150, q151, i64_w, i32_w]
    rfl
   refine pure_ (i:=7) (N:=some 49) (v:=?_) (a':=?_) #[true,true,true,true,false,true,true,true,false,false,false,false,false,false,false,false,false,false,false,false,false,false,false,false,false,false] rfl rfl (by kernel_rfl) (fun _ _ _ h => h) (Or.inl ⟨by rfl, ?_⟩) ?_ ?_
   rotate_left
   ·
    intro w'
    go_simp
    with_reducible rfl
   rotate_left
   ·
    simp only [Act.put, q15I, q150, q151, i64_w, i32_w]
    rfl
   refine pure_ (i:=9) (N:=some 51) (v:=?_) (a':=?_) #[true,true,true,true,false,true,true,true,false,true,false,false,false,false,false,false,false,false,false,false,false,false,false,false,false,false] rfl rfl (by kernel_rfl) (fun _ _ _ h => h) (Or.inl ⟨by rfl, ?_⟩) ?_ ?_
   rotate_left
   ·
    intro w'
    go_simp
    with_reducible rfl
   rotate_left
   ·
    simp only [Act.put, q15I, q150, q151, i64_w, i32_w]
    rfl
   refine pure_ (i:=13) (N:=some 55) (v:=?_) (a':=?_) #[true,true,true,true,false,true,true,true,false,true,false,false,false,true,false,false,false,false,false,false,false,false,false,false,false,false] rfl rfl (by kernel_rfl) (fun _ _ _ h => h) (Or.inl ⟨by rfl, ?_⟩) ?_ ?_
   rotate_left
   ·
    intro w'
    go_simp
    with_reducible rfl
   rotate_left
   ·
    simp only [Act.put, q15I, q150, q151, i64_w, i32_w]
    rfl
   refine pure_ (i:=14) (N:=some 56) (v:=?_) (a':=?_) #[true,true,true,true,false,true,true,true,false,true,false,false,false,true,true,false,false,false,false,false,false,false,false,false,false,false] rfl rfl (by kernel_rfl) (fun _ _ _ h => h) (Or.inl ⟨by rfl, ?_⟩) ?_ ?_
   rotate_left
   ·
    intro w'
    go_simp
    with_reducible rfl
   rotate_left
   ·
    simp only [Act.put, q15I, q150, q151, i64_w, i32_w]
    rfl
   refine pure_ (i:=15) (N:=some 57) (v:=?_) (a':=?_) #[true,true,true,true,false,true,true,true,false,true,false,false,false,true,true,true,false,false,false,false,false,false,false,false,false,false] rfl rfl (by kernel_rfl) (fun _ _ _ h => h) (Or.inl ⟨by rfl, ?_⟩) ?_ ?_
   rotate_left
   ·
    intro w'
    go_simp
    with_reducible rfl
   rotate_left
   ·
    simp only [Act.put, q15I, q150, q151, i64_w, i32_w]
    rfl
   refine pure_ (i:=17) (N:=some 59) (v:=?_) (a':=?_) #[true,true,true,true,false,true,true,true,false,true,false,false,false,true,true,true,false,true,false,false,false,false,false,false,false,false] rfl rfl (by kernel_rfl) (fun _ _ _ h => h) (Or.inl ⟨by rfl, ?_⟩) ?_ ?_
   rotate_left
   ·
    intro w'
    go_simp
    with_reducible rfl
   rotate_left
   ·
    simp only [Act.put, q15I, q150, q151, i64_w, i32_w]
    rfl
   refine take_ (i:=4) (N:=some 46) (v:=?_) (a':=?_) #[true,true,true,true,true,true,true,true,false,true,false,false,false,true,true,true,false,true,false,false,false,false,false,false,false,false] rfl rfl (by kernel_rfl) (fun _ _ _ h => h) (Or.inl ⟨by rfl, ?_⟩) hHeld ?_ ?_
   rotate_left
   ·
    rintro w' ⟨s0, s1, s2, s3⟩
    go_simp
    with_reducible rfl
   rotate_left
   ·
    simp only [Act.put, q15I, q150, q151, i64_w, i32_w]
    rfl
   refine pure_ (i:=21) (N:=some 63) (v:=?_) (a':=?_) #[true,true,true,true,true,true,true,true,false,true,false,false,false,true,true,true,false,true,false,false,false,true,false,false,false,false] rfl rfl (by kernel_rfl) (fun _ _ _ h => h) (Or.inl ⟨by rfl, ?_⟩) ?_ ?_
   rotate_left
   ·
    intro w'
    go_simp
    with_reducible rfl
   rotate_left
   ·
    simp only [Act.put, q15I, q150, q151, i64_w, i32_w]
    rfl
   refine pure_ (i:=22) (N:=some 64) (v:=?_) (a':=?_) #[true,true,true,true,true,true,true,true,false,true,false,false,false,true,true,true,false,true,false,false,false,true,true,false,false,false] rfl rfl (by kernel_rfl) (fun _ _ _ h => h) (Or.inl ⟨by rfl, ?_⟩) ?_ ?_
   rotate_left
   ·
    intro w'
    go_simp
    with_reducible rfl
   rotate_left
   ·
    simp only [Act.put, q15I, q150, q151, i64_w, i32_w]
    rfl
   refine take_ (i:=8) (N:=some 50) (v:=?_) (a':=?_) #[true,true,true,true,true,true,true,true,true,true,false,false,false,true,true,true,false,true,false,false,false,true,true,false,false,false] rfl rfl (by kernel_rfl) (fun _ _ _ h => h) (Or.inl ⟨by rfl, ?_⟩) hHeld ?_ ?_
   rotate_left
   ·
    rintro w' ⟨s0, s1, s2, s3⟩
    go_simp
    with_reducible rfl
   rotate_left
   ·
    simp only [Act.put, q15I, q150, q151, i64_w, i32_w]
    rfl
   refine pure_ (i:=10) (N:=some 52) (v:=?_) (a':=?_) #[true,true,true,true,true,true,true,true,true,true,true,false,false,true,true,true,false,true,false,false,false,true,true,false,false,false] rfl rfl (by kernel_rfl) (fun _ _ _ h => h) (Or.inl ⟨by rfl, ?_⟩) ?_ ?_
   rotate_left
   ·
    intro w'
    go_simp
    with_reducible rfl
   rotate_left
   ·
    simp only [Act.put, q15I, q150, q151, i64_w, i32_w]
    rfl
   refine pure_ (i:=11) (N:=some 53) (v:=?_) (a':=?_) #[true,true,true,true,true,true,true,true,true,true,true,true,false,true,true,true,false,true,false,false,false,true,true,false,false,false] rfl rfl (by kernel_rfl) (fun _ _ _ h => h) (Or.inl ⟨by rfl, ?_⟩) ?_ ?_
   rotate_left
   ·
    intro w'
    go_simp
    with_reducible rfl
   rotate_left
   ·
    simp only [Act.put, q15I, q150, q151, i64_w, i32_w]
    rfl
   refine take_ (i:=12) (N:=some 54) (v:=?_) (a':=?_) #[true,true,true,true,true,true,true,true,true,true,true,true,true,true,true,true,false,true,false,false,false,true,true,false,false,false] rfl rfl (by kernel_rfl) (fun _ _ _ h => h) (Or.inl ⟨by rfl, ?_⟩) hHeld ?_ ?_
   rotate_left
   ·
    rintro w' ⟨s0, s1, s2, s3⟩
    go_simp
    with_reducible rfl
   rotate_left
   ·
    simp only [Act.put, q15I, q150, q151, i64_w, i32_w]
    rfl
   refine take_ (i:=16) (N:=some 58) (v:=?_) (a':=?_) #[true,true,true,true,true,true,true,true,true,true,true,true,true,true,true,true,true,true,false,false,false,true,true,false,false,false] rfl rfl (by kernel_rfl) (fun _ _ _ h => h) (Or.inl ⟨by rfl, ?_⟩) hHeld ?_ ?_
   rotate_left
   ·
    rintro w' ⟨s0, s1, s2, s3⟩
    go_simp
    with_reducible rfl
   rotate_left
   ·
    simp only [Act.put, q15I, q150, q151, i64_w, i32_w]
    rfl
   refine pure_ (i:=18) (N:=some 60) (v:=?_) (a':=?_) #[true,true,true,true,true,true,true,true,true,true,true,true,true,true,true,true,true,true,true,false,false,true,true,false,false,false] rfl rfl (by kernel_rfl) (fun _ _ _ h => h) (Or.inl ⟨by rfl, ?_⟩) ?_ ?_
   rotate_left
   ·
    intro w'
    go_simp
    with_reducible rfl
   rotate_left
   ·
    simp only [Act.put, q15I, q150, q151, i64_w, i32_w]
    rfl
   refine pure_ (i:=19) (N:=some 61) (v:=?_) (a':=?_) #[true,true,true,true,true,true,true,true,true,true,true,true,true,true,true,true,true,true,true,true,false,true,true,false,false,false] rfl rfl (by kernel_rfl) (fun _ _ _ h => h) (Or.inl ⟨by rfl, ?_⟩) ?_ ?_
   rotate_left
   ·
    intro w'
    go_simp
    with_reducible rfl
   rotate_left
   ·
    simp only [Act.put, q15I, q150, q151, i64_w, i32_w]
    rfl
   refine take_ (i:=20) (N:=some 62) (v:=?_) (a':=?_) #[true,true,true,true,true,true,true,true,true,true,true,true,true,true,true,true,true,true,true,true,true,true,true,false,false,false] rfl rfl (by kernel_rfl) (fun _ _ _ h => h) (Or.inl ⟨by rfl, ?_⟩) hHeld ?_ ?_
   rotate_left
   ·
    rintro w' ⟨s0, s1, s2, s3⟩
    go_simp
    with_reducible rfl
   rotate_left
   ·
    simp only [Act.put, q15I, q150, q151, i64_w, i32_w]
    rfl
   refine one_ (i:=23) (N:=some 65) #[true,true,true,true,true,true,true,true,true,true,true,true,true,true,true,true,true,true,true,true,true,true,true,true,false,false] rfl rfl (by kernel_rfl) (by decide) (fun K hK => ?_)
   refine call_ fO #[x, .int .i64 f0, .int .i64 f1] (by rfl) rfl ?_ ?_
   ·
    unfold execOp
    simp [resolve, Deferred.ofValue, invoke, callMethod, Act.eval]
    rw [show 199 + Made.depth = 299 from rfl, hmO.out.run]
    exact hmO.out.ent _ _
   with_reducible refine (HROAD.out f0 f1 _ HBD.out).mono ?_
   rintro e w3 ⟨v3, rfl, hv3, hb3⟩
   obtain ⟨A3, d3, e3⟩ := Kd.R_slice hv3
   subst e3
   refine ⟨_, rfl, ?_⟩
   refine hK.out _ _ ⟨pw_cell_below hb3 y0_, pw_cell_below hb3 y1_, pw_cell_below hb3 y2_, pw_cell_below hb3 y3_⟩ (fun hHeld => ?_)
   clear hK K
   refine norm_ (a' := ?_) ?_ ?_
   rotate_left
   ·
    show Act.put _ (some 65) _ = _
    simp only [Act.put, q15I, q150, q151, i64_w, i32_w]
    rfl
   refine last_ (i:=24) (N:=some 66) #[true,true,true,true,true,true,true,true,true,true,true,true,true,true,true,true,true,true,true,true,true,true,true,true,true,false] rfl rfl (by kernel_rfl) (by decide) (fun K hK => ?_)
   refine Kd.R_append_rows_step k45 (Rr := k45.K w3) (w0 := w) w.heap.size (by rfl) (.tmp 42) (.tmp 65) 23 45 (.agg #[.int .i64 0, .int .i64 0]) 16 rfl Try.underlying23 info45 rfl (by decide) (by decide) (.slice AO O.length cO) O (roadRow fr f0 f1) A3 (roadRow fr f0 f1).length d3 (fun _ => True) (fun _ => False) rfl rfl (Kd.R_below HOD.out hb3) (Kd.R_reads' hv3).2.2 (fun x cs h => (k45_open h) ▸ k45_mkM _ _ _ x) (fun _ h => h.elim) (fun _ _ => trivial) (below_step HBD.out hb3) (below_step HBD.out hb3).size HRM.out ?_
   intro v4 w4 HO4 HB4 hg4 hat4
   refine hK.out _ _ ?_
   clear hK K
   refine norm_ (a' := ?_) ?_ ?_
   rotate_left
   ·
    show Act.put _ (some 66) _ = _
    simp only [Act.put, q15I, q150, q151, i64_w, i32_w]
    rfl
   refine pure_ (i:=25) (N:=some 7) (v:=?_) (a':=?_) #[true,true,true,true,true,true,true,true,true,true,true,true,true,true,true,true,true,true,true,true,true,true,true,true,true,true] rfl rfl (by kernel_rfl) (fun _ _ _ h => h) (Or.inl ⟨by rfl, ?_⟩) ?_ ?_
   rotate_left
   ·
    intro w'
    go_simp
    with_reducible rfl
   rotate_left
   ·
    simp only [Act.put, q15I, q150, q151, i64_w, i32_w]
    rfl
   refine done_ (by kernel_rfl) ?_
   clear hHeld y0_ y1_ y2_ y3_ HOD HBD hv3 hb3 hg4 hat4
   go_wp2
   go_roundw
   case rel => exact ⟨j + 1, i + 1, HIJ2, by go_num, Nat.succ_le_succ HLT.out, ⟨by rw [HCJ.out]; exact HO4⟩, ⟨HB4⟩⟩
   case measure => exact meas_dec HLT.out
  ·
   have t0 : decide ((i : Int) ≤ (z : Int)) = false := decide_eq_false (fun h => hlt (Int.ofNat_le.1 h))
   have t0n : ¬ (i ≤ z) := hlt
   have hjz : j = z - a + 1 := end_run HIJ.out hlt hiz haz
   subst hjz
   have hkg := HKG.out
   obtain ⟨O, hO⟩ : ∃ O, O = rowsR fr l a (z - a + 1) := ⟨_, rfl⟩
   rw [← hO] at HR hkg
   have HO := q15a hO
   obtain ⟨AO, cO, eO⟩ := Kd.R_slice HR.out
   subst eO
   obtain ⟨road, hroad⟩ : ∃ r, r = gluedP [] (laid O) := ⟨_, rfl⟩
   rw [← hroad] at hkg
   have HROADE := q15a hroad
   have HKO := q15a hkg
   have hrr := q15a (Kd.R_reads' HR.out)
   clear hO hkg hroad hlt
   go_wp2_with (first
    | (go_at_call 153; refine (span_Glue.calls kg AO cO O road _ hrr.out.2.2 hrr.out.2.1 HKO.out).mono ?_; rintro e w4 ⟨v4, rfl, hv4, hb4⟩; have HB4 := q15a (below_step HB.out hb4); have HV4 := q15a (Kd.R_lower hv4 HB.out.size); clear hv4 hb4))
   go_ret
   exact ⟨_, rfl, by rw [← HO.out, ← HROADE.out]; exact HV4.out, HB4.out⟩
end Go.Proofs.Ytgkjkhhppmnajaa.Pure
