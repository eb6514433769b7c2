/- Sealed layers: the road. No condition. -/
import Derived.Test.YtagcaheopbmdiaaGreatYPureLockOpensK
namespace Go.Proofs.YtagcaheopbmdiaaGreat.Pure
open Go.Proofs.YtagcaheopbmdiaaGreat.SumPlain Go.Maps Go.Proofs.YtagcaheopbmdiaaGreat.Lk
open Go Go.RowKit Go.Proofs.YtagcaheopbmdiaaGreat.QLockOpens Go.Proofs.YtagcaheopbmdiaaGreatW.PrintWords Go.Proofs.YtagcaheopbmdiaaGreatW.PrintLast Go.Proofs.YtagcaheopbmdiaaGreatW.PrintMore
set_option linter.unusedVariables false
set_option linter.unusedSimpArgs false
theorem q1lI : type_of% @List.setIfInBounds_toArray := @List.setIfInBounds_toArray
theorem q1l0 : type_of% @List.set_cons_zero := @List.set_cons_zero
theorem q1l1 : type_of% @List.set_cons_succ := @List.set_cons_succ
theorem bytes_snoc (a n : Int) (hn : 0 ≤ n) : bytesS ⟨a, n + 1⟩ = bytesS ⟨a, n⟩ ++ [a + n] := by
 obtain ⟨m, rfl⟩ := Int.eq_ofNat_of_zero_le hn
 exact range_bytes a m
theorem laid_put (o : List S52) (q : Int) (ho : ∀ x ∈ o, okS x) (h0 : 0 ≤ q) (h1 : q < 65536) : (∀ x ∈ put o q 1, okS x) ∧ laid (put o q 1) = laid o ++ [q] := by
 have hq : okS ⟨q, 1⟩ := ⟨h0, by show (0 : Int) < 1; omega, by show q + 1 ≤ 65536; omega⟩
 have hb : bytesS ⟨q, 1⟩ = [q] := by simp [bytesS]
 rcases last_of o with rfl | ⟨p, y, rfl⟩
 ·
  rw [put_nil]
  refine ⟨fun x hx => by rw [List.mem_singleton] at hx; subst hx; exact hq, ?_⟩
  rw [laid_one _ hq, hb]; rfl
 ·
  have hy := ho y (by simp)
  by_cases hj : y.f0 + y.f1 = q
  ·
   rw [put_join p y q 1 hj]
   have hy2 : okS ⟨y.f0, y.f1 + 1⟩ := ⟨hy.1, by have := hy.2.1; show 0 < y.f1 + 1; omega, by show y.f0 + (y.f1 + 1) ≤ 65536; omega⟩
   refine ⟨fun x hx => ?_, ?_⟩
   ·
    rw [List.mem_append, List.mem_singleton] at hx
    rcases hx with hx | hx
    · exact ho x (by simp [hx])
    · subst hx; exact hy2
   · rw [laid_app, laid_app, laid_one _ hy2, laid_one _ hy, bytes_snoc y.f0 y.f1 (by have := hy.2.1; omega), hj, List.append_assoc]
  ·
   rw [put_new p y q 1 hj]
   refine ⟨fun x hx => ?_, ?_⟩
   ·
    rw [List.mem_append, List.mem_singleton] at hx
    rcases hx with hx | hx
    · exact ho x hx
    · subst hx; exact hq
   · rw [laid_app (p ++ [y]), laid_one _ hq, hb]
theorem laid_glued : ∀ (l : List Int) (o : List S52), (∀ x ∈ o, okS x) → (∀ q ∈ l, 0 ≤ q ∧ q < 65536) → (∀ x ∈ gluedP o l, okS x) ∧ laid (gluedP o l) = laid o ++ l
 | [], o, ho, _ => ⟨ho, by simp [gluedP]⟩
 | q :: l, o, ho, hl => by
  obtain ⟨h1, h2⟩ := laid_put o q ho (hl q (by simp)).1 (hl q (by simp)).2
  obtain ⟨h3, h4⟩ := laid_glued l (put o q 1) h1 (fun x hx => hl x (List.mem_cons_of_mem _ hx))
  exact ⟨h3, by show laid (gluedP (put o q 1) l) = _; rw [h4, h2, List.append_assoc]; rfl⟩
/-- what is laid of positions glued: the positions -/
theorem laid_glued0 (l : List Int) (hl : ∀ q ∈ l, 0 ≤ q ∧ q < 65536) : (∀ x ∈ gluedP [] l, okS x) ∧ laid (gluedP [] l) = l := laid_glued l [] (by simp) hl
theorem idx_cut (n o k : Nat) (h : o + k ≤ n) : ((idx n).drop o).take k = (List.range k).map fun (i : Nat) => (o : Int) + (i : Int) := by
 apply List.ext_getElem?
 intro j
 by_cases hj : j < k
 ·
  rw [List.getElem?_take_of_lt hj, List.getElem?_drop, List.getElem?_map, List.getElem?_range hj]
  unfold idx
  rw [List.getElem?_map, List.getElem?_range (by omega)]
  simp
 · rw [List.getElem?_eq_none (by rw [List.length_take]; omega), List.getElem?_eq_none (by simp; omega)]
/-- an image's road leads to the very bytes -/
theorem road_laid (n o k : Nat) (hn : n ≤ 65536) (h : o + k ≤ n) : laid (roadRow (idx n) (o : Int) (k : Int)) = laid [⟨(o : Int), (k : Int)⟩] := by
 have hR : inR ((idx n).length : Int) (o : Int) (k : Int) := by
  rw [idx_len]
  exact ⟨by omega, by omega, by omega⟩
 unfold roadRow
 rw [if_pos hR, Int.toNat_natCast, Int.toNat_natCast, idx_cut n o k h, (laid_glued0 _ (fun q hq => by
  obtain ⟨i, hi, rfl⟩ := List.mem_map.1 hq
  have := List.mem_range.1 hi
  omega)).2]
 by_cases hk : k = 0
 ·
  subst hk
  have hno : ¬ okS ⟨(o : Int), ((0 : Nat) : Int)⟩ := fun h2 => by unfold okS at h2; simp only at h2; omega
  rw [laid_no _ _ hno]
  rfl
 ·
  rw [laid_one _ (by unfold okS; simp only; omega)]
  unfold bytesS
  simp only [Int.toNat_natCast]
theorem laid_l1 (l : List S52) (i : Nat) (x : S52) (m : Nat) (hm : x.f1 = (m : Int)) (h0 : 0 ≤ x.f0) (h1 : x.f0 + x.f1 ≤ 65536) (acc : List Int) (r : List Int) (ha : acc.length + m ≤ 200000) (hi : i < l.length) (hn : l.length ≤ 4611686018427387904)
  (he : Ev (fun k => wrackref1_Laid.l0 k (acc ++ bytesS x) l (l.length : Int) ((i + 1 : Nat) : Int)) r) : ∀ (d j : Nat), j + d = m →
  Ev (fun k => wrackref1_Laid.l1 k (acc ++ bytesS ⟨x.f0, (j : Int)⟩) l (l.length : Int) (i : Int) x.f1 (j : Int) x.f0 x.f1) r
 | 0, j, hj => by
  refine Ev.step (fun k => ?_) he
  simp only [wrackref1_Laid.l1]
  rw [if_neg (by omega), up i l.length hi hn]
  have : x = ⟨x.f0, (j : Int)⟩ := by cases x; simp only [S52.mk.injEq, true_and]; simp only at hm; omega
  rw [← this]
 | d + 1, j, hj => by
  refine Ev.step (fun k => ?_) (laid_l1 l i x m hm h0 h1 acc r ha hi hn he d (j + 1) (by omega))
  simp only [wrackref1_Laid.l1]
  have hw : wrap64 (x.f0 + (j : Int)) = x.f0 + (j : Int) := by unfold wrap64; omega
  rw [if_pos (by omega), if_pos (by rw [List.length_append, bytes_len]; simp only; omega), hw, up j (m + 1) (by omega) (by omega), range_bytes, List.append_assoc]
theorem laid_l0 (l : List S52) (hn : l.length ≤ 4611686018427387904) : ∀ (d i : Nat) (acc : List Int), i + d = l.length → acc.length + (laid (l.drop i)).length ≤ 200000 →
  Ev (fun k => wrackref1_Laid.l0 k acc l (l.length : Int) (i : Int)) (acc ++ laid (l.drop i))
 | 0, i, acc, hi, ha => by
  refine Ev.step (f := fun _ => some _) (fun k => ?_) (Ev.now _)
  simp only [wrackref1_Laid.l0]
  rw [if_neg (by omega), List.drop_of_length_le (by omega), laid_nil, List.append_nil]
 | d + 1, i, acc, hi, ha => by
  rw [drop_span l i (by omega)] at ha ⊢
  generalize hx : rd_T52 l (i : Int) = x at ha ⊢
  by_cases hr : 0 ≤ x.f0 ∧ 0 ≤ x.f1 ∧ x.f0 + x.f1 ≤ 65536
  ·
   have hl : laid (x :: l.drop (i + 1)) = bytesS x ++ laid (l.drop (i + 1)) := by
    by_cases hk : okS x
    · rw [laid_ok _ _ hk]
    ·
     have : x.f1.toNat = 0 := by unfold okS at hk; omega
     rw [laid_no _ _ hk]; simp [bytesS, this]
   rw [hl] at ha ⊢
   have hb := bytes_len x
   rw [List.length_append] at ha
   have e := laid_l0 l hn d (i + 1) (acc ++ bytesS x) (by omega) (by rw [List.length_append]; omega)
   rw [List.append_assoc] at e
   have e2 := laid_l1 l i x x.f1.toNat (by omega) hr.1 hr.2.2 acc _ (by omega) (by omega) hn e x.f1.toNat 0 (by omega)
   refine Ev.step (fun k => ?_) e2
   simp only [wrackref1_Laid.l0]
   rw [if_pos (by omega), if_pos (by omega), if_pos (by omega), hx, right_val, Option.bind_some, decide_eq_true hr, if_pos rfl]
   simp [bytesS]
  ·
   rw [laid_no _ _ (by unfold okS; omega)] at ha ⊢
   refine Ev.step (fun k => ?_) (laid_l0 l hn d (i + 1) acc (by omega) ha)
   simp only [wrackref1_Laid.l0]
   rw [if_pos (by omega), if_pos (by omega), if_pos (by omega), hx, right_val, Option.bind_some, decide_eq_false hr, if_neg (by decide), up i l.length (by omega) hn]
theorem laid_ev (l : List S52) (hn : l.length ≤ 4611686018427387904) (h : (laid l).length ≤ 200000) : Ev (fun k => wrackref1_Laid.f k l) (laid l) := by
 refine Ev.congr (fun k => ?_) (laid_l0 l hn l.length 0 [] (by omega) (by simpa using h))
 unfold wrackref1_Laid.f
 rfl
theorem roadRow_len (fr : List Int) (h : fr.length ≤ 65536) (off k : Int) : (roadRow fr off k).length ≤ 65536 := by
 unfold roadRow
 split
 ·
  have h1 := glued_short ((fr.drop off.toNat).take k.toNat) []
  rw [List.length_nil, List.length_take, List.length_drop] at h1
  omega
 · simp
theorem lk_laid (n slot o m : Nat) (hn : n ≤ 65536) (h1 : 16 + 24 * slot + 24 ≤ n) (h2 : 128 + o + m ≤ n) :
  laid (roadRow (idx n) (16 + 24 * (slot : Int)) 24 ++ roadRow (idx n) (128 + (o : Int)) (m : Int)) = laid [⟨16 + 24 * (slot : Int), 24⟩, ⟨128 + (o : Int), (m : Int)⟩] := by
 have e1 := road_laid n (16 + 24 * slot) 24 hn h1
 have e2 := road_laid n (128 + o) m hn h2
 rw [show ((16 + 24 * slot : Nat) : Int) = 16 + 24 * (slot : Int) by omega, show ((24 : Nat) : Int) = 24 from rfl] at e1
 rw [show ((128 + o : Nat) : Int) = 128 + (o : Int) by omega] at e2
 rw [laid_app, e1, e2, show ([⟨16 + 24 * (slot : Int), 24⟩, ⟨128 + (o : Int), (m : Int)⟩] : List S52) = [⟨16 + 24 * (slot : Int), 24⟩] ++ [⟨128 + (o : Int), (m : Int)⟩] from rfl, laid_app]
set_option maxHeartbeats 8000000 in
set_option maxRecDepth 100000 in
/-- the road of a range inside -/
theorem lk_road (w : World) (g T : Nat) (x : Value) (fR fO fS fP : Nat) (b : List Int) (bad : List Bool) (h : SrcIs w T x fR fO fS fP b (idx b.length) bad) (hn : b.length ≤ 65536) (size : Nat) (inner : Int) (slot : Nat) (hI0 : IsLk w g T x inner size slot) (hs : size ≤ 65536) (o m : Nat) (hm : 0 < m) (hom : o + m ≤ size) (hsl : 16 + 24 * slot + 24 ≤ b.length) (hbl : 128 + size ≤ b.length) (G : List S52) (hG : G = gluedP [] (laid [⟨16 + 24 * (slot : Int), 24⟩, ⟨128 + (o : Int), (m : Int)⟩])) :
  Calls Tryz.prog 113 #[.pointer (some ⟨g, 0, none⟩), .int .i64 (o : Int), .int .i64 (m : Int)] w fun e w' => ∃ A8 c8, e = .returned (.slice A8 G.length c8) ∧ Kd.C k52 w' A8 G.length G ∧ G.length ≤ c8 ∧ Below w.heap.size w w' := by
 have hwr := lk_wrong w g T x size inner slot hI0 hs (o : Int) (m : Int)
 rw [decide_eq_false (fun h => h ⟨by omega, by omega, by omega⟩)] at hwr
 have hil : (idx b.length).length ≤ 65536 := by rw [idx_len]; exact hn
 have hla := lk_laid b.length slot o m hn hsl (by omega)
 have hl1 := roadRow_len (idx b.length) hil (16 + 24 * (slot : Int)) 24
 have hl2 := roadRow_len (idx b.length) hil (128 + (o : Int)) (m : Int)
 have hr1 := fun W (hb : Below w.heap.size w W) => (h.ans W hb).road (16 + 24 * (slot : Int)) 24
 have hr2 := fun W (hb : Below w.heap.size w W) => (h.ans W hb).road (128 + (o : Int)) (m : Int)
 obtain ⟨r1, hr1e⟩ : ∃ r, r = roadRow (idx b.length) (16 + 24 * (slot : Int)) 24 := ⟨_, rfl⟩
 obtain ⟨r2, hr2e⟩ : ∃ r, r = roadRow (idx b.length) (128 + (o : Int)) (m : Int) := ⟨_, rfl⟩
 simp only [← hr1e] at hr1 hl1 hla
 simp only [← hr2e] at hr2 hl2 hla
 have hgl := glue_ev (r1 ++ r2) (by rw [List.length_append]; omega)
 rw [hla, ← hG] at hgl
 obtain ⟨kg, hkg⟩ := hgl.rounds
 have qa : wrap64 (24 * (slot : Int)) = 24 * (slot : Int) := by unfold wrap64; omega
 have qb : wrap64 (16 + 24 * (slot : Int)) = 16 + 24 * (slot : Int) := by unfold wrap64; omega
 have qa2 : IntKind.i64.wrap (24 * (slot : Int)) = 24 * (slot : Int) := by rw [i64_w]; exact qa
 have qb2 : IntKind.i64.wrap (16 + 24 * (slot : Int)) = 16 + 24 * (slot : Int) := by rw [i64_w]; exact qb
 have qc : wrap64 (128 + (o : Int)) = 128 + (o : Int) := by unfold wrap64; omega
 have qc2 : IntKind.i64.wrap (128 + (o : Int)) = 128 + (o : Int) := by rw [i64_w]; exact qc
 have tm1 : decide ((m : Int) = 0) = false := decide_eq_false (fun h => Nat.pos_iff_ne_zero.1 hm (Int.ofNat_eq_zero.1 h))
 have tm3 : ((m : Int) == 0) = false := beq_eq_false_iff_ne.2 (fun h => Nat.pos_iff_ne_zero.1 hm (Int.ofNat_eq_zero.1 h))
 have tm2 : ¬ (m = 0) := Nat.pos_iff_ne_zero.1 hm
 have HWR := Aside0.mk hwr
 have HKG := Aside0.mk hkg
 have HR1 := Aside0.mk hr1
 have HR2 := Aside0.mk hr2
 have HRM := Aside0.mk (show (r1.length + r2.length) * 16 ≤ 140737488355328 by omega)
 have hmO := Aside0.mk h.mO
 have hI := Aside0.mk hI0
 clear h hwr hkg hgl hm hom hs hn hI0 hil hla hl1 hl2 hr1 hr2 hr1e hr2e hG hsl hbl
 go_enter Tryz.func113, Tryz.ntmps113
 go_wp2_with (first
  | (go_at_call 115; refine HWR.out.mono ?_; rintro e w1 ⟨rfl, hb1⟩; have HB1 := Aside0.mk hb1; clear hb1))
 have HBD := Aside0.mk (below_drew HB1.out)
 have hI1 := Aside0.mk (hI.out.below HB1.out)
 have y0_ : w1.drew.cell? ⟨g, 0, none⟩ = some (.iface T x) := (blk_cell (blk_drew hI1.out.blk) 0).trans rfl
 have y1_ : w1.drew.cell? ⟨g, 3, none⟩ = some (.int .i64 (slot : Int)) := (blk_cell (blk_drew hI1.out.blk) 3).trans rfl
 clear HB1
 refine start_ (n := 24) (S := fun w' => w'.cell? ⟨g, 0, none⟩ = some (.iface T x) ∧ w'.cell? ⟨g, 3, none⟩ = some (.int .i64 (slot : Int))) (ds := [21, 22]) #[false,false,false,false,false,false,false,false,false,false,false,false,false,false,false,false,false,false,false,false,false,false,false,false] (by kernel_rfl) rfl rfl ⟨y0_, y1_⟩ (fun hHeld => ?_)
 generalize w1.drew = wD at y0_ y1_ HBD hHeld ⊢
 refine pure_ (i:=0) (N:=some 15) (v:=?_) (a':=?_) #[true,false,false,false,false,false,false,false,false,false,false,false,false,false,false,false,false,false,false,false,false,false,false,false] rfl rfl (by kernel_rfl) (fun _ _ _ h => h) (Or.inl ⟨by rfl, ?_⟩) ?_ ?_
 rotate_left
 ·
  intro w'
  go_simp
  with_reducible rfl
 rotate_left
 ·
  simp only [Act.put, q1lI, q1l0, q1l1, i64_w, i32_w]
  rfl
 refine pure_ (i:=1) (N:=some 16) (v:=?_) (a':=?_) #[true,true,false,false,false,false,false,false,false,false,false,false,false,false,false,false,false,false,false,false,false,false,false,false] rfl rfl (by kernel_rfl) (fun _ _ _ h => h) (Or.inl ⟨by rfl, ?_⟩) ?_ ?_
 rotate_left
 ·
  intro w'
  go_simp
  with_reducible rfl
 rotate_left
 ·
  simp only [Act.put, q1lI, q1l0, q1l1, i64_w, i32_w]
  rfl
 refine pure_ (i:=2) (N:=some 17) (v:=?_) (a':=?_) #[true,true,true,false,false,false,false,false,false,false,false,false,false,false,false,false,false,false,false,false,false,false,false,false] rfl rfl (by kernel_rfl) (fun _ _ _ h => h) (Or.inl ⟨by rfl, ?_⟩) ?_ ?_
 rotate_left
 ·
  intro w'
  go_simp
  with_reducible rfl
 rotate_left
 ·
  simp only [Act.put, q1lI, q1l0, q1l1, i64_w, i32_w]
  rfl
 refine pure_ (i:=4) (N:=some 19) (v:=?_) (a':=?_) #[true,true,true,false,true,false,false,false,false,false,false,false,false,false,false,false,false,false,false,false,false,false,false,false] rfl rfl (by kernel_rfl) (fun _ _ _ h => h) (Or.inl ⟨by rfl, ?_⟩) ?_ ?_
 rotate_left
 ·
  intro w'
  go_simp
  with_reducible rfl
 rotate_left
 ·
  simp only [Act.put, q1lI, q1l0, q1l1, i64_w, i32_w]
  rfl
 refine pure_ (i:=5) (N:=some 20) (v:=?_) (a':=?_) #[true,true,true,false,true,true,false,false,false,false,false,false,false,false,false,false,false,false,false,false,false,false,false,false] rfl rfl (by kernel_rfl) (fun _ _ _ h => h) (Or.inl ⟨by rfl, ?_⟩) ?_ ?_
 rotate_left
 ·
  intro w'
  go_simp
  with_reducible rfl
 rotate_left
 ·
  simp only [Act.put, q1lI, q1l0, q1l1, i64_w, i32_w]
  rfl
 refine pure_ (i:=6) (N:=some 21) (v:=?_) (a':=?_) #[true,true,true,false,true,true,true,false,false,false,false,false,false,false,false,false,false,false,false,false,false,false,false,false] rfl rfl (by kernel_rfl) (fun _ _ _ h => h) (Or.inl ⟨by rfl, ?_⟩) ?_ ?_
 rotate_left
 ·
  intro w'
  go_simp
  with_reducible rfl
 rotate_left
 ·
  simp only [Act.put, q1lI, q1l0, q1l1, i64_w, i32_w]
  rfl
 refine pure_ (i:=13) (N:=some 28) (v:=?_) (a':=?_) #[true,true,true,false,true,true,true,false,false,false,false,false,false,true,false,false,false,false,false,false,false,false,false,false] rfl rfl (by kernel_rfl) (fun _ _ _ h => h) (Or.inl ⟨by rfl, ?_⟩) ?_ ?_
 rotate_left
 ·
  intro w'
  go_simp
  with_reducible rfl
 rotate_left
 ·
  simp only [Act.put, q1lI, q1l0, q1l1, i64_w, i32_w]
  rfl
 refine pure_ (i:=14) (N:=some 29) (v:=?_) (a':=?_) #[true,true,true,false,true,true,true,false,false,false,false,false,false,true,true,false,false,false,false,false,false,false,false,false] rfl rfl (by kernel_rfl) (fun _ _ _ h => h) (Or.inl ⟨by rfl, ?_⟩) ?_ ?_
 rotate_left
 ·
  intro w'
  go_simp
  with_reducible rfl
 rotate_left
 ·
  simp only [Act.put, q1lI, q1l0, q1l1, i64_w, i32_w]
  rfl
 refine pure_ (i:=15) (N:=some 30) (v:=?_) (a':=?_) #[true,true,true,false,true,true,true,false,false,false,false,false,false,true,true,true,false,false,false,false,false,false,false,false] rfl rfl (by kernel_rfl) (fun _ _ _ h => h) (Or.inl ⟨by rfl, ?_⟩) ?_ ?_
 rotate_left
 ·
  intro w'
  go_simp
  with_reducible rfl
 rotate_left
 ·
  simp only [Act.put, q1lI, q1l0, q1l1, i64_w, i32_w]
  rfl
 refine pure_ (i:=17) (N:=some 32) (v:=?_) (a':=?_) #[true,true,true,false,true,true,true,false,false,false,false,false,false,true,true,true,false,true,false,false,false,false,false,false] rfl rfl (by kernel_rfl) (fun _ _ _ h => h) (Or.inl ⟨by rfl, ?_⟩) ?_ ?_
 rotate_left
 ·
  intro w'
  go_simp
  with_reducible rfl
 rotate_left
 ·
  simp only [Act.put, q1lI, q1l0, q1l1, i64_w, i32_w]
  rfl
 refine pure_ (i:=18) (N:=some 33) (v:=?_) (a':=?_) #[true,true,true,false,true,true,true,false,false,false,false,false,false,true,true,true,false,true,true,false,false,false,false,false] rfl rfl (by kernel_rfl) (fun _ _ _ h => h) (Or.inl ⟨by rfl, ?_⟩) ?_ ?_
 rotate_left
 ·
  intro w'
  go_simp
  with_reducible rfl
 rotate_left
 ·
  simp only [Act.put, q1lI, q1l0, q1l1, i64_w, i32_w]
  rfl
 refine pure_ (i:=19) (N:=some 34) (v:=?_) (a':=?_) #[true,true,true,false,true,true,true,false,false,false,false,false,false,true,true,true,false,true,true,true,false,false,false,false] rfl rfl (by kernel_rfl) (fun _ _ _ h => h) (Or.inl ⟨by rfl, ?_⟩) ?_ ?_
 rotate_left
 ·
  intro w'
  go_simp
  with_reducible rfl
 rotate_left
 ·
  simp only [Act.put, q1lI, q1l0, q1l1, i64_w, i32_w]
  rfl
 refine take_ (i:=3) (N:=some 18) (v:=?_) (a':=?_) #[true,true,true,true,true,true,true,false,false,false,false,false,false,true,true,true,false,true,true,true,false,false,false,false] rfl rfl (by kernel_rfl) (fun _ _ _ h => h) (Or.inl ⟨by rfl, ?_⟩) hHeld ?_ ?_
 rotate_left
 ·
  rintro w' ⟨s0, s1⟩
  go_simp
  with_reducible rfl
 rotate_left
 ·
  simp only [Act.put, q1lI, q1l0, q1l1, i64_w, i32_w]
  rfl
 refine pure_ (i:=10) (N:=some 25) (v:=?_) (a':=?_) #[true,true,true,true,true,true,true,false,false,false,true,false,false,true,true,true,false,true,true,true,false,false,false,false] rfl rfl (by kernel_rfl) (fun _ _ _ h => h) (Or.inl ⟨by rfl, ?_⟩) ?_ ?_
 rotate_left
 ·
  intro w'
  go_simp
  with_reducible rfl
 rotate_left
 ·
  simp only [Act.put, q1lI, q1l0, q1l1, i64_w, i32_w]
  rfl
 refine pure_ (i:=11) (N:=some 26) (v:=?_) (a':=?_) #[true,true,true,true,true,true,true,false,false,false,true,true,false,true,true,true,false,true,true,true,false,false,false,false] rfl rfl (by kernel_rfl) (fun _ _ _ h => h) (Or.inl ⟨by rfl, ?_⟩) ?_ ?_
 rotate_left
 ·
  intro w'
  go_simp
  with_reducible rfl
 rotate_left
 ·
  simp only [Act.put, q1lI, q1l0, q1l1, i64_w, i32_w]
  rfl
 refine take_ (i:=7) (N:=some 22) (v:=?_) (a':=?_) #[true,true,true,true,true,true,true,true,false,false,true,true,false,true,true,true,false,true,true,true,false,false,false,false] rfl rfl (by kernel_rfl) (fun _ _ _ h => h) (Or.inl ⟨by rfl, ?_⟩) hHeld ?_ ?_
 rotate_left
 ·
  rintro w' ⟨s0, s1⟩
  go_simp
  with_reducible rfl
 rotate_left
 ·
  simp only [Act.put, q1lI, q1l0, q1l1, i64_w, i32_w]
  rfl
 refine pure_ (i:=8) (N:=some 23) (v:=?_) (a':=?_) #[true,true,true,true,true,true,true,true,true,false,true,true,false,true,true,true,false,true,true,true,false,false,false,false] rfl rfl (by kernel_rfl) (fun _ _ _ h => h) (Or.inl ⟨by rfl, ?_⟩) ?_ ?_
 rotate_left
 ·
  intro w'
  go_simp
  with_reducible rfl
 rotate_left
 ·
  simp only [Act.put, q1lI, q1l0, q1l1, i64_w, i32_w]
  rfl
 refine pure_ (i:=9) (N:=some 24) (v:=?_) (a':=?_) #[true,true,true,true,true,true,true,true,true,true,true,true,false,true,true,true,false,true,true,true,false,false,false,false] rfl rfl (by kernel_rfl) (fun _ _ _ h => h) (Or.inl ⟨by rfl, ?_⟩) ?_ ?_
 rotate_left
 ·
  intro w'
  go_simp
  with_reducible rfl
 rotate_left
 ·
  simp only [Act.put, q1lI, q1l0, q1l1, i64_w, i32_w]
  rfl
 refine take_ (i:=16) (N:=some 31) (v:=?_) (a':=?_) #[true,true,true,true,true,true,true,true,true,true,true,true,false,true,true,true,true,true,true,true,false,false,false,false] rfl rfl (by kernel_rfl) (fun _ _ _ h => h) (Or.inl ⟨by rfl, ?_⟩) hHeld ?_ ?_
 rotate_left
 ·
  rintro w' ⟨s0, s1⟩
  go_simp
  with_reducible rfl
 rotate_left
 ·
  simp only [Act.put, q1lI, q1l0, q1l1, i64_w, i32_w]
  rfl
 refine one_ (i:=12) (N:=some 27) #[true,true,true,true,true,true,true,true,true,true,true,true,true,true,true,true,true,true,true,true,false,false,false,false] rfl rfl (by kernel_rfl) (by decide) (fun K hK => ?_)
 refine call_ fO #[x, .int .i64 (16 + 24 * (slot : Int)), .int .i64 24] (by rfl) rfl ?_ ?_
 ·
  unfold execOp
  simp [resolve, Deferred.ofValue, invoke, callMethod, Act.eval]
  rw [show 159 + Made.depth = 259 from rfl, hmO.out.run]
  exact hmO.out.ent _ _
 with_reducible refine (HR1.out _ HBD.out).mono ?_
 rintro e w2 ⟨v1, rfl, hv1, hb2⟩
 obtain ⟨A1, d1, e1⟩ := Kd.R_slice hv1
 subst e1
 have HV1 := Aside0.mk (Kd.R_lower hv1 HBD.out.size)
 have HB2 := Aside0.mk (below_step HBD.out hb2)
 refine ⟨_, rfl, ?_⟩
 refine hK.out _ _ ⟨pw_cell_below hb2 y0_, pw_cell_below hb2 y1_⟩ (fun hHeld => ?_)
 clear hK K
 refine norm_ (a' := ?_) ?_ ?_
 rotate_left
 ·
  show Act.put _ (some 27) _ = _
  simp only [Act.put, q1lI, q1l0, q1l1, i64_w, i32_w]
  rfl
 refine one_ (i:=20) (N:=some 35) #[true,true,true,true,true,true,true,true,true,true,true,true,true,true,true,true,true,true,true,true,true,false,false,false] rfl rfl (by kernel_rfl) (by decide) (fun K hK => ?_)
 refine call_ fO #[x, .int .i64 (128 + (o : Int)), .int .i64 (m : Int)] (by rfl) rfl ?_ ?_
 ·
  unfold execOp
  simp [resolve, Deferred.ofValue, invoke, callMethod, Act.eval]
  rw [show 159 + Made.depth = 259 from rfl, hmO.out.run]
  exact hmO.out.ent _ _
 with_reducible refine (HR2.out _ HB2.out).mono ?_
 rintro e w3 ⟨v3, rfl, hv3, hb3⟩
 obtain ⟨A3, d3, e3⟩ := Kd.R_slice hv3
 subst e3
 refine ⟨_, rfl, ?_⟩
 refine hK.out _ _ ⟨pw_cell_below hb3 (pw_cell_below hb2 y0_), pw_cell_below hb3 (pw_cell_below hb2 y1_)⟩ (fun hHeld => ?_)
 clear hK K
 refine norm_ (a' := ?_) ?_ ?_
 rotate_left
 ·
  show Act.put _ (some 35) _ = _
  simp only [Act.put, q1lI, q1l0, q1l1, i64_w, i32_w]
  rfl
 refine last_ (i:=21) (N:=some 36) #[true,true,true,true,true,true,true,true,true,true,true,true,true,true,true,true,true,true,true,true,true,true,false,false] rfl rfl (by kernel_rfl) (by decide) (fun K hK => ?_)
 refine Kd.R_append_rows_step k52 (Rr := k52.K w3) (w0 := w) w.heap.size (by rfl) (.tmp 27) (.tmp 35) 23 52 (.agg #[.int .i64 0, .int .i64 0]) 16 rfl Tryz.underlying23 info52 rfl (by decide) (by decide) (.slice A1 r1.length d1) r1 r2 A3 r2.length d3 (fun _ => True) (fun _ => False) rfl rfl (Kd.R_below HV1.out hb3) (Kd.R_reads' hv3).2.2 (fun x cs h => (k52_open h) ▸ k52_mkM _ _ _ x) (fun _ h => h.elim) (fun _ _ => trivial) (below_step HB2.out hb3) (below_step HB2.out hb3).size HRM.out ?_
 intro v4 w4 HO4 HB4 hg4 hat4
 obtain ⟨A4, d4, e4⟩ := Kd.R_slice HO4
 subst e4
 refine hK.out _ _ ?_
 clear hK K
 refine norm_ (a' := ?_) ?_ ?_
 rotate_left
 ·
  show Act.put _ (some 36) _ = _
  simp only [Act.put, q1lI, q1l0, q1l1, i64_w, i32_w]
  rfl
 refine last_ (i:=22) (N:=some 37) #[true,true,true,true,true,true,true,true,true,true,true,true,true,true,true,true,true,true,true,true,true,true,true,false] rfl rfl (by kernel_rfl) (by decide) (fun K hK => ?_)
 refine call_ 116 #[.slice A4 (r1 ++ r2).length d4] (by rfl) rfl ?_ ?_
 ·
  have he := enters_ Tryz.func116 (by kernel_rfl) rfl
  unfold execOp
  simp [resolve, Deferred.ofValue, invoke, Act.eval, he]
 with_reducible refine (span_Glue.calls kg A4 d4 (r1 ++ r2) G _ (Kd.R_reads' HO4).2.2 (Kd.R_reads' HO4).2.1 HKG.out).mono ?_
 rintro e w5 ⟨v5, rfl, hv5, hb5⟩
 refine ⟨_, rfl, ?_⟩
 refine hK.out _ _ ?_
 clear hK K
 refine norm_ (a' := ?_) ?_ ?_
 rotate_left
 ·
  show Act.put _ (some 37) _ = _
  simp only [Act.put, q1lI, q1l0, q1l1, i64_w, i32_w]
  rfl
 refine pure_ (i:=23) (N:=some 6) (v:=?_) (a':=?_) #[true,true,true,true,true,true,true,true,true,true,true,true,true,true,true,true,true,true,true,true,true,true,true,true] rfl rfl (by kernel_rfl) (fun _ _ _ h => h) (Or.inl ⟨by rfl, ?_⟩) ?_ ?_
 rotate_left
 ·
  intro w'
  go_simp
  with_reducible rfl
 rotate_left
 ·
  simp only [Act.put, q1lI, q1l0, q1l1, i64_w, i32_w]
  rfl
 refine done_ (by kernel_rfl) ?_
 have HB5 := Aside0.mk (below_step HB4 hb5)
 obtain ⟨A5, d5, e5⟩ := Kd.R_slice hv5
 subst e5
 have hv5r := Aside0.mk (Kd.R_reads' hv5)
 clear hb5 hv5 HO4 HB4 hg4 hat4 hv3 hb3 hb2 hHeld y0_ y1_
 go_wp2
 go_ret
 exact ⟨_, _, rfl, hv5r.out.2.2, hv5r.out.2.1, HB5.out⟩
end Go.Proofs.YtagcaheopbmdiaaGreat.Pure
