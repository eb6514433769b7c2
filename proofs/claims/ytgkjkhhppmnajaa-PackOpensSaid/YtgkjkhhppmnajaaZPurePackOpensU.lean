/- Packed layers: what an opened layer is. No condition. -/
import Derived.Test.YtgkjkhhppmnajaaZPurePackOpensO
import Derived.Test.YtgkjkhhppmnajaaZPurePackOpensR
import Derived.Lib.Bytes
import Derived.Lib.Repeat
import Derived.Lib.EndianBits
namespace Go.Proofs.Ytgkjkhhppmnajaa.Pure
open Go.Proofs.Ytgkjkhhppmnajaa.SumPlain Go.Maps
open Go Go.RowKit Go.Proofs.Ytgkjkhhppmnajaa.QPackOpens Go.Proofs.YtgkjkhhppmnajaaW.PrintWords Go.Proofs.YtgkjkhhppmnajaaW.PrintLast Go.Proofs.YtgkjkhhppmnajaaW.PrintMore
set_option linter.unusedVariables false
set_option linter.unusedSimpArgs false
theorem laid_l1 (l : List S45) (i : Nat) (x : S45) (m : Nat) (hm : x.f1 = (m : Int)) (h0 : 0 ≤ x.f0) (h1 : x.f0 + x.f1 ≤ 65536) (acc : List Int) (r : List Int) (ha : acc.length + m ≤ 200000) (hi : i < l.length) (hn : l.length ≤ 4611686018427387904)
  (he : Ev (fun k => wrackref1_Laid.l0 k (acc ++ bytesS x) l (l.length : Int) ((i + 1 : Nat) : Int)) r) : ∀ (d j : Nat), j + d = m →
  Ev (fun k => wrackref1_Laid.l1 k (acc ++ bytesS ⟨x.f0, (j : Int)⟩) l (l.length : Int) (i : Int) x.f1 (j : Int) x.f0 x.f1) r
 | 0, j, hj => by
  refine Ev.step (fun k => ?_) he
  simp only [wrackref1_Laid.l1]
  rw [if_neg (by omega), up i l.length hi hn]
  have : x = ⟨x.f0, (j : Int)⟩ := by cases x; simp only [S45.mk.injEq, true_and]; simp only at hm; omega
  rw [← this]
 | d + 1, j, hj => by
  refine Ev.step (fun k => ?_) (laid_l1 l i x m hm h0 h1 acc r ha hi hn he d (j + 1) (by omega))
  simp only [wrackref1_Laid.l1]
  have hw : wrap64 (x.f0 + (j : Int)) = x.f0 + (j : Int) := by unfold wrap64; omega
  rw [if_pos (by omega), if_pos (by rw [List.length_append, bytes_len]; simp only; omega), hw, up j (m + 1) (by omega) (by omega), range_bytes, List.append_assoc]
theorem laid_l0 (l : List S45) (hn : l.length ≤ 4611686018427387904) : ∀ (d i : Nat) (acc : List Int), i + d = l.length → acc.length + (laid (l.drop i)).length ≤ 200000 →
  Ev (fun k => wrackref1_Laid.l0 k acc l (l.length : Int) (i : Int)) (acc ++ laid (l.drop i))
 | 0, i, acc, hi, ha => by
  refine Ev.step (f := fun _ => some _) (fun k => ?_) (Ev.now _)
  simp only [wrackref1_Laid.l0]
  rw [if_neg (by omega), List.drop_of_length_le (by omega), laid_nil, List.append_nil]
 | d + 1, i, acc, hi, ha => by
  rw [drop_span l i (by omega)] at ha ⊢
  generalize hx : rd_T45 l (i : Int) = x at ha ⊢
  by_cases hr : 0 ≤ x.f0 ∧ 0 ≤ x.f1 ∧ x.f0 + x.f1 ≤ 65536
  ·
   have hl : laid (x :: l.drop (i + 1)) = bytesS x ++ laid (l.drop (i + 1)) := by
    by_cases hk : okS x
    · rw [laid_ok _ _ hk]
    ·
     have : x.f1.toNat = 0 := by unfold okS at hk; omega
     rw [laid_no _ _ hk]; simp [bytesS, this]
   rw [hl] at ha ⊢
   have hb := bytes_len x
   rw [List.length_append] at ha
   have e := laid_l0 l hn d (i + 1) (acc ++ bytesS x) (by omega) (by rw [List.length_append]; omega)
   rw [List.append_assoc] at e
   have e2 := laid_l1 l i x x.f1.toNat (by omega) hr.1 hr.2.2 acc _ (by omega) (by omega) hn e x.f1.toNat 0 (by omega)
   refine Ev.step (fun k => ?_) e2
   simp only [wrackref1_Laid.l0]
   rw [if_pos (by omega), if_pos (by omega), if_pos (by omega), hx, right_val, Option.bind_some, decide_eq_true hr, if_pos rfl]
   simp [bytesS]
  ·
   rw [laid_no _ _ (by unfold okS; omega)] at ha ⊢
   refine Ev.step (fun k => ?_) (laid_l0 l hn d (i + 1) acc (by omega) ha)
   simp only [wrackref1_Laid.l0]
   rw [if_pos (by omega), if_pos (by omega), if_pos (by omega), hx, right_val, Option.bind_some, decide_eq_false hr, if_neg (by decide), up i l.length (by omega) hn]
theorem laid_ev (l : List S45) (hn : l.length ≤ 4611686018427387904) (h : (laid l).length ≤ 200000) : Ev (fun k => wrackref1_Laid.f k l) (laid l) := by
 refine Ev.congr (fun k => ?_) (laid_l0 l hn l.length 0 [] (by omega) (by simpa using h))
 unfold wrackref1_Laid.f
 rfl
/-- units stand one behind the other -/
theorem unitsOf_sum (S : Int) : ∀ (n : Nat) (r : List Int) (at_ : Int) (l : List S45), r.length = 2 * n → at_ ≤ S → unitsOf S r at_ = some l → at_ + (l.map S45.f1).sum ≤ S
 | 0, r, at_, l, hr, ha, h => by
  cases r with
  | nil => rw [unitsOf_nil] at h; cases h; simpa using ha
  | cons x r => simp only [List.length_cons] at hr; omega
 | n + 1, r, at_, l, hr, ha, h => by
  cases r with
  | nil => simp only [List.length_nil] at hr; omega
  | cons x r =>
   cases r with
   | nil => simp only [List.length_cons, List.length_nil] at hr; omega
   | cons y r =>
    rw [unitsOf_cons] at h
    split at h
    · cases h
    ·
     rename_i hc
     obtain ⟨l', hl', e⟩ := Option.map_eq_some_iff.1 h
     subst e
     have := unitsOf_sum S n r _ l' (by simp only [List.length_cons] at hr; omega) (by omega) hl'
     simp only [List.map_cons, List.sum_cons]
     omega
/-- what an opened layer's parts are -/
theorem pk_says (p : List Int) (bd : List Bool) (hb : Bytes p) (hn : p.length ≤ 65536) (size : Nat) (l : List S45) (h : pkOpen p bd = some (size, l)) :
  size ≤ 65536 ∧ l.length = nUn size ∧ (∀ y ∈ l, 0 ≤ y.f0 ∧ 4 ≤ y.f1 ∧ y.f0 + y.f1 ≤ (p.length : Int)) ∧ 16 + 2 * l.length ≤ p.length ∧ 16 + 2 * (l.length : Int) + (l.map S45.f1).sum ≤ (p.length : Int) := by
 unfold pkOpen at h
 split at h
 ·
  rename_i h1
  split at h
  ·
   rename_i h2
   obtain ⟨m, hm, he⟩ := Option.map_eq_some_iff.1 h
   simp only [Prod.mk.injEq] at he
   obtain ⟨e1, e2⟩ := he
   subst e2
   have hr : 16 + 2 * nUn size ≤ p.length := by
    by_cases hc : inR (p.length : Int) 16 (2 * (nUn size : Nat))
    · unfold inR at hc; omega
    ·
     rw [e1] at h2
     have := h2.1
     unfold readErr at this
     rw [if_neg hc] at this
     omega
   rw [e1] at hm
   obtain ⟨g1, g2⟩ := unitsOf_len _ (nUn size) _ _ _ (by rw [List.length_take, List.length_drop]; omega) hm
   exact ⟨by rw [← e1]; have := h1.2.2.2; omega, g1, fun y hy => by have := g2 y hy; exact ⟨by omega, this.2.1, this.2.2⟩, by omega, by have := unitsOf_sum _ (nUn size) _ _ _ (by rw [List.length_take, List.length_drop]; omega) (by omega) hm; omega⟩
  · cases h
 · cases h
/-- some of the units are no longer than all -/
theorem unitsL_sum (l : List S45) (h : ∀ y ∈ l, 0 ≤ y.f1) (a : Nat) : ∀ j, a + j ≤ l.length → ((unitsL l a j).map S45.f1).sum ≤ (((l.drop a).take j).map S45.f1).sum
 | 0, _ => by simp [unitsL]
 | j + 1, hj => by
  have ih := unitsL_sum l h a j (by omega)
  rw [unitsL_succ, List.map_append, List.sum_append, List.take_add_one, List.map_append, List.sum_append]
  have e : (l.drop a)[j]? = some (rd_T45 l ((a + j : Nat) : Int)) := by
   rw [List.getElem?_drop]
   unfold rd_T45
   rw [Int.toNat_natCast, List.getD_eq_getElem?_getD, List.getElem?_eq_getElem (show a + j < l.length by omega)]
   rfl
  rw [e]
  simp only [Option.toList_some, List.map_cons, List.map_nil, List.sum_cons, List.sum_nil]
  omega
theorem sum_cut (l : List S45) (h : ∀ y ∈ l, 0 ≤ y.f1) (a j : Nat) : (((l.drop a).take j).map S45.f1).sum ≤ (l.map S45.f1).sum := by
 have pos : ∀ m : List S45, (∀ y ∈ m, 0 ≤ y.f1) → 0 ≤ (m.map S45.f1).sum := by
  intro m
  induction m with
  | nil => intro _; simp
  | cons x m ih =>
   intro hm
   have h1 := hm x (List.mem_cons_self ..)
   have h2 := ih (fun y hy => hm y (List.mem_cons_of_mem _ hy))
   simp only [List.map_cons, List.sum_cons]
   omega
 have e1 : (l.map S45.f1).sum = ((l.take a).map S45.f1).sum + ((l.drop a).map S45.f1).sum := by
  rw [← List.sum_append, ← List.map_append, List.take_append_drop]
 have e2 : ((l.drop a).map S45.f1).sum = (((l.drop a).take j).map S45.f1).sum + (((l.drop a).drop j).map S45.f1).sum := by
  rw [← List.sum_append, ← List.map_append, List.take_append_drop]
 have p1 := pos (l.take a) (fun y hy => h y (List.mem_of_mem_take hy))
 have p2 := pos ((l.drop a).drop j) (fun y hy => h y (List.mem_of_mem_drop (List.mem_of_mem_drop hy)))
 omega
theorem laid_few (l : List S45) (h : ∀ y ∈ l, 0 ≤ y.f1) : ((laid l).length : Int) ≤ (l.map S45.f1).sum := by
 induction l with
 | nil => simp [laid]
 | cons x l ih =>
  have h1 := h x (List.mem_cons_self ..)
  have h2 := ih (fun y hy => h y (List.mem_cons_of_mem _ hy))
  simp only [List.map_cons, List.sum_cons]
  by_cases hx : okS x
  ·
   rw [laid_ok x l hx, List.length_append]
   have : (bytesS x).length = x.f1.toNat := by simp [bytesS]
   omega
  ·
   rw [laid_no x l hx]
   omega
/-- the laid list is short -/
theorem laid_room (n : Nat) (l : List S45) (h : ∀ y ∈ l, 0 ≤ y.f1) (hs : 16 + 2 * (l.length : Int) + (l.map S45.f1).sum ≤ (n : Int)) (a j : Nat) (hj : a + j ≤ l.length) : (laid (⟨0, 16 + 2 * (l.length : Int)⟩ :: unitsL l a j)).length ≤ n := by
 have h1 := unitsL_sum l h a j hj
 have h2 := sum_cut l h a j
 have h3 := laid_few (⟨0, 16 + 2 * (l.length : Int)⟩ :: unitsL l a j) (by
  intro y hy
  rcases List.mem_cons.1 hy with rfl | hy
  · simp only; omega
  ·
   unfold unitsL at hy
   obtain ⟨t, ht, rfl⟩ := List.mem_map.1 hy
   have ht := List.mem_range.1 ht
   exact h _ (rd_mem l (a + t) (by omega)))
 simp only [List.map_cons, List.sum_cons] at h3
 omega
/-- what the loop over units has put together -/
def AllS (b : List Int) (bad : List Bool) (l : List S45) (R : Nat → List Int × Int) (a j : Nat) (s : ByteArray) : Prop :=
 s.size ≤ 256 * j ∧ (okRun b bad l R a j → s = strOfNums (catR R a j))
theorem AllS.zero (b : List Int) (bad : List Bool) (l : List S45) (R : Nat → List Int × Int) (a : Nat) : AllS b bad l R a 0 ⟨#[]⟩ :=
 ⟨by decide, fun _ => rfl⟩
theorem AllS.succ {b : List Int} {bad : List Bool} {l : List S45} {R : Nat → List Int × Int} {a j : Nat} {s u : ByteArray} (h : AllS b bad l R a j s) (hu : u.size ≤ 256) (ho : okU b bad l R (a + j) = true → u = strOfNums (R (a + j)).1) : AllS b bad l R a (j + 1) (s ++ u) := by
 refine ⟨by rw [ByteArray.size_append]; have := h.1; omega, fun hr => ?_⟩
 rw [h.2 (fun i hi => hr i (by omega)), ho (hr j (by omega)), str_add]
 rfl
/-- whether every unit so far was whole -/
def goodB (b : List Int) (bad : List Bool) (l : List S45) (R : Nat → List Int × Int) (a : Nat) : Nat → Bool
 | 0 => true
 | j + 1 => goodB b bad l R a j && okU b bad l R (a + j)
theorem goodB_run (b : List Int) (bad : List Bool) (l : List S45) (R : Nat → List Int × Int) (a : Nat) : ∀ j, goodB b bad l R a j = true ↔ okRun b bad l R a j
 | 0 => ⟨fun _ j hj => absurd hj (by omega), fun _ => rfl⟩
 | j + 1 => by
  rw [goodB, Bool.and_eq_true,goodB_run b bad l R a j]
  refine ⟨fun h i hi => ?_, fun h => ⟨fun i hi => h i (by omega), h j (by omega)⟩⟩
  by_cases e : i = j
  · rw [e]; exact h.2
  · exact h.1 i (by omega)
/-- what was read is what the units say -/
theorem all_cut (b : List Int) (bad : List Bool) (l : List S45) (R : Nat → List Int × Int) (a j o m : Nat) (s : ByteArray) (h : AllS b bad l R a j s) (hr : okRun b bad l R a j) : s.extract (o % 256) (o % 256 + m) = strOfNums (((catR R a j).drop (o % 256)).take m) := by
 rw [h.2 hr, str_cut, List.take_drop]
/-- reading, where every unit is whole -/
theorem lay_read_ok (w : World) (g T : Nat) (x : Value) (fR fO fS fP : Nat) (b fr : List Int) (bad : List Bool) (h : SrcIs w T x fR fO fS fP b fr bad) (hb : Bytes b) (hn : b.length ≤ 65536) (size : Nat) (A : Option Addr) (c : Nat) (l : List S45) (hI : IsLay w g T x size A c l) (hs : size ≤ 65536) (hL : l.length = nUn size) (R : Nat → List Int × Int) (hU : UN b bad size l R) (h4 : ∀ y ∈ l, 4 ≤ y.f1) (o m : Nat) (hm : 0 < m) (hom : o + m ≤ size) (a z f : Nat) (ha : a = o / 256) (hz : z = (o + m - 1) / 256) (hf : f = o % 256) (hg : okRun b bad l R a (z - a + 1)) (X : List Int) (hX : X = ((catR R a (z - a + 1)).drop f).take m) :
  Calls Try.prog 147 #[.pointer (some ⟨g, 0, none⟩), .int .i64 (o : Int), .int .i64 (m : Int)] w fun e w' => ∃ A7 c7, e = .returned (.tuple #[.slice A7 X.length c7, .int .i64 0]) ∧ Kd.C (Kd.int .u8) w' A7 X.length X ∧ X.length ≤ c7 ∧ Below w.heap.size w w' := by
 subst ha hz hf hX
 refine (lay_read w g T x fR fO fS fP b fr bad h hb hn size A c l hI hs hL R hU h4 o m hm hom).mono ?_
 rintro e w' ⟨h1, _, h3⟩
 obtain ⟨v0, he, hv⟩ := h1 hg
 obtain ⟨A7, c7, e7⟩ := Kd.R_slice hv
 subst e7
 have h7 := Kd.R_reads' hv
 exact ⟨A7, c7, he, h7.2.2, h7.2.1, h3⟩
/-- reading, where a unit is not whole -/
theorem lay_read_bad (w : World) (g T : Nat) (x : Value) (fR fO fS fP : Nat) (b fr : List Int) (bad : List Bool) (h : SrcIs w T x fR fO fS fP b fr bad) (hb : Bytes b) (hn : b.length ≤ 65536) (size : Nat) (A : Option Addr) (c : Nat) (l : List S45) (hI : IsLay w g T x size A c l) (hs : size ≤ 65536) (hL : l.length = nUn size) (R : Nat → List Int × Int) (hU : UN b bad size l R) (h4 : ∀ y ∈ l, 4 ≤ y.f1) (o m : Nat) (hm : 0 < m) (hom : o + m ≤ size) (a z : Nat) (ha : a = o / 256) (hz : z = (o + m - 1) / 256) (hg : ¬ okRun b bad l R a (z - a + 1)) :
  Calls Try.prog 147 #[.pointer (some ⟨g, 0, none⟩), .int .i64 (o : Int), .int .i64 (m : Int)] w fun e w' => e = .returned (.tuple #[.slice none 0 0, .int .i64 19]) ∧ Below w.heap.size w w' := by
 subst ha hz
 refine (lay_read w g T x fR fO fS fP b fr bad h hb hn size A c l hI hs hL R hU h4 o m hm hom).mono ?_
 rintro e w' ⟨_, h2, h3⟩
 exact ⟨h2 hg, h3⟩
/-- the road, as the reference's list lays it -/
theorem lay_road_at (w : World) (g T : Nat) (x : Value) (fR fO fS fP : Nat) (b : List Int) (bad : List Bool) (h : SrcIs w T x fR fO fS fP b (idx b.length) bad) (hn : b.length ≤ 65536) (size : Nat) (A : Option Addr) (c : Nat) (l : List S45) (hI : IsLay w g T x size A c l) (hs : size ≤ 65536) (hL : l.length = nUn size) (hun : ∀ y ∈ l, 0 ≤ y.f0 ∧ 4 ≤ y.f1 ∧ y.f0 + y.f1 ≤ (b.length : Int)) (hh : 16 + 2 * l.length ≤ b.length) (o m : Nat) (hm : 0 < m) (hom : o + m ≤ size) (a z : Nat) (ha : a = o / 256) (hz : z = (o + m - 1) / 256) (G : List S45) (hG : G = gluedP [] (laid (⟨0, 16 + 2 * (l.length : Int)⟩ :: unitsL l a (z - a + 1)))) :
  Calls Try.prog 148 #[.pointer (some ⟨g, 0, none⟩), .int .i64 (o : Int), .int .i64 (m : Int)] w fun e w' => ∃ A8 c8, e = .returned (.slice A8 G.length c8) ∧ Kd.C k45 w' A8 G.length G ∧ G.length ≤ c8 ∧ Below w.heap.size w w' := by
 obtain ⟨n1, n2, n3, n4⟩ := rd_nums o m size l.length hm hom hs hL
 subst ha hz hG
 have hr := rows_laid b.length hn l (fun y hy => by have := hun y hy; exact ⟨this.1, by omega, this.2.2⟩) hh (o / 256) ((o + m - 1) / 256 - o / 256 + 1) (by omega)
 have hi : (idx b.length).length ≤ 65536 := by rw [show (idx b.length).length = b.length by simp [idx]]; exact hn
 refine (lay_road w g T x fR fO fS fP b (idx b.length) bad h hi size A c l hI hs hL o m hm hom).mono ?_
 rintro e w' ⟨v0, he, hv, hb⟩
 rw [hr] at hv
 obtain ⟨A8, c8, e8⟩ := Kd.R_slice hv
 subst e8
 have h8 := Kd.R_reads' hv
 exact ⟨A8, c8, he, h8.2.2, h8.2.1, hb⟩
end Go.Proofs.Ytgkjkhhppmnajaa.Pure
