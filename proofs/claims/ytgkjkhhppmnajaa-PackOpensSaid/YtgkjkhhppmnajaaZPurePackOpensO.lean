/- Packed layers: what the reference reads of one, walked. No condition. -/
import Derived.Test.YtgkjkhhppmnajaaZPurePackOpensN
import Derived.Lib.Bytes
import Derived.Lib.Repeat
import Derived.Lib.EndianBits
namespace Go.Proofs.Ytgkjkhhppmnajaa.Pure
open Go.Proofs.Ytgkjkhhppmnajaa.SumPlain Go.Maps
open Go Go.RowKit Go.Proofs.Ytgkjkhhppmnajaa.QPackOpens Go.Proofs.YtgkjkhhppmnajaaW.PrintWords Go.Proofs.YtgkjkhhppmnajaaW.PrintLast Go.Proofs.YtgkjkhhppmnajaaW.PrintMore
set_option linter.unusedVariables false
set_option linter.unusedSimpArgs false
theorem q18I : type_of% @List.setIfInBounds_toArray := @List.setIfInBounds_toArray
theorem q180 : type_of% @List.set_cons_zero := @List.set_cons_zero
theorem q181 : type_of% @List.set_cons_succ := @List.set_cons_succ
theorem q18T : type_of% @List.map_toArray := @List.map_toArray
theorem q18M : type_of% @List.map_cons := @List.map_cons
theorem q18L : type_of% @List.map_nil := @List.map_nil
theorem q18S : type_of% @below_step := @below_step
theorem q18F : type_of% @blk_frozen := @blk_frozen
theorem q18a : type_of% @Aside0.mk := @Aside0.mk
theorem q18c : type_of% @blk_cell := @blk_cell
/-- what the reference hands back of a packed layer -/
def PoEnd (w : World) (b : List Int) (bad : List Bool) (e : Ending) (w' : World) : Prop :=
 (∀ size l, pkOpen b bad = some (size, l) → ∃ A c, e = .returned (.tuple #[.agg #[.int .i64 (size : Int), .int .i64 (16 + 2 * (l.length : Int)), .slice A l.length c], .bool true]) ∧ Kd.C k45 w' A l.length l ∧ l.length ≤ c ∧ Below w.heap.size w w') ∧
 (pkOpen b bad = none → e = .returned (.tuple #[.agg #[.int .i64 0, .int .i64 0, .slice none 0 0], .bool false]) ∧ Below w.heap.size w w')
/-- where the reference's units' loop stands -/
def PoRel (w wr : World) (pb : Nat) (Z : Int) (U : Nat) (S : Int) (vX : Value) (IX : List Int) (all : Option (List S45)) (vi va : Value) : Prop := ∃ (i : Nat) (a : Int) (L : List S45) (v : Value), i ≤ U ∧ vi = .int .i64 (i : Int) ∧ va = .int .i64 a ∧ 0 ≤ a ∧ a ≤ 65536 ∧ Aside0 (L.length = i) ∧ Aside0 ((unitsOf S (IX.drop (2 * i)) a).map (fun l => L ++ l) = all) ∧ Aside0 (PO w wr w.heap.size pb Z (16 + 2 * (U : Int)) v v vX L IX)
theorem u8_at {w : World} {A : Option Addr} {n : Nat} {xs : List Int} (h : Kd.C (Kd.int .u8) w A n xs) (i : Nat) (hi : i < n) : ∃ ad, A = some ad ∧ w.cell? (ad.add i) = some (.int .u8 (rd xs (i : Int))) := by
 obtain ⟨ad, he, hc⟩ := h.2.2 (by omega)
 have hx : xs[i]? = some (rd xs (i : Int)) := by
  unfold rd
  rw [Int.toNat_natCast, List.getD_eq_getElem?_getD, List.getElem?_eq_getElem (by rw [h.1]; exact hi)]
  rfl
 obtain ⟨cs, h1, h2, h3⟩ := hc i _ hx
 have h2 : cs = [.int .u8 (rd xs (i : Int))] := h2
 subst h2
 have h4 := h3 0 _ rfl
 refine ⟨ad, he, ?_⟩
 rw [show i * (Kd.int IntKind.u8).sz + 0 = i by show i * 1 + 0 = i; omega] at h4
 exact h4
theorem check_at (W : World) (A : Option Addr) (c n : Nat) (l : List Int) (r : Int) (hl : l.length = n) (hb : Bytes l) (hC : Kd.C (Kd.int .u8) W A n l) (hc : n ≤ c) (hr : crcOf l = r) (hn : n ≤ 140737488351232 := by omega) : Calls Try.prog 46 #[.slice A n c] W fun e w' => e = .returned (.int .i64 r) ∧ Drawn0 W w' := by
 subst hl
 subst hr
 obtain ⟨k, hk⟩ := (ref_ev l hb hn).rounds
 exact wrackref1_Check32.calls k A c l _ W hC hc hk
set_option maxHeartbeats 16000000 in
set_option maxRecDepth 100000 in
theorem packof_calls (w : World) (T : Nat) (x : Value) (fR fO fS fP : Nat) (b fr : List Int) (bad : List Bool) (h : SrcIs w T x fR fO fS fP b fr bad) (hb : Bytes b) (hn : b.length ≤ 65536) :
  Calls Try.prog 10 #[.iface T x] w fun e w' => PoEnd w b bad e w' := by
 have hget := fun W (hb : Below w.heap.size w W) => get_calls W T x fR fO fS fP b fr bad (h.below hb) 0 16
 have HB0 := q18a (below_alloc (Below.refl w.heap.size w) (.cells #[.int .i64 0, .int .i64 0, .slice none 0 0] 37))
 have HR0 := q18a (blk_new w (.cells #[.int .i64 0, .int .i64 0, .slice none 0 0] 37))
 have hu37 := Try.underlying37
 have HFIL := q18a fill_4
 obtain ⟨z4, hz4⟩ : ∃ z, z = strOfNums [0, 0, 0, 0] := ⟨_, rfl⟩
 rw [← hz4] at HFIL
 unfold PoEnd
 obtain ⟨H, hH⟩ : ∃ H, H = readRow b bad 0 16 := ⟨_, rfl⟩
 obtain ⟨hs, hhs⟩ : ∃ s, s = strOfNums H := ⟨_, rfl⟩
 rw [← hH, ← hhs] at hget
 have HGET := q18a hget
 by_cases hp : readErr b.length bad 0 16 = 0 ∧ b.take 4 = [112, 97, 99, 107]
 ·
  obtain ⟨e1, d4⟩ := hp
  have hl16 : 16 ≤ b.length := by
   by_cases hR : inR b.length 0 16
   · have := hR.2.2; omega
   · unfold readErr at e1; rw [if_neg hR] at e1; exact absurd e1 (by decide)
  have hrow : H = b.take 16 := by rw [hH]; unfold readRow; rw [if_pos e1]; simp
  have hHl : H.length = 16 := by rw [hrow, List.length_take]; omega
  have hHB : Bytes H := by rw [hrow]; exact b_tk hb 16
  have hpre : strings_HasPrefix.f hs (⟨#[112, 97, 99, 107]⟩ : ByteArray) = some true := by
   rw [hhs, pre_val H hHB (by omega)]
   congr 1
   refine decide_eq_true ?_
   rw [hrow, List.take_take]
   exact d4
  have HPRE := q18a hpre
  have hh12 : H.drop 12 = (b.drop 12).take 4 := by rw [hrow, List.drop_take]
  have hhz : (H.drop 4).take 4 = (b.drop 4).take 4 := by rw [hrow, List.drop_take, List.take_take]; rfl
  have hh8 : (H.drop 8).take 4 = (b.drop 8).take 4 := by rw [hrow, List.drop_take, List.take_take]; rfl
  have hsz : hs.size = 16 := by rw [hhs, str_size]; exact hHl
  have hz12 : (12 : Int) ≤ (hs.size : Int) := by omega
  have hz8 : (8 : Int) ≤ (hs.size : Int) := by omega
  obtain ⟨s12, hs12⟩ : ∃ t, t = strOfNums (H.drop 12) := ⟨_, rfl⟩
  obtain ⟨sZ, hsZ⟩ : ∃ t, t = strOfNums ((H.drop 4).take 4) := ⟨_, rfl⟩
  obtain ⟨s8, hs8⟩ : ∃ t, t = strOfNums ((H.drop 8).take 4) := ⟨_, rfl⟩
  have hc12 : hs.extract 12 hs.size = s12 := by rw [hsz, hhs, hs12, str_cut, List.take_of_length_le (by omega)]
  have hc4 : hs.extract 4 8 = sZ := by rw [hhs, hsZ, str_cut, List.drop_take]
  have hc8 : hs.extract 8 12 = s8 := by rw [hhs, hs8, str_cut, List.drop_take]
  have hl12 : (H.drop 12).length = 4 := by rw [List.length_drop, hHl]
  have hq0 := leN_0 (H.drop 12) (b_dr hHB 12)
  rw [hl12] at hq0
  obtain ⟨Z, hZ⟩ : ∃ q, leN ((H.drop 4).take 4) = q := ⟨_, rfl⟩
  obtain ⟨q8, hq8⟩ : ∃ q, leN ((H.drop 8).take 4) = q := ⟨_, rfl⟩
  have hz0 := (leN_4 ((H.drop 4).take 4) (by rw [List.length_take, List.length_drop]; omega) (b_cut hHB 4 4)).1
  rw [hZ] at hz0
  have hpk : pkOpen b bad = if leN (H.drop 12) = 0 ∧ Z ≤ 65536 then (if readErr b.length bad 16 (2 * (nUn Z.toNat : Nat)) = 0 ∧ q8 = crcOf ((b.drop 16).take (2 * nUn Z.toNat)) then (unitsOf b.length ((b.drop 16).take (2 * nUn Z.toNat)) (16 + 2 * (nUn Z.toNat : Nat))).map fun l => (Z.toNat, l) else none) else none := by
   unfold pkOpen
   rw [← hh12, ← hhz, ← hh8, hZ, hq8]
   by_cases hc : leN (H.drop 12) = 0 ∧ Z ≤ 65536
   · rw [if_pos ⟨e1, d4, hc⟩, if_pos hc]
   · rw [if_neg (fun h => hc h.2.2), if_neg hc]
  obtain ⟨kz, hkz⟩ := (num_ev ((H.drop 4).take 4) (b_cut hHB 4 4) (by rw [List.length_take]; omega)).rounds
  rw [← hsZ, hZ] at hkz
  have HKZ := q18a hkz
  obtain ⟨k8, hk8⟩ := (num_ev ((H.drop 8).take 4) (b_cut hHB 8 4) (by rw [List.length_take]; omega)).rounds
  rw [← hs8, hq8] at hk8
  have HK8 := q18a hk8
  by_cases d12 : leN (H.drop 12) = 0
  ·
   have hsz4 : s12 = z4 := by rw [hs12, hz4, hq0.1 d12]; rfl
   subst hsz4
   by_cases dz : Z ≤ 65536
   ·
    have tz : decide ((65536 : Int) < Z) = false := decide_eq_false (by omega)
    obtain ⟨U, hU⟩ : ∃ U, U = nUn Z.toNat := ⟨_, rfl⟩
    have hU2 : U ≤ 256 := by rw [hU]; unfold nUn; omega
    have hUZ : ∀ i : Nat, ((i : Int) * 256 < Z ↔ i < U) := fun i => by rw [hU]; unfold nUn; omega
    rw [if_pos ⟨d12, dz⟩, ← hU] at hpk
    have HUZ := q18a hUZ
    obtain ⟨E2, hE2⟩ : ∃ E, E = readErr b.length bad 16 (2 * (U : Int)) := ⟨_, rfl⟩
    obtain ⟨IX, hIX⟩ : ∃ r, r = readRow b bad 16 (2 * (U : Int)) := ⟨_, rfl⟩
    have hread2 := fun W (hb : Below w.heap.size w W) => (h.ans W hb).read 16 (2 * (U : Int))
    rw [← hE2, ← hIX] at hread2
    rw [← hE2] at hpk
    have HREAD2 := q18a hread2
    have HSIZE := q18a (fun W (hb : Below w.heap.size w W) => (h.ans W hb).size)
    have hRr := h.mR.run
    have hRe := h.mR.ent
    have hSr := h.mS.run
    have hSe := h.mS.ent
    have hwU : IntKind.i64.wrap (2 * (U : Int)) = 2 * (U : Int) := by rw [i64_w]; unfold wrap64; omega
    have hZn : (Z.toNat : Int) = Z := Int.toNat_of_nonneg hz0
    have HZN := q18a hZn
    have HPK := q18a hpk
    have HUL := q18a (show E2 = 0 → 16 + 2 * U ≤ b.length ∧ IX = (b.drop 16).take (2 * U) from fun e2 => by
     rw [hE2] at e2
     have hR := Classical.byContradiction fun hR2 : ¬ inR b.length 16 (2 * (U : Int)) => by unfold readErr at e2; rw [if_neg hR2] at e2; exact absurd e2 (by decide)
     refine ⟨by have := hR.2.2; omega, ?_⟩
     rw [hIX]; unfold readRow; rw [if_pos e2]
     congr 1)
    have HBB := q18a hb
    clear h hget hH hhs hpre hz4 hpk d12 hq0 hl12 hZ hq8 hz0 hkz hk8 hs12 hsZ hs8 hsz hrow hHl hHB hh12 hhz hh8 hl16 dz e1 d4 hU hUZ hread2 hE2 hIX hZn hb
    go_enter Try.func10, Try.ntmps10
    go_wp2_with (first
     | (go_at_call 42; refine (HGET.out _ HB0.out).mono ?_; rintro e w1 ⟨rfl, hb1⟩; have HB1 := q18a (q18S HB0.out hb1); have HR1 := q18a (blk_below HR0.out hb1); clear hb1 HB0 HR0))
    have HBD := q18a (below_drew HB1.out)
    have HRD := q18a (blk_drew HR1.out)
    clear HB1 HR1
    refine start_ (n := 9) (S := fun w' => True) (ds := []) #[false,false,false,false,false,false,false,false,false] (by kernel_rfl) rfl rfl trivial (fun hHeld => ?_)
    generalize w1.drew = wD at HBD HRD hHeld ⊢
    refine pure_ (i:=0) (N:=some 14) (v:=?_) (a':=?_) #[true,false,false,false,false,false,false,false,false] rfl rfl (by kernel_rfl) (fun _ _ _ h => h) (Or.inl ⟨by rfl, ?_⟩) ?_ ?_
    rotate_left
    ·
     intro w'
     go_simp
     with_reducible rfl
    rotate_left
    ·
     simp only [Act.put, q18I, q180, q181, i64_w, i32_w]
     rfl
    refine one_ (i:=1) (N:=some 15) #[true,true,false,false,false,false,false,false,false] rfl rfl (by kernel_rfl) (by decide) (fun K hK => ?_)
    refine goes_ Try.func43 (by kernel_rfl) rfl #[.string hs, .string ⟨#[112, 97, 99, 107]⟩] (by rfl) rfl rfl (by simp only [q18T, q18M, q18L]; rfl) ?_
    with_reducible refine (strings_HasPrefix.calls hs _ true _ HPRE.out).mono ?_
    rintro e w2 ⟨rfl, hd2⟩
    refine ⟨_, rfl, ?_⟩
    refine hK.out _ _ trivial (fun hHeld => ?_)
    clear hK K
    refine norm_ (a' := ?_) ?_ ?_
    rotate_left
    ·
     show Act.put _ (some 15) _ = _
     simp only [Act.put, q18I, q180, q181, i64_w, i32_w]
     rfl
    refine pure_ (i:=2) (N:=some 16) (v:=?_) (a':=?_) #[true,true,true,false,false,false,false,false,false] rfl rfl (by kernel_rfl) (fun _ _ _ h => h) (Or.inl ⟨by rfl, ?_⟩) ?_ ?_
    rotate_left
    ·
     intro w'
     go_simp
     with_reducible rfl
    rotate_left
    ·
     simp only [Act.put, q18I, q180, q181, i64_w, i32_w]
     rfl
    refine pure_ (i:=3) (N:=some 17) (v:=?_) (a':=?_) #[true,true,true,true,false,false,false,false,false] rfl rfl (by kernel_rfl) (fun _ _ _ h => h) (Or.inl ⟨by rfl, ?_⟩) ?_ ?_
    rotate_left
    ·
     intro w'
     go_simp
     with_reducible rfl
    rotate_left
    ·
     simp only [Act.put, q18I, q180, q181, i64_w, i32_w]
     rfl
    refine pure_ (i:=4) (N:=some 18) (v:=?_) (a':=?_) #[true,true,true,true,true,false,false,false,false] rfl rfl (by kernel_rfl) (fun _ _ _ h => h) (Or.inl ⟨by rfl, ?_⟩) ?_ ?_
    rotate_left
    ·
     intro w'
     go_simp
     with_reducible rfl
    rotate_left
    ·
     simp only [Act.put, q18I, q180, q181, i64_w, i32_w]
     rfl
    refine pure_ (i:=5) (N:=some 19) (v:=?_) (a':=?_) #[true,true,true,true,true,true,false,false,false] rfl rfl (by kernel_rfl) (fun _ _ _ h => h) (Or.inl ⟨by rfl, ?_⟩) ?_ ?_
    rotate_left
    ·
     intro w'
     go_simp
     with_reducible rfl
    rotate_left
    ·
     simp only [Act.put, q18I, q180, q181, i64_w, i32_w]
     rfl
    refine one_ (i:=6) (N:=some 20) #[true,true,true,true,true,true,true,false,false] rfl rfl (by kernel_rfl) (by decide) (fun K hK => ?_)
    refine goes_ Try.func44 (by kernel_rfl) rfl #[.string ⟨#[]⟩, .int .i64 4] (by rfl) rfl rfl (by simp only [q18T, q18M, q18L]; rfl) ?_
    with_reducible refine (wrackref1_Filled.calls _ _ _ _ HFIL.out).mono ?_
    rintro e w3 ⟨rfl, hb3⟩
    refine ⟨_, rfl, ?_⟩
    refine hK.out _ _ trivial (fun hHeld => ?_)
    clear hK K
    refine norm_ (a' := ?_) ?_ ?_
    rotate_left
    ·
     show Act.put _ (some 20) _ = _
     simp only [Act.put, q18I, q180, q181, i64_w, i32_w]
     rfl
    refine pure_ (i:=7) (N:=some 21) (v:=?_) (a':=?_) #[true,true,true,true,true,true,true,true,false] rfl rfl (by kernel_rfl) (fun _ _ _ h => h) (Or.inl ⟨by rfl, ?_⟩) ?_ ?_
    rotate_left
    ·
     intro w'
     go_simp
     with_reducible rfl
    rotate_left
    ·
     simp only [Act.put, q18I, q180, q181, i64_w, i32_w]
     rfl
    refine pure_ (i:=8) (N:=some 22) (v:=?_) (a':=?_) #[true,true,true,true,true,true,true,true,true] rfl rfl (by kernel_rfl) (fun _ _ _ h => h) (Or.inl ⟨by rfl, ?_⟩) ?_ ?_
    rotate_left
    ·
     intro w'
     go_simp
     with_reducible rfl
    rotate_left
    ·
     simp only [Act.put, q18I, q180, q181, i64_w, i32_w]
     rfl
    refine done_ (by kernel_rfl) ?_
    have HB3 := q18a (q18S HBD.out (q18S hd2.below hb3))
    have HR3 := q18a (blk_below HRD.out (q18S hd2.below hb3))
    clear HBD HRD hd2 hb3 hHeld
    go_wp2_with (first
     | (go_at_call 45; refine (wrackref1_Number.calls kz sZ Z _ HKZ.out).mono ?_; rintro e w4 ⟨rfl, hd4⟩; have HB4 := q18a (q18S HB3.out hd4.below); have HR4 := q18a (blk_below HR3.out hd4.below); clear hd4 HB3 HR3; obtain ⟨P0, hP0⟩ : ∃ W, w4.alloc (.cells #[.int .i64 0, .int .i64 0, .slice none 0 0] 37) = W := ⟨_, rfl⟩; have py0 := blk_new w4 (.cells #[.int .i64 0, .int .i64 0, .slice none 0 0] 37); have ry0 := blk_below (HR4.out) (below_alloc (Below.refl w4.heap.size w4) (.cells #[.int .i64 0, .int .i64 0, .slice none 0 0] 37)); have by0 := q18S (HB4.out) (below_alloc (Below.refl w4.heap.size w4) (.cells #[.int .i64 0, .int .i64 0, .slice none 0 0] 37)); have hne_ : w.heap.size ≠ w4.heap.size := Nat.ne_of_lt (blk_lt (HR4.out)); have hle_ : w.heap.size ≤ w4.heap.size := (HB4.out).size; rw [hP0] at py0 ry0 by0; obtain ⟨P1, hP1⟩ : ∃ W, P0.setCell ⟨w4.heap.size, 0, none⟩ (.int .i64 Z) = W := ⟨_, rfl⟩; have pq0 : P0.cell? ⟨w4.heap.size, 0, none⟩ = some (.int .i64 0) := (q18c py0 0).trans rfl; have pk0 := q18F py0 0; have py1 := blk_put py0 0 (.int .i64 Z) rfl; have ry1 := blk_far ry0 (p := ⟨w4.heap.size, 0, none⟩) hne_ (.int .i64 Z); have by1 := by0.setCell hle_ (p := ⟨w4.heap.size, 0, none⟩) (.int .i64 Z); rw [hP1] at py1 ry1 by1; obtain ⟨P2, hP2⟩ : ∃ W, P1.setCell ⟨w4.heap.size, 1, none⟩ (.int .i64 0) = W := ⟨_, rfl⟩; have pq1 : P1.cell? ⟨w4.heap.size, 1, none⟩ = some (.int .i64 0) := (q18c py1 1).trans rfl; have pk1 := q18F py1 1; have py2 := blk_put py1 1 (.int .i64 0) rfl; have ry2 := blk_far ry1 (p := ⟨w4.heap.size, 1, none⟩) hne_ (.int .i64 0); have by2 := by1.setCell hle_ (p := ⟨w4.heap.size, 1, none⟩) (.int .i64 0); rw [hP2] at py2 ry2 by2; obtain ⟨P3, hP3⟩ : ∃ W, P2.setCell ⟨w4.heap.size, 2, none⟩ (.slice none 0 0) = W := ⟨_, rfl⟩; have pq2 : P2.cell? ⟨w4.heap.size, 2, none⟩ = some (.slice none 0 0) := (q18c py2 2).trans rfl; have pk2 := q18F py2 2; have py3 := blk_put py2 2 (.slice none 0 0) rfl; have ry3 := blk_far ry2 (p := ⟨w4.heap.size, 2, none⟩) hne_ (.slice none 0 0); have by3 := by2.setCell hle_ (p := ⟨w4.heap.size, 2, none⟩) (.slice none 0 0); rw [hP3] at py3 ry3 by3; have pz : P3.cell? ⟨w4.heap.size, 0, none⟩ = some (.int .i64 Z) := (q18c py3 0).trans rfl; have HRY := q18a ry3; have HPY := q18a py3; have HBY := q18a by3; have HNE := q18a hne_; have HLE := q18a hle_; clear py0 py1 py2 py3 ry0 ry1 ry2 ry3 hne_ hle_ by0 by1 by2 by3 HB4 HR4))
    clear pq0 pq1 pq2 pk0 pk1 pk2 hP0 hP1 hP2 hP3
    go_loopw [6] (fun vi wr => ∃ i : Nat, i ≤ U ∧ vi = .int .i64 (i : Int) ∧ wr = P3) (fun vi _ => U - (intOf vi).toNat)
    case atStart => exact ⟨0, Nat.zero_le _, rfl, rfl⟩
    case round =>
     obtain ⟨i, hi, rfl, rfl⟩ := hrel
     have hnx : IntKind.i64.wrap ((i : Int) + 1) = (i : Int) + 1 := by rw [i64_w]; unfold wrap64; omega
     obtain ⟨o, ho⟩ : ∃ o, o = (i : Int) * 256 := ⟨_, rfl⟩
     have hwo : IntKind.i64.wrap ((i : Int) * 256) = o := by rw [i64_w, ← ho]; unfold wrap64; omega
     have huz := HUZ.out i
     rw [← ho] at huz
     by_cases hlt : i < U
     ·
      have t0 : decide (o < Z) = true := decide_eq_true (huz.2 hlt)
      clear huz ho
      go_wp2
      go_roundw
      case rel => exact ⟨i + 1, by omega, by go_num, trivial⟩
      case measure => simp [intOf]; omega
     ·
      have t0 : decide (o < Z) = false := decide_eq_false (fun h2 => hlt (huz.1 h2))
      obtain rfl : U = i := by omega
      clear huz ho
      go_wp2
      refine (HREAD2.out _ HBY.out).mono ?_
      rintro e w5 ⟨v5, rfl, hv5, hb5⟩
      by_cases d2 : E2 = 0
      ·
       subst d2
       obtain ⟨hul1, hul2⟩ := HUL.out rfl
       have HIXB := q18a (show Bytes IX by rw [hul2]; exact b_cut HBB.out 16 (2 * U))
       have HIXL := q18a (show IX.length = 2 * U by rw [hul2, List.length_take, List.length_drop]; omega)
       obtain ⟨AX, cX, eX⟩ := Kd.R_slice hv5
       rw [HIXL.out] at eX
       subst eX
       have hvx := Kd.R_reads' hv5
       rw [HIXL.out] at hvx
       have HXC := q18a hvx.2.2
       have HXK := q18a hvx.2.1
       have HPO := q18a (show PO w w5 w.heap.size w4.heap.size Z 0 (.slice none 0 0) (.slice none 0 0) (.slice AX (2 * U) cX) [] IX from ⟨q18S HBY.out hb5, blk_below HRY.out hb5, blk_below HPY.out hb5, Kd.R_nil _ _ _ _ _, Kd.R_lower hv5 HBY.out.size, ⟨Nat.le_refl _, HLE.out, HNE.out⟩⟩)
       obtain ⟨CR, hcr⟩ : ∃ q, crcOf IX = q := ⟨_, rfl⟩
       have HCR := q18a hcr
       have hpk := HPK.out
       rw [← hul2, hcr] at hpk
       clear hul2 hvx hb5 hv5 HBY HRY HPY pz HPK hcr
       by_cases dc : q8 = CR
       ·
        rw [if_pos ⟨rfl, dc⟩] at hpk
        obtain ⟨all, hall⟩ : ∃ a, a = unitsOf (b.length : Int) IX (16 + 2 * (U : Int)) := ⟨_, rfl⟩
        rw [← hall] at hpk
        have HALL := q18a hall
        have HPK2 := q18a hpk
        have tc1 : (CR != q8) = false := by rw [dc]; simp
        have tc2 : CR = q8 := dc.symm
        clear hpk hall dc tc2
        go_wp2
        have HBD := q18a (below_drew (Below.refl w5.heap.size w5))
        refine start_ (n := 10) (S := fun w' => True) (ds := []) #[false,false,false,false,false,false,false,false,false,false] (by kernel_rfl) rfl rfl trivial (fun hHeld => ?_)
        generalize w5.drew = wF at HBD hHeld ⊢
        refine pure_ (i:=0) (N:=some 46) (v:=?_) (a':=?_) #[true,false,false,false,false,false,false,false,false,false] rfl rfl (by kernel_rfl) (fun _ _ _ h => h) (Or.inl ⟨by rfl, ?_⟩) ?_ ?_
        rotate_left
        ·
         intro w'
         go_simp
         with_reducible rfl
        rotate_left
        ·
         simp only [Act.put, q18I, q180, q181, i64_w, i32_w]
         rfl
        refine pure_ (i:=1) (N:=some 47) (v:=?_) (a':=?_) #[true,true,false,false,false,false,false,false,false,false] rfl rfl (by kernel_rfl) (fun _ _ _ h => h) (Or.inl ⟨by rfl, ?_⟩) ?_ ?_
        rotate_left
        ·
         intro w'
         go_simp
         with_reducible rfl
        rotate_left
        ·
         simp only [Act.put, q18I, q180, q181, i64_w, i32_w]
         rfl
        refine pure_ (i:=2) (N:=some 48) (v:=?_) (a':=?_) #[true,true,true,false,false,false,false,false,false,false] rfl rfl (by kernel_rfl) (fun _ _ _ h => h) (Or.inl ⟨by rfl, ?_⟩) ?_ ?_
        rotate_left
        ·
         intro w'
         go_simp
         with_reducible rfl
        rotate_left
        ·
         simp only [Act.put, q18I, q180, q181, i64_w, i32_w]
         rfl
        refine pure_ (i:=3) (N:=some 49) (v:=?_) (a':=?_) #[true,true,true,true,false,false,false,false,false,false] rfl rfl (by kernel_rfl) (fun _ _ _ h => h) (Or.inl ⟨by rfl, ?_⟩) ?_ ?_
        rotate_left
        ·
         intro w'
         go_simp
         with_reducible rfl
        rotate_left
        ·
         simp only [Act.put, q18I, q180, q181, i64_w, i32_w]
         rfl
        refine pure_ (i:=5) (N:=some 51) (v:=?_) (a':=?_) #[true,true,true,true,false,true,false,false,false,false] rfl rfl (by kernel_rfl) (fun _ _ _ h => h) (Or.inl ⟨by rfl, ?_⟩) ?_ ?_
        rotate_left
        ·
         intro w'
         go_simp
         with_reducible rfl
        rotate_left
        ·
         simp only [Act.put, q18I, q180, q181, i64_w, i32_w]
         rfl
        refine pure_ (i:=6) (N:=some 52) (v:=?_) (a':=?_) #[true,true,true,true,false,true,true,false,false,false] rfl rfl (by kernel_rfl) (fun _ _ _ h => h) (Or.inl ⟨by rfl, ?_⟩) ?_ ?_
        rotate_left
        ·
         intro w'
         go_simp
         with_reducible rfl
        rotate_left
        ·
         simp only [Act.put, q18I, q180, q181, i64_w, i32_w]
         rfl
        refine one_ (i:=4) (N:=some 50) #[true,true,true,true,true,true,true,false,false,false] rfl rfl (by kernel_rfl) (by decide) (fun K hK => ?_)
        refine goes_ Try.func46 (by kernel_rfl) rfl #[.slice AX (2 * U) cX] (by rfl) rfl rfl (by simp only [q18T, q18M, q18L]; rfl) ?_
        with_reducible refine (check_at _ AX cX (2 * U) IX CR HIXL.out HIXB.out (Kd.C_below HXC.out HBD.out) HXK.out HCR.out).mono ?_
        rintro e w6 ⟨rfl, hd6⟩
        refine ⟨_, rfl, ?_⟩
        refine hK.out _ _ trivial (fun hHeld => ?_)
        clear hK K
        refine norm_ (a' := ?_) ?_ ?_
        rotate_left
        ·
         show Act.put _ (some 50) _ = _
         simp only [Act.put, q18I, q180, q181, i64_w, i32_w]
         rfl
        refine one_ (i:=7) (N:=some 53) #[true,true,true,true,true,true,true,true,false,false] rfl rfl (by kernel_rfl) (by decide) (fun K hK => ?_)
        refine goes_ Try.func45 (by kernel_rfl) rfl #[.string s8] (by rfl) rfl rfl (by simp only [q18T, q18M, q18L]; rfl) ?_
        with_reducible refine (wrackref1_Number.calls k8 s8 q8 _ HK8.out).mono ?_
        rintro e w7 ⟨rfl, hd7⟩
        refine ⟨_, rfl, ?_⟩
        refine hK.out _ _ trivial (fun hHeld => ?_)
        clear hK K
        refine norm_ (a' := ?_) ?_ ?_
        rotate_left
        ·
         show Act.put _ (some 53) _ = _
         simp only [Act.put, q18I, q180, q181, i64_w, i32_w]
         rfl
        refine pure_ (i:=8) (N:=some 54) (v:=?_) (a':=?_) #[true,true,true,true,true,true,true,true,true,false] rfl rfl (by kernel_rfl) (fun _ _ _ h => h) (Or.inl ⟨by rfl, ?_⟩) ?_ ?_
        rotate_left
        ·
         intro w'
         go_simp
         with_reducible rfl
        rotate_left
        ·
         simp only [Act.put, q18I, q180, q181, i64_w, i32_w]
         rfl
        refine pure_ (i:=9) (N:=some 55) (v:=?_) (a':=?_) #[true,true,true,true,true,true,true,true,true,true] rfl rfl (by kernel_rfl) (fun _ _ _ h => h) (Or.inl ⟨by rfl, ?_⟩) ?_ ?_
        rotate_left
        ·
         intro w'
         go_simp
         with_reducible rfl
        rotate_left
        ·
         simp only [Act.put, q18I, q180, q181, i64_w, i32_w]
         rfl
        refine done_ (by kernel_rfl) ?_
        have HP7 := q18a (HPO.out.below (q18S HBD.out (q18S hd6.below hd7.below)))
        clear hHeld HBD hd6 hd7 HPO HXC
        have hw16 : IntKind.i64.wrap (16 + 2 * (U : Int)) = 16 + 2 * (U : Int) := by rw [i64_w]; unfold wrap64; omega
        have hv1 : w7.cell? ⟨w4.heap.size, 1, none⟩ = some (.int .i64 0) := (q18c HP7.out.p 1).trans rfl
        have hk1 := q18F HP7.out.p 1
        have HP8 := q18a (HP7.out.head (16 + 2 * (U : Int)))
        obtain ⟨w8, hw8⟩ : ∃ W, w7.setCell ⟨w4.heap.size, 1, none⟩ (.int .i64 (16 + 2 * (U : Int))) = W := ⟨_, rfl⟩
        rw [hw8] at HP8
        have hv2 : w8.cell? ⟨w4.heap.size, 1, none⟩ = some (.int .i64 (16 + 2 * (U : Int))) := (q18c HP8.out.p 1).trans rfl
        clear HP7
        go_wp2
        clear hv1 hk1 hv2 hw8
        go_loopw [64, 9] (fun vi va wr => PoRel w wr w4.heap.size Z U (b.length : Int) (.slice AX (2 * U) cX) IX all vi va) (fun vi _ _ => U - (intOf vi).toNat)
        case atStart => exact ⟨0, 16 + 2 * (U : Int), [], .slice none 0 0, Nat.zero_le _, rfl, rfl, by omega, by omega, ⟨rfl⟩, ⟨by rw [Nat.mul_zero, List.drop_zero, HALL.out]; cases unitsOf (b.length : Int) IX (16 + 2 * (U : Int)) <;> rfl⟩, HP8⟩
        case round =>
         clear HP8 HALL
         obtain ⟨i, a, L, v, hi, rfl, rfl, ha0, ha1, hLi, HU, HP⟩ := hrel
         by_cases hlt : i < U
         ·
          have HRM := q18a (show (L.length + 1) * 16 ≤ 140737488355328 by have := hLi.out; omega)
          have t0 : decide ((i : Int) < (U : Int)) = true := decide_eq_true (by omega)
          have t0n : decide (i < U) = true := decide_eq_true hlt
          have hnx : IntKind.i64.wrap ((i : Int) + 1) = (i : Int) + 1 := by rw [i64_w]; unfold wrap64; omega
          obtain ⟨o, ho⟩ : ∃ o, o = 2 * i := ⟨_, rfl⟩
          have hwo : wrap64 (2 * (i : Int)) = (o : Int) := by unfold wrap64; omega
          have hwo2 : wrap64 ((o : Int) + 1) = ((o + 1 : Nat) : Int) := by unfold wrap64; omega
          have hwo3 : wrap64 ((o : Int) + 1) = (o : Int) + 1 := by unfold wrap64; omega
          have hb1 : (o : Int) < ((2 * U : Nat) : Int) := by omega
          have hb2 : ((o + 1 : Nat) : Int) < ((2 * U : Nat) : Int) := by omega
          have hb3 : o < 2 * U := by omega
          have hb4 : o + 1 < 2 * U := by omega
          have hb5 : (o : Int) + 1 < 2 * (U : Int) := by omega
          have hb6 : (o : Int) < 2 * (U : Int) := by omega
          have hb7 : (0 : Int) ≤ (o : Int) + 1 := by omega
          have hu := HU.out
          rw [← ho, drop_rd IX o (by rw [HIXL.out]; omega), drop_rd IX (o + 1) (by rw [HIXL.out]; omega), unitsOf_cons] at hu
          have hp0 := rd_byte HIXB.out o
          have hp1 := rd_byte HIXB.out (o + 1)
          have hxr := Kd.R_reads' HP.out.x
          obtain ⟨ad, eA, e0⟩ := u8_at hxr.2.2 o (by omega)
          obtain ⟨ad2, eA2, e1⟩ := u8_at hxr.2.2 (o + 1) (by omega)
          rw [eA] at eA2
          obtain rfl : ad = ad2 := Option.some.inj eA2
          subst eA
          obtain ⟨p0, hp0e⟩ : ∃ p, p = rd IX (o : Int) := ⟨_, rfl⟩
          obtain ⟨p1, hp1e⟩ : ∃ p, p = rd IX ((o + 1 : Nat) : Int) := ⟨_, rfl⟩
          rw [← hp0e] at hu hp0 e0
          rw [← hp1e] at hu hp1 e1
          obtain ⟨nn, hnn⟩ : ∃ n, n = p0 + 256 * p1 := ⟨_, rfl⟩
          rw [← hnn] at hu
          have hc0 : wrap64 p0 = p0 := by unfold wrap64; omega
          have hc1 : wrap64 p1 = p1 := by unfold wrap64; omega
          have hc2 : wrap64 (256 * p1) = 256 * p1 := by unfold wrap64; omega
          have hc3 : wrap64 (p0 + 256 * p1) = nn := by rw [hnn]; unfold wrap64; omega
          have hnb : 0 ≤ nn ∧ nn ≤ 65535 := by omega
          have HU2 := q18a hu
          have HO2 := q18a (show 2 * (i + 1) = o + 1 + 1 by omega)
          clear hu HU ho hp0 hp1 hp0e hp1e hnn eA2 hxr
          go_wp2
          have HPD := q18a (HP.out.below (below_drew (Below.refl wr.heap.size wr)))
          have y0_ : wr.drew.cell? (ad.add o) = some (.int .u8 p0) := pw_cell_below (below_drew (Below.refl wr.heap.size wr)) e0
          have e1b : wr.cell? ⟨ad.block, ad.off + (o + 1), none⟩ = some (.int .u8 p1) := by have h_ := e1; unfold Addr.add at h_; rw [if_neg (Nat.succ_ne_zero o)] at h_; exact h_
          have y1_ : wr.drew.cell? ⟨ad.block, ad.off + (o + 1), none⟩ = some (.int .u8 p1) := pw_cell_below (below_drew (Below.refl wr.heap.size wr)) e1b
          clear e0 e1 e1b HP
          refine start_ (n := 16) (S := fun w' => w'.cell? (ad.add o) = some (.int .u8 p0) ∧ w'.cell? ⟨ad.block, ad.off + (o + 1), none⟩ = some (.int .u8 p1)) (ds := []) #[false,false,false,false,false,false,false,false,false,false,false,false,false,false,false,false] (by kernel_rfl) rfl rfl ⟨y0_, y1_⟩ (fun hHeld => ?_)
          generalize wr.drew = wD at y0_ y1_ HPD hHeld ⊢
          refine pure_ (i:=0) (N:=some 67) (v:=?_) (a':=?_) #[true,false,false,false,false,false,false,false,false,false,false,false,false,false,false,false] rfl rfl (by kernel_rfl) (fun _ _ _ h => h) (Or.inl ⟨by rfl, ?_⟩) ?_ ?_
          rotate_left
          ·
           intro w'
           go_simp
           with_reducible rfl
          rotate_left
          ·
           simp only [Act.put, q18I, q180, q181, i64_w, i32_w]
           rfl
          refine pure_ (i:=1) (N:=some 68) (v:=?_) (a':=?_) #[true,true,false,false,false,false,false,false,false,false,false,false,false,false,false,false] rfl rfl (by kernel_rfl) (fun _ _ _ h => h) (Or.inl ⟨by rfl, ?_⟩) ?_ ?_
          rotate_left
          ·
           intro w'
           go_simp
           with_reducible rfl
          rotate_left
          ·
           simp only [Act.put, q18I, q180, q181, i64_w, i32_w]
           rfl
          refine pure_ (i:=2) (N:=some 69) (v:=?_) (a':=?_) #[true,true,true,false,false,false,false,false,false,false,false,false,false,false,false,false] rfl rfl (by kernel_rfl) (fun _ _ _ h => h) (Or.inl ⟨by rfl, ?_⟩) ?_ ?_
          rotate_left
          ·
           intro w'
           go_simp
           with_reducible rfl
          rotate_left
          ·
           simp only [Act.put, q18I, q180, q181, i64_w, i32_w]
           rfl
          refine pure_ (i:=3) (N:=some 70) (v:=?_) (a':=?_) #[true,true,true,true,false,false,false,false,false,false,false,false,false,false,false,false] rfl rfl (by kernel_rfl) (fun _ _ _ h => h) (Or.inl ⟨by rfl, ?_⟩) ?_ ?_
          rotate_left
          ·
           intro w'
           go_simp
           with_reducible rfl
          rotate_left
          ·
           simp only [Act.put, q18I, q180, q181, i64_w, i32_w]
           rfl
          refine pure_ (i:=6) (N:=some 73) (v:=?_) (a':=?_) #[true,true,true,true,false,false,true,false,false,false,false,false,false,false,false,false] rfl rfl (by kernel_rfl) (fun _ _ _ h => h) (Or.inl ⟨by rfl, ?_⟩) ?_ ?_
          rotate_left
          ·
           intro w'
           go_simp
           with_reducible rfl
          rotate_left
          ·
           simp only [Act.put, q18I, q180, q181, i64_w, i32_w]
           rfl
          refine pure_ (i:=7) (N:=some 74) (v:=?_) (a':=?_) #[true,true,true,true,false,false,true,true,false,false,false,false,false,false,false,false] rfl rfl (by kernel_rfl) (fun _ _ _ h => h) (Or.inl ⟨by rfl, ?_⟩) ?_ ?_
          rotate_left
          ·
           intro w'
           go_simp
           with_reducible rfl
          rotate_left
          ·
           simp only [Act.put, q18I, q180, q181, i64_w, i32_w]
           rfl
          refine pure_ (i:=8) (N:=some 75) (v:=?_) (a':=?_) #[true,true,true,true,false,false,true,true,true,false,false,false,false,false,false,false] rfl rfl (by kernel_rfl) (fun _ _ _ h => h) (Or.inl ⟨by rfl, ?_⟩) ?_ ?_
          rotate_left
          ·
           intro w'
           go_simp
           with_reducible rfl
          rotate_left
          ·
           simp only [Act.put, q18I, q180, q181, i64_w, i32_w]
           rfl
          refine pure_ (i:=9) (N:=some 76) (v:=?_) (a':=?_) #[true,true,true,true,false,false,true,true,true,true,false,false,false,false,false,false] rfl rfl (by kernel_rfl) (fun _ _ _ h => h) (Or.inl ⟨by rfl, ?_⟩) ?_ ?_
          rotate_left
          ·
           intro w'
           go_simp
           with_reducible rfl
          rotate_left
          ·
           simp only [Act.put, q18I, q180, q181, i64_w, i32_w]
           rfl
          refine pure_ (i:=10) (N:=some 77) (v:=?_) (a':=?_) #[true,true,true,true,false,false,true,true,true,true,true,false,false,false,false,false] rfl rfl (by kernel_rfl) (fun _ _ _ h => h) (Or.inl ⟨by rfl, ?_⟩) ?_ ?_
          rotate_left
          ·
           intro w'
           go_simp
           with_reducible rfl
          rotate_left
          ·
           simp only [Act.put, q18I, q180, q181, i64_w, i32_w]
           rfl
          refine take_ (i:=4) (N:=some 71) (v:=?_) (a':=?_) #[true,true,true,true,true,false,true,true,true,true,true,false,false,false,false,false] rfl rfl (by kernel_rfl) (fun _ _ _ h => h) (Or.inl ⟨by rfl, ?_⟩) hHeld ?_ ?_
          rotate_left
          ·
           rintro w' ⟨s0, s1⟩
           go_simp
           with_reducible rfl
          rotate_left
          ·
           simp only [Act.put, q18I, q180, q181, i64_w, i32_w]
           rfl
          refine pure_ (i:=5) (N:=some 72) (v:=?_) (a':=?_) #[true,true,true,true,true,true,true,true,true,true,true,false,false,false,false,false] rfl rfl (by kernel_rfl) (fun _ _ _ h => h) (Or.inl ⟨by rfl, ?_⟩) ?_ ?_
          rotate_left
          ·
           intro w'
           go_simp
           with_reducible rfl
          rotate_left
          ·
           simp only [Act.put, q18I, q180, q181, i64_w, i32_w]
           rfl
          refine take_ (i:=11) (N:=some 78) (v:=?_) (a':=?_) #[true,true,true,true,true,true,true,true,true,true,true,true,false,false,false,false] rfl rfl (by kernel_rfl) (fun _ _ _ h => h) (Or.inl ⟨by rfl, ?_⟩) hHeld ?_ ?_
          rotate_left
          ·
           rintro w' ⟨s0, s1⟩
           go_simp
           with_reducible rfl
          rotate_left
          ·
           simp only [Act.put, q18I, q180, q181, i64_w, i32_w]
           rfl
          refine pure_ (i:=12) (N:=some 79) (v:=?_) (a':=?_) #[true,true,true,true,true,true,true,true,true,true,true,true,true,false,false,false] rfl rfl (by kernel_rfl) (fun _ _ _ h => h) (Or.inl ⟨by rfl, ?_⟩) ?_ ?_
          rotate_left
          ·
           intro w'
           go_simp
           with_reducible rfl
          rotate_left
          ·
           simp only [Act.put, q18I, q180, q181, i64_w, i32_w]
           rfl
          refine pure_ (i:=13) (N:=some 80) (v:=?_) (a':=?_) #[true,true,true,true,true,true,true,true,true,true,true,true,true,true,false,false] rfl rfl (by kernel_rfl) (fun _ _ _ h => h) (Or.inl ⟨by rfl, ?_⟩) ?_ ?_
          rotate_left
          ·
           intro w'
           go_simp
           with_reducible rfl
          rotate_left
          ·
           simp only [Act.put, q18I, q180, q181, i64_w, i32_w]
           rfl
          refine pure_ (i:=14) (N:=some 81) (v:=?_) (a':=?_) #[true,true,true,true,true,true,true,true,true,true,true,true,true,true,true,false] rfl rfl (by kernel_rfl) (fun _ _ _ h => h) (Or.inl ⟨by rfl, ?_⟩) ?_ ?_
          rotate_left
          ·
           intro w'
           go_simp
           with_reducible rfl
          rotate_left
          ·
           simp only [Act.put, q18I, q180, q181, i64_w, i32_w]
           rfl
          refine pure_ (i:=15) (N:=some 11) (v:=?_) (a':=?_) #[true,true,true,true,true,true,true,true,true,true,true,true,true,true,true,true] rfl rfl (by kernel_rfl) (fun _ _ _ h => h) (Or.inl ⟨by rfl, ?_⟩) ?_ ?_
          rotate_left
          ·
           intro w'
           go_simp
           with_reducible rfl
          rotate_left
          ·
           simp only [Act.put, q18I, q180, q181, i64_w, i32_w]
           rfl
          refine done_ (by kernel_rfl) ?_
          clear y0_ y1_ hHeld
          have hwn : IntKind.i64.wrap (a + nn) = a + nn := by rw [i64_w]; unfold wrap64; omega
          have hwn2 : wrap64 (a + nn) = a + nn := by unfold wrap64; omega
          by_cases d4 : nn < 4
          ·
           have t4 := decide_eq_true d4
           have hnone := q18a (show pkOpen b bad = none by rw [HPK2.out, ← HU2.out, if_pos (Or.inl d4)]; rfl)
           have hsy := HPD.out.r
           have hsb := HPD.out.b
           have sy0 := hsy
           have sb0 := hsb
           obtain ⟨Q1, hQ1⟩ : ∃ W, wD.setCell ⟨w.heap.size, 0, none⟩ (.int .i64 0) = W := ⟨_, rfl⟩
           have sq0 : wD.cell? ⟨w.heap.size, 0, none⟩ = some (.int .i64 0) := (q18c sy0 0).trans rfl
           have sk0 := q18F sy0 0
           have sy1 := blk_put sy0 0 (.int .i64 0) rfl
           have sb1 := sb0.setCell (Nat.le_refl w.heap.size) (p := ⟨w.heap.size, 0, none⟩) (.int .i64 0)
           rw [hQ1] at sy1 sb1
           obtain ⟨Q2, hQ2⟩ : ∃ W, Q1.setCell ⟨w.heap.size, 1, none⟩ (.int .i64 0) = W := ⟨_, rfl⟩
           have sq1 : Q1.cell? ⟨w.heap.size, 1, none⟩ = some (.int .i64 0) := (q18c sy1 1).trans rfl
           have sk1 := q18F sy1 1
           have sy2 := blk_put sy1 1 (.int .i64 0) rfl
           have sb2 := sb1.setCell (Nat.le_refl w.heap.size) (p := ⟨w.heap.size, 1, none⟩) (.int .i64 0)
           rw [hQ2] at sy2 sb2
           obtain ⟨Q3, hQ3⟩ : ∃ W, Q2.setCell ⟨w.heap.size, 2, none⟩ (.slice none 0 0) = W := ⟨_, rfl⟩
           have sq2 : Q2.cell? ⟨w.heap.size, 2, none⟩ = some (.slice none 0 0) := (q18c sy2 2).trans rfl
           have sk2 := q18F sy2 2
           have sy3 := blk_put sy2 2 (.slice none 0 0) rfl
           have sb3 := sb2.setCell (Nat.le_refl w.heap.size) (p := ⟨w.heap.size, 2, none⟩) (.slice none 0 0)
           rw [hQ3] at sy3 sb3
           clear sy0 sy1 sy2 sb0 sb1 sb2
           replace sy3 := q18a sy3
           replace sb3 := q18a sb3
           clear hsy hsb d4 HU2 HO2
           go_wp2
           have r0_ : Q3.cell? ⟨w.heap.size, 0, none⟩ = some (.int .i64 0) := (q18c sy3.out 0).trans rfl
           have r1_ : Q3.cell? ⟨w.heap.size, 1, none⟩ = some (.int .i64 0) := (q18c sy3.out 1).trans rfl
           have r2_ : Q3.cell? ⟨w.heap.size, 2, none⟩ = some (.slice none 0 0) := (q18c sy3.out 2).trans rfl
           refine bodyPost_ret (v := .tuple #[.agg #[.int .i64 0, .int .i64 0, .slice none 0 0], .bool false]) (by simp [results, Try.results10, go_sem, r0_, r1_, r2_, hu37]) rfl ?_
           exact ⟨(fun s_ l_ h_ => by rw [hnone.out] at h_; cases h_), fun _ => ⟨rfl, sb3.out⟩⟩
          ·
           have t4 := decide_eq_false d4
           have HD4 := q18a d4
           clear d4
           go_wp2
           refine (HSIZE.out _ HPD.out.b).mono ?_
           rintro e w9 ⟨rfl, hb9⟩
           have HP9 := q18a (HPD.out.below hb9)
           clear hb9 HPD
           by_cases d5 : (b.length : Int) < a + nn
           ·
            have t5 := decide_eq_true d5
            have hnone := q18a (show pkOpen b bad = none by rw [HPK2.out, ← HU2.out, if_pos (Or.inr (by omega))]; rfl)
            have hsy := HP9.out.r
            have hsb := HP9.out.b
            have sy0 := hsy
            have sb0 := hsb
            obtain ⟨Q1, hQ1⟩ : ∃ W, w9.setCell ⟨w.heap.size, 0, none⟩ (.int .i64 0) = W := ⟨_, rfl⟩
            have sq0 : w9.cell? ⟨w.heap.size, 0, none⟩ = some (.int .i64 0) := (q18c sy0 0).trans rfl
            have sk0 := q18F sy0 0
            have sy1 := blk_put sy0 0 (.int .i64 0) rfl
            have sb1 := sb0.setCell (Nat.le_refl w.heap.size) (p := ⟨w.heap.size, 0, none⟩) (.int .i64 0)
            rw [hQ1] at sy1 sb1
            obtain ⟨Q2, hQ2⟩ : ∃ W, Q1.setCell ⟨w.heap.size, 1, none⟩ (.int .i64 0) = W := ⟨_, rfl⟩
            have sq1 : Q1.cell? ⟨w.heap.size, 1, none⟩ = some (.int .i64 0) := (q18c sy1 1).trans rfl
            have sk1 := q18F sy1 1
            have sy2 := blk_put sy1 1 (.int .i64 0) rfl
            have sb2 := sb1.setCell (Nat.le_refl w.heap.size) (p := ⟨w.heap.size, 1, none⟩) (.int .i64 0)
            rw [hQ2] at sy2 sb2
            obtain ⟨Q3, hQ3⟩ : ∃ W, Q2.setCell ⟨w.heap.size, 2, none⟩ (.slice none 0 0) = W := ⟨_, rfl⟩
            have sq2 : Q2.cell? ⟨w.heap.size, 2, none⟩ = some (.slice none 0 0) := (q18c sy2 2).trans rfl
            have sk2 := q18F sy2 2
            have sy3 := blk_put sy2 2 (.slice none 0 0) rfl
            have sb3 := sb2.setCell (Nat.le_refl w.heap.size) (p := ⟨w.heap.size, 2, none⟩) (.slice none 0 0)
            rw [hQ3] at sy3 sb3
            clear sy0 sy1 sy2 sb0 sb1 sb2
            replace sy3 := q18a sy3
            replace sb3 := q18a sb3
            clear hsy hsb d5 HU2 HO2
            go_wp2
            have r0_ : Q3.cell? ⟨w.heap.size, 0, none⟩ = some (.int .i64 0) := (q18c sy3.out 0).trans rfl
            have r1_ : Q3.cell? ⟨w.heap.size, 1, none⟩ = some (.int .i64 0) := (q18c sy3.out 1).trans rfl
            have r2_ : Q3.cell? ⟨w.heap.size, 2, none⟩ = some (.slice none 0 0) := (q18c sy3.out 2).trans rfl
            refine bodyPost_ret (v := .tuple #[.agg #[.int .i64 0, .int .i64 0, .slice none 0 0], .bool false]) (by simp [results, Try.results10, go_sem, r0_, r1_, r2_, hu37]) rfl ?_
            exact ⟨(fun s_ l_ h_ => by rw [hnone.out] at h_; cases h_), fun _ => ⟨rfl, sb3.out⟩⟩
           ·
            have t5 := decide_eq_false d5
            have HU3 := q18a (show ((unitsOf (b.length : Int) (IX.drop (o + 1 + 1)) (a + nn)).map fun l => (L ++ [⟨a, nn⟩]) ++ l) = all by have h3 := HU2.out; have h4 := HD4.out; rw [if_neg (fun h => by rcases h with h | h <;> omega), Option.map_map] at h3; rw [← h3]; congr 1; funext l; simp)
            have HAB := q18a (show 0 ≤ a + nn ∧ a + nn ≤ 65536 by omega)
            have q2a : w9.cell? ⟨w4.heap.size, 2, none⟩ = some v := (q18c HP9.out.p 2).trans rfl
            clear d5 HU2
            go_wp2_with (first
             | ((with_reducible refine gate_builtin (b := .append) (xs := #[.tmp 94, .tmp 98]) rfl ?_); at_builtin; refine Kd.R_append k45 (w0 := w) w.heap.size rfl (.tmp 94) (.tmp 98) 23 45 (.agg #[.int .i64 0, .int .i64 0]) 16 rfl Try.underlying23 info45 rfl (by decide) (by decide) v L ⟨a, nn⟩ [.int .i64 a, .int .i64 nn] (fun _ => True) (fun _ => False) rfl rfl (k45_mkM _ _ _ ⟨a, nn⟩) (fun _ h => h.elim) (fun _ _ => trivial) HP9.out.u HP9.out.b HP9.out.b.size HRM.out ?_; intro v4 w10 HR10 HB10 hg10 hat10; obtain ⟨N4, g4, en4⟩ := Kd.R_slice HR10; rw [List.length_append, List.length_singleton] at en4; subst en4; have HP10 := q18a (HP9.out.app HB10 HR10 hg10); have q2 : w10.cell? ⟨w4.heap.size, 2, none⟩ = some v := (q18c HP10.out.p 2).trans rfl; have k2 := q18F HP10.out.p 2; have HP11 := q18a HP10.out.put; clear hg10 hat10 HR10 HB10 HP9))
            go_roundw
            case rel => exact ⟨i + 1, a + nn, L ++ [⟨a, nn⟩], .slice N4 (L.length + 1) g4, by omega, by go_num, by go_num, HAB.out.1, HAB.out.2, ⟨by rw [List.length_append, hLi.out]; rfl⟩, ⟨by rw [HO2.out]; exact HU3.out⟩, HP11⟩
            case measure => simp [intOf]; omega
         ·
          obtain rfl : U = i := by omega
          have t0 : decide ((U : Int) < (U : Int)) = false := decide_eq_false (by omega)
          have hu := HU.out
          rw [List.drop_of_length_le (by rw [HIXL.out]; exact Nat.le_refl _), unitsOf_nil, Option.map_some, List.append_nil] at hu
          obtain ⟨AO, cO, eO⟩ := Kd.R_slice HP.out.u
          subst eO
          have HPK3 := q18a (show pkOpen b bad = some (Z.toNat, L) by rw [HPK2.out, ← hu]; rfl)
          have l0_ : wr.cell? ⟨w4.heap.size, 0, none⟩ = some (.int .i64 Z) := (q18c HP.out.p 0).trans rfl
          have l1_ : wr.cell? ⟨w4.heap.size, 1, none⟩ = some (.int .i64 (16 + 2 * (U : Int))) := (q18c HP.out.p 1).trans rfl
          have l2_ : wr.cell? ⟨w4.heap.size, 2, none⟩ = some (.slice AO L.length cO) := (q18c HP.out.p 2).trans rfl
          have hsy := HP.out.r
          have hsb := HP.out.b
          have hsu := HP.out.u
          have sy0 := hsy
          have sb0 := hsb
          have su0 := hsu
          obtain ⟨Q1, hQ1⟩ : ∃ W, wr.setCell ⟨w.heap.size, 0, none⟩ (.int .i64 Z) = W := ⟨_, rfl⟩
          have sq0 : wr.cell? ⟨w.heap.size, 0, none⟩ = some (.int .i64 0) := (q18c sy0 0).trans rfl
          have sk0 := q18F sy0 0
          have sy1 := blk_put sy0 0 (.int .i64 Z) rfl
          have sb1 := sb0.setCell (Nat.le_refl w.heap.size) (p := ⟨w.heap.size, 0, none⟩) (.int .i64 Z)
          have su1 := Kd.R_mono (Kd.R_far (p := ⟨w.heap.size, 0, none⟩) (Kd.R_types su0 sy0 (by decide)) (fun x hx => hx.2) (.int .i64 Z)) (fun _ hx => hx.1)
          rw [hQ1] at sy1 sb1 su1
          obtain ⟨Q2, hQ2⟩ : ∃ W, Q1.setCell ⟨w.heap.size, 1, none⟩ (.int .i64 (16 + 2 * (U : Int))) = W := ⟨_, rfl⟩
          have sq1 : Q1.cell? ⟨w.heap.size, 1, none⟩ = some (.int .i64 0) := (q18c sy1 1).trans rfl
          have sk1 := q18F sy1 1
          have sy2 := blk_put sy1 1 (.int .i64 (16 + 2 * (U : Int))) rfl
          have sb2 := sb1.setCell (Nat.le_refl w.heap.size) (p := ⟨w.heap.size, 1, none⟩) (.int .i64 (16 + 2 * (U : Int)))
          have su2 := Kd.R_mono (Kd.R_far (p := ⟨w.heap.size, 1, none⟩) (Kd.R_types su1 sy1 (by decide)) (fun x hx => hx.2) (.int .i64 (16 + 2 * (U : Int)))) (fun _ hx => hx.1)
          rw [hQ2] at sy2 sb2 su2
          obtain ⟨Q3, hQ3⟩ : ∃ W, Q2.setCell ⟨w.heap.size, 2, none⟩ (.slice AO L.length cO) = W := ⟨_, rfl⟩
          have sq2 : Q2.cell? ⟨w.heap.size, 2, none⟩ = some (.slice none 0 0) := (q18c sy2 2).trans rfl
          have sk2 := q18F sy2 2
          have sy3 := blk_put sy2 2 (.slice AO L.length cO) rfl
          have sb3 := sb2.setCell (Nat.le_refl w.heap.size) (p := ⟨w.heap.size, 2, none⟩) (.slice AO L.length cO)
          have su3 := Kd.R_mono (Kd.R_far (p := ⟨w.heap.size, 2, none⟩) (Kd.R_types su2 sy2 (by decide)) (fun x hx => hx.2) (.slice AO L.length cO)) (fun _ hx => hx.1)
          rw [hQ3] at sy3 sb3 su3
          clear sy0 sy1 sy2 sb0 sb1 sb2 su0 su1 su2
          replace su3 := q18a su3
          replace sy3 := q18a sy3
          replace sb3 := q18a sb3
          clear hsy hsb hsu hu HU hlt
          go_wp2
          have r0_ : Q3.cell? ⟨w.heap.size, 0, none⟩ = some (.int .i64 Z) := (q18c sy3.out 0).trans rfl
          have r1_ : Q3.cell? ⟨w.heap.size, 1, none⟩ = some (.int .i64 (16 + 2 * (U : Int))) := (q18c sy3.out 1).trans rfl
          have r2_ : Q3.cell? ⟨w.heap.size, 2, none⟩ = some (.slice AO L.length cO) := (q18c sy3.out 2).trans rfl
          refine bodyPost_ret (v := .tuple #[.agg #[.int .i64 Z, .int .i64 (16 + 2 * (U : Int)), .slice AO L.length cO], .bool true]) (by simp [results, Try.results10, go_sem, r0_, r1_, r2_, hu37]) rfl ?_
          refine ⟨fun s_ l_ h_ => ?_, fun h_ => by rw [HPK3.out] at h_; cases h_⟩
          rw [HPK3.out] at h_
          obtain ⟨rfl, rfl⟩ := Prod.mk.inj (Option.some.inj h_)
          have hrd := Kd.R_reads' su3.out
          exact ⟨AO, cO, by rw [HZN.out, hLi.out], hrd.2.2, hrd.2.1, sb3.out⟩
       ·
        rw [if_neg (fun h2 => dc h2.2)] at hpk
        have hnone := q18a hpk
        have tc1 : (CR != q8) = true := bne_iff_ne.mpr (fun h2 => dc h2.symm)
        have tc2 : ¬ (CR = q8) := fun h2 => dc h2.symm
        clear hpk dc
        go_wp2
        have HBD := q18a (below_drew (Below.refl w5.heap.size w5))
        refine start_ (n := 10) (S := fun w' => True) (ds := []) #[false,false,false,false,false,false,false,false,false,false] (by kernel_rfl) rfl rfl trivial (fun hHeld => ?_)
        generalize w5.drew = wF at HBD hHeld ⊢
        refine pure_ (i:=0) (N:=some 46) (v:=?_) (a':=?_) #[true,false,false,false,false,false,false,false,false,false] rfl rfl (by kernel_rfl) (fun _ _ _ h => h) (Or.inl ⟨by rfl, ?_⟩) ?_ ?_
        rotate_left
        ·
         intro w'
         go_simp
         with_reducible rfl
        rotate_left
        ·
         simp only [Act.put, q18I, q180, q181, i64_w, i32_w]
         rfl
        refine pure_ (i:=1) (N:=some 47) (v:=?_) (a':=?_) #[true,true,false,false,false,false,false,false,false,false] rfl rfl (by kernel_rfl) (fun _ _ _ h => h) (Or.inl ⟨by rfl, ?_⟩) ?_ ?_
        rotate_left
        ·
         intro w'
         go_simp
         with_reducible rfl
        rotate_left
        ·
         simp only [Act.put, q18I, q180, q181, i64_w, i32_w]
         rfl
        refine pure_ (i:=2) (N:=some 48) (v:=?_) (a':=?_) #[true,true,true,false,false,false,false,false,false,false] rfl rfl (by kernel_rfl) (fun _ _ _ h => h) (Or.inl ⟨by rfl, ?_⟩) ?_ ?_
        rotate_left
        ·
         intro w'
         go_simp
         with_reducible rfl
        rotate_left
        ·
         simp only [Act.put, q18I, q180, q181, i64_w, i32_w]
         rfl
        refine pure_ (i:=3) (N:=some 49) (v:=?_) (a':=?_) #[true,true,true,true,false,false,false,false,false,false] rfl rfl (by kernel_rfl) (fun _ _ _ h => h) (Or.inl ⟨by rfl, ?_⟩) ?_ ?_
        rotate_left
        ·
         intro w'
         go_simp
         with_reducible rfl
        rotate_left
        ·
         simp only [Act.put, q18I, q180, q181, i64_w, i32_w]
         rfl
        refine pure_ (i:=5) (N:=some 51) (v:=?_) (a':=?_) #[true,true,true,true,false,true,false,false,false,false] rfl rfl (by kernel_rfl) (fun _ _ _ h => h) (Or.inl ⟨by rfl, ?_⟩) ?_ ?_
        rotate_left
        ·
         intro w'
         go_simp
         with_reducible rfl
        rotate_left
        ·
         simp only [Act.put, q18I, q180, q181, i64_w, i32_w]
         rfl
        refine pure_ (i:=6) (N:=some 52) (v:=?_) (a':=?_) #[true,true,true,true,false,true,true,false,false,false] rfl rfl (by kernel_rfl) (fun _ _ _ h => h) (Or.inl ⟨by rfl, ?_⟩) ?_ ?_
        rotate_left
        ·
         intro w'
         go_simp
         with_reducible rfl
        rotate_left
        ·
         simp only [Act.put, q18I, q180, q181, i64_w, i32_w]
         rfl
        refine one_ (i:=4) (N:=some 50) #[true,true,true,true,true,true,true,false,false,false] rfl rfl (by kernel_rfl) (by decide) (fun K hK => ?_)
        refine goes_ Try.func46 (by kernel_rfl) rfl #[.slice AX (2 * U) cX] (by rfl) rfl rfl (by simp only [q18T, q18M, q18L]; rfl) ?_
        with_reducible refine (check_at _ AX cX (2 * U) IX CR HIXL.out HIXB.out (Kd.C_below HXC.out HBD.out) HXK.out HCR.out).mono ?_
        rintro e w6 ⟨rfl, hd6⟩
        refine ⟨_, rfl, ?_⟩
        refine hK.out _ _ trivial (fun hHeld => ?_)
        clear hK K
        refine norm_ (a' := ?_) ?_ ?_
        rotate_left
        ·
         show Act.put _ (some 50) _ = _
         simp only [Act.put, q18I, q180, q181, i64_w, i32_w]
         rfl
        refine one_ (i:=7) (N:=some 53) #[true,true,true,true,true,true,true,true,false,false] rfl rfl (by kernel_rfl) (by decide) (fun K hK => ?_)
        refine goes_ Try.func45 (by kernel_rfl) rfl #[.string s8] (by rfl) rfl rfl (by simp only [q18T, q18M, q18L]; rfl) ?_
        with_reducible refine (wrackref1_Number.calls k8 s8 q8 _ HK8.out).mono ?_
        rintro e w7 ⟨rfl, hd7⟩
        refine ⟨_, rfl, ?_⟩
        refine hK.out _ _ trivial (fun hHeld => ?_)
        clear hK K
        refine norm_ (a' := ?_) ?_ ?_
        rotate_left
        ·
         show Act.put _ (some 53) _ = _
         simp only [Act.put, q18I, q180, q181, i64_w, i32_w]
         rfl
        refine pure_ (i:=8) (N:=some 54) (v:=?_) (a':=?_) #[true,true,true,true,true,true,true,true,true,false] rfl rfl (by kernel_rfl) (fun _ _ _ h => h) (Or.inl ⟨by rfl, ?_⟩) ?_ ?_
        rotate_left
        ·
         intro w'
         go_simp
         with_reducible rfl
        rotate_left
        ·
         simp only [Act.put, q18I, q180, q181, i64_w, i32_w]
         rfl
        refine pure_ (i:=9) (N:=some 55) (v:=?_) (a':=?_) #[true,true,true,true,true,true,true,true,true,true] rfl rfl (by kernel_rfl) (fun _ _ _ h => h) (Or.inl ⟨by rfl, ?_⟩) ?_ ?_
        rotate_left
        ·
         intro w'
         go_simp
         with_reducible rfl
        rotate_left
        ·
         simp only [Act.put, q18I, q180, q181, i64_w, i32_w]
         rfl
        refine done_ (by kernel_rfl) ?_
        have HP7 := q18a (HPO.out.below (q18S HBD.out (q18S hd6.below hd7.below)))
        clear hHeld HBD hd6 hd7 HPO HXC
        have hsy := HP7.out.r
        have hsb := HP7.out.b
        have sy0 := hsy
        have sb0 := hsb
        obtain ⟨Q1, hQ1⟩ : ∃ W, w7.setCell ⟨w.heap.size, 0, none⟩ (.int .i64 0) = W := ⟨_, rfl⟩
        have sq0 : w7.cell? ⟨w.heap.size, 0, none⟩ = some (.int .i64 0) := (q18c sy0 0).trans rfl
        have sk0 := q18F sy0 0
        have sy1 := blk_put sy0 0 (.int .i64 0) rfl
        have sb1 := sb0.setCell (Nat.le_refl w.heap.size) (p := ⟨w.heap.size, 0, none⟩) (.int .i64 0)
        rw [hQ1] at sy1 sb1
        obtain ⟨Q2, hQ2⟩ : ∃ W, Q1.setCell ⟨w.heap.size, 1, none⟩ (.int .i64 0) = W := ⟨_, rfl⟩
        have sq1 : Q1.cell? ⟨w.heap.size, 1, none⟩ = some (.int .i64 0) := (q18c sy1 1).trans rfl
        have sk1 := q18F sy1 1
        have sy2 := blk_put sy1 1 (.int .i64 0) rfl
        have sb2 := sb1.setCell (Nat.le_refl w.heap.size) (p := ⟨w.heap.size, 1, none⟩) (.int .i64 0)
        rw [hQ2] at sy2 sb2
        obtain ⟨Q3, hQ3⟩ : ∃ W, Q2.setCell ⟨w.heap.size, 2, none⟩ (.slice none 0 0) = W := ⟨_, rfl⟩
        have sq2 : Q2.cell? ⟨w.heap.size, 2, none⟩ = some (.slice none 0 0) := (q18c sy2 2).trans rfl
        have sk2 := q18F sy2 2
        have sy3 := blk_put sy2 2 (.slice none 0 0) rfl
        have sb3 := sb2.setCell (Nat.le_refl w.heap.size) (p := ⟨w.heap.size, 2, none⟩) (.slice none 0 0)
        rw [hQ3] at sy3 sb3
        clear sy0 sy1 sy2 sb0 sb1 sb2
        replace sy3 := q18a sy3
        replace sb3 := q18a sb3
        clear hsy hsb
        go_wp2
        have r0_ : Q3.cell? ⟨w.heap.size, 0, none⟩ = some (.int .i64 0) := (q18c sy3.out 0).trans rfl
        have r1_ : Q3.cell? ⟨w.heap.size, 1, none⟩ = some (.int .i64 0) := (q18c sy3.out 1).trans rfl
        have r2_ : Q3.cell? ⟨w.heap.size, 2, none⟩ = some (.slice none 0 0) := (q18c sy3.out 2).trans rfl
        refine bodyPost_ret (v := .tuple #[.agg #[.int .i64 0, .int .i64 0, .slice none 0 0], .bool false]) (by simp [results, Try.results10, go_sem, r0_, r1_, r2_, hu37]) rfl ?_
        exact ⟨(fun s_ l_ h_ => by rw [hnone.out] at h_; cases h_), fun _ => ⟨rfl, sb3.out⟩⟩
      ·
       have hnone := q18a (show pkOpen b bad = none by rw [HPK.out, if_neg (fun h2 => d2 h2.1)])
       have te1 : (E2 != 0) = true := bne_iff_ne.mpr d2
       have te2 : ¬ (E2 = 0) := d2
       have HB5 := q18a (q18S HBY.out hb5)
       have HR5 := q18a (blk_below HRY.out hb5)
       clear hb5 hv5 HBY HRY HPY d2 pz
       go_wp2
       have HBD := q18a (below_drew HB5.out)
       have HRD := q18a (blk_drew HR5.out)
       clear HB5 HR5
       refine start_ (n := 10) (S := fun w' => True) (ds := []) #[false,false,false,false,false,false,false,false,false,false] (by kernel_rfl) rfl rfl trivial (fun hHeld => ?_)
       generalize w5.drew = wF at HBD HRD hHeld ⊢
       refine pure_ (i:=0) (N:=some 46) (v:=?_) (a':=?_) #[true,false,false,false,false,false,false,false,false,false] rfl rfl (by kernel_rfl) (fun _ _ _ h => h) (Or.inl ⟨by rfl, ?_⟩) ?_ ?_
       rotate_left
       ·
        intro w'
        go_simp
        with_reducible rfl
       rotate_left
       ·
        simp only [Act.put, q18I, q180, q181, i64_w, i32_w]
        rfl
       refine pure_ (i:=1) (N:=some 47) (v:=?_) (a':=?_) #[true,true,false,false,false,false,false,false,false,false] rfl rfl (by kernel_rfl) (fun _ _ _ h => h) (Or.inl ⟨by rfl, ?_⟩) ?_ ?_
       rotate_left
       ·
        intro w'
        go_simp
        with_reducible rfl
       rotate_left
       ·
        simp only [Act.put, q18I, q180, q181, i64_w, i32_w]
        rfl
       refine pure_ (i:=2) (N:=some 48) (v:=?_) (a':=?_) #[true,true,true,false,false,false,false,false,false,false] rfl rfl (by kernel_rfl) (fun _ _ _ h => h) (Or.inl ⟨by rfl, ?_⟩) ?_ ?_
       rotate_left
       ·
        intro w'
        go_simp
        with_reducible rfl
       rotate_left
       ·
        simp only [Act.put, q18I, q180, q181, i64_w, i32_w]
        rfl
       refine pure_ (i:=3) (N:=some 49) (v := undef) (a' := ?_) #[true,true,true,true,false,false,false,false,false,false] rfl rfl (by kernel_rfl) (fun _ _ _ h => h) (Or.inr ⟨by rfl, rfl⟩) ?_ ?_
       rotate_left
       ·
        simp only [Act.put, q18I, q180, q181, i64_w, i32_w]
        rfl
       refine pure_ (i:=4) (N:=some 50) (v := undef) (a' := ?_) #[true,true,true,true,true,false,false,false,false,false] rfl rfl (by kernel_rfl) (fun _ _ _ h => h) (Or.inr ⟨by rfl, rfl⟩) ?_ ?_
       rotate_left
       ·
        simp only [Act.put, q18I, q180, q181, i64_w, i32_w]
        rfl
       refine pure_ (i:=5) (N:=some 51) (v := undef) (a' := ?_) #[true,true,true,true,true,true,false,false,false,false] rfl rfl (by kernel_rfl) (fun _ _ _ h => h) (Or.inr ⟨by rfl, rfl⟩) ?_ ?_
       rotate_left
       ·
        simp only [Act.put, q18I, q180, q181, i64_w, i32_w]
        rfl
       refine pure_ (i:=6) (N:=some 52) (v := undef) (a' := ?_) #[true,true,true,true,true,true,true,false,false,false] rfl rfl (by kernel_rfl) (fun _ _ _ h => h) (Or.inr ⟨by rfl, rfl⟩) ?_ ?_
       rotate_left
       ·
        simp only [Act.put, q18I, q180, q181, i64_w, i32_w]
        rfl
       refine pure_ (i:=7) (N:=some 53) (v := undef) (a' := ?_) #[true,true,true,true,true,true,true,true,false,false] rfl rfl (by kernel_rfl) (fun _ _ _ h => h) (Or.inr ⟨by rfl, rfl⟩) ?_ ?_
       rotate_left
       ·
        simp only [Act.put, q18I, q180, q181, i64_w, i32_w]
        rfl
       refine pure_ (i:=8) (N:=some 54) (v := undef) (a' := ?_) #[true,true,true,true,true,true,true,true,true,false] rfl rfl (by kernel_rfl) (fun _ _ _ h => h) (Or.inr ⟨by rfl, rfl⟩) ?_ ?_
       rotate_left
       ·
        simp only [Act.put, q18I, q180, q181, i64_w, i32_w]
        rfl
       refine pure_ (i:=9) (N:=some 55) (v:=?_) (a':=?_) #[true,true,true,true,true,true,true,true,true,true] rfl rfl (by kernel_rfl) (fun _ _ _ h => h) (Or.inl ⟨by rfl, ?_⟩) ?_ ?_
       rotate_left
       ·
        intro w'
        go_simp
        with_reducible rfl
       rotate_left
       ·
        simp only [Act.put, q18I, q180, q181, i64_w, i32_w]
        rfl
       refine done_ (by kernel_rfl) ?_
       clear hHeld
       have sy0 := HRD.out
       have sb0 := HBD.out
       obtain ⟨Q1, hQ1⟩ : ∃ W, wF.setCell ⟨w.heap.size, 0, none⟩ (.int .i64 0) = W := ⟨_, rfl⟩
       have sq0 : wF.cell? ⟨w.heap.size, 0, none⟩ = some (.int .i64 0) := (q18c sy0 0).trans rfl
       have sk0 := q18F sy0 0
       have sy1 := blk_put sy0 0 (.int .i64 0) rfl
       have sb1 := sb0.setCell (Nat.le_refl w.heap.size) (p := ⟨w.heap.size, 0, none⟩) (.int .i64 0)
       rw [hQ1] at sy1 sb1
       obtain ⟨Q2, hQ2⟩ : ∃ W, Q1.setCell ⟨w.heap.size, 1, none⟩ (.int .i64 0) = W := ⟨_, rfl⟩
       have sq1 : Q1.cell? ⟨w.heap.size, 1, none⟩ = some (.int .i64 0) := (q18c sy1 1).trans rfl
       have sk1 := q18F sy1 1
       have sy2 := blk_put sy1 1 (.int .i64 0) rfl
       have sb2 := sb1.setCell (Nat.le_refl w.heap.size) (p := ⟨w.heap.size, 1, none⟩) (.int .i64 0)
       rw [hQ2] at sy2 sb2
       obtain ⟨Q3, hQ3⟩ : ∃ W, Q2.setCell ⟨w.heap.size, 2, none⟩ (.slice none 0 0) = W := ⟨_, rfl⟩
       have sq2 : Q2.cell? ⟨w.heap.size, 2, none⟩ = some (.slice none 0 0) := (q18c sy2 2).trans rfl
       have sk2 := q18F sy2 2
       have sy3 := blk_put sy2 2 (.slice none 0 0) rfl
       have sb3 := sb2.setCell (Nat.le_refl w.heap.size) (p := ⟨w.heap.size, 2, none⟩) (.slice none 0 0)
       rw [hQ3] at sy3 sb3
       clear sy0 sy1 sy2 sb0 sb1 sb2
       replace sy3 := q18a sy3
       replace sb3 := q18a sb3
       go_wp2
       have r0_ : Q3.cell? ⟨w.heap.size, 0, none⟩ = some (.int .i64 0) := (q18c sy3.out 0).trans rfl
       have r1_ : Q3.cell? ⟨w.heap.size, 1, none⟩ = some (.int .i64 0) := (q18c sy3.out 1).trans rfl
       have r2_ : Q3.cell? ⟨w.heap.size, 2, none⟩ = some (.slice none 0 0) := (q18c sy3.out 2).trans rfl
       refine bodyPost_ret (v := .tuple #[.agg #[.int .i64 0, .int .i64 0, .slice none 0 0], .bool false]) (by simp [results, Try.results10, go_sem, r0_, r1_, r2_, hu37]) rfl ?_
       exact ⟨(fun s_ l_ h_ => by rw [hnone.out] at h_; cases h_), fun _ => ⟨rfl, sb3.out⟩⟩
   ·
    rw [if_neg (fun h => dz h.2)] at hpk
    have hnone := q18a hpk
    have tz : decide ((65536 : Int) < Z) = true := decide_eq_true (by omega)
    clear h hget hH hhs hpre hb hn hz4 hpk d12 hq0 hl12 hZ hq8 hz0 hkz hk8 hs12 hsZ hs8 hsz hrow hHl hHB hh12 hhz hh8 hl16 dz e1 d4
    go_enter Try.func10, Try.ntmps10
    go_wp2_with (first
     | (go_at_call 42; refine (HGET.out _ HB0.out).mono ?_; rintro e w1 ⟨rfl, hb1⟩; have HB1 := q18a (q18S HB0.out hb1); have HR1 := q18a (blk_below HR0.out hb1); clear hb1 HB0 HR0))
    have HBD := q18a (below_drew HB1.out)
    have HRD := q18a (blk_drew HR1.out)
    clear HB1 HR1
    refine start_ (n := 9) (S := fun w' => True) (ds := []) #[false,false,false,false,false,false,false,false,false] (by kernel_rfl) rfl rfl trivial (fun hHeld => ?_)
    generalize w1.drew = wD at HBD HRD hHeld ⊢
    refine pure_ (i:=0) (N:=some 14) (v:=?_) (a':=?_) #[true,false,false,false,false,false,false,false,false] rfl rfl (by kernel_rfl) (fun _ _ _ h => h) (Or.inl ⟨by rfl, ?_⟩) ?_ ?_
    rotate_left
    ·
     intro w'
     go_simp
     with_reducible rfl
    rotate_left
    ·
     simp only [Act.put, q18I, q180, q181, i64_w, i32_w]
     rfl
    refine one_ (i:=1) (N:=some 15) #[true,true,false,false,false,false,false,false,false] rfl rfl (by kernel_rfl) (by decide) (fun K hK => ?_)
    refine goes_ Try.func43 (by kernel_rfl) rfl #[.string hs, .string ⟨#[112, 97, 99, 107]⟩] (by rfl) rfl rfl (by simp only [q18T, q18M, q18L]; rfl) ?_
    with_reducible refine (strings_HasPrefix.calls hs _ true _ HPRE.out).mono ?_
    rintro e w2 ⟨rfl, hd2⟩
    refine ⟨_, rfl, ?_⟩
    refine hK.out _ _ trivial (fun hHeld => ?_)
    clear hK K
    refine norm_ (a' := ?_) ?_ ?_
    rotate_left
    ·
     show Act.put _ (some 15) _ = _
     simp only [Act.put, q18I, q180, q181, i64_w, i32_w]
     rfl
    refine pure_ (i:=2) (N:=some 16) (v:=?_) (a':=?_) #[true,true,true,false,false,false,false,false,false] rfl rfl (by kernel_rfl) (fun _ _ _ h => h) (Or.inl ⟨by rfl, ?_⟩) ?_ ?_
    rotate_left
    ·
     intro w'
     go_simp
     with_reducible rfl
    rotate_left
    ·
     simp only [Act.put, q18I, q180, q181, i64_w, i32_w]
     rfl
    refine pure_ (i:=3) (N:=some 17) (v:=?_) (a':=?_) #[true,true,true,true,false,false,false,false,false] rfl rfl (by kernel_rfl) (fun _ _ _ h => h) (Or.inl ⟨by rfl, ?_⟩) ?_ ?_
    rotate_left
    ·
     intro w'
     go_simp
     with_reducible rfl
    rotate_left
    ·
     simp only [Act.put, q18I, q180, q181, i64_w, i32_w]
     rfl
    refine pure_ (i:=4) (N:=some 18) (v:=?_) (a':=?_) #[true,true,true,true,true,false,false,false,false] rfl rfl (by kernel_rfl) (fun _ _ _ h => h) (Or.inl ⟨by rfl, ?_⟩) ?_ ?_
    rotate_left
    ·
     intro w'
     go_simp
     with_reducible rfl
    rotate_left
    ·
     simp only [Act.put, q18I, q180, q181, i64_w, i32_w]
     rfl
    refine pure_ (i:=5) (N:=some 19) (v:=?_) (a':=?_) #[true,true,true,true,true,true,false,false,false] rfl rfl (by kernel_rfl) (fun _ _ _ h => h) (Or.inl ⟨by rfl, ?_⟩) ?_ ?_
    rotate_left
    ·
     intro w'
     go_simp
     with_reducible rfl
    rotate_left
    ·
     simp only [Act.put, q18I, q180, q181, i64_w, i32_w]
     rfl
    refine one_ (i:=6) (N:=some 20) #[true,true,true,true,true,true,true,false,false] rfl rfl (by kernel_rfl) (by decide) (fun K hK => ?_)
    refine goes_ Try.func44 (by kernel_rfl) rfl #[.string ⟨#[]⟩, .int .i64 4] (by rfl) rfl rfl (by simp only [q18T, q18M, q18L]; rfl) ?_
    with_reducible refine (wrackref1_Filled.calls _ _ _ _ HFIL.out).mono ?_
    rintro e w3 ⟨rfl, hb3⟩
    refine ⟨_, rfl, ?_⟩
    refine hK.out _ _ trivial (fun hHeld => ?_)
    clear hK K
    refine norm_ (a' := ?_) ?_ ?_
    rotate_left
    ·
     show Act.put _ (some 20) _ = _
     simp only [Act.put, q18I, q180, q181, i64_w, i32_w]
     rfl
    refine pure_ (i:=7) (N:=some 21) (v:=?_) (a':=?_) #[true,true,true,true,true,true,true,true,false] rfl rfl (by kernel_rfl) (fun _ _ _ h => h) (Or.inl ⟨by rfl, ?_⟩) ?_ ?_
    rotate_left
    ·
     intro w'
     go_simp
     with_reducible rfl
    rotate_left
    ·
     simp only [Act.put, q18I, q180, q181, i64_w, i32_w]
     rfl
    refine pure_ (i:=8) (N:=some 22) (v:=?_) (a':=?_) #[true,true,true,true,true,true,true,true,true] rfl rfl (by kernel_rfl) (fun _ _ _ h => h) (Or.inl ⟨by rfl, ?_⟩) ?_ ?_
    rotate_left
    ·
     intro w'
     go_simp
     with_reducible rfl
    rotate_left
    ·
     simp only [Act.put, q18I, q180, q181, i64_w, i32_w]
     rfl
    refine done_ (by kernel_rfl) ?_
    have HB3 := q18a (q18S HBD.out (q18S hd2.below hb3))
    have HR3 := q18a (blk_below HRD.out (q18S hd2.below hb3))
    clear HBD HRD hd2 hb3 hHeld
    go_wp2_with (first
     | (go_at_call 45; refine (wrackref1_Number.calls kz sZ Z _ HKZ.out).mono ?_; rintro e w4 ⟨rfl, hd4⟩; have HB4 := q18a (q18S HB3.out hd4.below); have HR4 := q18a (blk_below HR3.out hd4.below); clear hd4 HB3 HR3; obtain ⟨P0, hP0⟩ : ∃ W, w4.alloc (.cells #[.int .i64 0, .int .i64 0, .slice none 0 0] 37) = W := ⟨_, rfl⟩; have py0 := blk_new w4 (.cells #[.int .i64 0, .int .i64 0, .slice none 0 0] 37); have ry0 := blk_below (HR4.out) (below_alloc (Below.refl w4.heap.size w4) (.cells #[.int .i64 0, .int .i64 0, .slice none 0 0] 37)); have by0 := q18S (HB4.out) (below_alloc (Below.refl w4.heap.size w4) (.cells #[.int .i64 0, .int .i64 0, .slice none 0 0] 37)); have hne_ : w.heap.size ≠ w4.heap.size := Nat.ne_of_lt (blk_lt (HR4.out)); have hle_ : w.heap.size ≤ w4.heap.size := (HB4.out).size; rw [hP0] at py0 ry0 by0; obtain ⟨P1, hP1⟩ : ∃ W, P0.setCell ⟨w4.heap.size, 0, none⟩ (.int .i64 Z) = W := ⟨_, rfl⟩; have pq0 : P0.cell? ⟨w4.heap.size, 0, none⟩ = some (.int .i64 0) := (q18c py0 0).trans rfl; have pk0 := q18F py0 0; have py1 := blk_put py0 0 (.int .i64 Z) rfl; have ry1 := blk_far ry0 (p := ⟨w4.heap.size, 0, none⟩) hne_ (.int .i64 Z); have by1 := by0.setCell hle_ (p := ⟨w4.heap.size, 0, none⟩) (.int .i64 Z); rw [hP1] at py1 ry1 by1; obtain ⟨P2, hP2⟩ : ∃ W, P1.setCell ⟨w4.heap.size, 1, none⟩ (.int .i64 0) = W := ⟨_, rfl⟩; have pq1 : P1.cell? ⟨w4.heap.size, 1, none⟩ = some (.int .i64 0) := (q18c py1 1).trans rfl; have pk1 := q18F py1 1; have py2 := blk_put py1 1 (.int .i64 0) rfl; have ry2 := blk_far ry1 (p := ⟨w4.heap.size, 1, none⟩) hne_ (.int .i64 0); have by2 := by1.setCell hle_ (p := ⟨w4.heap.size, 1, none⟩) (.int .i64 0); rw [hP2] at py2 ry2 by2; obtain ⟨P3, hP3⟩ : ∃ W, P2.setCell ⟨w4.heap.size, 2, none⟩ (.slice none 0 0) = W := ⟨_, rfl⟩; have pq2 : P2.cell? ⟨w4.heap.size, 2, none⟩ = some (.slice none 0 0) := (q18c py2 2).trans rfl; have pk2 := q18F py2 2; have py3 := blk_put py2 2 (.slice none 0 0) rfl; have ry3 := blk_far ry2 (p := ⟨w4.heap.size, 2, none⟩) hne_ (.slice none 0 0); have by3 := by2.setCell hle_ (p := ⟨w4.heap.size, 2, none⟩) (.slice none 0 0); rw [hP3] at py3 ry3 by3; have pz : P3.cell? ⟨w4.heap.size, 0, none⟩ = some (.int .i64 Z) := (q18c py3 0).trans rfl; have sy0 := ry3; have sb0 := by3; obtain ⟨Q1, hQ1⟩ : ∃ W, P3.setCell ⟨w.heap.size, 0, none⟩ (.int .i64 0) = W := ⟨_, rfl⟩; have sq0 : P3.cell? ⟨w.heap.size, 0, none⟩ = some (.int .i64 0) := (q18c sy0 0).trans rfl; have sk0 := q18F sy0 0; have sy1 := blk_put sy0 0 (.int .i64 0) rfl; have sb1 := sb0.setCell (Nat.le_refl w.heap.size) (p := ⟨w.heap.size, 0, none⟩) (.int .i64 0); rw [hQ1] at sy1 sb1; obtain ⟨Q2, hQ2⟩ : ∃ W, Q1.setCell ⟨w.heap.size, 1, none⟩ (.int .i64 0) = W := ⟨_, rfl⟩; have sq1 : Q1.cell? ⟨w.heap.size, 1, none⟩ = some (.int .i64 0) := (q18c sy1 1).trans rfl; have sk1 := q18F sy1 1; have sy2 := blk_put sy1 1 (.int .i64 0) rfl; have sb2 := sb1.setCell (Nat.le_refl w.heap.size) (p := ⟨w.heap.size, 1, none⟩) (.int .i64 0); rw [hQ2] at sy2 sb2; obtain ⟨Q3, hQ3⟩ : ∃ W, Q2.setCell ⟨w.heap.size, 2, none⟩ (.slice none 0 0) = W := ⟨_, rfl⟩; have sq2 : Q2.cell? ⟨w.heap.size, 2, none⟩ = some (.slice none 0 0) := (q18c sy2 2).trans rfl; have sk2 := q18F sy2 2; have sy3 := blk_put sy2 2 (.slice none 0 0) rfl; have sb3 := sb2.setCell (Nat.le_refl w.heap.size) (p := ⟨w.heap.size, 2, none⟩) (.slice none 0 0); rw [hQ3] at sy3 sb3; clear py0 py1 py2 ry0 ry1 ry2 ry3 hne_ hle_ by0 by1 by2 by3 sy0 sy1 sy2 sb0 sb1 sb2; replace sy3 := q18a sy3; replace sb3 := q18a sb3; replace py3 := q18a py3))
    have r0_ : Q3.cell? ⟨w.heap.size, 0, none⟩ = some (.int .i64 0) := (q18c sy3.out 0).trans rfl
    have r1_ : Q3.cell? ⟨w.heap.size, 1, none⟩ = some (.int .i64 0) := (q18c sy3.out 1).trans rfl
    have r2_ : Q3.cell? ⟨w.heap.size, 2, none⟩ = some (.slice none 0 0) := (q18c sy3.out 2).trans rfl
    refine bodyPost_ret (v := .tuple #[.agg #[.int .i64 0, .int .i64 0, .slice none 0 0], .bool false]) (by simp [results, Try.results10, go_sem, r0_, r1_, r2_, hu37]) rfl ?_
    exact ⟨(fun s_ l_ h_ => by rw [hnone.out] at h_; cases h_), fun _ => ⟨rfl, sb3.out⟩⟩
  ·
   rw [if_neg (fun h => d12 h.1)] at hpk
   have hnone := q18a hpk
   have tn1 : ¬ (s12.toList = z4.toList) := fun h2 => d12 (hq0.2 (by_inj _ _ (b_dr hHB 12) (fun y hy => by simp [List.mem_replicate] at hy; omega) (by
    rw [← Go.Lib.strOfNums_toList, ← hs12, h2, hz4, Go.Lib.strOfNums_toList]; rfl)))
   have tn2 : decide (s12.toList = z4.toList) = false := decide_eq_false tn1
   have tn3 : (s12.toList == z4.toList) = false := beq_eq_false_iff_ne.2 tn1
   clear h hget hH hhs hpre hb hn hz4 hpk d12 hq0 hl12 hZ hq8 hz0 hkz hk8 hs12 hsZ hs8 hsz hrow hHl hHB hh12 hhz hh8 hl16 e1 d4
   go_enter Try.func10, Try.ntmps10
   go_wp2_with (first
    | (go_at_call 42; refine (HGET.out _ HB0.out).mono ?_; rintro e w1 ⟨rfl, hb1⟩; have HB1 := q18a (q18S HB0.out hb1); have HR1 := q18a (blk_below HR0.out hb1); clear hb1 HB0 HR0))
   have HBD := q18a (below_drew HB1.out)
   have HRD := q18a (blk_drew HR1.out)
   clear HB1 HR1
   refine start_ (n := 9) (S := fun w' => True) (ds := []) #[false,false,false,false,false,false,false,false,false] (by kernel_rfl) rfl rfl trivial (fun hHeld => ?_)
   generalize w1.drew = wD at HBD HRD hHeld ⊢
   refine pure_ (i:=0) (N:=some 14) (v:=?_) (a':=?_) #[true,false,false,false,false,false,false,false,false] rfl rfl (by kernel_rfl) (fun _ _ _ h => h) (Or.inl ⟨by rfl, ?_⟩) ?_ ?_
   rotate_left
   ·
    intro w'
    go_simp
    with_reducible rfl
   rotate_left
   ·
    simp only [Act.put, q18I, q180, q181, i64_w, i32_w]
    rfl
   refine one_ (i:=1) (N:=some 15) #[true,true,false,false,false,false,false,false,false] rfl rfl (by kernel_rfl) (by decide) (fun K hK => ?_)
   refine goes_ Try.func43 (by kernel_rfl) rfl #[.string hs, .string ⟨#[112, 97, 99, 107]⟩] (by rfl) rfl rfl (by simp only [q18T, q18M, q18L]; rfl) ?_
   with_reducible refine (strings_HasPrefix.calls hs _ true _ HPRE.out).mono ?_
   rintro e w2 ⟨rfl, hd2⟩
   refine ⟨_, rfl, ?_⟩
   refine hK.out _ _ trivial (fun hHeld => ?_)
   clear hK K
   refine norm_ (a' := ?_) ?_ ?_
   rotate_left
   ·
    show Act.put _ (some 15) _ = _
    simp only [Act.put, q18I, q180, q181, i64_w, i32_w]
    rfl
   refine pure_ (i:=2) (N:=some 16) (v:=?_) (a':=?_) #[true,true,true,false,false,false,false,false,false] rfl rfl (by kernel_rfl) (fun _ _ _ h => h) (Or.inl ⟨by rfl, ?_⟩) ?_ ?_
   rotate_left
   ·
    intro w'
    go_simp
    with_reducible rfl
   rotate_left
   ·
    simp only [Act.put, q18I, q180, q181, i64_w, i32_w]
    rfl
   refine pure_ (i:=3) (N:=some 17) (v:=?_) (a':=?_) #[true,true,true,true,false,false,false,false,false] rfl rfl (by kernel_rfl) (fun _ _ _ h => h) (Or.inl ⟨by rfl, ?_⟩) ?_ ?_
   rotate_left
   ·
    intro w'
    go_simp
    with_reducible rfl
   rotate_left
   ·
    simp only [Act.put, q18I, q180, q181, i64_w, i32_w]
    rfl
   refine pure_ (i:=4) (N:=some 18) (v:=?_) (a':=?_) #[true,true,true,true,true,false,false,false,false] rfl rfl (by kernel_rfl) (fun _ _ _ h => h) (Or.inl ⟨by rfl, ?_⟩) ?_ ?_
   rotate_left
   ·
    intro w'
    go_simp
    with_reducible rfl
   rotate_left
   ·
    simp only [Act.put, q18I, q180, q181, i64_w, i32_w]
    rfl
   refine pure_ (i:=5) (N:=some 19) (v:=?_) (a':=?_) #[true,true,true,true,true,true,false,false,false] rfl rfl (by kernel_rfl) (fun _ _ _ h => h) (Or.inl ⟨by rfl, ?_⟩) ?_ ?_
   rotate_left
   ·
    intro w'
    go_simp
    with_reducible rfl
   rotate_left
   ·
    simp only [Act.put, q18I, q180, q181, i64_w, i32_w]
    rfl
   refine one_ (i:=6) (N:=some 20) #[true,true,true,true,true,true,true,false,false] rfl rfl (by kernel_rfl) (by decide) (fun K hK => ?_)
   refine goes_ Try.func44 (by kernel_rfl) rfl #[.string ⟨#[]⟩, .int .i64 4] (by rfl) rfl rfl (by simp only [q18T, q18M, q18L]; rfl) ?_
   with_reducible refine (wrackref1_Filled.calls _ _ _ _ HFIL.out).mono ?_
   rintro e w3 ⟨rfl, hb3⟩
   refine ⟨_, rfl, ?_⟩
   refine hK.out _ _ trivial (fun hHeld => ?_)
   clear hK K
   refine norm_ (a' := ?_) ?_ ?_
   rotate_left
   ·
    show Act.put _ (some 20) _ = _
    simp only [Act.put, q18I, q180, q181, i64_w, i32_w]
    rfl
   refine pure_ (i:=7) (N:=some 21) (v:=?_) (a':=?_) #[true,true,true,true,true,true,true,true,false] rfl rfl (by kernel_rfl) (fun _ _ _ h => h) (Or.inl ⟨by rfl, ?_⟩) ?_ ?_
   rotate_left
   ·
    intro w'
    go_simp
    with_reducible rfl
   rotate_left
   ·
    simp only [Act.put, q18I, q180, q181, i64_w, i32_w]
    rfl
   refine pure_ (i:=8) (N:=some 22) (v:=?_) (a':=?_) #[true,true,true,true,true,true,true,true,true] rfl rfl (by kernel_rfl) (fun _ _ _ h => h) (Or.inl ⟨by rfl, ?_⟩) ?_ ?_
   rotate_left
   ·
    intro w'
    go_simp
    with_reducible rfl
   rotate_left
   ·
    simp only [Act.put, q18I, q180, q181, i64_w, i32_w]
    rfl
   refine done_ (by kernel_rfl) ?_
   have HB3 := q18a (q18S HBD.out (q18S hd2.below hb3))
   have HR3 := q18a (blk_below HRD.out (q18S hd2.below hb3))
   clear HBD HRD hd2 hb3 hHeld
   have sy0 := HR3.out
   have sq0 : (w3).cell? ⟨w.heap.size, 0, none⟩ = some (.int .i64 0) := (q18c sy0 0).trans rfl
   have sk0 := q18F sy0 0
   have sy1 := blk_put sy0 0 (.int .i64 0) rfl
   have sq1 : ((w3).setCell ⟨w.heap.size, 0, none⟩ (.int .i64 0)).cell? ⟨w.heap.size, 1, none⟩ = some (.int .i64 0) := (q18c sy1 1).trans rfl
   have sk1 := q18F sy1 1
   have sy2 := blk_put sy1 1 (.int .i64 0) rfl
   have sq2 : (((w3).setCell ⟨w.heap.size, 0, none⟩ (.int .i64 0)).setCell ⟨w.heap.size, 1, none⟩ (.int .i64 0)).cell? ⟨w.heap.size, 2, none⟩ = some (.slice none 0 0) := (q18c sy2 2).trans rfl
   have sk2 := q18F sy2 2
   have sy3 := blk_put sy2 2 (.slice none 0 0) rfl
   clear sy0 sy1 sy2
   replace sy3 := q18a sy3
   go_wp2
   have r0_ : ((((w3).setCell ⟨w.heap.size, 0, none⟩ (.int .i64 0)).setCell ⟨w.heap.size, 1, none⟩ (.int .i64 0)).setCell ⟨w.heap.size, 2, none⟩ (.slice none 0 0)).cell? ⟨w.heap.size, 0, none⟩ = some (.int .i64 0) := (q18c sy3.out 0).trans rfl
   have r1_ : ((((w3).setCell ⟨w.heap.size, 0, none⟩ (.int .i64 0)).setCell ⟨w.heap.size, 1, none⟩ (.int .i64 0)).setCell ⟨w.heap.size, 2, none⟩ (.slice none 0 0)).cell? ⟨w.heap.size, 1, none⟩ = some (.int .i64 0) := (q18c sy3.out 1).trans rfl
   have r2_ : ((((w3).setCell ⟨w.heap.size, 0, none⟩ (.int .i64 0)).setCell ⟨w.heap.size, 1, none⟩ (.int .i64 0)).setCell ⟨w.heap.size, 2, none⟩ (.slice none 0 0)).cell? ⟨w.heap.size, 2, none⟩ = some (.slice none 0 0) := (q18c sy3.out 2).trans rfl
   have HB9 := q18a (below_set (below_set (below_set HB3.out (Nat.le_refl w.heap.size) (j := 0) (v := .int .i64 0)) (Nat.le_refl w.heap.size) (j := 1) (v := .int .i64 0)) (Nat.le_refl w.heap.size) (j := 2) (v := .slice none 0 0))
   generalize (((w3).setCell ⟨w.heap.size, 0, none⟩ (.int .i64 0)).setCell ⟨w.heap.size, 1, none⟩ (.int .i64 0)).setCell ⟨w.heap.size, 2, none⟩ (.slice none 0 0) = w9 at r0_ r1_ r2_ HB9 ⊢
   clear sq0 sq1 sq2 sk0 sk1 sk2 sy3
   refine bodyPost_ret (v := .tuple #[.agg #[.int .i64 0, .int .i64 0, .slice none 0 0], .bool false]) (by simp [results, Try.results10, go_sem, r0_, r1_, r2_, hu37]) rfl ?_
   exact ⟨(fun s_ l_ h_ => by rw [hnone.out] at h_; cases h_), fun _ => ⟨rfl, HB9.out⟩⟩
 ·
  have hnone := q18a (show pkOpen b bad = none by unfold pkOpen; rw [if_neg (fun h => hp ⟨h.1, h.2.1⟩)])
  have hpre : strings_HasPrefix.f hs (⟨#[112, 97, 99, 107]⟩ : ByteArray) = some false := by
   by_cases e1 : readErr b.length bad 0 16 = 0
   ·
    have hrow : H = b.take 16 := by rw [hH]; unfold readRow; rw [if_pos e1]; simp
    have hl16 : 16 ≤ b.length := by
     by_cases hR : inR b.length 0 16
     · have := hR.2.2; omega
     · unfold readErr at e1; rw [if_neg hR] at e1; exact absurd e1 (by decide)
    rw [hhs, pre_val H (by rw [hrow]; exact b_tk hb 16) (by rw [hrow, List.length_take]; omega)]
    congr 1
    refine decide_eq_false (fun h2 => hp ⟨e1, ?_⟩)
    rw [hrow, List.take_take] at h2
    exact h2
   ·
    have hrow : H = [] := by rw [hH]; unfold readRow; rw [if_neg e1]
    rw [hhs, hrow]
    exact pre_nil
  have HPRE := q18a hpre
  clear h hget hp hH hhs hpre hb hn hz4
  go_enter Try.func10, Try.ntmps10
  go_wp2_with (first
   | (go_at_call 42; refine (HGET.out _ HB0.out).mono ?_; rintro e w1 ⟨rfl, hb1⟩; have HB1 := q18a (q18S HB0.out hb1); have HR1 := q18a (blk_below HR0.out hb1); clear hb1 HB0 HR0))
  have HBD := q18a (below_drew HB1.out)
  have HRD := q18a (blk_drew HR1.out)
  clear HB1 HR1
  refine start_ (n := 9) (S := fun w' => True) (ds := []) #[false,false,false,false,false,false,false,false,false] (by kernel_rfl) rfl rfl trivial (fun hHeld => ?_)
  generalize w1.drew = wD at HBD HRD hHeld ⊢
  refine pure_ (i:=0) (N:=some 14) (v:=?_) (a':=?_) #[true,false,false,false,false,false,false,false,false] rfl rfl (by kernel_rfl) (fun _ _ _ h => h) (Or.inl ⟨by rfl, ?_⟩) ?_ ?_
  rotate_left
  ·
   intro w'
   go_simp
   with_reducible rfl
  rotate_left
  ·
   simp only [Act.put, q18I, q180, q181, i64_w, i32_w]
   rfl
  refine one_ (i:=1) (N:=some 15) #[true,true,false,false,false,false,false,false,false] rfl rfl (by kernel_rfl) (by decide) (fun K hK => ?_)
  refine goes_ Try.func43 (by kernel_rfl) rfl #[.string hs, .string ⟨#[112, 97, 99, 107]⟩] (by rfl) rfl rfl (by simp only [q18T, q18M, q18L]; rfl) ?_
  with_reducible refine (strings_HasPrefix.calls hs _ false _ HPRE.out).mono ?_
  rintro e w2 ⟨rfl, hd2⟩
  refine ⟨_, rfl, ?_⟩
  refine hK.out _ _ trivial (fun hHeld => ?_)
  clear hK K
  refine norm_ (a' := ?_) ?_ ?_
  rotate_left
  ·
   show Act.put _ (some 15) _ = _
   simp only [Act.put, q18I, q180, q181, i64_w, i32_w]
   rfl
  refine pure_ (i:=2) (N:=some 16) (v:=?_) (a':=?_) #[true,true,true,false,false,false,false,false,false] rfl rfl (by kernel_rfl) (fun _ _ _ h => h) (Or.inl ⟨by rfl, ?_⟩) ?_ ?_
  rotate_left
  ·
   intro w'
   go_simp
   with_reducible rfl
  rotate_left
  ·
   simp only [Act.put, q18I, q180, q181, i64_w, i32_w]
   rfl
  refine pure_ (i:=3) (N:=some 17) (v:=?_) (a':=?_) #[true,true,true,true,false,false,false,false,false] rfl rfl (by kernel_rfl) (fun _ _ _ h => h) (Or.inl ⟨by rfl, ?_⟩) ?_ ?_
  rotate_left
  ·
   intro w'
   go_simp
   with_reducible rfl
  rotate_left
  ·
   simp only [Act.put, q18I, q180, q181, i64_w, i32_w]
   rfl
  refine pure_ (i:=4) (N:=some 18) (v := undef) (a' := ?_) #[true,true,true,true,true,false,false,false,false] rfl rfl (by kernel_rfl) (fun _ _ _ h => h) (Or.inr ⟨by rfl, rfl⟩) ?_ ?_
  rotate_left
  ·
   simp only [Act.put, q18I, q180, q181, i64_w, i32_w]
   rfl
  refine pure_ (i:=5) (N:=some 19) (v := undef) (a' := ?_) #[true,true,true,true,true,true,false,false,false] rfl rfl (by kernel_rfl) (fun _ _ _ h => h) (Or.inr ⟨by rfl, rfl⟩) ?_ ?_
  rotate_left
  ·
   simp only [Act.put, q18I, q180, q181, i64_w, i32_w]
   rfl
  refine pure_ (i:=6) (N:=some 20) (v := undef) (a' := ?_) #[true,true,true,true,true,true,true,false,false] rfl rfl (by kernel_rfl) (fun _ _ _ h => h) (Or.inr ⟨by rfl, rfl⟩) ?_ ?_
  rotate_left
  ·
   simp only [Act.put, q18I, q180, q181, i64_w, i32_w]
   rfl
  refine pure_ (i:=7) (N:=some 21) (v := undef) (a' := ?_) #[true,true,true,true,true,true,true,true,false] rfl rfl (by kernel_rfl) (fun _ _ _ h => h) (Or.inr ⟨by rfl, rfl⟩) ?_ ?_
  rotate_left
  ·
   simp only [Act.put, q18I, q180, q181, i64_w, i32_w]
   rfl
  refine pure_ (i:=8) (N:=some 22) (v:=?_) (a':=?_) #[true,true,true,true,true,true,true,true,true] rfl rfl (by kernel_rfl) (fun _ _ _ h => h) (Or.inl ⟨by rfl, ?_⟩) ?_ ?_
  rotate_left
  ·
   intro w'
   go_simp
   with_reducible rfl
  rotate_left
  ·
   simp only [Act.put, q18I, q180, q181, i64_w, i32_w]
   rfl
  refine done_ (by kernel_rfl) ?_
  have HB3 := q18a (q18S HBD.out hd2.below)
  have HR3 := q18a (blk_below HRD.out hd2.below)
  clear HBD HRD hd2 hHeld
  have sy0 := HR3.out
  have sq0 : (w2).cell? ⟨w.heap.size, 0, none⟩ = some (.int .i64 0) := (q18c sy0 0).trans rfl
  have sk0 := q18F sy0 0
  have sy1 := blk_put sy0 0 (.int .i64 0) rfl
  have sq1 : ((w2).setCell ⟨w.heap.size, 0, none⟩ (.int .i64 0)).cell? ⟨w.heap.size, 1, none⟩ = some (.int .i64 0) := (q18c sy1 1).trans rfl
  have sk1 := q18F sy1 1
  have sy2 := blk_put sy1 1 (.int .i64 0) rfl
  have sq2 : (((w2).setCell ⟨w.heap.size, 0, none⟩ (.int .i64 0)).setCell ⟨w.heap.size, 1, none⟩ (.int .i64 0)).cell? ⟨w.heap.size, 2, none⟩ = some (.slice none 0 0) := (q18c sy2 2).trans rfl
  have sk2 := q18F sy2 2
  have sy3 := blk_put sy2 2 (.slice none 0 0) rfl
  clear sy0 sy1 sy2
  replace sy3 := q18a sy3
  go_wp2
  have r0_ : ((((w2).setCell ⟨w.heap.size, 0, none⟩ (.int .i64 0)).setCell ⟨w.heap.size, 1, none⟩ (.int .i64 0)).setCell ⟨w.heap.size, 2, none⟩ (.slice none 0 0)).cell? ⟨w.heap.size, 0, none⟩ = some (.int .i64 0) := (q18c sy3.out 0).trans rfl
  have r1_ : ((((w2).setCell ⟨w.heap.size, 0, none⟩ (.int .i64 0)).setCell ⟨w.heap.size, 1, none⟩ (.int .i64 0)).setCell ⟨w.heap.size, 2, none⟩ (.slice none 0 0)).cell? ⟨w.heap.size, 1, none⟩ = some (.int .i64 0) := (q18c sy3.out 1).trans rfl
  have r2_ : ((((w2).setCell ⟨w.heap.size, 0, none⟩ (.int .i64 0)).setCell ⟨w.heap.size, 1, none⟩ (.int .i64 0)).setCell ⟨w.heap.size, 2, none⟩ (.slice none 0 0)).cell? ⟨w.heap.size, 2, none⟩ = some (.slice none 0 0) := (q18c sy3.out 2).trans rfl
  have HB9 := q18a (below_set (below_set (below_set HB3.out (Nat.le_refl w.heap.size) (j := 0) (v := .int .i64 0)) (Nat.le_refl w.heap.size) (j := 1) (v := .int .i64 0)) (Nat.le_refl w.heap.size) (j := 2) (v := .slice none 0 0))
  generalize (((w2).setCell ⟨w.heap.size, 0, none⟩ (.int .i64 0)).setCell ⟨w.heap.size, 1, none⟩ (.int .i64 0)).setCell ⟨w.heap.size, 2, none⟩ (.slice none 0 0) = w9 at r0_ r1_ r2_ HB9 ⊢
  clear sq0 sq1 sq2 sk0 sk1 sk2 sy3
  refine bodyPost_ret (v := .tuple #[.agg #[.int .i64 0, .int .i64 0, .slice none 0 0], .bool false]) (by simp [results, Try.results10, go_sem, r0_, r1_, r2_, hu37]) rfl ?_
  exact ⟨(fun s_ l_ h_ => by rw [hnone.out] at h_; cases h_), fun _ => ⟨rfl, HB9.out⟩⟩
end Go.Proofs.Ytgkjkhhppmnajaa.Pure
