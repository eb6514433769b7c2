/- Sealed layers: sealing. No condition. -/
import Derived.Test.YtagcaheopbmdiaaDoorYPureLockSealsLG
namespace Go.Proofs.YtagcaheopbmdiaaDoor.Lk
open Go Go.RowKit Go.Proofs.YtagcaheopbmdiaaDoor.QLockSeals Go.Proofs.YtagcaheopbmdiaaDoorW.PrintWords Go.Proofs.YtagcaheopbmdiaaDoorW.PrintLast Go.Proofs.YtagcaheopbmdiaaDoorW.PrintMore Go.Proofs.YtagcaheopbmdiaaDoor.SumPlain
set_option linter.unusedVariables false
set_option linter.unusedSimpArgs false
theorem q0zI : type_of% @List.setIfInBounds_toArray := @List.setIfInBounds_toArray
theorem q0z0 : type_of% @List.set_cons_zero := @List.set_cons_zero
theorem q0z1 : type_of% @List.set_cons_succ := @List.set_cons_succ
theorem q0za : type_of% @Aside0.mk := @Aside0.mk
/-- 'lock', 'key' -/
def wLock : ByteArray := ⟨#[108, 111, 99, 107]⟩
def wKey : ByteArray := ⟨#[107, 101, 121]⟩
def dgS (i : Nat) : ByteArray := ⟨#[UInt8.ofNat (48 + i)]⟩
def saltW (i : Nat) : ByteArray := (⟨#[115, 97, 108, 116]⟩ : ByteArray) ++ dgS i
theorem saltW_size (i : Nat) : (saltW i).size = 5 := by unfold saltW; rw [ByteArray.size_append]; rfl
/-- the head, with slots, and the sealed bytes -/
def headP (size nk : Nat) : List Int := putAt (putAt (putAt (List.replicate 128 0) 0 (bytesOf wLock)) 4 (leB (size : Int) 4)) 8 (leB (nk : Int) 4)
def sealSlot (names : List ByteArray) (seed inner : Int) (i : Nat) : List Int := slotP (mixedP (IntKind.u64.wrap seed) (saltW i)) inner (rdOf ByteArray.empty names (i : Int))
def sealH (z : List Int) (names : List ByteArray) (seed inner : Int) : Nat → List Int
 | 0 => z
 | i + 1 => putAt (sealH z names seed inner i) (16 + 24 * i) (sealSlot names seed inner i)
def sealI (seed : Int) : Int := mixedP (IntKind.u64.wrap seed) wKey
def sealP (b : List Int) (names : List ByteArray) (seed : Int) : List Int := putAt (sealH (headP b.length names.length) names seed (sealI seed) names.length ++ b) 128 (streamL (sealI seed) 0 b)
theorem headP_len (size nk : Nat) : (headP size nk).length = 128 := by
 unfold headP
 have h0 : (List.replicate 128 (0 : Int)).length = 128 := by rw [List.length_replicate]
 have h1 : (putAt (List.replicate 128 (0 : Int)) 0 (bytesOf wLock)).length = 128 := by rw [putAt_len (by rw [bytesOf_len, h0]; decide), h0]
 have h2 : (putAt (putAt (List.replicate 128 (0 : Int)) 0 (bytesOf wLock)) 4 (leB (size : Int) 4)).length = 128 := by rw [putAt_len (by rw [leB_len, h1]; decide), h1]
 rw [putAt_len (by rw [leB_len, h2]; decide), h2]
theorem sealH_len (z : List Int) (hz : z.length = 128) (names : List ByteArray) (seed inner : Int) : ∀ i, i ≤ 4 → (sealH z names seed inner i).length = 128
 | 0, _ => hz
 | i + 1, h => by
  have ih := sealH_len z hz names seed inner i (by omega)
  rw [sealH, putAt_len (by unfold sealSlot; rw [slotP_len, ih]; omega), ih]
theorem mixed_at (n : Int) (h : U64 n) (s : ByteArray) (hs : s.size ≤ 1000000) (w : World) : Calls Tryd.prog 9 #[.int .u64 n, .string s] w fun e w' => e = .returned (.int .u64 (mixedP n s)) ∧ Below w.heap.size w w' := by
 obtain ⟨k, hk⟩ := (mixed_ev n h s hs).rounds
 exact lock_mixed.calls k n s _ w hk
theorem slot_at (salt inner : Int) (h1 : U64 salt) (h2 : U64 inner) (key : ByteArray) (hk : key.size ≤ 1000000) (w : World) : Calls Tryd.prog 11 #[.int .u64 salt, .int .u64 inner, .string key] w fun e w' => ∃ v0, e = .returned v0 ∧ (Kd.int .u8).R 5 w' w.heap.size (fun _ => True) v0 (slotP salt inner key) ∧ Below w.heap.size w w' := by
 obtain ⟨k, hk⟩ := (slot_ev salt inner h1 h2 key hk).rounds
 exact lock_slot.calls k salt inner key _ w hk
theorem mid_cut {g n c lo hi : Nat} (h1 : lo < hi) (h2 : hi ≤ n) (hc : n ≤ c) (j k : Int) (hj : j = (lo : Int)) (hk : k = (hi : Int)) : ∀ W : World, (Instr.slice 22 (.slice (some ⟨g, 0, none⟩) n c) (some (.int .i64 j)) (some (.int .i64 k)) none).run Tryd.prog W = .ok (.slice (some ⟨g, lo, none⟩) (hi - lo) (c - lo)) W := fun W => by
 subst hj hk
 obtain ⟨i5, hi5, hy5⟩ := Option.map_eq_some_iff.1 info5
 simp only [Prod.mk.injEq] at hy5
 have h := cut_mid (P := Tryd.prog) 22 5 .i64 .i64 Tryd.underlying22 hi5 1 hy5.2.1 (some ⟨g, 0, none⟩) n c (lo : Int) (hi : Int) (by omega) (by omega) (by omega) hc W
 rw [Int.toNat_natCast, Int.toNat_natCast, if_neg (by omega)] at h
 rw [h, Option.map_some, Nat.mul_one]
 simp [Addr.add]
 try (intro h; omega)
theorem rune_at (i : Nat) (h : i < 4) : Utf8.encode (48 + (i : Int)) = dgS i := by
 match i, h with
 | 0, _ => decide +kernel
 | 1, _ => decide +kernel
 | 2, _ => decide +kernel
 | 3, _ => decide +kernel
theorem seal_o {i o : Nat} (h : o = 16 + 24 * i) (hi : i < 4) : o + (128 - o) ≤ 128 ∧ 24 ≤ 128 - o ∧ o < 128 := by omega
theorem seal_w1 {i : Nat} (h : i < 4) : IntKind.i64.wrap (24 * (i : Int)) = 24 * (i : Int) := by rw [i64_w]; unfold wrap64; omega
theorem seal_w2 {i o : Nat} (h : o = 16 + 24 * i) (hi : i < 4) : IntKind.i64.wrap (16 + 24 * (i : Int)) = (o : Int) := by rw [i64_w]; unfold wrap64; omega
theorem seal_w3 {i : Nat} (h : i < 4) : IntKind.i64.wrap (48 + (i : Int)) = 48 + (i : Int) := by rw [i64_w]; unfold wrap64; omega
theorem seal_w4 {i : Nat} (h : i < 4) : IntKind.i32.wrap (48 + (i : Int)) = 48 + (i : Int) := by rw [i32_w]; unfold wrap32; omega
theorem seal_w5 {i : Nat} (h : i < 4) : IntKind.i64.wrap ((i : Int) + 1) = (i : Int) + 1 := by rw [i64_w]; unfold wrap64; omega
def SealRel (w2 wr : World) (cap : Nat) (z : List Int) (names : List ByteArray) (seed inner : Int) (v : Value) : Prop := ∃ i : Nat, i ≤ names.length ∧ v = .int .i64 (i : Int) ∧ Aside0 ((Kd.int .u8).R 5 wr w2.heap.size (fun _ => True) (.slice (some ⟨w2.heap.size, 0, none⟩) 128 cap) (sealH z names seed inner i)) ∧ Aside0 (Below w2.heap.size w2 wr)
set_option maxHeartbeats 16000000 in
set_option maxRecDepth 100000 in
/-- a sealed layer -/
theorem seal_calls (A0 : Option Addr) (c0 : Nat) (b : List Int) (A1 : Option Addr) (c1 : Nat) (names : List ByteArray) (seed : Int) (w : World) (hC : Kd.C (Kd.int .u8) w A0 b.length b) (hc0 : b.length ≤ c0) (hN : Kd.C Kd.string w A1 names.length names) (hc1 : names.length ≤ c1) (kk : Nat) (hke : lock_keys.f kk names = some 0) (hn4 : names.length ≤ 4) (hns : ∀ i, i < names.length → (rdOf ByteArray.empty names (i : Int)).size ≤ 1000000) (hb0 : 0 < b.length) (hbl : b.length ≤ 65408) :
  Calls Tryd.prog 4 #[.slice A0 b.length c0, .slice A1 names.length c1, .int .i64 seed] w fun e w' => ∃ v0, e = .returned (.tuple #[v0, .int .i64 0]) ∧ (Kd.int .u8).R 5 w' w.heap.size (fun _ => True) v0 (sealP b names seed) ∧ Below w.heap.size w w' := by
 obtain ⟨inner, hinner⟩ : ∃ x, x = sealI seed := ⟨_, rfl⟩
 have HIN := q0za (show U64 inner by rw [hinner]; exact mixedP_u64 _ _)
 have HM1 := q0za (fun W => mixed_at _ (u64_wrap seed) wKey (by decide) W)
 unfold sealI at hinner
 rw [← hinner] at HM1
 unfold wKey at HM1
 obtain ⟨cap, hcap⟩ : ∃ c, c = 128 + b.length := ⟨_, rfl⟩
 have HC := q0za hC
 have HC0 := q0za hc0
 have HN := q0za hN
 have HC1 := q0za hc1
 have HKE := q0za hke
 have HN4 := q0za hn4
 have HNS := q0za hns
 have HB := q0za (Below.refl w.heap.size w)
 have HCAP := q0za hcap
 have HINN := q0za hinner
 have t1 : decide (65408 < (b.length : Int)) = false := decide_eq_false (by omega)
 have hwc : IntKind.i64.wrap (128 + (b.length : Int)) = 128 + (b.length : Int) := by rw [i64_w]; unfold wrap64; omega
 have HBL := q0za (And.intro hb0 hbl)
 have HCC := q0za (show 128 ≤ cap ∧ cap ≤ 1000000 by omega)
 have hmake := fun W => make_cap W 128 cap HCC.out.1 HCC.out.2
 rw [show ((cap : Nat) : Int) = 128 + (b.length : Int) by omega, show ((128 : Nat) : Int) = 128 from rfl] at hmake
 have HMAKE := q0za hmake
 obtain ⟨hd, hhd⟩ : ∃ h, h = headP b.length names.length := ⟨_, rfl⟩
 have HHD := q0za hhd
 have HHL := q0za (show hd.length = 128 by rw [hhd]; exact headP_len _ _)
 clear hC hc0 hN hc1 hke hn4 hns hb0 hbl hcap hinner hmake hhd
 go_enter Tryd.func4, Tryd.ntmps4
 go_wp2_with (first
  | (go_at_call 8; (with_reducible refine (lock_keys.calls kk A1 c1 names 0 _ HN.out HC1.out HKE.out).mono ?_); rintro e w1 ⟨rfl, hd1⟩; replace HB := q0za (below_step HB.out hd1); clear hd1)
  | (go_at_call 9; (with_reducible refine (HM1.out _).mono ?_); rintro e w2 ⟨rfl, hb2⟩; replace HB := q0za (below_step HB.out hb2); clear hb2; obtain ⟨wm, hmk, hRm, hBm⟩ := HMAKE.out w2; obtain ⟨wc, hcp_, hRc, hgc⟩ := copy_str (lo := 0) (k := 128) (c2 := cap) wLock hRm (Nat.le_refl _) (by decide); have hcp : (Builtin.copy_ #[22, 9] 3 #[.slice (some ⟨w2.heap.size, 0, none⟩) 128 cap, .string (⟨#[108, 111, 99, 107]⟩ : ByteArray)]).run Tryd.prog wm = .ok (goInt 4) wc := hcp_; have HRc := q0za hRc; have HBc := q0za (Below.grown hBm hgc hBm.size (fun k hk => by cases hk; exact Nat.le_refl _)); have hs4 : ∀ W : World, (Instr.slice 22 (.slice (some ⟨w2.heap.size, 0, none⟩) 128 cap) (some (.int .i64 4)) (some (.int .i64 8)) none).run Tryd.prog W = .ok (.slice (some ⟨w2.heap.size, 4, none⟩) 4 (cap - 4)) W := mid_cut (lo := 4) (hi := 8) (by decide) (by decide) HCC.out.1 4 8 rfl rfl; have hs8 : ∀ W : World, (Instr.slice 22 (.slice (some ⟨w2.heap.size, 0, none⟩) 128 cap) (some (.int .i64 8)) (some (.int .i64 12)) none).run Tryd.prog W = .ok (.slice (some ⟨w2.heap.size, 8, none⟩) 4 (cap - 8)) W := mid_cut (lo := 8) (hi := 12) (by decide) (by decide) HCC.out.1 8 12 rfl rfl; clear hcp_ hRm hBm hRc hgc)
  | (go_at_call 10; have hg_ := HRc.out; (with_reducible refine (put_at w2.heap.size 128 cap 4 4 (cap - 4) _ (b.length : Int) _ w2 _ hg_ HBc.out (by decide) (by decide) (by decide)).mono ?_); rintro e w4 ⟨rfl, hR4, _, hB4⟩; have HR4 := q0za hR4; have HB4 := q0za hB4; clear hg_ hR4 hB4 HRc HBc)
  | (go_at_call 10; have hg_ := HR4.out; (with_reducible refine (put_at w2.heap.size 128 cap 8 4 (cap - 8) _ (names.length : Int) _ w2 _ hg_ HB4.out (by decide) (by decide) (by decide)).mono ?_); rintro e w5 ⟨rfl, hR5, _, hB5⟩; have HR5 := q0za (show (Kd.int .u8).R 5 w5 w2.heap.size (fun _ => True) (.slice (some ⟨w2.heap.size, 0, none⟩) 128 cap) hd by rw [HHD.out]; exact hR5); have HB5 := q0za hB5; clear hg_ hR5 hB5 HR4 HB4 hs4 hs8))
 go_loopw [42] (fun v wr => SealRel w2 wr cap hd names seed inner v) (fun v _ => names.length - (intOf v).toNat)
 case atStart => exact ⟨0, Nat.zero_le _, rfl, HR5, HB5⟩
 case round =>
  clear HR5 HB5
  obtain ⟨i, hi, rfl, HR, HBr⟩ := hrel
  by_cases hlt : i < names.length
  ·
   have hlti : (i : Int) < (names.length : Int) := Int.ofNat_lt.2 hlt
   have hi4 : i < 4 := Nat.lt_of_lt_of_le hlt HN4.out
   have HLT := q0za hlt
   have HLT4 := q0za hi4
   obtain ⟨ad, eA, e0⟩ := Kd.at_string (Kd.C_below HN.out (below_step HB.out HBr.out)) (i : Int) (Int.natCast_nonneg _) hlti
   have HNM0 := q0za (HNS.out i hlt)
   have hsl : sealSlot names seed inner i = slotP (mixedP (IntKind.u64.wrap seed) (saltW i)) inner (rdOf ByteArray.empty names (i : Int)) := rfl
   obtain ⟨nm, hnm⟩ : ∃ n, n = rdOf ByteArray.empty names (i : Int) := ⟨_, rfl⟩
   rw [← hnm] at e0 HNM0 hsl
   have HNM := HNM0
   rw [Int.toNat_natCast] at e0
   obtain ⟨o, ho⟩ : ∃ o, o = 16 + 24 * i := ⟨_, rfl⟩
   have HOK := q0za (seal_o ho hi4)
   have hw1 := seal_w1 hi4
   have hw2 := seal_w2 ho hi4
   have hw3 := seal_w3 hi4
   have hw4 := seal_w4 hi4
   have hnx := seal_w5 hi4
   have hcr := rune_at i hi4
   have hsw : (⟨#[115, 97, 108, 116]⟩ : ByteArray) ++ dgS i = saltW i := rfl
   obtain ⟨dg, hdg⟩ : ∃ d, d = dgS i := ⟨_, rfl⟩
   rw [← hdg] at hcr hsw
   have hds : dg.size = 1 := by rw [hdg]; rfl
   have hszN : (9223372036854775807 < 4 + dg.size) = False := eq_false (by omega)
   have hszP : (4 + dg.size ≤ 9223372036854775807) = True := eq_true (by omega)
   have HSW := q0za (show ((⟨#[115, 97, 108, 116]⟩ : ByteArray) ++ dg).size ≤ 1000000 by rw [hsw, saltW_size]; decide)
   have HNX := q0za (show sealH hd names seed inner (i + 1) = putAt (sealH hd names seed inner i) o (slotP (mixedP (IntKind.u64.wrap seed) ((⟨#[115, 97, 108, 116]⟩ : ByteArray) ++ dg)) inner nm) by rw [hsw, sealH, hsl, ho])
   have hcutO := rk_sub (g := w2.heap.size) (n := 128) (c := cap) (o := o) HOK.out.2.2 HCC.out.1 (o : Int) rfl
   have HVD := q0za (Kd.R_below HR.out (below_drew (Below.refl wr.heap.size wr)))
   have HBD := q0za (below_step HBr.out (below_drew (Below.refl wr.heap.size wr)))
   subst eA
   clear hsl hnm hsw hdg hi4 hlt ho HR HBr HNM0
   go_wp2
   refine start_ (n := 17) (S := fun w' => True) (ds := []) #[false,false,false,false,false,false,false,false,false,false,false,false,false,false,false,false,false] (by kernel_rfl) rfl rfl trivial (fun hHeld => ?_)
   generalize wr.drew = wD at HVD HBD hHeld ⊢
   refine pure_ (i:=0) (N:=some 47) (v:=?_) (a':=?_) #[true,false,false,false,false,false,false,false,false,false,false,false,false,false,false,false,false] rfl rfl (by kernel_rfl) (fun _ _ _ h => h) (Or.inl ⟨by rfl, ?_⟩) ?_ ?_
   rotate_left
   ·
    intro w'
    go_simp
    with_reducible rfl
   rotate_left
   ·
    simp only [Act.put, q0zI, q0z0, q0z1, i64_w, i32_w]
    rfl
   refine pure_ (i:=1) (N:=some 48) (v:=?_) (a':=?_) #[true,true,false,false,false,false,false,false,false,false,false,false,false,false,false,false,false] rfl rfl (by kernel_rfl) (fun _ _ _ h => h) (Or.inl ⟨by rfl, ?_⟩) ?_ ?_
   rotate_left
   ·
    intro w'
    go_simp
    with_reducible rfl
   rotate_left
   ·
    simp only [Act.put, q0zI, q0z0, q0z1, i64_w, i32_w]
    rfl
   refine pure_ (i:=2) (N:=some 49) (v:=?_) (a':=?_) #[true,true,true,false,false,false,false,false,false,false,false,false,false,false,false,false,false] rfl rfl (by kernel_rfl) (fun _ _ _ h => h) (Or.inl ⟨by rfl, ?_⟩) ?_ ?_
   rotate_left
   ·
    intro w'
    go_simp
    with_reducible rfl
   rotate_left
   ·
    simp only [Act.put, q0zI, q0z0, q0z1, i64_w, i32_w]
    rfl
   refine pure_ (i:=3) (N:=some 50) (v:=?_) (a':=?_) #[true,true,true,true,false,false,false,false,false,false,false,false,false,false,false,false,false] rfl rfl (by kernel_rfl) (fun _ _ _ h => h) (Or.inl ⟨by rfl, ?_⟩) ?_ ?_
   rotate_left
   ·
    intro w'
    go_simp
    with_reducible rfl
   rotate_left
   ·
    simp only [Act.put, q0zI, q0z0, q0z1, i64_w, i32_w]
    rfl
   refine pure_ (i:=4) (N:=some 51) (v:=?_) (a':=?_) #[true,true,true,true,true,false,false,false,false,false,false,false,false,false,false,false,false] rfl rfl (by kernel_rfl) (fun _ _ _ h => h) (Or.inl ⟨by rfl, ?_⟩) ?_ ?_
   rotate_left
   ·
    intro w'
    go_simp
    with_reducible rfl
   rotate_left
   ·
    simp only [Act.put, q0zI, q0z0, q0z1, i64_w, i32_w]
    rfl
   refine pure_ (i:=5) (N:=some 52) (v:=?_) (a':=?_) #[true,true,true,true,true,true,false,false,false,false,false,false,false,false,false,false,false] rfl rfl (by kernel_rfl) (fun _ _ _ h => h) (Or.inl ⟨by rfl, ?_⟩) ?_ ?_
   rotate_left
   ·
    intro w'
    go_simp
    with_reducible rfl
   rotate_left
   ·
    simp only [Act.put, q0zI, q0z0, q0z1, i64_w, i32_w]
    rfl
   refine pure_ (i:=6) (N:=some 53) (v:=?_) (a':=?_) #[true,true,true,true,true,true,true,false,false,false,false,false,false,false,false,false,false] rfl rfl (by kernel_rfl) (fun _ _ _ h => h) (Or.inl ⟨by rfl, ?_⟩) ?_ ?_
   rotate_left
   ·
    intro w'
    go_simp
    with_reducible rfl
   rotate_left
   ·
    simp only [Act.put, q0zI, q0z0, q0z1, i64_w, i32_w]
    rfl
   refine pure_ (i:=7) (N:=some 54) (v:=?_) (a':=?_) #[true,true,true,true,true,true,true,true,false,false,false,false,false,false,false,false,false] rfl rfl (by kernel_rfl) (fun _ _ _ h => h) (Or.inl ⟨by rfl, ?_⟩) ?_ ?_
   rotate_left
   ·
    intro w'
    go_simp
    with_reducible rfl
   rotate_left
   ·
    simp only [Act.put, q0zI, q0z0, q0z1, i64_w, i32_w]
    rfl
   refine pure_ (i:=8) (N:=some 55) (v:=?_) (a':=?_) #[true,true,true,true,true,true,true,true,true,false,false,false,false,false,false,false,false] rfl rfl (by kernel_rfl) (fun _ _ _ h => h) (Or.inl ⟨by rfl, ?_⟩) ?_ ?_
   rotate_left
   ·
    intro w'
    go_simp
    with_reducible rfl
   rotate_left
   ·
    simp only [Act.put, q0zI, q0z0, q0z1, i64_w, i32_w]
    rfl
   refine pure_ (i:=9) (N:=some 56) (v:=?_) (a':=?_) #[true,true,true,true,true,true,true,true,true,true,false,false,false,false,false,false,false] rfl rfl (by kernel_rfl) (fun _ _ _ h => h) (Or.inl ⟨by rfl, ?_⟩) ?_ ?_
   rotate_left
   ·
    intro w'
    go_simp
    with_reducible rfl
   rotate_left
   ·
    simp only [Act.put, q0zI, q0z0, q0z1, i64_w, i32_w]
    rfl
   refine pure_ (i:=10) (N:=some 57) (v:=?_) (a':=?_) #[true,true,true,true,true,true,true,true,true,true,true,false,false,false,false,false,false] rfl rfl (by kernel_rfl) (fun _ _ _ h => h) (Or.inl ⟨by rfl, ?_⟩) ?_ ?_
   rotate_left
   ·
    intro w'
    go_simp
    with_reducible rfl
   rotate_left
   ·
    simp only [Act.put, q0zI, q0z0, q0z1, i64_w, i32_w]
    rfl
   refine pure_ (i:=11) (N:=some 58) (v:=?_) (a':=?_) #[true,true,true,true,true,true,true,true,true,true,true,true,false,false,false,false,false] rfl rfl (by kernel_rfl) (fun _ _ _ h => h) (Or.inl ⟨by rfl, ?_⟩) ?_ ?_
   rotate_left
   ·
    intro w'
    go_simp
    with_reducible rfl
   rotate_left
   ·
    simp only [Act.put, q0zI, q0z0, q0z1, i64_w, i32_w]
    rfl
   refine pure_ (i:=13) (N:=some 60) (v:=?_) (a':=?_) #[true,true,true,true,true,true,true,true,true,true,true,true,false,true,false,false,false] rfl rfl (by kernel_rfl) (fun _ _ _ h => h) (Or.inl ⟨by rfl, ?_⟩) ?_ ?_
   rotate_left
   ·
    intro w'
    go_simp
    with_reducible rfl
   rotate_left
   ·
    simp only [Act.put, q0zI, q0z0, q0z1, i64_w, i32_w]
    rfl
   refine pure_ (i:=14) (N:=some 61) (v:=?_) (a':=?_) #[true,true,true,true,true,true,true,true,true,true,true,true,false,true,true,false,false] rfl rfl (by kernel_rfl) (fun _ _ _ h => h) (Or.inl ⟨by rfl, ?_⟩) ?_ ?_
   rotate_left
   ·
    intro w'
    go_simp
    with_reducible rfl
   rotate_left
   ·
    simp only [Act.put, q0zI, q0z0, q0z1, i64_w, i32_w]
    rfl
   refine one_ (i:=12) (N:=some 59) #[true,true,true,true,true,true,true,true,true,true,true,true,true,true,true,false,false] rfl rfl (by kernel_rfl) (by decide) (fun K hK => ?_)
   refine goes_ Tryd.func9 (by kernel_rfl) rfl #[.int .u64 (IntKind.u64.wrap seed), .string ((⟨#[115, 97, 108, 116]⟩ : ByteArray) ++ dg)] (by rfl) rfl rfl (by simp only [List.map_toArray, List.map_cons, List.map_nil]; rfl) ?_
   with_reducible refine (mixed_at _ (u64_wrap seed) ((⟨#[115, 97, 108, 116]⟩ : ByteArray) ++ dg) HSW.out _).mono ?_
   rintro e w10 ⟨rfl, hb10⟩
   refine ⟨_, rfl, ?_⟩
   refine hK.out _ _ trivial (fun hHeld => ?_)
   clear hK K
   refine norm_ (a' := ?_) ?_ ?_
   rotate_left
   ·
    show Act.put _ (some 59) _ = _
    simp only [Act.put, q0zI, q0z0, q0z1, i64_w, i32_w]
    rfl
   refine one_ (i:=15) (N:=some 62) #[true,true,true,true,true,true,true,true,true,true,true,true,true,true,true,true,false] rfl rfl (by kernel_rfl) (by decide) (fun K hK => ?_)
   refine goes_ Tryd.func11 (by kernel_rfl) rfl #[.int .u64 (mixedP (IntKind.u64.wrap seed) ((⟨#[115, 97, 108, 116]⟩ : ByteArray) ++ dg)), .int .u64 inner, .string nm] (by rfl) rfl rfl (by simp only [List.map_toArray, List.map_cons, List.map_nil]; rfl) ?_
   with_reducible refine (slot_at _ inner (mixedP_u64 _ _) HIN.out nm HNM.out _).mono ?_
   rintro e w11 ⟨v11, rfl, hv11, hb11⟩
   obtain ⟨A11, c11, e11⟩ := Kd.R_slice hv11
   subst e11
   have hr11 := Kd.R_reads' hv11
   rw [slotP_len] at hr11 ⊢
   obtain ⟨w12, hcp, hV12, hgr⟩ := copy_row (lo := o) (k := 128 - o) (c2 := cap - o) (A := A11) (m := 24) (c := c11) (Kd.R_below HVD.out (below_step hb10 hb11)) hr11.2.2 HOK.out.1 HOK.out.2.1 (by decide)
   refine ⟨_, rfl, ?_⟩
   refine hK.out _ _ trivial (fun hHeld => ?_)
   clear hK K
   refine norm_ (a' := ?_) ?_ ?_
   rotate_left
   ·
    show Act.put _ (some 62) _ = _
    simp only [Act.put, q0zI, q0z0, q0z1, i64_w, i32_w]
    rfl
   refine one_ (i:=16) (N:=some 63) #[true,true,true,true,true,true,true,true,true,true,true,true,true,true,true,true,true] rfl rfl (by kernel_rfl) (by decide) (fun K hK => ?_)
   refine value_ (w1 := w12) (v := goInt ((24 : Nat) : Int)) (by rfl) rfl ?_ ?_
   · go_simp
   refine hK.out _ _ trivial (fun hHeld => ?_)
   clear hK K
   refine norm_ (a' := ?_) ?_ ?_
   rotate_left
   ·
    show Act.put _ (some 63) _ = _
    simp only [Act.put, q0zI, q0z0, q0z1, i64_w, i32_w]
    rfl
   refine done_ (by kernel_rfl) ?_
   have HPP := q0za (show (Kd.int .u8).R 5 w12 w2.heap.size (fun _ => True) (.slice (some ⟨w2.heap.size, 0, none⟩) 128 cap) (sealH hd names seed inner (i + 1)) by rw [HNX.out]; exact hV12)
   have HBP := q0za (Below.grown (below_step HBD.out (below_step hb10 hb11)) hgr (below_step HBD.out (below_step hb10 hb11)).size (fun k hk => by cases hk; exact Nat.le_refl _))
   clear hb10 hb11 hHeld
   go_wp2
   go_roundw
   case rel => exact ⟨i + 1, HLT.out, by go_num, HPP, HBP⟩
   case measure => exact st_dec HLT.out
  ·
   obtain rfl : i = names.length := by omega
   obtain ⟨Z, hZ⟩ : ∃ Z, Z = sealH hd names seed inner names.length := ⟨_, rfl⟩
   rw [← hZ] at HR
   have hzl : Z.length = 128 := by rw [hZ]; exact sealH_len hd HHL.out names seed inner names.length HN4.out
   have HZ := q0za hZ
   obtain ⟨LN, hLN⟩ : ∃ n, n = (Z ++ b).length := ⟨_, rfl⟩
   have HLN := q0za (show LN = 128 + b.length by rw [hLN, List.length_append, hzl])
   have HRM := q0za (show (Z.length + b.length) * 1 ≤ 140737488355328 by have := HBL.out; omega)
   have HZL := q0za hzl
   have HLE := q0za hLN
   have HCb := q0za (Kd.C_below HC.out (below_step HB.out HBr.out))
   have HDR := q0za (show ((Z ++ b).drop 128).take b.length = b by rw [← hzl, List.drop_left, List.take_length])
   have HR2 := q0za (show (Kd.int .u8).R 5 wr w2.heap.size (fun _ => True) (.slice (some ⟨w2.heap.size, 0, none⟩) Z.length cap) Z by rw [hzl]; exact HR.out)
   clear hZ hzl hLN
   go_wp2_with (first
    | (refine Kd.R_append_rows (Kd.int .u8) (Rr := (Kd.int .u8).K wr) (w0 := w2) w2.heap.size rfl (.tmp 65) (.tmp 66) 22 5 (.int .u8 0) 1 rfl Tryd.underlying22 info5 rfl (by decide) (by decide) (.slice (some ⟨w2.heap.size, 0, none⟩) 128 cap) Z b A0 b.length c0 (fun _ => True) (fun _ => False) rfl rfl HR.out HCb.out (fun _ _ h => h) (fun _ h => h.elim) (fun _ _ => trivial) HBr.out HBr.out.size HRM.out ?_; intro v8 w8 HO8 HB8 hg8 hat8; obtain ⟨g8, c8, e8, hg8b⟩ := rk_own HO8 (by rw [← HLE.out, HLN.out]; omega); rw [← HLE.out] at e8; subst e8; have hr8 := Kd.R_reads' HO8; have hcut8 : ∀ W : World, (Instr.slice 22 (.slice (some ⟨g8, 0, none⟩) LN c8) (some (.int .i64 128)) none none).run Tryd.prog W = .ok (.slice (some ⟨g8, 128, none⟩) b.length (c8 - 128)) W := by { have h := rk_sub (g := g8) (n := LN) (c := c8) (o := 128) (by have := HLN.out; have := HBL.out; omega) hr8.2.1 128 rfl; rw [show LN - 128 = b.length by have := HLN.out; omega] at h; exact h }; have HO8b := q0za HO8; have HB8b := q0za HB8; clear HO8 HB8 hg8 hat8 hg8b hr8)
    | (go_at_call 12; have hst := stream_at g8 LN c8 128 b.length (c8 - 128) (Z ++ b) inner HIN.out 0 _ w2 _ HO8b.out HB8b.out (by have := HLN.out; omega) (by have := HLN.out; have := HBL.out; omega) (by decide); rw [HDR.out, show ((0 : Nat) : Int) = 0 from rfl] at hst; (with_reducible refine hst.mono ?_); rintro e w9 ⟨rfl, hR9, hB9⟩; have HR9 := q0za hR9; have HB9 := q0za hB9; clear hR9 hB9 hst HO8b HB8b))
   refine bodyPost_ret (v := .tuple #[.slice (some ⟨g8, 0, none⟩) LN c8, .int .i64 0]) (by simp [results, Tryd.results4, go_sem]) rfl ?_
   refine ⟨_, rfl, ?_, below_step HB.out HB9.out⟩
   unfold sealP sealI
   rw [← HINN.out, ← HHD.out, ← HZ.out]
   exact Kd.R_lower HR9.out HB.out.size
end Go.Proofs.YtagcaheopbmdiaaDoor.Lk
