/- Sealed layers: slots, as the program and the reference compute them. No condition. -/
import Derived.Test.YtagcaheopbmdiaaGreatYPureLockOpensLA
namespace Go.Proofs.YtagcaheopbmdiaaGreat.Lk
open Go Go.RowKit Go.Proofs.YtagcaheopbmdiaaGreat.QLockOpens Go.Proofs.YtagcaheopbmdiaaGreatW.PrintWords Go.Proofs.YtagcaheopbmdiaaGreatW.PrintLast Go.Proofs.YtagcaheopbmdiaaGreatW.PrintMore Go.Proofs.YtagcaheopbmdiaaGreat.SumPlain
set_option linter.unusedVariables false
set_option linter.unusedSimpArgs false
/-- 'in', 'ok' -/
def wIn : ByteArray := ⟨#[105, 110]⟩
def wOk : ByteArray := ⟨#[111, 107]⟩
theorem xor_u64 (a b : Int) : U64 (Go.bits .xor .u64 a b) := by
 rw [bits_xor64]
 have := (BitVec.ofInt 64 a ^^^ BitVec.ofInt 64 b).isLt
 exact ⟨by omega, by omega⟩
theorem kby_inj : ∀ (xs ys : List Int), Bytes xs → Bytes ys → Go.Lib.bytesOf xs = Go.Lib.bytesOf ys → xs = ys := by
 intro xs
 induction xs with
 | nil =>
  intro ys _ _ h
  cases ys with
  | nil => rfl
  | cons y ys => simp [Go.Lib.bytesOf] at h
 | cons x xs ih =>
  intro ys hx hy h
  cases ys with
  | nil => simp [Go.Lib.bytesOf] at h
  | cons y ys =>
   simp only [Go.Lib.bytesOf, List.map_cons, List.cons.injEq] at h
   have h0 : 0 ≤ x ∧ x ≤ 255 := hx x (by simp)
   have h1 : 0 ≤ y ∧ y ≤ 255 := hy y (by simp)
   have h2 := congrArg UInt8.toNat h.1
   rw [UInt8.toNat_ofNat', UInt8.toNat_ofNat'] at h2
   rw [ih ys (fun z hz => hx z (by simp [hz])) (fun z hz => hy z (by simp [hz])) h.2, show x = y by omega]
theorem kstr_eq (xs ys : List Int) (hx : Bytes xs) (hy : Bytes ys) : (strOfNums xs).toList = (strOfNums ys).toList ↔ xs = ys := by
 rw [Go.Lib.strOfNums_toList, Go.Lib.strOfNums_toList]
 exact ⟨kby_inj xs ys hx hy, fun h => by rw [h]⟩
theorem leK_inj : ∀ (xs ys : List Int), Bytes xs → Bytes ys → xs.length = ys.length → leK xs = leK ys → xs = ys := by
 intro xs
 induction xs with
 | nil => intro ys _ _ hl _; exact (List.eq_nil_of_length_eq_zero hl.symm).symm
 | cons x xs ih =>
  intro ys hx hy hl h
  cases ys with
  | nil => simp at hl
  | cons y ys =>
   simp only [leK] at h
   have h0 : 0 ≤ x ∧ x ≤ 255 := hx x (by simp)
   have h1 : 0 ≤ y ∧ y ≤ 255 := hy y (by simp)
   rw [ih ys (fun z hz => hx z (by simp [hz])) (fun z hz => hy z (by simp [hz])) (by simpa using hl) (by omega), show x = y by omega]
theorem leK_digs : ∀ (d n : Nat), leK (digs d n) = ((n % 256 ^ d : Nat) : Int)
 | 0, n => by simp [digs, leK, Nat.mod_one]
 | d + 1, n => by
  rw [digs, leK, leK_digs d (n / 256), Nat.pow_succ, Nat.mul_comm (256 ^ d) 256, Nat.mod_mul]
  rw [Int.natCast_add, Int.natCast_mul]
  rfl
theorem leK_num (n : Int) (h : U64 n) : leK (numList n.toNat) = n := by
  have h1 := h.1
  have h2 := h.2
  rw [← digs_num, leK_digs, Nat.mod_eq_of_lt (by have : (256 : Nat) ^ 8 = 18446744073709551616 := by decide
                                                 omega)]
  omega
/-- a slot -/
def slotP (salt inner : Int) (key : ByteArray) : List Int := numList salt.toNat ++ (numList (Go.bits .xor .u64 inner (mixedP (mixedP salt key) wIn)).toNat ++ numList (mixedP inner wOk).toNat)
theorem slotP_len (salt inner : Int) (key : ByteArray) : (slotP salt inner key).length = 24 := by unfold slotP; simp [numList_len]
theorem slot_ev (salt inner : Int) (hs : U64 salt) (hi : U64 inner) (key : ByteArray) (hk : key.size ≤ 1000000) : Ev (fun k => lock_slot.f k salt inner key) (slotP salt inner key) := by
 unfold lock_slot.f
 refine Ev.bind (mixed_ev salt hs key hk) ?_
 refine Ev.bind (number_ev' salt hs) ?_
 refine Ev.bind (mixed_ev _ (mixedP_u64 _ _) wIn (by decide)) ?_
 refine Ev.bind (number_ev' _ (xor_u64 _ _)) ?_
 refine Ev.bind (mixed_ev inner hi wOk (by decide)) ?_
 refine Ev.bind (number_ev' _ (mixedP_u64 _ _)) ?_
 refine Ev.congr (fun k => ?_) (Ev.now (slotP salt inner key))
 unfold slices_Concat_byte.f
 rw [if_pos (by simp [totLen, numList_len]), Option.bind_some]
 simp [slotP]
/-- the slots, the first that a key opens -/
def slotAt (H : List Int) (i : Nat) : List Int := (H.drop (16 + 24 * i)).take 24
def innerAt (H : List Int) (key : ByteArray) (i : Nat) : Int := Go.bits .xor .u64 (leK (((slotAt H i).drop 8).take 8)) (mixedP (mixedP (leK ((slotAt H i).take 8)) key) wIn)
def openL (H : List Int) (key : ByteArray) : Nat → Nat → Int × Int × Bool
 | 0, _ => (0, 0, false)
 | d + 1, i => if mixedP (innerAt H key i) wOk = leK ((slotAt H i).drop 16) then ((i : Int), innerAt H key i, true) else openL H key d (i + 1)
theorem slotAt_len (H : List Int) (i : Nat) (h : 16 + 24 * i + 24 ≤ H.length) : (slotAt H i).length = 24 := by unfold slotAt; rw [List.length_take, List.length_drop]; omega
theorem slotAt_bytes (H : List Int) (hb : Bytes H) (i : Nat) : Bytes (slotAt H i) := kb_cut hb _ _
theorem open_l0 (H : List Int) (hb : Bytes H) (key : ByteArray) (hk : key.size ≤ 1000000) (hH : H.length ≤ 1000000) : ∀ (d i : Nat), 16 + 24 * (i + d) ≤ H.length → Ev (fun k => lock_open.l0 k H key ((i + d : Nat) : Int) (i : Int)) (openL H key d i)
 | 0, i, hi => by
  refine Ev.step (f := fun _ => some _) (fun k => ?_) (Ev.now _)
  simp only [lock_open.l0]
  rw [if_neg (by omega)]; rfl
 | d + 1, i, hi => by
  have ih := open_l0 H hb key hk hH d (i + 1) (by omega)
  rw [show i + 1 + d = i + (d + 1) by omega] at ih
  have e2 : wrap64 ((i : Int) + 1) = ((i + 1 : Nat) : Int) := by unfold wrap64; omega
  have e1 : wrap64 (16 + wrap64 (24 * (i : Int))) = ((16 + 24 * i : Nat) : Int) := by unfold wrap64; omega
  have e3 : wrap64 (16 + wrap64 (24 * ((i + 1 : Nat) : Int))) = ((16 + 24 * i + 24 : Nat) : Int) := by unfold wrap64; omega
  have ex : (H.take (16 + 24 * i + 24)).drop (16 + 24 * i) = slotAt H i := by unfold slotAt; rw [List.drop_take]; congr 1; omega
  have hl := slotAt_len H i (by omega)
  have hbs := slotAt_bytes H hb i
  refine Ev.step (f := fun k => (lock_get.f k (((slotAt H i).take 16).drop 8)).bind fun t121 => (if 8 ≤ ((slotAt H i).length : Int) then ((lock_get.f k ((slotAt H i).take 8)).bind fun t123 => ((lock_mixed.f k t123 key).bind fun t124 => ((lock_mixed.f k t124 wIn).bind fun t125 => ((lock_mixed.f k (Go.bits .xor .u64 t121 t125) wOk).bind fun t126 => ((lock_get.f k ((slotAt H i).drop 16)).bind fun t128 => (if t126 = t128 then some ((i : Int), Go.bits .xor .u64 t121 t125, true) else lock_open.l0 k H key ((i + (d + 1) : Nat) : Int) ((i + 1 : Nat) : Int))))))) else none)) (fun k => ?_) ?_
  ·
   simp only [lock_open.l0]
   rw [e2, e1, e3, if_pos (by omega), if_pos (by omega), if_pos (by omega), if_pos (by omega), if_pos (by decide), Int.toNat_natCast, Int.toNat_natCast, ex, if_pos (by rw [hl]; decide)]
   rfl
  have e8 : ((slotAt H i).take 16).drop 8 = ((slotAt H i).drop 8).take 8 := by rw [List.drop_take]
  rw [e8]
  refine Ev.bind (kget_ev _ (kb_cut hbs _ _) (by rw [List.length_take]; omega)) ?_
  refine Ev.congr (fun k => if_pos (by rw [hl]; decide)) ?_
  refine Ev.bind (kget_ev _ (kb_tk hbs _) (by rw [List.length_take]; omega)) ?_
  refine Ev.bind (mixed_ev _ (leK_u64 _ (by rw [List.length_take]; omega) (kb_tk hbs _)) key hk) ?_
  refine Ev.bind (mixed_ev _ (mixedP_u64 _ _) wIn (by decide)) ?_
  refine Ev.bind (mixed_ev _ (xor_u64 _ _) wOk (by decide)) ?_
  refine Ev.bind (kget_ev _ (kb_dr hbs _) (by rw [List.length_drop]; omega)) ?_
  rw [openL]
  unfold innerAt
  by_cases hc : mixedP (Go.bits .xor .u64 (leK (((slotAt H i).drop 8).take 8)) (mixedP (mixedP (leK ((slotAt H i).take 8)) key) wIn)) wOk = leK ((slotAt H i).drop 16)
  ·
   rw [if_pos hc]
   exact Ev.congr (fun k => if_pos hc) (Ev.now _)
  ·
   rw [if_neg hc]
   exact Ev.congr (fun k => if_neg hc) ih
theorem open_ev (H : List Int) (hb : Bytes H) (key : ByteArray) (hk : key.size ≤ 1000000) (hH : H.length ≤ 1000000) (n : Nat) (hn : 16 + 24 * n ≤ H.length) : Ev (fun k => lock_open.f k H (n : Int) key) (openL H key n 0) := by
 have h := open_l0 H hb key hk hH n 0 (by omega)
 rw [Nat.zero_add] at h
 exact h
end Go.Proofs.YtagcaheopbmdiaaGreat.Lk
