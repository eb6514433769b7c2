/- Sealed layers: opening and counting, for any source. No condition. -/
import Derived.Test.YtagcaheopbmdiaaGreatYPureLockOpensI
namespace Go.Proofs.YtagcaheopbmdiaaGreat.Pure
open Go.Proofs.YtagcaheopbmdiaaGreat.SumPlain Go.Maps Go.Proofs.YtagcaheopbmdiaaGreat.Lk
open Go Go.RowKit Go.Proofs.YtagcaheopbmdiaaGreat.QLockOpens Go.Proofs.YtagcaheopbmdiaaGreatW.PrintWords Go.Proofs.YtagcaheopbmdiaaGreatW.PrintLast Go.Proofs.YtagcaheopbmdiaaGreatW.PrintMore
set_option linter.unusedVariables false
set_option linter.unusedSimpArgs false
set_option maxHeartbeats 4000000
set_option maxRecDepth 100000
theorem q1ia : type_of% @Aside0.mk := @Aside0.mk
theorem open128 (W : World) (A : Option Addr) (c : Nat) (H : List Int) (hb : Bytes H) (hl : H.length = 128) (hC : Kd.C (Kd.int .u8) W A 128 H) (hc : 128 ≤ c) (key : ByteArray) (n p1 p2 : Int) (p3 : Bool) (h : ∃ k, lock_open.f k H n key = some (p1, p2, p3)) :
  Calls Tryz.prog 23 #[.slice A 128 c, .int .i64 n, .string key] W fun e w' => e = .returned (.tuple #[.int .i64 p1, .int .u64 p2, .bool p3]) ∧ Below W.heap.size W w' := by
 obtain ⟨k, hk⟩ := h
 have e := lock_open.calls k A c H n key p1 p2 p3 W (by rw [hl]; exact hC) (by omega) hk
 rw [hl] at e
 exact e
theorem slots_run (b : List Int) (hb : Bytes b) (h : formOk b) (key : ByteArray) (hk : nameP key = true) : ∃ k, lock_open.f k (b.take 128) (keysP b) key = some (slotsP b key) := by
 obtain ⟨h128, _, _, hk1, hk4, _⟩ := h
 have hz := nameP_size key hk
 have hl : (b.take 128).length = 128 := by rw [List.length_take]; omega
 have e := open_ev (b.take 128) (b_tk hb 128) key (by omega) (by omega) (keysP b).toNat (by omega)
 rw [openL_take b key 128 (keysP b).toNat 0 (by omega), show (((keysP b).toNat : Nat) : Int) = keysP b by omega] at e
 exact e.rounds
theorem open_no (w : World) (T : Nat) (x : Value) (fR fO fS fP : Nat) (b fr : List Int) (bad : List Bool) (h : SrcIs w T x fR fO fS fP b fr bad) (hb : Bytes b) (hn : b.length ≤ 65536) (key : ByteArray) (hno : ¬ rOk b bad) :
  Calls Tryz.prog 6 #[.iface T x, .string key] w fun e w' => e = .returned (.tuple #[.nilIface, .int .i64 3]) ∧ Below w.heap.size w w' := by
 have HH := q1ia (head_calls w T x fR fO fS fP b fr bad h hb hn)
 have HNO := q1ia hno
 clear h hno hb hn
 go_enter Tryz.func6, Tryz.ntmps6
 go_wp2_with (first
  | (go_at_call 21; refine (HH.out).mono ?_; rintro e w1 h1; obtain ⟨va, vn, vk, rfl, hb1⟩ := h1.2 HNO.out; have HB1 := q1ia hb1; clear h1 hb1 HH))
 refine bodyPost_ret (v := .tuple #[.nilIface, .int .i64 3]) (by simp [results, Tryz.results6, go_sem]) rfl ?_
 exact ⟨rfl, HB1.out⟩
theorem open_name (w : World) (T : Nat) (x : Value) (fR fO fS fP : Nat) (b fr : List Int) (bad : List Bool) (h : SrcIs w T x fR fO fS fP b fr bad) (hb : Bytes b) (hn : b.length ≤ 65536) (key : ByteArray) (hok : rOk b bad) (hk : nameP key = false) :
  Calls Tryz.prog 6 #[.iface T x, .string key] w fun e w' => e = .returned (.tuple #[.nilIface, .int .i64 6]) ∧ Below w.heap.size w w' := by
 have HH := q1ia (head_calls w T x fR fO fS fP b fr bad h hb hn)
 obtain ⟨kn, hkn⟩ := (name_ev key).rounds
 rw [hk] at hkn
 have HN := q1ia hkn
 have HYES := q1ia hok
 clear h hok hb hn hk hkn
 go_enter Tryz.func6, Tryz.ntmps6
 go_wp2_with (first
  | (go_at_call 21; refine (HH.out).mono ?_; rintro e w1 h1; obtain ⟨A, c, rfl, hc, hC, hb1⟩ := h1.1 HYES.out; have HB1 := q1ia hb1; have HC := q1ia hC; have HCC := q1ia hc; clear h1 hb1 hC hc HH)
  | (go_at_call 22; have hg_ := HB1.out; clear hg_; refine (lock_name.calls kn key _ _ HN.out).mono ?_; rintro e w2 ⟨rfl, hb2⟩; have HB2 := q1ia (below_step HB1.out hb2); have HC2 := q1ia (Kd.C_below HC.out hb2); clear hb2 HB1 HC))
 refine bodyPost_ret (v := .tuple #[.nilIface, .int .i64 6]) (by simp [results, Tryz.results6, go_sem]) rfl ?_
 exact ⟨rfl, HB2.out⟩
theorem open_key (w : World) (T : Nat) (x : Value) (fR fO fS fP : Nat) (b fr : List Int) (bad : List Bool) (h : SrcIs w T x fR fO fS fP b fr bad) (hb : Bytes b) (hn : b.length ≤ 65536) (key : ByteArray) (hok : rOk b bad) (hk : nameP key = true) (hs : (slotsP b key).2.2 = false) :
  Calls Tryz.prog 6 #[.iface T x, .string key] w fun e w' => e = .returned (.tuple #[.nilIface, .int .i64 14]) ∧ Below w.heap.size w w' := by
 have HH := q1ia (head_calls w T x fR fO fS fP b fr bad h hb hn)
 have HBT := q1ia (b_tk hb 128)
 have HLT := q1ia (show (b.take 128).length = 128 by rw [List.length_take]; have := hok.2.1; omega)
 have hrun := slots_run b hb hok.2 key hk
 rw [show slotsP b key = ((slotsP b key).1, (slotsP b key).2.1, false) by rw [← hs]] at hrun
 have HO := q1ia hrun
 obtain ⟨kn, hkn⟩ := (name_ev key).rounds
 rw [hk] at hkn
 have HN := q1ia hkn
 have HYES := q1ia hok
 clear h hok hb hn hk hkn hrun hs
 go_enter Tryz.func6, Tryz.ntmps6
 go_wp2_with (first
  | (go_at_call 21; refine (HH.out).mono ?_; rintro e w1 h1; obtain ⟨A, c, rfl, hc, hC, hb1⟩ := h1.1 HYES.out; have HB1 := q1ia hb1; have HC := q1ia hC; have HCC := q1ia hc; clear h1 hb1 hC hc HH)
  | (go_at_call 22; have hg_ := HB1.out; clear hg_; refine (lock_name.calls kn key _ _ HN.out).mono ?_; rintro e w2 ⟨rfl, hb2⟩; have HB2 := q1ia (below_step HB1.out hb2); have HC2 := q1ia (Kd.C_below HC.out hb2); clear hb2 HB1 HC)
  | (go_at_call 23; have hg_ := HB2.out; clear hg_; refine (open128 _ A c _ HBT.out HLT.out HC2.out HCC.out key _ _ _ _ HO.out).mono ?_; rintro e w3 ⟨rfl, hb3⟩; have HB3 := q1ia (below_step HB2.out hb3); clear hb3 HB2 HC2))
 refine bodyPost_ret (v := .tuple #[.nilIface, .int .i64 14]) (by simp [results, Tryz.results6, go_sem]) rfl ?_
 exact ⟨rfl, HB3.out⟩
theorem open_ok (w : World) (T : Nat) (x : Value) (fR fO fS fP : Nat) (b fr : List Int) (bad : List Bool) (h : SrcIs w T x fR fO fS fP b fr bad) (hb : Bytes b) (hn : b.length ≤ 65536) (key : ByteArray) (hok : rOk b bad) (hk : nameP key = true) (inner : Int) (i : Nat) (hs : slotsP b key = ((i : Int), inner, true)) :
  Calls Tryz.prog 6 #[.iface T x, .string key] w fun e w' => ∃ g, e = .returned (.tuple #[.iface 64 (.pointer (some ⟨g, 0, none⟩)), .int .i64 0]) ∧ IsLk w' g T x inner (leK ((b.drop 4).take 4)).toNat i ∧ Below w.heap.size w w' ∧ w.heap.size ≤ g := by
 have HH := q1ia (head_calls w T x fR fO fS fP b fr bad h hb hn)
 have HBT := q1ia (b_tk hb 128)
 have HLT := q1ia (show (b.take 128).length = 128 by rw [List.length_take]; have := hok.2.1; omega)
 have hrun := slots_run b hb hok.2 key hk
 rw [hs] at hrun
 have HO := q1ia hrun
 obtain ⟨kn, hkn⟩ := (name_ev key).rounds
 rw [hk] at hkn
 have HN := q1ia hkn
 have HYES := q1ia hok
 obtain ⟨Z, hZ⟩ : ∃ Z, Z = leK ((b.drop 4).take 4) := ⟨_, rfl⟩
 have hZ0 : ((Z.toNat : Nat) : Int) = Z := by have := (leK_pos _ (b_cut hb 4 4)).1; rw [← hZ] at this; omega
 have HZ0 := q1ia hZ0
 unfold HkEnd at HH
 rw [← hZ] at HH ⊢
 clear h hok hb hn hk hkn hrun hs hZ hZ0
 go_enter Tryz.func6, Tryz.ntmps6
 go_wp2_with (first
  | (go_at_call 21; refine (HH.out).mono ?_; rintro e w1 h1; obtain ⟨A, c, rfl, hc, hC, hb1⟩ := h1.1 HYES.out; have HB1 := q1ia hb1; have HC := q1ia hC; have HCC := q1ia hc; clear h1 hb1 hC hc HH)
  | (go_at_call 22; have hg_ := HB1.out; clear hg_; refine (lock_name.calls kn key _ _ HN.out).mono ?_; rintro e w2 ⟨rfl, hb2⟩; have HB2 := q1ia (below_step HB1.out hb2); have HC2 := q1ia (Kd.C_below HC.out hb2); clear hb2 HB1 HC)
  | (go_at_call 23; have hg_ := HB2.out; clear hg_; refine (open128 _ A c _ HBT.out HLT.out HC2.out HCC.out key _ _ _ _ HO.out).mono ?_; rintro e w3 ⟨rfl, hb3⟩; have HB3 := q1ia (below_step HB2.out hb3); clear hb3 HB2 HC2))
 refine bodyPost_ret (v := .tuple #[.iface 64 (.pointer (some ⟨w3.heap.size, 0, none⟩)), .int .i64 0]) (by simp [results, Tryz.results6, go_sem]) rfl ?_
 exact ⟨_, rfl, ⟨by rw [HZ0.out]; exact blk_new w3 _⟩, below_alloc HB3.out _, HB3.out.size⟩
theorem count_no (w : World) (T : Nat) (x : Value) (fR fO fS fP : Nat) (b fr : List Int) (bad : List Bool) (h : SrcIs w T x fR fO fS fP b fr bad) (hb : Bytes b) (hn : b.length ≤ 65536) (hno : ¬ rOk b bad) :
  Calls Tryz.prog 7 #[.iface T x] w fun e w' => e = .returned (.tuple #[.int .i64 0, .int .i64 3]) ∧ Below w.heap.size w w' := by
 have HH := q1ia (head_calls w T x fR fO fS fP b fr bad h hb hn)
 have HNO := q1ia hno
 clear h hno hb hn
 go_enter Tryz.func7, Tryz.ntmps7
 go_wp2_with (first
  | (go_at_call 21; refine (HH.out).mono ?_; rintro e w1 h1; obtain ⟨va, vn, vk, rfl, hb1⟩ := h1.2 HNO.out; have HB1 := q1ia hb1; clear h1 hb1 HH))
 refine bodyPost_ret (v := .tuple #[.int .i64 0, .int .i64 3]) (by simp [results, Tryz.results7, go_sem]) rfl ?_
 exact ⟨rfl, HB1.out⟩
theorem count_ok (w : World) (T : Nat) (x : Value) (fR fO fS fP : Nat) (b fr : List Int) (bad : List Bool) (h : SrcIs w T x fR fO fS fP b fr bad) (hb : Bytes b) (hn : b.length ≤ 65536) (hok : rOk b bad) :
  Calls Tryz.prog 7 #[.iface T x] w fun e w' => e = .returned (.tuple #[.int .i64 (keysP b), .int .i64 0]) ∧ Below w.heap.size w w' := by
 have HH := q1ia (head_calls w T x fR fO fS fP b fr bad h hb hn)
 have HYES := q1ia hok
 clear h hok hb hn
 go_enter Tryz.func7, Tryz.ntmps7
 go_wp2_with (first
  | (go_at_call 21; refine (HH.out).mono ?_; rintro e w1 h1; obtain ⟨A, c, rfl, hc, hC, hb1⟩ := h1.1 HYES.out; have HB1 := q1ia hb1; have HC := q1ia hC; have HCC := q1ia hc; clear h1 hb1 hC hc HH))
 refine bodyPost_ret (v := .tuple #[.int .i64 (keysP b), .int .i64 0]) (by simp [results, Tryz.results7, go_sem]) rfl ?_
 exact ⟨rfl, HB1.out⟩
end Go.Proofs.YtagcaheopbmdiaaGreat.Pure
