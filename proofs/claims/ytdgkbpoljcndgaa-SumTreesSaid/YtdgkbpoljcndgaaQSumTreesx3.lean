/- Written by a program of this session (wip/mprint): the walk of the Go code, function by function, for every input; no condition. -/
import Derived.Test.YtdgkbpoljcndgaaQSumTreesx0
import Derived.Test.YtdgkbpoljcndgaaQSumTreesx1
import Derived.Test.YtdgkbpoljcndgaaQSumTreesx2
import Derived.Test.YtdgkbpoljcndgaaSumTreePlain
namespace Go.Proofs.Ytdgkbpoljcndgaa.QSumTrees
open Go.RowKit Go.Proofs.YtdgkbpoljcndgaaW.PrintWords Go.Proofs.YtdgkbpoljcndgaaW.PrintLast Go.Proofs.YtdgkbpoljcndgaaW.PrintMore
attribute [local go_sem] max2_int min2_int max_two min_two max_three min_three max_four min_four   -- for this text's walks alone
set_option linter.unusedVariables false
set_option linter.unusedSimpArgs false

-- import Derived.Test.YtdgkbpoljcndgaaSumTreePlain
open Go.Proofs.Ytdgkbpoljcndgaa.SumPlain
/-- all levels of the tree -/
def wrackref1_Levels.f (l0 : List Int) : Option (List (List Int)) := if l0.length ≤ 140737488351232 ∧ (∀ x ∈ l0, 0 ≤ x ∧ x ≤ 255) then some (levelsOf pairOf (leaves l0)) else none
def LvOut (w : World) (l0 : List Int) (N : Nat) (v3 v5 : Value) (wr : World) : Prop := ∃ (L : List Int) (Ls : List (List Int)) (A : Option Addr) (c : Nat), v3 = .slice A L.length c ∧ Aside0 (L.length ≤ c ∧ 1 ≤ L.length ∧ Ls.length + L.length ≤ N + 1 ∧ 1 ≤ Ls.length ∧ (∀ x ∈ L, U64 x) ∧ Ls ++ (levelsOf pairOf L).tail = levelsOf pairOf (leaves l0)) ∧ Aside0 (Kd.C (Kd.int .u64) wr A L.length L) ∧ Aside0 (Kd.R (Kd.slice 23 (Kd.int .u64)) 42 wr w.heap.size (fun _ => True) v5 Ls) ∧ Aside0 (Below w.heap.size w wr)
def LvIn2 (wo : World) (L : List Int) (v3 v7 : Value) (w' : World) : Prop := ∃ (M U : List Int) (A : Option Addr) (c : Nat), v3 = .slice A M.length c ∧ Aside0 (M.length ≤ c ∧ ∃ j, 2 * j ≤ L.length ∧ M = L.drop (2 * j) ∧ U = upOf pairOf (L.take (2 * j))) ∧ Aside0 (Kd.C (Kd.int .u64) wo A M.length M) ∧ Aside0 (Kd.R (Kd.int .u64) 23 w' wo.heap.size (fun _ => True) v7 U) ∧ Aside0 (Below wo.heap.size wo w')
set_option maxHeartbeats 4000000 in
set_option maxRecDepth 100000 in
theorem Levels_any (A0 : Option Addr) (c0 : Nat) (l0 : List Int) (w : World) (hr0 : Kd.C (Kd.int .u8) w A0 l0.length l0) (hc0 : l0.length ≤ c0) (hb : Bytes l0) (hn : l0.length ≤ 140737488351232) :
    Calls Try.prog 35 #[.slice A0 l0.length c0] w fun e w' => ∃ v, e = .returned v ∧ Kd.R (Kd.slice 23 (Kd.int .u64)) 42 w' w.heap.size (fun _ => True) v (levelsOf pairOf (leaves l0)) ∧ Below w.heap.size w w' := by
  have hN : 1 ≤ nBlocks l0 ∧ nBlocks l0 ≤ 2199023255552 ∧ 64 * nBlocks l0 < l0.length + 64 + 64 := by unfold nBlocks; omega
  obtain ⟨N, hNe⟩ : ∃ N, nBlocks l0 = N := ⟨_, rfl⟩
  rw [hNe] at hN
  have hpl : (partsOf l0).length = N := by unfold partsOf; simp [hNe]
  have hget := fun k (hk : k < N) => leavesM_take l0 k (by rw [hNe]; exact hk)
  have hpc := parts_calls A0 c0 l0 w hr0 hc0 hn
  obtain ⟨PL, hPL⟩ : ∃ PL, partsOf l0 = PL := ⟨_, rfl⟩
  rw [hPL] at hpl hpc
  simp only [hPL] at hget
  replace hNe := Aside0.mk hNe
  replace hget := Aside0.mk hget
  replace hpl := Aside0.mk hpl
  clear hPL
  go_enter Try.func35, Try.ntmps35
  go_wp2_with (first | (go_at_call 84; refine hpc.mono ?_; rintro e w1 ⟨v9, rfl, HO9, HB⟩; obtain ⟨A9, c9, hv9⟩ := Kd.R_slice HO9; subst hv9))
  have hC9 := (Kd.R_reads' HO9).2.2
  rw [hpl.out] at hC9 ⊢
  replace hC9 := Aside0.mk hC9
  clear HO9
  go_loopw [3, 11] (fun v i wr => ∃ k : Nat, k ≤ N ∧ i = .int .i64 k ∧ Aside0 (Kd.R (Kd.int .u64) 23 wr w1.heap.size (fun _ => True) v ((leaves l0).take k)) ∧ Aside0 (Below w1.heap.size w1 wr)) (fun _ i _ => N - (intOf i).toNat)
  case atStart => exact ⟨0, Nat.zero_le _, rfl, ⟨Kd.R_nil _ _ _ _ _⟩, ⟨Below.refl _ _⟩⟩
  case round =>
    obtain ⟨k, hk, rfl, HO, HB1⟩ := hrel
    have HBw := Aside0.mk HB
    replace HB := Aside0.mk (below_step HB HB1.out)
    obtain ⟨U, hU⟩ : ∃ U, U = (leaves l0).take k := ⟨_, rfl⟩
    rw [← hU] at HO
    obtain ⟨Av, cv, hv⟩ := Kd.R_slice HO.out
    by_cases hlt : k < N
    · have hC := Aside0.mk (Kd.C_below hr0 HB.out)
      have HT := Aside0.mk (leaves_take l0 k (by rw [hNe.out]; exact hlt))
      have hT2 : U.length = k := by rw [hU, List.length_take, leaves_len, hNe.out]; omega
      have hroom : (U.length + 1) * 8 ≤ 140737488355328 := by omega
      have HU := Aside0.mk hU
      clear hT2 hU
      subst hv
      obtain ⟨ad, hA9, hc9⟩ := Kd.at_string (Kd.C_below hC9.out HB1.out) (k : Int) (by omega) (by have := hpl.out; omega)
      subst hA9
      rw [Int.toNat_natCast, rdOf, Int.toNat_natCast, hget.out k hlt] at hc9
      have hlti : (k : Int) < (N : Int) := by omega
      obtain ⟨B, hB⟩ : ∃ B, B = blockAt l0 k := ⟨_, rfl⟩
      rw [← hB] at hc9
      have hBb : Bytes B := by rw [hB]; exact blockAt_bytes l0 k hb
      have hBl : B.length ≤ 64 := by rw [hB]; exact blockAt_len l0 k
      have hBs : (strOfNums B).size ≤ 140737488355328 := by rw [str_size]; omega
      have hBe := Aside0.mk (bytes_str B hBb)
      replace hB := Aside0.mk hB
      obtain ⟨s, hs⟩ : ∃ s, s = strOfNums B := ⟨_, rfl⟩
      rw [← hs] at hc9 hBs hBe
      replace hBb := Aside0.mk hBb
      clear hs
      go_wp2_with (first
        | (refine Kd.C_bytes rfl (N := 17) rfl 9 22 _ rfl s rfl Try.underlying9 Try.underlying22 Try.underlying5 hBs ?_; intro A1 c1 w2 hC1 hc1 hb1; rw [hBe.out] at hC1 hc1 ⊢; replace hC1 := Aside0.mk hC1; replace hb1 := Aside0.mk hb1)
        | (go_at_call 19; refine (mix_calls A1 c1 B _ hC1.out hc1 (by omega)).mono ?_; rintro e w' ⟨rfl, ⟨nd, rfl⟩⟩)
        | (refine Kd.R_append (Kd.int .u64) w1.heap.size rfl (.tmp 15) (.tmp 19) 42 23 (.int .u64 0) 8 rfl Try.underlying42 t_info23 rfl (by decide) (by decide) _ _ (hashOf B) [.int .u64 (hashOf B)] (fun _ => True) (fun _ => False) rfl rfl rfl (fun _ h => h.elim) (fun _ _ => trivial) (Kd.R_drewN (Kd.R_below HO.out hb1.out) nd) (pw_below_drewN (below_step HB1.out hb1.out) nd) (below_step HB1.out hb1.out).size hroom ?_; intro v1 w2 HO2 HB2 hg hat))
      go_roundw
      case rel => exact ⟨k + 1, by omega, by go_num, ⟨by have := HT.out; have h2 := HU.out; unfold leaves at h2 ⊢; rw [this, ← h2, ← hB.out]; exact HO2⟩, ⟨HB2⟩⟩
      case measure => simp [intOf]; omega
    · obtain rfl : N = k := by omega
      have hUL : U = leaves l0 := by rw [hU, List.take_of_length_le (by rw [leaves_len, hNe.out]; omega)]
      have hlenU : U.length = N := by rw [hUL, leaves_len, hNe.out]
      have hu64 : ∀ x ∈ U, U64 x := by
        rw [hUL]; intro x hx; obtain ⟨i, _, rfl⟩ := List.mem_map.1 hx; exact hash_u64 _
      replace hUL := Aside0.mk hUL
      replace hlenU := Aside0.mk hlenU
      replace hu64 := Aside0.mk hu64
      replace HO := Aside0.mk (Kd.R_lower HO.out HBw.out.size)
      clear hU
      subst hv
      by_cases hone : U.length = 1
      · have hone1 : ((U.length : Int) == 1) = true := by rw [hone]; rfl
        replace hone := Aside0.mk hone
        go_wp2_with (first
          | (refine Kd.R_lit (Kd.slice 23 (Kd.int .u64)) w.heap.size 42 ?hg (N := 26) ?hd (xs := [U]) (inner := [.slice Av U.length cv]) (ok := fun _ => True) (okp := fun _ => True) ?hr ?hp (fun _ hk => hk) trivial HB.out HB.out.size (by simp) ?_; (case hd => rfl); (case hg => rfl); (case hr => first | (go_simp; done) | (go_simp; rfl)); (case hp => exact (Reps.one (show Kd.M (Kd.slice 23 (Kd.int .u64)) _ _ _ U [.slice Av U.length cv] from ⟨_, rfl, HO.out⟩) (Reps.none _ _))); intro v5 w2 HO5 HB2 hg2 hnew))
        go_ret
        refine ⟨_, rfl, ?_, HB2⟩
        rw [levelsOf_stop _ _ (by rw [← hUL.out]; have := hone.out; omega), ← hUL.out]
        exact HO5
      · have hone1 : ((U.length : Int) == 1) = false := by simp; omega
        replace hone := Aside0.mk hone
        go_wp2_with (first
          | (refine Kd.R_lit (Kd.slice 23 (Kd.int .u64)) w.heap.size 42 ?hg (N := 28) ?hd (xs := [U]) (inner := [.slice Av U.length cv]) (ok := fun _ => True) (okp := fun _ => True) ?hr ?hp (fun _ hk => hk) trivial HB.out HB.out.size (by simp) ?_; (case hd => rfl); (case hg => rfl); (case hr => first | (go_simp; done) | (go_simp; rfl)); (case hp => exact (Reps.one (show Kd.M (Kd.slice 23 (Kd.int .u64)) _ _ _ U [.slice Av U.length cv] from ⟨_, rfl, HO.out⟩) (Reps.none _ _))); intro v5 w2 HO5 HB2 hg2 hnew))
        have hC3 := Kd.C_below (Kd.R_reads' HO.out).2.2 ((Below.refl _ _).grown hg2 (Nat.le_refl _) (fun j hj => by cases hj))
        have hle3 := (Kd.R_reads' HO.out).2.1
        clear HO HB hg2 hnew
        go_loopw [3, 6] (LvOut w l0 N) (fun v3 _ _ => sliceLen v3)
        case atStart =>
          refine ⟨U, [U], Av, cv, rfl, ⟨hle3, by have := hlenU.out; omega, by have := hlenU.out; simp; omega, by simp, hu64.out, ?_⟩, ⟨hC3⟩, ⟨HO5⟩, ⟨HB2⟩⟩
          rw [hUL.out]
          exact (levelsOf_head _ _).symm
        case round =>
          clear HO5 HB2 hC3 hle3 hu64 hUL hlenU
          obtain ⟨L, Ls, A3, c3, rfl, HL, HC3, HO5, HB⟩ := hrel
          obtain ⟨wo, rfl⟩ : ∃ wo : World, wo = wr := ⟨_, rfl⟩
          have hmaxL : L.length ≤ 2199023255553 := by have := HL.out; omega
          obtain ⟨A5, c5, hv5⟩ := Kd.R_slice HO5.out
          subst hv5
          by_cases hgt : 1 < L.length
          · have hgt1 : decide ((1 : Int) < (L.length : Int)) = true := decide_eq_true (by omega)
            go_wp2_with fail
            go_loopw [3, 7] (LvIn2 wo L) (fun v3 _ _ => sliceLen v3)
            case atStart => exact ⟨L, [], A3, c3, rfl, ⟨HL.out.1, 0, by omega, rfl, rfl⟩, HC3, ⟨Kd.R_nil _ _ _ _ _⟩, ⟨Below.refl _ _⟩⟩
            case round =>
              obtain ⟨M, U, A3, c3, rfl, HM, HCM, HO6, HB6⟩ := hrel
              obtain ⟨A6, c6, hv6⟩ := Kd.R_slice HO6.out
              have hMl : M.length ≤ L.length := by obtain ⟨_, j, _, rfl, _⟩ := HM.out; rw [List.length_drop]; omega
              have hUl : U.length ≤ L.length := by
                obtain ⟨_, j, hj, _, hU⟩ := HM.out
                have := upOf_length pairOf (L.take (2 * j))
                rw [← hU, List.length_take] at this
                omega
              subst hv6
              by_cases hlt : 1 < M.length
              · have hltb : decide ((1 : Int) < (M.length : Int)) = true := decide_eq_true (by omega)
                obtain ⟨ad, hA, hc0o⟩ := Kd.at_int HCM.out 0 (by omega) (by omega)
                obtain ⟨ad2, hA2, hc1o⟩ := Kd.at_int HCM.out 1 (by omega) (by omega)
                subst hA
                obtain rfl := Option.some.inj hA2
                have hmem : ∀ i, i < M.length → U64 (M.getD i 0) := fun i hi => by
                  obtain ⟨_, j, _, hM, _⟩ := HM.out
                  refine HL.out.2.2.2.2.1 _ ?_
                  rw [List.getD_eq_getElem?_getD, List.getElem?_eq_getElem hi, Option.getD_some]
                  have h2 : M[i] ∈ L.drop (2 * j) := by rw [← hM]; exact List.getElem_mem hi
                  exact List.mem_of_mem_drop h2
                obtain ⟨x, hx⟩ : ∃ x, x = M.getD 0 0 := ⟨_, rfl⟩
                obtain ⟨y, hy⟩ : ∃ y, y = M.getD 1 0 := ⟨_, rfl⟩
                rw [show rd M 0 = x from hx.symm] at hc0o
                rw [show rd M 1 = y from hy.symm] at hc1o
                simp [Addr.add] at hc0o hc1o
                have hc0 := pw_cell_below HB6.out hc0o
                have hc1 := pw_cell_below HB6.out hc1o
                have hx0 := hmem 0 (by omega)
                have hy0 := hmem 1 (by omega)
                rw [← hx] at hx0
                rw [← hy] at hy0
                have e1 := eight_calls x hx0
                have e2 := eight_calls y hy0
                have hsum : bytesOf (strOfNums (numList x.toNat) ++ strOfNums (numList y.toNat)) = numList x.toNat ++ numList y.toNat := by
                  rw [str_append]; exact bytes_str _ (bytes_append (numList_bytes _) (numList_bytes _))
                have hp : hashOf (numList x.toNat ++ numList y.toNat) = pairOf x y := rfl
                have hNl : (numList x.toNat ++ numList y.toNat).length = 16 := by simp [numList]
                have hs1 : (strOfNums (numList x.toNat)).size = 8 := by rw [str_size]; simp [numList]
                have hs2 : (strOfNums (numList y.toNat)).size = 8 := by rw [str_size]; simp [numList]
                generalize numList x.toNat ++ numList y.toNat = NL at *
                generalize strOfNums (numList x.toNat) = s1 at *
                generalize strOfNums (numList y.toNat) = s2 at *
                have hsz : s1.size + s2.size ≤ 9223372036854775807 := by omega
                have hsz2 : (s1 ++ s2).size ≤ 140737488355328 := by rw [ByteArray.size_append]; omega
                obtain ⟨i23, hi23, hz0, hz1, hz2⟩ := info_parts t_info23
                obtain ⟨A2, hA2⟩ : ∃ A2, A2 = (if c3 = 2 then some ad else (some ad : Option Addr).map (·.add (2 * 1))) := ⟨_, rfl⟩
                obtain ⟨c2, hc2⟩ : ∃ c2, c2 = c3 - 2 := ⟨_, rfl⟩
                obtain ⟨M2, hM2⟩ : ∃ M2, M2 = M.drop 2 := ⟨_, rfl⟩
                have hM2l : M2.length = M.length - 2 := by rw [hM2, List.length_drop]
                have hCM2 : Kd.C (Kd.int .u64) wo A2 M2.length M2 := by
                  have := Kd.C_drop (m := 2) (c := c3) HCM.out (by omega) HM.out.1
                  rw [hM2, hA2]; exact this
                have hcut := cut_from (P := Try.prog) 42 23 .i64 Try.underlying42 hi23 1 hz1 (some ad) M.length c3 2 (by omega) (by omega)
                rw [show (2 : Int).toNat = 2 from rfl, ← hA2, ← hc2, ← hM2l] at hcut
                have hle2 : M2.length ≤ c2 := by have := HM.out.1; omega
                have hroom : (U.length + 1) * 8 ≤ 140737488355328 := by omega
                have h1i : (1 : Int) < (M.length : Int) := by omega
                have h0i : (0 : Int) < (M.length : Int) := by omega
                have h0n : 0 < M.length := by omega
                have hszP := eq_true hsz
                have hszN : (9223372036854775807 < s1.size + s2.size) = False := eq_false (Nat.not_lt.2 hsz)
                replace hx := Aside0.mk hx
                replace hy := Aside0.mk hy
                replace hsum := Aside0.mk hsum
                replace hp := Aside0.mk hp
                replace hNl := Aside0.mk hNl
                replace hM2 := Aside0.mk hM2
                replace hM2l := Aside0.mk hM2l
                replace hc0o := Aside0.mk hc0o
                replace hc1o := Aside0.mk hc1o
                replace hCM2 := Aside0.mk hCM2
                clear hs1 hs2 hA2 hc2 hmem hMl hUl hx0 hy0
                go_wp2_with fail
                refine start_ (n := 15) (S := fun w' => w'.cell? ad = some (.int .u64 x) ∧ w'.cell? ⟨ad.block, ad.off + 1, none⟩ = some (.int .u64 y)) (ds := []) #[false, false, false, false, false, false, false, false, false, false, false, false, false, false, false] (by kernel_rfl) rfl rfl ⟨pw_cell_below (below_drew HB6.out) hc0o.out, pw_cell_below (below_drew HB6.out) hc1o.out⟩ (fun hHeld => ?_)
                refine pure_ (i := 0) (N := some 35) (v := ?_) (a' := ?_) #[true, false, false, false, false, false, false, false, false, false, false, false, false, false, false] rfl rfl (by kernel_rfl) (fun _ _ _ h => h) (Or.inl ⟨by rfl, ?_⟩) ?_ ?_
                rotate_left
                · intro w'
                  go_simp
                  with_reducible rfl
                rotate_left
                · simp only [Act.put, List.setIfInBounds_toArray, List.set_cons_zero, List.set_cons_succ, i64_w, i32_w]
                  rfl
                refine pure_ (i := 1) (N := some 36) (v := ?_) (a' := ?_) #[true, true, false, false, false, false, false, false, false, false, false, false, false, false, false] rfl rfl (by kernel_rfl) (fun _ _ _ h => h) (Or.inl ⟨by rfl, ?_⟩) ?_ ?_
                rotate_left
                · intro w'
                  go_simp
                  with_reducible rfl
                rotate_left
                · simp only [Act.put, List.setIfInBounds_toArray, List.set_cons_zero, List.set_cons_succ, i64_w, i32_w]
                  rfl
                refine pure_ (i := 2) (N := some 37) (v := ?_) (a' := ?_) #[true, true, true, false, false, false, false, false, false, false, false, false, false, false, false] rfl rfl (by kernel_rfl) (fun _ _ _ h => h) (Or.inl ⟨by rfl, ?_⟩) ?_ ?_
                rotate_left
                · intro w'
                  go_simp
                  with_reducible rfl
                rotate_left
                · simp only [Act.put, List.setIfInBounds_toArray, List.set_cons_zero, List.set_cons_succ, i64_w, i32_w]
                  rfl
                refine pure_ (i := 5) (N := some 40) (v := ?_) (a' := ?_) #[true, true, true, false, false, true, false, false, false, false, false, false, false, false, false] rfl rfl (by kernel_rfl) (fun _ _ _ h => h) (Or.inl ⟨by rfl, ?_⟩) ?_ ?_
                rotate_left
                · intro w'
                  go_simp
                  with_reducible rfl
                rotate_left
                · simp only [Act.put, List.setIfInBounds_toArray, List.set_cons_zero, List.set_cons_succ, i64_w, i32_w]
                  rfl
                refine pure_ (i := 6) (N := some 41) (v := ?_) (a' := ?_) #[true, true, true, false, false, true, true, false, false, false, false, false, false, false, false] rfl rfl (by kernel_rfl) (fun _ _ _ h => h) (Or.inl ⟨by rfl, ?_⟩) ?_ ?_
                rotate_left
                · intro w'
                  go_simp
                  with_reducible rfl
                rotate_left
                · simp only [Act.put, List.setIfInBounds_toArray, List.set_cons_zero, List.set_cons_succ, i64_w, i32_w]
                  rfl
                refine take_ (i := 3) (N := some 38) (v := ?_) (a' := ?_) #[true, true, true, true, false, true, true, false, false, false, false, false, false, false, false] rfl rfl (by kernel_rfl) (fun _ _ _ h => h) (Or.inl ⟨by rfl, ?_⟩) hHeld ?_ ?_
                rotate_left
                · rintro w' ⟨s0, s1⟩
                  go_simp
                  with_reducible rfl
                rotate_left
                · simp only [Act.put, List.setIfInBounds_toArray, List.set_cons_zero, List.set_cons_succ, i64_w, i32_w]
                  rfl
                refine take_ (i := 7) (N := some 42) (v := ?_) (a' := ?_) #[true, true, true, true, false, true, true, true, false, false, false, false, false, false, false] rfl rfl (by kernel_rfl) (fun _ _ _ h => h) (Or.inl ⟨by rfl, ?_⟩) hHeld ?_ ?_
                rotate_left
                · rintro w' ⟨s0, s1⟩
                  go_simp
                  with_reducible rfl
                rotate_left
                · simp only [Act.put, List.setIfInBounds_toArray, List.set_cons_zero, List.set_cons_succ, i64_w, i32_w]
                  rfl
                refine one_ (i := 4) (N := some 39) #[true, true, true, true, true, true, true, true, false, false, false, false, false, false, false] rfl rfl (by kernel_rfl) (by decide) (fun K hK => ?_)
                refine goes_ Try.func21 (by kernel_rfl) rfl #[.int .u64 x] (by rfl) rfl rfl (by simp only [List.map_toArray, List.map_cons, List.map_nil]; rfl) ?_
                with_reducible refine (e1 _).mono ?_
                rintro e wA ⟨rfl, hbA⟩
                refine ⟨_, rfl, ?_⟩
                refine hK.out _ _ ⟨pw_cell_below (below_step (below_drew HB6.out) hbA) hc0o.out, pw_cell_below (below_step (below_drew HB6.out) hbA) hc1o.out⟩ (fun hHeld => ?_)
                clear hK K
                refine norm_ (a' := ?_) ?_ ?_
                rotate_left
                · show Act.put _ (some 39) _ = _
                  simp only [Act.put, List.setIfInBounds_toArray, List.set_cons_zero, List.set_cons_succ, i64_w, i32_w]
                  rfl
                refine one_ (i := 8) (N := some 43) #[true, true, true, true, true, true, true, true, true, false, false, false, false, false, false] rfl rfl (by kernel_rfl) (by decide) (fun K hK => ?_)
                refine goes_ Try.func21 (by kernel_rfl) rfl #[.int .u64 y] (by rfl) rfl rfl (by simp only [List.map_toArray, List.map_cons, List.map_nil]; rfl) ?_
                with_reducible refine (e2 _).mono ?_
                rintro e wB ⟨rfl, hbB⟩
                refine ⟨_, rfl, ?_⟩
                refine hK.out _ _ ⟨pw_cell_below (below_step (below_step (below_drew HB6.out) hbA) hbB) hc0o.out, pw_cell_below (below_step (below_step (below_drew HB6.out) hbA) hbB) hc1o.out⟩ (fun hHeld => ?_)
                clear hK K
                refine norm_ (a' := ?_) ?_ ?_
                rotate_left
                · show Act.put _ (some 43) _ = _
                  simp only [Act.put, List.setIfInBounds_toArray, List.set_cons_zero, List.set_cons_succ, i64_w, i32_w]
                  rfl
                refine pure_ (i := 9) (N := some 44) (v := ?_) (a' := ?_) #[true, true, true, true, true, true, true, true, true, true, false, false, false, false, false] rfl rfl (by kernel_rfl) (fun _ _ _ h => h) (Or.inl ⟨by rfl, ?_⟩) ?_ ?_
                rotate_left
                · intro w'
                  go_simp
                  with_reducible rfl
                rotate_left
                · simp only [Act.put, List.setIfInBounds_toArray, List.set_cons_zero, List.set_cons_succ, i64_w, i32_w]
                  rfl
                refine one_ (i := 10) (N := some 45) #[true, true, true, true, true, true, true, true, true, true, true, false, false, false, false] rfl rfl (by kernel_rfl) (by decide) (fun K hK => ?_)
                refine Kd.C_bytes_step (by rfl) (N := 45) rfl 9 22 _ rfl (s1 ++ s2) rfl Try.underlying9 Try.underlying22 Try.underlying5 hsz2 ?_
                intro A1 c1 wC hC1 hcl1 hbC
                rw [hsum.out] at hC1 hcl1 ⊢
                replace hC1 := Aside0.mk hC1
                refine hK.out _ _ ⟨pw_cell_below (below_step (below_step (below_step (below_drew HB6.out) hbA) hbB) hbC) hc0o.out, pw_cell_below (below_step (below_step (below_step (below_drew HB6.out) hbA) hbB) hbC) hc1o.out⟩ (fun hHeld => ?_)
                clear hK K
                refine norm_ (a' := ?_) ?_ ?_
                rotate_left
                · show Act.put _ (some 45) _ = _
                  simp only [Act.put, List.setIfInBounds_toArray, List.set_cons_zero, List.set_cons_succ, i64_w, i32_w]
                  rfl
                refine one_ (i := 11) (N := some 46) #[true, true, true, true, true, true, true, true, true, true, true, true, false, false, false] rfl rfl (by kernel_rfl) (by decide) (fun K hK => ?_)
                refine goes_ Try.func19 (by kernel_rfl) rfl #[.slice A1 NL.length c1] (by rfl) rfl rfl (by simp only [List.map_toArray, List.map_cons, List.map_nil]; rfl) ?_
                with_reducible refine (mix_calls A1 c1 NL _ hC1.out hcl1 (by rw [hNl.out]; omega)).mono ?_
                rintro e w' ⟨rfl, ⟨nd, rfl⟩⟩
                refine ⟨_, rfl, ?_⟩
                rw [hp.out]
                refine hK.out _ _ ⟨pw_cell_below (pw_below_drewN (below_step (below_step (below_step (below_drew HB6.out) hbA) hbB) hbC) nd) hc0o.out, pw_cell_below (pw_below_drewN (below_step (below_step (below_step (below_drew HB6.out) hbA) hbB) hbC) nd) hc1o.out⟩ (fun hHeld => ?_)
                clear hK K
                refine norm_ (a' := ?_) ?_ ?_
                rotate_left
                · show Act.put _ (some 46) _ = _
                  simp only [Act.put, List.setIfInBounds_toArray, List.set_cons_zero, List.set_cons_succ, i64_w, i32_w]
                  rfl
                refine one_ (i := 12) (N := some 47) #[true, true, true, true, true, true, true, true, true, true, true, true, true, false, false] rfl rfl (by kernel_rfl) (by decide) (fun K hK => ?_)
                refine value_ (w1 := ?_) (v := ?_) (by rfl) rfl ?_ ?_
                rotate_left 2
                · go_simp
                  constructor
                  · rfl
                  · rfl
                refine hK.out _ _ ⟨pw_cell_below (below_alloc (pw_below_drewN (below_step (below_step (below_step (below_drew HB6.out) hbA) hbB) hbC) nd) _) hc0o.out, pw_cell_below (below_alloc (pw_below_drewN (below_step (below_step (below_step (below_drew HB6.out) hbA) hbB) hbC) nd) _) hc1o.out⟩ (fun hHeld => ?_)
                clear hK K
                refine norm_ (a' := ?_) ?_ ?_
                rotate_left
                · show Act.put _ (some 47) _ = _
                  simp only [Act.put, List.setIfInBounds_toArray, List.set_cons_zero, List.set_cons_succ, i64_w, i32_w]
                  rfl
                refine one_ (i := 13) (N := some 48) #[true, true, true, true, true, true, true, true, true, true, true, true, true, true, false] rfl rfl (by kernel_rfl) (by decide) (fun K hK => ?_)
                refine Kd.R_append_step (Kd.int .u64) wo.heap.size (by rfl) (.tmp 35) (.tmp 47) 42 23 (.int .u64 0) 8 rfl Try.underlying42 t_info23 rfl (by decide) (by decide) (.slice A6 U.length c6) U (pairOf x y) [.int .u64 (pairOf x y)] (fun _ => True) (fun _ => False) (by rfl) (by rfl) rfl (fun _ h => h.elim) (fun _ _ => trivial) (Kd.R_drewN (Kd.R_below (Kd.R_below (Kd.R_below (Kd.R_drew HO6.out) hbA) hbB) hbC) nd) (pw_below_drewN (below_step (below_step (below_step (below_drew HB6.out) hbA) hbB) hbC) nd) (below_size (pw_below_drewN (below_step (below_step (below_step (below_drew HB6.out) hbA) hbB) hbC) nd)) hroom ?_
                intro v7 w7 HO7 HB7 hg7 hat7
                refine hK.out _ _ ⟨pw_cell_below HB7 hc0o.out, pw_cell_below HB7 hc1o.out⟩ (fun hHeld => ?_)
                clear hK K
                refine norm_ (a' := ?_) ?_ ?_
                rotate_left
                · show Act.put _ (some 48) _ = _
                  simp only [Act.put, List.setIfInBounds_toArray, List.set_cons_zero, List.set_cons_succ, i64_w, i32_w]
                  rfl
                refine pure_ (i := 14) (N := some 7) (v := ?_) (a' := ?_) #[true, true, true, true, true, true, true, true, true, true, true, true, true, true, true] rfl rfl (by kernel_rfl) (fun _ _ _ h => h) (Or.inl ⟨by rfl, ?_⟩) ?_ ?_
                rotate_left
                · intro w'
                  go_simp
                  with_reducible rfl
                rotate_left
                · simp only [Act.put, List.setIfInBounds_toArray, List.set_cons_zero, List.set_cons_succ, i64_w, i32_w]
                  rfl
                refine done_ (by kernel_rfl) ?_
                go_wp2
                go_roundw
                case rel =>
                  refine ⟨M2, U ++ [pairOf x y], A2, c2, rfl, ⟨hle2, ?_⟩, hCM2, ⟨HO7⟩, ⟨HB7⟩⟩
                  obtain ⟨_, j, hj, hM, hU⟩ := HM.out
                  have hlj : 2 * j + 1 < L.length := by have := hlt; rw [hM, List.length_drop] at this; omega
                  refine ⟨j + 1, by omega, ?_, ?_⟩
                  · rw [hM2.out, hM, List.drop_drop, show 2 * j + 2 = 2 * (j + 1) by omega]
                  · rw [up_two pairOf 0 L j hlj, ← hU, hx.out, hy.out, hM]
                    simp [List.getD_eq_getElem?_getD]
                case measure => simp [sliceLen]; have := hM2l.out; omega
              · have hltb : decide ((1 : Int) < (M.length : Int)) = false := decide_eq_false (by omega)
                have hW : upOf pairOf L = U ++ M := by
                  obtain ⟨_, j, hj, hM, hU⟩ := HM.out
                  have h1 := upOf_append pairOf (L.take (2 * j)) (L.drop (2 * j)) (by rw [List.length_take]; omega)
                  rw [List.take_append_drop, ← hU, ← hM] at h1
                  rw [h1]
                  congr 1
                  match M, hlt with
                  | [], _ => rfl
                  | [_], _ => rfl
                  | _ :: _ :: _, h => simp at h
                have hHL := HL.out
                have hWl : (U ++ M).length = (L.length + 1) / 2 := by rw [← hW, upOf_length]
                have hroom : (U.length + M.length) * 8 ≤ 140737488355328 := by omega
                have hroom5 : (Ls.length + 1) * 24 ≤ 140737488355328 := by omega
                have h5lt := Kd.R_lt HO5.out
                have hnew : ∀ k, wo.heap.size ≤ k → some k ≠ (Value.slice A5 Ls.length c5).ownBlock := fun k hk he => by have := h5lt k he.symm; omega
                replace h5lt := Aside0.mk h5lt
                replace hHL := Aside0.mk hHL
                replace hW := Aside0.mk hW
                replace hWl := Aside0.mk hWl
                replace hnew := Aside0.mk hnew
                have HCM2 := Aside0.mk (Kd.C_below HCM.out HB6.out)
                go_wp2_with (first
                  | (refine Kd.R_append_rows (Kd.int .u64) (Rr := (Kd.int .u64).K wr) wo.heap.size rfl (.tmp 51) (.tmp 52) 42 23 (.int .u64 0) 8 rfl Try.underlying42 t_info23 rfl (by decide) (by decide) (.slice A6 U.length c6) U M A3 M.length c3 (fun _ => True) (fun _ => False) rfl rfl HO6.out HCM2.out (fun _ _ h => h) (fun _ h => h.elim) (fun _ _ => trivial) HB6.out HB6.out.size hroom ?_; intro v7 w7 HO7 HB7 hg7 hat7; obtain ⟨A7, c7, hv7⟩ := Kd.R_slice HO7; subst hv7; have hM7 := Aside0.mk (show Kd.R (Kd.int .u64) 23 w7 w.heap.size (fun k => wo.heap.size ≤ k) (.slice A7 (U ++ M).length c7) (U ++ M) from Kd.R_lower (Kd.R_mono (Kd.R_bound HO7) (fun k hk => hk.2.1)) HB.out.size); generalize U ++ M = X at *)
                  | (refine Kd.R_append (Kd.slice 23 (Kd.int .u64)) w.heap.size rfl (.tmp 54) (.tmp 56) 54 42 (.slice none 0 0) 24 rfl Try.underlying54 t_info42 rfl (by decide) (by decide) (.slice A5 Ls.length c5) Ls X [.slice A7 X.length c7] (fun _ => True) (fun k => wo.heap.size ≤ k) rfl rfl ⟨_, rfl, hM7.out⟩ (fun k hk => ⟨trivial, hnew.out k hk⟩) (fun _ _ => trivial) (Kd.R_below HO5.out HB7) (below_step HB.out HB7) (below_step HB.out HB7).size hroom5 ?_; intro v9 w9 HO9 HB9 hg9 hat9))
                have hC9 := (Kd.R_reads' (Kd.R_grown hM7.out hg9 (fun k hk => hnew.out k hk))).2
                go_roundw
                case rel =>
                  refine ⟨X, Ls ++ [X], A7, c7, rfl, ⟨hC9.1, ?_, ?_, ?_, ?_, ?_⟩, ⟨hC9.2⟩, ⟨HO9⟩, ⟨HB9⟩⟩
                  · have := hWl.out; omega
                  · have := hWl.out; have := hHL.out; simp; omega
                  · simp
                  · rw [← hW.out]; exact upOf_all pairOf (fun a b => hash_u64 _) L hHL.out.2.2.2.2.1
                  · have h := hHL.out.2.2.2.2.2
                    rw [levelsOf_go pairOf L (by omega), List.tail_cons, hW.out] at h
                    rw [List.append_assoc, List.singleton_append, ← levelsOf_head]; exact h
                case measure => simp [sliceLen]; have := hWl.out; omega
          · have hgt1 : decide ((1 : Int) < (L.length : Int)) = false := decide_eq_false (by omega)
            go_wp2
            go_ret
            refine ⟨_, rfl, ?_, HB.out⟩
            have h := HL.out.2.2.2.2.2
            rw [levelsOf_stop _ _ (by omega)] at h
            simp at h
            rw [← h]; exact HO5.out
theorem wrackref1_Levels.calls (A0 : Option Addr) (c0 : Nat) (l0 : List Int) (r : List (List Int)) (w : World) (hr0 : Kd.C (Kd.int .u8) w A0 l0.length l0) (hc0 : l0.length ≤ c0) (h : wrackref1_Levels.f l0 = some r) :
    Calls Try.prog 35 #[.slice A0 l0.length c0] w fun e w' => ∃ v0_ : Value, e = .returned (v0_) ∧ Kd.R (Kd.slice 23 (Kd.int .u64)) 42 w' w.heap.size (fun _ => True) v0_ r ∧ Below w.heap.size w w' := by
  unfold wrackref1_Levels.f at h
  split at h
  · rename_i hh
    obtain rfl := Option.some.inj h
    exact Levels_any A0 c0 l0 w hr0 hc0 hh.2 hh.1
  · exact absurd h (by simp)


/-! ### sum_Prove: function 36 -/
mutual
def sum_Prove.j0 : Nat → List Int → Int → Bool → Option (List Int × Int)
  | 0, _, _, _ => none
  | k + 1, x0, x1, x17 => if x17 = true then (some (([] : List Int), 4)) else ((sum_levels.f x0).bind fun t149 => (sum_Prove.l0 k x1 ([] : List Int) t149 (t149.length : Int) 0))
def sum_Prove.l0 : Nat → Int → List Int → List (List Int) → Int → Int → Option (List Int × Int)
  | 0, _, _, _, _, _ => none
  | k + 1, x1, x6, x19, x20, x21 => if x21 < x20 then (if 0 ≤ x21 then (if x21 < (x19.length : Int) then (if (Go.bits .xor .i64 x1 1) < ((rd_L5 x19 x21).length : Int) then (if ((rd_L5 x19 x21).length : Int) > 1 then (if 0 ≤ (Go.bits .xor .i64 x1 1) then (if x6.length < 17592186044416 then (sum_Prove.l0 k (wrap64 (Int.tdiv x1 2)) (x6 ++ [rd (rd_L5 x19 x21) (Go.bits .xor .i64 x1 1)]) x19 x20 (wrap64 (x21 + 1))) else (none)) else (none)) else (sum_Prove.l0 k (wrap64 (Int.tdiv x1 2)) x6 x19 x20 (wrap64 (x21 + 1)))) else (sum_Prove.l0 k (wrap64 (Int.tdiv x1 2)) x6 x19 x20 (wrap64 (x21 + 1)))) else (none)) else (none)) else (some (x6, 0))
end
def sum_Prove.f (k : Nat) (l0 : List Int) (a1 : Int) : Option (List Int × Int) := if a1 < 0 then (sum_Prove.j0 k l0 a1 true) else ((sum_Blocks.f l0).bind fun t148 => (sum_Prove.j0 k l0 a1 (decide (a1 ≥ t148))))
theorem sum_Prove.mono_l : ∀ k, (∀ y0 y1 y2, LeO (sum_Prove.j0 k y0 y1 y2) (sum_Prove.j0 (k + 1) y0 y1 y2)) ∧ (∀ y0 y1 y2 y3 y4, LeO (sum_Prove.l0 k y0 y1 y2 y3 y4) (sum_Prove.l0 (k + 1) y0 y1 y2 y3 y4))
  | 0 => ⟨fun _ _ _ r h => by simp [sum_Prove.j0] at h, fun _ _ _ _ _ r h => by simp [sum_Prove.l0] at h⟩
  | k + 1 => by
    obtain ⟨ih0, ih1⟩ := sum_Prove.mono_l k
    refine ⟨?_, ?_⟩
    · intro y0 y1 y2
      unfold sum_Prove.j0
      repeat' first
      | (with_reducible exact ih0 _ _ _)
      | (with_reducible exact ih1 _ _ _ _ _)
      | (with_reducible exact LeO.refl _)
      | (with_reducible exact LeO.none _)
      | (with_reducible refine LeO.ite ?_ ?_)
      | (with_reducible refine LeO.bind ?_ (fun _ => ?_))
      | exact ih0 _ _ _
      | exact ih1 _ _ _ _ _
      | exact LeO.none _
      | refine LeO.ite ?_ ?_
      | refine LeO.bind ?_ (fun _ => ?_)
    · intro y0 y1 y2 y3 y4
      unfold sum_Prove.l0
      repeat' first
      | (with_reducible exact ih0 _ _ _)
      | (with_reducible exact ih1 _ _ _ _ _)
      | (with_reducible exact LeO.refl _)
      | (with_reducible exact LeO.none _)
      | (with_reducible refine LeO.ite ?_ ?_)
      | (with_reducible refine LeO.bind ?_ (fun _ => ?_))
      | exact ih0 _ _ _
      | exact ih1 _ _ _ _ _
      | exact LeO.none _
      | refine LeO.ite ?_ ?_
      | refine LeO.bind ?_ (fun _ => ?_)
theorem sum_Prove.mono : ∀ a0 a1 k, LeO (sum_Prove.f k a0 a1) (sum_Prove.f (k + 1) a0 a1) := by
  intro a0 a1 k
  obtain ⟨ih0, ih1⟩ := sum_Prove.mono_l k
  unfold sum_Prove.f
  repeat' first
      | (with_reducible exact ih0 _ _ _)
      | (with_reducible exact ih1 _ _ _ _ _)
      | (with_reducible exact LeO.refl _)
      | (with_reducible exact LeO.none _)
      | (with_reducible refine LeO.ite ?_ ?_)
      | (with_reducible refine LeO.bind ?_ (fun _ => ?_))
      | exact ih0 _ _ _
      | exact ih1 _ _ _ _ _
      | exact LeO.none _
      | refine LeO.ite ?_ ?_
      | refine LeO.bind ?_ (fun _ => ?_)
set_option maxHeartbeats 8000000 in
set_option maxRecDepth 100000 in
theorem sum_Prove.calls (k : Nat) (A0 : Option Addr) (c0 : Nat) (l0 : List Int) (a1 : Int) (r1 : List Int) (r2 : Int) (w : World) (hr0 : Kd.C (Kd.int .u8) w A0 l0.length l0) (hc0 : l0.length ≤ c0) (h : sum_Prove.f k l0 a1 = some (r1, r2)) :
    Calls Try.prog 36 #[.slice A0 l0.length c0, .int .i64 a1] w fun e w' => ∃ v0_ : Value, e = .returned (.tuple #[v0_, .int .i64 r2]) ∧ Kd.R (Kd.int .u64) 23 w' w.heap.size (fun _ => True) v0_ r1 ∧ Below w.heap.size w w' := by
  have HR0 := Aside0.mk hr0
  have HC0 := Aside0.mk hc0
  clear hr0 hc0
  have HB := Aside0.mk (Below.refl w.heap.size w)
  have H : (if a1 < 0 then (sum_Prove.j0 k l0 a1 true) else ((sum_Blocks.f l0).bind fun t148 => (sum_Prove.j0 k l0 a1 (decide (a1 ≥ t148))))) = some (r1, r2) := h
  clear h
  have HC3 := Aside0.mk H
  clear H
  go_enter Try.func36, Try.ntmps36
  go_upto_region 1 with (fail)
  go_cut [17] (fun v17 wc => ∃ (kq : Nat) (x17_2 : Bool), v17 = .bool x17_2 ∧ Aside0 (sum_Prove.j0 kq l0 a1 x17_2 = some (r1, r2)) ∧ Aside0 (kq ≤ k) ∧ Aside0 (Below w.heap.size w wc))
  case first =>
    have H := HC3.out
    clear HC3
    by_cases c4 : a1 < 0
    · rw [if_pos c4] at H
      have c4b0 : decide (a1 < 0) = true := decide_eq_true c4
      clear c4
      (first | rw [c4b0] | (simp only [i64_w, i32_w]; rw [c4b0]) | skip)
      have H' := Aside0.mk H
      clear H
      go_wp2
      go_meet
      case rel => exact ⟨_, (true), (by first | rfl | (simp; done) | (simp [*]; done)), H', ⟨by first | omega | exact Nat.le_refl _⟩, ⟨by repeat (first | (with_reducible first | exact HB.out | apply below_alloc | apply pw_below_drewN | apply below_drew1) | exact HB.out)⟩⟩
    · rw [if_neg c4] at H
      have c4b0 : decide (a1 < 0) = false := decide_eq_false c4
      clear c4
      (first | rw [c4b0] | (simp only [i64_w, i32_w]; rw [c4b0]) | skip)
      replace H := Option.bind_eq_some_iff.mp H
      obtain ⟨t148, A50, H⟩ := H
      replace H : (sum_Prove.j0 k l0 a1 (decide (a1 ≥ t148))) = some (r1, r2) := H
      have A5 := Aside0.mk A50
      clear A50
      have H' := Aside0.mk H
      clear H
      go_wp2_with (first | (go_at_call 37; (with_reducible refine (sum_Blocks.calls _ _ l0 t148 _ ?side1 ?side2 A5.out).mono ?_); (case side1 => repeat (first | exact (Kd.C_below HR0.out HB.out) | (with_reducible refine Kd.C_alloc ?_ _) | (with_reducible refine Kd.C_drewN ?_ _) | (with_reducible refine Kd.C_drew ?_))); (case side2 => exact HC0.out); rintro e w6 ⟨rfl, hb⟩; have n0_ := Aside0.mk (below_step (by repeat (first | (with_reducible first | exact HB.out | apply below_alloc | apply pw_below_drewN | apply below_drew1) | exact HB.out)) hb); clear HB; have HB := n0_; clear n0_; (try clear hb); (try clear hb2); (try clear hk); (try clear hi)))
      go_meet
      case rel => exact ⟨_, (decide (a1 ≥ t148)), (by first | rfl | (simp; done) | (simp [*]; done)), H', ⟨by first | omega | exact Nat.le_refl _⟩, ⟨by repeat (first | (with_reducible first | exact HB.out | apply below_alloc | apply pw_below_drewN | apply below_drew1) | exact HB.out)⟩⟩
  case rest =>
    clear HC3
    try clear p2
    try clear c3
    try clear c4
    try clear c4b0
    obtain ⟨kq, x17_2, rfl, HA, HJ2, HB⟩ := hcut
    cases kq with
    | zero => exact absurd HA.out (by simp [sum_Prove.j0])
    | succ kj2 =>
      have H := HA.out
      clear HA
      simp only [sum_Prove.j0] at H
      by_cases c7 : x17_2 = true
      · subst c7
        have H1 : (some (([] : List Int), 4)) = some (r1, r2) := by rw [if_pos rfl] at H; exact H
        clear H
        have H := H1
        clear H1
        simp only [Option.some.injEq, Prod.mk.injEq] at H
        obtain ⟨rfl, rfl⟩ := H
        go_wp2
        go_ret2
        exact ⟨_, by first | rfl | (simp [errW_none, errW_some] <;> rfl) | (simp [*, errW_none, errW_some] <;> rfl), by first | exact Kd.R_nil _ _ _ _ _ | exact Kd.N_nil _ _ _ _ _ | exact Kd.V_nil _ _ _ _ _ | exact Kd.Q_nil _ _ _ _ _ | exact Kd.S_nil _ _ _ _ _, by repeat (first | (with_reducible first | exact HB.out | apply below_alloc | apply pw_below_drewN | apply below_drew1) | exact HB.out)⟩
      · replace c7 := Bool.eq_false_iff.mpr c7
        subst c7
        have H1 : ((sum_levels.f l0).bind fun t149 => (sum_Prove.l0 kj2 a1 ([] : List Int) t149 (t149.length : Int) 0)) = some (r1, r2) := by rw [if_neg (show ¬ (false = true) by decide)] at H; exact H
        clear H
        have H := H1
        clear H1
        replace H := Option.bind_eq_some_iff.mp H
        obtain ⟨t149, A80, H⟩ := H
        replace H : (sum_Prove.l0 kj2 a1 ([] : List Int) t149 (t149.length : Int) 0) = some (r1, r2) := H
        have A8 := Aside0.mk A80
        clear A80
        have H' := Aside0.mk H
        clear H
        go_wp2_with (first | ((with_reducible refine gate_callee (f := 85) rfl ?_); refine goesL_ (some 19) rfl rfl Try.func85 (by kernel_rfl) rfl #[.slice A0 l0.length c0] rfl (by (try simp only [List.map_toArray, List.map_cons, List.map_nil]); first | done | rfl | (simp only [List.length_drop, List.length_take]; rfl)) ?_; (with_reducible refine (sum_levels.calls _ _ l0 t149 _ ?side1 ?side2 A8.out).mono ?_); (case side1 => repeat (first | exact (Kd.C_below HR0.out HB.out) | (with_reducible refine Kd.C_alloc ?_ _) | (with_reducible refine Kd.C_drewN ?_ _) | (with_reducible refine Kd.C_drew ?_))); (case side2 => exact HC0.out); rintro e w9 ⟨v150, rfl, ho0, hb⟩; refine ⟨_, rfl, ?_⟩; have n0_ := Aside0.mk (Kd.R_lower ho0 (below_size (by repeat (first | (with_reducible first | exact HB.out | apply below_alloc | apply pw_below_drewN | apply below_drew1) | exact HB.out)))); have n1_ := Aside0.mk (below_step (by repeat (first | (with_reducible first | exact HB.out | apply below_alloc | apply pw_below_drewN | apply below_drew1) | exact HB.out)) hb); clear HB; have HO151 := n0_; have HB := n1_; clear n0_ n1_; (try clear hb); (try clear hb2); (try clear hk); (try clear hi); (try clear ho0); obtain ⟨Ao10, co10, eo10⟩ := Kd.R_slice HO151.out; subst eo10))
        go_loopg [1, 6, 21] kj2 (fun kq v1 v6 v21 w' => ∃ (x1_2 : Int) (x6_2 : List Int) (x21_2 : Int), v1 = .int .i64 x1_2 ∧ v21 = .int .i64 x21_2 ∧ Aside0 (sum_Prove.l0 kq x1_2 x6_2 t149 (t149.length : Int) x21_2 = some (r1, r2)) ∧ Aside0 (kq ≤ kj2) ∧ Aside0 (Kd.R (Kd.int .u64) 23 w' w.heap.size (fun _ => True) v6 x6_2) ∧ Aside0 (Kd.R (Kd.slice 23 (Kd.int .u64)) 42 w' w.heap.size (fun k_ => some k_ ≠ (v6 : Value).ownBlock) (.slice Ao10 t149.length co10) t149) ∧ Aside0 (Below w.heap.size w w'))
        case atStart => exact ⟨(a1), (([] : List Int)), (0), (by first | rfl | (simp; done) | (simp [*]; done)), (by first | rfl | (simp; done) | (simp [*]; done)), H', ⟨Nat.le_refl _⟩, ⟨by first | exact Kd.R_nil _ _ _ _ _ | exact Kd.N_nil _ _ _ _ _ | exact Kd.V_nil _ _ _ _ _ | exact Kd.Q_nil _ _ _ _ _ | exact Kd.S_nil _ _ _ _ _⟩, ⟨by (with_reducible repeat (first | apply Kd.R_alloc | apply Kd.R_drewN | apply Kd.R_drew)); exact Kd.R_mono HO151.out (fun _ hk => (by simp [Value.ownBlock]))⟩, ⟨by repeat (first | (with_reducible first | exact HB.out | apply below_alloc | apply pw_below_drewN | apply below_drew1) | exact HB.out)⟩⟩
        case round =>
          clear H'
          try clear p2
          try clear c3
          try clear c4
          try clear c4b0
          try clear c7
          try clear c8
          try clear p2
          obtain ⟨x1_2, x6_2, x21_2, rfl, rfl, HA, HK2, HO_6, HO_19, HB⟩ := hrel
          cases gk with
          | zero => exact absurd HA.out (by simp [sum_Prove.l0])
          | succ k2 =>
            have H := HA.out
            clear HA
            simp only [sum_Prove.l0] at H
            by_cases c11 : x21_2 < (t149.length : Int)
            · rw [if_pos c11] at H
              have c11b0 : decide (x21_2 < (t149.length : Int)) = true := decide_eq_true c11
              clear c11
              by_cases c12 : 0 ≤ x21_2
              · rw [if_pos c12] at H
                have c12b0 : decide (0 ≤ x21_2) = true := decide_eq_true c12
                clear c12
                by_cases c13 : x21_2 < (t149.length : Int)
                · rw [if_pos c13] at H
                  have c13b0 : decide (x21_2 < (t149.length : Int)) = true := decide_eq_true c13
                  clear c13
                  by_cases c14 : (Go.bits .xor .i64 x1_2 1) < ((rd_L5 t149 x21_2).length : Int)
                  · rw [if_pos c14] at H
                    have c14b0 : decide ((Go.bits .xor .i64 x1_2 1) < ((rd_L5 t149 x21_2).length : Int)) = true := decide_eq_true c14
                    clear c14
                    by_cases c15 : ((rd_L5 t149 x21_2).length : Int) > 1
                    · rw [if_pos c15] at H
                      have c15b0 : decide (1 < ((rd_L5 t149 x21_2).length : Int)) = true := decide_eq_true c15
                      have c15b1 : decide (1 < (rd_L5 t149 x21_2).length) = true := decide_eq_true (by omega)
                      clear c15
                      by_cases c16 : 0 ≤ (Go.bits .xor .i64 x1_2 1)
                      · rw [if_pos c16] at H
                        have c16b0 : decide (0 ≤ (Go.bits .xor .i64 x1_2 1)) = true := decide_eq_true c16
                        clear c16
                        by_cases c17 : x6_2.length < 17592186044416
                        · rw [if_pos c17] at H
                          have LMc17 := Aside0.mk c17
                          clear c17
                          obtain ⟨y154, hy154⟩ : ∃ y_ : List Int, y_ = (x6_2 ++ [rd (rd_L5 t149 x21_2) (Go.bits .xor .i64 x1_2 1)]) := ⟨_, rfl⟩
                          replace H : (sum_Prove.l0 k2 (wrap64 (Int.tdiv x1_2 2)) y154 t149 (t149.length : Int) (wrap64 (x21_2 + 1))) = some (r1, r2) := by first | (rw [hy154]; with_reducible exact H) | (have H2_ := (Option.bind_some _ _).symm.trans H; rw [hy154]; with_reducible exact H2_) | (have H2_ := (Option.bind_some _ _).symm.trans H; with_reducible exact H2_) | with_reducible exact H | (rw [hy154]; exact H) | exact H
                          have Ny154 := Aside0.mk hy154
                          clear hy154
                          have H' := Aside0.mk H
                          clear H
                          have p152 : 0 ≤ (x21_2 : Int) := of_decide_eq_true (by first | (with_reducible assumption) | assumption)
                          have q152 : x21_2 < (t149.length : Int) := of_decide_eq_true (by first | (with_reducible assumption) | assumption)
                          try (obtain ⟨ax_, cx_, ex_⟩ := Kd.R_slice HO_19.out; subst ex_)
                          obtain ⟨ad152, A152_0, c152_0, e152, hx152_0, hl152_0, hi152_0⟩ := at_L5 (Kd.R_reads' HO_19.out).2.2 x21_2 p152 q152
                          cases e152
                          obtain ⟨ce152, hce152, hMe152, hcc152⟩ := Kd.R_get HO_19.out [] x21_2 p152 (by first | exact q152 | exact of_decide_eq_true (by first | (with_reducible assumption) | assumption) | (have e_ := (Kd.R_reads' HO_19.out).1; omega))
                          obtain ⟨ve152_0, rfl, ge152_0⟩ := hMe152
                          have hv152_0 := hcc152 0 _ rfl
                          rw [Nat.add_zero, show ((Kd.slice 23 (Kd.int .u64))).sz = 1 from rfl, Nat.mul_one] at hv152_0
                          replace hv152_0 := Option.some.inj (hv152_0.symm.trans hx152_0)
                          rw [hv152_0] at ge152_0
                          have HL152_0 := Aside0.mk (show Kd.R (Kd.int .u64) 23 _ _ _ _ (rd_L5 t149 x21_2) from ge152_0)
                          clear hv152_0 ge152_0
                          clear hcc152 hce152
                          have HR152_0 := Aside0.mk hi152_0
                          have HC152_0 := Aside0.mk hl152_0
                          clear hi152_0 hl152_0
                          replace p152 := eq_true p152
                          replace q152 := eq_true q152
                          have p153 : 0 ≤ ((Go.bits .xor .i64 x1_2 1) : Int) := of_decide_eq_true (by first | (with_reducible assumption) | assumption)
                          have q153 : (Go.bits .xor .i64 x1_2 1) < ((rd_L5 t149 x21_2).length : Int) := of_decide_eq_true (by first | (with_reducible assumption) | assumption)
                          obtain ⟨ad153, e153, hx153_0⟩ := Kd.at_int (by repeat (first | (with_reducible exact HR152_0.out) | (with_reducible refine Kd.C_alloc ?_ _) | (with_reducible refine Kd.C_drewN ?_ _) | (with_reducible refine Kd.C_drew ?_) | exact HR152_0.out)) (Go.bits .xor .i64 x1_2 1) p153 q153
                          cases e153
                          replace p153 := eq_true p153
                          replace q153 := eq_true q153
                          go_wp2_with (first | ((with_reducible refine gate_builtin (b := .append) (xs := #[.tmp 36, .tmp 41]) rfl ?_); (try (refine gate_guard (by rfl) ?_; dsimp only)); at_builtin; refine Kd.R_append (Kd.int .u64) (w0 := w) w.heap.size rfl (.tmp 36) (.tmp 41) 42 23 (.int .u64 0) 8 rfl Try.underlying42 info23 rfl (by decide) (by omega) u6 x6_2 (rd (rd_L5 t149 x21_2) (Go.bits .xor .i64 x1_2 1)) [.int .u64 (rd (rd_L5 t149 x21_2) (Go.bits .xor .i64 x1_2 1))] (fun _ => True) (fun _ => False) rfl rfl ?aP (fun _ hk => hk.elim) ?aF ?aO ?aB ?aS ?aL ?_; (case aP => exact rfl); (case aB => exact (by repeat (first | (with_reducible first | exact HB.out | apply below_alloc | apply pw_below_drewN | apply below_drew1) | exact HB.out))); (case aF => exact (fun _ _ => trivial)); (case aO => exact (by (with_reducible repeat (first | apply Kd.R_alloc | apply Kd.R_drewN | apply Kd.R_drew)); exact HO_6.out)); (case aS => exact (below_size (by repeat (first | (with_reducible first | exact HB.out | apply below_alloc | apply pw_below_drewN | apply below_drew1) | exact HB.out)))); (case aL => have := LMc17.out; omega); intro v155 w18 ho hb hg hat; rw [← Ny154.out] at ho; have n0_ := Aside0.mk (Kd.R_after (ok := (fun _ => True)) (by (with_reducible repeat (first | apply Kd.R_alloc | apply Kd.R_drewN | apply Kd.R_drew)); exact Kd.R_mono HO_19.out (fun _ hk => ⟨trivial, hk⟩)) hg hat); have n1_ := Aside0.mk (Kd.R_after (ok := (fun k_ => some k_ ≠ (.slice (some ad152) t149.length co10 : Value).ownBlock)) (by (with_reducible repeat (first | apply Kd.R_alloc | apply Kd.R_drewN | apply Kd.R_drew)); exact Kd.R_mono HL152_0.out (fun _ hk => ⟨hk.2, hk.1⟩)) hg hat); have n2_ := Aside0.mk (hb); have n3_ := Aside0.mk (ho); clear HO_19; clear HL152_0; clear HB; clear HO_6; have HO_19 := n0_; have HL152_0 := n1_; have HB := n2_; have HO156 := n3_; clear n0_ n1_ n2_ n3_; clear ho hb hg hat))
                          go_roundg k2
                          case measure => have := HJ2.out; have := HK2.out; omega
                          case rel => exact ⟨(wrap64 (Int.tdiv x1_2 2)), (y154), (wrap64 (x21_2 + 1)), (by first | rfl | (simp; done) | (simp [*]; done)), (by first | rfl | (simp; done) | (simp [*]; done)), H', ⟨by have := HJ2.out; have := HK2.out; omega⟩, ⟨by (with_reducible repeat (first | apply Kd.R_alloc | apply Kd.R_drewN | apply Kd.R_drew)); exact HO156.out⟩, ⟨by (with_reducible repeat (first | apply Kd.R_alloc | apply Kd.R_drewN | apply Kd.R_drew)); exact Kd.R_mono HO_19.out (fun _ hk => hk.2)⟩, ⟨by repeat (first | (with_reducible first | exact HB.out | apply below_alloc | apply pw_below_drewN | apply below_drew1) | exact HB.out)⟩⟩
                        · rw [if_neg c17] at H
                          exact absurd H (by simp)
                      · rw [if_neg c16] at H
                        exact absurd H (by simp)
                    · rw [if_neg c15] at H
                      have c15b0 : decide (1 < ((rd_L5 t149 x21_2).length : Int)) = false := decide_eq_false c15
                      have c15b1 : decide (1 < (rd_L5 t149 x21_2).length) = false := decide_eq_false (by omega)
                      clear c15
                      have H' := Aside0.mk H
                      clear H
                      have p152 : 0 ≤ (x21_2 : Int) := of_decide_eq_true (by first | (with_reducible assumption) | assumption)
                      have q152 : x21_2 < (t149.length : Int) := of_decide_eq_true (by first | (with_reducible assumption) | assumption)
                      try (obtain ⟨ax_, cx_, ex_⟩ := Kd.R_slice HO_19.out; subst ex_)
                      obtain ⟨ad152, A152_0, c152_0, e152, hx152_0, hl152_0, hi152_0⟩ := at_L5 (Kd.R_reads' HO_19.out).2.2 x21_2 p152 q152
                      cases e152
                      obtain ⟨ce152, hce152, hMe152, hcc152⟩ := Kd.R_get HO_19.out [] x21_2 p152 (by first | exact q152 | exact of_decide_eq_true (by first | (with_reducible assumption) | assumption) | (have e_ := (Kd.R_reads' HO_19.out).1; omega))
                      obtain ⟨ve152_0, rfl, ge152_0⟩ := hMe152
                      have hv152_0 := hcc152 0 _ rfl
                      rw [Nat.add_zero, show ((Kd.slice 23 (Kd.int .u64))).sz = 1 from rfl, Nat.mul_one] at hv152_0
                      replace hv152_0 := Option.some.inj (hv152_0.symm.trans hx152_0)
                      rw [hv152_0] at ge152_0
                      have HL152_0 := Aside0.mk (show Kd.R (Kd.int .u64) 23 _ _ _ _ (rd_L5 t149 x21_2) from ge152_0)
                      clear hv152_0 ge152_0
                      clear hcc152 hce152
                      have HR152_0 := Aside0.mk hi152_0
                      have HC152_0 := Aside0.mk hl152_0
                      clear hi152_0 hl152_0
                      replace p152 := eq_true p152
                      replace q152 := eq_true q152
                      go_wp2
                      go_roundg k2
                      case measure => have := HJ2.out; have := HK2.out; omega
                      case rel => exact ⟨(wrap64 (Int.tdiv x1_2 2)), (x6_2), (wrap64 (x21_2 + 1)), (by first | rfl | (simp; done) | (simp [*]; done)), (by first | rfl | (simp; done) | (simp [*]; done)), H', ⟨by have := HJ2.out; have := HK2.out; omega⟩, ⟨by (with_reducible repeat (first | apply Kd.R_alloc | apply Kd.R_drewN | apply Kd.R_drew)); exact HO_6.out⟩, ⟨by (with_reducible repeat (first | apply Kd.R_alloc | apply Kd.R_drewN | apply Kd.R_drew)); exact HO_19.out⟩, ⟨by repeat (first | (with_reducible first | exact HB.out | apply below_alloc | apply pw_below_drewN | apply below_drew1) | exact HB.out)⟩⟩
                  · rw [if_neg c14] at H
                    have c14b0 : decide ((Go.bits .xor .i64 x1_2 1) < ((rd_L5 t149 x21_2).length : Int)) = false := decide_eq_false c14
                    clear c14
                    have H' := Aside0.mk H
                    clear H
                    have p152 : 0 ≤ (x21_2 : Int) := of_decide_eq_true (by first | (with_reducible assumption) | assumption)
                    have q152 : x21_2 < (t149.length : Int) := of_decide_eq_true (by first | (with_reducible assumption) | assumption)
                    try (obtain ⟨ax_, cx_, ex_⟩ := Kd.R_slice HO_19.out; subst ex_)
                    obtain ⟨ad152, A152_0, c152_0, e152, hx152_0, hl152_0, hi152_0⟩ := at_L5 (Kd.R_reads' HO_19.out).2.2 x21_2 p152 q152
                    cases e152
                    obtain ⟨ce152, hce152, hMe152, hcc152⟩ := Kd.R_get HO_19.out [] x21_2 p152 (by first | exact q152 | exact of_decide_eq_true (by first | (with_reducible assumption) | assumption) | (have e_ := (Kd.R_reads' HO_19.out).1; omega))
                    obtain ⟨ve152_0, rfl, ge152_0⟩ := hMe152
                    have hv152_0 := hcc152 0 _ rfl
                    rw [Nat.add_zero, show ((Kd.slice 23 (Kd.int .u64))).sz = 1 from rfl, Nat.mul_one] at hv152_0
                    replace hv152_0 := Option.some.inj (hv152_0.symm.trans hx152_0)
                    rw [hv152_0] at ge152_0
                    have HL152_0 := Aside0.mk (show Kd.R (Kd.int .u64) 23 _ _ _ _ (rd_L5 t149 x21_2) from ge152_0)
                    clear hv152_0 ge152_0
                    clear hcc152 hce152
                    have HR152_0 := Aside0.mk hi152_0
                    have HC152_0 := Aside0.mk hl152_0
                    clear hi152_0 hl152_0
                    replace p152 := eq_true p152
                    replace q152 := eq_true q152
                    go_wp2
                    go_roundg k2
                    case measure => have := HJ2.out; have := HK2.out; omega
                    case rel => exact ⟨(wrap64 (Int.tdiv x1_2 2)), (x6_2), (wrap64 (x21_2 + 1)), (by first | rfl | (simp; done) | (simp [*]; done)), (by first | rfl | (simp; done) | (simp [*]; done)), H', ⟨by have := HJ2.out; have := HK2.out; omega⟩, ⟨by (with_reducible repeat (first | apply Kd.R_alloc | apply Kd.R_drewN | apply Kd.R_drew)); exact HO_6.out⟩, ⟨by (with_reducible repeat (first | apply Kd.R_alloc | apply Kd.R_drewN | apply Kd.R_drew)); exact HO_19.out⟩, ⟨by repeat (first | (with_reducible first | exact HB.out | apply below_alloc | apply pw_below_drewN | apply below_drew1) | exact HB.out)⟩⟩
                · rw [if_neg c13] at H
                  exact absurd H (by simp)
              · rw [if_neg c12] at H
                exact absurd H (by simp)
            · rw [if_neg c11] at H
              have c11b0 : decide (x21_2 < (t149.length : Int)) = false := decide_eq_false c11
              clear c11
              simp only [Option.some.injEq, Prod.mk.injEq] at H
              obtain ⟨rfl, rfl⟩ := H
              go_wp2
              go_ret2
              exact ⟨_, by first | rfl | (simp [errW_none, errW_some] <;> rfl) | (simp [*, errW_none, errW_some] <;> rfl), by (with_reducible repeat (first | apply Kd.R_alloc | apply Kd.R_drewN | apply Kd.R_drew)); exact HO_6.out, by repeat (first | (with_reducible first | exact HB.out | apply below_alloc | apply pw_below_drewN | apply below_drew1) | exact HB.out)⟩

/-! ### slices_Equal_uint64_uint64: function 38 -/
def slices_Equal_uint64_uint64.l0 : Nat → List Int → List Int → Int → Int → Option (Bool)
  | 0, _, _, _, _ => none
  | k + 1, x0, x1, x12, x13 => if x13 < x12 then (if 0 ≤ x13 then (if x13 < (x0.length : Int) then (if x13 < (x1.length : Int) then (if (rd x0 x13) = (rd x1 x13) then (slices_Equal_uint64_uint64.l0 k x0 x1 x12 (wrap64 (x13 + 1))) else (some false)) else (none)) else (none)) else (none)) else (some true)
def slices_Equal_uint64_uint64.f (k : Nat) (l0 : List Int) (l1 : List Int) : Option (Bool) := if (l0.length : Int) = (l1.length : Int) then (slices_Equal_uint64_uint64.l0 k l0 l1 (l0.length : Int) 0) else (some false)
theorem slices_Equal_uint64_uint64.mono_l : ∀ k, (∀ y0 y1 y2 y3, LeO (slices_Equal_uint64_uint64.l0 k y0 y1 y2 y3) (slices_Equal_uint64_uint64.l0 (k + 1) y0 y1 y2 y3))
  | 0 => fun _ _ _ _ r h => by simp [slices_Equal_uint64_uint64.l0] at h
  | k + 1 => by
    have ih0 := slices_Equal_uint64_uint64.mono_l k
    · intro y0 y1 y2 y3
      unfold slices_Equal_uint64_uint64.l0
      repeat' first
      | (with_reducible exact ih0 _ _ _ _)
      | (with_reducible exact LeO.refl _)
      | (with_reducible exact LeO.none _)
      | (with_reducible refine LeO.ite ?_ ?_)
      | (with_reducible refine LeO.bind ?_ (fun _ => ?_))
      | exact ih0 _ _ _ _
      | exact LeO.none _
      | refine LeO.ite ?_ ?_
      | refine LeO.bind ?_ (fun _ => ?_)
theorem slices_Equal_uint64_uint64.mono : ∀ a0 a1 k, LeO (slices_Equal_uint64_uint64.f k a0 a1) (slices_Equal_uint64_uint64.f (k + 1) a0 a1) := by
  intro a0 a1 k
  have ih0 := slices_Equal_uint64_uint64.mono_l k
  unfold slices_Equal_uint64_uint64.f
  repeat' first
      | (with_reducible exact ih0 _ _ _ _)
      | (with_reducible exact LeO.refl _)
      | (with_reducible exact LeO.none _)
      | (with_reducible refine LeO.ite ?_ ?_)
      | (with_reducible refine LeO.bind ?_ (fun _ => ?_))
      | exact ih0 _ _ _ _
      | exact LeO.none _
      | refine LeO.ite ?_ ?_
      | refine LeO.bind ?_ (fun _ => ?_)
set_option maxHeartbeats 8000000 in
set_option maxRecDepth 100000 in
theorem slices_Equal_uint64_uint64.calls (k : Nat) (A0 : Option Addr) (c0 : Nat) (l0 : List Int) (A1 : Option Addr) (c1 : Nat) (l1 : List Int) (r : Bool) (w : World) (hr0 : Kd.C (Kd.int .u64) w A0 l0.length l0) (hc0 : l0.length ≤ c0) (hr1 : Kd.C (Kd.int .u64) w A1 l1.length l1) (hc1 : l1.length ≤ c1) (h : slices_Equal_uint64_uint64.f k l0 l1 = some r) :
    Calls Try.prog 38 #[.slice A0 l0.length c0, .slice A1 l1.length c1] w fun e w' => e = .returned (.bool r) ∧ Drawn0 w w' := by
  have HR0 := Aside0.mk hr0
  have HC0 := Aside0.mk hc0
  clear hr0 hc0
  have HR1 := Aside0.mk hr1
  have HC1 := Aside0.mk hc1
  clear hr1 hc1
  have H : (if (l0.length : Int) = (l1.length : Int) then (slices_Equal_uint64_uint64.l0 k l0 l1 (l0.length : Int) 0) else (some false)) = some r := h
  clear h
  by_cases c3 : (l0.length : Int) = (l1.length : Int)
  · rw [if_pos c3] at H
    have c3b0 : ((l0.length : Int) == (l1.length : Int)) = true := beq_iff_eq.mpr c3
    have c3b1 : ((l0.length : Int) != (l1.length : Int)) = false := bne_eq_false_iff_eq.mpr c3
    have c3b2 : (l0.length == l1.length) = true := by first | simpa using c3 | (simp at c3 ⊢; omega)
    clear c3
    have H' := Aside0.mk H
    clear H
    go_enter Try.func38, Try.ntmps38
    go_wp2
    repeat (go_quiet (fail); try go_wp2)
    go_loopg [13] k (fun kq v13 w' => ∃ (x13_1 : Int), v13 = .int .i64 x13_1 ∧ Aside0 (slices_Equal_uint64_uint64.l0 kq l0 l1 (l0.length : Int) x13_1 = some r) ∧ Aside0 (kq ≤ k) ∧ Drawn0 w w')
    case atStart => exact ⟨(0), (by first | rfl | (simp; done) | (simp [*]; done)), H', ⟨Nat.le_refl _⟩, by repeat (first | exact Drawn0.refl _ | apply Drawn0.step)⟩
    case round =>
      clear H'
      try clear c1
      try clear p2
      try clear c3
      try clear c3b0
      try clear c3b1
      try clear c3b2
      obtain ⟨x13_1, rfl, HA, HK1, ⟨m1, rfl⟩⟩ := hrel
      cases gk with
      | zero => exact absurd HA.out (by simp [slices_Equal_uint64_uint64.l0])
      | succ k1 =>
        have H := HA.out
        clear HA
        simp only [slices_Equal_uint64_uint64.l0] at H
        by_cases c4 : x13_1 < (l0.length : Int)
        · rw [if_pos c4] at H
          have c4b0 : decide (x13_1 < (l0.length : Int)) = true := decide_eq_true c4
          clear c4
          by_cases c5 : 0 ≤ x13_1
          · rw [if_pos c5] at H
            have c5b0 : decide (0 ≤ x13_1) = true := decide_eq_true c5
            clear c5
            by_cases c6 : x13_1 < (l0.length : Int)
            · rw [if_pos c6] at H
              have c6b0 : decide (x13_1 < (l0.length : Int)) = true := decide_eq_true c6
              clear c6
              by_cases c7 : x13_1 < (l1.length : Int)
              · rw [if_pos c7] at H
                have c7b0 : decide (x13_1 < (l1.length : Int)) = true := decide_eq_true c7
                clear c7
                by_cases c8 : (rd l0 x13_1) = (rd l1 x13_1)
                · rw [if_pos c8] at H
                  have c8b0 : ((rd l0 x13_1) == (rd l1 x13_1)) = true := beq_iff_eq.mpr c8
                  have c8b1 : ((rd l0 x13_1) != (rd l1 x13_1)) = false := bne_eq_false_iff_eq.mpr c8
                  clear c8
                  have H' := Aside0.mk H
                  clear H
                  have p157 : 0 ≤ (x13_1 : Int) := of_decide_eq_true (by first | (with_reducible assumption) | assumption)
                  have q157 : x13_1 < (l0.length : Int) := of_decide_eq_true (by first | (with_reducible assumption) | assumption)
                  obtain ⟨ad157, e157, hx157_0⟩ := Kd.at_int HR0.out x13_1 p157 q157
                  cases e157
                  replace p157 := eq_true p157
                  replace q157 := eq_true q157
                  have p158 : 0 ≤ (x13_1 : Int) := of_decide_eq_true (by first | (with_reducible assumption) | assumption)
                  have q158 : x13_1 < (l1.length : Int) := of_decide_eq_true (by first | (with_reducible assumption) | assumption)
                  obtain ⟨ad158, e158, hx158_0⟩ := Kd.at_int HR1.out x13_1 p158 q158
                  cases e158
                  replace p158 := eq_true p158
                  replace q158 := eq_true q158
                  go_wp2
                  repeat (go_quiet (fail); try go_wp2)
                  go_roundg k1
                  case measure => have := HK1.out; omega
                  case rel => exact ⟨(wrap64 (x13_1 + 1)), (by first | rfl | (simp; done) | (simp [*]; done)), H', ⟨by have := HK1.out; omega⟩, by repeat (first | exact Drawn0.refl _ | apply Drawn0.step)⟩
                · rw [if_neg c8] at H
                  have c8b0 : ((rd l0 x13_1) == (rd l1 x13_1)) = false := beq_eq_false_iff_ne.mpr c8
                  have c8b1 : ((rd l0 x13_1) != (rd l1 x13_1)) = true := bne_iff_ne.mpr c8
                  obtain rfl := Option.some.inj H
                  have p157 : 0 ≤ (x13_1 : Int) := of_decide_eq_true (by first | (with_reducible assumption) | assumption)
                  have q157 : x13_1 < (l0.length : Int) := of_decide_eq_true (by first | (with_reducible assumption) | assumption)
                  obtain ⟨ad157, e157, hx157_0⟩ := Kd.at_int HR0.out x13_1 p157 q157
                  cases e157
                  replace p157 := eq_true p157
                  replace q157 := eq_true q157
                  have p158 : 0 ≤ (x13_1 : Int) := of_decide_eq_true (by first | (with_reducible assumption) | assumption)
                  have q158 : x13_1 < (l1.length : Int) := of_decide_eq_true (by first | (with_reducible assumption) | assumption)
                  obtain ⟨ad158, e158, hx158_0⟩ := Kd.at_int HR1.out x13_1 p158 q158
                  cases e158
                  replace p158 := eq_true p158
                  replace q158 := eq_true q158
                  go_wp2
                  repeat (go_quiet (fail); try go_wp2)
                  go_ret
                  exact ⟨by first | rfl | (simp; done) | (simp [*]; done), by repeat (first | exact Drawn0.refl _ | apply Drawn0.step)⟩
              · rw [if_neg c7] at H
                exact absurd H (by simp)
            · rw [if_neg c6] at H
              exact absurd H (by simp)
          · rw [if_neg c5] at H
            exact absurd H (by simp)
        · rw [if_neg c4] at H
          have c4b0 : decide (x13_1 < (l0.length : Int)) = false := decide_eq_false c4
          clear c4
          obtain rfl := Option.some.inj H
          go_wp2
          repeat (go_quiet (fail); try go_wp2)
          go_ret
          exact ⟨by first | rfl | (simp; done) | (simp [*]; done), by repeat (first | exact Drawn0.refl _ | apply Drawn0.step)⟩
  · rw [if_neg c3] at H
    have c3b0 : ((l0.length : Int) == (l1.length : Int)) = false := beq_eq_false_iff_ne.mpr c3
    have c3b1 : ((l0.length : Int) != (l1.length : Int)) = true := bne_iff_ne.mpr c3
    have c3b2 : (l0.length == l1.length) = false := by first | simpa using c3 | (simp at c3 ⊢; omega)
    obtain rfl := Option.some.inj H
    go_enter Try.func38, Try.ntmps38
    go_wp2
    repeat (go_quiet (fail); try go_wp2)
    go_ret
    exact ⟨by first | rfl | (simp; done) | (simp [*]; done), by repeat (first | exact Drawn0.refl _ | apply Drawn0.step)⟩

end Go.Proofs.Ytdgkbpoljcndgaa.QSumTrees
