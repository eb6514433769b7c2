/- The row of the statement ArrayJoins: what is read is opened, the walk of the Go code is taken, what was read is given back. No condition. -/
import Derived.Test.YtlnikhijfamakaaRows
import Derived.Test.YtlnikhijfamakaaQArrayJoinsx
import Derived.Test.YtlnikhijfamakaaPureArrayJoins
import Derived.WalkKit
import Derived.ProofKit
import Derived.OpenShut
import Derived.ShutString
import Derived.ChangeOld
import Derived.Below
import Derived.SizedLaws
import Derived.Lib.SmallJoins
import Derived.Deep.SlicePairs
import Derived.JoinedCond
import Derived.Test.YtlnikhijfamakaaWSized
import Derived.Deep.Matrix
namespace Go.Proofs.Ytlnikhijfamakaa.arrayJoins
open Go.ChangeShapes Go.WideShapes Go.ChangeAt Go.RowKit Go.Joins Go.Deep Go.Proofs.YtlnikhijfamakaaW.PrintWords Go.Proofs.YtlnikhijfamakaaW.PrintLast Go.Proofs.YtlnikhijfamakaaW.PrintMore Go.Proofs.Ytlnikhijfamakaa.QArrayJoins
set_option linter.unusedVariables false
set_option linter.unusedSimpArgs false
theorem weights_all {H : Type} {P : Program} {e : TypeId} : ∀ (l : List (DataW H)) (d : DataW H), d ∈ l → ∀ n, n ∈ d.weights P e → n ∈ DataW.weightsAll P e l
  | [], d, h, _, _ => by simp at h
  | x :: l, d, h, n, hn => by
    simp only [DataW.weightsAll, List.mem_append]
    rcases List.mem_cons.1 h with rfl | h
    · exact Or.inl hn
    · exact Or.inr (weights_all l d h n hn)
/-- rows of bytes: what is read, and how long they can be -/
theorem open_rows {H : Type} {enc : TypeId × Value → H} {W : World} {base : Nat} {held : Bool} {A : Option Addr} {len cap : Nat} {d : DataW H} {ps : List MemPlace} {ts : List TypeId} {ds : List (DataW H)} {j : Nat}
    (hsz : (DataW.weightsEach Try.prog ts ds).all (· ≤ reachBytes) = true) (ht : ts[j]? = some 51) (hd : ds[j]? = some d)
    (h : DataW.Trod enc Try.prog W base (fun _ => true) held 51 (.slice A len cap) d ps) :
    ∃ xs : List (List Int), xs.length = len ∧ len ≤ cap ∧ Kd.C (Kd.slice 5 (Kd.int .u8)) W A len xs ∧ len * 24 ≤ 140737488351232 ∧ ∀ x ∈ xs, x.length ≤ 140737488351232 := by
  obtain ⟨fuel, hf⟩ := h
  rcases Go.Deep.open_int_rows Try.underlying51 Try.underlying22 Try.underlying5 (by kernel_rfl) (by kernel_rfl) hf with ⟨hcs, _⟩ | ⟨a, l, c, A', L, C, Z, hcs, _, hl, hm, hx, hr⟩
  · simp [Value.cells] at hcs
    obtain ⟨rfl, rfl, rfl⟩ := hcs
    exact ⟨[], rfl, Nat.le_refl _, ⟨rfl, by omega, fun h => absurd h (by omega)⟩, by omega, by simp⟩
  · simp [Value.cells] at hcs
    obtain ⟨rfl, rfl, rfl⟩ := hcs
    obtain ⟨hx, _⟩ := Prod.mk.inj hx
    subst hx
    have z := sized_slice hsz ht hd Try.underlying51
    rw [show Try.prog.bytesOf 22 = 24 by kernel_rfl] at z
    simp only [List.length_map, List.length_range, reachBytes] at z
    have hrow : ∀ r, r < len → L r ≤ 140737488351232 := fun r hrl => by
      obtain ⟨_, h1, h2, h3, _, h5, _⟩ := hr r (by omega)
      match hA : A' r with
      | none => have := h5 hA; omega
      | some a' =>
        have hmem : intRow (H := H) .u8 (A' r) (L r) (Z r) ∈ (List.range len).map fun r => intRow (H := H) .u8 (A' r) (L r) (Z r) := List.mem_map.2 ⟨r, List.mem_range.2 hrl, rfl⟩
        have hw : (L r + ((Z r).length - L r)) * Try.prog.bytesOf 5 ∈ (intRow (H := H) .u8 (A' r) (L r) (Z r)).weights Try.prog 22 := by
          rw [hA]
          simp only [intRow, DataW.weights, Try.underlying22, lits, List.length_map, List.length_take, List.length_drop]
          rw [Nat.min_eq_left (by omega)]
          exact List.mem_cons_self
        have hall := weights_all _ _ hmem _ hw
        have h9 := List.all_eq_true.1 hsz _ (DataW.weights_mem_each ht hd _ (by
          simp only [DataW.weights, Try.underlying51]
          exact List.mem_cons_of_mem _ (List.mem_append_left _ hall)))
        rw [show Try.prog.bytesOf 5 = 1 by kernel_rfl] at h9
        simp [reachBytes] at h9
        omega
    refine ⟨(List.range len).map fun r => (Z r).take (L r), by simp, hl, ⟨by simp, by unfold maxLen at hm; omega, fun _ => ⟨a, rfl, fun j p hj => ?_⟩⟩, by omega, ?_⟩
    · have hjl : j < len := by
        have := (List.getElem?_eq_some_iff.1 hj).1
        simpa using this
      obtain ⟨g0, h1, h2, h3, _, h5, h6⟩ := hr j (by omega)
      rw [List.getElem?_map, List.getElem?_range hjl] at hj
      obtain rfl : (Z j).take (L j) = p := by simpa using hj
      have hlt : ((Z j).take (L j)).length = L j := by rw [List.length_take]; omega
      refine ⟨[.slice (A' j) (L j) (C j)], rfl, ⟨A' j, C j, by rw [hlt], by rw [hlt]; exact h1, ?_⟩, fun i u hu => ?_⟩
      · rw [hlt]
        match hA : A' j with
        | none =>
          have h0 : L j = 0 := by have := h5 hA; omega
          rw [h0, List.take_zero]
          exact Kd.C_nil _ _
        | some a' =>
          obtain ⟨_, h7⟩ := h6 a' hA
          refine ⟨hlt, by unfold maxLen at h2; omega, fun _ => ⟨a', rfl, fun i q hi => ⟨[.int .u8 q], rfl, rfl, fun e u hu => ?_⟩⟩⟩
          have hil : i < L j := by have := (List.getElem?_eq_some_iff.1 hi).1; omega
          have hc := h7 i (by omega)
          rw [List.getElem?_take_of_lt hil] at hi
          have hp : (Z j).getD i 0 = q := by rw [List.getD_eq_getElem?_getD, hi]; rfl
          rw [hp] at hc
          match e, hu with
          | 0, hu =>
            obtain rfl := Option.some.inj hu
            rw [show i * (Kd.int IntKind.u8).sz + 0 = i by show i * 1 + 0 = i; omega]
            exact hc
      · match i, hu with
        | 0, hu =>
          obtain rfl := Option.some.inj hu
          rw [show j * (Kd.slice 5 (Kd.int IntKind.u8)).sz + 0 = j by show j * 1 + 0 = j; omega]
          exact g0
    · intro x hx
      obtain ⟨r, hr2, rfl⟩ := List.mem_map.1 hx
      rw [List.length_take]
      have := hrow r (List.mem_range.1 hr2)
      omega
theorem honeA : oneCellFields Try.prog #[{ name := "Kind", type := 3, offset := 0, embedded := false, tag := "", pkgPath := "", byteOffset := 0 }, { name := "Members", type := 3, offset := 1, embedded := false, tag := "", pkgPath := "", byteOffset := 8 }, { name := "Chunk", type := 3, offset := 2, embedded := false, tag := "", pkgPath := "", byteOffset := 16 }, { name := "Left", type := 4, offset := 3, embedded := false, tag := "", pkgPath := "", byteOffset := 24 }] = true := by kernel_rfl
theorem hcellsA : Try.prog.cellsOf 53 = 4 := by kernel_rfl
theorem own : ownKnob Try.prog.godebug = none := by kernel_rfl
theorem laidOut : laidOutB Try.prog = true := by kernel_rfl
set_option maxRecDepth 100000 in
theorem lifted (os : Os) (started : os.Started) (H : Type) (enc : TypeId × Value → H) :
    ReturnsInHanded {} Try.checked os 5 .any (Rows.arrayJoinsSpec.pre6 enc Try.prog Try.f5 Rows.arrayJoinsRow.domain false) (Rows.arrayJoinsSpec.post enc Try.prog Try.f5 false true false false) := by
  refine returnsInHanded_of_change_sized (C := Try.checked) own started (by kernel_rfl) Try.func5
    (ChangeSpec.witness6 (enc := enc) (C := Try.checked) false ⟨#[], #[.slice none 0 0, .agg #[.int .i64 0, .int .i64 0, .int .i64 0, .bool false], .int .i64 0, .int .i64 0], []⟩ 8 (by kernel_rfl) (by kernel_rfl) (by kernel_rfl) (by kernel_rfl)) ?_
  intro W base args ds gs before hval0 hW hcnd hsz0 _
  have hsz : (DataW.weightsEach Try.prog (Try.f5.params.toList ++ Rows.arrayJoinsSpec.plain.varTypes Try.prog) (ds ++ gs)).all (· ≤ reachBytes) = true := hsz0
  have hval : ∀ (j : Nat) t v, Try.f5.params[j]? = some t → args[j]? = some v → Value.okWide Try.prog W .any base t v := hval0
  have hW' := hW
  obtain ⟨p, q, hA0, hV, rfl, hfz, hnd⟩ := hW
  have hA : DataW.TrodAll enc Try.prog W 0 (fun _ => true) true Try.f5.params.toList args.toList ds p := hA0
  rw [Try.params5] at hA hval hsz
  obtain ⟨v0, vs0, d0, ds0, p0, q0, hargs, rfl, rfl, h0, r0⟩ := trodAll_cons hA
  obtain ⟨v1, vs1, d1, ds1, p1, q1, rfl, rfl, rfl, h1, r1⟩ := trodAll_cons r0
  obtain ⟨v2, vs2, d2, ds2, p2, q2, rfl, rfl, rfl, h2, r2⟩ := trodAll_cons r1
  obtain ⟨v3, vs3, d3, ds3, p3, q3, rfl, rfl, rfl, h3, r3⟩ := trodAll_cons r2
  obtain ⟨rfl, rfl, rfl⟩ := trodAll_nil r3
  obtain rfl : args = #[v0, v1, v2, v3] := by cases args; simp_all
  obtain ⟨rfl, rfl⟩ := trodVars_none hV
  have k0 := h0
  have lt0 : ∀ x ∈ p0, x.block < W.heap.size := by obtain ⟨m, hm⟩ := k0; exact DataW.trod_lt m _ _ _ hm
  obtain ⟨a0, len0, cap0, rfl⟩ := okWide_slice Try.underlying51 (hval 0 51 v0 rfl rfl)
  obtain ⟨xs0, hl0, hc0, C0, y0, yr0⟩ := open_rows hsz (j := 0) rfl rfl h0
  subst hl0
  have k1 := h1
  have lt1 : ∀ x ∈ p1, x.block < W.heap.size := by obtain ⟨m, hm⟩ := k1; exact DataW.trod_lt m _ _ _ hm
  obtain ⟨u1_0, u1_1, u1_2, u1_3, y1_0, y1_1, y1_2, y1_3, n1, rfl, rfl, rfl, t1_0, t1_1, t1_2, t1_3⟩ := open_agg4 Try.underlying53 honeA hcellsA (hval 1 53 v1 rfl rfl) h1
  obtain ⟨s1_0, e1_0, hy1_0, wk1_0⟩ := DataW.trod_int Try.underlying3 t1_0
  obtain rfl : u1_0 = .int .i64 s1_0 := by simpa using e1_0
  have b1_0 : -9223372036854775808 ≤ s1_0 ∧ s1_0 ≤ 9223372036854775807 := by
    simp [Lit.wf, IntKind.min, IntKind.max, IntKind.signed, IntKind.bits] at wk1_0; omega
  obtain ⟨s1_1, e1_1, hy1_1, wk1_1⟩ := DataW.trod_int Try.underlying3 t1_1
  obtain rfl : u1_1 = .int .i64 s1_1 := by simpa using e1_1
  have b1_1 : -9223372036854775808 ≤ s1_1 ∧ s1_1 ≤ 9223372036854775807 := by
    simp [Lit.wf, IntKind.min, IntKind.max, IntKind.signed, IntKind.bits] at wk1_1; omega
  obtain ⟨s1_2, e1_2, hy1_2, wk1_2⟩ := DataW.trod_int Try.underlying3 t1_2
  obtain rfl : u1_2 = .int .i64 s1_2 := by simpa using e1_2
  have b1_2 : -9223372036854775808 ≤ s1_2 ∧ s1_2 ≤ 9223372036854775807 := by
    simp [Lit.wf, IntKind.min, IntKind.max, IntKind.signed, IntKind.bits] at wk1_2; omega
  obtain ⟨s1_3, e1_3, hy1_3⟩ := DataW.trod_bool Try.underlying4 t1_3
  obtain rfl : u1_3 = .bool s1_3 := by simpa using e1_3
  obtain ⟨a2, rfl, rfl, rfl, w2⟩ := open_int Try.underlying3 (hval 2 3 v2 rfl rfl) h2
  have b2 : -9223372036854775808 ≤ a2 ∧ a2 ≤ 9223372036854775807 := by
    simp [Lit.wf, IntKind.min, IntKind.max, IntKind.signed, IntKind.bits] at w2; omega
  obtain ⟨a3, rfl, rfl, rfl, w3⟩ := open_int Try.underlying3 (hval 3 3 v3 rfl rfl) h3
  have b3 : -9223372036854775808 ≤ a3 ∧ a3 ≤ 9223372036854775807 := by
    simp [Lit.wf, IntKind.min, IntKind.max, IntKind.signed, IntKind.bits] at w3; omega
  clear hA0 hval0 hsz0
  refine (Pure.aj_main a0 cap0 xs0 s1_0 s1_1 s1_2 s1_3 a2 a3 W C0 hc0 (by omega) yr0 b1_0).mono fun e W' ⟨he, bel⟩ => ?_
  subst he
  exact ⟨_, rfl, _, _, _, [], _, [], hW', trodAll_mk1 (shut_bool Try.underlying4 _), trodAll_cons_mk (Below.trod laidOut (by kernel_rfl) (of_decide_eq_true (by kernel_rfl)) k0 bel lt0) (trodAll_cons_mk (Below.trod laidOut (by kernel_rfl) (of_decide_eq_true (by kernel_rfl)) k1 bel lt1) (trodAll_cons_mk (shut_int Try.underlying3 w2) (trodAll_cons_mk (shut_int Try.underlying3 w3) (trodAll_mk0)))), rfl, bel.frame _, fun h => by cases h⟩
theorem over : Rows.arrayJoinsRow.holds Try.pinned (OpenSpec.ofChange Rows.arrayJoinsSpec) :=
  OpenClaim.holds_of_wide 5 Try.f5 rfl rfl rfl rfl rfl rfl rfl ⟨rfl, rfl, rfl, rfl, rfl⟩ rfl rfl rfl rfl rfl (by kernel_rfl) Try.func5 (by kernel_rfl)
    (of_decide_eq_true (by kernel_rfl)) (by unfold Func.isWrapper; first | (rw [if_pos (by decide +kernel)]; kernel_rfl) | (rw [if_neg (by decide +kernel)]; exact ⟨rfl, rfl⟩))
    (fun os started H enc _ => lifted os started H enc)
theorem proved : Rows.ArrayJoinsSaid := over
#print axioms proved
end Go.Proofs.Ytlnikhijfamakaa.arrayJoins
namespace Go.Proofs.Ytlnikhijfamakaa
/-- The row, under a short name, for the claim. -/
theorem arrayJoins_holds : Rows.ArrayJoinsSaid := arrayJoins.proved
end Go.Proofs.Ytlnikhijfamakaa
