/- The row of the statement PassCheapest: what is read is opened, the walk of the Go code is taken, what was read is given back. No condition. -/
import Derived.Test.YtdgkbpoljcndgaaRows
import Derived.Test.YtdgkbpoljcndgaaQPassRunsx
import Derived.Test.YtdgkbpoljcndgaaPurePassCheapest
import Derived.WalkKit
import Derived.ProofKit
import Derived.OpenShut
import Derived.ShutString
import Derived.ChangeOld
import Derived.Below
import Derived.SizedLaws
import Derived.Lib.SmallJoins
import Derived.Deep.SlicePairs
import Derived.JoinedCond
import Derived.Test.YtdgkbpoljcndgaaWSized
namespace Go.Proofs.Ytdgkbpoljcndgaa.passCheapest
open Go.ChangeShapes Go.WideShapes Go.ChangeAt Go.RowKit Go.Joins Go.Deep Go.Proofs.YtdgkbpoljcndgaaW.PrintWords Go.Proofs.YtdgkbpoljcndgaaW.PrintLast Go.Proofs.YtdgkbpoljcndgaaW.PrintMore Go.Proofs.Ytdgkbpoljcndgaa.QPassRuns
set_option linter.unusedVariables false
set_option linter.unusedSimpArgs false
/-- a number's value -/
def numOf : Value → Int | .int _ n => n | _ => 0
theorem open_plans {H : Type} {enc : TypeId × Value → H} {w : World} {base : Nat} {spare : Nat → Bool} {held : Bool} {A : Option Addr} {len cap : Nat} {d : DataW H} {ps : List MemPlace}
    (h : DataW.Trod enc Try.prog w base spare held 89 (.slice A len cap) d ps) : ∃ xs : List S80, xs.length = len ∧ len ≤ cap ∧ Kd.C k80 w A len xs := by
  obtain ⟨fuel, hf⟩ := h
  rcases Go.Deep.open_slice_pairs Try.underlying89 Try.underlying80 (by kernel_rfl) rfl rfl (by kernel_rfl) (by kernel_rfl) hf with ⟨hcs, _⟩ | ⟨a, l, c, m, n, V0, V1, D0, D1, P0, P1, hcs, _, hl, hm, hmm, _, hx⟩
  · simp [Value.cells] at hcs
    obtain ⟨rfl, rfl, rfl⟩ := hcs
    exact ⟨[], rfl, Nat.le_refl _, rfl, by omega, fun h => absurd h (by omega)⟩
  · simp [Value.cells] at hcs
    obtain ⟨rfl, rfl, rfl⟩ := hcs
    have hlm : len ≤ m := by rw [hmm]; split <;> omega
    refine ⟨(List.range len).map (fun i => ⟨numOf (V0 i), numOf (V1 i)⟩), by simp, hl, by simp, by unfold maxLen at hm; omega, fun _ => ⟨a, rfl, fun j p hj => ?_⟩⟩
    have hjl : j < len := by
      have := (List.getElem?_eq_some_iff.1 hj).1
      simpa using this
    obtain ⟨c0, c1, t0, t1⟩ := hx j (by omega)
    obtain ⟨x0, e0, _, _⟩ := DataW.trod_int Try.underlying3 t0
    obtain ⟨x1, e1, _, _⟩ := DataW.trod_int Try.underlying3 t1
    have e0' : V0 j = .int .i64 x0 := by simpa using e0
    have e1' : V1 j = .int .i64 x1 := by simpa using e1
    have hp : p = ⟨x0, x1⟩ := by
      rw [List.getElem?_map, List.getElem?_range hjl] at hj
      simp [e0', e1', numOf] at hj
      exact hj.symm
    subst hp
    refine ⟨_, rfl, k80_mk w _, fun i u hu => ?_⟩
    match i, hu with
    | 0, hu => obtain rfl := Option.some.inj hu; rw [← e0']; exact c0
    | 1, hu => obtain rfl := Option.some.inj hu; rw [← e1']; exact c1
/-- how long such a row can be -/
theorem sized_plans {H : Type} {enc : TypeId × Value → H} {W : World} {base : Nat} {spare : Nat → Bool} {held : Bool} {A : Option Addr} {len cap : Nat} {d : DataW H} {ps : List MemPlace} {ts : List TypeId} {ds : List (DataW H)} {j : Nat}
    (hsz : (DataW.weightsEach Try.prog ts ds).all (· ≤ reachBytes) = true) (ht : ts[j]? = some 89) (hd : ds[j]? = some d) {B : Nat} (hB : Try.prog.bytesOf 80 = B)
    (h : DataW.Trod enc Try.prog W base spare held 89 (.slice A len cap) d ps) : len * B ≤ 140737488351232 := by
  obtain ⟨fuel, hf⟩ := h
  rcases Go.Deep.open_slice_pairs Try.underlying89 Try.underlying80 (by kernel_rfl) rfl rfl (by kernel_rfl) (by kernel_rfl) hf with ⟨hcs, _⟩ | ⟨a, l, c, m, n, V0, V1, D0, D1, P0, P1, hcs, _, hl, hm, hmm, hx, _⟩
  · simp [Value.cells] at hcs
    obtain ⟨rfl, rfl, rfl⟩ := hcs
    simp
  · simp [Value.cells] at hcs
    obtain ⟨rfl, rfl, rfl⟩ := hcs
    obtain ⟨hx, _⟩ := Prod.mk.inj hx
    subst hx
    have z := sized_slice hsz ht hd Try.underlying89
    rw [hB] at z
    have hlm : len ≤ m := by rw [hmm]; split <;> omega
    simp only [List.length_map, List.length_range] at z
    exact Nat.le_trans (Nat.mul_le_mul_right _ (by omega)) z
section
variable {H : Type} {enc : TypeId × Value → H} {w : World} {base : Nat} {spare : Nat → Bool} {held : Bool}
theorem open_bytes {fuel : Nat} {v : Value} {y : DataW H × List MemPlace} (h : DataW.trod enc Try.prog w base spare held fuel 22 [v] = some y) :
    ∃ (A : Option Addr) (len cap : Nat) (xs : List Int), v = .slice A len cap ∧ xs.length = len ∧ len ≤ cap ∧ Kd.C (Kd.int .u8) w A len xs ∧ (len = 0 ∨ ∃ el sp, y.1 = .slice el sp ∧ el.length = len) := by
  rcases open_ints Try.underlying22 Try.underlying5 (by kernel_rfl) h with ⟨hcs, _⟩ | ⟨x, l, c, zs, hcs, _, hl, hm, hz, hy, hcell, hwz⟩
  · obtain rfl : v = .slice none 0 0 := by simpa using hcs
    exact ⟨none, 0, 0, [], rfl, rfl, Nat.le_refl _, ⟨rfl, by omega, fun h => absurd h (by omega)⟩, Or.inl rfl⟩
  · obtain rfl : v = .slice (some x) l c := by simpa using hcs
    have hlz : l ≤ zs.length := by rw [hz]; split <;> omega
    have hlt : (zs.take l).length = l := by rw [List.length_take]; omega
    refine ⟨some x, l, c, zs.take l, rfl, hlt, hl, ⟨hlt, by unfold maxLen at hm; omega, fun _ => ⟨x, rfl, fun j p hj => ⟨[.int .u8 p], rfl, rfl, fun i u hu => ?_⟩⟩⟩, Or.inr ⟨_, _, by rw [hy], by simp [lits]; omega⟩⟩
    have hjl : j < l := by have := (List.getElem?_eq_some_iff.1 hj).1; omega
    have hc := hcell j (by omega)
    rw [List.getElem?_take_of_lt hjl] at hj
    have hp : zs.getD j 0 = p := by rw [List.getD_eq_getElem?_getD, hj]; rfl
    rw [hp] at hc
    match i, hu with
    | 0, hu =>
      obtain rfl := Option.some.inj hu
      rw [show j * (Kd.int IntKind.u8).sz + 0 = j by show j * 1 + 0 = j; omega]
      exact hc
set_option maxRecDepth 100000 in
theorem open_faults {fuel : Nat} {v : Value} {y : DataW H × List MemPlace} (h : DataW.trod enc Try.prog w base spare held fuel 44 [v] = some y) :
    ∃ (A : Option Addr) (len cap : Nat) (xs : List S121), v = .slice A len cap ∧ xs.length = len ∧ len ≤ cap ∧ Kd.C k121 w A len xs ∧ (len = 0 ∨ ∃ el sp, y.1 = .slice el sp ∧ el.length = len) := by
  rcases open_slice Try.underlying44 h with ⟨hcs, _⟩ | ⟨a, l, c, m, n, D, Pl, hcs, _, hl, hm, hmm, hy, hx⟩
  · obtain rfl : v = .slice none 0 0 := by simpa using hcs
    exact ⟨none, 0, 0, [], rfl, rfl, Nat.le_refl _, ⟨rfl, by omega, fun h => absurd h (by omega)⟩, Or.inl rfl⟩
  · obtain rfl : v = .slice (some a) l c := by simpa using hcs
    have hlm : l ≤ m := by rw [hmm]; split <;> omega
    have ce : Try.prog.cellsOf 121 = 3 := by kernel_rfl
    have c3 : Try.prog.cellsOf 3 = 1 := by kernel_rfl
    haveI : Inhabited S121 := ⟨z121⟩
    have each : ∀ i, i < l → ∃ q : S121, w.cell? (a.add (i * 3)) = some (.int .i64 q.f0) ∧ w.cell? (a.add (i * 3 + 1)) = some (.int .i64 q.f1) ∧ w.cell? (a.add (i * 3 + 2)) = some (.int .i64 q.f2) := by
      intro i hi
      obtain ⟨cs', h1, h2⟩ := hx i (by omega)
      rw [ce] at h1
      obtain ⟨_, hlen, hcell⟩ := World.cells?_some h1
      obtain ⟨xs, k, hk, hxy, _, hxl, hf⟩ := DataW.trod_struct Try.underlying121 h2
      match xs, hxl, cs', hlen with
      | [y0, y1, y2], _, [v0, v1, v2], _ =>
        have g0 := hf 0 _ rfl
        have g1 := hf 1 _ rfl
        have g2 := hf 2 _ rfl
        simp [c3] at g0 g1 g2
        obtain ⟨x0, e0, _, _⟩ := DataW.trod_int Try.underlying3 g0
        obtain ⟨x1, e1, _, _⟩ := DataW.trod_int Try.underlying3 g1
        obtain ⟨x2, e2, _, _⟩ := DataW.trod_int Try.underlying3 g2
        obtain rfl : v0 = .int .i64 x0 := by simpa using e0
        obtain rfl : v1 = .int .i64 x1 := by simpa using e1
        obtain rfl : v2 = .int .i64 x2 := by simpa using e2
        have q0 := hcell 0 (by omega)
        have q1 := hcell 1 (by omega)
        have q2 := hcell 2 (by omega)
        rw [Go.Deep.add_add] at q0 q1 q2
        exact ⟨⟨x0, x1, x2⟩, by simpa using q0, by simpa using q1, by simpa using q2⟩
    obtain ⟨q, hq⟩ := choose_lt each
    have hlt : ((List.range l).map q).length = l := by simp
    refine ⟨some a, l, c, (List.range l).map q, rfl, hlt, hl, ⟨hlt, by unfold maxLen at hm; omega, fun _ => ⟨a, rfl, fun j p hj => ?_⟩⟩, Or.inr ⟨_, _, by rw [hy], by simp⟩⟩
    have hjl : j < l := by have := (List.getElem?_eq_some_iff.1 hj).1; omega
    obtain ⟨q0, q1, q2⟩ := hq j hjl
    rw [List.getElem?_map, List.getElem?_range hjl] at hj
    obtain rfl : q j = p := Option.some.inj hj
    refine ⟨_, rfl, k121_mk w _, fun i u hu => ?_⟩
    match i, hu with
    | 0, hu => obtain rfl := Option.some.inj hu; exact q0
    | 1, hu => obtain rfl := Option.some.inj hu; exact q1
    | 2, hu => obtain rfl := Option.some.inj hu; exact q2
end
theorem sized_part {H : Type} {P : Program} {ts : List TypeId} {ds parts el sp : List (DataW H)} {j i : Nat} {t ti e : TypeId} {fs : Array Field} (h : (DataW.weightsEach P ts ds).all (· ≤ reachBytes) = true) (ht : ts[j]? = some t) (hd : ds[j]? = some (.agg parts))
    (hu : P.underlying t = some (.struct fs)) (hti : (fs.toList.map (·.type))[i]? = some ti) (hdi : parts[i]? = some (.slice el sp)) (hui : P.underlying ti = some (.slice e)) : (el.length + sp.length) * P.bytesOf e ≤ 140737488351232 := by
  have h2 : (DataW.weightsEach P (fs.toList.map (·.type)) parts).all (· ≤ reachBytes) = true :=
    List.all_eq_true.2 fun n hn => List.all_eq_true.1 h n (DataW.weights_mem_each ht hd n (by simp only [DataW.weights, hu]; exact hn))
  exact sized_slice h2 hti hdi hui
theorem own : ownKnob Try.prog.godebug = none := by kernel_rfl
theorem laidOut : laidOutB Try.prog = true := by kernel_rfl
theorem honeD : oneCellFields Try.prog #[{ name := "Data", type := 22, offset := 0, embedded := false, tag := "", pkgPath := "", byteOffset := 0 }, { name := "Faults", type := 44, offset := 1, embedded := false, tag := "", pkgPath := "", byteOffset := 24 }] = true := by kernel_rfl
theorem hcellsD : Try.prog.cellsOf 46 = 2 := by kernel_rfl
set_option maxRecDepth 100000 in
theorem lifted (os : Os) (started : os.Started) (H : Type) (enc : TypeId × Value → H) :
    ReturnsInHanded {} Try.checked os 11 .any (Rows.passCheapestSpec.pre6 enc Try.prog Try.f11 Rows.passCheapestRow.domain false) (Rows.passCheapestSpec.post enc Try.prog Try.f11 false true false false) := by
  refine returnsInHanded_of_change_sized (C := Try.checked) own started (by kernel_rfl) Try.func11
    (ChangeSpec.witness6 (enc := enc) (C := Try.checked) false ⟨#[], #[.agg #[.slice none 0 0, .slice none 0 0], .slice none 0 0], []⟩ 8 (by kernel_rfl) (by kernel_rfl) (by kernel_rfl) (by kernel_rfl)) ?_
  intro W base args ds gs before hval0 hW hcnd hsz0 _
  have hsz : (DataW.weightsEach Try.prog (Try.f11.params.toList ++ Rows.passCheapestSpec.plain.varTypes Try.prog) (ds ++ gs)).all (· ≤ reachBytes) = true := hsz0
  have hval : ∀ (j : Nat) t v, Try.f11.params[j]? = some t → args[j]? = some v → Value.okWide Try.prog W .any base t v := hval0
  have hW' := hW
  obtain ⟨p, q, hA0, hV, rfl, hfz, hnd⟩ := hW
  have hA : DataW.TrodAll enc Try.prog W 0 (fun _ => true) true Try.f11.params.toList args.toList ds p := hA0
  rw [Try.params11] at hA hval hsz
  obtain ⟨v0, vs0, d0, ds0, p0, q0, hargs, rfl, rfl, h0, r0⟩ := trodAll_cons hA
  obtain ⟨v1, vs1, d1, ds1, p1, q1, rfl, rfl, rfl, h1, r1⟩ := trodAll_cons r0
  obtain ⟨rfl, rfl, rfl⟩ := trodAll_nil r1
  obtain rfl : args = #[v0, v1] := by cases args; simp_all
  obtain ⟨rfl, rfl⟩ := trodVars_none hV
  have k0 := h0
  have lt0 : ∀ x ∈ p0, x.block < W.heap.size := by obtain ⟨m, hm⟩ := k0; exact DataW.trod_lt m _ _ _ hm
  obtain ⟨u0_0, u0_1, y0_0, y0_1, n0, rfl, rfl, rfl, t0_0, t0_1⟩ := open_agg2 Try.underlying46 honeD hcellsD (hval 0 46 v0 rfl rfl) h0
  obtain ⟨a0_0, len0_0, cap0_0, xs0_0, rfl, hl0_0, hc0_0, C0_0, z0_0⟩ := open_bytes t0_0
  have s0_0 : len0_0 * 1 ≤ 140737488351232 := by
    rcases z0_0 with h | ⟨el, sp, h1, h2⟩
    · rw [h]; omega
    · have h3 := sized_part (P := Try.prog) (j := 0) (i := 0) hsz rfl rfl Try.underlying46 rfl (by show some y0_0.1 = _; rw [h1]) Try.underlying22
      rw [show Try.prog.bytesOf 5 = 1 by kernel_rfl] at h3
      omega
  subst hl0_0
  obtain ⟨a0_1, len0_1, cap0_1, xs0_1, rfl, hl0_1, hc0_1, C0_1, z0_1⟩ := open_faults t0_1
  have s0_1 : len0_1 * 24 ≤ 140737488351232 := by
    rcases z0_1 with h | ⟨el, sp, h1, h2⟩
    · rw [h]; omega
    · have h3 := sized_part (P := Try.prog) (j := 0) (i := 1) hsz rfl rfl Try.underlying46 rfl (by show some y0_1.1 = _; rw [h1]) Try.underlying44
      rw [show Try.prog.bytesOf 121 = 24 by kernel_rfl] at h3
      omega
  subst hl0_1
  have k1 := h1
  have lt1 : ∀ x ∈ p1, x.block < W.heap.size := by obtain ⟨m, hm⟩ := k1; exact DataW.trod_lt m _ _ _ hm
  obtain ⟨a1, len1, cap1, rfl⟩ := okWide_slice Try.underlying89 (hval 1 89 v1 rfl rfl)
  obtain ⟨xs1, hl1, hc1, C1⟩ := open_plans h1
  subst hl1
  clear hA0 hval0 hsz0
  refine (Pure.cheap_calls a0_0 cap0_0 xs0_0 a0_1 cap0_1 xs0_1 a1 cap1 xs1 W C0_0 hc0_0 C0_1 hc0_1 C1 hc1 (by omega)).mono fun e W' ⟨he, bel⟩ => ?_
  subst he
  exact ⟨_, rfl, _, _, _, [], _, [], hW', trodAll_mk1 (shut_bool Try.underlying4 _), trodAll_cons_mk (Below.trod laidOut (by kernel_rfl) (of_decide_eq_true (by kernel_rfl)) k0 bel lt0) (trodAll_cons_mk (Below.trod laidOut (by kernel_rfl) (of_decide_eq_true (by kernel_rfl)) k1 bel lt1) (trodAll_mk0)), rfl, bel.frame _, fun h => by cases h⟩
theorem over : Rows.passCheapestRow.holds Try.pinned (OpenSpec.ofChange Rows.passCheapestSpec) :=
  OpenClaim.holds_of_wide 11 Try.f11 rfl rfl rfl rfl rfl rfl rfl ⟨rfl, rfl, rfl, rfl, rfl⟩ rfl rfl rfl rfl rfl (by kernel_rfl) Try.func11 (by kernel_rfl)
    (of_decide_eq_true (by kernel_rfl)) (by unfold Func.isWrapper; first | (rw [if_pos (by decide +kernel)]; kernel_rfl) | (rw [if_neg (by decide +kernel)]; exact ⟨rfl, rfl⟩))
    (fun os started H enc _ => lifted os started H enc)
theorem proved : Rows.PassCheapestSaid := over
#print axioms proved
end Go.Proofs.Ytdgkbpoljcndgaa.passCheapest
namespace Go.Proofs.Ytdgkbpoljcndgaa
/-- The row, under a short name, for the claim. -/
theorem passCheapest_holds : Rows.PassCheapestSaid := passCheapest.proved
end Go.Proofs.Ytdgkbpoljcndgaa
