/- Written by a program of this session (wip/mprint): the walk of the Go code, function by function, for every input; no condition. -/
import Derived.Test.YtagcaheopbmdiaaDoorYQLockSealsx0
import Derived.Shelf.SlSortCmp.NoneTotal
import Derived.Shelf.SlSortCmp.WholeK
namespace Go.Proofs.YtagcaheopbmdiaaDoor.QLockSeals
open Go.RowKit Go.Proofs.YtagcaheopbmdiaaDoorW.PrintWords Go.Proofs.YtagcaheopbmdiaaDoorW.PrintLast Go.Proofs.YtagcaheopbmdiaaDoorW.PrintMore
attribute [local go_sem] max2_int min2_int max_two min_two max_three min_three max_four min_four   -- for this text's walks alone
set_option linter.unusedVariables false
set_option linter.unusedSimpArgs false
-- import Derived.Shelf.SlSortCmp.NoneTotal
-- import Derived.Shelf.SlSortCmp.WholeK
section
open Go.Shelf Go.RowKit Go.Lib Go.Sort Go.Proofs
def sortSpan_ren : Go.Shelf.Ren := ⟨fun | 6 => 61 | 15 => 74 | 14 => 73 | 28 => 85 | 29 => 65 | 20 => 77 | 21 => 78 | 22 => 79 | 23 => 80 | 24 => 81 | 25 => 82 | 26 => 83 | 27 => 84 | 46 => 86 | 47 => 87 | 48 => 88 | 49 => 89 | 50 => 90 | 57 => 91 | n => n, fun | 22 => 74 | 24 => 76 | 25 => 98 | 3 => 3 | 39 => 56 | 0 => 0 | 53 => 88 | 55 => 32 | 4 => 4 | 46 => 113 | 45 => 112 | 50 => 117 | 5 => 5 | 9 => 9 | 66 => 121 | 70 => 125 | 76 => 127 | 77 => 128 | n => n, fun | n => n⟩
theorem sortSpan : Go.Proofs.SlLaysF0.n6 Tryd.prog sortSpan_ren := {
 mixed := by kernel_rfl
 f6 := ⟨Tryd.f61.name, by decide, Tryd.func61.trans (congrArg some (by kernel_rfl))⟩
 f14 := ⟨Tryd.f73.name, by decide, Tryd.func73.trans (congrArg some (by kernel_rfl))⟩
 f15 := Tryd.func74.trans (congrArg some (by kernel_rfl))
 f20 := ⟨Tryd.f77.name, by decide, Tryd.func77.trans (congrArg some (by kernel_rfl))⟩
 f21 := ⟨Tryd.f78.name, by decide, Tryd.func78.trans (congrArg some (by kernel_rfl))⟩
 f22 := ⟨Tryd.f79.name, by decide, Tryd.func79.trans (congrArg some (by kernel_rfl))⟩
 f23 := ⟨Tryd.f80.name, by decide, Tryd.func80.trans (congrArg some (by kernel_rfl))⟩
 f24 := ⟨Tryd.f81.name, by decide, Tryd.func81.trans (congrArg some (by kernel_rfl))⟩
 f25 := ⟨Tryd.f82.name, by decide, Tryd.func82.trans (congrArg some (by kernel_rfl))⟩
 f26 := ⟨Tryd.f83.name, by decide, Tryd.func83.trans (congrArg some (by kernel_rfl))⟩
 f27 := ⟨Tryd.f84.name, by decide, Tryd.func84.trans (congrArg some (by kernel_rfl))⟩
 f28 := Tryd.func85.trans (congrArg some (by kernel_rfl))
 f29 := Tryd.func65.trans (congrArg some (by kernel_rfl))
 f46 := ⟨Tryd.f86.name, by decide, Tryd.func86.trans (congrArg some (by kernel_rfl))⟩
 f47 := Tryd.func87.trans (congrArg some (by kernel_rfl))
 f48 := Tryd.func88.trans (congrArg some (by kernel_rfl))
 f49 := ⟨Tryd.f89.name, by decide, Tryd.func89.trans (congrArg some (by kernel_rfl))⟩
 f50 := ⟨Tryd.f90.name, by decide, Tryd.func90.trans (congrArg some (by kernel_rfl))⟩
 f57 := ⟨Tryd.f91.name, by decide, Tryd.func91.trans (congrArg some (by kernel_rfl))⟩
 t0 := Tryd.underlying0
 a0 := Tryd.isAgg0
 z0 := Tryd.sizeOf0
 v0 := Tryd.zeroValue0
 t3 := Tryd.underlying3
 a3 := Tryd.isAgg3
 z3 := Tryd.sizeOf3
 v3 := Tryd.zeroValue3
 t4 := Tryd.underlying4
 a4 := Tryd.isAgg4
 z4 := Tryd.sizeOf4
 v4 := Tryd.zeroValue4
 t5 := Tryd.underlying5
 a5 := Tryd.isAgg5
 z5 := Tryd.sizeOf5
 v5 := Tryd.zeroValue5
 t9 := Tryd.underlying9
 a9 := Tryd.isAgg9
 z9 := Tryd.sizeOf9
 v9 := Tryd.zeroValue9
 t22 := Tryd.underlying74
 a22 := Tryd.isAgg74
 z22 := Tryd.sizeOf74
 v22 := Tryd.zeroValue74
 t25 := Tryd.underlying98
 a25 := Tryd.isAgg98
 z25 := Tryd.sizeOf98
 v25 := Tryd.zeroValue98
 t39 := Tryd.underlying56
 a39 := Tryd.isAgg56
 z39 := Tryd.sizeOf56
 v39 := Tryd.zeroValue56
 t45 := Tryd.underlying112
 a45 := Tryd.isAgg112
 z45 := Tryd.sizeOf112
 v45 := Tryd.zeroValue112
 t46 := Tryd.underlying113
 a46 := Tryd.isAgg113
 z46 := Tryd.sizeOf113
 v46 := Tryd.zeroValue113
 t50 := Tryd.underlying117
 a50 := Tryd.isAgg117
 z50 := Tryd.sizeOf117
 v50 := Tryd.zeroValue117
 t53 := Tryd.underlying88
 a53 := Tryd.isAgg88
 z53 := Tryd.sizeOf88
 v53 := Tryd.zeroValue88
 t55 := Tryd.underlying32
 a55 := Tryd.isAgg32
 z55 := Tryd.sizeOf32
 v55 := Tryd.zeroValue32
 t66 := Tryd.underlying121
 a66 := Tryd.isAgg121
 z66 := Tryd.sizeOf121
 v66 := Tryd.zeroValue121
 t70 := Tryd.underlying125
 a70 := Tryd.isAgg125
 z70 := Tryd.sizeOf125
 v70 := Tryd.zeroValue125
 t76 := Tryd.underlying127
 a76 := Tryd.isAgg127
 z76 := Tryd.sizeOf127
 v76 := Tryd.zeroValue127
 t77 := Tryd.underlying128
 a77 := Tryd.isAgg128
 z77 := Tryd.sizeOf128
 v77 := Tryd.zeroValue128 }
/-- a span whose first byte is one of an image, or its end -/
abbrev RS : Type := {x : S76 // 0 ≤ x.f0 ∧ x.f0 ≤ 65536}
instance : Inhabited RS := ⟨⟨⟨0, 0⟩, by decide⟩⟩
def encRS (x : RS) : List Value := [.int .i64 x.1.f0, .int .i64 x.1.f1]
def cfRS (x y : RS) : Int := x.1.f0 - y.1.f0
theorem ltRS (x y : RS) : ltOf cfRS x y = decide (x.1.f0 < y.1.f0) := by
 unfold ltOf cfRS
 exact decide_eq_decide.2 ⟨fun h => by omega, fun h => by omega⟩
theorem swoRS : SWO (ltOf cfRS) where
 irrefl x := by rw [ltRS]; simp
 trans x y z h1 h2 := by rw [ltRS] at *; simp at *; omega
 ntrans x y z h1 h2 := by rw [ltRS] at *; simp at *; omega
def toRS (l : List S76) : List RS := l.map fun x => if h : 0 ≤ x.f0 ∧ x.f0 ≤ 65536 then ⟨x, h⟩ else default
theorem toRS_val (l : List S76) (h : ∀ x ∈ l, 0 ≤ x.f0 ∧ x.f0 ≤ 65536) : (toRS l).map (·.1) = l := by
 induction l with
 | nil => rfl
 | cons x l ih =>
  have hx := h x (by simp)
  have e := ih fun y hy => h y (by simp [hy])
  unfold toRS at e ⊢
  rw [List.map_cons, List.map_cons, e, dif_pos hx]
def sortRS (l : List S76) : Array RS := pdq (ltOf cfRS) (toRS l).toArray 0 (toRS l).toArray.size (Lib.bitLen (toRS l).toArray.size) true true
/-- what the sort makes of spans -/
def sortedS (l : List S76) : List S76 := (sortRS l).toList.map (·.1)
theorem sortRS_facts (l : List S76) : PermIn 0 (toRS l).toArray.size (toRS l).toArray (sortRS l) ∧ SortedIn (ltOf cfRS) 0 (toRS l).toArray.size (sortRS l) :=
 pdq_sorts (ltOf cfRS) swoRS (toRS l).toArray 0 (toRS l).toArray.size (Lib.bitLen (toRS l).toArray.size) true true (Nat.zero_le _) (Nat.le_refl _) (Or.inl rfl)
theorem sortedS_len (l : List S76) : (sortedS l).length = l.length := by
 unfold sortedS
 rw [List.length_map, Array.length_toList, (sortRS_facts l).1.1]
 simp [toRS]
def slices_SortFunc_spans.f (l0 : List S76) : Option (List S76) := if (∀ x ∈ l0, 0 ≤ x.f0 ∧ x.f0 ≤ 65536) ∧ l0.length ≤ 140737488351232 then some (sortedS l0) else none
theorem cmpRS (x y : RS) (W : World) : Calls Tryd.prog 62 #[.agg #[.int .i64 x.1.f0, .int .i64 x.1.f1], .agg #[.int .i64 y.1.f0, .int .i64 y.1.f1]] W fun e w' => e = .returned (.int .i64 (cfRS x y)) ∧ ∃ q os', w' = grow (W.drewN q) os' := by
 have h : wrap64 (x.1.f0 - y.1.f0) = cfRS x y := by
  have := x.2; have := y.2
  unfold cfRS wrap64; omega
 generalize cfRS x y = r at h ⊢
 generalize x.1.f0 = a0 at *
 generalize x.1.f1 = a1 at *
 generalize y.1.f0 = b0 at *
 generalize y.1.f1 = b1 at *
 go_enter Tryd.func62, Tryd.ntmps62
 go_wp2
 go_ret
 exact ⟨by simp [i64_w, h], 0, _, by rw [alloc_eq_grow, alloc_eq_grow, grow_grow]; rfl⟩
theorem cmpLaysRS (blk off size : Nat) (w : World) : CmpLays Tryd.prog 62 #[] encRS 2 cfRS blk off size w :=
 fun _ _ _ _ x y => cmpRS x y _
set_option maxHeartbeats 2000000 in
theorem slices_SortFunc_spans.calls (P0_ : Nat → Prop) (u9000_ : Value) (l0 : List S76) (r : List S76) (w0 w : World) (hB : Go.RowKit.Below w0.heap.size w0 w) (ho0 : Kd.R k76 76 w w0.heap.size P0_ u9000_ l0) (h : slices_SortFunc_spans.f l0 = some r) :
  Calls Tryd.prog 61 #[u9000_, .func (.func 62) #[] #[]] w fun e w' => e = .returned (.tuple #[]) ∧ Kd.R k76 76 w' w0.heap.size (fun k_ => (P0_ k_ ∨ w.heap.size ≤ k_)) u9000_ r ∧ Go.RowKit.Below w0.heap.size w0 w' ∧ Kept w w' (fun k_ => P0_ k_) := by
 unfold slices_SortFunc_spans.f at h
 split at h
 ·
  rename_i hc
  obtain rfl := Option.some.inj h
  have hlenS := sortedS_len l0
  obtain ⟨hok, inner, ⟨hil, hf⟩, hri, hrj⟩ := ho0
  have eg : ∀ args w, (callFunc 62 args).run Tryd.prog w = .ok (.enter 62 args) w := enters_of Tryd.func62 (by kernel_rfl) rfl
  rcases hf with ⟨rfl, hn⟩ | ⟨g, cap, cur, rfl, hbg, hh, hnc, hcm, hcs, hct⟩
  ·
   have hl : l0 = [] := List.eq_nil_of_length_eq_zero hn
   subst hl
   have hl2 : sortedS [] = [] := List.eq_nil_of_length_eq_zero hlenS
   rw [hl2]
   have hcon := AnyF.slices_SortFunc_none (P := Tryd.prog) (ρ := sortSpan_ren) { sortSpan with } none 0 (.func (.func 62) #[] #[]) w
   change Calls Tryd.prog 61 _ _ _ at hcon
   refine hcon.mono ?_
   rintro e w' ⟨rfl, rfl⟩
   exact ⟨rfl, Kd.R_nil _ _ _ _ _, hB, Kept.refl _ _⟩
  ·
   have hct : cur.toList.take (l0.length * 2) = inner := hct
   have hcs : cur.size = cap * 2 := hcs
   have hg : g < w.heap.size := by
    rcases Nat.lt_or_ge g w.heap.size with h | h
    · exact h
    · rw [Array.getElem?_eq_none h] at hh; exact absurd hh (by simp)
   have hds : (toRS l0).toArray.size = l0.length := by simp [toRS]
   have hH : HoldsK encRS 2 w g 0 (toRS l0).toArray := by
    intro j hj
    rw [size_flatK, hds] at hj
    rw [get_flatK encRS 2 _ j (by rw [hds]; exact hj)]
    have hj2 : j / 2 < l0.length := by omega
    have hd : ((toRS l0).toArray[j / 2]!).1 = l0[j / 2] := by
     rw [getElem!_pos _ _ (by rw [hds]; exact hj2)]
     have e := toRS_val l0 hc.1
     have e2 : ((toRS l0).map (·.1))[j / 2]? = l0[j / 2]? := by rw [e]
     rw [List.getElem?_map, List.getElem?_eq_getElem hj2, List.getElem?_eq_getElem (by simp [toRS]; exact hj2)] at e2
     simpa using e2
    have hM := k76_openM (hrj (j / 2) l0[j / 2] (List.getElem?_eq_getElem hj2))
    have hcj : cur[j]? = inner[j]? := by
     rw [← hct, List.getElem?_take_of_lt hj, Array.getElem?_toList]
    have hij : inner[j]? = some ([Value.int .i64 l0[j / 2].f0, Value.int .i64 l0[j / 2].f1][j % 2]!) := by
     have e3 : ((inner.drop (j / 2 * 2)).take 2)[j % 2]? = inner[j]? := by
      rw [List.getElem?_take_of_lt (Nat.mod_lt _ (by decide)), List.getElem?_drop, show j / 2 * 2 + j % 2 = j by omega]
     have hM' : (inner.drop (j / 2 * 2)).take 2 = [Value.int .i64 l0[j / 2].f0, Value.int .i64 l0[j / 2].f1] := hM
     rw [← e3, hM']
     rcases Nat.mod_two_eq_zero_or_one j with h0 | h0 <;> rw [h0] <;> rfl
    constructor
    ·
     have : encRS (toRS l0).toArray[j / 2]! = [Value.int .i64 l0[j / 2].f0, Value.int .i64 l0[j / 2].f1] := by unfold encRS; rw [hd]
     rw [this]
     unfold World.cell?
     simp only [Nat.zero_add, hh]
     rw [hcj, hij]; simp
    ·
     unfold World.frozen?
     simp [hh]
   have hcon := AnyQ.slices_SortFunc_eq sortSpan 2 Tryd.isAgg76 Tryd.sizeOf76 encRS (fun _ => rfl) (fun x v hv => by simp [encRS] at hv; rcases hv with rfl | rfl <;> rfl) cfRS swoRS 62 #[] g 0 cap (toRS l0).toArray w eg (cmpLaysRS g 0 _ w) hH hg (by rw [hds]; omega)
   rw [hds] at hcon
   change Calls Tryd.prog 61 #[.slice (some ⟨g, 0, none⟩) l0.length cap, .func (.func 62) #[] #[]] _ _ at hcon
   refine hcon.mono ?_
   rintro e w' ⟨rfl, n, os, rfl⟩
   have hd' : pdq (ltOf cfRS) (toRS l0).toArray 0 l0.length (Lib.bitLen l0.length) true true = sortRS l0 := by unfold sortRS; rw [hds]
   rw [hd']
   have hsz' : (sortRS l0).size = l0.length := by rw [(sortRS_facts l0).1.1, hds]
   have hblk : (sortWorldK encRS 2 w g 0 n (sortRS l0) os).heap[g]? = some (.cells (putCells id 0 (flatK encRS 2 (sortRS l0)) cur) 76 (0, 0)) := by
    show ((w.heap.modify g (onCells (putCells id 0 (flatK encRS 2 (sortRS l0))))) ++ os)[g]? = _
    rw [Array.getElem?_append_left (by rw [Array.size_modify]; exact hg), Array.getElem?_modify, if_pos rfl, hh]
    rfl
   have hoth : ∀ i, i < w.heap.size → i ≠ g → (sortWorldK encRS 2 w g 0 n (sortRS l0) os).heap[i]? = w.heap[i]? := by
    intro i hi hne
    show ((w.heap.modify g (onCells (putCells id 0 (flatK encRS 2 (sortRS l0))))) ++ os)[i]? = _
    rw [Array.getElem?_append_left (by rw [Array.size_modify]; exact hi), Array.getElem?_modify, if_neg (Ne.symm hne)]
   have hsize : w.heap.size ≤ (sortWorldK encRS 2 w g 0 n (sortRS l0) os).heap.size := by
    show w.heap.size ≤ ((w.heap.modify g (onCells (putCells id 0 (flatK encRS 2 (sortRS l0))))) ++ os).size
    rw [Array.size_append, Array.size_modify]; omega
   have hPg : P0_ g := hok g rfl
   refine ⟨rfl, ⟨fun k hk => Or.inl (hok k hk), (flatK encRS 2 (sortRS l0)).toList, ⟨?_, Or.inr ⟨g, cap, _, by rw [hlenS], hbg, hblk, by rw [hlenS]; exact hnc, hcm, ?_, ?_⟩⟩, ?_, ?_⟩, ?_, ?_⟩
   ·
    show _ = _ * 2
    rw [Array.length_toList, size_flatK, hsz', hlenS]
   ·
    show _ = cap * 2
    rw [← hcs]; simp [putCells]
   ·
    show List.take (_ * 2) _ = _
    rw [hlenS]
    have hcs2 : cur.size = cap * 2 := hcs
    apply List.ext_getElem?
    intro j
    by_cases hj : j < l0.length * 2
    ·
     rw [List.getElem?_take_of_lt hj, Array.getElem?_toList, Array.getElem?_toList]
     unfold putCells
     rw [Array.getElem?_mapIdx, Array.getElem?_eq_getElem (show j < cur.size by omega), Option.map_some, if_pos ⟨Nat.zero_le _, by rw [size_flatK, hsz']; omega⟩, Nat.sub_zero, Array.getElem?_eq_getElem (show j < (flatK encRS 2 (sortRS l0)).size by rw [size_flatK, hsz']; exact hj), getElem!_pos _ j (by rw [size_flatK, hsz']; exact hj)]
     rfl
    · rw [List.getElem?_eq_none (by rw [List.length_take]; omega), List.getElem?_eq_none (by rw [Array.length_toList, size_flatK, hsz']; omega)]
   ·
    show _ = _ * 2
    rw [Array.length_toList, size_flatK, hsz', hlenS]
   ·
    intro j p hp
    have hj : j < l0.length := by rw [← hlenS]; exact (List.getElem?_eq_some_iff.1 hp).1
    have hpe : p = ((sortRS l0)[j]!).1 := by
     unfold sortedS at hp
     rw [List.getElem?_map, Array.getElem?_toList, Array.getElem?_eq_getElem (by omega), Option.map_some] at hp
     rw [getElem!_pos _ j (by omega)]
     exact (Option.some.inj hp).symm
    have e : (List.drop (j * 2) (flatK encRS 2 (sortRS l0)).toList).take 2 = [Value.int .i64 p.f0, Value.int .i64 p.f1] := by
     apply List.ext_getElem?
     intro i
     by_cases hi : i < 2
     ·
      rw [List.getElem?_take_of_lt hi, List.getElem?_drop, Array.getElem?_toList, Array.getElem?_eq_getElem (by rw [size_flatK, hsz']; omega), ← getElem!_pos _ _ (by rw [size_flatK, hsz']; omega), get_flatK encRS 2 _ _ (by rw [hsz']; omega), show (j * 2 + i) / 2 = j by omega, show (j * 2 + i) % 2 = i by omega]
      unfold encRS
      rw [← hpe]
      match i, hi with
      | 0, _ => rfl
      | 1, _ => rfl
     · rw [List.getElem?_eq_none (by rw [List.length_take]; omega), List.getElem?_eq_none (by simp; omega)]
    show k76.M _ _ _ p ((List.drop (j * 2) (flatK encRS 2 (sortRS l0)).toList).take 2)
    rw [e]
    exact k76_mkM _ _ _ p
   · exact ⟨hB.os, hB.tape, hB.output, Nat.le_trans hB.size hsize, fun k hk => (hoth k (Nat.lt_of_lt_of_le hk hB.size) (by omega)).trans (hB.block k hk)⟩
   · exact ⟨hsize, fun i hi hn => hoth i hi (fun e => hn (by rw [e]; exact hPg))⟩
 · exact absurd h (by simp)
end
def span_end.f (a0_0 : Int) (a0_1 : Int) : Option (Int) := some (wrap64 (a0_0 + a0_1))
set_option maxHeartbeats 8000000 in
set_option maxRecDepth 100000 in
theorem span_end.calls (a0_0 : Int) (a0_1 : Int) (r : Int) (w : World) (h : span_end.f a0_0 a0_1 = some r) :
  Calls Tryd.prog 63 #[.agg #[.int .i64 a0_0, .int .i64 a0_1]] w fun e w' => e = .returned (.int .i64 r) ∧ Below w.heap.size w w' := by
 have hu76 := Tryd.underlying76
 have HB := Aside0.mk (Below.refl w.heap.size w)
 have H : (some (wrap64 (a0_0 + a0_1))) = some r := h
 clear h
 obtain rfl := Option.some.inj H
 go_enter Tryd.func63, Tryd.ntmps63
 go_wp2_with (first | ((with_reducible refine gate_dst (N := 1) rfl ?_); refine box_event ?hg (N := 1) ?hd (cs := #[.int .i64 a0_0, .int .i64 a0_1]) (t := 76) ?hr ?_; (case hd => rfl); (case hg => rfl); (case hr => first | (go_simp; done) | (go_simp; rfl)); intro gb162 hg w2 hbox hb; have n0_ := Aside0.mk (below_step (by repeat (first | (with_reducible first | exact HB.out | apply below_alloc | apply pw_below_drewN | apply below_drew1) | exact HB.out)) hb); have n1_ := Aside0.mk (hbox); have n2_ := Aside0.mk ((by rw [hg]; exact (below_size (by repeat (first | (with_reducible first | exact HB.out | apply below_alloc | apply pw_below_drewN | apply below_drew1) | exact HB.out))) : w.heap.size ≤ gb162)); have n3_ := Aside0.mk ((by rw [hg]; exact (below_size (by repeat (first | (with_reducible first | exact HB.out | apply below_alloc | apply pw_below_drewN | apply below_drew1) | exact HB.out))) : w.heap.size ≤ gb162)); clear HB; have HB := n0_; have BK162 := n1_; have GW162 := n2_; have GE162 := n3_; clear n0_ n1_ n2_ n3_; clear hb hbox hg; have hcz3_0 : w2.cell? ⟨gb162, 0, none⟩ = some (.int .i64 a0_0) := (blk_cell BK162.out 0).trans rfl; have hcz3_1 : w2.cell? ⟨gb162, 1, none⟩ = some (.int .i64 a0_1) := (blk_cell BK162.out 1).trans rfl; have hfz3_0 := blk_frozen BK162.out 0; have hfz3_1 := blk_frozen BK162.out 1))
 go_ret
 exact ⟨by first | rfl | (simp [errW_none, errW_some] <;> rfl) | (simp [*, errW_none, errW_some] <;> rfl), by repeat (first | (with_reducible first | exact HB.out | apply below_alloc | apply pw_below_drewN | apply below_drew1 | refine below_set ?_ GE162.out) | exact HB.out)⟩
end Go.Proofs.YtagcaheopbmdiaaDoor.QLockSeals
