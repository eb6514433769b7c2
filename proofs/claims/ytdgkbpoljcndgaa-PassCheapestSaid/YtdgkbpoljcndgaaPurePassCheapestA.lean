/- How many blocks of a result are good, as the program counts them. No condition. -/
import Derived.Test.YtdgkbpoljcndgaaPurePassRuns
import Derived.Shelf.SlicesE.DeleteFunc
import Derived.Lib.SliceRun
namespace Go.Proofs.Ytdgkbpoljcndgaa.Pure
open Go Go.RowKit Go.Maps Go.Proofs.Ytdgkbpoljcndgaa.QPassRuns Go.Proofs.YtdgkbpoljcndgaaW.PrintWords Go.Proofs.YtdgkbpoljcndgaaW.PrintLast Go.Proofs.YtdgkbpoljcndgaaW.PrintMore
set_option linter.unusedVariables false
set_option linter.unusedSimpArgs false
/-- a copy -/
def slices_Clone_int.f (l0 : List Int) : Option (List Int) := if l0.length ≤ 17592186044416 then some l0 else none
set_option maxHeartbeats 2000000 in
set_option maxRecDepth 100000 in
theorem slices_Clone_int.calls (A0 : Option Addr) (c0 : Nat) (l0 : List Int) (r : List Int) (w : World) (hr0 : Kd.C (Kd.int .i64) w A0 l0.length l0) (hc0 : l0.length ≤ c0) (h : slices_Clone_int.f l0 = some r) :
    Calls Try.prog 99 #[.slice A0 l0.length c0] w fun e w' => ∃ v0_ : Value, e = .returned v0_ ∧ Kd.R (Kd.int .i64) 3 w' w.heap.size (fun _ => True) v0_ r ∧ Below w.heap.size w w' := by
  unfold slices_Clone_int.f at h
  split at h
  · rename_i hl
    obtain rfl := Option.some.inj h
    have q22 : ∀ (w : World) (a : Option Addr) (n c n' c' : Nat), (binOp .eql 37 (.slice a n c) (.slice none n' c')).run Try.prog w = .ok (.bool a.isNone) w := fun w a n c n' c' => Go.Lib.run_eql_slice_nil w _ _ a n c n' c' Try.underlying37
    cases A0 with
    | none =>
      have h0 : l0 = [] := by
        refine List.eq_nil_of_length_eq_zero ?_
        rcases Nat.eq_zero_or_pos l0.length with h | h
        · exact h
        · obtain ⟨a, ha, _⟩ := hr0.2.2 h
          exact absurd ha (by simp)
      subst h0
      clear hr0
      go_enter Try.func99, Try.ntmps99
      go_wp2
      go_ret
      exact ⟨_, rfl, Kd.R_nil _ _ _ _ _, Below.refl _ _⟩
    | some ad =>
      have HR := Aside0.mk hr0
      clear hr0
      go_enter Try.func99, Try.ntmps99
      go_wp2_with (first
        | ((with_reducible refine gate_dst (N := 5) rfl ?_); refine Kd.R_lit (Kd.int .i64) _ 3 ?hg (N := 5) ?hd (xs := ([] : List Int)) (inner := []) (ok := fun _ => True) (okp := fun _ => True) ?hr (Reps.none _ _) (fun _ hk => hk) trivial (Below.refl _ _) (Nat.le_refl _) (by simp) ?_; (case hd => rfl); (case hg => rfl); (case hr => first | (go_simp; done) | (go_simp; rfl)); intro v1 w1 HO HB hg hat; have HC := Aside0.mk (Kd.C_below HR.out HB); have HO := Aside0.mk HO; have HB := Aside0.mk HB; clear hg hat)
        | ((with_reducible refine gate_dst (N := 7) rfl ?_); refine Kd.R_append_rows (Kd.int .i64) (Rr := (Kd.int .i64).K w1) w.heap.size rfl (.tmp 5) (.tmp 6) 37 3 (.int .i64 0) 8 rfl Try.underlying37 info3 rfl (by decide) (by decide) v1 [] l0 (some ad) l0.length c0 (fun _ => True) (fun _ => False) rfl rfl HO.out HC.out (fun _ _ h => h) (fun _ h => h.elim) (fun _ _ => trivial) HB.out HB.out.size (by simp; omega) ?_; intro v2 w2 HO2 HB2 hg hat))
      go_ret
      exact ⟨_, rfl, by simpa using HO2, HB2⟩
  · exact absurd h (by simp)
section
open Go.Shelf Go.RowKit Go.Lib Go.Sort Go.Proofs
def del_ren : Go.Shelf.Ren := ⟨fun | 10 => 98 | 6 => 113 | n => n, fun | 22 => 37 | 23 => 3 | 25 => 136 | 3 => 3 | 4 => 4 | 0 => 0 | n => n, fun | n => n⟩
theorem del_l : Go.Proofs.SlLaysH.n10 Try.prog del_ren := {
  mixed := by kernel_rfl
  f6 := ⟨Try.f113.name, by decide, Try.func113.trans (congrArg some (by kernel_rfl))⟩
  f10 := ⟨Try.f98.name, by decide, Try.func98.trans (congrArg some (by kernel_rfl))⟩
  t0 := Try.underlying0
  a0 := Try.isAgg0
  z0 := Try.sizeOf0
  v0 := Try.zeroValue0
  t3 := Try.underlying3
  a3 := Try.isAgg3
  z3 := Try.sizeOf3
  v3 := Try.zeroValue3
  t4 := Try.underlying4
  a4 := Try.isAgg4
  z4 := Try.sizeOf4
  v4 := Try.zeroValue4
  t22 := Try.underlying37
  a22 := Try.isAgg37
  z22 := Try.sizeOf37
  v22 := Try.zeroValue37
  a23 := Try.isAgg3
  z23 := Try.sizeOf3
  t25 := Try.underlying136
  a25 := Try.isAgg136
  z25 := Try.sizeOf136
  v25 := Try.zeroValue136 }

theorem indexFunc_nil (fv : Value) (w : World) : Calls Try.prog 113 #[.slice none 0 0, fv] w fun e w' => e = .returned (.int .i64 (-1)) ∧ w = w' := by
  go_enter Try.func113, Try.ntmps113
  go_wp2
  refine wp_loop_rounds 1 ?_
  rw [rounds_succ]
  go_wp2
  go_ret
  exact ⟨rfl, rfl⟩

theorem notGood_closure (x : Int) (W : World) : Calls Try.prog 100 #[.int .i64 x] W fun e w' => e = .returned (.bool (x != 1)) ∧ ∃ q, w' = W.drewN q := by
  go_enter Try.func100, Try.ntmps100
  go_wp2
  go_ret
  exact ⟨rfl, 0, rfl⟩
/-- how many blocks are good -/
def goods (l : List Int) : Nat := (l.filter fun x => !(x != 1)).length
set_option maxHeartbeats 2000000 in
theorem del_calls (v : Value) (l : List Int) (w0 w : World) (hb : Below w0.heap.size w0 w) (hR : (Kd.int .i64).R 3 w w0.heap.size (fun _ => True) v l) (hn : l.length ≤ 140737488355328) :
    Calls Try.prog 98 #[v, .func (.func 100) #[] #[]] w fun e w' => (∃ A c, e = .returned (.slice A (goods l) c)) ∧ Below w0.heap.size w0 w' := by
  obtain ⟨hok, inner, ⟨hil, hf⟩, hri, hrj⟩ := hR
  have eg : ∀ args w, (callFunc 100 args).run Try.prog w = .ok (.enter 100 args) w := enters_of Try.func100 (by kernel_rfl) rfl
  rcases hf with ⟨rfl, hn0⟩ | ⟨g, cap, cur, rfl, hbg, hh, hnc, hcm, hcs, hct⟩
  · have hl : l = [] := List.eq_nil_of_length_eq_zero hn0
    subst hl
    go_enter Try.func98, Try.ntmps98
    go_wp2_with (go_at_call 113; refine (indexFunc_nil _ _).mono ?_; rintro e w' ⟨rfl, rfl⟩)
    go_ret
    exact ⟨⟨_, _, rfl⟩, hb⟩
  · have hcs : cur.size = cap * 1 := hcs
    have hct : cur.toList.take (l.length * 1) = inner := hct
    have hg : g < w.heap.size := by
      rcases Nat.lt_or_ge g w.heap.size with h | h
      · exact h
      · rw [Array.getElem?_eq_none h] at hh; exact absurd hh (by simp)
    have hH : Go.Sort.Holds (Value.int .i64) w g 0 l.toArray := by
      intro j hj
      have hj : j < l.length := by simpa using hj
      have hM := hrj j l[j] (List.getElem?_eq_getElem hj)
      have hM' : (inner.drop (j * 1)).take 1 = [Value.int .i64 l[j]] := hM
      have hcj : cur[j]? = some (Value.int .i64 l[j]) := by
        have e1 : ((inner.drop (j * 1)).take 1)[0]? = inner[j]? := by
          rw [List.getElem?_take_of_lt (by decide), List.getElem?_drop]; simp
        rw [hM'] at e1
        rw [← hct, List.getElem?_take_of_lt (by omega)] at e1
        rw [show cur[j]? = cur.toList[j]? by simp, ← e1]; rfl
      constructor
      · unfold World.cell?
        simp only [Nat.zero_add, hh]
        rw [hcj, getElem!_pos _ j (by simpa using hj)]
        simp
      · unfold World.frozen?
        simp [hh]
    have hcon := AnyE.slices_DeleteFunc del_l (Value.int .i64) (fun _ => rfl) (fun x => x != 1) 100 #[] eg 0 Try.zeroValue3 g 0 cap l.toArray w (fun W x _ => notGood_closure x W) (fun _ _ _ x _ => notGood_closure x _) hH (by simp; omega) (by simpa using hnc)
    change Calls Try.prog 98 _ _ _ at hcon
    simp only [List.size_toArray] at hcon
    refine hcon.mono ?_
    rintro e w' ⟨rfl, q, rfl⟩
    refine ⟨⟨_, _, rfl⟩, ?_⟩
    refine ⟨hb.os, hb.tape, hb.output, ?_, ?_⟩
    · show w0.heap.size ≤ (Array.modify w.heap g _).size
      rw [Array.size_modify]; exact hb.size
    · intro i hi
      show (Array.modify w.heap g _)[i]? = _
      rw [Array.getElem?_modify, if_neg (by omega)]
      exact hb.block i hi
set_option maxHeartbeats 2000000 in
/-- how many blocks of a result are good: the program's -/
theorem good_calls (A0 : Option Addr) (c0 : Nat) (st : List Int) (A1 A2 : Option Addr) (n1 c1 n2 c2 : Nat) (tm g : Int) (w : World) (hr : Kd.C (Kd.int .i64) w A0 st.length st) (hc : st.length ≤ c0) (hn : st.length ≤ 1000000) (hg : (goods st : Int) = g) :
    Calls Try.prog 97 #[.agg #[.slice A0 st.length c0, .slice A1 n1 c1, .slice A2 n2 c2, .int .i64 tm]] w fun e w' => e = .returned (.int .i64 g) ∧ Below w.heap.size w w' := by
  subst hg
  have HR := Aside0.mk hr
  have HC := Aside0.mk hc
  have hu82 := Try.underlying82
  have HF := Aside0.mk (show slices_Clone_int.f st = some st by unfold slices_Clone_int.f; rw [if_pos (by omega)])
  clear hr hc
  have HB := Aside0.mk (Below.refl w.heap.size w)
  have hgl : goods st ≤ st.length := List.length_filter_le _ _
  obtain ⟨gn, hgn⟩ : ∃ gn, goods st = gn := ⟨_, rfl⟩
  have HD := fun v w' (h1 : Below w.heap.size w w') h2 => del_calls v st w w' h1 h2 (by omega)
  rw [hgn] at HD hgl ⊢
  replace HD := Aside0.mk HD
  clear hgn
  go_enter Try.func97, Try.ntmps97
  go_wp2_with (first
    | ((with_reducible refine gate_dst (N := 1) rfl ?_); refine box_event ?hg (N := 1) ?hd (cs := #[.slice A0 st.length c0, .slice A1 n1 c1, .slice A2 n2 c2, .int .i64 tm]) (t := 82) ?hr ?_; (case hd => rfl); (case hg => rfl); (case hr => first | (go_simp; done) | (go_simp; rfl)); intro db hg w1 hbox hb; have HB1 := Aside0.mk (below_step HB.out hb); have cd0 : w1.cell? ⟨db, 0, none⟩ = some (.slice A0 st.length c0) := (blk_cell hbox 0).trans rfl; clear hg hb hbox)
    | (go_at_call 99; refine (slices_Clone_int.calls A0 c0 st st _ (Kd.C_below HR.out HB1.out) HC.out HF.out).mono ?_; rintro e w2 ⟨v0, rfl, hv0, hb2⟩; have HB2 := Aside0.mk (below_step HB1.out hb2); have HV := Aside0.mk (Kd.R_lower hv0 HB1.out.size); clear hv0 hb2 cd0)
    | (go_at_call 98; refine (HD.out v0 w2 HB2.out HV.out).mono ?_; rintro e w3 ⟨⟨A3, c3, rfl⟩, hb3⟩; have HB3 := Aside0.mk hb3; clear hb3))
  go_ret
  exact ⟨rfl, HB3.out⟩
end
end Go.Proofs.Ytdgkbpoljcndgaa.Pure
