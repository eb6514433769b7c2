/- Sealed layers: the reference's errors of sealing. No condition. -/
import Derived.Test.YtagcaheopbmdiaaDoorYPureLockSealsLK
import Derived.Maps.OwnOps
import Derived.Maps.Views
import Derived.StringKeys
namespace Go.Proofs.YtagcaheopbmdiaaDoor.Lk
open Go.Proofs.YtagcaheopbmdiaaDoor.SumPlain Go.Maps
open Go Go.RowKit Go.Proofs.YtagcaheopbmdiaaDoor.QLockSeals Go.Proofs.YtagcaheopbmdiaaDoorW.PrintWords Go.Proofs.YtagcaheopbmdiaaDoorW.PrintLast Go.Proofs.YtagcaheopbmdiaaDoorW.PrintMore
set_option linter.unusedVariables false
set_option linter.unusedSimpArgs false
theorem q12a : type_of% @Aside0.mk := @Aside0.mk
theorem plainElem_bool_inv {H : Type} {P : Program} {e : TypeId} (he : P.underlying e = some .bool) {v : Value} {z : DataW H × List MemPlace} (h : plainElem P e v = some z) : ∃ x, v = .bool x ∧ z = (.lit (.bool x), []) := by
 unfold plainElem at h
 rw [he] at h
 cases v <;> simp at h
 exact ⟨_, rfl, h.symm⟩
theorem wpList_lookup_own_bool {H : Type} {P : Program} (w : World) {ops : Array Oper} {rest : List Oper} {o : Oper} {a : Act} {Q : Exit → Act → World → Prop}
  (hg : o.guard = none) (m x : Operand) (t : TypeId) (hop : o.op = Op.lookup t m x false)
  (k e : TypeId) (K : Maps.Keyed P k) (ht : P.underlying t = some (.map k e)) (he : P.underlying e = some .bool) (hz : (zeroValue e).run P w = .ok (.bool false) w) (b n : Nat) (D : DataW H)
  (hm : a.eval m = .map (some b)) (hown : w.ownsMap P k (plainElem P e) b n D) (key : Value) (kl : Lit) (hx : a.eval x = key) (hkey : keyOf P k key = some kl)
  (hK : ∀ c : Bool, D.atKey kl (.lit (.bool false)) = .lit (.bool c) → wpList P ops Q rest (a.put o.dst (.bool c)) w) :
  wpList P ops Q (o :: rest) a w := by
 refine wpList_plain hg fun K' hK' => ?_
 obtain ⟨v, ps, hrun, hv⟩ := hown.lookup K ht hz (plainElem_bool he false) hkey
 obtain ⟨c, rfl, hc⟩ := plainElem_bool_inv he hv
 have hat := (Prod.mk.inj hc).1
 unfold Oper.wp
 simp [execOp, hop, hm, hx, hrun, Result.andThen]
 exact hK' _ _ (hK c hat)
theorem owns_below {H : Type} {P : Program} {k : TypeId} {R : Value → Option (DataW H × List MemPlace)} {w W : World} {b n : Nat} {D : DataW H} (h : w.ownsMap P k R b n D) (hb : Below w.heap.size w W) : W.ownsMap P k R b n D := by
 have hlt := h.lt
 obtain ⟨es, clock, hh, F, hs, hD⟩ := h
 exact ⟨es, clock, (hb.block b hlt).trans hh, F, hs, hD⟩
/-- the map of the names seen so far -/
def mapN : List ByteArray → DataW Unit
 | [] => .map []
 | s :: l => (mapN l).put (.string s.data.toList) (.lit (.bool true))
def seenN (l : List ByteArray) : DataW Unit := mapN l.reverse
theorem mapN_is : ∀ l, Maps.IsMap (mapN l)
 | [] => ⟨[], rfl⟩
 | s :: l => by
  obtain ⟨es, he⟩ := mapN_is l
  unfold mapN
  rw [he]
  exact ⟨_, rfl⟩
theorem mapN_at (s : ByteArray) : ∀ l, (mapN l).atKey (.string s.data.toList) (.lit (.bool false)) = .lit (.bool (hasN l s))
 | [] => rfl
 | x :: l => by
  unfold mapN hasN
  rw [List.any_cons]
  by_cases h : s.toList = x.toList
  ·
   have h2 : s.data.toList = x.data.toList := by rw [← Go.Lib.toList_data, ← Go.Lib.toList_data, h]
   rw [decide_eq_true h, Bool.true_or, h2, Maps.atKey_put_same (mapN_is l) (show WideAt.IsKeyLit (Lit.string x.data.toList) from trivial)]
  ·
   have h2 : (Lit.string s.data.toList) ≠ Lit.string x.data.toList := fun h3 => h (by rw [Go.Lib.toList_data, Go.Lib.toList_data]; exact Lit.string.inj h3)
   rw [decide_eq_false h, Bool.false_or, Maps.atKey_put_other h2, mapN_at s l]
   rfl
theorem hasN_rev (l : List ByteArray) (s : ByteArray) : hasN l.reverse s = hasN l s := by unfold hasN; rw [List.any_reverse]
theorem seenN_at (l : List ByteArray) (s : ByteArray) : (seenN l).atKey (.string s.data.toList) (.lit (.bool false)) = .lit (.bool (hasN l s)) := by unfold seenN; rw [mapN_at, hasN_rev]
theorem seenN_snoc (l : List ByteArray) (s : ByteArray) : seenN (l ++ [s]) = (seenN l).put (.string s.data.toList) (.lit (.bool true)) := by unfold seenN; rw [List.reverse_append]; rfl
theorem keysF_step (names : List ByteArray) (i : Nat) (h : i < names.length) : keysF names (names.length - i) i = if nameP (nmAt names i) = true then (if hasN (names.take i) (nmAt names i) = true then 7 else keysF names (names.length - (i + 1)) (i + 1)) else 6 := by
 rw [show names.length - i = (names.length - (i + 1)) + 1 by omega, keysF]
def SeRel (w wr : World) (b : Nat) (names : List ByteArray) (r : Int) (v : Value) : Prop := ∃ i : Nat, i ≤ names.length ∧ v = .int .i64 (i : Int) ∧ Aside0 (r = keysF names (names.length - i) i) ∧ Aside0 (World.ownsMap (H := Unit) wr Tryd.prog 9 (plainElem Tryd.prog 4) b i (seenN (names.take i))) ∧ Aside0 (Below w.heap.size w wr)
theorem sealerr_law : Maps.Keyed Tryd.prog 9 := Maps.string_keyed Tryd.underlying9
theorem sealerr_zero (w : World) : (zeroValue 4).run Tryd.prog w = .ok (.bool false) w := by kernel_rfl
set_option maxHeartbeats 8000000 in
set_option maxRecDepth 100000 in
theorem sealerr_calls (A1 : Option Addr) (c1 : Nat) (names : List ByteArray) (size : Nat) (hsz : size ≤ 140737488351232) (w : World) (hN : Kd.C Kd.string w A1 names.length names) (hc1 : names.length ≤ c1) :
  Calls Tryd.prog 5 #[.int .i64 (size : Int), .slice A1 names.length c1] w fun e w' => e = .returned (.int .i64 (if 65408 < size then 2 else keysE names)) ∧ Below w.heap.size w w' := by
 have hws : IntKind.i64.wrap ((size : Int) + 128) = (size : Int) + 128 := by rw [i64_w]; unfold wrap64; omega
 have HB := q12a (Below.refl w.heap.size w)
 by_cases g0 : 65408 < size
 ·
  rw [if_pos g0]
  have t0 : decide ((65536 : Int) < (size : Int) + 128) = true := decide_eq_true (by omega)
  clear hN hc1 g0 hsz
  go_enter Tryd.func5, Tryd.ntmps5
  go_wp2
  go_ret
  exact ⟨rfl, HB.out⟩
 rw [if_neg g0]
 have t0 : decide ((65536 : Int) < (size : Int) + 128) = false := decide_eq_false (by omega)
 clear g0 hsz
 unfold keysE
 by_cases g1 : names.length < 1
 ·
  rw [if_pos (Or.inl g1)]
  have hn0 : names.length = 0 := by omega
  obtain ⟨nl, hnl⟩ : ∃ n, n = names.length := ⟨_, rfl⟩
  rw [← hnl]
  have hz : nl = 0 := by omega
  subst hz
  clear hN hc1 g1 hn0 hnl
  go_enter Tryd.func5, Tryd.ntmps5
  go_wp2
  go_ret
  exact ⟨rfl, HB.out⟩
 have t1 : ((names.length : Int) == 0) = false := beq_eq_false_iff_ne.2 (by omega)
 have t1b : (names.length = 0) = False := eq_false (by omega)
 by_cases g2 : 4 < names.length
 ·
  rw [if_pos (Or.inr g2)]
  have t2 : decide ((4 : Int) < (names.length : Int)) = true := decide_eq_true (by omega)
  clear hN hc1 g1 g2
  go_enter Tryd.func5, Tryd.ntmps5
  go_wp2
  go_ret
  exact ⟨rfl, HB.out⟩
 rw [if_neg (by omega)]
 have t2 : decide ((4 : Int) < (names.length : Int)) = false := decide_eq_false (by omega)
 have t2b : ¬ (4 < names.length) := g2
 have HN4 := q12a (show names.length ≤ 4 by omega)
 have HN := q12a hN
 have HC1 := q12a hc1
 obtain ⟨r, hr⟩ : ∃ r, r = keysF names names.length 0 := ⟨_, rfl⟩
 rw [← hr]
 have HR := q12a hr
 have hmm := @run_makeMap Tryd.prog
 have HB0 := q12a (below_alloc (Below.refl w.heap.size w) (.map #[] 0))
 have HO0 := q12a (World.ownsMap_made (H := Unit) w Tryd.prog 9 (plainElem Tryd.prog 4))
 clear hN hc1 g1 g2 hr HB
 go_enter Tryd.func5, Tryd.ntmps5
 go_wp2
 go_loopw [24] (fun v wr => SeRel w wr w.heap.size names r v) (fun v _ => names.length - (intOf v).toNat)
 case atStart => exact ⟨0, Nat.zero_le _, rfl, HR, HO0, HB0⟩
 case round =>
  clear HO0 HB0 HR
  obtain ⟨i, hi, rfl, HR, HO, HBr⟩ := hrel
  by_cases hlt : i < names.length
  ·
   have hlti : (i : Int) < (names.length : Int) := Int.ofNat_lt.2 hlt
   have hnx : IntKind.i64.wrap ((i : Int) + 1) = (i : Int) + 1 := by have := HN4.out; rw [i64_w]; unfold wrap64; omega
   obtain ⟨ad, eA, e0⟩ := Kd.at_string (Kd.C_below HN.out HBr.out) (i : Int) (Int.natCast_nonneg _) hlti
   rw [Int.toNat_natCast] at e0
   have HST := q12a ((HR.out).trans (keysF_step names i hlt))
   have HTK := q12a (show names.take (i + 1) = names.take i ++ [nmAt names i] from take_nm names i hlt)
   have HNV := q12a (named_ev (nmAt names i))
   have HAT := q12a (seenN_at (names.take i) (nmAt names i))
   obtain ⟨nm, hnm⟩ : ∃ n, n = nmAt names i := ⟨_, rfl⟩
   rw [show rdOf ByteArray.empty names (i : Int) = nm from hnm.symm] at e0
   rw [← hnm] at HST HTK HNV HAT
   have HLT := q12a hlt
   subst eA
   clear hnm hlt HR
   cases hna : nameP nm with
   | false =>
    rw [hna] at HST HNV
    obtain ⟨kn, hkn⟩ := HNV.out.rounds
    have HKN := q12a hkn
    clear hkn HNV hna
    go_wp2_with (first
     | (go_at_call 13; refine (wrackref1_Named.calls kn nm false _ HKN.out).mono ?_; rintro e w1 ⟨rfl, hb1⟩; have HB1 := q12a (below_step HBr.out hb1); clear hb1))
    go_ret
    exact ⟨by rw [HST.out]; rfl, HB1.out⟩
   | true =>
    have hz := nameP_size nm hna
    have HZ := q12a (show nm.size ≤ maxLen by unfold maxLen; omega)
    rw [hna] at HST HNV
    obtain ⟨kn, hkn⟩ := HNV.out.rounds
    have HKN := q12a hkn
    clear hkn HNV hna hz
    cases hha : hasN (names.take i) nm with
    | true =>
     rw [hha] at HST HAT
     clear hha
     go_wp2_with (first
      | (go_at_call 13; refine (wrackref1_Named.calls kn nm true _ HKN.out).mono ?_; rintro e w1 ⟨rfl, hb1⟩; have HB1 := q12a (below_step HBr.out hb1); have HO1 := q12a (owns_below HO.out hb1); clear hb1)
      | (refine wpList_lookup_own_bool _ rfl _ _ 37 rfl 9 4 sealerr_law Tryd.underlying37 Tryd.underlying4 (sealerr_zero _) w.heap.size i _ rfl HO1.out (.string nm) _ rfl (WideMaps.keyOf_string_mk Tryd.underlying9 HZ.out) ?_; intro c hat; obtain rfl : c = true := Lit.bool.inj (DataW.lit.inj (hat.symm.trans HAT.out)); clear hat))
     go_ret
     exact ⟨by rw [HST.out]; rfl, HB1.out⟩
    | false =>
     rw [hha] at HST HAT
     clear hha
     go_wp2_with (first
      | (go_at_call 13; refine (wrackref1_Named.calls kn nm true _ HKN.out).mono ?_; rintro e w1 ⟨rfl, hb1⟩; have HB1 := q12a (below_step HBr.out hb1); have HO1 := q12a (owns_below HO.out hb1); clear hb1)
      | (refine wpList_lookup_own_bool _ rfl _ _ 37 rfl 9 4 sealerr_law Tryd.underlying37 Tryd.underlying4 (sealerr_zero _) w.heap.size i _ rfl HO1.out (.string nm) _ rfl (WideMaps.keyOf_string_mk Tryd.underlying9 HZ.out) ?_; intro c hat; obtain rfl : c = false := Lit.bool.inj (DataW.lit.inj (hat.symm.trans HAT.out)); clear hat)
      | (refine wpList_mapUpdate_own (H := Unit) _ rfl _ _ _ 37 rfl 9 4 sealerr_law Tryd.underlying37 (plainElem Tryd.prog 4) w.heap.size i _ rfl HO1.out (by have := HLT.out; have := HN4.out; unfold maxLen; omega) (.string nm) (.bool true) _ rfl rfl (WideMaps.keyOf_string_mk Tryd.underlying9 HZ.out) _ [] (plainElem_bool Tryd.underlying4 true) ?_; intro w2 hown2 hgr2; have HB2 := q12a (Below.grown HB1.out hgr2 HB1.out.size (fun k hk => by cases hk; exact Nat.le_refl _)); have HO2 := q12a (show World.ownsMap (H := Unit) w2 Tryd.prog 9 (plainElem Tryd.prog 4) w.heap.size (i + 1) (seenN (names.take (i + 1))) by rw [HTK.out, seenN_snoc]; exact hown2); clear hown2 hgr2))
     go_roundw
     case rel => exact ⟨i + 1, HLT.out, by go_num, ⟨HST.out⟩, HO2, HB2⟩
     case measure => exact st_dec HLT.out
  ·
   obtain rfl : i = names.length := by omega
   have hlf : decide ((names.length : Int) < (names.length : Int)) = false := decide_eq_false (by omega)
   go_wp2
   go_ret
   exact ⟨by rw [HR.out, Nat.sub_self]; rfl, HBr.out⟩
end Go.Proofs.YtagcaheopbmdiaaDoor.Lk
