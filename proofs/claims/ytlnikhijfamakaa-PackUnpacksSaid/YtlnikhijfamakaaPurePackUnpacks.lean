/- The statement PackUnpacks over numbers and lists alone. No condition. -/
import Derived.Test.YtlnikhijfamakaaQPackUnpacksx2
import Derived.Lib.Bytes
import Derived.Lib.Repeat
namespace Go.Proofs.Ytlnikhijfamakaa.Pure
open Go Go.RowKit Go.Proofs.Ytlnikhijfamakaa.QPackUnpacks Go.Proofs.YtlnikhijfamakaaW.PrintWords Go.Proofs.YtlnikhijfamakaaW.PrintLast Go.Proofs.YtlnikhijfamakaaW.PrintMore
set_option linter.unusedVariables false
set_option linter.unusedSimpArgs false
/-! strings as lists of numbers -/
theorem str_add (xs ys : List Int) : strOfNums xs ++ strOfNums ys = strOfNums (xs ++ ys) := by
  unfold strOfNums
  apply ByteArray.ext
  simp
theorem str_cut (xs : List Int) (a b : Nat) : (strOfNums xs).extract a b = strOfNums ((xs.take b).drop a) := by
  unfold strOfNums
  apply ByteArray.ext
  rw [ByteArray.data_extract]
  apply Array.toList_inj.mp
  simp [List.extract, List.drop_take]
theorem str_at (xs : List Int) (h : Bytes xs) (i : Nat) (hi : i < xs.length) : bt (strOfNums xs) (i : Int) = rd xs (i : Int) := by
  have hs : i < (strOfNums xs).size := by rw [str_size]; exact hi
  have hb := h _ (List.getElem_mem hi)
  unfold bt rd
  rw [Int.toNat_natCast, dif_pos hs, List.getD_eq_getElem?_getD, List.getElem?_eq_getElem hi, Option.getD_some]
  have e : (strOfNums xs)[i]'hs = UInt8.ofNat xs[i].toNat := by
    rw [ByteArray.getElem_eq_getElem_data]
    simp [strOfNums]
  rw [e]
  simp
  omega
theorem str_nil (xs : List Int) : (strOfNums xs).toList = ([] : List UInt8) ↔ xs = [] := by
  rw [Go.Lib.strOfNums_toList]
  unfold Go.Lib.bytesOf
  simp
/-! copies of a list -/
def rep (l : List Int) : Nat → List Int
  | 0 => []
  | c + 1 => l ++ rep l c
theorem rep_len (l : List Int) : ∀ c, (rep l c).length = c * l.length
  | 0 => by simp [rep]
  | c + 1 => by simp [rep, rep_len l c, Nat.succ_mul, Nat.add_comm]
theorem rep_map (f : Int → UInt8) (l : List Int) : ∀ c, Go.Lib.repeatL (l.map f) c = (rep l c).map f
  | 0 => rfl
  | c + 1 => by simp [rep, Go.Lib.repeatL, rep_map f l c]
theorem rep_bytes {l : List Int} (h : Bytes l) : ∀ c, Bytes (rep l c)
  | 0 => fun x hx => by simp [rep] at hx
  | c + 1 => fun x hx => by
    simp only [rep, List.mem_append] at hx
    rcases hx with hx | hx
    · exact h x hx
    · exact rep_bytes h c x hx
theorem rep_str (l : List Int) (c : Int) (h0 : 0 ≤ c) (h1 : c ≤ 9223372036854775807) (h2 : l.length * c.toNat ≤ 140737488355328) : strings_Repeat.f (strOfNums l) c = some (strOfNums (rep l c.toNat)) := by
  unfold strings_Repeat.f
  rw [if_pos ⟨h0, h1, by rw [str_size]; exact h2⟩]
  have e : (strOfNums l).data.toList = l.map fun n => UInt8.ofNat n.toNat := by simp [strOfNums]
  rw [e, rep_map]
  rfl
theorem rep_get (l : List Int) : ∀ q i, i < q * l.length → (rep l q).getD i 0 = l.getD (i % l.length) 0
  | 0, i, h => by simp at h
  | q + 1, i, h => by
    rw [Nat.succ_mul] at h
    by_cases hi : i < l.length
    · rw [Nat.mod_eq_of_lt hi]
      simp only [rep, List.getD_eq_getElem?_getD]
      rw [List.getElem?_append_left hi]
    · have e : i % l.length = (i - l.length) % l.length := Nat.mod_eq_sub_mod (by omega)
      rw [e, ← rep_get l q (i - l.length) (by omega)]
      simp only [rep, List.getD_eq_getElem?_getD]
      rw [List.getElem?_append_right (by omega)]
/-! a copy that runs over its own end -/
def cyc (back : Nat) (out : List Int) : Nat → List Int
  | 0 => out
  | m + 1 => cyc back (out ++ [rd out ((out.length - back : Nat) : Int)]) m
theorem cyc_len (back : Nat) : ∀ (m : Nat) (out : List Int), (cyc back out m).length = out.length + m
  | 0, out => rfl
  | m + 1, out => by simp only [cyc]; rw [cyc_len back m]; simp; omega
theorem cyc_snoc (back : Nat) : ∀ (m : Nat) (out : List Int), cyc back out (m + 1) = cyc back out m ++ [rd (cyc back out m) (((cyc back out m).length - back : Nat) : Int)]
  | 0, out => rfl
  | m + 1, out => by
    rw [cyc, cyc_snoc back m]
    rfl
theorem cyc_eq (back : Nat) (out : List Int) (q : Nat) (h1 : 1 ≤ back) (h2 : back ≤ out.length) : ∀ m, m ≤ q * back → cyc back out m = out ++ (rep (out.drop (out.length - back)) q).take m
  | 0, _ => by simp [cyc]
  | m + 1, hm => by
    have hl : (out.drop (out.length - back)).length = back := by rw [List.length_drop]; omega
    have hR : (rep (out.drop (out.length - back)) q).length = q * back := by rw [rep_len, hl]
    have hg := rep_get (out.drop (out.length - back)) q
    rw [hl] at hg
    rw [cyc_snoc, cyc_eq back out q h1 h2 m (by omega), List.append_assoc]
    congr 1
    generalize hRd : rep (out.drop (out.length - back)) q = R at hR hg
    rw [List.take_add_one, List.getElem?_eq_getElem (by omega)]
    congr 1
    simp only [Option.toList, List.cons.injEq, and_true]
    have e1 : R[m]'(by omega) = R.getD m 0 := by rw [List.getD_eq_getElem?_getD, List.getElem?_eq_getElem (by omega), Option.getD_some]
    rw [e1]
    unfold rd
    rw [Int.toNat_natCast]
    simp only [List.length_append, List.length_take]
    rw [show min m R.length = m by omega]
    by_cases hb : m < back
    · rw [hg m (by omega), Nat.mod_eq_of_lt hb]
      simp only [List.getD_eq_getElem?_getD]
      rw [List.getElem?_append_left (by omega), List.getElem?_drop, show out.length + m - back = out.length - back + m by omega]
    · rw [hg m (by omega), Nat.mod_eq_sub_mod (by omega), ← hg (m - back) (by omega)]
      simp only [List.getD_eq_getElem?_getD]
      rw [List.getElem?_append_right (by omega), show out.length + m - back - out.length = m - back by omega, List.getElem?_take_of_lt (by omega)]
theorem cyc_bytes {back : Nat} : ∀ (m : Nat) {out : List Int}, Bytes out → Bytes (cyc back out m)
  | 0, out, h => h
  | m + 1, out, h => by
    refine cyc_bytes m (fun x hx => ?_)
    rw [List.mem_append] at hx
    rcases hx with hx | hx
    · exact h x hx
    · rw [List.mem_singleton] at hx
      subst hx
      exact h.get _
/-! the inner loops -/
theorem fill_ev (t : List Int) (n : Int) (c b back : Int) (m : Nat) (hm : m ≤ 100) (hc : ¬ c ≥ 192) (r : List Int × Int) : ∀ (d i : Nat) (out : List Int), i + d = m → out.length + d ≤ 1000 →
    Ev (fun k => if ((out ++ rep [b] d).length : Int) > n then some (([] : List Int), 2) else pack_Unpack.l0 k t n (out ++ rep [b] d)) r → Ev (fun k => pack_Unpack.l1 k t n out c b back (m : Int) (i : Int)) r := by
  intro d
  induction d with
  | zero =>
    intro i out h1 h2 hr
    rw [show out ++ rep [b] 0 = out by simp [rep]] at hr
    refine Ev.step (fun k => ?_) hr
    simp only [pack_Unpack.l1]
    rw [if_neg (by omega)]
  | succ d ih =>
    intro i out h1 h2 hr
    refine Ev.step (fun k => ?_) (ih (i + 1) (out ++ [b]) (by omega) (by simp; omega) (by rw [List.append_assoc]; exact hr))
    simp only [pack_Unpack.l1]
    rw [if_pos (by omega), if_neg hc, if_pos (by omega), show wrap64 ((i : Int) + 1) = ((i + 1 : Nat) : Int) by unfold wrap64; omega]
theorem copy_ev (t : List Int) (n : Int) (c : Int) (back : Nat) (m : Nat) (hm : m ≤ 100) (hc : c ≥ 192) (hb : 1 ≤ back) (r : List Int × Int) : ∀ (d i : Nat) (out : List Int) (b : Int), i + d = m → out.length + d ≤ 1000 → back ≤ out.length →
    Ev (fun k => if ((cyc back out d).length : Int) > n then some (([] : List Int), 2) else pack_Unpack.l0 k t n (cyc back out d)) r → Ev (fun k => pack_Unpack.l1 k t n out c b (back : Int) (m : Int) (i : Int)) r := by
  intro d
  induction d with
  | zero =>
    intro i out b h1 h2 h3 hr
    refine Ev.step (fun k => ?_) hr
    simp only [pack_Unpack.l1]
    rw [if_neg (by omega)]
    rfl
  | succ d ih =>
    intro i out b h1 h2 h3 hr
    refine Ev.step (fun k => ?_) (ih (i + 1) (out ++ [rd out ((out.length - back : Nat) : Int)]) (rd out ((out.length - back : Nat) : Int)) (by omega) (by simp; omega) (by simp; omega) hr)
    simp only [pack_Unpack.l1]
    have e : wrap64 ((out.length : Int) - (back : Int)) = ((out.length - back : Nat) : Int) := by unfold wrap64; omega
    rw [if_pos (by omega), if_pos hc, e, if_pos (by omega), if_pos (by omega), if_pos (by omega), show wrap64 ((i : Int) + 1) = ((i + 1 : Nat) : Int) by unfold wrap64; omega]
/-! both at once -/
def Both (n : Int) (t out : List Int) : Prop := ∃ r : List Int × Int, Ev (fun k => pack_Unpack.l0 k t n out) r ∧ Ev (fun k => wrackref1_Tokens.l0 k (strOfNums t) n (strOfNums out)) (strOfNums r.1, r.2)
theorem over {n : Int} {t out : List Int} (h : (out.length : Int) ≤ n → Both n t out) : ∃ r : List Int × Int, Ev (fun k => if (out.length : Int) > n then some (([] : List Int), 2) else pack_Unpack.l0 k t n out) r ∧
    Ev (fun k => if ((strOfNums out).size : Int) > n then some ((⟨#[]⟩ : ByteArray), (2 : Int)) else wrackref1_Tokens.l0 k (strOfNums t) n (strOfNums out)) (strOfNums r.1, r.2) := by
  by_cases hn : (out.length : Int) > n
  · exact ⟨([], 2), Ev.congr (fun k => if_pos hn) (Ev.now _), Ev.congr (fun k => if_pos (by rw [str_size]; exact hn)) (Ev.now _)⟩
  · obtain ⟨r, h1, h2⟩ := h (by omega)
    exact ⟨r, Ev.congr (fun k => if_neg hn) h1, Ev.congr (fun k => if_neg (by rw [str_size]; exact hn)) h2⟩
theorem both_nil (n : Int) (out : List Int) : Both n [] out := by
  by_cases h : (out.length : Int) < n
  · refine ⟨([], 15), Ev.step (f := fun _ => some _) (fun k => ?_) (Ev.now _), Ev.step (f := fun _ => some _) (fun k => ?_) (Ev.now _)⟩
    · simp only [pack_Unpack.l0]
      rw [if_neg (by simp), if_pos h]
    · simp only [wrackref1_Tokens.l0]
      rw [if_pos ((str_nil _).mpr rfl), if_pos (by rw [str_size]; exact h)]
      rfl
  · refine ⟨(out, 0), Ev.step (f := fun _ => some _) (fun k => ?_) (Ev.now _), Ev.step (f := fun _ => some _) (fun k => ?_) (Ev.now _)⟩
    · simp only [pack_Unpack.l0]
      rw [if_neg (by simp), if_neg h]
    · simp only [wrackref1_Tokens.l0]
      rw [if_pos ((str_nil _).mpr rfl), if_neg (by rw [str_size]; exact h)]
def needOf (c : Int) : Nat := if c < 128 then c.toNat + 1 else 1
theorem un_cons (n c : Int) (rest out : List Int) (hc : 0 ≤ c ∧ c ≤ 255) (hr : Bytes rest) (ho : out.length ≤ 256) (k : Nat) : pack_Unpack.l0 (k + 1) (c :: rest) n out =
    if rest.length < needOf c then some ([], 15) else if c < 128 then (if ((out ++ rest.take (needOf c)).length : Int) > n then some (([] : List Int), 2) else pack_Unpack.l0 k (rest.drop (needOf c)) n (out ++ rest.take (needOf c)))
    else if c ≥ 192 then pack_Unpack.j2 k (rest.drop 1) n out c (rd rest 0) (rd rest 0 + 1) (decide ((rd rest 0 + 1) > (out.length : Int))) else pack_Unpack.j2 k (rest.drop 1) n out c (rd rest 0) (rd rest 0 + 1) false := by
  have e0 : rd (c :: rest) 0 = c := rfl
  have ew : wrap64 c = c := by unfold wrap64; omega
  have ew1 : wrap64 (c + 1) = c + 1 := by unfold wrap64; omega
  have eq_ : wrap64 (Int.tdiv c 64) = c / 64 := by rw [Int.tdiv_eq_ediv_of_nonneg hc.1]; unfold wrap64; omega
  have ey : rd ([c + 1, c + 1, 1, 1] : List Int) (c / 64) = (needOf c : Int) := by
    have h4 : c / 64 = 0 ∨ c / 64 = 1 ∨ c / 64 = 2 ∨ c / 64 = 3 := by omega
    unfold needOf
    rcases h4 with h | h | h | h <;> rw [h] <;> (first | rw [if_pos (by omega)] | rw [if_neg (by omega)]) <;> simp [rd] <;> omega
  have hb := hr.get 0
  have eb : wrap64 (rd rest 0) = rd rest 0 := by unfold rd at *; rw [Int.toNat_zero]; unfold wrap64; omega
  have eb1 : wrap64 (rd rest 0 + 1) = rd rest 0 + 1 := by unfold rd at *; rw [Int.toNat_zero]; unfold wrap64; omega
  simp only [pack_Unpack.l0]
  rw [if_pos (by simp only [List.length_cons]; omega), if_pos (by simp only [List.length_cons]; omega), if_pos (by simp only [List.length_cons]; omega)]
  simp only [Option.bind_some, e0, ew, ew1, eq_, List.drop_succ_cons, List.drop_zero, ey, eb, eb1, Int.toNat_natCast]
  rw [if_pos (by omega), if_pos (by simp; omega)]
  have hnl : needOf c ≤ 128 := by unfold needOf; split <;> omega
  by_cases hs : rest.length < needOf c
  · rw [if_pos (by omega), if_pos hs]
  · rw [if_neg (by omega), if_neg hs]
    by_cases h1 : c < 128
    · rw [if_pos h1, if_pos h1, if_pos (by omega), if_pos (by omega), if_pos (by rw [List.length_take]; omega)]
    · have hn1 : needOf c = 1 := by unfold needOf; rw [if_neg h1]
      rw [if_neg h1, if_neg h1, if_pos (by omega), if_pos (by omega)]
theorem tok_cons (n c : Int) (rest out : List Int) (hc : 0 ≤ c ∧ c ≤ 255) (ht : Bytes (c :: rest)) (k : Nat) : wrackref1_Tokens.l0 (k + 1) (strOfNums (c :: rest)) n (strOfNums out) = wrackref1_Tokens.j2 k (strOfNums (c :: rest)) n (strOfNums out) c (needOf c : Int) := by
  have ew : wrap64 c = c := by unfold wrap64; omega
  have ew1 : wrap64 (c + 1) = c + 1 := by unfold wrap64; omega
  have eb : bt (strOfNums (c :: rest)) 0 = c := str_at _ ht 0 (by simp)
  simp only [wrackref1_Tokens.l0]
  rw [if_neg (by rw [str_nil]; simp), if_pos (by rw [str_size]; simp only [List.length_cons]; omega), eb, ew, ew1]
  unfold needOf
  by_cases h1 : c < 128
  · rw [if_pos h1, if_pos h1, show ((c.toNat + 1 : Nat) : Int) = c + 1 by omega]
  · rw [if_neg h1, if_neg h1]
    rfl
theorem tok_j2 (n c : Int) (rest out : List Int) (hc : 0 ≤ c ∧ c ≤ 255) (hr : Bytes rest) (hl : rest.length ≤ 140737488351232) (ho : out.length ≤ 256) (k : Nat) : wrackref1_Tokens.j2 (k + 1) (strOfNums (c :: rest)) n (strOfNums out) c (needOf c : Int) =
    if rest.length < needOf c then some ((⟨#[]⟩ : ByteArray), 15) else if c < 128 then (if ((strOfNums (out ++ rest.take (needOf c))).size : Int) > n then some ((⟨#[]⟩ : ByteArray), (2 : Int)) else wrackref1_Tokens.l0 k (strOfNums (rest.drop (needOf c))) n (strOfNums (out ++ rest.take (needOf c))))
    else if c < 192 then (if ((strOfNums (out ++ rep [rd rest 0] (c - 125).toNat)).size : Int) > n then some ((⟨#[]⟩ : ByteArray), (2 : Int)) else wrackref1_Tokens.l0 k (strOfNums (rest.drop 1)) n (strOfNums (out ++ rep [rd rest 0] (c - 125).toNat)))
    else if (out.length : Int) < rd rest 0 + 1 then some ((⟨#[]⟩ : ByteArray), 8)
    else (if ((strOfNums (cyc (rd rest 0 + 1).toNat out (c - 189).toNat)).size : Int) > n then some ((⟨#[]⟩ : ByteArray), (2 : Int)) else wrackref1_Tokens.l0 k (strOfNums (rest.drop 1)) n (strOfNums (cyc (rd rest 0 + 1).toNat out (c - 189).toNat))) := by
  have hnl : needOf c ≤ 128 := by unfold needOf; split <;> omega
  have ew : wrap64 (1 + (needOf c : Int)) = ((needOf c + 1 : Nat) : Int) := by unfold wrap64; omega
  have esz : wrap64 (((strOfNums (c :: rest)).size : Int) - 1) = (rest.length : Int) := by rw [str_size, List.length_cons]; unfold wrap64; omega
  have e1 : (strOfNums (c :: rest)).extract 1 (needOf c + 1) = strOfNums (rest.take (needOf c)) := by rw [str_cut]; simp
  have e2 : (strOfNums (c :: rest)).extract (needOf c + 1) (strOfNums (c :: rest)).size = strOfNums (rest.drop (needOf c)) := by rw [str_cut, str_size]; simp
  have es : (strOfNums (c :: rest)).size = rest.length + 1 := by rw [str_size, List.length_cons]
  simp only [wrackref1_Tokens.j2]
  rw [esz]
  by_cases hs : rest.length < needOf c
  · rw [if_pos (by omega), if_pos hs]
  · rw [if_neg (by omega), if_neg hs, ew, Int.toNat_natCast, e1, e2, if_pos (by omega), if_pos (by omega), if_pos (by omega)]
    by_cases h1 : c < 128
    · rw [if_pos h1, if_pos h1, str_add, str_size, str_size, if_pos (by rw [List.length_take]; omega)]
    · have hn1 : needOf c = 1 := by unfold needOf; rw [if_neg h1]
      rw [if_neg h1, if_neg h1, hn1]
      rw [hn1] at hs
      obtain ⟨b, rs, rfl⟩ : ∃ b rs, rest = b :: rs := by
        cases rest with
        | nil => exact absurd (by simp) hs
        | cons b rs => exact ⟨b, rs, rfl⟩
      have et : (b :: rs).take 1 = [b] := rfl
      have er : rd (b :: rs) 0 = b := rfl
      have hb := hr b (by simp)
      have eb : bt (strOfNums [b]) 0 = b := str_at [b] (fun x hx => by rw [List.mem_singleton] at hx; subst hx; exact hb) 0 (by simp)
      rw [et, er]
      by_cases h2 : c < 192
      · rw [if_pos h2, if_pos h2, show wrap64 (c - 125) = c - 125 by unfold wrap64; omega, rep_str [b] (c - 125) (by omega) (by omega) (by simp; omega), Option.bind_some, str_add, str_size, str_size, str_size, if_pos (by rw [rep_len]; simp; omega)]
      · rw [if_neg h2, if_neg h2, eb, show wrap64 b = b by unfold wrap64; omega, show wrap64 (b + 1) = b + 1 by unfold wrap64; omega, str_size, if_pos (by simp)]
        by_cases h3 : (out.length : Int) < b + 1
        · rw [str_size, if_pos h3, if_pos h3]
        · obtain ⟨back, hback⟩ : ∃ back : Nat, (back : Int) = b + 1 := ⟨(b + 1).toNat, by omega⟩
          obtain ⟨m, hm⟩ : ∃ m : Nat, (m : Int) = c - 189 := ⟨(c - 189).toNat, by omega⟩
          have hm66 : m ≤ 66 := by omega
          have hmb : m / back ≤ 66 := Nat.le_trans (Nat.div_le_self _ _) hm66
          have hlt : m < (m / back + 1) * back := by
            rw [Nat.mul_comm]
            exact Nat.lt_mul_div_succ m (by omega)
          have hle : (m / back + 1) * back ≤ 66 + back := by
            rw [Nat.succ_mul]
            have := Nat.div_mul_le_self m back
            omega
          rw [str_size, if_neg h3, if_neg h3, show wrap64 (c - 189) = (m : Int) by rw [hm]; unfold wrap64; omega, ← hback, show wrap64 ((out.length : Int) - (back : Int)) = ((out.length - back : Nat) : Int) by unfold wrap64; omega]
          rw [Int.tdiv_eq_ediv_of_nonneg (by omega : (0 : Int) ≤ (m : Int)), show ((m : Int) / (back : Int)) = ((m / back : Nat) : Int) from rfl]
          generalize m / back = q at hmb hlt hle ⊢
          rw [show wrap64 (q : Int) = (q : Int) by unfold wrap64; omega, show wrap64 ((q : Int) + 1) = ((q + 1 : Nat) : Int) by unfold wrap64; omega]
          obtain ⟨z, hz⟩ : ∃ z, z = (q + 1) * back := ⟨_, rfl⟩
          rw [← hz] at hlt hle
          have hdl : (out.drop (out.length - back)).length = back := by rw [List.length_drop]; omega
          rw [Int.toNat_natCast, Int.toNat_natCast, ← hm, Int.toNat_natCast, str_cut, List.take_of_length_le (Nat.le_refl _), if_pos (by omega), if_pos (by omega), if_neg (by omega),
            rep_str _ _ (by omega) (by omega) (by rw [Int.toNat_natCast, hdl, Nat.mul_comm, ← hz]; omega), Option.bind_some, Int.toNat_natCast, str_cut, List.drop_zero, str_add, ← cyc_eq back out (q + 1) (by omega) (by omega) m (by rw [← hz]; omega)]
          rw [if_pos (by omega), if_pos (by rw [str_size, rep_len, hdl, ← hz]; omega), if_pos (by rw [str_size, List.length_take]; omega), Int.toNat_natCast]
/-- all tokens -/
theorem both (n : Int) (hn : n ≤ 256) : ∀ (L : Nat) (t out : List Int), t.length ≤ L → t.length ≤ 140737488351232 → Bytes t → Bytes out → (out.length : Int) ≤ n → Both n t out := by
  intro L
  induction L with
  | zero =>
    intro t out h1 h2 ht ho hl
    obtain rfl : t = [] := List.length_eq_zero_iff.mp (by omega)
    exact both_nil n out
  | succ L ih =>
    intro t out h1 h2 ht ho hl
    cases t with
    | nil => exact both_nil n out
    | cons c rest =>
      have hc := ht c (by simp)
      have hr : Bytes rest := fun x hx => ht x (List.mem_cons_of_mem _ hx)
      rw [List.length_cons] at h1 h2
      have ho2 : out.length ≤ 256 := by omega
      have hU := un_cons n c rest out hc hr ho2
      have hT := tok_cons n c rest out hc ht
      have hJ := tok_j2 n c rest out hc hr (by omega) ho2
      have hb := hr.get 0
      have hb' : 0 ≤ rd rest 0 ∧ rd rest 0 ≤ 255 := hb
      have bd : ∀ i, Bytes (rest.drop i) := fun i x hx => hr x (List.mem_of_mem_drop hx)
      by_cases hs : rest.length < needOf c
      · refine ⟨([], 15), Ev.step (f := fun _ => some _) (fun k => ?_) (Ev.now _), Ev.step (fun k => hT k) (Ev.step (f := fun _ => some _) (fun k => ?_) (Ev.now _))⟩
        · rw [hU, if_pos hs]
        · rw [hJ, if_pos hs]; rfl
      · by_cases h3 : c < 128
        · have ho' : Bytes (out ++ rest.take (needOf c)) := fun x hx => by
            rw [List.mem_append] at hx
            rcases hx with hx | hx
            · exact ho x hx
            · exact hr x (List.mem_of_mem_take hx)
          obtain ⟨r, g1, g2⟩ := over (n := n) (t := rest.drop (needOf c)) (out := out ++ rest.take (needOf c)) (fun hle => ih _ _ (by rw [List.length_drop]; omega) (by rw [List.length_drop]; omega) (bd _) ho' hle)
          refine ⟨r, Ev.step (fun k => ?_) g1, Ev.step (fun k => hT k) (Ev.step (fun k => ?_) g2)⟩
          · rw [hU, if_neg hs, if_pos h3]
          · rw [hJ, if_neg hs, if_pos h3]
        · by_cases h4 : c < 192
          · have ho' : Bytes (out ++ rep [rd rest 0] (c - 125).toNat) := fun x hx => by
              rw [List.mem_append] at hx
              rcases hx with hx | hx
              · exact ho x hx
              · exact rep_bytes (l := [rd rest 0]) (fun y hy => by rw [List.mem_singleton] at hy; subst hy; exact hb') _ x hx
            obtain ⟨r, g1, g2⟩ := over (n := n) (t := rest.drop 1) (out := out ++ rep [rd rest 0] (c - 125).toNat) (fun hle => ih _ _ (by rw [List.length_drop]; omega) (by rw [List.length_drop]; omega) (bd _) ho' hle)
            have em : wrap64 (Int.tmod c 64 + 3) = ((c - 125).toNat : Int) := by rw [Int.tmod_eq_emod_of_nonneg hc.1]; unfold wrap64; omega
            have g := fill_ev (rest.drop 1) n c (rd rest 0) (rd rest 0 + 1) (c - 125).toNat (by omega) (by omega) r (c - 125).toNat 0 out (by omega) (by omega) g1
            refine ⟨r, Ev.step (fun k => ?_) (Ev.step (f := fun k => pack_Unpack.l1 k (rest.drop 1) n out c (rd rest 0) (rd rest 0 + 1) ((c - 125).toNat : Int) ((0 : Nat) : Int)) (g := fun k => pack_Unpack.j2 k (rest.drop 1) n out c (rd rest 0) (rd rest 0 + 1) false) (fun k => ?_) g), Ev.step (fun k => hT k) (Ev.step (fun k => ?_) g2)⟩
            · rw [hU, if_neg hs, if_neg h3, if_neg (by omega)]
            · simp only [pack_Unpack.j2]
              rw [if_neg (by decide), em]
              rfl
            · rw [hJ, if_neg hs, if_neg h3, if_pos h4]
          · by_cases h5 : (out.length : Int) < rd rest 0 + 1
            · refine ⟨([], 8), Ev.step (fun k => ?_) (Ev.step (f := fun _ => some _) (g := fun k => pack_Unpack.j2 k (rest.drop 1) n out c (rd rest 0) (rd rest 0 + 1) true) (fun k => ?_) (Ev.now _)), Ev.step (fun k => hT k) (Ev.step (f := fun _ => some _) (fun k => ?_) (Ev.now _))⟩
              · rw [hU, if_neg hs, if_neg h3, if_pos (by omega), decide_eq_true (by omega)]
              · simp only [pack_Unpack.j2]
                rw [if_pos True.intro]
              · rw [hJ, if_neg hs, if_neg h3, if_neg h4, if_pos h5]; rfl
            · obtain ⟨back, hback⟩ : ∃ back : Nat, (back : Int) = rd rest 0 + 1 := ⟨(rd rest 0 + 1).toNat, by omega⟩
              have hbk : (rd rest 0 + 1).toNat = back := by omega
              rw [hbk] at hJ
              obtain ⟨r, g1, g2⟩ := over (n := n) (t := rest.drop 1) (out := cyc back out (c - 189).toNat) (fun hle => ih _ _ (by rw [List.length_drop]; omega) (by rw [List.length_drop]; omega) (bd _) (cyc_bytes _ ho) hle)
              have em : wrap64 (Int.tmod c 64 + 3) = ((c - 189).toNat : Int) := by rw [Int.tmod_eq_emod_of_nonneg hc.1]; unfold wrap64; omega
              have g := copy_ev (rest.drop 1) n c back (c - 189).toNat (by omega) (by omega) (by omega) r (c - 189).toNat 0 out (rd rest 0) (by omega) (by omega) (by omega) g1
              refine ⟨r, Ev.step (fun k => ?_) (Ev.step (f := fun k => pack_Unpack.l1 k (rest.drop 1) n out c (rd rest 0) (back : Int) ((c - 189).toNat : Int) ((0 : Nat) : Int)) (g := fun k => pack_Unpack.j2 k (rest.drop 1) n out c (rd rest 0) (back : Int) false) (fun k => ?_) g), Ev.step (fun k => hT k) (Ev.step (fun k => ?_) g2)⟩
              · rw [hU, if_neg hs, if_neg h3, if_pos (by omega), decide_eq_false (by omega), hback]
              · simp only [pack_Unpack.j2]
                rw [if_neg (by decide), em]
                rfl
              · rw [hJ, if_neg hs, if_neg h3, if_neg h4, if_neg h5]
theorem all_both (l : List Int) (n : Int) (hl : l.length ≤ 140737488351232) (hb : Bytes l) : ∃ r : List Int × Int, Ev (fun k => pack_Unpack.f k l n) r ∧ Ev (fun k => wrackref1_Tokens.f k (strOfNums l) n) (strOfNums r.1, r.2) := by
  by_cases h : n < 0 ∨ n > 256
  · refine ⟨([], 4), Ev.step (f := fun _ => some _) (fun k => ?_) (Ev.now _), Ev.step (f := fun _ => some _) (fun k => ?_) (Ev.now _)⟩
    · unfold pack_Unpack.f
      by_cases h1 : n < 0
      · rw [if_pos h1]; rfl
      · rw [if_neg h1, decide_eq_true (by omega)]; rfl
    · unfold wrackref1_Tokens.f
      by_cases h1 : n < 0
      · rw [if_pos h1]; rfl
      · rw [if_neg h1, decide_eq_true (by omega)]; rfl
  · obtain ⟨r, g1, g2⟩ := both n (by omega) l.length l [] (Nat.le_refl _) hl hb (fun x hx => by cases hx) (by simp; omega)
    refine ⟨r, Ev.step (fun k => ?_) g1, Ev.step (fun k => ?_) g2⟩
    · unfold pack_Unpack.f
      rw [if_neg (by omega), decide_eq_false (by omega)]
      rfl
    · unfold wrackref1_Tokens.f
      rw [if_neg (by omega), decide_eq_false (by omega)]
      rfl
theorem packs_ev : Ev (fun k => wracklaw1_packs.f k) true := Ev.of (fun k => wracklaw1_packs.mono k) (k := 40) (by decide +kernel)
theorem PackUnpacks : wracklaw1_PackUnpacks.Pure := by
  intro l n _ hl hb _
  obtain ⟨r, h1, h2⟩ := all_both l n (by omega) (bytes_of_wf hb)
  have e : Ev (fun k => wracklaw1_PackUnpacks.f k l n) true := by
    unfold wracklaw1_PackUnpacks.f
    refine Ev.bind h1 (Ev.bind h2 (Ev.bind packs_ev ?_))
    rw [if_pos rfl, if_pos rfl]
    simp only [beq_self_eq_true]
    exact Ev.now _
  exact e.rounds
end Go.Proofs.Ytlnikhijfamakaa.Pure
