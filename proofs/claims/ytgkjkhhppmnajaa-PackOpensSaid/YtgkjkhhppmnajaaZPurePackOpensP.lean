/- Packed layers over numbers and lists alone: unpacking both ways, numbers in bytes, the units' places. No condition. -/
import Derived.Test.YtgkjkhhppmnajaaZPurePackOpensF
import Derived.Lib.Bytes
import Derived.Lib.Repeat
import Derived.Lib.EndianBits
namespace Go.Proofs.Ytgkjkhhppmnajaa.Pure
open Go.Proofs.Ytgkjkhhppmnajaa.SumPlain
open Go Go.RowKit Go.Proofs.Ytgkjkhhppmnajaa.QPackOpens Go.Proofs.YtgkjkhhppmnajaaW.PrintWords Go.Proofs.YtgkjkhhppmnajaaW.PrintLast Go.Proofs.YtgkjkhhppmnajaaW.PrintMore
set_option linter.unusedVariables false
set_option linter.unusedSimpArgs false
theorem str_add (xs ys : List Int) : strOfNums xs ++ strOfNums ys = strOfNums (xs ++ ys) := by
 unfold strOfNums
 apply ByteArray.ext
 simp
theorem str_cut (xs : List Int) (a b : Nat) : (strOfNums xs).extract a b = strOfNums ((xs.take b).drop a) := by
 unfold strOfNums
 apply ByteArray.ext
 rw [ByteArray.data_extract]
 apply Array.toList_inj.mp
 simp [List.extract, List.drop_take]
theorem str_at (xs : List Int) (h : Bytes xs) (i : Nat) (hi : i < xs.length) : bt (strOfNums xs) (i : Int) = rd xs (i : Int) := by
 have hs : i < (strOfNums xs).size := by rw [str_size]; exact hi
 have hb := h _ (List.getElem_mem hi)
 unfold bt rd
 rw [Int.toNat_natCast, dif_pos hs, List.getD_eq_getElem?_getD, List.getElem?_eq_getElem hi, Option.getD_some]
 have e : (strOfNums xs)[i]'hs = UInt8.ofNat xs[i].toNat := by
  rw [ByteArray.getElem_eq_getElem_data]
  simp [strOfNums]
 rw [e]
 simp
 omega
theorem str_nil (xs : List Int) : (strOfNums xs).toList = ([] : List UInt8) ↔ xs = [] := by
 rw [Go.Lib.strOfNums_toList]
 unfold Go.Lib.bytesOf
 simp
def rep (l : List Int) : Nat → List Int
 | 0 => []
 | c + 1 => l ++ rep l c
theorem rep_len (l : List Int) : ∀ c, (rep l c).length = c * l.length
 | 0 => by simp [rep]
 | c + 1 => by simp [rep, rep_len l c, Nat.succ_mul, Nat.add_comm]
theorem rep_map (f : Int → UInt8) (l : List Int) : ∀ c, Go.Lib.repeatL (l.map f) c = (rep l c).map f
 | 0 => rfl
 | c + 1 => by simp [rep, Go.Lib.repeatL, rep_map f l c]
theorem rep_bytes {l : List Int} (h : Bytes l) : ∀ c, Bytes (rep l c)
 | 0 => fun x hx => by simp [rep] at hx
 | c + 1 => fun x hx => by
  simp only [rep, List.mem_append] at hx
  rcases hx with hx | hx
  · exact h x hx
  · exact rep_bytes h c x hx
theorem rep_str (l : List Int) (c : Int) (h0 : 0 ≤ c) (h1 : c ≤ 9223372036854775807) (h2 : l.length * c.toNat ≤ 140737488355328) : strings_Repeat.f (strOfNums l) c = some (strOfNums (rep l c.toNat)) := by
 unfold strings_Repeat.f
 rw [if_pos ⟨h0, h1, by rw [str_size]; exact h2⟩]
 have e : (strOfNums l).data.toList = l.map fun n => UInt8.ofNat n.toNat := by simp [strOfNums]
 rw [e, rep_map]
 rfl
theorem rep_get (l : List Int) : ∀ q i, i < q * l.length → (rep l q).getD i 0 = l.getD (i % l.length) 0
 | 0, i, h => by simp at h
 | q + 1, i, h => by
  rw [Nat.succ_mul] at h
  by_cases hi : i < l.length
  ·
   rw [Nat.mod_eq_of_lt hi]
   simp only [rep, List.getD_eq_getElem?_getD]
   rw [List.getElem?_append_left hi]
  ·
   have e : i % l.length = (i - l.length) % l.length := Nat.mod_eq_sub_mod (by omega)
   rw [e, ← rep_get l q (i - l.length) (by omega)]
   simp only [rep, List.getD_eq_getElem?_getD]
   rw [List.getElem?_append_right (by omega)]
def cyc (back : Nat) (out : List Int) : Nat → List Int
 | 0 => out
 | m + 1 => cyc back (out ++ [rd out ((out.length - back : Nat) : Int)]) m
theorem cyc_snoc (back : Nat) : ∀ (m : Nat) (out : List Int), cyc back out (m + 1) = cyc back out m ++ [rd (cyc back out m) (((cyc back out m).length - back : Nat) : Int)]
 | 0, out => rfl
 | m + 1, out => by
  rw [cyc, cyc_snoc back m]
  rfl
theorem cyc_eq (back : Nat) (out : List Int) (q : Nat) (h1 : 1 ≤ back) (h2 : back ≤ out.length) : ∀ m, m ≤ q * back → cyc back out m = out ++ (rep (out.drop (out.length - back)) q).take m
 | 0, _ => by simp [cyc]
 | m + 1, hm => by
  have hl : (out.drop (out.length - back)).length = back := by rw [List.length_drop]; omega
  have hR : (rep (out.drop (out.length - back)) q).length = q * back := by rw [rep_len, hl]
  have hg := rep_get (out.drop (out.length - back)) q
  rw [hl] at hg
  rw [cyc_snoc, cyc_eq back out q h1 h2 m (by omega), List.append_assoc]
  congr 1
  generalize hRd : rep (out.drop (out.length - back)) q = R at hR hg
  rw [List.take_add_one, List.getElem?_eq_getElem (by omega)]
  congr 1
  simp only [Option.toList, List.cons.injEq, and_true]
  have e1 : R[m]'(by omega) = R.getD m 0 := by rw [List.getD_eq_getElem?_getD, List.getElem?_eq_getElem (by omega), Option.getD_some]
  rw [e1]
  unfold rd
  rw [Int.toNat_natCast]
  simp only [List.length_append, List.length_take]
  rw [show min m R.length = m by omega]
  by_cases hb : m < back
  ·
   rw [hg m (by omega), Nat.mod_eq_of_lt hb]
   simp only [List.getD_eq_getElem?_getD]
   rw [List.getElem?_append_left (by omega), List.getElem?_drop, show out.length + m - back = out.length - back + m by omega]
  ·
   rw [hg m (by omega), Nat.mod_eq_sub_mod (by omega), ← hg (m - back) (by omega)]
   simp only [List.getD_eq_getElem?_getD]
   rw [List.getElem?_append_right (by omega), show out.length + m - back - out.length = m - back by omega, List.getElem?_take_of_lt (by omega)]
theorem cyc_bytes {back : Nat} : ∀ (m : Nat) {out : List Int}, Bytes out → Bytes (cyc back out m)
 | 0, out, h => h
 | m + 1, out, h => by
  refine cyc_bytes m (fun x hx => ?_)
  rw [List.mem_append] at hx
  rcases hx with hx | hx
  · exact h x hx
  ·
   rw [List.mem_singleton] at hx
   subst hx
   exact h.get _
theorem fill_ev (t : List Int) (n : Int) (c b back : Int) (m : Nat) (hm : m ≤ 100) (hc : ¬ c ≥ 192) (r : List Int × Int) : ∀ (d i : Nat) (out : List Int), i + d = m → out.length + d ≤ 1000 →
  Ev (fun k => if ((out ++ rep [b] d).length : Int) > n then some (([] : List Int), 2) else pack_Unpack.l0 k t n (out ++ rep [b] d)) r → Ev (fun k => pack_Unpack.l1 k t n out c b back (m : Int) (i : Int)) r := by
 intro d
 induction d with
 | zero =>
  intro i out h1 h2 hr
  rw [show out ++ rep [b] 0 = out by simp [rep]] at hr
  refine Ev.step (fun k => ?_) hr
  simp only [pack_Unpack.l1]
  rw [if_neg (by omega)]
 | succ d ih =>
  intro i out h1 h2 hr
  refine Ev.step (fun k => ?_) (ih (i + 1) (out ++ [b]) (by omega) (by simp; omega) (by rw [List.append_assoc]; exact hr))
  simp only [pack_Unpack.l1]
  rw [if_pos (by omega), if_neg hc, if_pos (by omega), show wrap64 ((i : Int) + 1) = ((i + 1 : Nat) : Int) by unfold wrap64; omega]
theorem copy_ev (t : List Int) (n : Int) (c : Int) (back : Nat) (m : Nat) (hm : m ≤ 100) (hc : c ≥ 192) (hb : 1 ≤ back) (r : List Int × Int) : ∀ (d i : Nat) (out : List Int) (b : Int), i + d = m → out.length + d ≤ 1000 → back ≤ out.length →
  Ev (fun k => if ((cyc back out d).length : Int) > n then some (([] : List Int), 2) else pack_Unpack.l0 k t n (cyc back out d)) r → Ev (fun k => pack_Unpack.l1 k t n out c b (back : Int) (m : Int) (i : Int)) r := by
 intro d
 induction d with
 | zero =>
  intro i out b h1 h2 h3 hr
  refine Ev.step (fun k => ?_) hr
  simp only [pack_Unpack.l1]
  rw [if_neg (by omega)]
  rfl
 | succ d ih =>
  intro i out b h1 h2 h3 hr
  refine Ev.step (fun k => ?_) (ih (i + 1) (out ++ [rd out ((out.length - back : Nat) : Int)]) (rd out ((out.length - back : Nat) : Int)) (by omega) (by simp; omega) (by simp; omega) hr)
  simp only [pack_Unpack.l1]
  have e : wrap64 ((out.length : Int) - (back : Int)) = ((out.length - back : Nat) : Int) := by unfold wrap64; omega
  rw [if_pos (by omega), if_pos hc, e, if_pos (by omega), if_pos (by omega), if_pos (by omega), show wrap64 ((i : Int) + 1) = ((i + 1 : Nat) : Int) by unfold wrap64; omega]
/-- what unpacking may hand back -/
def okR (n : Int) (r : List Int × Int) : Prop := Bytes r.1 ∧ (r.2 = 0 → (r.1.length : Int) = n) ∧ r.1.length ≤ 256
theorem okR_err (n e : Int) (h : e ≠ 0) : okR n ([], e) := ⟨fun x hx => by simp at hx, fun h2 => absurd h2 h, by simp⟩
def Both (n : Int) (t out : List Int) : Prop := ∃ r : List Int × Int, okR n r ∧ Ev (fun k => pack_Unpack.l0 k t n out) r ∧ Ev (fun k => wrackref1_Tokens.l0 k (strOfNums t) n (strOfNums out)) (strOfNums r.1, r.2)
theorem over {n : Int} {t out : List Int} (h : (out.length : Int) ≤ n → Both n t out) : ∃ r : List Int × Int, okR n r ∧ Ev (fun k => if (out.length : Int) > n then some (([] : List Int), 2) else pack_Unpack.l0 k t n out) r ∧
  Ev (fun k => if ((strOfNums out).size : Int) > n then some ((⟨#[]⟩ : ByteArray), (2 : Int)) else wrackref1_Tokens.l0 k (strOfNums t) n (strOfNums out)) (strOfNums r.1, r.2) := by
 by_cases hn : (out.length : Int) > n
 · exact ⟨([], 2), okR_err n 2 (by decide), Ev.congr (fun k => if_pos hn) (Ev.now _), Ev.congr (fun k => if_pos (by rw [str_size]; exact hn)) (Ev.now _)⟩
 ·
  obtain ⟨r, h0, h1, h2⟩ := h (by omega)
  exact ⟨r, h0, Ev.congr (fun k => if_neg hn) h1, Ev.congr (fun k => if_neg (by rw [str_size]; exact hn)) h2⟩
theorem both_nil (n : Int) (out : List Int) (hb : Bytes out) (hl : (out.length : Int) ≤ n) (hn : n ≤ 256) : Both n [] out := by
 by_cases h : (out.length : Int) < n
 ·
  refine ⟨([], 15), okR_err n 15 (by decide), Ev.step (f := fun _ => some _) (fun k => ?_) (Ev.now _), Ev.step (f := fun _ => some _) (fun k => ?_) (Ev.now _)⟩
  ·
   simp only [pack_Unpack.l0]
   rw [if_neg (by simp), if_pos h]
  ·
   simp only [wrackref1_Tokens.l0]
   rw [if_pos ((str_nil _).mpr rfl), if_pos (by rw [str_size]; exact h)]
   rfl
 ·
  refine ⟨(out, 0), ⟨hb, fun _ => by show (out.length : Int) = n; omega, by show out.length ≤ 256; omega⟩, Ev.step (f := fun _ => some _) (fun k => ?_) (Ev.now _), Ev.step (f := fun _ => some _) (fun k => ?_) (Ev.now _)⟩
  ·
   simp only [pack_Unpack.l0]
   rw [if_neg (by simp), if_neg h]
  ·
   simp only [wrackref1_Tokens.l0]
   rw [if_pos ((str_nil _).mpr rfl), if_neg (by rw [str_size]; exact h)]
def needOf (c : Int) : Nat := if c < 128 then c.toNat + 1 else 1
theorem un_cons (n c : Int) (rest out : List Int) (hc : 0 ≤ c ∧ c ≤ 255) (hr : Bytes rest) (ho : out.length ≤ 256) (k : Nat) : pack_Unpack.l0 (k + 1) (c :: rest) n out =
  if rest.length < needOf c then some ([], 15) else if c < 128 then (if ((out ++ rest.take (needOf c)).length : Int) > n then some (([] : List Int), 2) else pack_Unpack.l0 k (rest.drop (needOf c)) n (out ++ rest.take (needOf c)))
  else if c ≥ 192 then pack_Unpack.j2 k (rest.drop 1) n out c (rd rest 0) (rd rest 0 + 1) (decide ((rd rest 0 + 1) > (out.length : Int))) else pack_Unpack.j2 k (rest.drop 1) n out c (rd rest 0) (rd rest 0 + 1) false := by
 have e0 : rd (c :: rest) 0 = c := rfl
 have ew : wrap64 c = c := by unfold wrap64; omega
 have ew1 : wrap64 (c + 1) = c + 1 := by unfold wrap64; omega
 have eq_ : wrap64 (Int.tdiv c 64) = c / 64 := by rw [Int.tdiv_eq_ediv_of_nonneg hc.1]; unfold wrap64; omega
 have ey : rd ([c + 1, c + 1, 1, 1] : List Int) (c / 64) = (needOf c : Int) := by
  have h4 : c / 64 = 0 ∨ c / 64 = 1 ∨ c / 64 = 2 ∨ c / 64 = 3 := by omega
  unfold needOf
  rcases h4 with h | h | h | h <;> rw [h] <;> (first | rw [if_pos (by omega)] | rw [if_neg (by omega)]) <;> simp [rd] <;> omega
 have hb := hr.get 0
 have eb : wrap64 (rd rest 0) = rd rest 0 := by unfold rd at *; rw [Int.toNat_zero]; unfold wrap64; omega
 have eb1 : wrap64 (rd rest 0 + 1) = rd rest 0 + 1 := by unfold rd at *; rw [Int.toNat_zero]; unfold wrap64; omega
 simp only [pack_Unpack.l0]
 rw [if_pos (by simp only [List.length_cons]; omega), if_pos (by simp only [List.length_cons]; omega), if_pos (by simp only [List.length_cons]; omega)]
 simp only [Option.bind_some, e0, ew, ew1, eq_, List.drop_succ_cons, List.drop_zero, ey, eb, eb1, Int.toNat_natCast]
 rw [if_pos (by omega), if_pos (by simp; omega)]
 have hnl : needOf c ≤ 128 := by unfold needOf; split <;> omega
 by_cases hs : rest.length < needOf c
 · rw [if_pos (by omega), if_pos hs]
 ·
  rw [if_neg (by omega), if_neg hs]
  by_cases h1 : c < 128
  · rw [if_pos h1, if_pos h1, if_pos (by omega), if_pos (by omega), if_pos (by rw [List.length_take]; omega)]
  ·
   have hn1 : needOf c = 1 := by unfold needOf; rw [if_neg h1]
   rw [if_neg h1, if_neg h1, if_pos (by omega), if_pos (by omega)]
theorem tok_cons (n c : Int) (rest out : List Int) (hc : 0 ≤ c ∧ c ≤ 255) (ht : Bytes (c :: rest)) (k : Nat) : wrackref1_Tokens.l0 (k + 1) (strOfNums (c :: rest)) n (strOfNums out) = wrackref1_Tokens.j2 k (strOfNums (c :: rest)) n (strOfNums out) c (needOf c : Int) := by
 have ew : wrap64 c = c := by unfold wrap64; omega
 have ew1 : wrap64 (c + 1) = c + 1 := by unfold wrap64; omega
 have eb : bt (strOfNums (c :: rest)) 0 = c := str_at _ ht 0 (by simp)
 simp only [wrackref1_Tokens.l0]
 rw [if_neg (by rw [str_nil]; simp), if_pos (by rw [str_size]; simp only [List.length_cons]; omega), eb, ew, ew1]
 unfold needOf
 by_cases h1 : c < 128
 · rw [if_pos h1, if_pos h1, show ((c.toNat + 1 : Nat) : Int) = c + 1 by omega]
 ·
  rw [if_neg h1, if_neg h1]
  rfl
theorem tok_j2 (n c : Int) (rest out : List Int) (hc : 0 ≤ c ∧ c ≤ 255) (hr : Bytes rest) (hl : rest.length ≤ 140737488351232) (ho : out.length ≤ 256) (k : Nat) : wrackref1_Tokens.j2 (k + 1) (strOfNums (c :: rest)) n (strOfNums out) c (needOf c : Int) =
  if rest.length < needOf c then some ((⟨#[]⟩ : ByteArray), 15) else if c < 128 then (if ((strOfNums (out ++ rest.take (needOf c))).size : Int) > n then some ((⟨#[]⟩ : ByteArray), (2 : Int)) else wrackref1_Tokens.l0 k (strOfNums (rest.drop (needOf c))) n (strOfNums (out ++ rest.take (needOf c))))
  else if c < 192 then (if ((strOfNums (out ++ rep [rd rest 0] (c - 125).toNat)).size : Int) > n then some ((⟨#[]⟩ : ByteArray), (2 : Int)) else wrackref1_Tokens.l0 k (strOfNums (rest.drop 1)) n (strOfNums (out ++ rep [rd rest 0] (c - 125).toNat)))
  else if (out.length : Int) < rd rest 0 + 1 then some ((⟨#[]⟩ : ByteArray), 8)
  else (if ((strOfNums (cyc (rd rest 0 + 1).toNat out (c - 189).toNat)).size : Int) > n then some ((⟨#[]⟩ : ByteArray), (2 : Int)) else wrackref1_Tokens.l0 k (strOfNums (rest.drop 1)) n (strOfNums (cyc (rd rest 0 + 1).toNat out (c - 189).toNat))) := by
 have hnl : needOf c ≤ 128 := by unfold needOf; split <;> omega
 have ew : wrap64 (1 + (needOf c : Int)) = ((needOf c + 1 : Nat) : Int) := by unfold wrap64; omega
 have esz : wrap64 (((strOfNums (c :: rest)).size : Int) - 1) = (rest.length : Int) := by rw [str_size, List.length_cons]; unfold wrap64; omega
 have e1 : (strOfNums (c :: rest)).extract 1 (needOf c + 1) = strOfNums (rest.take (needOf c)) := by rw [str_cut]; simp
 have e2 : (strOfNums (c :: rest)).extract (needOf c + 1) (strOfNums (c :: rest)).size = strOfNums (rest.drop (needOf c)) := by rw [str_cut, str_size]; simp
 have es : (strOfNums (c :: rest)).size = rest.length + 1 := by rw [str_size, List.length_cons]
 simp only [wrackref1_Tokens.j2]
 rw [esz]
 by_cases hs : rest.length < needOf c
 · rw [if_pos (by omega), if_pos hs]
 ·
  rw [if_neg (by omega), if_neg hs, ew, Int.toNat_natCast, e1, e2, if_pos (by omega), if_pos (by omega), if_pos (by omega)]
  by_cases h1 : c < 128
  · rw [if_pos h1, if_pos h1, str_add, str_size, str_size, if_pos (by rw [List.length_take]; omega)]
  ·
   have hn1 : needOf c = 1 := by unfold needOf; rw [if_neg h1]
   rw [if_neg h1, if_neg h1, hn1]
   rw [hn1] at hs
   obtain ⟨b, rs, rfl⟩ : ∃ b rs, rest = b :: rs := by
    cases rest with
    | nil => exact absurd (by simp) hs
    | cons b rs => exact ⟨b, rs, rfl⟩
   have et : (b :: rs).take 1 = [b] := rfl
   have er : rd (b :: rs) 0 = b := rfl
   have hb := hr b (by simp)
   have eb : bt (strOfNums [b]) 0 = b := str_at [b] (fun x hx => by rw [List.mem_singleton] at hx; subst hx; exact hb) 0 (by simp)
   rw [et, er]
   by_cases h2 : c < 192
   · rw [if_pos h2, if_pos h2, show wrap64 (c - 125) = c - 125 by unfold wrap64; omega, rep_str [b] (c - 125) (by omega) (by omega) (by simp; omega), Option.bind_some, str_add, str_size, str_size, str_size, if_pos (by rw [rep_len]; simp; omega)]
   ·
    rw [if_neg h2, if_neg h2, eb, show wrap64 b = b by unfold wrap64; omega, show wrap64 (b + 1) = b + 1 by unfold wrap64; omega, str_size, if_pos (by simp)]
    by_cases h3 : (out.length : Int) < b + 1
    · rw [str_size, if_pos h3, if_pos h3]
    ·
     obtain ⟨back, hback⟩ : ∃ back : Nat, (back : Int) = b + 1 := ⟨(b + 1).toNat, by omega⟩
     obtain ⟨m, hm⟩ : ∃ m : Nat, (m : Int) = c - 189 := ⟨(c - 189).toNat, by omega⟩
     have hm66 : m ≤ 66 := by omega
     have hmb : m / back ≤ 66 := Nat.le_trans (Nat.div_le_self _ _) hm66
     have hlt : m < (m / back + 1) * back := by
      rw [Nat.mul_comm]
      exact Nat.lt_mul_div_succ m (by omega)
     have hle : (m / back + 1) * back ≤ 66 + back := by
      rw [Nat.succ_mul]
      have := Nat.div_mul_le_self m back
      omega
     rw [str_size, if_neg h3, if_neg h3, show wrap64 (c - 189) = (m : Int) by rw [hm]; unfold wrap64; omega, ← hback, show wrap64 ((out.length : Int) - (back : Int)) = ((out.length - back : Nat) : Int) by unfold wrap64; omega]
     rw [Int.tdiv_eq_ediv_of_nonneg (by omega : (0 : Int) ≤ (m : Int)), show ((m : Int) / (back : Int)) = ((m / back : Nat) : Int) from rfl]
     generalize m / back = q at hmb hlt hle ⊢
     rw [show wrap64 (q : Int) = (q : Int) by unfold wrap64; omega, show wrap64 ((q : Int) + 1) = ((q + 1 : Nat) : Int) by unfold wrap64; omega]
     obtain ⟨z, hz⟩ : ∃ z, z = (q + 1) * back := ⟨_, rfl⟩
     rw [← hz] at hlt hle
     have hdl : (out.drop (out.length - back)).length = back := by rw [List.length_drop]; omega
     rw [Int.toNat_natCast, Int.toNat_natCast, ← hm, Int.toNat_natCast, str_cut, List.take_of_length_le (Nat.le_refl _), if_pos (by omega), if_pos (by omega), if_neg (by omega),
      rep_str _ _ (by omega) (by omega) (by rw [Int.toNat_natCast, hdl, Nat.mul_comm, ← hz]; omega), Option.bind_some, Int.toNat_natCast, str_cut, List.drop_zero, str_add, ← cyc_eq back out (q + 1) (by omega) (by omega) m (by rw [← hz]; omega)]
     rw [if_pos (by omega), if_pos (by rw [str_size, rep_len, hdl, ← hz]; omega), if_pos (by rw [str_size, List.length_take]; omega), Int.toNat_natCast]
/-- all tokens -/
theorem both (n : Int) (hn : n ≤ 256) : ∀ (L : Nat) (t out : List Int), t.length ≤ L → t.length ≤ 140737488351232 → Bytes t → Bytes out → (out.length : Int) ≤ n → Both n t out := by
 intro L
 induction L with
 | zero =>
  intro t out h1 h2 ht ho hl
  obtain rfl : t = [] := List.length_eq_zero_iff.mp (by omega)
  exact both_nil n out ho hl hn
 | succ L ih =>
  intro t out h1 h2 ht ho hl
  cases t with
  | nil => exact both_nil n out ho hl hn
  | cons c rest =>
   have hc := ht c (by simp)
   have hr : Bytes rest := fun x hx => ht x (List.mem_cons_of_mem _ hx)
   rw [List.length_cons] at h1 h2
   have ho2 : out.length ≤ 256 := by omega
   have hU := un_cons n c rest out hc hr ho2
   have hT := tok_cons n c rest out hc ht
   have hJ := tok_j2 n c rest out hc hr (by omega) ho2
   have hb := hr.get 0
   have hb' : 0 ≤ rd rest 0 ∧ rd rest 0 ≤ 255 := hb
   have bd : ∀ i, Bytes (rest.drop i) := fun i x hx => hr x (List.mem_of_mem_drop hx)
   by_cases hs : rest.length < needOf c
   ·
    refine ⟨([], 15), okR_err n 15 (by decide), Ev.step (f := fun _ => some _) (fun k => ?_) (Ev.now _), Ev.step (fun k => hT k) (Ev.step (f := fun _ => some _) (fun k => ?_) (Ev.now _))⟩
    · rw [hU, if_pos hs]
    · rw [hJ, if_pos hs]; rfl
   ·
    by_cases h3 : c < 128
    ·
     have ho' : Bytes (out ++ rest.take (needOf c)) := fun x hx => by
      rw [List.mem_append] at hx
      rcases hx with hx | hx
      · exact ho x hx
      · exact hr x (List.mem_of_mem_take hx)
     obtain ⟨r, g0, g1, g2⟩ := over (n := n) (t := rest.drop (needOf c)) (out := out ++ rest.take (needOf c)) (fun hle => ih _ _ (by rw [List.length_drop]; omega) (by rw [List.length_drop]; omega) (bd _) ho' hle)
     refine ⟨r, g0, Ev.step (fun k => ?_) g1, Ev.step (fun k => hT k) (Ev.step (fun k => ?_) g2)⟩
     · rw [hU, if_neg hs, if_pos h3]
     · rw [hJ, if_neg hs, if_pos h3]
    ·
     by_cases h4 : c < 192
     ·
      have ho' : Bytes (out ++ rep [rd rest 0] (c - 125).toNat) := fun x hx => by
       rw [List.mem_append] at hx
       rcases hx with hx | hx
       · exact ho x hx
       · exact rep_bytes (l := [rd rest 0]) (fun y hy => by rw [List.mem_singleton] at hy; subst hy; exact hb') _ x hx
      obtain ⟨r, g0, g1, g2⟩ := over (n := n) (t := rest.drop 1) (out := out ++ rep [rd rest 0] (c - 125).toNat) (fun hle => ih _ _ (by rw [List.length_drop]; omega) (by rw [List.length_drop]; omega) (bd _) ho' hle)
      have em : wrap64 (Int.tmod c 64 + 3) = ((c - 125).toNat : Int) := by rw [Int.tmod_eq_emod_of_nonneg hc.1]; unfold wrap64; omega
      have g := fill_ev (rest.drop 1) n c (rd rest 0) (rd rest 0 + 1) (c - 125).toNat (by omega) (by omega) r (c - 125).toNat 0 out (by omega) (by omega) g1
      refine ⟨r, g0, Ev.step (fun k => ?_) (Ev.step (f := fun k => pack_Unpack.l1 k (rest.drop 1) n out c (rd rest 0) (rd rest 0 + 1) ((c - 125).toNat : Int) ((0 : Nat) : Int)) (g := fun k => pack_Unpack.j2 k (rest.drop 1) n out c (rd rest 0) (rd rest 0 + 1) false) (fun k => ?_) g), Ev.step (fun k => hT k) (Ev.step (fun k => ?_) g2)⟩
      · rw [hU, if_neg hs, if_neg h3, if_neg (by omega)]
      ·
       simp only [pack_Unpack.j2]
       rw [if_neg (by decide), em]
       rfl
      · rw [hJ, if_neg hs, if_neg h3, if_pos h4]
     ·
      by_cases h5 : (out.length : Int) < rd rest 0 + 1
      ·
       refine ⟨([], 8), okR_err n 8 (by decide), Ev.step (fun k => ?_) (Ev.step (f := fun _ => some _) (g := fun k => pack_Unpack.j2 k (rest.drop 1) n out c (rd rest 0) (rd rest 0 + 1) true) (fun k => ?_) (Ev.now _)), Ev.step (fun k => hT k) (Ev.step (f := fun _ => some _) (fun k => ?_) (Ev.now _))⟩
       · rw [hU, if_neg hs, if_neg h3, if_pos (by omega), decide_eq_true (by omega)]
       ·
        simp only [pack_Unpack.j2]
        rw [if_pos True.intro]
       · rw [hJ, if_neg hs, if_neg h3, if_neg h4, if_pos h5]; rfl
      ·
       obtain ⟨back, hback⟩ : ∃ back : Nat, (back : Int) = rd rest 0 + 1 := ⟨(rd rest 0 + 1).toNat, by omega⟩
       have hbk : (rd rest 0 + 1).toNat = back := by omega
       rw [hbk] at hJ
       obtain ⟨r, g0, g1, g2⟩ := over (n := n) (t := rest.drop 1) (out := cyc back out (c - 189).toNat) (fun hle => ih _ _ (by rw [List.length_drop]; omega) (by rw [List.length_drop]; omega) (bd _) (cyc_bytes _ ho) hle)
       have em : wrap64 (Int.tmod c 64 + 3) = ((c - 189).toNat : Int) := by rw [Int.tmod_eq_emod_of_nonneg hc.1]; unfold wrap64; omega
       have g := copy_ev (rest.drop 1) n c back (c - 189).toNat (by omega) (by omega) (by omega) r (c - 189).toNat 0 out (rd rest 0) (by omega) (by omega) (by omega) g1
       refine ⟨r, g0, Ev.step (fun k => ?_) (Ev.step (f := fun k => pack_Unpack.l1 k (rest.drop 1) n out c (rd rest 0) (back : Int) ((c - 189).toNat : Int) ((0 : Nat) : Int)) (g := fun k => pack_Unpack.j2 k (rest.drop 1) n out c (rd rest 0) (back : Int) false) (fun k => ?_) g), Ev.step (fun k => hT k) (Ev.step (fun k => ?_) g2)⟩
       · rw [hU, if_neg hs, if_neg h3, if_pos (by omega), decide_eq_false (by omega), hback]
       ·
        simp only [pack_Unpack.j2]
        rw [if_neg (by decide), em]
        rfl
       · rw [hJ, if_neg hs, if_neg h3, if_neg h4, if_neg h5]
theorem all_both (l : List Int) (n : Int) (hl : l.length ≤ 140737488351232) (hb : Bytes l) : ∃ r : List Int × Int, okR n r ∧ Ev (fun k => pack_Unpack.f k l n) r ∧ Ev (fun k => wrackref1_Tokens.f k (strOfNums l) n) (strOfNums r.1, r.2) := by
 by_cases h : n < 0 ∨ n > 256
 ·
  refine ⟨([], 4), okR_err n 4 (by decide), Ev.step (f := fun _ => some _) (fun k => ?_) (Ev.now _), Ev.step (f := fun _ => some _) (fun k => ?_) (Ev.now _)⟩
  ·
   unfold pack_Unpack.f
   by_cases h1 : n < 0
   · rw [if_pos h1]; rfl
   · rw [if_neg h1, decide_eq_true (by omega)]; rfl
  ·
   unfold wrackref1_Tokens.f
   by_cases h1 : n < 0
   · rw [if_pos h1]; rfl
   · rw [if_neg h1, decide_eq_true (by omega)]; rfl
 ·
  obtain ⟨r, g0, g1, g2⟩ := both n (by omega) l.length l [] (Nat.le_refl _) hl hb (fun x hx => by cases hx) (by simp; omega)
  refine ⟨r, g0, Ev.step (fun k => ?_) g1, Ev.step (fun k => ?_) g2⟩
  ·
   unfold pack_Unpack.f
   rw [if_neg (by omega), decide_eq_false (by omega)]
   rfl
  ·
   unfold wrackref1_Tokens.f
   rw [if_neg (by omega), decide_eq_false (by omega)]
   rfl
/-- a number, the lowest byte first -/
def leN : List Int → Int
 | [] => 0
 | x :: xs => x + 256 * leN xs
theorem leN_pos : ∀ (l : List Int), Bytes l → 0 ≤ leN l ∧ leN l < (256 : Int) ^ l.length
 | [], _ => by simp [leN]
 | x :: l, h => by
  have hx : 0 ≤ x ∧ x ≤ 255 := h x (by simp)
  have ih := leN_pos l (fun y hy => h y (by simp [hy]))
  rw [List.length_cons, Int.pow_succ]
  unfold leN
  omega
/-- the units' places out of the index: each long enough and within S bytes -/
def unitsOf (S : Int) : List Int → Int → Option (List S45)
 | a :: b :: r, at_ => if a + 256 * b < 4 ∨ S - at_ < a + 256 * b then none else (unitsOf S r (at_ + (a + 256 * b))).map fun l => ⟨at_, a + 256 * b⟩ :: l
 | _, _ => some []
theorem unitsOf_nil (S at_ : Int) : unitsOf S [] at_ = some [] := rfl
theorem unitsOf_cons (S a b at_ : Int) (r : List Int) : unitsOf S (a :: b :: r) at_ = if a + 256 * b < 4 ∨ S - at_ < a + 256 * b then none else (unitsOf S r (at_ + (a + 256 * b))).map fun l => ⟨at_, a + 256 * b⟩ :: l := rfl
/-- how many units -/
def nUn (size : Nat) : Nat := (size + 255) / 256
/-- a packed layer in what a source says: its size, and its units -/
def pkOpen (p : List Int) (bd : List Bool) : Option (Nat × List S45) :=
 if readErr p.length bd 0 16 = 0 ∧ p.take 4 = [112, 97, 99, 107] ∧ leN ((p.drop 12).take 4) = 0 ∧ leN ((p.drop 4).take 4) ≤ 65536 then
  if readErr p.length bd 16 (2 * (nUn (leN ((p.drop 4).take 4)).toNat : Nat)) = 0 ∧ leN ((p.drop 8).take 4) = crcOf ((p.drop 16).take (2 * nUn (leN ((p.drop 4).take 4)).toNat)) then
   (unitsOf p.length ((p.drop 16).take (2 * nUn (leN ((p.drop 4).take 4)).toNat)) (16 + 2 * (nUn (leN ((p.drop 4).take 4)).toNat : Nat))).map fun l => ((leN ((p.drop 4).take 4)).toNat, l)
  else none
 else none
theorem unitsOf_len (S : Int) : ∀ (n : Nat) (r : List Int) (at_ : Int) (l : List S45), r.length = 2 * n → unitsOf S r at_ = some l → l.length = n ∧ ∀ x ∈ l, at_ ≤ x.f0 ∧ 4 ≤ x.f1 ∧ x.f0 + x.f1 ≤ S
 | 0, r, at_, l, hr, h => by
  obtain rfl : r = [] := List.eq_nil_of_length_eq_zero (by omega)
  rw [unitsOf_nil] at h
  obtain rfl := Option.some.inj h
  exact ⟨rfl, by simp⟩
 | n + 1, r, at_, l, hr, h => by
  match r, hr with
  | a :: b :: r, hr =>
   rw [unitsOf_cons] at h
   by_cases hc : a + 256 * b < 4 ∨ S - at_ < a + 256 * b
   · rw [if_pos hc] at h; simp at h
   ·
    rw [if_neg hc] at h
    obtain ⟨l', hl', rfl⟩ := Option.map_eq_some_iff.1 h
    obtain ⟨h1, h2⟩ := unitsOf_len S n r _ l' (by simp only [List.length_cons] at hr; omega) hl'
    refine ⟨by rw [List.length_cons, h1], fun x hx => ?_⟩
    rcases List.mem_cons.1 hx with rfl | hx
    · refine ⟨Int.le_refl _, ?_, ?_⟩ <;> simp only <;> omega
    ·
     have := h2 x hx
     omega
theorem or_i64 (i : Nat) (y x : Int) (hy0 : 0 ≤ y) (hy : y < 2 ^ i) (hy1 : y < 2 ^ 62) (hx0 : 0 ≤ x) (hx : x % 2 ^ i = 0) (hx1 : x < 2 ^ 62) : Go.bits .or .i64 y x = y + x :=
 bits_join_low .i64 62 (by decide) (fun n h0 h1 => by rw [i64_w]; unfold wrap64; omega) i y x hy0 hy hy1 hx0 hx hx1
theorem leN_snoc : ∀ (xs : List Int) (x : Int), leN (xs ++ [x]) = leN xs + x * 256 ^ xs.length
 | [], x => by simp [leN]
 | y :: xs, x => by
  rw [List.cons_append, leN, leN_snoc xs x, leN, List.length_cons, Int.pow_succ, Int.mul_add, ← Int.add_assoc]
  congr 1
  rw [Int.mul_comm 256, Int.mul_assoc]
theorem leN_4 (l : List Int) (h : l.length ≤ 4) (hb : Bytes l) : 0 ≤ leN l ∧ leN l < 4294967296 := by
 match l, h with
 | [], _ => simp [leN]
 | [a], _ =>
  have h0 := hb a (by simp)
  simp only [leN]; omega
 | [a, b], _ =>
  have h0 := hb a (by simp)
  have h1 := hb b (by simp)
  simp only [leN]; omega
 | [a, b, c], _ =>
  have h0 := hb a (by simp)
  have h1 := hb b (by simp)
  have h2 := hb c (by simp)
  simp only [leN]; omega
 | [a, b, c, d], _ =>
  have h0 := hb a (by simp)
  have h1 := hb b (by simp)
  have h2 := hb c (by simp)
  have h3 := hb d (by simp)
  simp only [leN]; omega
theorem leN_0 : ∀ (l : List Int), Bytes l → (leN l = 0 ↔ l = List.replicate l.length 0)
 | [], _ => by simp [leN]
 | x :: l, h => by
  have hx : 0 ≤ x ∧ x ≤ 255 := h x (by simp)
  have hl : Bytes l := fun y hy => h y (by simp [hy])
  have ih := leN_0 l hl
  have hp := (leN_pos l hl).1
  rw [List.length_cons, List.replicate_succ, List.cons.injEq, ← ih]
  rw [show leN (x :: l) = x + 256 * leN l from rfl]
  omega
theorem b_cut {l : List Int} (h : Bytes l) (a b : Nat) : Bytes ((l.drop a).take b) := fun x hx => h x (List.mem_of_mem_drop (List.mem_of_mem_take hx))
theorem b_tk {l : List Int} (h : Bytes l) (b : Nat) : Bytes (l.take b) := fun x hx => h x (List.mem_of_mem_take hx)
theorem b_dr {l : List Int} (h : Bytes l) (b : Nat) : Bytes (l.drop b) := fun x hx => h x (List.mem_of_mem_drop hx)
theorem get_step (i : Nat) (hi : i ≤ 3) (n x : Int) (h0 : 0 ≤ n) (h1 : n < 256 ^ i) (hx : 0 ≤ x ∧ x ≤ 255) : Go.bits .or .i64 n (shl .i64 (wrap64 x) (wrap64 (8 * (i : Int)))) = n + x * 256 ^ i := by
 have hw : wrap64 x = x := by unfold wrap64; omega
 have hk : ∀ (s : Nat) (p : Int), p = x * 2 ^ s → 0 ≤ p → p < 4611686018427387904 → wrap64 (8 * (i : Int)) = (s : Int) → s ≤ 64 → shl .i64 (wrap64 x) (wrap64 (8 * (i : Int))) = p := fun s p hp h2 h3 h4 h5 => by
  unfold shl
  rw [h4, hw, Int.toNat_natCast, show min s IntKind.i64.bits = s from Nat.min_eq_left h5, ← hp, i64_w]
  unfold wrap64; omega
 match i, hi with
 | 0, _ =>
  rw [hk 0 x (by simp) hx.1 (by omega) (by unfold wrap64; omega) (by decide)]
  rw [or_i64 0 n x h0 (by simpa using h1) (by simp at h1; omega) hx.1 (by simp) (by omega)]
  simp
 | 1, _ =>
  rw [hk 8 (x * 256) (by rfl) (by omega) (by omega) (by unfold wrap64; omega) (by decide)]
  rw [or_i64 8 n (x * 256) h0 (by simpa using h1) (by simp at h1; omega) (by omega) (by omega) (by omega)]
  rfl
 | 2, _ =>
  rw [hk 16 (x * 65536) (by rfl) (by omega) (by omega) (by unfold wrap64; omega) (by decide)]
  rw [or_i64 16 n (x * 65536) h0 (by simpa using h1) (by simp at h1; omega) (by omega) (by omega) (by omega)]
  rfl
 | 3, _ =>
  rw [hk 24 (x * 16777216) (by rfl) (by omega) (by omega) (by unfold wrap64; omega) (by decide)]
  rw [or_i64 24 n (x * 16777216) h0 (by simpa using h1) (by simp at h1; omega) (by omega) (by omega) (by omega)]
  rfl
theorem take_rd (l : List Int) (i : Nat) (h : i < l.length) : l.take (i + 1) = l.take i ++ [rd l (i : Int)] := by
 rw [List.take_add_one]
 simp [rd, List.getD_eq_getElem?_getD, h]
theorem drop_rd (l : List Int) (i : Nat) (h : i < l.length) : l.drop i = rd l (i : Int) :: l.drop (i + 1) := by
 rw [List.drop_eq_getElem_cons h]
 simp [rd, List.getD_eq_getElem?_getD, h]
theorem rd_byte {l : List Int} (hb : Bytes l) (i : Nat) : 0 ≤ rd l (i : Int) ∧ rd l (i : Int) ≤ 255 := by
 have := hb.get i
 unfold rd
 rw [Int.toNat_natCast]
 exact this
theorem pget_l0 (l : List Int) (hb : Bytes l) (hl : l.length ≤ 4) : ∀ (d i : Nat), i + d = l.length → Ev (fun k => pack_get.l0 k (leN (l.take i)) l (l.length : Int) (i : Int)) (leN l)
 | 0, i, hi => by
  refine Ev.step (f := fun _ => some _) (fun k => ?_) (Ev.now _)
  simp only [pack_get.l0]
  rw [if_neg (by omega), List.take_of_length_le (by omega)]
 | d + 1, i, hi => by
  have ih := pget_l0 l hb hl d (i + 1) (by omega)
  have hp := leN_pos (l.take i) (b_tk hb i)
  rw [List.length_take, Nat.min_eq_left (by omega)] at hp
  have hs := get_step i (by omega) _ _ hp.1 hp.2 (rd_byte hb i)
  rw [take_rd l i (by omega), leN_snoc, List.length_take, Nat.min_eq_left (by omega)] at ih
  refine Ev.step (fun k => ?_) ih
  simp only [pack_get.l0]
  have e1 : wrap64 ((i : Int) + 1) = ((i + 1 : Nat) : Int) := by unfold wrap64; omega
  have e2 : 0 ≤ wrap64 (8 * (i : Int)) := by unfold wrap64; omega
  rw [if_pos (by omega), if_pos (by omega), if_pos (by omega), if_pos e2, hs, e1]
theorem pget_ev (l : List Int) (hb : Bytes l) (hl : l.length ≤ 4) : Ev (fun k => pack_get.f k l) (leN l) := pget_l0 l hb hl l.length 0 (by omega)
theorem num_l0 (l : List Int) (hb : Bytes l) (hl : l.length ≤ 4) : ∀ i, i ≤ l.length → Ev (fun k => wrackref1_Number.l0 k (strOfNums l) (leN (l.drop i)) ((i : Int) - 1)) (leN l)
 | 0, _ => by
  refine Ev.step (f := fun _ => some _) (fun k => ?_) (Ev.now _)
  simp only [wrackref1_Number.l0]
  rw [if_neg (by omega), List.drop_zero]
 | i + 1, hi => by
  have ih := num_l0 l hb hl i (by omega)
  rw [drop_rd l i (by omega), leN] at ih
  have hx := rd_byte hb i
  have hp := leN_4 (l.drop (i + 1)) (by rw [List.length_drop]; omega) (b_dr hb _)
  have hd := leN_4 (l.drop i) (by rw [List.length_drop]; omega) (b_dr hb _)
  refine Ev.step (fun k => ?_) ih
  simp only [wrackref1_Number.l0]
  have e0 : ((i + 1 : Nat) : Int) - 1 = (i : Int) := by omega
  have e1 : wrap64 ((i : Int) - 1) = (i : Int) - 1 := by unfold wrap64; omega
  have e3 : wrap64 (rd l (i : Int)) = rd l (i : Int) := by unfold wrap64; omega
  have e2 : wrap64 (wrap64 (leN (l.drop (i + 1)) * 256) + rd l (i : Int)) = rd l (i : Int) + 256 * leN (l.drop (i + 1)) := by unfold wrap64; omega
  rw [e0, if_pos (by omega), if_pos (by omega), str_size, if_pos (by omega), str_at l hb i (by omega), e3, e2, e1]
theorem num_ev (l : List Int) (hb : Bytes l) (hl : l.length ≤ 4) : Ev (fun k => wrackref1_Number.f k (strOfNums l)) (leN l) := by
 have h := num_l0 l hb hl l.length (Nat.le_refl _)
 rw [List.drop_length] at h
 refine Ev.congr (fun k => ?_) h
 unfold wrackref1_Number.f
 rw [str_size, show wrap64 ((l.length : Int) - 1) = (l.length : Int) - 1 by unfold wrap64; omega]
 rfl
theorem by_inj : ∀ (xs ys : List Int), Bytes xs → Bytes ys → Go.Lib.bytesOf xs = Go.Lib.bytesOf ys → xs = ys := by
 intro xs
 induction xs with
 | nil => intro ys _ _ h; cases ys with
  | nil => rfl
  | cons y ys => simp [Go.Lib.bytesOf] at h
 | cons x xs ih =>
  intro ys hx hy h
  cases ys with
  | nil => simp [Go.Lib.bytesOf] at h
  | cons y ys =>
   have a := hx x (by simp)
   have b := hy y (by simp)
   simp only [Go.Lib.bytesOf, List.map_cons, List.cons.injEq] at h
   have e := congrArg UInt8.toNat h.1
   simp at e
   rw [ih ys (fun z hz => hx z (by simp [hz])) (fun z hz => hy z (by simp [hz])) h.2, show x = y by omega]
theorem str_inj (xs ys : List Int) (hx : Bytes xs) (hy : Bytes ys) (h : strOfNums xs = strOfNums ys) : xs = ys :=
 by_inj xs ys hx hy (by rw [← Go.Lib.strOfNums_toList, ← Go.Lib.strOfNums_toList, h])
theorem pre_val (h : List Int) (hb : Bytes h) (hl : 4 ≤ h.length) : strings_HasPrefix.f (strOfNums h) (⟨#[112, 97, 99, 107]⟩ : ByteArray) = some (decide (h.take 4 = [112, 97, 99, 107])) := by
 have e : (⟨#[112, 97, 99, 107]⟩ : ByteArray) = strOfNums [112, 97, 99, 107] := by decide
 unfold strings_HasPrefix.f stringslite_HasPrefix.f
 rw [e, str_size, str_size, if_pos (by simp; omega), if_pos (by simp), if_pos (by simp; omega), Option.bind_some, str_cut]
 congr 1
 simp only [List.length_cons, List.length_nil, List.drop_zero]
 rw [show (((0 + 1 + 1 + 1 + 1 : Nat) : Int)).toNat = 4 from rfl]
 by_cases h2 : h.take 4 = [112, 97, 99, 107]
 · rw [h2, beq_self_eq_true]; rfl
 ·
  rw [decide_eq_false h2]
  refine beq_eq_false_iff_ne.2 fun h3 => h2 ?_
  refine str_inj _ _ (b_tk hb 4) (fun x hx => by simp at hx; omega) ?_
  refine ByteArray.ext ?_
  have h4 := h3
  rw [Go.Lib.strOfNums_toList, Go.Lib.strOfNums_toList] at h4
  unfold strOfNums
  unfold Go.Lib.bytesOf at h4
  rw [h4]
theorem pre_nil : strings_HasPrefix.f (strOfNums []) (⟨#[112, 97, 99, 107]⟩ : ByteArray) = some false := by decide
theorem fill_4 : wrackref1_Filled.f (⟨#[]⟩ : ByteArray) 4 = some (strOfNums [0, 0, 0, 0]) := by decide +kernel
theorem units_val (n : Int) (h0 : 0 ≤ n) (h1 : n ≤ 65536) : pack_units.f n = some (nUn n.toNat : Int) := by
 unfold pack_units.f nUn
 have e1 : wrap64 (wrap64 (n + 256) - 1) = n + 255 := by unfold wrap64; omega
 rw [e1, Int.tdiv_eq_ediv_of_nonneg (by omega)]
 congr 1
 unfold wrap64
 omega
/-- what cannot be read of so many bytes -/
def cutS (bad : List S45) (n : Nat) : List S45 := meetP (normP bad) (normP [⟨0, (n : Int)⟩])
theorem oks_one (n : Nat) (hn : n ≤ 65536) (i : Int) : memS (oks [⟨0, (n : Int)⟩]) i ↔ 0 ≤ i ∧ i < (n : Int) := by
 unfold memS oks
 constructor
 ·
  rintro ⟨x, hx, h1, h2⟩
  have hx := (List.mem_filter.1 hx).1
  rw [List.mem_singleton] at hx
  subst hx
  simp only at h1 h2
  omega
 ·
  rintro ⟨h1, h2⟩
  refine ⟨⟨0, (n : Int)⟩, List.mem_filter.2 ⟨by simp, ?_⟩, h1, by simp only; omega⟩
  refine decide_eq_true ?_
  unfold okS
  simp only
  omega
theorem cut_in (bad : List S45) (n : Nat) (hn : n ≤ 65536) : ∀ x ∈ cutS bad n, 0 ≤ x.f0 ∧ 0 < x.f1 ∧ x.f0 + x.f1 ≤ (n : Int) := by
 intro x hx
 obtain ⟨hsep, hmem⟩ := meet_set bad [⟨0, (n : Int)⟩]
 have hp := hsep.1 x hx
 have a := (oks_one n hn _).1 ((hmem x.f0).1 ⟨x, hx, by omega, by omega⟩).2
 have b := (oks_one n hn _).1 ((hmem (x.f0 + x.f1 - 1)).1 ⟨x, hx, by omega, by omega⟩).2
 omega
theorem cut_right (bad : List S45) (n : Nat) (hn : n ≤ 65536) : srcErr n (cutS bad n) = 0 := by
 unfold srcErr
 rw [if_neg (by omega), if_pos]
 intro x hx
 have := cut_in bad n hn x hx
 unfold rightS
 omega
theorem sep_len (n : Int) : ∀ (l : List S45) (lo : Int), lo ≤ n → Sep l → (∀ x ∈ l, lo ≤ x.f0 ∧ x.f0 + x.f1 ≤ n) → (l.length : Int) ≤ n - lo
 | [], lo, h, _, _ => by simp; omega
 | x :: l, lo, h, hs, hx => by
  obtain ⟨h1, h2, h3⟩ := Sep_cons.1 hs
  have h4 := hx x (by simp)
  have ih := sep_len n l (x.f0 + x.f1) h4.2 h3 (fun y hy => ⟨by have := h2 y hy; omega, (hx y (by simp [hy])).2⟩)
  rw [List.length_cons]
  omega
theorem cut_few (bad : List S45) (n : Nat) (hn : n ≤ 65536) : (cutS bad n).length ≤ n := by
 have h := sep_len (n : Int) (cutS bad n) 0 (by omega) (meet_set bad [⟨0, (n : Int)⟩]).1 (fun x hx => by have := cut_in bad n hn x hx; omega)
 omega
theorem cut_bad (bad : List S45) (n : Nat) (hn : n ≤ 65536) : badOf n (cutS bad n) = badOf n bad := by
 unfold badOf
 apply List.map_congr_left
 intro i hi
 have hil := List.mem_range.1 hi
 obtain ⟨hsep, hmem⟩ := meet_set bad [⟨0, (n : Int)⟩]
 have hok : oks (cutS bad n) = cutS bad n := by
  unfold oks
  rw [List.filter_eq_self]
  intro x hx
  have := cut_in bad n hn x hx
  refine decide_eq_true ?_
  unfold okS
  omega
 have e : isBad (cutS bad n) i = true ↔ isBad bad i = true := by
  rw [isBad_iff, isBad_iff, hok]
  constructor
  ·
   intro h
   exact ((hmem i).1 h).1
  ·
   intro h
   exact (hmem i).2 ⟨h, (oks_one n hn _).2 ⟨by omega, by omega⟩⟩
 cases h1 : isBad (cutS bad n) i <;> cases h2 : isBad bad i <;> simp_all
end Go.Proofs.Ytgkjkhhppmnajaa.Pure
