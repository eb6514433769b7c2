/- Sealed layers: keys and names, as the program and the reference compute them. No condition. -/
import Derived.Test.YtagcaheopbmdiaaDoorYPureLockSealsLB
namespace Go.Proofs.YtagcaheopbmdiaaDoor.Lk
open Go Go.RowKit Go.Proofs.YtagcaheopbmdiaaDoor.QLockSeals Go.Proofs.YtagcaheopbmdiaaDoorW.PrintWords Go.Proofs.YtagcaheopbmdiaaDoorW.PrintLast Go.Proofs.YtagcaheopbmdiaaDoorW.PrintMore Go.Proofs.YtagcaheopbmdiaaDoor.SumPlain
set_option linter.unusedVariables false
set_option linter.unusedSimpArgs false
def okC (b : Int) : Bool := (decide (97 ≤ b) && decide (b ≤ 122)) || (decide (48 ≤ b) && decide (b ≤ 57)) || decide (b = 45)
def nameP (s : ByteArray) : Bool := decide (1 ≤ s.size) && decide (s.size ≤ 12) && decide (97 ≤ bt s 0) && decide (bt s 0 ≤ 122) && (bytesOf s).all okC
theorem nameP_size (s : ByteArray) (h : nameP s = true) : 1 ≤ s.size ∧ s.size ≤ 12 := by
 unfold nameP at h
 simp only [Bool.and_eq_true,decide_eq_true_eq] at h
 exact ⟨h.1.1.1.1, h.1.1.1.2⟩
theorem name_step (xs : List Int) (i : Nat) (hi : i < xs.length) (hn : xs.length ≤ 1000000) (k : Nat) : lock_name.l0 (k + 1) xs (xs.length : Int) (i : Int) = if okC (rd xs (i : Int)) = true then lock_name.l0 k xs (xs.length : Int) ((i + 1 : Nat) : Int) else some false := by
 have e2 : wrap64 ((i : Int) + 1) = ((i + 1 : Nat) : Int) := by unfold wrap64; omega
 simp only [lock_name.l0]
 rw [if_pos (by omega), if_pos (by omega), if_pos (by omega), e2]
 generalize rd xs (i : Int) = c
 unfold okC
 by_cases h1 : 97 ≤ c <;> by_cases h2 : c ≤ 122 <;> by_cases h3 : 48 ≤ c <;> by_cases h4 : c ≤ 57 <;> by_cases h5 : c = 45 <;> simp [h1, h2, h3, h4, h5]
theorem name_l0 (xs : List Int) (hn : xs.length ≤ 1000000) : ∀ (d i : Nat), i + d = xs.length → Ev (fun k => lock_name.l0 k xs (xs.length : Int) (i : Int)) ((xs.drop i).all okC)
 | 0, i, hi => by
  refine Ev.step (f := fun _ => some _) (fun k => ?_) (Ev.now _)
  simp only [lock_name.l0]
  rw [if_neg (by omega), List.drop_of_length_le (by omega)]; rfl
 | d + 1, i, hi => by
  have ih := name_l0 xs hn d (i + 1) (by omega)
  rw [kdrop_rd xs i (by omega), List.all_cons]
  refine Ev.step (fun k => name_step xs i (by omega) hn k) ?_
  cases okC (rd xs (i : Int)) with
  | true => exact Ev.congr (fun k => if_pos rfl) (by simpa using ih)
  | false => exact Ev.congr (fun k => if_neg (by decide)) (by simpa using Ev.now false)
theorem size_list (s : ByteArray) : s.toList = ([] : List UInt8) ↔ s.size = 0 := by
 rw [Go.Lib.toList_data]
 show s.data.toList = [] ↔ s.data.size = 0
 rw [← Array.length_toList, List.length_eq_zero_iff]
theorem name_ev (s : ByteArray) : Ev (fun k => lock_name.f k s) (nameP s) := by
 have hj : Ev (fun k => lock_name.j0 k s true) false := Ev.step (f := fun _ => some false) (fun k => by simp [lock_name.j0]) (Ev.now _)
 by_cases h0 : s.size = 0
 ·
  rw [show nameP s = false by unfold nameP; simp [h0]]
  refine Ev.congr (fun k => ?_) hj
  unfold lock_name.f
  rw [if_pos ((size_list s).2 h0)]
 ·
  have h0' : ¬ s.toList = ([] : List UInt8) := fun h => h0 ((size_list s).1 h)
  by_cases h1 : s.size > 12
  ·
   rw [show nameP s = false by unfold nameP; simp [show ¬ s.size ≤ 12 by omega]]
   refine Ev.congr (fun k => ?_) hj
   unfold lock_name.f
   rw [if_neg h0', if_pos (by omega)]
  ·
   by_cases h2 : bt s 0 < 97
   ·
    rw [show nameP s = false by unfold nameP; simp [show ¬ 97 ≤ bt s 0 by omega]]
    refine Ev.congr (fun k => ?_) hj
    unfold lock_name.f
    rw [if_neg h0', if_neg (by omega), if_pos (by omega), if_pos h2]
   ·
    by_cases h3 : bt s 0 > 122
    ·
     rw [show nameP s = false by unfold nameP; simp [show ¬ bt s 0 ≤ 122 by omega]]
     refine Ev.congr (fun k => ?_) hj
     unfold lock_name.f
     rw [if_neg h0', if_neg (by omega), if_pos (by omega), if_neg h2, decide_eq_true h3]
    ·
     have hl := name_l0 (bytesOf s) (by rw [bytesOf_len]; omega) (bytesOf s).length 0 (by omega)
     rw [show nameP s = ((bytesOf s).drop 0).all okC by unfold nameP; simp [show 1 ≤ s.size by omega, show s.size ≤ 12 by omega, show 97 ≤ bt s 0 by omega, show bt s 0 ≤ 122 by omega]]
     refine Ev.congr (g := fun k => lock_name.f k s) (f := fun k => lock_name.j0 k s false) (fun k => ?_) (Ev.step (fun k => ?_) hl)
     ·
      unfold lock_name.f
      rw [if_neg h0', if_neg (by omega), if_pos (by omega), if_neg h2, decide_eq_false h3]
     ·
      simp only [lock_name.j0, Option.bind_some]
      rw [if_neg (by decide), if_pos (by omega)]
      rfl
theorem letters_ok : ∀ n : Fin 256, decide (0 ≤ Go.Lib.indexByte [97, 98, 99, 100, 101, 102, 103, 104, 105, 106, 107, 108, 109, 110, 111, 112, 113, 114, 115, 116, 117, 118, 119, 120, 121, 122] (UInt8.ofNat n.val)) = (decide (97 ≤ (n.val : Int)) && decide ((n.val : Int) ≤ 122)) := by decide +kernel
theorem all_ok : ∀ n : Fin 256, decide (0 ≤ Go.Lib.indexByte [97, 98, 99, 100, 101, 102, 103, 104, 105, 106, 107, 108, 109, 110, 111, 112, 113, 114, 115, 116, 117, 118, 119, 120, 121, 122, 48, 49, 50, 51, 52, 53, 54, 55, 56, 57, 45] (UInt8.ofNat n.val)) = okC (n.val : Int) := by decide +kernel
theorem cut_one (s : ByteArray) (i : Nat) (h : i < s.size) : (s.extract i (i + 1)).size = 1 ∧ (((s.extract i (i + 1)).get! 0).toNat : Int) = bt s (i : Int) := by
 have e : s.extract i (i + 1) = ⟨#[s[i]]⟩ := by
  apply ByteArray.ext
  rw [ByteArray.data_extract]
  apply Array.toList_inj.mp
  have h' : i < s.data.toList.length := h
  rw [Array.toList_extract, List.extract, List.drop_eq_getElem_cons h']
  simp
  rfl
 rw [e]
 refine ⟨rfl, ?_⟩
 unfold bt
 rw [Int.toNat_natCast, dif_pos h]
 rfl
theorem con_letters (s : ByteArray) (i : Nat) (h : i < s.size) : strings_Contains.f (⟨#[97, 98, 99, 100, 101, 102, 103, 104, 105, 106, 107, 108, 109, 110, 111, 112, 113, 114, 115, 116, 117, 118, 119, 120, 121, 122]⟩ : ByteArray) (s.extract i (i + 1)) = some (decide (97 ≤ bt s (i : Int)) && decide (bt s (i : Int) ≤ 122)) := by
 obtain ⟨h1, h2⟩ := cut_one s i h
 unfold strings_Contains.f
 rw [if_pos h1, ← h2]
 generalize (s.extract i (i + 1)).get! 0 = c
 have := letters_ok ⟨c.toNat, c.toNat_lt⟩
 simp only [UInt8.ofNat_toNat] at this
 rw [← this]
theorem con_all (s : ByteArray) (i : Nat) (h : i < s.size) : strings_Contains.f (⟨#[97, 98, 99, 100, 101, 102, 103, 104, 105, 106, 107, 108, 109, 110, 111, 112, 113, 114, 115, 116, 117, 118, 119, 120, 121, 122, 48, 49, 50, 51, 52, 53, 54, 55, 56, 57, 45]⟩ : ByteArray) (s.extract i (i + 1)) = some (okC (bt s (i : Int))) := by
 obtain ⟨h1, h2⟩ := cut_one s i h
 unfold strings_Contains.f
 rw [if_pos h1, ← h2]
 generalize (s.extract i (i + 1)).get! 0 = c
 have := all_ok ⟨c.toNat, c.toNat_lt⟩
 simp only [UInt8.ofNat_toNat] at this
 rw [← this]
theorem bt_rd (s : ByteArray) (i : Nat) (h : i < s.size) : bt s (i : Int) = rd (bytesOf s) (i : Int) := by
 unfold bt rd bytesOf
 rw [Int.toNat_natCast, dif_pos h, List.getD_eq_getElem?_getD, List.getElem?_map, List.getElem?_eq_getElem (show i < s.data.toList.length from h)]
 rfl
theorem named_l0 (s : ByteArray) (hn : s.size ≤ 1000000) : ∀ (d i : Nat), i + d = s.size → Ev (fun k => wrackref1_Named.l0 k s (s.size : Int) (i : Int)) (((bytesOf s).drop i).all okC)
 | 0, i, hi => by
  refine Ev.step (f := fun _ => some _) (fun k => ?_) (Ev.now _)
  simp only [wrackref1_Named.l0]
  rw [if_neg (by omega), List.drop_of_length_le (by rw [bytesOf_len]; omega)]; rfl
 | d + 1, i, hi => by
  have ih := named_l0 s hn d (i + 1) (by omega)
  have e2 : wrap64 ((i : Int) + 1) = ((i + 1 : Nat) : Int) := by unfold wrap64; omega
  rw [kdrop_rd (bytesOf s) i (by rw [bytesOf_len]; omega), List.all_cons, ← bt_rd s i (by omega)]
  refine Ev.step (f := fun k => if okC (bt s (i : Int)) = true then wrackref1_Named.l0 k s (s.size : Int) ((i + 1 : Nat) : Int) else some false) (fun k => ?_) ?_
  ·
   simp only [wrackref1_Named.l0]
   rw [e2, if_pos (by omega), if_pos (by omega), if_pos (by omega), if_pos (by omega), Int.toNat_natCast, Int.toNat_natCast, con_all s i (by omega), Option.bind_some]
  ·
   cases okC (bt s (i : Int)) with
   | true => exact Ev.congr (fun k => if_pos rfl) (by simpa using ih)
   | false => exact Ev.congr (fun k => if_neg (by decide)) (by simpa using Ev.now false)
theorem named_ev (s : ByteArray) : Ev (fun k => wrackref1_Named.f k s) (nameP s) := by
 have hj : Ev (fun k => wrackref1_Named.j0 k s true) false := Ev.step (f := fun _ => some false) (fun k => by simp [wrackref1_Named.j0]) (Ev.now _)
 by_cases h0 : s.size = 0
 ·
  rw [show nameP s = false by unfold nameP; simp [h0]]
  refine Ev.congr (fun k => ?_) hj
  unfold wrackref1_Named.f
  rw [if_pos (by omega)]
 ·
  by_cases h1 : s.size > 12
  ·
   rw [show nameP s = false by unfold nameP; simp [show ¬ s.size ≤ 12 by omega]]
   refine Ev.congr (fun k => ?_) hj
   unfold wrackref1_Named.f
   rw [if_neg (by omega), if_pos (by omega)]
  ·
   have hc := con_letters s 0 (by omega)
   have hl := named_l0 s (by omega) s.size 0 (by omega)
   refine Ev.congr (g := fun k => wrackref1_Named.f k s) (f := fun k => wrackref1_Named.j0 k s (!(decide (97 ≤ bt s 0) && decide (bt s 0 ≤ 122)))) (fun k => ?_) ?_
   ·
    unfold wrackref1_Named.f
    rw [if_neg (by omega), if_neg (by omega), if_pos (by decide), if_pos (by omega)]
    have hc' := hc
    rw [Nat.zero_add] at hc'
    rw [hc', Option.bind_some]
    rfl
   ·
    have e : nameP s = ((decide (97 ≤ bt s 0) && decide (bt s 0 ≤ 122)) && ((bytesOf s).drop 0).all okC) := by
     unfold nameP
     simp [show 1 ≤ s.size by omega, show s.size ≤ 12 by omega]
    rw [e]
    cases (decide (97 ≤ bt s 0) && decide (bt s 0 ≤ 122)) with
    | true =>
     rw [Bool.true_and]
     exact Ev.step (fun k => by simp [wrackref1_Named.j0]) hl
    | false => exact Ev.step (f := fun _ => some false) (fun k => by simp [wrackref1_Named.j0]) (Ev.now _)
theorem u64_wrap (n : Int) : U64 (IntKind.u64.wrap n) := by rw [IntKind.wrap_u64]; exact ⟨by omega, by omega⟩
end Go.Proofs.YtagcaheopbmdiaaDoor.Lk
