/- This session's own laws beside the printed words: a string's bytes, a constant's bytes, an entry of a map's literal. -/
import Derived.Test.YtagcaheopbmdiaaDoorYWWords
import Derived.Test.YtagcaheopbmdiaaDoorYWLast
import Derived.Test.YtagcaheopbmdiaaDoorYWMore
import Derived.Maps.OwnOps
import Derived.Maps.Views
import Derived.Lib.SlBytesConst
namespace Go.Proofs.YtagcaheopbmdiaaDoorW.PrintWords
open Go.RowKit
section
variable {P : Program} {ops : Array Oper} {rest : List Oper} {o : Oper} {a : Act} {Q : Exit → Act → World → Prop}
/-- '[]byte(s)': the bytes are only read (what lies behind them is marked). -/
theorem run_bytes_C {W : World} {e : Nat} (src dst : TypeId) (x : Operand) (ho : o.op = .convert src dst x) (s : ByteArray) (hx : a.eval x = .string s)
  {u : TypeDesc} (hs : P.underlying src = some u) (hd : P.underlying dst = some (.slice e)) (he : P.underlying e = some (.int .u8)) (hl : s.size ≤ 140737488355328) :
  ∃ (A : Option Addr) (c : Nat) (w1 : World), (execOp a.eval o).run P W = .ok (.value (.slice A (bytesOf s).length c)) w1 ∧ (Kd.int .u8).C w1 A (bytesOf s).length (bytesOf s) ∧ (bytesOf s).length ≤ c ∧ Below W.heap.size W w1 := by
 have hb := print_bytes (P := P) src dst e hs hd he s W
 refine ⟨some ⟨W.heap.size, 0, none⟩, grownCap W s.size 0 e, Lib.bytesWorld W e s, ?_, ?_, ?_, bytes_below (Below.refl _ W) (Nat.le_refl _) e s⟩
 ·
  rw [bytesOf_length]
  simp only [execOp, ho, hx]
  simp [hb, Result.andThen]
 ·
  rw [bytesOf_length]
  exact Kd.C_of_reads (d := (0 : Int)) (h1 := fun _ => rfl) (bytes_reads W e s (by omega))
 ·
  rw [bytesOf_length]
  exact grownCap_ge W s.size 0 e
theorem Kd.C_bytes {W : World} {e : Nat} (hgd : o.guard = none) {N : Tmp} (_hN : o.dst = some N) (src dst : TypeId) (x : Operand) (ho : o.op = .convert src dst x) (s : ByteArray) (hx : a.eval x = .string s)
  {u : TypeDesc} (hs : P.underlying src = some u) (hd : P.underlying dst = some (.slice e)) (he : P.underlying e = some (.int .u8)) (hl : s.size ≤ 140737488355328)
  (h : ∀ A c w1, (Kd.int .u8).C w1 A (bytesOf s).length (bytesOf s) → (bytesOf s).length ≤ c → Below W.heap.size W w1 → wpList P ops Q rest (a.put o.dst (.slice A (bytesOf s).length c)) w1) : wpList P ops Q (o :: rest) a W := by
 obtain ⟨A, c, w1, hr, h1, h2, h3⟩ := run_bytes_C (W := W) src dst x ho s hx hs hd he hl
 exact event_run hgd hr (h A c w1 h1 h2 h3)
/-- '[]byte("constant")': a literal's row, and behind it a conversion of it to its own type. -/
theorem Kd.C_litbytes {W : World} {o2 : Oper} {t e : Nat} {xs : List Int} (hgd : o.guard = none) (hgd2 : o2.guard = none) {N : Tmp} (_hN : o.dst = some N)
  (hrun : (execOp a.eval o).run P W = .ok (.value (.slice (some ⟨W.heap.size, 0, none⟩) xs.length xs.length)) (W.alloc (.cells (nums .u8 xs).toArray e)))
  (hd : P.underlying t = some (.slice e)) (he : P.underlying e = some (.int .u8)) {M : Operand} (ho2 : o2.op = .convert t t M) (hev : ∀ v, (a.put o.dst v).eval M = v) (hl : xs.length ≤ 140737488355328)
  (h : ∀ A c w1, (Kd.int .u8).C w1 A xs.length xs → xs.length ≤ c → Below W.heap.size W w1 → wpList P ops Q rest ((a.put o.dst (.slice A xs.length c)).put o2.dst (.slice A xs.length c)) w1) : wpList P ops Q (o :: o2 :: rest) a W := by
 refine event_run hgd hrun (event_run hgd2 (w1 := W.alloc (.cells (nums .u8 xs).toArray e ((nums .u8 xs).toArray.size, (nums .u8 xs).toArray.size + 1))) (v := .slice (some ⟨W.heap.size, 0, none⟩) xs.length xs.length) ?_ (h _ _ _ ?_ (Nat.le_refl _) (below_alloc (Below.refl _ _) _)))
 ·
  simp only [execOp, ho2, hev]
  simp [Lib.run_convert_bytes_const W t e _ _ _ hd he, Result.andThen]
 ·
  refine Kd.C_of_reads (d := (0 : Int)) (h1 := fun _ => rfl) ⟨rfl, by omega, fun hp => ⟨_, rfl, fun j hj => ?_⟩⟩
  have hh : (W.alloc (.cells (nums .u8 xs).toArray e ((nums .u8 xs).toArray.size, (nums .u8 xs).toArray.size + 1))).heap[W.heap.size]? = some (.cells (nums .u8 xs).toArray e ((nums .u8 xs).toArray.size, (nums .u8 xs).toArray.size + 1)) := heap_alloc_new W _
  rw [add_plain, cell_of_row _ _ _ _ _ _ hh]
  simp [nums, hj, List.getD_eq_getElem?_getD]
end
theorem Kd.at_slice {α : Type} {e : Nat} {d : Kd α} {w : World} {A : Option Addr} {n : Nat} {xs : List (List α)} (h : (Kd.slice e d).C w A n xs) (i : Nat) (h1 : i < n) :
  ∃ ad A0 c0, A = some ad ∧ w.cell? (ad.add i) = some (.slice A0 (xs.getD i []).length c0) ∧ (xs.getD i []).length ≤ c0 ∧ d.C w A0 (xs.getD i []).length (xs.getD i []) := by
 obtain ⟨ad, c, hA, hl, ⟨A0, c0, rfl, hle, hC⟩, hc⟩ := Kd.C_get h [] (i : Int) (by omega) (by omega)
 rw [Int.toNat_natCast] at hle hC hc
 exact ⟨ad, A0, c0, hA, by simpa [Kd.slice] using hc 0 _ rfl, hle, hC⟩
def totLen {α : Type} (l : List (List α)) : Nat := l.flatten.length
theorem tot_take {α : Type} (l : List (List α)) (k : Nat) (hk : k < l.length) : totLen (l.take (k + 1)) = totLen (l.take k) + (l.getD k []).length := by
 unfold totLen
 rw [List.take_succ_eq_append_getElem hk, List.flatten_append, List.length_append, List.getD_eq_getElem?_getD, List.getElem?_eq_getElem hk]; simp
theorem tot_le {α : Type} (l : List (List α)) (k : Nat) : totLen (l.take k) ≤ totLen l := by
 unfold totLen
 have : l.flatten = (l.take k).flatten ++ (l.drop k).flatten := by rw [← List.flatten_append, List.take_append_drop]
 rw [this, List.length_append]; omega
theorem flat_take {α : Type} (l : List (List α)) (k : Nat) (hk : k < l.length) : (l.take (k + 1)).flatten = (l.take k).flatten ++ l.getD k [] := by
 rw [List.take_succ_eq_append_getElem hk, List.flatten_append, List.getD_eq_getElem?_getD, List.getElem?_eq_getElem hk]; simp
theorem rd_nat (xs : List Int) (i : Nat) : rd xs (i : Int) = xs.getD i 0 := by simp [rd]
theorem drop_step (xs : List Int) (i : Nat) (h : i < xs.length) : xs.drop i = xs.getD i 0 :: xs.drop (i + 1) := by
 rw [List.drop_eq_getElem_cons h, List.getD_eq_getElem?_getD, List.getElem?_eq_getElem h, Option.getD_some]
theorem next (i n : Nat) (h : i < n) (hn : n ≤ 140737488351232) : wrap64 ((i : Int) + 1) = ((i + 1 : Nat) : Int) := by unfold wrap64; omega
def Bytes (xs : List Int) : Prop := ∀ x ∈ xs, 0 ≤ x ∧ x ≤ 255
theorem Bytes.get {xs : List Int} (h : Bytes xs) (i : Nat) : 0 ≤ xs.getD i 0 ∧ xs.getD i 0 ≤ 255 := by
 by_cases hi : i < xs.length
 · rw [List.getD_eq_getElem?_getD, List.getElem?_eq_getElem hi, Option.getD_some]; exact h _ (List.getElem_mem hi)
 · rw [List.getD_eq_getElem?_getD, List.getElem?_eq_none (by omega)]; simp
theorem bytes_of_wf {xs : List Int} (h : ∀ x ∈ xs, (Lit.int .u8 x).wf = true) : Bytes xs := fun x hx => by
 have := h x hx
 simp [Lit.wf, IntKind.min, IntKind.max, IntKind.signed, IntKind.bits] at this
 omega
theorem str_snoc (xs : List Int) (y : Int) : strOfNums xs ++ strOfNums [y] = strOfNums (xs ++ [y]) := by
 unfold strOfNums
 apply ByteArray.ext
 simp
theorem str_size (xs : List Int) : (strOfNums xs).size = xs.length := by unfold strOfNums; simp [ByteArray.size]
end Go.Proofs.YtagcaheopbmdiaaDoorW.PrintWords
