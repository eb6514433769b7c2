/- Pieces of sources: what they say, in plain Lean. No condition. -/
import Derived.Test.YtlnikhijfamakaaPureSourceImagesF
namespace Go.Proofs.Ytlnikhijfamakaa.Pure
open Go Go.RowKit Go.Maps Go.Proofs.Ytlnikhijfamakaa.QSourceImages Go.Proofs.YtlnikhijfamakaaW.PrintWords Go.Proofs.YtlnikhijfamakaaW.PrintLast Go.Proofs.YtlnikhijfamakaaW.PrintMore
set_option linter.unusedVariables false
set_option linter.unusedSimpArgs false
/-! positions picked -/
/-- what stands at positions -/
def pickI (b : List Int) (l : List Int) : List Int := l.map fun i => rd b i
def pickB (bad : List Bool) (l : List Int) : List Bool := l.map fun i => bad.getD i.toNat false
theorem pickI_len (b l : List Int) : (pickI b l).length = l.length := by simp [pickI]
theorem pickB_len (b : List Bool) (l : List Int) : (pickB b l).length = l.length := by simp [pickB]
theorem pickI_cut (b l : List Int) (o k : Nat) : ((pickI b l).drop o).take k = pickI b ((l.drop o).take k) := by simp [pickI, List.map_take, List.map_drop]
theorem pickB_cut (b : List Bool) (l : List Int) (o k : Nat) : ((pickB b l).drop o).take k = pickB b ((l.drop o).take k) := by simp [pickB, List.map_take, List.map_drop]
theorem pickI_app (b l m : List Int) : pickI b (l ++ m) = pickI b l ++ pickI b m := by simp [pickI]
theorem pickB_app (b : List Bool) (l m : List Int) : pickB b (l ++ m) = pickB b l ++ pickB b m := by simp [pickB]
theorem pickI_bytes (b : List Int) (x : S41) (h : inR b.length x.f0 x.f1) : pickI b (bytesS x) = (b.drop x.f0.toNat).take x.f1.toNat := by
  obtain ⟨h0, h1, h2⟩ := h
  apply List.ext_getElem?
  intro i
  unfold pickI bytesS
  rw [List.map_map, List.getElem?_map]
  by_cases hi : i < x.f1.toNat
  · rw [List.getElem?_range hi, List.getElem?_take_of_lt hi, List.getElem?_drop]
    simp only [Option.map_some, Function.comp_apply]
    unfold rd
    rw [show (x.f0 + (i : Int)).toNat = x.f0.toNat + i by omega, List.getD_eq_getElem?_getD, List.getElem?_eq_getElem (by omega)]
    rfl
  · rw [List.getElem?_eq_none (by simp; omega), List.getElem?_eq_none (by simp; omega)]
    rfl
theorem pickB_bytes (b : List Bool) (x : S41) (h : inR b.length x.f0 x.f1) : pickB b (bytesS x) = (b.drop x.f0.toNat).take x.f1.toNat := by
  obtain ⟨h0, h1, h2⟩ := h
  apply List.ext_getElem?
  intro i
  unfold pickB bytesS
  rw [List.map_map, List.getElem?_map]
  by_cases hi : i < x.f1.toNat
  · rw [List.getElem?_range hi, List.getElem?_take_of_lt hi, List.getElem?_drop]
    simp only [Option.map_some, Function.comp_apply]
    rw [show (x.f0 + (i : Int)).toNat = x.f0.toNat + i by omega, List.getD_eq_getElem?_getD, List.getElem?_eq_getElem (by omega)]
    rfl
  · rw [List.getElem?_eq_none (by simp; omega), List.getElem?_eq_none (by simp; omega)]
    rfl
/-! positions glued, and laid again -/
theorem bytes_snoc (a n : Int) (hn : 0 ≤ n) : bytesS ⟨a, n + 1⟩ = bytesS ⟨a, n⟩ ++ [a + n] := by
  obtain ⟨m, rfl⟩ := Int.eq_ofNat_of_zero_le hn
  exact range_bytes a m
theorem laid_put (o : List S41) (q : Int) (ho : ∀ x ∈ o, okS x) (h0 : 0 ≤ q) (h1 : q < 65536) : (∀ x ∈ put o q 1, okS x) ∧ laid (put o q 1) = laid o ++ [q] := by
  have hq : okS ⟨q, 1⟩ := ⟨h0, by show (0 : Int) < 1; omega, by show q + 1 ≤ 65536; omega⟩
  have hb : bytesS ⟨q, 1⟩ = [q] := by simp [bytesS]
  rcases last_of o with rfl | ⟨p, y, rfl⟩
  · rw [put_nil]
    refine ⟨fun x hx => by rw [List.mem_singleton] at hx; subst hx; exact hq, ?_⟩
    rw [laid_one _ hq, hb]; rfl
  · have hy := ho y (by simp)
    by_cases hj : y.f0 + y.f1 = q
    · rw [put_join p y q 1 hj]
      have hy2 : okS ⟨y.f0, y.f1 + 1⟩ := ⟨hy.1, by have := hy.2.1; show 0 < y.f1 + 1; omega, by show y.f0 + (y.f1 + 1) ≤ 65536; omega⟩
      refine ⟨fun x hx => ?_, ?_⟩
      · rw [List.mem_append, List.mem_singleton] at hx
        rcases hx with hx | hx
        · exact ho x (by simp [hx])
        · subst hx; exact hy2
      · rw [laid_app, laid_app, laid_one _ hy2, laid_one _ hy, bytes_snoc y.f0 y.f1 (by have := hy.2.1; omega), hj, List.append_assoc]
    · rw [put_new p y q 1 hj]
      refine ⟨fun x hx => ?_, ?_⟩
      · rw [List.mem_append, List.mem_singleton] at hx
        rcases hx with hx | hx
        · exact ho x hx
        · subst hx; exact hq
      · rw [laid_app (p ++ [y]), laid_one _ hq, hb]
theorem laid_glued : ∀ (l : List Int) (o : List S41), (∀ x ∈ o, okS x) → (∀ q ∈ l, 0 ≤ q ∧ q < 65536) → (∀ x ∈ gluedP o l, okS x) ∧ laid (gluedP o l) = laid o ++ l
  | [], o, ho, _ => ⟨ho, by simp [gluedP]⟩
  | q :: l, o, ho, hl => by
    obtain ⟨h1, h2⟩ := laid_put o q ho (hl q (by simp)).1 (hl q (by simp)).2
    obtain ⟨h3, h4⟩ := laid_glued l (put o q 1) h1 (fun x hx => hl x (List.mem_cons_of_mem _ hx))
    exact ⟨h3, by show laid (gluedP (put o q 1) l) = _; rw [h4, h2, List.append_assoc]; rfl⟩
/-- what is laid of positions glued: the positions -/
theorem laid_glued0 (l : List Int) (hl : ∀ q ∈ l, 0 ≤ q ∧ q < 65536) : (∀ x ∈ gluedP [] l, okS x) ∧ laid (gluedP [] l) = l := laid_glued l [] (by simp) hl
theorem laid_oks : ∀ (G : List S41), (∀ x ∈ G, okS x) → laid G = G.flatMap bytesS
  | [], _ => rfl
  | x :: G, h => by rw [laid_ok x G (h x (by simp)), laid_oks G (fun y hy => h y (List.mem_cons_of_mem _ hy))]; rfl
theorem mem_bytes (x : S41) (i : Int) : i ∈ bytesS x ↔ x.f0 ≤ i ∧ i < x.f0 + x.f1 := by
  unfold bytesS
  rw [List.mem_map]
  constructor
  · rintro ⟨j, hj, rfl⟩
    rw [List.mem_range] at hj
    omega
  · rintro ⟨h0, h1⟩
    exact ⟨(i - x.f0).toNat, by rw [List.mem_range]; omega, by omega⟩
/-- each glued piece lies within what its positions lie in -/
theorem glued_within (l : List Int) (n : Nat) (hn : n ≤ 65536) (hl : ∀ q ∈ l, 0 ≤ q ∧ q < (n : Int)) : ∀ x ∈ gluedP [] l, okS x ∧ inR n x.f0 x.f1 := by
  obtain ⟨h1, h2⟩ := laid_glued0 l (fun q hq => by have := hl q hq; omega)
  intro x hx
  have hk := h1 x hx
  have hm : ∀ i, x.f0 ≤ i → i < x.f0 + x.f1 → i < (n : Int) := fun i a b => by
    refine (hl i ?_).2
    rw [← h2, laid_oks _ h1, List.mem_flatMap]
    exact ⟨x, hx, (mem_bytes x i).2 ⟨a, b⟩⟩
  refine ⟨hk, hk.1, by have := hk.2.1; omega, ?_⟩
  have := hm (x.f0 + x.f1 - 1) (by have := hk.2.1; omega) (by omega)
  omega
/-- the bytes at positions, piece by piece -/
theorem pick_flat (b : List Int) (G : List S41) (h : ∀ x ∈ G, inR b.length x.f0 x.f1) : pickI b (G.flatMap bytesS) = G.flatMap fun x => (b.drop x.f0.toNat).take x.f1.toNat := by
  induction G with
  | nil => rfl
  | cons x G ih =>
    rw [List.flatMap_cons, List.flatMap_cons, pickI_app, pickI_bytes b x (h x (by simp)), ih (fun y hy => h y (List.mem_cons_of_mem _ hy))]
theorem hit_flat (bad : List Bool) (G : List S41) (h : ∀ x ∈ G, inR bad.length x.f0 x.f1) : (pickB bad (G.flatMap bytesS)).any id = G.any fun x => hit bad x.f0 x.f1 := by
  induction G with
  | nil => rfl
  | cons x G ih =>
    rw [List.flatMap_cons, List.any_cons, pickB_app, List.any_append, pickB_bytes bad x (h x (by simp)), ih (fun y hy => h y (List.mem_cons_of_mem _ hy))]
    rfl
/-- the roads of the pieces, glued: the road of all -/
theorem roads_flat (fr : List Int) (G : List S41) (h : ∀ x ∈ G, inR fr.length x.f0 x.f1) (hf : ∀ y ∈ fr, 0 ≤ y ∧ y < 65536) : laid (G.flatMap fun x => roadRow fr x.f0 x.f1) = pickI fr (G.flatMap bytesS) := by
  induction G with
  | nil => rfl
  | cons x G ih =>
    have hx := h x (by simp)
    rw [List.flatMap_cons, List.flatMap_cons, laid_app, pickI_app, ih (fun y hy => h y (List.mem_cons_of_mem _ hy)), pickI_bytes fr x hx]
    unfold roadRow
    rw [if_pos hx, (laid_glued0 _ (fun q hq => hf q (List.mem_of_mem_drop (List.mem_of_mem_take hq)))).2]
end Go.Proofs.Ytlnikhijfamakaa.Pure
