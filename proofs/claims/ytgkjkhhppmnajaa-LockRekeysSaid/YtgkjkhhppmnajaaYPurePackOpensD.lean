/- What a source is to its readers. No condition. -/
import Derived.Test.YtgkjkhhppmnajaaYPurePackOpensC
import Derived.Outline
namespace Go.Proofs.Ytgkjkhhppmnajaa.Pure
open Go Go.RowKit Go.Maps Go.Proofs.Ytgkjkhhppmnajaa.QPackOpens Go.Proofs.YtgkjkhhppmnajaaW.PrintWords Go.Proofs.YtgkjkhhppmnajaaW.PrintLast Go.Proofs.YtgkjkhhppmnajaaW.PrintMore
set_option linter.unusedVariables false
set_option linter.unusedSimpArgs false
/-- a method of a value of an interface, resolved -/
structure MethAt (T : Nat) (x : Value) (name : String) (f : Nat) : Prop where
 run : ∀ w, (method 299 T x name).run Try.prog w = .ok (f, x) w
 ahead : ∀ w, (nilAhead 299 T x name).run Try.prog w = .ok (some false) w
 ent : ∀ args w, (callFunc f args).run Try.prog w = .ok (.enter f args) w
/-- what a source's methods answer -/
structure SrcAns (x : Value) (fR fO fS fP : Nat) (b fr : List Int) (bad : List Bool) (W : World) : Prop where
 read : ∀ off k : Int, Calls Try.prog fR #[x, .int .i64 off, .int .i64 k] W fun e w' => ∃ v0, e = .returned (.tuple #[v0, .int .i64 (readErr b.length bad off k)]) ∧ (Kd.int .u8).R 5 w' W.heap.size (fun _ => True) v0 (readRow b bad off k) ∧ Below W.heap.size W w'
 road : ∀ off k : Int, Calls Try.prog fO #[x, .int .i64 off, .int .i64 k] W fun e w' => ∃ v0, e = .returned v0 ∧ k45.R 45 w' W.heap.size (fun _ => True) v0 (roadRow fr off k) ∧ Below W.heap.size W w'
 size : Calls Try.prog fS #[x] W fun e w' => e = .returned (.int .i64 (b.length : Int)) ∧ Below W.heap.size W w'
 plain : Calls Try.prog fP #[x] W fun e w' => e = .returned (.bool true) ∧ Below W.heap.size W w'
/-- a plain source of bytes, with the places of its bytes and those that cannot be read -/
structure SrcIs (w : World) (T : Nat) (x : Value) (fR fO fS fP : Nat) (b fr : List Int) (bad : List Bool) : Prop where
 mR : MethAt T x "Read" fR
 mO : MethAt T x "Road" fO
 mS : MethAt T x "Size" fS
 mP : MethAt T x "Plain" fP
 ans : ∀ W, Below w.heap.size w W → SrcAns x fR fO fS fP b fr bad W
theorem SrcIs.below {w W : World} {T : Nat} {x : Value} {fR fO fS fP : Nat} {b fr : List Int} {bad : List Bool} (h : SrcIs w T x fR fO fS fP b fr bad) (hb : Below w.heap.size w W) : SrcIs W T x fR fO fS fP b fr bad :=
 ⟨h.mR, h.mO, h.mS, h.mP, fun W' hb' => h.ans W' (below_step hb hb')⟩
/-- an image is such a source -/
theorem img_src {w : World} {g : Nat} {A : Option Addr} {c : Nat} {b : List Int} {A' : Option Addr} {c' : Nat} {l : List S45} (h : IsImg w g A c b A' c' (normP l)) (hn : b.length ≤ 65536) (hl : l.length ≤ 8796093021952) :
  SrcIs w 121 (.pointer (some ⟨g, 0, none⟩)) 155 156 157 154 b (idx b.length) (badOf b.length l) where
 mR := ⟨fun _ => by kernel_rfl, fun _ => by kernel_rfl, enters_of Try.func155 (by kernel_rfl) rfl⟩
 mO := ⟨fun _ => by kernel_rfl, fun _ => by kernel_rfl, enters_of Try.func156 (by kernel_rfl) rfl⟩
 mS := ⟨fun _ => by kernel_rfl, fun _ => by kernel_rfl, enters_of Try.func157 (by kernel_rfl) rfl⟩
 mP := ⟨fun _ => by kernel_rfl, fun _ => by kernel_rfl, enters_of Try.func154 (by kernel_rfl) rfl⟩
 ans := fun W hb => ⟨fun off k => img_read W g A c b A' c' l (h.below hb) hn hl off k, fun off k => img_road W g A c b A' c' (normP l) (h.below hb) hn off k, img_size W g A c b A' c' (normP l) (h.below hb), img_plain W g⟩
end Go.Proofs.Ytgkjkhhppmnajaa.Pure
