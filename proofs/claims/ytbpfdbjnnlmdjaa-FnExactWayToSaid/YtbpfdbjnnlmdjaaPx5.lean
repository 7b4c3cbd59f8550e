--MINI
-- PRINTED by print.py (a twelfth state) out of the translation. Not trusted: Lean checks it.
import Derived.Test.YtbpfdbjnnlmdjaaPx0
import Derived.Test.YtbpfdbjnnlmdjaaPx2
import Derived.Test.YtbpfdbjnnlmdjaaPx3
import Derived.Test.YtbpfdbjnnlmdjaaPx4
namespace Go.Proofs.Ytbpfdbjnnlmdjaa.P
open Go.RowKit Go.Proofs.YtbpfdbjnnlmdjaaW.PrintWords Go.Proofs.YtbpfdbjnnlmdjaaW.PrintLast Go.Proofs.YtbpfdbjnnlmdjaaW.PrintMore
attribute [local go_sem] rQ rR vR vS pO pQ rT rU   -- for this text's walks alone
set_option linter.unusedVariables false
set_option linter.unusedSimpArgs false
set_option maxHeartbeats 8000000
set_option maxRecDepth 100000

open Kd
def iU.f (k : Nat) (ah : Int) (af : Int) (ae : List (fq)) (a1 : Int) : Option (Int × Int × Int × Int × Int × (List (fq))) := (ax.f k ah af ae).bind fun Uy => ((bJ.f k ah af ae Uy a1).bind fun aUd => (some (aUd.1, aUd.2.1, aUd.2.2.1, aUd.2.2.2.1, aUd.2.2.2.2.1, aUd.2.2.2.2.2.1)))
theorem iU.mono : ∀ a0 a1 a2 a3 k, dO (iU.f k a0 a1 a2 a3) (iU.f (k + 1) a0 a1 a2 a3) := by
 intro a0 a1 a2 a3 k
 unfold iU.f
 repeat' first
  | (with_reducible exact bJ.mono _ _ _ _ _ _)
  | (with_reducible exact ax.mono _ _ _ _)
  | (with_reducible exact dO.refl _)
  | (with_reducible exact dO.none _)
  | (with_reducible refine dO.ite ?_ ?_)
  | (with_reducible refine dO.bind ?_ (fun _ => ?_))
  | exact bJ.mono _ _ _ _ _ _
  | exact ax.mono _ _ _ _
  | exact dO.none _
  | refine dO.ite ?_ ?_
  | refine dO.bind ?_ (fun _ => ?_)
def iU.T1 : Bool × List (List Nat × List Nat) := (true, [([], []), ([], []), ([1], [1]), ([], []), ([0, 2, 3, 2], [0, 2, 3]), ([4], [4]), ([5], [5]), ([5], [5]), ([5], [5]), ([], []), ([], []), ([9, 6, 4, 0, 1, 2, 3, 4, 5, 6, 9, 10], [6, 9]), ([10, 7, 11, 0, 1, 2, 3, 4, 5, 6, 7, 9, 10, 11], [7, 10]), ([8, 12, 0, 1, 2, 3, 4, 5, 6, 7, 8, 9, 10, 11, 12], [8])])
def iU.B1 : List Nat := [0, 0, 2, 0, 15, 31, 63, 63, 63, 0, 0, 1663, 3839, 8191]
theorem iU.aby : mX .any (opsOf Try.f69 1) = iU.T1 := by kernel_rfl
theorem iU.bits1 : kr iU.T1.2 iU.B1 = true := by kernel_rfl
theorem iU.calls (k : Nat) (ah : Int) (af : Int) (aK : Option Addr) (aJ : Nat) (ae : List (fq)) (a1 : Int) (r1 : Int) (r2 : Int) (r3 : Int) (r4 : Int) (r5 : Int) (r6 : List (fq)) (w : World) (dH : Kd.C jZ w aK ae.length ae) (dG : ae.length <= aJ) (h : iU.f k ah af ae a1 = some (r1, r2, r3, r4, r5, r6)) :
 Calls Try.prog 69 #[.agg #[.int .i64 ah, .int .i64 af, .slice aK ae.length aJ], .int .i64 a1] w fun e w' => ∃ v5_ : Value, e = .returned (.tuple #[.agg #[.int .i64 r1, .int .i64 r2, .int .i64 r3], .agg #[.int .i64 r4, .int .i64 r5, v5_]]) /\ Kd.R jZ 83 w' w.heap.size (fun _ => True) v5_ r6 /\ Below w.heap.size w w' := by
 have nH := Try.underlying30
 have YM := Try.underlying54
 have bD := aa.mk dH
 have cO := aa.mk dG
 clear dH dG
 have HB := aa.mk (Below.refl w.heap.size w)
 have H := h
 clear h
 unfold iU.f at H
 replace H := dz H; obtain ⟨Uy, A3, H⟩ := H
 replace H := dz H; obtain ⟨⟨aGV, aIy, oH, aKg, aKH, uy, xq⟩, A4, H⟩ := H
 dsimp only at H
 simp only [Option.some.injEq, Prod.mk.injEq] at H
 obtain ⟨rfl, rfl, rfl, rfl, rfl, rfl⟩ := H
 go_enter Try.func69, Try.ntmps69
 try go_wp2_with (first | ((with_reducible refine aC (N := 2) rfl ?_); refine dN (cs := #[.int .i64 ah, .int .i64 af, .slice aK ae.length aJ]) (t := 30) ?_; intro aef hg w5 hbox hb; refine mJ HB.1 hg hbox hb ?_; clear HB; intro HB HV bez beA; clear hb hbox hg) | ((with_reducible refine aC (N := 4) rfl ?_); refine dN (cs := #[.int .i64 0, .int .i64 0, .int .i64 0]) (t := 54) ?_; intro mP hg w6 hbox hb; refine E7 (bB HV.1 hb) (bS HB.1 hb) (hbox) (gX HB.1 hg) (gX HB.1 hg) (nB HV.1 hg) (nC HV.1 hg) ?_; clear HV HB; intro HV HB lT akF akG aYi aYj; clear hb hbox hg) | ((with_reducible refine aC (N := 5) rfl ?_); refine dN (cs := #[.int .i64 0, .int .i64 0, .slice none 0 0]) (t := 30) ?_; intro amr hg w7 hbox hb; refine E10 (bB HV.1 hb) (bB lT.1 hb) (bS HB.1 hb) (hbox) (gX HB.1 hg) (gX HB.1 hg) (nB HV.1 hg) (nC HV.1 hg) (nB lT.1 hg) (nC lT.1 hg) ?_; clear HV lT HB; intro HV lT HB aaN beB beC aYk aYl aUe aUf; clear hb hbox hg))
 refine E4 (ag HV.1) (ag lT.1) (ag aaN.1) (dm HB.1) ?_
 clear HV lT aaN HB
 intro HV lT aaN HB
 refine jN (n := 14) (S := fun w' => w'.cell? ⟨aef, 0, none⟩ = some (.int .i64 ah) /\ w'.cell? ⟨aef, 1, none⟩ = some (.int .i64 af) /\ w'.cell? ⟨aef, 2, none⟩ = some (.slice aK ae.length aJ)) (ds := []) #[Zz,Zz,Zz,Zz,Zz,Zz,Zz,Zz,Zz,Zz,Zz,Zz,Zz,Zz] (by kernel_rfl) rfl rfl ⟨(ai HV.1 0).trans rfl, (ai HV.1 1).trans rfl, (ai HV.1 2).trans rfl⟩ (fun hHeld => ?_); refine iq iU.aby iU.bits1 (fun HT_ HW_ => ?_)
 generalize w7.drew = w8 at HV lT aaN HB hHeld ⊢
 refine aU 3 (N := some 13) HT_.1 ?_
 refine gF 0 (N := some 10) HT_.1 HW_.1 hHeld ?_
 refine gF 1 (N := some 11) HT_.1 HW_.1 hHeld ?_
 refine yS (σ := Value × Value × Value × Nat × Nat) 3 #[Yy,Yy,Yy,Yy,Yy,Yy,Yy,Yy,Yy,Yy,Yy,Zz,Zz,Zz] (fun s_ => [(12, s_.1), (14, .tuple #[.agg #[.int .i64 aGV, .int .i64 aIy, .int .i64 oH], .agg #[.int .i64 aKg, .int .i64 aKH, s_.2.1], s_.2.2.1]), (6, .pointer (some ⟨s_.2.2.2.1, 0, none⟩)), (7, .pointer (some ⟨s_.2.2.2.2, 0, none⟩)), (9, .tuple #[.agg #[.int .i64 aGV, .int .i64 aIy, .int .i64 oH], .agg #[.int .i64 aKg, .int .i64 aKH, s_.2.1], s_.2.2.1]), (15, .agg #[.int .i64 aGV, .int .i64 aIy, .int .i64 oH]), (16, .agg #[.int .i64 aKg, .int .i64 aKH, s_.2.1]), (17, s_.2.2.1)]) (fun s_ w' => (w'.cell? ⟨aef, 0, none⟩ = some (.int .i64 ah) /\ w'.cell? ⟨aef, 1, none⟩ = some (.int .i64 af) /\ w'.cell? ⟨aef, 2, none⟩ = some (.slice aK ae.length aJ)) /\ (Kd.R (Kd.int .i64) 3 w' w.heap.size (fun _ => True) s_.1 Uy) /\ (Kd.R jZ 83 w' w.heap.size (fun _ => True) s_.2.1 uy) /\ (Kd.S (Kd.slice 3 (Kd.int .i64)) 38 w' w.heap.size (fun k_ => some k_ ≠ (s_.1 : Value).ownBlock) s_.2.2.1 xq) /\ (w'.heap[aef]? = some (.cells #[.int .i64 ah, .int .i64 af, .slice aK ae.length aJ] 30 (0, 0))) /\ (w'.heap[mP]? = some (.cells #[.int .i64 0, .int .i64 0, .int .i64 0] 54 (0, 0))) /\ (w'.heap[amr]? = some (.cells #[.int .i64 0, .int .i64 0, .slice none 0 0] 30 (0, 0))) /\ (w'.heap[s_.2.2.2.1]? = some (.cells #[.int .i64 0, .int .i64 0, .int .i64 0] 54 (0, 0))) /\ (w'.heap[s_.2.2.2.2]? = some (.cells #[.int .i64 0, .int .i64 0, .slice none 0 0] 30 (0, 0))) /\ (w.heap.size <= s_.2.2.2.1) /\ (w.heap.size <= s_.2.2.2.1) /\ (aef ≠ s_.2.2.2.1) /\ (s_.2.2.2.1 ≠ aef) /\ (mP ≠ s_.2.2.2.1) /\ (s_.2.2.2.1 ≠ mP) /\ (amr ≠ s_.2.2.2.1) /\ (s_.2.2.2.1 ≠ amr) /\ (s_.2.2.2.2 ≠ s_.2.2.2.1) /\ (s_.2.2.2.1 ≠ s_.2.2.2.2) /\ (w.heap.size <= s_.2.2.2.2) /\ (w.heap.size <= s_.2.2.2.2) /\ (aef ≠ s_.2.2.2.2) /\ (s_.2.2.2.2 ≠ aef) /\ (mP ≠ s_.2.2.2.2) /\ (s_.2.2.2.2 ≠ mP) /\ (amr ≠ s_.2.2.2.2) /\ (s_.2.2.2.2 ≠ amr) /\ (Below w.heap.size w w')) ?_ ?_
 rotate_left
 · intro EI
   refine yS (σ := Value × Value × Value × Nat) 4 #[Yy,Yy,Yy,Yy,Yy,Yy,Yy,Yy,Yy,Yy,Zz,Zz,Zz,Zz] (fun s_ => [(12, s_.1), (14, .tuple #[.agg #[.int .i64 aGV, .int .i64 aIy, .int .i64 oH], .agg #[.int .i64 aKg, .int .i64 aKH, s_.2.1], s_.2.2.1]), (6, .pointer (some ⟨s_.2.2.2, 0, none⟩)), (9, .tuple #[.agg #[.int .i64 aGV, .int .i64 aIy, .int .i64 oH], .agg #[.int .i64 aKg, .int .i64 aKH, s_.2.1], s_.2.2.1]), (15, .agg #[.int .i64 aGV, .int .i64 aIy, .int .i64 oH]), (16, .agg #[.int .i64 aKg, .int .i64 aKH, s_.2.1]), (17, s_.2.2.1)]) (fun s_ w' => (w'.cell? ⟨aef, 0, none⟩ = some (.int .i64 ah) /\ w'.cell? ⟨aef, 1, none⟩ = some (.int .i64 af) /\ w'.cell? ⟨aef, 2, none⟩ = some (.slice aK ae.length aJ)) /\ (Kd.R (Kd.int .i64) 3 w' w.heap.size (fun _ => True) s_.1 Uy) /\ (Kd.R jZ 83 w' w.heap.size (fun _ => True) s_.2.1 uy) /\ (Kd.S (Kd.slice 3 (Kd.int .i64)) 38 w' w.heap.size (fun k_ => some k_ ≠ (s_.1 : Value).ownBlock) s_.2.2.1 xq) /\ (w'.heap[aef]? = some (.cells #[.int .i64 ah, .int .i64 af, .slice aK ae.length aJ] 30 (0, 0))) /\ (w'.heap[mP]? = some (.cells #[.int .i64 0, .int .i64 0, .int .i64 0] 54 (0, 0))) /\ (w'.heap[amr]? = some (.cells #[.int .i64 0, .int .i64 0, .slice none 0 0] 30 (0, 0))) /\ (w'.heap[s_.2.2.2]? = some (.cells #[.int .i64 0, .int .i64 0, .int .i64 0] 54 (0, 0))) /\ (w.heap.size <= s_.2.2.2) /\ (w.heap.size <= s_.2.2.2) /\ (aef ≠ s_.2.2.2) /\ (s_.2.2.2 ≠ aef) /\ (mP ≠ s_.2.2.2) /\ (s_.2.2.2 ≠ mP) /\ (amr ≠ s_.2.2.2) /\ (s_.2.2.2 ≠ amr) /\ (Below w.heap.size w w')) ?_ ?_
   rotate_left
   · intro WW
     refine yS (σ := Value × Value × Value × Nat) 4 #[Yy,Yy,Yy,Yy,Yy,Yy,Yy,Yy,Yy,Zz,Yy,Zz,Zz,Zz] (fun s_ => [(12, s_.1), (14, .tuple #[.agg #[.int .i64 aGV, .int .i64 aIy, .int .i64 oH], .agg #[.int .i64 aKg, .int .i64 aKH, s_.2.1], s_.2.2.1]), (7, .pointer (some ⟨s_.2.2.2, 0, none⟩)), (9, .tuple #[.agg #[.int .i64 aGV, .int .i64 aIy, .int .i64 oH], .agg #[.int .i64 aKg, .int .i64 aKH, s_.2.1], s_.2.2.1]), (15, .agg #[.int .i64 aGV, .int .i64 aIy, .int .i64 oH]), (16, .agg #[.int .i64 aKg, .int .i64 aKH, s_.2.1]), (17, s_.2.2.1)]) (fun s_ w' => (w'.cell? ⟨aef, 0, none⟩ = some (.int .i64 ah) /\ w'.cell? ⟨aef, 1, none⟩ = some (.int .i64 af) /\ w'.cell? ⟨aef, 2, none⟩ = some (.slice aK ae.length aJ)) /\ (Kd.R (Kd.int .i64) 3 w' w.heap.size (fun _ => True) s_.1 Uy) /\ (Kd.R jZ 83 w' w.heap.size (fun _ => True) s_.2.1 uy) /\ (Kd.S (Kd.slice 3 (Kd.int .i64)) 38 w' w.heap.size (fun k_ => some k_ ≠ (s_.1 : Value).ownBlock) s_.2.2.1 xq) /\ (w'.heap[aef]? = some (.cells #[.int .i64 ah, .int .i64 af, .slice aK ae.length aJ] 30 (0, 0))) /\ (w'.heap[mP]? = some (.cells #[.int .i64 0, .int .i64 0, .int .i64 0] 54 (0, 0))) /\ (w'.heap[amr]? = some (.cells #[.int .i64 0, .int .i64 0, .slice none 0 0] 30 (0, 0))) /\ (w'.heap[s_.2.2.2]? = some (.cells #[.int .i64 0, .int .i64 0, .slice none 0 0] 30 (0, 0))) /\ (w.heap.size <= s_.2.2.2) /\ (w.heap.size <= s_.2.2.2) /\ (aef ≠ s_.2.2.2) /\ (s_.2.2.2 ≠ aef) /\ (mP ≠ s_.2.2.2) /\ (s_.2.2.2 ≠ mP) /\ (amr ≠ s_.2.2.2) /\ (s_.2.2.2 ≠ amr) /\ (Below w.heap.size w w')) ?_ ?_
     rotate_left
     · intro RB
       refine yS (σ := Value × Nat × Nat) 8 #[Yy,Yy,Yy,Yy,Zz,Zz,Zz,Zz,Zz,Yy,Yy,Zz,Zz,Zz] (fun s_ => [(12, s_.1), (6, .pointer (some ⟨s_.2.1, 0, none⟩)), (7, .pointer (some ⟨s_.2.2, 0, none⟩))]) (fun s_ w' => (w'.cell? ⟨aef, 0, none⟩ = some (.int .i64 ah) /\ w'.cell? ⟨aef, 1, none⟩ = some (.int .i64 af) /\ w'.cell? ⟨aef, 2, none⟩ = some (.slice aK ae.length aJ)) /\ (Kd.R (Kd.int .i64) 3 w' w.heap.size (fun _ => True) s_.1 Uy) /\ (w'.heap[aef]? = some (.cells #[.int .i64 ah, .int .i64 af, .slice aK ae.length aJ] 30 (0, 0))) /\ (w'.heap[mP]? = some (.cells #[.int .i64 0, .int .i64 0, .int .i64 0] 54 (0, 0))) /\ (w'.heap[amr]? = some (.cells #[.int .i64 0, .int .i64 0, .slice none 0 0] 30 (0, 0))) /\ (w'.heap[s_.2.1]? = some (.cells #[.int .i64 0, .int .i64 0, .int .i64 0] 54 (0, 0))) /\ (w'.heap[s_.2.2]? = some (.cells #[.int .i64 0, .int .i64 0, .slice none 0 0] 30 (0, 0))) /\ (w.heap.size <= s_.2.1) /\ (w.heap.size <= s_.2.1) /\ (aef ≠ s_.2.1) /\ (s_.2.1 ≠ aef) /\ (mP ≠ s_.2.1) /\ (s_.2.1 ≠ mP) /\ (amr ≠ s_.2.1) /\ (s_.2.1 ≠ amr) /\ (s_.2.2 ≠ s_.2.1) /\ (s_.2.1 ≠ s_.2.2) /\ (w.heap.size <= s_.2.2) /\ (w.heap.size <= s_.2.2) /\ (aef ≠ s_.2.2) /\ (s_.2.2 ≠ aef) /\ (mP ≠ s_.2.2) /\ (s_.2.2 ≠ mP) /\ (amr ≠ s_.2.2) /\ (s_.2.2 ≠ amr) /\ (Below w.heap.size w w')) ?_ ?_
       rotate_left
       · intro Lu
         refine yS (σ := Value × Value × Value) 5 #[Yy,Yy,Yy,Yy,Yy,Yy,Yy,Yy,Yy,Zz,Zz,Zz,Zz,Zz] (fun s_ => [(12, s_.1), (14, .tuple #[.agg #[.int .i64 aGV, .int .i64 aIy, .int .i64 oH], .agg #[.int .i64 aKg, .int .i64 aKH, s_.2.1], s_.2.2]), (9, .tuple #[.agg #[.int .i64 aGV, .int .i64 aIy, .int .i64 oH], .agg #[.int .i64 aKg, .int .i64 aKH, s_.2.1], s_.2.2]), (15, .agg #[.int .i64 aGV, .int .i64 aIy, .int .i64 oH]), (16, .agg #[.int .i64 aKg, .int .i64 aKH, s_.2.1]), (17, s_.2.2)]) (fun s_ w' => (w'.cell? ⟨aef, 0, none⟩ = some (.int .i64 ah) /\ w'.cell? ⟨aef, 1, none⟩ = some (.int .i64 af) /\ w'.cell? ⟨aef, 2, none⟩ = some (.slice aK ae.length aJ)) /\ (Kd.R (Kd.int .i64) 3 w' w.heap.size (fun _ => True) s_.1 Uy) /\ (Kd.R jZ 83 w' w.heap.size (fun _ => True) s_.2.1 uy) /\ (Kd.S (Kd.slice 3 (Kd.int .i64)) 38 w' w.heap.size (fun k_ => some k_ ≠ (s_.1 : Value).ownBlock) s_.2.2 xq) /\ (w'.heap[aef]? = some (.cells #[.int .i64 ah, .int .i64 af, .slice aK ae.length aJ] 30 (0, 0))) /\ (w'.heap[mP]? = some (.cells #[.int .i64 0, .int .i64 0, .int .i64 0] 54 (0, 0))) /\ (w'.heap[amr]? = some (.cells #[.int .i64 0, .int .i64 0, .slice none 0 0] 30 (0, 0))) /\ (Below w.heap.size w w')) ?_ ?_
         rotate_left
         · intro awm
           refine yS (σ := Value × Nat) 9 #[Yy,Yy,Yy,Yy,Zz,Zz,Zz,Zz,Zz,Yy,Zz,Zz,Zz,Zz] (fun s_ => [(12, s_.1), (6, .pointer (some ⟨s_.2, 0, none⟩))]) (fun s_ w' => (w'.cell? ⟨aef, 0, none⟩ = some (.int .i64 ah) /\ w'.cell? ⟨aef, 1, none⟩ = some (.int .i64 af) /\ w'.cell? ⟨aef, 2, none⟩ = some (.slice aK ae.length aJ)) /\ (Kd.R (Kd.int .i64) 3 w' w.heap.size (fun _ => True) s_.1 Uy) /\ (w'.heap[aef]? = some (.cells #[.int .i64 ah, .int .i64 af, .slice aK ae.length aJ] 30 (0, 0))) /\ (w'.heap[mP]? = some (.cells #[.int .i64 0, .int .i64 0, .int .i64 0] 54 (0, 0))) /\ (w'.heap[amr]? = some (.cells #[.int .i64 0, .int .i64 0, .slice none 0 0] 30 (0, 0))) /\ (w'.heap[s_.2]? = some (.cells #[.int .i64 0, .int .i64 0, .int .i64 0] 54 (0, 0))) /\ (w.heap.size <= s_.2) /\ (w.heap.size <= s_.2) /\ (aef ≠ s_.2) /\ (s_.2 ≠ aef) /\ (mP ≠ s_.2) /\ (s_.2 ≠ mP) /\ (amr ≠ s_.2) /\ (s_.2 ≠ amr) /\ (Below w.heap.size w w')) ?_ ?_
           rotate_left
           · intro akK
             refine yS (σ := Value × Nat) 9 #[Yy,Yy,Yy,Yy,Zz,Zz,Zz,Zz,Zz,Zz,Yy,Zz,Zz,Zz] (fun s_ => [(12, s_.1), (7, .pointer (some ⟨s_.2, 0, none⟩))]) (fun s_ w' => (w'.cell? ⟨aef, 0, none⟩ = some (.int .i64 ah) /\ w'.cell? ⟨aef, 1, none⟩ = some (.int .i64 af) /\ w'.cell? ⟨aef, 2, none⟩ = some (.slice aK ae.length aJ)) /\ (Kd.R (Kd.int .i64) 3 w' w.heap.size (fun _ => True) s_.1 Uy) /\ (w'.heap[aef]? = some (.cells #[.int .i64 ah, .int .i64 af, .slice aK ae.length aJ] 30 (0, 0))) /\ (w'.heap[mP]? = some (.cells #[.int .i64 0, .int .i64 0, .int .i64 0] 54 (0, 0))) /\ (w'.heap[amr]? = some (.cells #[.int .i64 0, .int .i64 0, .slice none 0 0] 30 (0, 0))) /\ (w'.heap[s_.2]? = some (.cells #[.int .i64 0, .int .i64 0, .slice none 0 0] 30 (0, 0))) /\ (w.heap.size <= s_.2) /\ (w.heap.size <= s_.2) /\ (aef ≠ s_.2) /\ (s_.2 ≠ aef) /\ (mP ≠ s_.2) /\ (s_.2 ≠ mP) /\ (amr ≠ s_.2) /\ (s_.2 ≠ amr) /\ (Below w.heap.size w w')) ?_ ?_
             rotate_left
             · intro acA
               refine yS (σ := Nat × Nat) 9 #[Yy,Yy,Zz,Yy,Zz,Zz,Zz,Zz,Zz,Yy,Yy,Zz,Zz,Zz] (fun s_ => [(6, .pointer (some ⟨s_.1, 0, none⟩)), (7, .pointer (some ⟨s_.2, 0, none⟩))]) (fun s_ w' => (w'.cell? ⟨aef, 0, none⟩ = some (.int .i64 ah) /\ w'.cell? ⟨aef, 1, none⟩ = some (.int .i64 af) /\ w'.cell? ⟨aef, 2, none⟩ = some (.slice aK ae.length aJ)) /\ (w'.heap[aef]? = some (.cells #[.int .i64 ah, .int .i64 af, .slice aK ae.length aJ] 30 (0, 0))) /\ (w'.heap[mP]? = some (.cells #[.int .i64 0, .int .i64 0, .int .i64 0] 54 (0, 0))) /\ (w'.heap[amr]? = some (.cells #[.int .i64 0, .int .i64 0, .slice none 0 0] 30 (0, 0))) /\ (w'.heap[s_.1]? = some (.cells #[.int .i64 0, .int .i64 0, .int .i64 0] 54 (0, 0))) /\ (w'.heap[s_.2]? = some (.cells #[.int .i64 0, .int .i64 0, .slice none 0 0] 30 (0, 0))) /\ (w.heap.size <= s_.1) /\ (w.heap.size <= s_.1) /\ (aef ≠ s_.1) /\ (s_.1 ≠ aef) /\ (mP ≠ s_.1) /\ (s_.1 ≠ mP) /\ (amr ≠ s_.1) /\ (s_.1 ≠ amr) /\ (s_.2 ≠ s_.1) /\ (s_.1 ≠ s_.2) /\ (w.heap.size <= s_.2) /\ (w.heap.size <= s_.2) /\ (aef ≠ s_.2) /\ (s_.2 ≠ aef) /\ (mP ≠ s_.2) /\ (s_.2 ≠ mP) /\ (amr ≠ s_.2) /\ (s_.2 ≠ amr) /\ (Below w.heap.size w w')) ?_ ?_
               rotate_left
               · intro acB
                 refine yS (σ := Value) 10 #[Yy,Yy,Yy,Yy,Zz,Zz,Zz,Zz,Zz,Zz,Zz,Zz,Zz,Zz] (fun s_ => [(12, s_)]) (fun s_ w' => (w'.cell? ⟨aef, 0, none⟩ = some (.int .i64 ah) /\ w'.cell? ⟨aef, 1, none⟩ = some (.int .i64 af) /\ w'.cell? ⟨aef, 2, none⟩ = some (.slice aK ae.length aJ)) /\ (Kd.R (Kd.int .i64) 3 w' w.heap.size (fun _ => True) s_ Uy) /\ (w'.heap[aef]? = some (.cells #[.int .i64 ah, .int .i64 af, .slice aK ae.length aJ] 30 (0, 0))) /\ (w'.heap[mP]? = some (.cells #[.int .i64 0, .int .i64 0, .int .i64 0] 54 (0, 0))) /\ (w'.heap[amr]? = some (.cells #[.int .i64 0, .int .i64 0, .slice none 0 0] 30 (0, 0))) /\ (Below w.heap.size w w')) ?_ ?_
                 rotate_left
                 · intro hJ2
                   refine yS (σ := Nat) 10 #[Yy,Yy,Zz,Yy,Zz,Zz,Zz,Zz,Zz,Yy,Zz,Zz,Zz,Zz] (fun s_ => [(6, .pointer (some ⟨s_, 0, none⟩))]) (fun s_ w' => (w'.cell? ⟨aef, 0, none⟩ = some (.int .i64 ah) /\ w'.cell? ⟨aef, 1, none⟩ = some (.int .i64 af) /\ w'.cell? ⟨aef, 2, none⟩ = some (.slice aK ae.length aJ)) /\ (w'.heap[aef]? = some (.cells #[.int .i64 ah, .int .i64 af, .slice aK ae.length aJ] 30 (0, 0))) /\ (w'.heap[mP]? = some (.cells #[.int .i64 0, .int .i64 0, .int .i64 0] 54 (0, 0))) /\ (w'.heap[amr]? = some (.cells #[.int .i64 0, .int .i64 0, .slice none 0 0] 30 (0, 0))) /\ (w'.heap[s_]? = some (.cells #[.int .i64 0, .int .i64 0, .int .i64 0] 54 (0, 0))) /\ (w.heap.size <= s_) /\ (w.heap.size <= s_) /\ (aef ≠ s_) /\ (s_ ≠ aef) /\ (mP ≠ s_) /\ (s_ ≠ mP) /\ (amr ≠ s_) /\ (s_ ≠ amr) /\ (Below w.heap.size w w')) ?_ ?_
                   rotate_left
                   · intro hJ9
                     refine yS (σ := Nat) 10 #[Yy,Yy,Zz,Yy,Zz,Zz,Zz,Zz,Zz,Zz,Yy,Zz,Zz,Zz] (fun s_ => [(7, .pointer (some ⟨s_, 0, none⟩))]) (fun s_ w' => (w'.cell? ⟨aef, 0, none⟩ = some (.int .i64 ah) /\ w'.cell? ⟨aef, 1, none⟩ = some (.int .i64 af) /\ w'.cell? ⟨aef, 2, none⟩ = some (.slice aK ae.length aJ)) /\ (w'.heap[aef]? = some (.cells #[.int .i64 ah, .int .i64 af, .slice aK ae.length aJ] 30 (0, 0))) /\ (w'.heap[mP]? = some (.cells #[.int .i64 0, .int .i64 0, .int .i64 0] 54 (0, 0))) /\ (w'.heap[amr]? = some (.cells #[.int .i64 0, .int .i64 0, .slice none 0 0] 30 (0, 0))) /\ (w'.heap[s_]? = some (.cells #[.int .i64 0, .int .i64 0, .slice none 0 0] 30 (0, 0))) /\ (w.heap.size <= s_) /\ (w.heap.size <= s_) /\ (aef ≠ s_) /\ (s_ ≠ aef) /\ (mP ≠ s_) /\ (s_ ≠ mP) /\ (amr ≠ s_) /\ (s_ ≠ amr) /\ (Below w.heap.size w w')) ?_ ?_
                     rotate_left
                     · intro aGt
                       refine aap (i := 2) (j := 9) (k := 10) (Ni := some 12) (Nj := some 6) (Nk := some 7) #[Yy,Yy,Yy,Yy,Zz,Zz,Zz,Zz,Zz,Zz,Zz,Zz,Zz,Zz] #[Yy,Yy,Zz,Yy,Zz,Zz,Zz,Zz,Zz,Yy,Zz,Zz,Zz,Zz] #[Yy,Yy,Zz,Yy,Zz,Zz,Zz,Zz,Zz,Zz,Yy,Zz,Zz,Zz] rfl rfl rfl rfl rfl rfl (QE HT_.1 (by kernel_rfl)) (by decide) (by decide) (by decide) (fun K hK => ?_) (fun K hK => ?_) (fun K hK => ?_)
                       · skip
                         refine nA Try.func80 (by kernel_rfl) rfl #[.agg #[.int .i64 ah, .int .i64 af, .slice aK ae.length aJ]] (by rfl) rfl rfl (by (try simp only [List.map_toArray, List.map_cons, List.map_nil]); first | done | rfl | (simp only [List.length_drop, List.length_take]; rfl)) ?_
                         with_reducible refine (ax.calls k ah af _ _ ae Uy _ ?side1 ?side2 A3.1).mono ?_
                         (case side1 => exact CB (aY bD.1 HB.1))
                         (case side2 => exact cO.1)
                         rintro e w9 ⟨aEb, rfl, ho0, hb⟩
                         refine ⟨_, rfl, ?_⟩
                         refine E5 (bN ho0 (bZ HB.1)) (bB HV.1 hb) (bB lT.1 hb) (bB aaN.1 hb) (bS HB.1 hb) ?_
                         clear HV lT aaN HB
                         intro aik HV lT aaN HB
                         (try clear hb)
                         (try clear hb2)
                         (try clear hk)
                         (try clear hi)
                         (try clear ho0)
                         refine hK.out _ _ ⟨(ai HV.1 0).trans rfl, (ai HV.1 1).trans rfl, (ai HV.1 2).trans rfl⟩ (fun hHeld => ?_)
                         clear hK K
                         refine eX (a' := ?_) ?_ ?_
                         rotate_left
                         · show Act.put _ (some 12) _ = _
                           simp only [Act.put, List.setIfInBounds_toArray, List.set_cons_zero, List.set_cons_succ, cz, dF]
                           rfl
                         exact eX NA (hJ2 (aEb) _ ⟨hHeld, (PR aik.1), (PB HV.1), (PB lT.1), (PB aaN.1), (BL HB.1)⟩)
                       · skip
                         refine ma ?hg (N := 6) ?hd (cs := #[.int .i64 0, .int .i64 0, .int .i64 0]) (t := 54) ?hr ?_; (case hd => rfl); (case hg => rfl); (case hr => first | (go_simp; done) | (go_simp; rfl))
                         intro afS hg w9 hbox hb
                         refine E13 (bB HV.1 hb) (bB lT.1 hb) (bB aaN.1 hb) (bS HB.1 hb) (hbox) (gX HB.1 hg) (gX HB.1 hg) (nB HV.1 hg) (nC HV.1 hg) (nB lT.1 hg) (nC lT.1 hg) (nB aaN.1 hg) (nC aaN.1 hg) ?_
                         clear HV lT aaN HB
                         intro HV lT aaN HB anB aDv aDw akC aqY ams amw amD amQ
                         clear hb hbox hg
                         refine hK.out _ _ ⟨(ai HV.1 0).trans rfl, (ai HV.1 1).trans rfl, (ai HV.1 2).trans rfl⟩ (fun hHeld => ?_)
                         clear hK K
                         refine eX (a' := ?_) ?_ ?_
                         rotate_left
                         · show Act.put _ (some 6) _ = _
                           simp only [Act.put, List.setIfInBounds_toArray, List.set_cons_zero, List.set_cons_succ, cz, dF]
                           rfl
                         exact eX NA (hJ9 (afS) _ ⟨hHeld, (PB HV.1), (PB lT.1), (PB aaN.1), (PB anB.1), aDv.1, aDw.1, akC.1, aqY.1, ams.1, amw.1, amD.1, amQ.1, (BL HB.1)⟩)
                       skip
                       refine ma ?hg (N := 7) ?hd (cs := #[.int .i64 0, .int .i64 0, .slice none 0 0]) (t := 30) ?hr ?_; (case hd => rfl); (case hg => rfl); (case hr => first | (go_simp; done) | (go_simp; rfl))
                       intro ahW hg w9 hbox hb
                       refine E13 (bB HV.1 hb) (bB lT.1 hb) (bB aaN.1 hb) (bS HB.1 hb) (hbox) (gX HB.1 hg) (gX HB.1 hg) (nB HV.1 hg) (nC HV.1 hg) (nB lT.1 hg) (nC lT.1 hg) (nB aaN.1 hg) (nC aaN.1 hg) ?_
                       clear HV lT aaN HB
                       intro HV lT aaN HB anQ aDy aDD akE aq0 am1 ank ann anq
                       clear hb hbox hg
                       refine hK.out _ _ ⟨(ai HV.1 0).trans rfl, (ai HV.1 1).trans rfl, (ai HV.1 2).trans rfl⟩ (fun hHeld => ?_)
                       clear hK K
                       refine eX (a' := ?_) ?_ ?_
                       rotate_left
                       · show Act.put _ (some 7) _ = _
                         simp only [Act.put, List.setIfInBounds_toArray, List.set_cons_zero, List.set_cons_succ, cz, dF]
                         rfl
                       exact eX NA (aGt (ahW) _ ⟨hHeld, (PB HV.1), (PB lT.1), (PB aaN.1), (PB anQ.1), aDy.1, aDD.1, akE.1, aq0.1, am1.1, ank.1, ann.1, anq.1, (BL HB.1)⟩)
                     skip
                     rintro ahW Hw ⟨hS_, qG, qH, qi, qI, qJ, tX, xk, zk, Ce, IV, vv, vw, vz⟩
                     refine E13 qG qH qi qI qJ tX xk zk Ce IV vv vw vz ?_
                     clear HV lT aaN HB qG qH qi qI qJ tX xk zk Ce IV vv vw vz
                     intro HV lT aaN anQ aDy aDD akE aq0 am1 ank ann anq HB
                     have hHeld : Hw.cell? ⟨aef, 0, none⟩ = some (.int .i64 ah) /\ Hw.cell? ⟨aef, 1, none⟩ = some (.int .i64 af) /\ Hw.cell? ⟨aef, 2, none⟩ = some (.slice aK ae.length aJ) := hS_
                     refine eX (a' := ?_) ?_ ?_
                     rotate_left
                     · simp only [oQ, Act.put, List.setIfInBounds_toArray, List.set_cons_zero, List.set_cons_succ]
                       rfl
                     refine Tn (i := 2) (j := 9) (Ni := some 12) (Nj := some 6) #[Yy,Yy,Yy,Yy,Zz,Zz,Zz,Zz,Zz,Zz,Yy,Zz,Zz,Zz] #[Yy,Yy,Zz,Yy,Zz,Zz,Zz,Zz,Zz,Yy,Yy,Zz,Zz,Zz] rfl rfl rfl rfl (Ey HT_.1 (by kernel_rfl)) (by decide) (by decide) (fun K hK => ?_) (fun K hK => ?_)
                     · skip
                       refine nA Try.func80 (by kernel_rfl) rfl #[.agg #[.int .i64 ah, .int .i64 af, .slice aK ae.length aJ]] (by rfl) rfl rfl (by (try simp only [List.map_toArray, List.map_cons, List.map_nil]); first | done | rfl | (simp only [List.length_drop, List.length_take]; rfl)) ?_
                       with_reducible refine (ax.calls k ah af _ _ ae Uy _ ?side1 ?side2 A3.1).mono ?_
                       (case side1 => exact CB (aY bD.1 HB.1))
                       (case side2 => exact cO.1)
                       rintro e qy ⟨aEb, rfl, ho0, hb⟩
                       refine ⟨_, rfl, ?_⟩
                       refine E6 (bN ho0 (bZ HB.1)) (bB HV.1 hb) (bB lT.1 hb) (bB aaN.1 hb) (bB anQ.1 hb) (bS HB.1 hb) ?_
                       clear HV lT aaN anQ HB
                       intro aik HV lT aaN anQ HB
                       (try clear hb)
                       (try clear hb2)
                       (try clear hk)
                       (try clear hi)
                       (try clear ho0)
                       refine hK.out _ _ ⟨(ai HV.1 0).trans rfl, (ai HV.1 1).trans rfl, (ai HV.1 2).trans rfl⟩ (fun hHeld => ?_)
                       clear hK K
                       refine eX (a' := ?_) ?_ ?_
                       rotate_left
                       · show Act.put _ (some 12) _ = _
                         simp only [Act.put, List.setIfInBounds_toArray, List.set_cons_zero, List.set_cons_succ, cz, dF]
                         rfl
                       exact eX NA (acA (aEb, ahW) _ ⟨hHeld, (PR aik.1), (PB HV.1), (PB lT.1), (PB aaN.1), (PB anQ.1), aDy.1, aDD.1, akE.1, aq0.1, am1.1, ank.1, ann.1, anq.1, (BL HB.1)⟩)
                     skip
                     refine ma ?hg (N := 6) ?hd (cs := #[.int .i64 0, .int .i64 0, .int .i64 0]) (t := 54) ?hr ?_; (case hd => rfl); (case hg => rfl); (case hr => first | (go_simp; done) | (go_simp; rfl))
                     intro afS hg qy hbox hb
                     refine E16 (bB HV.1 hb) (bB lT.1 hb) (bB aaN.1 hb) (bB anQ.1 hb) (bS HB.1 hb) (hbox) (gX HB.1 hg) (gX HB.1 hg) (nB HV.1 hg) (nC HV.1 hg) (nB lT.1 hg) (nC lT.1 hg) (nB aaN.1 hg) (nC aaN.1 hg) (nB anQ.1 hg) (nC anQ.1 hg) ?_
                     clear HV lT aaN anQ HB
                     intro HV lT aaN anQ HB anB aDv aDw akC aqY ams amw amD amQ arc ard
                     clear hb hbox hg
                     refine hK.out _ _ ⟨(ai HV.1 0).trans rfl, (ai HV.1 1).trans rfl, (ai HV.1 2).trans rfl⟩ (fun hHeld => ?_)
                     clear hK K
                     refine eX (a' := ?_) ?_ ?_
                     rotate_left
                     · show Act.put _ (some 6) _ = _
                       simp only [Act.put, List.setIfInBounds_toArray, List.set_cons_zero, List.set_cons_succ, cz, dF]
                       rfl
                     exact eX NA (acB (afS, ahW) _ ⟨hHeld, (PB HV.1), (PB lT.1), (PB aaN.1), (PB anB.1), (PB anQ.1), aDv.1, aDw.1, akC.1, aqY.1, ams.1, amw.1, amD.1, amQ.1, arc.1, ard.1, aDy.1, aDD.1, akE.1, aq0.1, am1.1, ank.1, ann.1, anq.1, (BL HB.1)⟩)
                   skip
                   rintro afS Hw ⟨hS_, qG, qH, qi, qI, qJ, tX, xk, zk, Ce, IV, vv, vw, vz⟩
                   refine E13 qG qH qi qI qJ tX xk zk Ce IV vv vw vz ?_
                   clear HV lT aaN HB qG qH qi qI qJ tX xk zk Ce IV vv vw vz
                   intro HV lT aaN anB aDv aDw akC aqY ams amw amD amQ HB
                   have hHeld : Hw.cell? ⟨aef, 0, none⟩ = some (.int .i64 ah) /\ Hw.cell? ⟨aef, 1, none⟩ = some (.int .i64 af) /\ Hw.cell? ⟨aef, 2, none⟩ = some (.slice aK ae.length aJ) := hS_
                   refine eX (a' := ?_) ?_ ?_
                   rotate_left
                   · simp only [oQ, Act.put, List.setIfInBounds_toArray, List.set_cons_zero, List.set_cons_succ]
                     rfl
                   refine Tn (i := 2) (j := 10) (Ni := some 12) (Nj := some 7) #[Yy,Yy,Yy,Yy,Zz,Zz,Zz,Zz,Zz,Yy,Zz,Zz,Zz,Zz] #[Yy,Yy,Zz,Yy,Zz,Zz,Zz,Zz,Zz,Yy,Yy,Zz,Zz,Zz] rfl rfl rfl rfl (Ey HT_.1 (by kernel_rfl)) (by decide) (by decide) (fun K hK => ?_) (fun K hK => ?_)
                   · skip
                     refine nA Try.func80 (by kernel_rfl) rfl #[.agg #[.int .i64 ah, .int .i64 af, .slice aK ae.length aJ]] (by rfl) rfl rfl (by (try simp only [List.map_toArray, List.map_cons, List.map_nil]); first | done | rfl | (simp only [List.length_drop, List.length_take]; rfl)) ?_
                     with_reducible refine (ax.calls k ah af _ _ ae Uy _ ?side1 ?side2 A3.1).mono ?_
                     (case side1 => exact CB (aY bD.1 HB.1))
                     (case side2 => exact cO.1)
                     rintro e qy ⟨aEb, rfl, ho0, hb⟩
                     refine ⟨_, rfl, ?_⟩
                     refine E6 (bN ho0 (bZ HB.1)) (bB HV.1 hb) (bB lT.1 hb) (bB aaN.1 hb) (bB anB.1 hb) (bS HB.1 hb) ?_
                     clear HV lT aaN anB HB
                     intro aik HV lT aaN anB HB
                     (try clear hb)
                     (try clear hb2)
                     (try clear hk)
                     (try clear hi)
                     (try clear ho0)
                     refine hK.out _ _ ⟨(ai HV.1 0).trans rfl, (ai HV.1 1).trans rfl, (ai HV.1 2).trans rfl⟩ (fun hHeld => ?_)
                     clear hK K
                     refine eX (a' := ?_) ?_ ?_
                     rotate_left
                     · show Act.put _ (some 12) _ = _
                       simp only [Act.put, List.setIfInBounds_toArray, List.set_cons_zero, List.set_cons_succ, cz, dF]
                       rfl
                     exact eX NA (akK (aEb, afS) _ ⟨hHeld, (PR aik.1), (PB HV.1), (PB lT.1), (PB aaN.1), (PB anB.1), aDv.1, aDw.1, akC.1, aqY.1, ams.1, amw.1, amD.1, amQ.1, (BL HB.1)⟩)
                   skip
                   refine ma ?hg (N := 7) ?hd (cs := #[.int .i64 0, .int .i64 0, .slice none 0 0]) (t := 30) ?hr ?_; (case hd => rfl); (case hg => rfl); (case hr => first | (go_simp; done) | (go_simp; rfl))
                   intro ahW hg qy hbox hb
                   refine E16 (bB HV.1 hb) (bB lT.1 hb) (bB aaN.1 hb) (bB anB.1 hb) (bS HB.1 hb) (hbox) (gX HB.1 hg) (gX HB.1 hg) (nB HV.1 hg) (nC HV.1 hg) (nB lT.1 hg) (nC lT.1 hg) (nB aaN.1 hg) (nC aaN.1 hg) (nB anB.1 hg) (nC anB.1 hg) ?_
                   clear HV lT aaN anB HB
                   intro HV lT aaN anB HB anQ aDy aDD akE aq0 am1 ank ann anq ard arc
                   clear hb hbox hg
                   refine hK.out _ _ ⟨(ai HV.1 0).trans rfl, (ai HV.1 1).trans rfl, (ai HV.1 2).trans rfl⟩ (fun hHeld => ?_)
                   clear hK K
                   refine eX (a' := ?_) ?_ ?_
                   rotate_left
                   · show Act.put _ (some 7) _ = _
                     simp only [Act.put, List.setIfInBounds_toArray, List.set_cons_zero, List.set_cons_succ, cz, dF]
                     rfl
                   exact eX NA (acB (afS, ahW) _ ⟨hHeld, (PB HV.1), (PB lT.1), (PB aaN.1), (PB anB.1), (PB anQ.1), aDv.1, aDw.1, akC.1, aqY.1, ams.1, amw.1, amD.1, amQ.1, arc.1, ard.1, aDy.1, aDD.1, akE.1, aq0.1, am1.1, ank.1, ann.1, anq.1, (BL HB.1)⟩)
                 skip
                 rintro aEb Hw ⟨hS_, qG, qH, qi, qI, qJ⟩
                 refine E5 qG qH qi qI qJ ?_
                 clear HV lT aaN HB qG qH qi qI qJ
                 intro aik HV lT aaN HB
                 have hHeld : Hw.cell? ⟨aef, 0, none⟩ = some (.int .i64 ah) /\ Hw.cell? ⟨aef, 1, none⟩ = some (.int .i64 af) /\ Hw.cell? ⟨aef, 2, none⟩ = some (.slice aK ae.length aJ) := hS_
                 obtain ⟨DT, sM, TP⟩ := bv aik.1
                 (first | subst TP | (injection TP with rY zZ rZ; have z8 := rY.symm; have Aa := rZ.symm; clear rY zZ rZ; subst z8; subst Aa))
                 refine eX (a' := ?_) ?_ ?_
                 rotate_left
                 · simp only [oQ, Act.put, List.setIfInBounds_toArray, List.set_cons_zero, List.set_cons_succ]
                   rfl
                 refine aap (i := 4) (j := 9) (k := 10) (Ni := some 14) (Nj := some 6) (Nk := some 7) #[Yy,Yy,Yy,Yy,Yy,Zz,Zz,Zz,Zz,Zz,Zz,Zz,Zz,Zz] #[Yy,Yy,Yy,Yy,Zz,Zz,Zz,Zz,Zz,Yy,Zz,Zz,Zz,Zz] #[Yy,Yy,Yy,Yy,Zz,Zz,Zz,Zz,Zz,Zz,Yy,Zz,Zz,Zz] rfl rfl rfl rfl rfl rfl (QE HT_.1 (by kernel_rfl)) (by decide) (by decide) (by decide) (fun K hK => ?_) (fun K hK => ?_) (fun K hK => ?_)
                 · skip
                   refine nA Try.func84 (by kernel_rfl) rfl #[.agg #[.int .i64 ah, .int .i64 af, .slice aK ae.length aJ], .slice DT Uy.length sM, .int .i64 a1] (by rfl) rfl rfl (by (try simp only [List.map_toArray, List.map_cons, List.map_nil]); first | done | rfl | (simp only [List.length_drop, List.length_take]; rfl)) ?_
                   with_reducible refine (bJ.calls k ah af _ _ ae _ _ Uy a1 aGV aIy oH aKg aKH uy xq _ ?side1 ?side2 ?side3 ?side4 A4.1).mono ?_
                   (case side1 => exact CB (aY bD.1 HB.1))
                   (case side2 => exact cO.1)
                   (case side3 => exact CB (ay aik.1).2.2)
                   (case side4 => exact (ay aik.1).2.1)
                   rintro e yC ⟨aN7, aNt, rfl, ho0, ho1, hb⟩
                   refine ⟨_, rfl, ?_⟩
                   refine E7 (rB aik.1 hb) (bN ho0 (bZ HB.1)) (lN (BV ho1 (iL (PR aik.1))) (bZ HB.1)) (bB HV.1 hb) (bB lT.1 hb) (bB aaN.1 hb) (bS HB.1 hb) ?_
                   clear aik HV lT aaN HB
                   intro aik arU asS HV lT aaN HB
                   (try clear hb)
                   (try clear hb2)
                   (try clear hk)
                   (try clear hi)
                   (try clear ho0)
                   (try clear ho1)
                   refine hK.out _ _ ⟨(ai HV.1 0).trans rfl, (ai HV.1 1).trans rfl, (ai HV.1 2).trans rfl⟩ (fun hHeld => ?_)
                   clear hK K
                   refine eX (a' := ?_) ?_ ?_
                   rotate_left
                   · show Act.put _ (some 14) _ = _
                     simp only [Act.put, List.setIfInBounds_toArray, List.set_cons_zero, List.set_cons_succ, cz, dF]
                     rfl
                   refine aU 5 (N := some 9) HT_.1 ?_
                   refine aU 6 (N := some 15) HT_.1 ?_
                   refine aU 7 (N := some 16) HT_.1 ?_
                   refine aU 8 (N := some 17) HT_.1 ?_
                   exact eX NA (awm (.slice DT Uy.length sM, aN7, aNt) _ ⟨hHeld, (PR aik.1), (PR arU.1), (ES (eY asS.1 (fun _ hk => hk.2))), (PB HV.1), (PB lT.1), (PB aaN.1), (BL HB.1)⟩)
                 · skip
                   refine ma ?hg (N := 6) ?hd (cs := #[.int .i64 0, .int .i64 0, .int .i64 0]) (t := 54) ?hr ?_; (case hd => rfl); (case hg => rfl); (case hr => first | (go_simp; done) | (go_simp; rfl))
                   intro afS hg qy hbox hb
                   refine E14 (rB aik.1 hb) (bB HV.1 hb) (bB lT.1 hb) (bB aaN.1 hb) (bS HB.1 hb) (hbox) (gX HB.1 hg) (gX HB.1 hg) (nB HV.1 hg) (nC HV.1 hg) (nB lT.1 hg) (nC lT.1 hg) (nB aaN.1 hg) (nC aaN.1 hg) ?_
                   clear aik HV lT aaN HB
                   intro aik HV lT aaN HB anB aDv aDw akC aqY ams amw amD amQ
                   clear hb hbox hg
                   refine hK.out _ _ ⟨(ai HV.1 0).trans rfl, (ai HV.1 1).trans rfl, (ai HV.1 2).trans rfl⟩ (fun hHeld => ?_)
                   clear hK K
                   refine eX (a' := ?_) ?_ ?_
                   rotate_left
                   · show Act.put _ (some 6) _ = _
                     simp only [Act.put, List.setIfInBounds_toArray, List.set_cons_zero, List.set_cons_succ, cz, dF]
                     rfl
                   exact eX NA (akK ((.slice DT Uy.length sM), afS) _ ⟨hHeld, (PR aik.1), (PB HV.1), (PB lT.1), (PB aaN.1), (PB anB.1), aDv.1, aDw.1, akC.1, aqY.1, ams.1, amw.1, amD.1, amQ.1, (BL HB.1)⟩)
                 skip
                 refine ma ?hg (N := 7) ?hd (cs := #[.int .i64 0, .int .i64 0, .slice none 0 0]) (t := 30) ?hr ?_; (case hd => rfl); (case hg => rfl); (case hr => first | (go_simp; done) | (go_simp; rfl))
                 intro ahW hg qy hbox hb
                 refine E14 (rB aik.1 hb) (bB HV.1 hb) (bB lT.1 hb) (bB aaN.1 hb) (bS HB.1 hb) (hbox) (gX HB.1 hg) (gX HB.1 hg) (nB HV.1 hg) (nC HV.1 hg) (nB lT.1 hg) (nC lT.1 hg) (nB aaN.1 hg) (nC aaN.1 hg) ?_
                 clear aik HV lT aaN HB
                 intro aik HV lT aaN HB anQ aDy aDD akE aq0 am1 ank ann anq
                 clear hb hbox hg
                 refine hK.out _ _ ⟨(ai HV.1 0).trans rfl, (ai HV.1 1).trans rfl, (ai HV.1 2).trans rfl⟩ (fun hHeld => ?_)
                 clear hK K
                 refine eX (a' := ?_) ?_ ?_
                 rotate_left
                 · show Act.put _ (some 7) _ = _
                   simp only [Act.put, List.setIfInBounds_toArray, List.set_cons_zero, List.set_cons_succ, cz, dF]
                   rfl
                 exact eX NA (acA ((.slice DT Uy.length sM), ahW) _ ⟨hHeld, (PR aik.1), (PB HV.1), (PB lT.1), (PB aaN.1), (PB anQ.1), aDy.1, aDD.1, akE.1, aq0.1, am1.1, ank.1, ann.1, anq.1, (BL HB.1)⟩)
               skip
               rintro ⟨afS, ahW⟩ qy ⟨hS_, qG, qH, qi, qI, qJ, tX, xk, zk, Ce, IV, vv, vw, vz, zz, Gu, Gv, RD, RH, RI, RJ, RL, RN, RO, RP⟩
               refine E24 (show qy.heap[aef]? = some (.cells #[.int .i64 ah, .int .i64 af, .slice aK ae.length aJ] 30 (0, 0)) from qG) (show qy.heap[mP]? = some (.cells #[.int .i64 0, .int .i64 0, .int .i64 0] 54 (0, 0)) from qH) (show qy.heap[amr]? = some (.cells #[.int .i64 0, .int .i64 0, .slice none 0 0] 30 (0, 0)) from qi) (show qy.heap[afS]? = some (.cells #[.int .i64 0, .int .i64 0, .int .i64 0] 54 (0, 0)) from qI) (show qy.heap[ahW]? = some (.cells #[.int .i64 0, .int .i64 0, .slice none 0 0] 30 (0, 0)) from qJ) (show w.heap.size <= afS from tX) (show w.heap.size <= afS from xk) (show aef ≠ afS from zk) (show afS ≠ aef from Ce) (show mP ≠ afS from IV) (show afS ≠ mP from vv) (show amr ≠ afS from vw) (show afS ≠ amr from vz) (show ahW ≠ afS from zz) (show afS ≠ ahW from Gu) (show w.heap.size <= ahW from Gv) (show w.heap.size <= ahW from RD) (show aef ≠ ahW from RH) (show ahW ≠ aef from RI) (show mP ≠ ahW from RJ) (show ahW ≠ mP from RL) (show amr ≠ ahW from RN) (show ahW ≠ amr from RO) (show Below w.heap.size w qy from RP) ?_
               clear HV lT aaN HB qG qH qi qI qJ tX xk zk Ce IV vv vw vz zz Gu Gv RD RH RI RJ RL RN RO RP
               intro HV lT aaN anB anQ aDv aDw akC aqY ams amw amD amQ arc ard aDy aDD akE aq0 am1 ank ann anq HB
               have hHeld : qy.cell? ⟨aef, 0, none⟩ = some (.int .i64 ah) /\ qy.cell? ⟨aef, 1, none⟩ = some (.int .i64 af) /\ qy.cell? ⟨aef, 2, none⟩ = some (.slice aK ae.length aJ) := hS_
               refine eX (a' := ?_) ?_ ?_
               rotate_left
               · simp only [oQ, Act.put, List.setIfInBounds_toArray, List.set_cons_zero, List.set_cons_succ]
                 rfl
               refine mV (i := 2) (N := some 12) #[Yy,Yy,Yy,Yy,Zz,Zz,Zz,Zz,Zz,Yy,Yy,Zz,Zz,Zz] rfl rfl (jc HT_.1 (by kernel_rfl)) (by decide) (fun K hK => ?_)
               refine nA Try.func80 (by kernel_rfl) rfl #[.agg #[.int .i64 ah, .int .i64 af, .slice aK ae.length aJ]] (by rfl) rfl rfl (by (try simp only [List.map_toArray, List.map_cons, List.map_nil]); first | done | rfl | (simp only [List.length_drop, List.length_take]; rfl)) ?_
               with_reducible refine (ax.calls k ah af _ _ ae Uy _ ?side1 ?side2 A3.1).mono ?_
               (case side1 => exact CB (aY bD.1 HB.1))
               (case side2 => exact cO.1)
               rintro e yC ⟨aEb, rfl, ho0, hb⟩
               refine ⟨_, rfl, ?_⟩
               refine E7 (bN ho0 (bZ HB.1)) (bB HV.1 hb) (bB lT.1 hb) (bB aaN.1 hb) (bB anB.1 hb) (bB anQ.1 hb) (bS HB.1 hb) ?_
               clear HV lT aaN anB anQ HB
               intro aik HV lT aaN anB anQ HB
               (try clear hb)
               (try clear hb2)
               (try clear hk)
               (try clear hi)
               (try clear ho0)
               refine hK.out _ _ ⟨(ai HV.1 0).trans rfl, (ai HV.1 1).trans rfl, (ai HV.1 2).trans rfl⟩ (fun hHeld => ?_)
               clear hK K
               refine eX (a' := ?_) ?_ ?_
               rotate_left
               · show Act.put _ (some 12) _ = _
                 simp only [Act.put, List.setIfInBounds_toArray, List.set_cons_zero, List.set_cons_succ, cz, dF]
                 rfl
               exact eX NA (Lu (aEb, afS, ahW) _ ⟨hHeld, (PR aik.1), (PB HV.1), (PB lT.1), (PB aaN.1), (PB anB.1), (PB anQ.1), aDv.1, aDw.1, akC.1, aqY.1, ams.1, amw.1, amD.1, amQ.1, arc.1, ard.1, aDy.1, aDD.1, akE.1, aq0.1, am1.1, ank.1, ann.1, anq.1, (BL HB.1)⟩)
             skip
             rintro ⟨aEb, ahW⟩ qy ⟨hS_, qG, qH, qi, qI, qJ, tX, xk, zk, Ce, IV, vv, vw, vz, zz⟩
             refine E14 (show Kd.R (Kd.int .i64) 3 qy w.heap.size (fun _ => True) aEb Uy from qG) (show qy.heap[aef]? = some (.cells #[.int .i64 ah, .int .i64 af, .slice aK ae.length aJ] 30 (0, 0)) from qH) (show qy.heap[mP]? = some (.cells #[.int .i64 0, .int .i64 0, .int .i64 0] 54 (0, 0)) from qi) (show qy.heap[amr]? = some (.cells #[.int .i64 0, .int .i64 0, .slice none 0 0] 30 (0, 0)) from qI) (show qy.heap[ahW]? = some (.cells #[.int .i64 0, .int .i64 0, .slice none 0 0] 30 (0, 0)) from qJ) (show w.heap.size <= ahW from tX) (show w.heap.size <= ahW from xk) (show aef ≠ ahW from zk) (show ahW ≠ aef from Ce) (show mP ≠ ahW from IV) (show ahW ≠ mP from vv) (show amr ≠ ahW from vw) (show ahW ≠ amr from vz) (show Below w.heap.size w qy from zz) ?_
             clear HV lT aaN HB qG qH qi qI qJ tX xk zk Ce IV vv vw vz zz
             intro aik HV lT aaN anQ aDy aDD akE aq0 am1 ank ann anq HB
             have hHeld : qy.cell? ⟨aef, 0, none⟩ = some (.int .i64 ah) /\ qy.cell? ⟨aef, 1, none⟩ = some (.int .i64 af) /\ qy.cell? ⟨aef, 2, none⟩ = some (.slice aK ae.length aJ) := hS_
             obtain ⟨DF, rM, vF⟩ := bv aik.1
             (first | subst vF | (injection vF with rY zZ rZ; have z8 := rY.symm; have Aa := rZ.symm; clear rY zZ rZ; subst z8; subst Aa))
             refine eX (a' := ?_) ?_ ?_
             rotate_left
             · simp only [oQ, Act.put, List.setIfInBounds_toArray, List.set_cons_zero, List.set_cons_succ]
               rfl
             refine Tn (i := 4) (j := 9) (Ni := some 14) (Nj := some 6) #[Yy,Yy,Yy,Yy,Yy,Zz,Zz,Zz,Zz,Zz,Yy,Zz,Zz,Zz] #[Yy,Yy,Yy,Yy,Zz,Zz,Zz,Zz,Zz,Yy,Yy,Zz,Zz,Zz] rfl rfl rfl rfl (Ey HT_.1 (by kernel_rfl)) (by decide) (by decide) (fun K hK => ?_) (fun K hK => ?_)
             · skip
               refine nA Try.func84 (by kernel_rfl) rfl #[.agg #[.int .i64 ah, .int .i64 af, .slice aK ae.length aJ], .slice DF Uy.length rM, .int .i64 a1] (by rfl) rfl rfl (by (try simp only [List.map_toArray, List.map_cons, List.map_nil]); first | done | rfl | (simp only [List.length_drop, List.length_take]; rfl)) ?_
               with_reducible refine (bJ.calls k ah af _ _ ae _ _ Uy a1 aGV aIy oH aKg aKH uy xq _ ?side1 ?side2 ?side3 ?side4 A4.1).mono ?_
               (case side1 => exact CB (aY bD.1 HB.1))
               (case side2 => exact cO.1)
               (case side3 => exact CB (ay aik.1).2.2)
               (case side4 => exact (ay aik.1).2.1)
               rintro e yJ ⟨aN7, aNt, rfl, ho0, ho1, hb⟩
               refine ⟨_, rfl, ?_⟩
               refine E8 (rB aik.1 hb) (bN ho0 (bZ HB.1)) (lN (BV ho1 (iL (PR aik.1))) (bZ HB.1)) (bB HV.1 hb) (bB lT.1 hb) (bB aaN.1 hb) (bB anQ.1 hb) (bS HB.1 hb) ?_
               clear aik HV lT aaN anQ HB
               intro aik arU asS HV lT aaN anQ HB
               (try clear hb)
               (try clear hb2)
               (try clear hk)
               (try clear hi)
               (try clear ho0)
               (try clear ho1)
               refine hK.out _ _ ⟨(ai HV.1 0).trans rfl, (ai HV.1 1).trans rfl, (ai HV.1 2).trans rfl⟩ (fun hHeld => ?_)
               clear hK K
               refine eX (a' := ?_) ?_ ?_
               rotate_left
               · show Act.put _ (some 14) _ = _
                 simp only [Act.put, List.setIfInBounds_toArray, List.set_cons_zero, List.set_cons_succ, cz, dF]
                 rfl
               refine aU 5 (N := some 9) HT_.1 ?_
               refine aU 6 (N := some 15) HT_.1 ?_
               refine aU 7 (N := some 16) HT_.1 ?_
               refine aU 8 (N := some 17) HT_.1 ?_
               exact eX NA (RB (.slice DF Uy.length rM, aN7, aNt, ahW) _ ⟨hHeld, (PR aik.1), (PR arU.1), (ES (eY asS.1 (fun _ hk => hk.2))), (PB HV.1), (PB lT.1), (PB aaN.1), (PB anQ.1), aDy.1, aDD.1, akE.1, aq0.1, am1.1, ank.1, ann.1, anq.1, (BL HB.1)⟩)
             skip
             refine ma ?hg (N := 6) ?hd (cs := #[.int .i64 0, .int .i64 0, .int .i64 0]) (t := 54) ?hr ?_; (case hd => rfl); (case hg => rfl); (case hr => first | (go_simp; done) | (go_simp; rfl))
             intro afS hg yC hbox hb
             refine E17 (rB aik.1 hb) (bB HV.1 hb) (bB lT.1 hb) (bB aaN.1 hb) (bB anQ.1 hb) (bS HB.1 hb) (hbox) (gX HB.1 hg) (gX HB.1 hg) (nB HV.1 hg) (nC HV.1 hg) (nB lT.1 hg) (nC lT.1 hg) (nB aaN.1 hg) (nC aaN.1 hg) (nB anQ.1 hg) (nC anQ.1 hg) ?_
             clear aik HV lT aaN anQ HB
             intro aik HV lT aaN anQ HB anB aDv aDw akC aqY ams amw amD amQ arc ard
             clear hb hbox hg
             refine hK.out _ _ ⟨(ai HV.1 0).trans rfl, (ai HV.1 1).trans rfl, (ai HV.1 2).trans rfl⟩ (fun hHeld => ?_)
             clear hK K
             refine eX (a' := ?_) ?_ ?_
             rotate_left
             · show Act.put _ (some 6) _ = _
               simp only [Act.put, List.setIfInBounds_toArray, List.set_cons_zero, List.set_cons_succ, cz, dF]
               rfl
             exact eX NA (Lu ((.slice DF Uy.length rM), afS, ahW) _ ⟨hHeld, (PR aik.1), (PB HV.1), (PB lT.1), (PB aaN.1), (PB anB.1), (PB anQ.1), aDv.1, aDw.1, akC.1, aqY.1, ams.1, amw.1, amD.1, amQ.1, arc.1, ard.1, aDy.1, aDD.1, akE.1, aq0.1, am1.1, ank.1, ann.1, anq.1, (BL HB.1)⟩)
           skip
           rintro ⟨aEb, afS⟩ qy ⟨hS_, qG, qH, qi, qI, qJ, tX, xk, zk, Ce, IV, vv, vw, vz, zz⟩
           refine E14 (show Kd.R (Kd.int .i64) 3 qy w.heap.size (fun _ => True) aEb Uy from qG) (show qy.heap[aef]? = some (.cells #[.int .i64 ah, .int .i64 af, .slice aK ae.length aJ] 30 (0, 0)) from qH) (show qy.heap[mP]? = some (.cells #[.int .i64 0, .int .i64 0, .int .i64 0] 54 (0, 0)) from qi) (show qy.heap[amr]? = some (.cells #[.int .i64 0, .int .i64 0, .slice none 0 0] 30 (0, 0)) from qI) (show qy.heap[afS]? = some (.cells #[.int .i64 0, .int .i64 0, .int .i64 0] 54 (0, 0)) from qJ) (show w.heap.size <= afS from tX) (show w.heap.size <= afS from xk) (show aef ≠ afS from zk) (show afS ≠ aef from Ce) (show mP ≠ afS from IV) (show afS ≠ mP from vv) (show amr ≠ afS from vw) (show afS ≠ amr from vz) (show Below w.heap.size w qy from zz) ?_
           clear HV lT aaN HB qG qH qi qI qJ tX xk zk Ce IV vv vw vz zz
           intro aik HV lT aaN anB aDv aDw akC aqY ams amw amD amQ HB
           have hHeld : qy.cell? ⟨aef, 0, none⟩ = some (.int .i64 ah) /\ qy.cell? ⟨aef, 1, none⟩ = some (.int .i64 af) /\ qy.cell? ⟨aef, 2, none⟩ = some (.slice aK ae.length aJ) := hS_
           obtain ⟨DF, rM, vF⟩ := bv aik.1
           (first | subst vF | (injection vF with rY zZ rZ; have z8 := rY.symm; have Aa := rZ.symm; clear rY zZ rZ; subst z8; subst Aa))
           refine eX (a' := ?_) ?_ ?_
           rotate_left
           · simp only [oQ, Act.put, List.setIfInBounds_toArray, List.set_cons_zero, List.set_cons_succ]
             rfl
           refine Tn (i := 4) (j := 10) (Ni := some 14) (Nj := some 7) #[Yy,Yy,Yy,Yy,Yy,Zz,Zz,Zz,Zz,Yy,Zz,Zz,Zz,Zz] #[Yy,Yy,Yy,Yy,Zz,Zz,Zz,Zz,Zz,Yy,Yy,Zz,Zz,Zz] rfl rfl rfl rfl (Ey HT_.1 (by kernel_rfl)) (by decide) (by decide) (fun K hK => ?_) (fun K hK => ?_)
           · skip
             refine nA Try.func84 (by kernel_rfl) rfl #[.agg #[.int .i64 ah, .int .i64 af, .slice aK ae.length aJ], .slice DF Uy.length rM, .int .i64 a1] (by rfl) rfl rfl (by (try simp only [List.map_toArray, List.map_cons, List.map_nil]); first | done | rfl | (simp only [List.length_drop, List.length_take]; rfl)) ?_
             with_reducible refine (bJ.calls k ah af _ _ ae _ _ Uy a1 aGV aIy oH aKg aKH uy xq _ ?side1 ?side2 ?side3 ?side4 A4.1).mono ?_
             (case side1 => exact CB (aY bD.1 HB.1))
             (case side2 => exact cO.1)
             (case side3 => exact CB (ay aik.1).2.2)
             (case side4 => exact (ay aik.1).2.1)
             rintro e yJ ⟨aN7, aNt, rfl, ho0, ho1, hb⟩
             refine ⟨_, rfl, ?_⟩
             refine E8 (rB aik.1 hb) (bN ho0 (bZ HB.1)) (lN (BV ho1 (iL (PR aik.1))) (bZ HB.1)) (bB HV.1 hb) (bB lT.1 hb) (bB aaN.1 hb) (bB anB.1 hb) (bS HB.1 hb) ?_
             clear aik HV lT aaN anB HB
             intro aik arU asS HV lT aaN anB HB
             (try clear hb)
             (try clear hb2)
             (try clear hk)
             (try clear hi)
             (try clear ho0)
             (try clear ho1)
             refine hK.out _ _ ⟨(ai HV.1 0).trans rfl, (ai HV.1 1).trans rfl, (ai HV.1 2).trans rfl⟩ (fun hHeld => ?_)
             clear hK K
             refine eX (a' := ?_) ?_ ?_
             rotate_left
             · show Act.put _ (some 14) _ = _
               simp only [Act.put, List.setIfInBounds_toArray, List.set_cons_zero, List.set_cons_succ, cz, dF]
               rfl
             refine aU 5 (N := some 9) HT_.1 ?_
             refine aU 6 (N := some 15) HT_.1 ?_
             refine aU 7 (N := some 16) HT_.1 ?_
             refine aU 8 (N := some 17) HT_.1 ?_
             exact eX NA (WW (.slice DF Uy.length rM, aN7, aNt, afS) _ ⟨hHeld, (PR aik.1), (PR arU.1), (ES (eY asS.1 (fun _ hk => hk.2))), (PB HV.1), (PB lT.1), (PB aaN.1), (PB anB.1), aDv.1, aDw.1, akC.1, aqY.1, ams.1, amw.1, amD.1, amQ.1, (BL HB.1)⟩)
           skip
           refine ma ?hg (N := 7) ?hd (cs := #[.int .i64 0, .int .i64 0, .slice none 0 0]) (t := 30) ?hr ?_; (case hd => rfl); (case hg => rfl); (case hr => first | (go_simp; done) | (go_simp; rfl))
           intro ahW hg yC hbox hb
           refine E17 (rB aik.1 hb) (bB HV.1 hb) (bB lT.1 hb) (bB aaN.1 hb) (bB anB.1 hb) (bS HB.1 hb) (hbox) (gX HB.1 hg) (gX HB.1 hg) (nB HV.1 hg) (nC HV.1 hg) (nB lT.1 hg) (nC lT.1 hg) (nB aaN.1 hg) (nC aaN.1 hg) (nB anB.1 hg) (nC anB.1 hg) ?_
           clear aik HV lT aaN anB HB
           intro aik HV lT aaN anB HB anQ aDy aDD akE aq0 am1 ank ann anq ard arc
           clear hb hbox hg
           refine hK.out _ _ ⟨(ai HV.1 0).trans rfl, (ai HV.1 1).trans rfl, (ai HV.1 2).trans rfl⟩ (fun hHeld => ?_)
           clear hK K
           refine eX (a' := ?_) ?_ ?_
           rotate_left
           · show Act.put _ (some 7) _ = _
             simp only [Act.put, List.setIfInBounds_toArray, List.set_cons_zero, List.set_cons_succ, cz, dF]
             rfl
           exact eX NA (Lu ((.slice DF Uy.length rM), afS, ahW) _ ⟨hHeld, (PR aik.1), (PB HV.1), (PB lT.1), (PB aaN.1), (PB anB.1), (PB anQ.1), aDv.1, aDw.1, akC.1, aqY.1, ams.1, amw.1, amD.1, amQ.1, arc.1, ard.1, aDy.1, aDD.1, akE.1, aq0.1, am1.1, ank.1, ann.1, anq.1, (BL HB.1)⟩)
         skip
         rintro ⟨aEb, aN7, aNt⟩ yC ⟨hS_, qG, qH, qi, qI, qJ, tX, xk⟩
         refine E7 (show Kd.R (Kd.int .i64) 3 yC w.heap.size (fun _ => True) aEb Uy from qG) (show Kd.R jZ 83 yC w.heap.size (fun _ => True) aN7 uy from qH) (show Kd.S (Kd.slice 3 (Kd.int .i64)) 38 yC w.heap.size (fun k_ => some k_ ≠ (aEb : Value).ownBlock) aNt xq from qi) (show yC.heap[aef]? = some (.cells #[.int .i64 ah, .int .i64 af, .slice aK ae.length aJ] 30 (0, 0)) from qI) (show yC.heap[mP]? = some (.cells #[.int .i64 0, .int .i64 0, .int .i64 0] 54 (0, 0)) from qJ) (show yC.heap[amr]? = some (.cells #[.int .i64 0, .int .i64 0, .slice none 0 0] 30 (0, 0)) from tX) (show Below w.heap.size w yC from xk) ?_
         clear HV lT aaN HB qG qH qi qI qJ tX xk
         intro aik arU asS HV lT aaN HB
         have hHeld : yC.cell? ⟨aef, 0, none⟩ = some (.int .i64 ah) /\ yC.cell? ⟨aef, 1, none⟩ = some (.int .i64 af) /\ yC.cell? ⟨aef, 2, none⟩ = some (.slice aK ae.length aJ) := hS_
         refine eX (a' := ?_) ?_ ?_
         rotate_left
         · simp only [oQ, Act.put, List.setIfInBounds_toArray, List.set_cons_zero, List.set_cons_succ]
           rfl
         refine Tn (i := 9) (j := 10) (Ni := some 6) (Nj := some 7) #[Yy,Yy,Yy,Yy,Yy,Yy,Yy,Yy,Yy,Yy,Zz,Zz,Zz,Zz] #[Yy,Yy,Yy,Yy,Yy,Yy,Yy,Yy,Yy,Zz,Yy,Zz,Zz,Zz] rfl rfl rfl rfl (Ey HT_.1 (by kernel_rfl)) (by decide) (by decide) (fun K hK => ?_) (fun K hK => ?_)
         · skip
           refine ma ?hg (N := 6) ?hd (cs := #[.int .i64 0, .int .i64 0, .int .i64 0]) (t := 54) ?hr ?_; (case hd => rfl); (case hg => rfl); (case hr => first | (go_simp; done) | (go_simp; rfl))
           intro afS hg yJ hbox hb
           refine E16 (rB aik.1 hb) (rB arU.1 hb) (sB asS.1 hb) (bB HV.1 hb) (bB lT.1 hb) (bB aaN.1 hb) (bS HB.1 hb) (hbox) (gX HB.1 hg) (gX HB.1 hg) (nB HV.1 hg) (nC HV.1 hg) (nB lT.1 hg) (nC lT.1 hg) (nB aaN.1 hg) (nC aaN.1 hg) ?_
           clear aik arU asS HV lT aaN HB
           intro aik arU asS HV lT aaN HB anB aDv aDw akC aqY ams amw amD amQ
           clear hb hbox hg
           refine hK.out _ _ ⟨(ai HV.1 0).trans rfl, (ai HV.1 1).trans rfl, (ai HV.1 2).trans rfl⟩ (fun hHeld => ?_)
           clear hK K
           refine eX (a' := ?_) ?_ ?_
           rotate_left
           · show Act.put _ (some 6) _ = _
             simp only [Act.put, List.setIfInBounds_toArray, List.set_cons_zero, List.set_cons_succ, cz, dF]
             rfl
           exact eX NA (WW (aEb, aN7, aNt, afS) _ ⟨hHeld, (PR aik.1), (PR arU.1), (PS asS.1), (PB HV.1), (PB lT.1), (PB aaN.1), (PB anB.1), aDv.1, aDw.1, akC.1, aqY.1, ams.1, amw.1, amD.1, amQ.1, (BL HB.1)⟩)
         skip
         refine ma ?hg (N := 7) ?hd (cs := #[.int .i64 0, .int .i64 0, .slice none 0 0]) (t := 30) ?hr ?_; (case hd => rfl); (case hg => rfl); (case hr => first | (go_simp; done) | (go_simp; rfl))
         intro ahW hg yJ hbox hb
         refine E16 (rB aik.1 hb) (rB arU.1 hb) (sB asS.1 hb) (bB HV.1 hb) (bB lT.1 hb) (bB aaN.1 hb) (bS HB.1 hb) (hbox) (gX HB.1 hg) (gX HB.1 hg) (nB HV.1 hg) (nC HV.1 hg) (nB lT.1 hg) (nC lT.1 hg) (nB aaN.1 hg) (nC aaN.1 hg) ?_
         clear aik arU asS HV lT aaN HB
         intro aik arU asS HV lT aaN HB anQ aDy aDD akE aq0 am1 ank ann anq
         clear hb hbox hg
         refine hK.out _ _ ⟨(ai HV.1 0).trans rfl, (ai HV.1 1).trans rfl, (ai HV.1 2).trans rfl⟩ (fun hHeld => ?_)
         clear hK K
         refine eX (a' := ?_) ?_ ?_
         rotate_left
         · show Act.put _ (some 7) _ = _
           simp only [Act.put, List.setIfInBounds_toArray, List.set_cons_zero, List.set_cons_succ, cz, dF]
           rfl
         exact eX NA (RB (aEb, aN7, aNt, ahW) _ ⟨hHeld, (PR aik.1), (PR arU.1), (PS asS.1), (PB HV.1), (PB lT.1), (PB aaN.1), (PB anQ.1), aDy.1, aDD.1, akE.1, aq0.1, am1.1, ank.1, ann.1, anq.1, (BL HB.1)⟩)
       skip
       rintro ⟨aEb, afS, ahW⟩ yC ⟨hS_, qG, qH, qi, qI, qJ, tX, xk, zk, Ce, IV, vv, vw, vz, zz, Gu, Gv, RD, RH, RI, RJ, RL, RN, RO, RP, acC⟩
       have AV : aa (Kd.R (Kd.int .i64) 3 yC w.heap.size (fun _ => True) aEb Uy) := ⟨qG⟩
       have AX : aa (yC.heap[aef]? = some (.cells #[.int .i64 ah, .int .i64 af, .slice aK ae.length aJ] 30 (0, 0))) := ⟨qH⟩
       have AY : aa (yC.heap[mP]? = some (.cells #[.int .i64 0, .int .i64 0, .int .i64 0] 54 (0, 0))) := ⟨qi⟩
       have AZ : aa (yC.heap[amr]? = some (.cells #[.int .i64 0, .int .i64 0, .slice none 0 0] 30 (0, 0))) := ⟨qI⟩
       have Ed : aa (yC.heap[afS]? = some (.cells #[.int .i64 0, .int .i64 0, .int .i64 0] 54 (0, 0))) := ⟨qJ⟩
       have Ee : aa (yC.heap[ahW]? = some (.cells #[.int .i64 0, .int .i64 0, .slice none 0 0] 30 (0, 0))) := ⟨tX⟩
       have Lt : aa (w.heap.size <= afS) := ⟨xk⟩
       have RA : aa (w.heap.size <= afS) := ⟨zk⟩
       have n8_ : aa (aef ≠ afS) := ⟨Ce⟩
       have n9_ : aa (afS ≠ aef) := ⟨IV⟩
       have RS : aa (mP ≠ afS) := ⟨vv⟩
       have acD : aa (afS ≠ mP) := ⟨vw⟩
       have acE : aa (amr ≠ afS) := ⟨vz⟩
       have acF : aa (afS ≠ amr) := ⟨zz⟩
       have acG : aa (ahW ≠ afS) := ⟨Gu⟩
       have acH : aa (afS ≠ ahW) := ⟨Gv⟩
       have acI : aa (w.heap.size <= ahW) := ⟨RD⟩
       have acJ : aa (w.heap.size <= ahW) := ⟨RH⟩
       have acK : aa (aef ≠ ahW) := ⟨RI⟩
       have acL : aa (ahW ≠ aef) := ⟨RJ⟩
       have acM : aa (mP ≠ ahW) := ⟨RL⟩
       have acN : aa (ahW ≠ mP) := ⟨RN⟩
       have acO : aa (amr ≠ ahW) := ⟨RO⟩
       have acP : aa (ahW ≠ amr) := ⟨RP⟩
       have acQ : aa (Below w.heap.size w yC) := ⟨acC⟩
       clear HV
       clear lT
       clear aaN
       clear HB
       clear qG qH qi qI qJ tX xk zk Ce IV vv vw vz zz Gu Gv RD RH RI RJ RL RN RO RP acC
       have aik := AV
       have HV := AX
       have lT := AY
       have aaN := AZ
       have anB := Ed
       have anQ := Ee
       have aDv := Lt
       have aDw := RA
       have akC := n8_
       have aqY := n9_
       have ams := RS
       have amw := acD
       have amD := acE
       have amQ := acF
       have arc := acG
       have ard := acH
       have aDy := acI
       have aDD := acJ
       have akE := acK
       have aq0 := acL
       have am1 := acM
       have ank := acN
       have ann := acO
       have anq := acP
       have HB := acQ
       clear AV AX AY AZ Ed Ee Lt RA n8_ n9_ RS acD acE acF acG acH acI acJ acK acL acM acN acO acP acQ
       have hHeld : yC.cell? ⟨aef, 0, none⟩ = some (.int .i64 ah) /\ yC.cell? ⟨aef, 1, none⟩ = some (.int .i64 af) /\ yC.cell? ⟨aef, 2, none⟩ = some (.slice aK ae.length aJ) := hS_
       obtain ⟨awn, awo, awp⟩ := bv aik.1
       (first | subst awp | (injection awp with rY zZ rZ; have z8 := rY.symm; have Aa := rZ.symm; clear rY zZ rZ; subst z8; subst Aa))
       refine eX (a' := ?_) ?_ ?_
       rotate_left
       · simp only [oQ, Act.put, List.setIfInBounds_toArray, List.set_cons_zero, List.set_cons_succ]
         rfl
       refine mV (i := 4) (N := some 14) #[Yy,Yy,Yy,Yy,Yy,Zz,Zz,Zz,Zz,Yy,Yy,Zz,Zz,Zz] rfl rfl (jc HT_.1 (by kernel_rfl)) (by decide) (fun K hK => ?_)
       refine nA Try.func84 (by kernel_rfl) rfl #[.agg #[.int .i64 ah, .int .i64 af, .slice aK ae.length aJ], .slice awn Uy.length awo, .int .i64 a1] (by rfl) rfl rfl (by (try simp only [List.map_toArray, List.map_cons, List.map_nil]); first | done | rfl | (simp only [List.length_drop, List.length_take]; rfl)) ?_
       with_reducible refine (bJ.calls k ah af _ _ ae _ _ Uy a1 aGV aIy oH aKg aKH uy xq _ ?side1 ?side2 ?side3 ?side4 A4.1).mono ?_
       (case side1 => exact CB (aY bD.1 HB.1))
       (case side2 => exact cO.1)
       (case side3 => exact CB (ay aik.1).2.2)
       (case side4 => exact (ay aik.1).2.1)
       rintro e yM ⟨aN7, aNt, rfl, ho0, ho1, hb⟩
       refine ⟨_, rfl, ?_⟩
       refine E9 (rB aik.1 hb) (bN ho0 (bZ HB.1)) (lN (BV ho1 (iL (PR aik.1))) (bZ HB.1)) (bB HV.1 hb) (bB lT.1 hb) (bB aaN.1 hb) (bB anB.1 hb) (bB anQ.1 hb) (bS HB.1 hb) ?_
       clear aik HV lT aaN anB anQ HB
       intro aik arU asS HV lT aaN anB anQ HB
       (try clear hb)
       (try clear hb2)
       (try clear hk)
       (try clear hi)
       (try clear ho0)
       (try clear ho1)
       refine hK.out _ _ ⟨(ai HV.1 0).trans rfl, (ai HV.1 1).trans rfl, (ai HV.1 2).trans rfl⟩ (fun hHeld => ?_)
       clear hK K
       refine eX (a' := ?_) ?_ ?_
       rotate_left
       · show Act.put _ (some 14) _ = _
         simp only [Act.put, List.setIfInBounds_toArray, List.set_cons_zero, List.set_cons_succ, cz, dF]
         rfl
       refine aU 5 (N := some 9) HT_.1 ?_
       refine aU 6 (N := some 15) HT_.1 ?_
       refine aU 7 (N := some 16) HT_.1 ?_
       refine aU 8 (N := some 17) HT_.1 ?_
       exact eX NA (EI (.slice awn Uy.length awo, aN7, aNt, afS, ahW) _ ⟨hHeld, (PR aik.1), (PR arU.1), (ES (eY asS.1 (fun _ hk => hk.2))), (PB HV.1), (PB lT.1), (PB aaN.1), (PB anB.1), (PB anQ.1), aDv.1, aDw.1, akC.1, aqY.1, ams.1, amw.1, amD.1, amQ.1, arc.1, ard.1, aDy.1, aDD.1, akE.1, aq0.1, am1.1, ank.1, ann.1, anq.1, (BL HB.1)⟩)
     skip
     rintro ⟨aEb, aN7, aNt, ahW⟩ yJ ⟨hS_, qG, qH, qi, qI, qJ, tX, xk, zk, Ce, IV, vv, vw, vz, zz, Gu, Gv⟩
     refine E16 (show Kd.R (Kd.int .i64) 3 yJ w.heap.size (fun _ => True) aEb Uy from qG) (show Kd.R jZ 83 yJ w.heap.size (fun _ => True) aN7 uy from qH) (show Kd.S (Kd.slice 3 (Kd.int .i64)) 38 yJ w.heap.size (fun k_ => some k_ ≠ (aEb : Value).ownBlock) aNt xq from qi) (show yJ.heap[aef]? = some (.cells #[.int .i64 ah, .int .i64 af, .slice aK ae.length aJ] 30 (0, 0)) from qI) (show yJ.heap[mP]? = some (.cells #[.int .i64 0, .int .i64 0, .int .i64 0] 54 (0, 0)) from qJ) (show yJ.heap[amr]? = some (.cells #[.int .i64 0, .int .i64 0, .slice none 0 0] 30 (0, 0)) from tX) (show yJ.heap[ahW]? = some (.cells #[.int .i64 0, .int .i64 0, .slice none 0 0] 30 (0, 0)) from xk) (show w.heap.size <= ahW from zk) (show w.heap.size <= ahW from Ce) (show aef ≠ ahW from IV) (show ahW ≠ aef from vv) (show mP ≠ ahW from vw) (show ahW ≠ mP from vz) (show amr ≠ ahW from zz) (show ahW ≠ amr from Gu) (show Below w.heap.size w yJ from Gv) ?_
     clear HV lT aaN HB qG qH qi qI qJ tX xk zk Ce IV vv vw vz zz Gu Gv
     intro aik arU asS HV lT aaN anQ aDy aDD akE aq0 am1 ank ann anq HB
     have hHeld : yJ.cell? ⟨aef, 0, none⟩ = some (.int .i64 ah) /\ yJ.cell? ⟨aef, 1, none⟩ = some (.int .i64 af) /\ yJ.cell? ⟨aef, 2, none⟩ = some (.slice aK ae.length aJ) := hS_
     refine eX (a' := ?_) ?_ ?_
     rotate_left
     · simp only [oQ, Act.put, List.setIfInBounds_toArray, List.set_cons_zero, List.set_cons_succ]
       rfl
     refine mV (i := 9) (N := some 6) #[Yy,Yy,Yy,Yy,Yy,Yy,Yy,Yy,Yy,Yy,Yy,Zz,Zz,Zz] rfl rfl (jc HT_.1 (by kernel_rfl)) (by decide) (fun K hK => ?_)
     refine ma ?hg (N := 6) ?hd (cs := #[.int .i64 0, .int .i64 0, .int .i64 0]) (t := 54) ?hr ?_; (case hd => rfl); (case hg => rfl); (case hr => first | (go_simp; done) | (go_simp; rfl))
     intro afS hg yM hbox hb
     refine E19 (rB aik.1 hb) (rB arU.1 hb) (sB asS.1 hb) (bB HV.1 hb) (bB lT.1 hb) (bB aaN.1 hb) (bB anQ.1 hb) (bS HB.1 hb) (hbox) (gX HB.1 hg) (gX HB.1 hg) (nB HV.1 hg) (nC HV.1 hg) (nB lT.1 hg) (nC lT.1 hg) (nB aaN.1 hg) (nC aaN.1 hg) (nB anQ.1 hg) (nC anQ.1 hg) ?_
     clear aik arU asS HV lT aaN anQ HB
     intro aik arU asS HV lT aaN anQ HB anB aDv aDw akC aqY ams amw amD amQ arc ard
     clear hb hbox hg
     refine hK.out _ _ ⟨(ai HV.1 0).trans rfl, (ai HV.1 1).trans rfl, (ai HV.1 2).trans rfl⟩ (fun hHeld => ?_)
     clear hK K
     refine eX (a' := ?_) ?_ ?_
     rotate_left
     · show Act.put _ (some 6) _ = _
       simp only [Act.put, List.setIfInBounds_toArray, List.set_cons_zero, List.set_cons_succ, cz, dF]
       rfl
     exact eX NA (EI (aEb, aN7, aNt, afS, ahW) _ ⟨hHeld, (PR aik.1), (PR arU.1), (PS asS.1), (PB HV.1), (PB lT.1), (PB aaN.1), (PB anB.1), (PB anQ.1), aDv.1, aDw.1, akC.1, aqY.1, ams.1, amw.1, amD.1, amQ.1, arc.1, ard.1, aDy.1, aDD.1, akE.1, aq0.1, am1.1, ank.1, ann.1, anq.1, (BL HB.1)⟩)
   skip
   rintro ⟨aEb, aN7, aNt, afS⟩ yJ ⟨hS_, qG, qH, qi, qI, qJ, tX, xk, zk, Ce, IV, vv, vw, vz, zz, Gu, Gv⟩
   refine E16 (show Kd.R (Kd.int .i64) 3 yJ w.heap.size (fun _ => True) aEb Uy from qG) (show Kd.R jZ 83 yJ w.heap.size (fun _ => True) aN7 uy from qH) (show Kd.S (Kd.slice 3 (Kd.int .i64)) 38 yJ w.heap.size (fun k_ => some k_ ≠ (aEb : Value).ownBlock) aNt xq from qi) (show yJ.heap[aef]? = some (.cells #[.int .i64 ah, .int .i64 af, .slice aK ae.length aJ] 30 (0, 0)) from qI) (show yJ.heap[mP]? = some (.cells #[.int .i64 0, .int .i64 0, .int .i64 0] 54 (0, 0)) from qJ) (show yJ.heap[amr]? = some (.cells #[.int .i64 0, .int .i64 0, .slice none 0 0] 30 (0, 0)) from tX) (show yJ.heap[afS]? = some (.cells #[.int .i64 0, .int .i64 0, .int .i64 0] 54 (0, 0)) from xk) (show w.heap.size <= afS from zk) (show w.heap.size <= afS from Ce) (show aef ≠ afS from IV) (show afS ≠ aef from vv) (show mP ≠ afS from vw) (show afS ≠ mP from vz) (show amr ≠ afS from zz) (show afS ≠ amr from Gu) (show Below w.heap.size w yJ from Gv) ?_
   clear HV lT aaN HB qG qH qi qI qJ tX xk zk Ce IV vv vw vz zz Gu Gv
   intro aik arU asS HV lT aaN anB aDv aDw akC aqY ams amw amD amQ HB
   have hHeld : yJ.cell? ⟨aef, 0, none⟩ = some (.int .i64 ah) /\ yJ.cell? ⟨aef, 1, none⟩ = some (.int .i64 af) /\ yJ.cell? ⟨aef, 2, none⟩ = some (.slice aK ae.length aJ) := hS_
   refine eX (a' := ?_) ?_ ?_
   rotate_left
   · simp only [oQ, Act.put, List.setIfInBounds_toArray, List.set_cons_zero, List.set_cons_succ]
     rfl
   refine mV (i := 10) (N := some 7) #[Yy,Yy,Yy,Yy,Yy,Yy,Yy,Yy,Yy,Yy,Yy,Zz,Zz,Zz] rfl rfl (jc HT_.1 (by kernel_rfl)) (by decide) (fun K hK => ?_)
   refine ma ?hg (N := 7) ?hd (cs := #[.int .i64 0, .int .i64 0, .slice none 0 0]) (t := 30) ?hr ?_; (case hd => rfl); (case hg => rfl); (case hr => first | (go_simp; done) | (go_simp; rfl))
   intro ahW hg yM hbox hb
   refine E19 (rB aik.1 hb) (rB arU.1 hb) (sB asS.1 hb) (bB HV.1 hb) (bB lT.1 hb) (bB aaN.1 hb) (bB anB.1 hb) (bS HB.1 hb) (hbox) (gX HB.1 hg) (gX HB.1 hg) (nB HV.1 hg) (nC HV.1 hg) (nB lT.1 hg) (nC lT.1 hg) (nB aaN.1 hg) (nC aaN.1 hg) (nB anB.1 hg) (nC anB.1 hg) ?_
   clear aik arU asS HV lT aaN anB HB
   intro aik arU asS HV lT aaN anB HB anQ aDy aDD akE aq0 am1 ank ann anq ard arc
   clear hb hbox hg
   refine hK.out _ _ ⟨(ai HV.1 0).trans rfl, (ai HV.1 1).trans rfl, (ai HV.1 2).trans rfl⟩ (fun hHeld => ?_)
   clear hK K
   refine eX (a' := ?_) ?_ ?_
   rotate_left
   · show Act.put _ (some 7) _ = _
     simp only [Act.put, List.setIfInBounds_toArray, List.set_cons_zero, List.set_cons_succ, cz, dF]
     rfl
   exact eX NA (EI (aEb, aN7, aNt, afS, ahW) _ ⟨hHeld, (PR aik.1), (PR arU.1), (PS asS.1), (PB HV.1), (PB lT.1), (PB aaN.1), (PB anB.1), (PB anQ.1), aDv.1, aDw.1, akC.1, aqY.1, ams.1, amw.1, amD.1, amQ.1, arc.1, ard.1, aDy.1, aDD.1, akE.1, aq0.1, am1.1, ank.1, ann.1, anq.1, (BL HB.1)⟩)
 rintro ⟨aEb, aN7, aNt, afS, ahW⟩ yM ⟨hS_, qG, qH, qi, qI, qJ, tX, xk, zk, Ce, IV, vv, vw, vz, zz, Gu, Gv, RD, RH, RI, RJ, RL, RN, RO, RP, acC, awq, awr⟩
 have AV : aa (Kd.R (Kd.int .i64) 3 yM w.heap.size (fun _ => True) aEb Uy) := ⟨qG⟩
 have AX : aa (Kd.R jZ 83 yM w.heap.size (fun _ => True) aN7 uy) := ⟨qH⟩
 have AY : aa (Kd.S (Kd.slice 3 (Kd.int .i64)) 38 yM w.heap.size (fun k_ => some k_ ≠ (aEb : Value).ownBlock) aNt xq) := ⟨qi⟩
 have AZ : aa (yM.heap[aef]? = some (.cells #[.int .i64 ah, .int .i64 af, .slice aK ae.length aJ] 30 (0, 0))) := ⟨qI⟩
 have Ed : aa (yM.heap[mP]? = some (.cells #[.int .i64 0, .int .i64 0, .int .i64 0] 54 (0, 0))) := ⟨qJ⟩
 have Ee : aa (yM.heap[amr]? = some (.cells #[.int .i64 0, .int .i64 0, .slice none 0 0] 30 (0, 0))) := ⟨tX⟩
 have Lt : aa (yM.heap[afS]? = some (.cells #[.int .i64 0, .int .i64 0, .int .i64 0] 54 (0, 0))) := ⟨xk⟩
 have RA : aa (yM.heap[ahW]? = some (.cells #[.int .i64 0, .int .i64 0, .slice none 0 0] 30 (0, 0))) := ⟨zk⟩
 have n8_ : aa (w.heap.size <= afS) := ⟨Ce⟩
 have n9_ : aa (w.heap.size <= afS) := ⟨IV⟩
 have RS : aa (aef ≠ afS) := ⟨vv⟩
 have acD : aa (afS ≠ aef) := ⟨vw⟩
 have acE : aa (mP ≠ afS) := ⟨vz⟩
 have acF : aa (afS ≠ mP) := ⟨zz⟩
 have acG : aa (amr ≠ afS) := ⟨Gu⟩
 have acH : aa (afS ≠ amr) := ⟨Gv⟩
 have acI : aa (ahW ≠ afS) := ⟨RD⟩
 have acJ : aa (afS ≠ ahW) := ⟨RH⟩
 have acK : aa (w.heap.size <= ahW) := ⟨RI⟩
 have acL : aa (w.heap.size <= ahW) := ⟨RJ⟩
 have acM : aa (aef ≠ ahW) := ⟨RL⟩
 have acN : aa (ahW ≠ aef) := ⟨RN⟩
 have acO : aa (mP ≠ ahW) := ⟨RO⟩
 have acP : aa (ahW ≠ mP) := ⟨RP⟩
 have acQ : aa (amr ≠ ahW) := ⟨acC⟩
 have aws : aa (ahW ≠ amr) := ⟨awq⟩
 have awt : aa (Below w.heap.size w yM) := ⟨awr⟩
 clear HV
 clear lT
 clear aaN
 clear HB
 clear qG qH qi qI qJ tX xk zk Ce IV vv vw vz zz Gu Gv RD RH RI RJ RL RN RO RP acC awq awr
 have aik := AV
 have arU := AX
 have asS := AY
 have HV := AZ
 have lT := Ed
 have aaN := Ee
 have anB := Lt
 have anQ := RA
 have aDv := n8_
 have aDw := n9_
 have akC := RS
 have aqY := acD
 have ams := acE
 have amw := acF
 have amD := acG
 have amQ := acH
 have arc := acI
 have ard := acJ
 have aDy := acK
 have aDD := acL
 have akE := acM
 have aq0 := acN
 have am1 := acO
 have ank := acP
 have ann := acQ
 have anq := aws
 have HB := awt
 clear AV AX AY AZ Ed Ee Lt RA n8_ n9_ RS acD acE acF acG acH acI acJ acK acL acM acN acO acP acQ aws awt
 have hHeld : yM.cell? ⟨aef, 0, none⟩ = some (.int .i64 ah) /\ yM.cell? ⟨aef, 1, none⟩ = some (.int .i64 af) /\ yM.cell? ⟨aef, 2, none⟩ = some (.slice aK ae.length aJ) := hS_
 obtain ⟨Rv, Ch, agc⟩ := bv arU.1
 (first | subst agc | (injection agc with rY zZ rZ; have z8 := rY.symm; have Aa := rZ.symm; clear rY zZ rZ; subst z8; subst Aa))
 refine eX (a' := ?_) ?_ ?_
 rotate_left
 · simp only [oQ, Act.put, List.setIfInBounds_toArray, List.set_cons_zero, List.set_cons_succ]
   rfl
 refine mV (i := 11) (N := none) #[Yy,Yy,Yy,Yy,Yy,Yy,Yy,Yy,Yy,Yy,Yy,Yy,Zz,Zz] rfl rfl (jc HT_.1 (by kernel_rfl)) (by decide) (fun K hK => ?_)
 obtain ⟨aPP, aPQ, aPR, aLU, aLV, aLW⟩ := gB anB.1
 have aAY := akC.1
 have aAZ := ams.1
 have aA0 := amD.1
 have aA1 := arc.1
 have aA2 := aqY.1
 have aA3 := amw.1
 have aA4 := amQ.1
 have aA5 := ard.1
 refine pF (w1 := ?_) (by rfl) rfl ?_ ?_
 rotate_left
 · go_simp
   rfl
 refine hK.out _ _ ⟨(rP akC.1 hHeld.1), (rP akC.1 hHeld.2.1), (rP akC.1 hHeld.2.2)⟩ (fun hHeld => ?_)
 clear hK K
 refine mV (i := 12) (N := none) #[Yy,Yy,Yy,Yy,Yy,Yy,Yy,Yy,Yy,Yy,Yy,Yy,Yy,Zz] rfl rfl (jc HT_.1 (by kernel_rfl)) (by decide) (fun K hK => ?_)
 obtain ⟨aPS, aPT, aPU, aLX, aLY, aLZ⟩ := gB anQ.1
 have aA6 := akE.1
 have aA7 := am1.1
 have aA8 := ann.1
 have aA9 := aq0.1
 have aBa := ank.1
 have aBb := anq.1
 refine pF (w1 := ?_) (by rfl) rfl ?_ ?_
 rotate_left
 · go_simp
   rfl
 refine hK.out _ _ ⟨(rP akE.1 hHeld.1), (rP akE.1 hHeld.2.1), (rP akE.1 hHeld.2.2)⟩ (fun hHeld => ?_)
 clear hK K
 refine aU 13 (N := some 8) HT_.1 ?_
 refine lI (jS HT_.1 (by kernel_rfl)) ?_
 try go_wp2
 have n_ : (fun BM : World => (Kd.R (Kd.int .i64) 3 BM w.heap.size (fun _ => True) aEb Uy) /\ (Kd.R jZ 83 BM w.heap.size (fun _ => True) (.slice Rv uy.length Ch) uy) /\ (Kd.S (Kd.slice 3 (Kd.int .i64)) 38 BM w.heap.size (fun k_ => some k_ ≠ (aEb : Value).ownBlock) aNt xq) /\ (BM.heap[aef]? = some (.cells #[.int .i64 ah, .int .i64 af, .slice aK ae.length aJ] 30 (0, 0))) /\ (BM.heap[mP]? = some (.cells #[.int .i64 0, .int .i64 0, .int .i64 0] 54 (0, 0))) /\ (BM.heap[amr]? = some (.cells #[.int .i64 0, .int .i64 0, .slice none 0 0] 30 (0, 0))) /\ (BM.heap[afS]? = some (.cells #[.int .i64 aGV, .int .i64 aIy, .int .i64 oH] 54 (0, 0))) /\ (BM.heap[ahW]? = some (.cells #[.int .i64 aKg, .int .i64 aKH, .slice Rv uy.length Ch] 30 (0, 0))) /\ (Below w.heap.size w BM)) ((((((yM.setCell ⟨afS, 0, none⟩ (.int .i64 aGV)).setCell ⟨afS, 1, none⟩ (.int .i64 aIy)).setCell ⟨afS, 2, none⟩ (.int .i64 oH)).setCell ⟨ahW, 0, none⟩ (.int .i64 aKg)).setCell ⟨ahW, 1, none⟩ (.int .i64 aKH)).setCell ⟨ahW, 2, none⟩ (.slice Rv uy.length Ch)) := ⟨by (with_reducible repeat (first | apply aV | apply aW | apply aQ)); exact aG (RQ ahW 2 (RQ ahW 1 (RQ ahW 0 (mY (p := ⟨afS, 2, none⟩) (mY (p := ⟨afS, 1, none⟩) (mY (p := ⟨afS, 0, none⟩) (bz (bz aik.1 anB.1 (by decide)) anQ.1 (by decide)) (fun _ hk => hk.1.2) (.int .i64 aGV)) (fun _ hk => hk.1.2) (.int .i64 aIy)) (fun _ hk => hk.1.2) (.int .i64 oH)) _) _) _) (fun _ hk => trivial), by (with_reducible repeat (first | apply aV | apply aW | apply aQ)); exact aG (RQ ahW 2 (RQ ahW 1 (RQ ahW 0 (mY (p := ⟨afS, 2, none⟩) (mY (p := ⟨afS, 1, none⟩) (mY (p := ⟨afS, 0, none⟩) (bz (bz arU.1 anB.1 (by decide)) anQ.1 (by decide)) (fun _ hk => hk.1.2) (.int .i64 aGV)) (fun _ hk => hk.1.2) (.int .i64 aIy)) (fun _ hk => hk.1.2) (.int .i64 oH)) _) _) _) (fun _ hk => trivial), by (with_reducible repeat (first | apply jF | apply jG | apply iV)); exact eY (SQ ahW 2 (SQ ahW 1 (SQ ahW 0 (xR (p := ⟨afS, 2, none⟩) (xR (p := ⟨afS, 1, none⟩) (xR (p := ⟨afS, 0, none⟩) (kG (kG asS.1 anB.1 (by decide)) anQ.1 (by decide)) (fun _ hk => hk.1.2) (.int .i64 aGV)) (fun _ hk => hk.1.2) (.int .i64 aIy)) (fun _ hk => hk.1.2) (.int .i64 oH)) _) _) _) (fun _ hk => hk.1.1), by (with_reducible repeat (first | refine ak ?_ _ | refine ag ?_ | refine au ?_ _)); refine bu ?_ akE.1 _; (with_reducible repeat (first | refine ak ?_ _ | refine ag ?_ | refine au ?_ _)); refine bu ?_ akE.1 _; (with_reducible repeat (first | refine ak ?_ _ | refine ag ?_ | refine au ?_ _)); refine bu ?_ akE.1 _; (with_reducible repeat (first | refine ak ?_ _ | refine ag ?_ | refine au ?_ _)); refine bu ?_ akC.1 _; (with_reducible repeat (first | refine ak ?_ _ | refine ag ?_ | refine au ?_ _)); refine bu ?_ akC.1 _; (with_reducible repeat (first | refine ak ?_ _ | refine ag ?_ | refine au ?_ _)); refine bu ?_ akC.1 _; (with_reducible repeat (first | refine ak ?_ _ | refine ag ?_ | refine au ?_ _)); exact HV.1, by (with_reducible repeat (first | refine ak ?_ _ | refine ag ?_ | refine au ?_ _)); refine bu ?_ am1.1 _; (with_reducible repeat (first | refine ak ?_ _ | refine ag ?_ | refine au ?_ _)); refine bu ?_ am1.1 _; (with_reducible repeat (first | refine ak ?_ _ | refine ag ?_ | refine au ?_ _)); refine bu ?_ am1.1 _; (with_reducible repeat (first | refine ak ?_ _ | refine ag ?_ | refine au ?_ _)); refine bu ?_ ams.1 _; (with_reducible repeat (first | refine ak ?_ _ | refine ag ?_ | refine au ?_ _)); refine bu ?_ ams.1 _; (with_reducible repeat (first | refine ak ?_ _ | refine ag ?_ | refine au ?_ _)); refine bu ?_ ams.1 _; (with_reducible repeat (first | refine ak ?_ _ | refine ag ?_ | refine au ?_ _)); exact lT.1, by (with_reducible repeat (first | refine ak ?_ _ | refine ag ?_ | refine au ?_ _)); refine bu ?_ ann.1 _; (with_reducible repeat (first | refine ak ?_ _ | refine ag ?_ | refine au ?_ _)); refine bu ?_ ann.1 _; (with_reducible repeat (first | refine ak ?_ _ | refine ag ?_ | refine au ?_ _)); refine bu ?_ ann.1 _; (with_reducible repeat (first | refine ak ?_ _ | refine ag ?_ | refine au ?_ _)); refine bu ?_ amD.1 _; (with_reducible repeat (first | refine ak ?_ _ | refine ag ?_ | refine au ?_ _)); refine bu ?_ amD.1 _; (with_reducible repeat (first | refine ak ?_ _ | refine ag ?_ | refine au ?_ _)); refine bu ?_ amD.1 _; (with_reducible repeat (first | refine ak ?_ _ | refine ag ?_ | refine au ?_ _)); exact aaN.1, by (with_reducible repeat (first | refine ak ?_ _ | refine ag ?_ | refine au ?_ _)); refine bu ?_ ard.1 _; (with_reducible repeat (first | refine ak ?_ _ | refine ag ?_ | refine au ?_ _)); refine bu ?_ ard.1 _; (with_reducible repeat (first | refine ak ?_ _ | refine ag ?_ | refine au ?_ _)); refine bu ?_ ard.1 _; (with_reducible repeat (first | refine ak ?_ _ | refine ag ?_ | refine au ?_ _)); refine gy (cs := #[.int .i64 aGV, .int .i64 aIy, .int .i64 0]) ?_ 2 _ rfl; (with_reducible repeat (first | refine ak ?_ _ | refine ag ?_ | refine au ?_ _)); refine gy (cs := #[.int .i64 aGV, .int .i64 0, .int .i64 0]) ?_ 1 _ rfl; (with_reducible repeat (first | refine ak ?_ _ | refine ag ?_ | refine au ?_ _)); refine gy (cs := #[.int .i64 0, .int .i64 0, .int .i64 0]) ?_ 0 _ rfl; (with_reducible repeat (first | refine ak ?_ _ | refine ag ?_ | refine au ?_ _)); exact anB.1, by (with_reducible repeat (first | refine ak ?_ _ | refine ag ?_ | refine au ?_ _)); refine gy (cs := #[.int .i64 aKg, .int .i64 aKH, .slice none 0 0]) ?_ 2 _ rfl; (with_reducible repeat (first | refine ak ?_ _ | refine ag ?_ | refine au ?_ _)); refine gy (cs := #[.int .i64 aKg, .int .i64 0, .slice none 0 0]) ?_ 1 _ rfl; (with_reducible repeat (first | refine ak ?_ _ | refine ag ?_ | refine au ?_ _)); refine gy (cs := #[.int .i64 0, .int .i64 0, .slice none 0 0]) ?_ 0 _ rfl; (with_reducible repeat (first | refine ak ?_ _ | refine ag ?_ | refine au ?_ _)); refine bu ?_ arc.1 _; (with_reducible repeat (first | refine ak ?_ _ | refine ag ?_ | refine au ?_ _)); refine bu ?_ arc.1 _; (with_reducible repeat (first | refine ak ?_ _ | refine ag ?_ | refine au ?_ _)); refine bu ?_ arc.1 _; (with_reducible repeat (first | refine ak ?_ _ | refine ag ?_ | refine au ?_ _)); exact anQ.1, BL HB.1⟩
 (try clear aik)
 (try clear arU)
 (try clear asS)
 (try clear HV)
 (try clear lT)
 (try clear aaN)
 (try clear anB)
 (try clear anQ)
 (try clear HB)
 generalize ((((((yM.setCell ⟨afS, 0, none⟩ (.int .i64 aGV)).setCell ⟨afS, 1, none⟩ (.int .i64 aIy)).setCell ⟨afS, 2, none⟩ (.int .i64 oH)).setCell ⟨ahW, 0, none⟩ (.int .i64 aKg)).setCell ⟨ahW, 1, none⟩ (.int .i64 aKH)).setCell ⟨ahW, 2, none⟩ (.slice Rv uy.length Ch)) = BM at n_ ⊢
 obtain ⟨qG, qH, qi, qI, qJ, tX, xk, zk, Ce⟩ := n_
 refine E9 qG qH qi qI qJ tX xk zk Ce ?_
 clear qG qH qi qI qJ tX xk zk Ce
 intro aik arU asS HV lT aaN anB anQ HB
 refine E9 (aQ aik.1) (aQ arU.1) (iV asS.1) (ag HV.1) (ag lT.1) (ag aaN.1) (ag anB.1) (ag anQ.1) (dm HB.1) ?_
 clear aik arU asS HV lT aaN anB anQ HB
 intro aik arU asS HV lT aaN anB anQ HB
 refine jN (n := 4) (S := fun w' => w'.cell? ⟨afS, 0, none⟩ = some (.int .i64 aGV) /\ w'.cell? ⟨afS, 1, none⟩ = some (.int .i64 aIy) /\ w'.cell? ⟨afS, 2, none⟩ = some (.int .i64 oH) /\ w'.cell? ⟨ahW, 0, none⟩ = some (.int .i64 aKg) /\ w'.cell? ⟨ahW, 1, none⟩ = some (.int .i64 aKH) /\ w'.cell? ⟨ahW, 2, none⟩ = some (.slice Rv uy.length Ch)) (ds := []) #[Zz,Zz,Zz,Zz] (by kernel_rfl) rfl rfl ⟨(ai anB.1 0).trans rfl, (ai anB.1 1).trans rfl, (ai anB.1 2).trans rfl, (ai anQ.1 0).trans rfl, (ai anQ.1 1).trans rfl, (ai anQ.1 2).trans rfl⟩ (fun hHeld => ?_)
 generalize BM.drew = w23 at aik arU asS HV lT aaN anB anQ HB hHeld ⊢
 refine xQ 0 (N := some 18) hHeld ?_
 refine xQ 1 (N := some 19) hHeld ?_
 refine mV (i := 2) (N := none) #[Yy,Yy,Yy,Zz] rfl rfl (by kernel_rfl) (by decide) (fun K hK => ?_)
 obtain ⟨aPV, aPW, aFr, aL0, aL1, auL⟩ := gB lT.1
 have aBc := aYi.1
 have aBd := aUf.1
 have aBe := aYj.1
 have aBf := aUe.1
 refine pF (w1 := ?_) (by rfl) rfl ?_ ?_
 rotate_left
 · go_simp
   rfl
 refine hK.out _ _ ⟨(rP amw.1 hHeld.1), (rP amw.1 hHeld.2.1), (rP amw.1 hHeld.2.2.1), (rP ank.1 hHeld.2.2.2.1), (rP ank.1 hHeld.2.2.2.2.1), (rP ank.1 hHeld.2.2.2.2.2)⟩ (fun hHeld => ?_)
 clear hK K
 refine mV (i := 3) (N := none) #[Yy,Yy,Yy,Yy] rfl rfl (by kernel_rfl) (by decide) (fun K hK => ?_)
 obtain ⟨auB, auC, aFn, ajK, ajL, auD⟩ := gB aaN.1
 have aBg := aYk.1
 have aBh := aYl.1
 refine pF (w1 := ?_) (by rfl) rfl ?_ ?_
 rotate_left
 · go_simp
   rfl
 refine hK.out _ _ ⟨(rP amQ.1 hHeld.1), (rP amQ.1 hHeld.2.1), (rP amQ.1 hHeld.2.2.1), (rP anq.1 hHeld.2.2.2.1), (rP anq.1 hHeld.2.2.2.2.1), (rP anq.1 hHeld.2.2.2.2.2)⟩ (fun hHeld => ?_)
 clear hK K
 refine lI (by kernel_rfl) ?_
 try go_wp2
 refine bodyPost_ret (Tf rfl _ _ mP amr 54 30 #[.int .i64 aGV, .int .i64 aIy, .int .i64 oH] #[.int .i64 aKg, .int .i64 aKH, .slice Rv uy.length Ch] (0, 0) (0, 0) _ _ rfl (xB aUe.1 lT.1) Try.underlying54 rfl (by kernel_rfl) rfl (xB aUf.1 aaN.1) Try.underlying30 rfl (by kernel_rfl)) rfl ?_
 exact ⟨_, RF, by (with_reducible repeat (first | apply aV | apply aW | apply aQ)); exact aG (RQ amr 2 (RQ amr 1 (RQ amr 0 (mY (p := ⟨mP, 2, none⟩) (mY (p := ⟨mP, 1, none⟩) (mY (p := ⟨mP, 0, none⟩) (bz (bz arU.1 lT.1 (by decide)) aaN.1 (by decide)) (fun _ hk => hk.1.2) (.int .i64 aGV)) (fun _ hk => hk.1.2) (.int .i64 aIy)) (fun _ hk => hk.1.2) (.int .i64 oH)) _) _) _) (fun _ hk => trivial), BL HB.1⟩

def dn.l0 : Nat -> List Int -> Int -> Int -> Int -> Int -> List (fq) -> Option ((List (fq)))
 | 0, _, _, _, _, _, _ => none
 | k + 1, x6, x7, x8, a0V, a0W, aSg => if x8 < x7 then (if 0 <= x8 then (if x8 < (x6.length : Int) then (if 0 <= (rd x6 x8) then (if (rd x6 x8) < (aSg.length : Int) then ((kR.f ((aj aSg (rd x6 x8)).f0) ((aj aSg (rd x6 x8)).f1)).bind fun a2J => (dn.l0 k x6 x7 (wrap64 (x8 + 1)) a0V a0W (aSg.set ((rd x6 x8) : Int).toNat (⟨a2J.1, a2J.2⟩ : fq)))) else (none)) else (none)) else (none)) else (none)) else (some aSg)
def dn.f (k : Nat) (ah : Int) (af : Int) (ae : List (fq)) (l1 : List Int) : Option ((List (fq))) := dn.l0 k l1 (l1.length : Int) 0 ah af ae
theorem dn.mono_l : ∀ k, (∀ y0 y1 y2 y3 y4 y5, dO (dn.l0 k y0 y1 y2 y3 y4 y5) (dn.l0 (k + 1) y0 y1 y2 y3 y4 y5))
 | 0 => fun _ _ _ _ _ _ r h => by simp [dn.l0] at h
 | k + 1 => by
  have ja := dn.mono_l k
  intros
  first | unfold dn.l0
  exact BA ja
theorem dn.mono : ∀ a0 a1 a2 a3 k, dO (dn.f k a0 a1 a2 a3) (dn.f (k + 1) a0 a1 a2 a3) := by
 intro a0 a1 a2 a3 k
 have ja := dn.mono_l k
 unfold dn.f
 exact BA ja
def dn.T4 : Bool × List (List Nat × List Nat) := (true, [([], []), ([0], [0]), ([], []), ([], []), ([3], [3]), ([], []), ([4, 5], [4, 5]), ([6], [6]), ([7], [7]), ([1, 2, 0, 1, 2, 3, 4, 5, 6, 7, 8], [1, 2]), ([9, 8, 8, 0, 1, 2, 3, 4, 5, 6, 7, 8], [8, 9])])
def dn.B4 : List Nat := [0, 1, 0, 0, 8, 0, 56, 120, 248, 511, 1023]
theorem dn.RU : mX .any (opsOf Try.f98 4) = dn.T4 := by kernel_rfl
theorem dn.bits4 : kr dn.T4.2 dn.B4 = true := by kernel_rfl
theorem dn.calls (k : Nat) (ah : Int) (af : Int) (cu : Nat -> Prop) (iH : Value) (ae : List (fq)) (A1 : Option Addr) (c1 : Nat) (l1 : List Int) (r : List (fq)) (w0 w : World) (hB : Below w0.heap.size w0 w) (BN : Kd.R jZ 83 w w0.heap.size cu iH ae) (hr1 : ∀ W_, Kept w W_ (fun k_ => cu k_) -> Kd.C (Kd.int .i64) W_ A1 l1.length l1) (hc1 : l1.length <= c1) (h : dn.f k ah af ae l1 = some r) :
 Calls Try.prog 98 #[.agg #[.int .i64 ah, .int .i64 af, iH], .slice A1 l1.length c1] w fun e w' => e = .returned (.tuple #[]) /\ Kd.R jZ 83 w' w0.heap.size (fun k_ => (cu k_ ∨ w.heap.size <= k_)) iH r /\ Below w0.heap.size w0 w' /\ Kept w w' (fun k_ => cu k_) := by
 have nH := Try.underlying30
 have xE := Try.underlying83
 have fB := aa.mk (show Kd.R jZ 83 w w0.heap.size (fun k_ => (cu k_ ∨ w.heap.size <= k_)) iH ae from aG BN (fun k_ hk => (.inl hk)))
 have HR1 := aa.mk hr1
 have vD := aa.mk hc1
 clear hr1 hc1
 have HK := aa.mk (Kept.refl w (fun k_ => cu k_))
 have HW0 := aa.mk hB.size
 have HB := aa.mk hB
 clear hB
 have H := h
 clear h
 unfold dn.f at H
 have H' := aa.mk H
 clear H
 obtain ⟨Ao3, co3, eo3⟩ := bv fB.1
 subst eo3
 go_enter Try.func98, Try.ntmps98
 go_wp2_with (first | ((with_reducible refine aC (N := 2) rfl ?_); refine dN (cs := #[.int .i64 ah, .int .i64 af, .slice Ao3 ae.length co3]) (t := 30) ?_; intro aUg hg w4 hbox hb; refine E6 (rB fB.1 hb) (Kept.below (S := (fun k_ => cu k_)) (KL HK.1) hb) (bS HB.1 hb) (hbox) ((by rw [hg]; exact (by first | exact HK.1.1 | exact (show Kept w _ (fun k_ => cu k_) from KL HK.1).1) : w.heap.size <= aUg)) (Qm hg (bZ HB.1) : w0.heap.size <= aUg) ?_; clear fB HK HB; intro fB HK HB aFI a9d beD; clear hb hbox hg))
 go_loopg [8] k (fun kq v8 w' => ∃ (d9 : Int) (arq : List (fq)), v8 = .int .i64 d9 /\ aa (dn.l0 kq l1 (l1.length : Int) d9 ah af arq = some r) /\ aa (kq <= k) /\ aa (Kd.R jZ 83 w' w0.heap.size (fun k_ => (cu k_ ∨ w.heap.size <= k_)) (.slice Ao3 ae.length co3) arq) /\ aa (w'.heap[aUg]? = some (.cells #[.int .i64 ah, .int .i64 af, (.slice Ao3 ae.length co3)] 30 (0, 0))) /\ aa (Kept w w' (fun k_ => cu k_)) /\ aa (Below w0.heap.size w0 w'))
 case atStart => exact ⟨(0), (ae), RG, H', ⟨Nat.le_refl _⟩, ⟨PR fB.1⟩, ⟨PB aFI.1⟩, ⟨KL HK.1⟩, ⟨BL HB.1⟩⟩
 clear H'
 try clear c1
 obtain ⟨d9, arq, rfl, HA, iB, HO_317002, aFI, HK, HB⟩ := hrel
 have aEs := (ay HO_317002.1).1
 rw [aEs] at HO_317002
 (try simp only [aEs])
 (try simp only [aEs] at aFI)
 cases gk with
 | zero => exact absurd HA.1 (by simp [dn.l0])
 | succ k1 => ?_
 have H := HA.1
 clear HA
 simp only [dn.l0] at H
 replace H := pu H; rcases H with ⟨c5b0, H⟩ | ⟨c5b0, H⟩
 · replace H := ji H; obtain ⟨c6b0, H⟩ := H
   replace H := ji H; obtain ⟨c7b0, H⟩ := H
   replace H := ji H; obtain ⟨c8b0, H⟩ := H
   replace H := ji H; obtain ⟨c9b0, H⟩ := H
   replace H := dz H; obtain ⟨⟨aZh, aZi⟩, A10, H⟩ := H
   dsimp only at H
   generalize a2K : ((arq.set ((rd l1 d9) : Int).toNat (⟨aZh, aZi⟩ : fq)) : List (fq)) = bb9 at H
   have a9e := aa.mk a2K.symm; clear a2K
   have H' := aa.mk H
   clear H
   have a5w : 0 <= (d9 : Int) := OD
   have a5x : d9 < (l1.length : Int) := OD
   obtain ⟨beE, e317, bao⟩ := Kd.dx (kY HR1.1 HK.1) d9 a5w a5x
   cases e317
   replace a5w := eq_true a5w
   replace a5x := eq_true a5x
   try go_wp2
   refine E4 (aQ HO_317002.1) (ag aFI.1) (Kept.drew HK.1) (dm HB.1) ?_
   clear HO_317002 aFI HK HB
   intro HO_317002 aFI HK HB
   have a5y : 0 <= ((rd l1 d9) : Int) := OD
   have a5z : (rd l1 d9) < (arq.length : Int) := OD
   obtain ⟨aXk, e318, aUI, aUJ⟩ := iP (ay HO_317002.1).2.2 (rd l1 d9) a5y a5z
   cases e318
   replace a5y := eq_true a5y
   replace a5z := eq_true a5z
   refine jN (n := 11) (S := fun w' => w'.cell? ⟨aUg, 0, none⟩ = some (.int .i64 ah) /\ w'.cell? ⟨aUg, 1, none⟩ = some (.int .i64 af) /\ w'.cell? ⟨aUg, 2, none⟩ = some (.slice (some aXk) arq.length co3) /\ w'.cell? (aXk.add (((rd l1 d9)).toNat * 2)) = some (.int .i64 ((aj arq (rd l1 d9)).f0)) /\ w'.cell? ⟨(aXk.add (((rd l1 d9)).toNat * 2)).block, (aXk.add (((rd l1 d9)).toNat * 2)).off + 1, none⟩ = some (.int .i64 ((aj arq (rd l1 d9)).f1))) (ds := [10]) #[Zz,Zz,Zz,Zz,Zz,Zz,Zz,Zz,Zz,Zz,Zz] (by kernel_rfl) rfl rfl ⟨(ai aFI.1 0).trans rfl, (ai aFI.1 1).trans rfl, (ai aFI.1 2).trans rfl, aUI, aUJ⟩ (fun hHeld => ?_); refine iq dn.RU dn.bits4 (fun HT_ HW_ => ?_)
   generalize wr.drew = yC at HO_317002 aFI HK HB aUI aUJ hHeld ⊢
   refine aU 0 (N := some 12) HT_.1 ?_
   refine aU 2 (N := some 14) HT_.1 ?_
   refine aU 3 (N := some 15) HT_.1 ?_
   refine aU 5 (N := some 17) HT_.1 ?_
   refine gF 1 (N := some 13) HT_.1 HW_.1 hHeld ?_
   refine gF 4 (N := some 16) HT_.1 HW_.1 hHeld ?_
   refine aU 6 (N := some 18) HT_.1 ?_
   refine gF 7 (N := some 19) HT_.1 HW_.1 hHeld ?_
   refine mV (i := 8) (N := some 20) #[Yy,Yy,Yy,Yy,Yy,Yy,Yy,Yy,Yy,Zz,Zz] rfl rfl (jc HT_.1 (by kernel_rfl)) (by decide) (fun K hK => ?_)
   refine nA Try.func101 (by kernel_rfl) rfl #[.agg #[.int .i64 ((aj arq (rd l1 d9)).f0), .int .i64 ((aj arq (rd l1 d9)).f1)]] (by rfl) rfl rfl (by (try simp only [List.map_toArray, List.map_cons, List.map_nil]); first | done | rfl | (simp only [List.length_drop, List.length_take]; rfl)) ?_
   with_reducible refine (kR.calls ((aj arq (rd l1 d9)).f0) ((aj arq (rd l1 d9)).f1) aZh aZi _ A10.1).mono ?_
   rintro e yJ ⟨rfl, hb⟩
   have xF := (hb.cell (World.block_lt_of_cell? _ _ (hHeld.2.2.2.1))).trans (hHeld.2.2.2.1)
   have afk := (hb.cell (World.block_lt_of_cell? _ _ (hHeld.2.2.2.2))).trans (hHeld.2.2.2.2)
   refine ⟨_, rfl, ?_⟩
   refine E4 (rB HO_317002.1 hb) (bB aFI.1 hb) (Kept.below (S := (fun k_ => cu k_)) (KL HK.1) hb) (bS HB.1 hb) ?_
   clear HO_317002 aFI HK HB
   intro HO_317002 aFI HK HB
   (try clear hb)
   (try clear hb2)
   (try clear hk)
   (try clear hi)
   have p11 : 0 <= ((rd l1 d9) : Int) := OD
   have q11 : ((rd l1 d9) : Int) < ((arq.length : Int) : Int) := OD
   obtain ⟨Ze, sM, TP, aww, aGz, aPY, awx⟩ := mQ HO_317002.1 (by omega)
   (first | cases TP | (injection TP with ea_ en_ ec_; (first | subst ea_ | (injection ea_ with ea_; subst ea_)); subst ec_; clear en_))
   have aPZ := aa.mk aww
   have aP0 := aa.mk awx
   clear aww aGz awx
   have HMgo11 := aa.mk (show (cu Ze ∨ w.heap.size <= Ze) from (HO_317002.1.1 _ rfl))
   (first | simp only [add_plain] at aUI | skip)
   (first | simp only [add_plain] at aUJ | skip)
   obtain ⟨aP1, awy, awz, acT, acU⟩ := nz HO_317002.1 z83 ((rd l1 d9) : Int) p11 q11
   obtain rfl := jY awz
   have aGA : World.cell? _ ⟨Ze, ((rd l1 d9) : Int).toNat * 2, none⟩ = some (.int .i64 ((aj arq (rd l1 d9)).f0)) := acT 0 _ rfl
   have aGB : World.cell? _ ⟨Ze, ((rd l1 d9) : Int).toNat * 2 + 1, none⟩ = some (.int .i64 ((aj arq (rd l1 d9)).f1)) := acT 1 _ rfl
   have aGC : World.frozen? _ ⟨Ze, ((rd l1 d9) : Int).toNat * 2, none⟩ = false := acU 0
   have aGD : World.frozen? _ ⟨Ze, ((rd l1 d9) : Int).toNat * 2 + 1, none⟩ = false := acU 1
   (try clear awz); clear awy acT acU
   replace p11 := eq_true p11
   replace q11 := eq_true q11
   obtain ⟨aP2, akP, awC, akQ, awD⟩ := nz HO_317002.1 z83 ((rd l1 d9) : Int) (OD) (by have h_ : ((rd l1 d9) : Int) < ((arq.length : Int) : Int) := OD; first | exact h_ | (have e_ := (ay HO_317002.1).1; omega) | simpa using h_)
   obtain rfl := jY awC
   have apb := (DZ HO_317002.1 ((rd l1 d9) : Int) (OD) (by have h_ : ((rd l1 d9) : Int) < ((arq.length : Int) : Int) := OD; first | exact h_ | (have e_ := (ay HO_317002.1).1; omega) | simpa using h_) (seg := [.int .i64 aZh, .int .i64 aZi]) (j := 0) akP akQ (show 2 <= 2 from by decide) (x' := (⟨aZh, aZi⟩ : fq)) (uE _ _ _ (⟨aZh, aZi⟩ : fq) ) (fun _ hk => hk)).1
   rw [<- a9e.1] at apb
   have aGE := aa.mk apb
   (try clear awC); clear akP akQ awD apb
   refine hK.out _ _ ⟨(ai aFI.1 0).trans rfl, (ai aFI.1 1).trans rfl, (ai aFI.1 2).trans rfl, xF, afk⟩ (fun hHeld => ?_)
   clear hK K
   refine eX (a' := ?_) ?_ ?_
   rotate_left
   · show Act.put _ (some 20) _ = _
     simp only [Act.put, List.setIfInBounds_toArray, List.set_cons_zero, List.set_cons_succ, cz, dF]
     rfl
   refine aU 9 (N := some 21) HT_.1 ?_
   refine BD (i := 10) (N := none) #[Yy,Yy,Yy,Yy,Yy,Yy,Yy,Yy,Yy,Yy,Yy] rfl rfl (jc HT_.1 (by kernel_rfl)) (by decide) (fun K hK => ?_)
   refine pF (w1 := ?_) (by rfl) rfl ?_ ?_
   rotate_left
   · go_simp
     rfl
   refine hK.out _ _ ?_
   clear hK K
   refine lI (jS HT_.1 (by kernel_rfl)) ?_
   try go_wp2
   (try simp only [<- aEs])
   go_roundg k1
   case measure => have := iB.1; omega
   case rel => exact ⟨(wrap64 (d9 + 1)), (bb9), RG, H', ⟨by have := iB.1; omega⟩, ⟨ER aGE.1 aEs⟩, ⟨by (try simp only [aEs]); (with_reducible repeat (first | refine ak ?_ _ | refine ag ?_ | refine au ?_ _)); refine bu ?_ (by have h_ := dK HO_317002.1 aFI.1 (by decide); intro e_; exact h_ (by rw [e_]; rfl)) _; (with_reducible repeat (first | refine ak ?_ _ | refine ag ?_ | refine au ?_ _)); refine bu ?_ (by have h_ := dK HO_317002.1 aFI.1 (by decide); intro e_; exact h_ (by rw [e_]; rfl)) _; (with_reducible repeat (first | refine ak ?_ _ | refine ag ?_ | refine au ?_ _)); exact aFI.1⟩, ⟨by repeat (first | (with_reducible first | exact HK.1 | apply Kept.alloc | apply Kept.drewN | apply Kept.drew | refine Kept.setCell ?_ HMgo11.1 _ | refine Kept.setCell ?_ HMgo11.1 _ | refine Kept.setCell ?_ (.inr a9d.1) _) | exact HK.1)⟩, ⟨BL HB.1⟩⟩
 obtain rfl := Option.some.inj H
 go_wp2
 first | go_end0 | ((try simp only [Exit.inBlock, Exit.then]); refine bodyPost_ret (results_none rfl _ _ _) rfl ?_)
 exact ⟨RF, (by first | exact (PR HO_317002.1) | (simp only [aEs]; exact (PR HO_317002.1))), BL HB.1, KL HK.1⟩
end Go.Proofs.Ytbpfdbjnnlmdjaa.P
