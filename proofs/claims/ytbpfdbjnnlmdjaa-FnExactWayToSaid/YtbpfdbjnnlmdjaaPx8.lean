--MINI
-- PRINTED by print.py (a twelfth state) out of the translation. Not trusted: Lean checks it.
import Derived.Test.YtbpfdbjnnlmdjaaPx0
import Derived.Test.YtbpfdbjnnlmdjaaPx7
namespace Go.Proofs.Ytbpfdbjnnlmdjaa.P
open Go.RowKit Go.Proofs.YtbpfdbjnnlmdjaaW.PrintWords Go.Proofs.YtbpfdbjnnlmdjaaW.PrintLast Go.Proofs.YtbpfdbjnnlmdjaaW.PrintMore
attribute [local go_sem] rQ rR vR vS pO pQ rT rU   -- for this text's walks alone
set_option linter.unusedVariables false
set_option linter.unusedSimpArgs false
set_option maxHeartbeats 8000000
set_option maxRecDepth 100000

open Kd
def dP.f (k : Nat) (ah : Int) (af : Int) (ae : List (fq)) : Option (Bool) := (iZ.f k ah af ae).bind fun a_l => (if a_l = true then ((bn.f k ah af ae).bind fun a6i => (some (decide ((a6i.length : Int) <= 8)))) else (some false))
theorem dP.mono : ∀ a0 a1 a2 k, dO (dP.f k a0 a1 a2) (dP.f (k + 1) a0 a1 a2) := by
 intro a0 a1 a2 k
 unfold dP.f
 repeat' first
  | (with_reducible exact iZ.mono _ _ _ _)
  | (with_reducible exact bn.mono _ _ _ _)
  | (with_reducible exact dO.refl _)
  | (with_reducible exact dO.none _)
  | (with_reducible refine dO.ite ?_ ?_)
  | (with_reducible refine dO.bind ?_ (fun _ => ?_))
  | exact iZ.mono _ _ _ _
  | exact bn.mono _ _ _ _
  | exact dO.none _
  | refine dO.ite ?_ ?_
  | refine dO.bind ?_ (fun _ => ?_)
theorem dP.calls (k : Nat) (ah : Int) (af : Int) (aK : Option Addr) (aJ : Nat) (ae : List (fq)) (r : Bool) (w : World) (dH : Kd.C jZ w aK ae.length ae) (dG : ae.length <= aJ) (h : dP.f k ah af ae = some r) :
 Calls Try.prog 46 #[.agg #[.int .i64 ah, .int .i64 af, .slice aK ae.length aJ]] w fun e w' => e = .returned (.bool r) /\ Below w.heap.size w w' := by
 have nH := Try.underlying30
 have bD := aa.mk dH
 have cO := aa.mk dG
 clear dH dG
 have HB := aa.mk (Below.refl w.heap.size w)
 have H := h
 clear h
 unfold dP.f at H
 replace H := dz H; obtain ⟨a_l, A2, H⟩ := H
 replace H := Cm H; rcases H with ⟨rfl, H⟩ | ⟨rfl, H⟩
 · replace H := dz H; obtain ⟨a6i, A4, H⟩ := H
   obtain rfl := Option.some.inj H
   go_enter Try.func46, Try.ntmps46
   go_wp2_with (first | ((with_reducible refine aC (N := 1) rfl ?_); (try (refine jT (by rfl) ?_; dsimp only)); refine dN (cs := #[.int .i64 ah, .int .i64 af, .slice aK ae.length aJ]) (t := 30) ?_; intro a_m hg w5 hbox hb; refine mJ HB.1 hg hbox hb ?_; clear HB; intro HB aNK a_n a_o; clear hb hbox hg; obtain ⟨oL, oM, tZ, oN, oO, uf⟩ := gB aNK.1) | ((with_reducible refine aA (f := 73) rfl ?_); refine cK (N := (some 4)) #[.agg #[.int .i64 ah, .int .i64 af, .slice aK ae.length aJ]] Try.func73 ?_; (with_reducible refine (iZ.calls k ah af _ _ ae true _ ?side1 ?side2 A2.1).mono ?_); (case side1 => exact CB (aY bD.1 HB.1)); (case side2 => exact cO.1); rintro e w7 ⟨rfl, hb⟩; refine ⟨_, rfl, ?_⟩; refine E2 (bB aNK.1 hb) (bS HB.1 hb) ?_; clear aNK HB; intro aNK HB; (try clear hb); obtain ⟨lZ, l5, mR, l6, l7, mU⟩ := gB aNK.1) | (go_at_call 61; (with_reducible refine (bn.calls k ah af _ _ ae a6i _ ?side1 ?side2 A4.1).mono ?_); (case side1 => exact CB (aY bD.1 HB.1)); (case side2 => exact cO.1); rintro e w9 ⟨bhJ, rfl, ho0, hb⟩; refine E3 (lN ho0 (bZ HB.1)) (bB aNK.1 hb) (bS HB.1 hb) ?_; clear aNK HB; intro a_p aNK HB; (try clear hb); (try clear ho0); obtain ⟨aE7, aeI, Yn⟩ := mq a_p.1; subst Yn))
   go_ret
   exact ⟨RF, BL HB.1⟩
 obtain rfl := Option.some.inj H
 go_enter Try.func46, Try.ntmps46
 go_wp2_with (first | ((with_reducible refine aC (N := 1) rfl ?_); (try (refine jT (by rfl) ?_; dsimp only)); refine dN (cs := #[.int .i64 ah, .int .i64 af, .slice aK ae.length aJ]) (t := 30) ?_; intro a_m hg qy hbox hb; refine mJ HB.1 hg hbox hb ?_; clear HB; intro HB aNK a_n a_o; clear hb hbox hg; obtain ⟨vT, vU, xI, vV, vW, xJ⟩ := gB aNK.1) | ((with_reducible refine aA (f := 73) rfl ?_); refine cK (N := (some 4)) #[.agg #[.int .i64 ah, .int .i64 af, .slice aK ae.length aJ]] Try.func73 ?_; (with_reducible refine (iZ.calls k ah af _ _ ae false _ ?side1 ?side2 A2.1).mono ?_); (case side1 => exact CB (aY bD.1 HB.1)); (case side2 => exact cO.1); rintro e yJ ⟨rfl, hb⟩; refine ⟨_, rfl, ?_⟩; refine E2 (bB aNK.1 hb) (bS HB.1 hb) ?_; clear aNK HB; intro aNK HB; (try clear hb)))
 go_ret
 exact ⟨RF, BL HB.1⟩

def bC.l0 : Nat -> Int -> List Int -> Int -> Int -> Option (Int)
 | 0, _, _, _, _ => none
 | k + 1, x3, x6, x7, x8 => if x8 < x7 then (if 0 <= x8 then (if x8 < (x6.length : Int) then (bC.l0 k (Go.bits .or .i64 x3 (shl .i64 (rd x6 x8) x8)) x6 x7 (wrap64 (x8 + 1))) else (none)) else (none)) else (some x3)
def bC.f (k : Nat) (l0 : List Int) : Option (Int) := bC.l0 k 0 l0 (l0.length : Int) 0
theorem bC.mono_l : ∀ k, (∀ y0 y1 y2 y3, dO (bC.l0 k y0 y1 y2 y3) (bC.l0 (k + 1) y0 y1 y2 y3))
 | 0 => fun _ _ _ _ r h => by simp [bC.l0] at h
 | k + 1 => by
  have ja := bC.mono_l k
  intros
  first | unfold bC.l0
  exact BA ja
theorem bC.mono : ∀ a0 k, dO (bC.f k a0) (bC.f (k + 1) a0) := by
 intro a0 k
 have ja := bC.mono_l k
 unfold bC.f
 exact BA ja
theorem bC.calls (k : Nat) (A0 : Option Addr) (c0 : Nat) (l0 : List Int) (r : Int) (w : World) (hr0 : Kd.C (Kd.int .i64) w A0 l0.length l0) (hc0 : l0.length <= c0) (h : bC.f k l0 = some r) :
 Calls Try.prog 49 #[.slice A0 l0.length c0] w fun e w' => e = .returned (.int .i64 r) /\ lY w w' := by
 have DI := aa.mk hr0
 have ZU := aa.mk hc0
 clear hr0 hc0
 have H := h
 clear h
 unfold bC.f at H
 have H' := aa.mk H
 clear H
 go_enter Try.func49, Try.ntmps49
 go_wp2
 go_loopg [3, 8] k (fun kq v3 v8 w' => ∃ (ky : Int) (d9 : Int), v3 = .int .i64 ky /\ v8 = .int .i64 d9 /\ aa (bC.l0 kq ky l0 (l0.length : Int) d9 = some r) /\ aa (kq <= k) /\ lY w w')
 case atStart => exact ⟨(0), (0), RG, RG, H', ⟨Nat.le_refl _⟩, DR⟩
 clear H'
 obtain ⟨ky, d9, rfl, rfl, HA, iB, ⟨m1, rfl⟩⟩ := hrel
 cases gk with
 | zero => exact absurd HA.1 (by simp [bC.l0])
 | succ k1 => ?_
 have H := HA.1
 clear HA
 simp only [bC.l0] at H
 replace H := pu H; rcases H with ⟨c2b0, H⟩ | ⟨c2b0, H⟩
 · replace H := ji H; obtain ⟨c3b0, H⟩ := H
   replace H := ji H; obtain ⟨c4b0, H⟩ := H
   have c5b0 := eq_true (OD : 0 <= d9)
   obtain ⟨ji6, adc⟩ : ∃ j_ : Int, (shl .i64 (rd l0 d9) d9) = j_ := ⟨_, rfl⟩
   replace H : (bC.l0 k1 (Go.bits .or .i64 ky (ji6)) l0 (l0.length : Int) (wrap64 (d9 + 1))) = some r := by first | (rw [adc] at H; exact H) | (simp only [adc] at H ⊢; exact H)
   have axj : (IntKind.i64.wrap ((rd l0 d9) * 2 ^ min d9.toNat 64)) = ji6 := adc
   have hji6z : d9 <= 64 -> (IntKind.i64.wrap ((rd l0 d9) * 2 ^ d9.toNat)) = ji6 := CO adc
   have hji6y : (wrap64 ((rd l0 d9) * 2 ^ min d9.toNat 64)) = ji6 := (cz _).symm.trans axj
   have hji6x : d9 <= 64 -> (wrap64 ((rd l0 d9) * 2 ^ d9.toNat)) = ji6 := fun h_ => (cz _).symm.trans (hji6z h_)
   have H' := aa.mk H
   clear H
   have a6j : 0 <= (d9 : Int) := OD
   have a6k : d9 < (l0.length : Int) := OD
   obtain ⟨bfg, bcM, baM⟩ := Kd.dx DI.1 d9 a6j a6k
   cases bcM
   replace a6j := eq_true a6j
   replace a6k := eq_true a6k
   go_wp2
   go_roundg k1
   case measure => have := iB.1; omega
   case rel => exact ⟨(Go.bits .or .i64 ky (ji6)), (wrap64 (d9 + 1)), (by first | rfl | (simp; done) | (simp only [<- adc] <;> (first | rfl | simp)) | (simp [*]; done)), RG, H', ⟨by have := iB.1; omega⟩, DR⟩
 obtain rfl := Option.some.inj H
 go_wp2
 go_ret
 exact ⟨RG, DR⟩
def fM.f (ah : Int) (af : Int) (ae : List (fq)) : Option (Int × Int × (List (fq))) := (some (([] : List (fq)) : List (fq))).bind fun aZS => (if aZS.length + ae.length < 8796093022208 then (some (ah, af, (aZS ++ ae))) else (none))
def fM.T1 : Bool × List (List Nat × List Nat) := (true, [([], []), ([0], [0]), ([], []), ([2], [2]), ([], []), ([], []), ([5], [5]), ([4, 6], [4, 6]), ([1, 3, 7], [1, 3, 7]), ([8, 7, 0, 1, 2, 3, 4, 5, 6, 7, 8], [8])])
def fM.B1 : List Nat := [0, 1, 0, 4, 0, 0, 32, 112, 255, 511]
theorem fM.aby : mX .any (opsOf Try.f75 1) = fM.T1 := by kernel_rfl
theorem fM.bits1 : kr fM.T1.2 fM.B1 = true := by kernel_rfl
theorem fM.calls (ah : Int) (af : Int) (aK : Option Addr) (aJ : Nat) (ae : List (fq)) (r1 : Int) (r2 : Int) (r3 : List (fq)) (w : World) (dH : Kd.C jZ w aK ae.length ae) (dG : ae.length <= aJ) (h : fM.f ah af ae = some (r1, r2, r3)) :
 Calls Try.prog 75 #[.agg #[.int .i64 ah, .int .i64 af, .slice aK ae.length aJ]] w fun e w' => ∃ VK : Value, e = .returned (.agg #[.int .i64 r1, .int .i64 r2, VK]) /\ Kd.R jZ 83 w' w.heap.size (fun _ => True) VK r3 /\ Below w.heap.size w w' := by
 have nH := Try.underlying30
 have bD := aa.mk dH
 have cO := aa.mk dG
 clear dH dG
 have HB := aa.mk (Below.refl w.heap.size w)
 have H := h
 clear h
 unfold fM.f at H
 replace H := nR H; obtain ⟨aZS, a3P, H⟩ := H
 replace H := oC H; obtain ⟨c2, H⟩ := H
 have abz := aa.mk c2
 clear c2
 generalize a3Q : ((aZS ++ ae) : List (fq)) = bcN at H
 have a_q := aa.mk a3Q.symm; clear a3Q
 simp only [Option.some.injEq, Prod.mk.injEq] at H
 obtain ⟨rfl, rfl, rfl⟩ := H
 go_enter Try.func75, Try.ntmps75
 try go_wp2_with (first | ((with_reducible refine aC (N := 1) rfl ?_); refine dN (cs := #[.int .i64 ah, .int .i64 af, .slice aK ae.length aJ]) (t := 30) ?_; intro aZT hg w3 hbox hb; refine mJ HB.1 hg hbox hb ?_; clear HB; intro HB aDs bfh bfi; clear hb hbox hg) | ((with_reducible refine aC (N := 2) rfl ?_); refine dN (cs := #[.int .i64 0, .int .i64 0, .slice none 0 0]) (t := 30) ?_; intro aXE hg w4 hbox hb; refine E7 (bB aDs.1 hb) (bS HB.1 hb) (hbox) (gX HB.1 hg) (gX HB.1 hg) (nB aDs.1 hg) (nC aDs.1 hg) ?_; clear aDs HB; intro aDs HB aMG bfj bfk aRC aYv; clear hb hbox hg))
 refine E3 (ag aDs.1) (ag aMG.1) (dm HB.1) ?_
 clear aDs aMG HB
 intro aDs aMG HB
 refine jN (n := 10) (S := fun w' => w'.cell? ⟨aZT, 0, none⟩ = some (.int .i64 ah) /\ w'.cell? ⟨aZT, 1, none⟩ = some (.int .i64 af) /\ w'.cell? ⟨aZT, 2, none⟩ = some (.slice aK ae.length aJ)) (ds := []) #[Zz,Zz,Zz,Zz,Zz,Zz,Zz,Zz,Zz,Zz] (by kernel_rfl) rfl rfl ⟨(ai aDs.1 0).trans rfl, (ai aDs.1 1).trans rfl, (ai aDs.1 2).trans rfl⟩ (fun hHeld => ?_); refine iq fM.aby fM.bits1 (fun HT_ HW_ => ?_)
 generalize w4.drew = w5 at aDs aMG HB hHeld ⊢
 refine aU 0 (N := some 3) HT_.1 ?_
 refine aU 2 (N := some 5) HT_.1 ?_
 refine aU 5 (N := some 8) HT_.1 ?_
 refine gF 1 (N := some 4) HT_.1 HW_.1 hHeld ?_
 refine gF 3 (N := some 6) HT_.1 HW_.1 hHeld ?_
 refine gF 6 (N := some 9) HT_.1 HW_.1 hHeld ?_
 refine mV (i := 4) (N := some 7) #[Yy,Yy,Yy,Yy,Yy,Yy,Yy,Zz,Zz,Zz] rfl rfl (jc HT_.1 (by kernel_rfl)) (by decide) (fun K hK => ?_)
 refine KH jZ _ 83 ?hg (N := 7) ?hd (xs := ([] : List (fq))) (inner := []) (ok := fun _ => True) (okp := fun _ => True) ?hr ?hp (fun _ hk => hk) trivial (Below.refl _ _) (Nat.le_refl _) (by simp) ?_; (case hd => rfl); (case hg => rfl); (case hr => first | (go_simp; done) | (go_simp; rfl)); (case hp => exact (fK.none _ _))
 intro bcO w6 yY hb hg_ hnew_
 clear hg_ hnew_
 (first | rw [<- a3P.1] at yY | (simp only [Int.reduceToNat] at yY; rw [<- a3P.1] at yY))
 refine E4 (bN yY (bZ HB.1)) (bB aDs.1 hb) (bB aMG.1 hb) (bS HB.1 hb) ?_
 clear aDs aMG HB
 intro aXF aDs aMG HB
 clear hb yY
 refine hK.out _ _ ⟨(ai aDs.1 0).trans rfl, (ai aDs.1 1).trans rfl, (ai aDs.1 2).trans rfl⟩ (fun hHeld => ?_)
 clear hK K
 refine eX (a' := ?_) ?_ ?_
 rotate_left
 · show Act.put _ (some 7) _ = _
   simp only [Act.put, List.setIfInBounds_toArray, List.set_cons_zero, List.set_cons_succ, cz, dF]
   rfl
 refine mV (i := 7) (N := some 10) #[Yy,Yy,Yy,Yy,Yy,Yy,Yy,Yy,Zz,Zz] rfl rfl (jc HT_.1 (by kernel_rfl)) (by decide) (fun K hK => ?_)
 refine xc jZ (w0 := w) w.heap.size (by rfl) (.tmp 7) (.tmp 9) 28 83 (.agg #[(.int .i64 0), (.int .i64 0)]) 16 rfl Try.underlying28 Tc rfl (by decide) (by omega) bcO aZS ae _ _ _ (fun _ => True) (fun _ => False) rfl rfl ?aO ?aR (fun _ _ h => h) (fun _ h => h.elim) ?aF ?aB ?aS ?aL ?_
 (case aR => repeat (first | exact (aY bD.1 HB.1) | (with_reducible refine kg ?_ _) | (with_reducible refine ko ?_ _) | (with_reducible refine kH ?_)))
 (case aB => exact (BL HB.1))
 (case aF => exact (fun _ _ => trivial))
 (case aO => exact (PR aXF.1))
 (case aS => exact (bZ HB.1))
 (case aL => have := abz.1; omega)
 intro bhK w8 ho hb hg hat
 rw [<- a_q.1] at ho
 refine E4 (bG aDs.1 hg (dK aXF.1 aDs.1 (by decide))) (bG aMG.1 hg (dK aXF.1 aMG.1 (by decide))) (hb) (ho) ?_
 clear aDs aMG HB aXF
 intro aDs aMG HB a3R
 clear ho hb hg hat
 obtain ⟨Ao9, ZI, Vm⟩ := bv a3R.1
 (first | subst Vm | (injection Vm with rY zZ rZ; have z8 := rY.symm; have Aa := rZ.symm; clear rY zZ rZ; subst z8; subst Aa))
 refine hK.out _ _ ⟨(ai aDs.1 0).trans rfl, (ai aDs.1 1).trans rfl, (ai aDs.1 2).trans rfl⟩ (fun hHeld => ?_)
 clear hK K
 refine eX (a' := ?_) ?_ ?_
 rotate_left
 · show Act.put _ (some 10) _ = _
   simp only [Act.put, List.setIfInBounds_toArray, List.set_cons_zero, List.set_cons_succ, cz, dF]
   rfl
 refine aU 8 (N := some 11) HT_.1 ?_
 refine mV (i := 9) (N := none) #[Yy,Yy,Yy,Yy,Yy,Yy,Yy,Yy,Yy,Yy] rfl rfl (jc HT_.1 (by kernel_rfl)) (by decide) (fun K hK => ?_)
 obtain ⟨aFe, aFf, aFg, auc, aud, aue⟩ := gB aMG.1
 have afv := aRC.1
 have afw := aYv.1
 refine pF (w1 := ?_) (by rfl) rfl ?_ ?_
 rotate_left
 · go_simp
   rfl
 refine hK.out _ _ ⟨(rP aRC.1 hHeld.1), (rP aRC.1 hHeld.2.1), (rP aRC.1 hHeld.2.2)⟩ (fun hHeld => ?_)
 clear hK K
 refine lI (jS HT_.1 (by kernel_rfl)) ?_
 try go_wp2
 refine bodyPost_ret (results_cell_row rfl _ _ aXE 30 #[.int .i64 ah, .int .i64 af, .slice Ao9 bcN.length ZI] (0, 0) _ rfl (BB aMG.1) Try.underlying30 rfl (by kernel_rfl)) rfl ?_
 exact ⟨_, RF, by (with_reducible repeat (first | apply aV | apply aW | apply aQ)); exact aG (RQ aXE 2 (RQ aXE 1 (RQ aXE 0 (bz a3R.1 aMG.1 (by decide)) _) _) _) (fun _ hk => trivial), BL HB.1⟩
theorem IX {w W : World} {S : Nat -> Prop} {ad : Addr} {n : Nat} {xs : List (List Int)} {i : Int} {A : Option Addr} {c : Nat}
 (hr : ∀ W_, Kept w W_ S -> Kd.C (Kd.slice 3 (Kd.int .i64)) W_ (some ad) n xs) (hk : Kept w W S) (h0 : 0 <= i) (h1 : i < n)
 (hx : W.cell? (ad.add i.toNat) = some (.slice A (aT xs i).length c)) : ∀ W_, Kept w W_ S -> Kd.C (Kd.int .i64) W_ A (aT xs i).length (aT xs i) := by
 obtain ⟨ad1, A1, c1, e1, hw, _, _⟩ := tT (hr w (Kept.refl w S)) i h0 h1
 cases e1
 have hne : ¬ S (ad.add i.toNat).block := by
  intro hS
  obtain ⟨ad2, A2, c2, e2, hw2, _, _⟩ := tT (hr _ ((Kept.refl w S).setCell (p := ad.add i.toNat) (.inl hS) (.int .i64 0))) i h0 h1
  cases e2
  rw [World.cell?_setCell_same' _ _ _ (by rw [hw]; rfl)] at hw2
  cases hw2
 have a1 := cell_kept hw hk hne
 rw [a1] at hx
 injection hx with hx
 injection hx with hA _ _
 intro W_ hk_
 obtain ⟨ad2, A2, c2, e2, hw2, _, hC2⟩ := tT (hr W_ hk_) i h0 h1
 cases e2
 have a2 := cell_kept hw hk_ hne
 rw [a2] at hw2
 injection hw2 with hw2
 injection hw2 with hA2 _ _
 rw [<- hA, hA2]
 exact hC2
mutual
def aM.l0 : Nat -> List Int -> List (List Int) -> Int -> Int -> Int -> Int -> List (fq) -> Option ((List (fq)))
 | 0, _, _, _, _, _, _, _ => none
 | k + 1, x2, j6, qR, pz, aSA, aSB, aGu => if pz < qR then (if 0 <= pz then (if pz < (j6.length : Int) then (if 0 < ((aT j6 pz).length : Int) then (if 0 <= (rd (aT j6 pz) 0) then (if (rd (aT j6 pz) 0) < (aGu.length : Int) then (if pz < (x2.length : Int) then (if ((aj aGu (rd (aT j6 pz) 0)).f1) = (rd x2 pz) then (aM.l0 k x2 j6 qR (wrap64 (pz + 1)) aSA aSB aGu) else (aM.l1 k x2 j6 qR pz (aT j6 pz) ((aT j6 pz).length : Int) 0 aSA aSB aGu)) else (none)) else (none)) else (none)) else (none)) else (none)) else (none)) else (some aGu)
def aM.l1 : Nat -> List Int -> List (List Int) -> Int -> Int -> List Int -> Int -> Int -> Int -> Int -> List (fq) -> Option ((List (fq)))
 | 0, _, _, _, _, _, _, _, _, _, _ => none
 | k + 1, x2, j6, qR, pz, x30, x31, x32, aSA, aSB, aGu => if x32 < x31 then (if 0 <= x32 then (if x32 < (x30.length : Int) then (if 0 <= (rd x30 x32) then (if (rd x30 x32) < (aGu.length : Int) then (aM.l1 k x2 j6 qR pz x30 x31 (wrap64 (x32 + 1)) aSA aSB (aGu.set ((rd x30 x32) : Int).toNat (⟨(aj aGu (rd x30 x32)).f0, wrap64 (1 - ((aj aGu (rd x30 x32)).f1))⟩ : fq))) else (none)) else (none)) else (none)) else (none)) else (aM.l0 k x2 j6 qR (wrap64 (pz + 1)) aSA aSB aGu)
end
def aM.f (k : Nat) (ah : Int) (af : Int) (ae : List (fq)) (l1 : List (List Int)) (l2 : List Int) : Option ((List (fq))) := aM.l0 k l2 l1 (l1.length : Int) 0 ah af ae
theorem aM.mono_l : ∀ k, (∀ y0 y1 y2 y3 y4 y5 y6, dO (aM.l0 k y0 y1 y2 y3 y4 y5 y6) (aM.l0 (k + 1) y0 y1 y2 y3 y4 y5 y6)) /\ (∀ y0 y1 y2 y3 y4 y5 y6 y7 y8 y9, dO (aM.l1 k y0 y1 y2 y3 y4 y5 y6 y7 y8 y9) (aM.l1 (k + 1) y0 y1 y2 y3 y4 y5 y6 y7 y8 y9))
 | 0 => by refine ⟨?_, ?_⟩ <;> (intros; intro r h; first | (simp [aM.l0] at h; done) | (simp [aM.l1] at h; done))
 | k + 1 => by
  obtain ⟨ja, ih1⟩ := aM.mono_l k
  refine ⟨?_, ?_⟩ <;> (
   intros
   first | unfold aM.l0 | unfold aM.l1
   exact Qj ja ih1)
theorem aM.mono : ∀ a0 a1 a2 a3 a4 k, dO (aM.f k a0 a1 a2 a3 a4) (aM.f (k + 1) a0 a1 a2 a3 a4) := by
 intro a0 a1 a2 a3 a4 k
 obtain ⟨ja, ih1⟩ := aM.mono_l k
 unfold aM.f
 exact Qj ja ih1
def aM.T4 : Bool × List (List Nat × List Nat) := (true, [([], []), ([0], [0]), ([], []), ([2], [2]), ([3], [3]), ([1, 4], [1, 4]), ([5], [5]), ([6], [6]), ([], []), ([], []), ([8, 9], [8, 9]), ([10], [10]), ([7, 11], [7, 11])])
def aM.B4 : List Nat := [0, 1, 0, 4, 12, 31, 63, 127, 0, 0, 768, 1792, 4095]
theorem aM.RU : mX .any (opsOf Try.f76 4) = aM.T4 := by kernel_rfl
theorem aM.bits4 : kr aM.T4.2 aM.B4 = true := by kernel_rfl
def aM.T8 : Bool × List (List Nat × List Nat) := (true, [([], []), ([0], [0]), ([], []), ([], []), ([3], [3]), ([], []), ([4, 5], [4, 5]), ([6], [6]), ([7], [7]), ([8], [8]), ([1, 2, 0, 1, 2, 3, 4, 5, 6, 7, 8, 9], [1, 2]), ([10, 0, 1, 2, 3, 4, 5, 6, 7, 8, 9], [10]), ([11, 9, 0, 1, 2, 3, 4, 5, 6, 7, 8, 9], [9, 11])])
def aM.B8 : List Nat := [0, 1, 0, 0, 8, 0, 56, 120, 248, 504, 1023, 2047, 4095]
theorem aM.afG : mX .any (opsOf Try.f76 8) = aM.T8 := by kernel_rfl
theorem aM.bits8 : kr aM.T8.2 aM.B8 = true := by kernel_rfl
theorem aM.calls (k : Nat) (ah : Int) (af : Int) (cu : Nat -> Prop) (iH : Value) (ae : List (fq)) (A1 : Option Addr) (c1 : Nat) (l1 : List (List Int)) (A2 : Option Addr) (c2 : Nat) (l2 : List Int) (r : List (fq)) (w0 w : World) (hB : Below w0.heap.size w0 w) (BN : Kd.R jZ 83 w w0.heap.size cu iH ae) (hr1 : ∀ W_, Kept w W_ (fun k_ => cu k_) -> Kd.C (Kd.slice 3 (Kd.int .i64)) W_ A1 l1.length l1) (hc1 : l1.length <= c1) (hr2 : ∀ W_, Kept w W_ (fun k_ => cu k_) -> Kd.C (Kd.int .i64) W_ A2 l2.length l2) (hc2 : l2.length <= c2) (h : aM.f k ah af ae l1 l2 = some r) :
 Calls Try.prog 76 #[.agg #[.int .i64 ah, .int .i64 af, iH], .slice A1 l1.length c1, .slice A2 l2.length c2] w fun e w' => e = .returned (.tuple #[]) /\ Kd.R jZ 83 w' w0.heap.size (fun k_ => (cu k_ ∨ w.heap.size <= k_)) iH r /\ Below w0.heap.size w0 w' /\ Kept w w' (fun k_ => cu k_) := by
 have nH := Try.underlying30
 have fB := aa.mk (show Kd.R jZ 83 w w0.heap.size (fun k_ => (cu k_ ∨ w.heap.size <= k_)) iH ae from aG BN (fun k_ hk => (.inl hk)))
 have HR1 := aa.mk hr1
 have vD := aa.mk hc1
 clear hr1 hc1
 have HR2 := aa.mk hr2
 have HC2 := aa.mk hc2
 clear hr2 hc2
 have HK := aa.mk (Kept.refl w (fun k_ => cu k_))
 have HW0 := aa.mk hB.size
 have HB := aa.mk hB
 clear hB
 have H := h
 clear h
 unfold aM.f at H
 have H' := aa.mk H
 clear H
 obtain ⟨SB, yK, eo4⟩ := bv fB.1
 subst eo4
 go_enter Try.func76, Try.ntmps76
 go_wp2_with (first | ((with_reducible refine aC (N := 3) rfl ?_); refine dN (cs := #[.int .i64 ah, .int .i64 af, .slice SB ae.length yK]) (t := 30) ?_; intro aNP hg w5 hbox hb; refine E6 (rB fB.1 hb) (Kept.below (S := (fun k_ => cu k_)) (KL HK.1) hb) (bS HB.1 hb) (hbox) ((by rw [hg]; exact (by first | exact HK.1.1 | exact (show Kept w _ (fun k_ => cu k_) from KL HK.1).1) : w.heap.size <= aNP)) (Qm hg (bZ HB.1) : w0.heap.size <= aNP) ?_; clear fB HK HB; intro fB HK HB azk a3S bfl; clear hb hbox hg))
 go_loopg [12] k (fun kq v12 w' => ∃ (bK : Int) (arT : List (fq)), v12 = .int .i64 bK /\ aa (aM.l0 kq l2 l1 (l1.length : Int) bK ah af arT = some r) /\ aa (kq <= k) /\ aa (Kd.R jZ 83 w' w0.heap.size (fun k_ => (cu k_ ∨ w.heap.size <= k_)) (.slice SB ae.length yK) arT) /\ aa (w'.heap[aNP]? = some (.cells #[.int .i64 ah, .int .i64 af, (.slice SB ae.length yK)] 30 (0, 0))) /\ aa (Kept w w' (fun k_ => cu k_)) /\ aa (Below w0.heap.size w0 w'))
 case atStart => exact ⟨(0), (ae), RG, H', ⟨Nat.le_refl _⟩, ⟨PR fB.1⟩, ⟨PB azk.1⟩, ⟨KL HK.1⟩, ⟨BL HB.1⟩⟩
 clear H'
 try clear c1; try clear c2
 obtain ⟨bK, arT, rfl, HA, iB, HO_528002, azk, HK, HB⟩ := hrel
 have ars := (ay HO_528002.1).1
 rw [ars] at HO_528002
 (try simp only [ars])
 (try simp only [ars] at azk)
 cases gk with
 | zero => exact absurd HA.1 (by simp [aM.l0])
 | succ k1 => ?_
 have H := HA.1
 clear HA
 simp only [aM.l0] at H
 replace H := pu H; rcases H with ⟨c6b0, H⟩ | ⟨c6b0, H⟩
 · replace H := ji H; obtain ⟨c7b0, H⟩ := H
   replace H := ji H; obtain ⟨c8b0, H⟩ := H
   replace H := oC H; obtain ⟨c9, H⟩ := H
   have c9b0 := decide_eq_true c9
   have c9b1 : decide (0 < (aT l1 bK).length) = true := decide_eq_true (by omega)
   clear c9
   replace H := ji H; obtain ⟨c10b0, H⟩ := H
   replace H := ji H; obtain ⟨c11b0, H⟩ := H
   replace H := ji H; obtain ⟨c12b0, H⟩ := H
   replace H := oP H; rcases H with ⟨c13, H⟩ | ⟨c13, H⟩
   · have c13b0 := beq_iff_eq.mpr c13
     have c13b1 := bne_eq_false_iff_eq.mpr c13
     clear c13
     have H' := aa.mk H
     clear H
     have aT0 : 0 <= (bK : Int) := OD
     have aT1 : bK < (l1.length : Int) := OD
     obtain ⟨a_r, a6m, a6n, a6o, aTw, aSC, aSD⟩ := tT (kY HR1.1 HK.1) bK aT0 aT1
     cases a6o
     have ar4 := aa.mk aSD
     have aXG := aa.mk (IX HR1.1 HK.1 aT0 aT1 aTw)
     have a1j := aa.mk aSC
     clear aSD aSC
     replace aT0 := eq_true aT0
     replace aT1 := eq_true aT1
     try go_wp2
     refine E5 (aQ HO_528002.1) (ag azk.1) (kH ar4.1) (Kept.drew HK.1) (dm HB.1) ?_
     clear HO_528002 azk ar4 HK HB
     intro HO_528002 azk ar4 HK HB
     have aVO : 0 <= (0 : Int) := (by omega)
     have aVP : 0 < ((aT l1 bK).length : Int) := OD
     obtain ⟨aVQ, a6p, aH8⟩ := Kd.dx (by repeat (first | (with_reducible exact ar4.1) | (with_reducible refine kg ?_ _) | (with_reducible refine ko ?_ _) | (with_reducible refine kH ?_) | exact ar4.1)) 0 aVO aVP
     cases a6p
     have a_s : (0 < (aT l1 bK).length) = True := eq_true (by omega)
     (try rw [show ((0 : Int)).toNat = 0 from rfl] at aH8)
     (try rw [Addr.add_zero'] at aH8)
     replace aVO := eq_true aVO
     replace aVP := eq_true aVP
     have EJ : 0 <= ((rd (aT l1 bK) 0) : Int) := OD
     have EK : (rd (aT l1 bK) 0) < (arT.length : Int) := OD
     obtain ⟨NC, UB, oo, oq⟩ := iP (ay HO_528002.1).2.2 (rd (aT l1 bK) 0) EJ EK
     cases UB
     replace EJ := eq_true EJ
     replace EK := eq_true EK
     have aT2 : 0 <= (bK : Int) := OD
     have aT3 : bK < (l2.length : Int) := OD
     obtain ⟨aZU, a6q, aRD⟩ := Kd.dx (kY HR2.1 HK.1) bK aT2 aT3
     have a1k := aRD
     cases a6q
     replace aT2 := eq_true aT2
     replace aT3 := eq_true aT3
     refine jN (n := 13) (S := fun w' => w'.cell? ⟨aNP, 0, none⟩ = some (.int .i64 ah) /\ w'.cell? ⟨aNP, 1, none⟩ = some (.int .i64 af) /\ w'.cell? ⟨aNP, 2, none⟩ = some (.slice (some NC) arT.length yK) /\ w'.cell? aVQ = some (.int .i64 (rd (aT l1 bK) 0)) /\ w'.cell? (NC.add (((rd (aT l1 bK) 0)).toNat * 2)) = some (.int .i64 ((aj arT (rd (aT l1 bK) 0)).f0)) /\ w'.cell? ⟨(NC.add (((rd (aT l1 bK) 0)).toNat * 2)).block, (NC.add (((rd (aT l1 bK) 0)).toNat * 2)).off + 1, none⟩ = some (.int .i64 ((aj arT (rd (aT l1 bK) 0)).f1)) /\ w'.cell? (aZU.add (bK).toNat) = some (.int .i64 (rd l2 bK))) (ds := []) #[Zz,Zz,Zz,Zz,Zz,Zz,Zz,Zz,Zz,Zz,Zz,Zz,Zz] (by kernel_rfl) rfl rfl ⟨(ai azk.1 0).trans rfl, (ai azk.1 1).trans rfl, (ai azk.1 2).trans rfl, aH8, oo, oq, (Kd.qE (HR2.1 _ (by repeat (first | exact HK.1 | apply Kept.alloc | apply Kept.drewN | apply Kept.drew))) bK (of_eq_true aT2) (of_eq_true aT3))⟩ (fun hHeld => ?_); refine iq aM.RU aM.bits4 (fun HT_ HW_ => ?_)
     generalize wr.drew = yM at HO_528002 azk ar4 HK HB aH8 oo oq aRD hHeld ⊢
     refine aU 0 (N := some 17) HT_.1 ?_
     refine aU 2 (N := some 19) HT_.1 ?_
     refine aU 3 (N := some 20) HT_.1 ?_
     refine aU 8 (N := some 25) HT_.1 ?_
     refine aU 9 (N := some 26) HT_.1 ?_
     refine aU 10 (N := some 27) HT_.1 ?_
     refine gF 1 (N := some 18) HT_.1 HW_.1 hHeld ?_
     refine gF 4 (N := some 21) HT_.1 HW_.1 hHeld ?_
     refine aU 5 (N := some 22) HT_.1 ?_
     refine aU 6 (N := some 23) HT_.1 ?_
     refine gF 7 (N := some 24) HT_.1 HW_.1 hHeld ?_
     refine gF 11 (N := some 28) HT_.1 HW_.1 hHeld ?_
     refine aU 12 (N := some 29) HT_.1 ?_
     refine lI (jS HT_.1 (by kernel_rfl)) ?_
     try go_wp2
     (try simp only [<- ars])
     go_roundg k1
     case measure => have := iB.1; omega
     case rel => exact ⟨(wrap64 (bK + 1)), (arT), RG, H', ⟨by have := iB.1; omega⟩, ⟨ER HO_528002.1 ars⟩, ⟨Er azk.1 ars⟩, ⟨KL HK.1⟩, ⟨BL HB.1⟩⟩
   have c13b0 := beq_eq_false_iff_ne.mpr c13
   have c13b1 := bne_iff_ne.mpr c13
   have H' := aa.mk H
   clear H
   have aT0 : 0 <= (bK : Int) := OD
   have aT1 : bK < (l1.length : Int) := OD
   obtain ⟨a_r, a6m, a6n, a6o, aTw, aSC, aSD⟩ := tT (kY HR1.1 HK.1) bK aT0 aT1
   cases a6o
   have ar4 := aa.mk aSD
   have aXG := aa.mk (IX HR1.1 HK.1 aT0 aT1 aTw)
   have a1j := aa.mk aSC
   clear aSD aSC
   replace aT0 := eq_true aT0
   replace aT1 := eq_true aT1
   try go_wp2
   refine E5 (aQ HO_528002.1) (ag azk.1) (kH ar4.1) (Kept.drew HK.1) (dm HB.1) ?_
   clear HO_528002 azk ar4 HK HB
   intro HO_528002 azk ar4 HK HB
   have aVO : 0 <= (0 : Int) := (by omega)
   have aVP : 0 < ((aT l1 bK).length : Int) := OD
   obtain ⟨aVQ, a6p, aH8⟩ := Kd.dx (by repeat (first | (with_reducible exact ar4.1) | (with_reducible refine kg ?_ _) | (with_reducible refine ko ?_ _) | (with_reducible refine kH ?_) | exact ar4.1)) 0 aVO aVP
   cases a6p
   have a_s : (0 < (aT l1 bK).length) = True := eq_true (by omega)
   (try rw [show ((0 : Int)).toNat = 0 from rfl] at aH8)
   (try rw [Addr.add_zero'] at aH8)
   replace aVO := eq_true aVO
   replace aVP := eq_true aVP
   have EJ : 0 <= ((rd (aT l1 bK) 0) : Int) := OD
   have EK : (rd (aT l1 bK) 0) < (arT.length : Int) := OD
   obtain ⟨NC, UB, oo, oq⟩ := iP (ay HO_528002.1).2.2 (rd (aT l1 bK) 0) EJ EK
   cases UB
   replace EJ := eq_true EJ
   replace EK := eq_true EK
   have aT2 : 0 <= (bK : Int) := OD
   have aT3 : bK < (l2.length : Int) := OD
   obtain ⟨aZU, a6q, aRD⟩ := Kd.dx (kY HR2.1 HK.1) bK aT2 aT3
   have a1k := aRD
   cases a6q
   replace aT2 := eq_true aT2
   replace aT3 := eq_true aT3
   refine jN (n := 13) (S := fun w' => w'.cell? ⟨aNP, 0, none⟩ = some (.int .i64 ah) /\ w'.cell? ⟨aNP, 1, none⟩ = some (.int .i64 af) /\ w'.cell? ⟨aNP, 2, none⟩ = some (.slice (some NC) arT.length yK) /\ w'.cell? aVQ = some (.int .i64 (rd (aT l1 bK) 0)) /\ w'.cell? (NC.add (((rd (aT l1 bK) 0)).toNat * 2)) = some (.int .i64 ((aj arT (rd (aT l1 bK) 0)).f0)) /\ w'.cell? ⟨(NC.add (((rd (aT l1 bK) 0)).toNat * 2)).block, (NC.add (((rd (aT l1 bK) 0)).toNat * 2)).off + 1, none⟩ = some (.int .i64 ((aj arT (rd (aT l1 bK) 0)).f1)) /\ w'.cell? (aZU.add (bK).toNat) = some (.int .i64 (rd l2 bK))) (ds := []) #[Zz,Zz,Zz,Zz,Zz,Zz,Zz,Zz,Zz,Zz,Zz,Zz,Zz] (by kernel_rfl) rfl rfl ⟨(ai azk.1 0).trans rfl, (ai azk.1 1).trans rfl, (ai azk.1 2).trans rfl, aH8, oo, oq, (Kd.qE (HR2.1 _ (by repeat (first | exact HK.1 | apply Kept.alloc | apply Kept.drewN | apply Kept.drew))) bK (of_eq_true aT2) (of_eq_true aT3))⟩ (fun hHeld => ?_); refine iq aM.RU aM.bits4 (fun HT_ HW_ => ?_)
   generalize wr.drew = NU at HO_528002 azk ar4 HK HB aH8 oo oq aRD hHeld ⊢
   refine aU 0 (N := some 17) HT_.1 ?_
   refine aU 2 (N := some 19) HT_.1 ?_
   refine aU 3 (N := some 20) HT_.1 ?_
   refine aU 8 (N := some 25) HT_.1 ?_
   refine aU 9 (N := some 26) HT_.1 ?_
   refine aU 10 (N := some 27) HT_.1 ?_
   refine gF 1 (N := some 18) HT_.1 HW_.1 hHeld ?_
   refine gF 4 (N := some 21) HT_.1 HW_.1 hHeld ?_
   refine aU 5 (N := some 22) HT_.1 ?_
   refine aU 6 (N := some 23) HT_.1 ?_
   refine gF 7 (N := some 24) HT_.1 HW_.1 hHeld ?_
   refine gF 11 (N := some 28) HT_.1 HW_.1 hHeld ?_
   refine aU 12 (N := some 29) HT_.1 ?_
   refine lI (jS HT_.1 (by kernel_rfl)) ?_
   try go_wp2
   generalize Value.pointer (some ⟨(NC.add (((rd (aT l1 bK) 0)).toNat * 2)).block, (NC.add (((rd (aT l1 bK) 0)).toNat * 2)).off + 1, none⟩) = aQk
   generalize Value.pointer (some (NC.add (((rd (aT l1 bK) 0)).toNat * 2))) = aQl
   go_loopg [32] k1 (fun kq v32 w' => ∃ (lK : Int) (aq8 : List (fq)), v32 = .int .i64 lK /\ aa (aM.l1 kq l2 l1 (l1.length : Int) bK (aT l1 bK) ((aT l1 bK).length : Int) lK ah af aq8 = some r) /\ aa (kq <= k1) /\ aa (Kd.R jZ 83 w' w0.heap.size (fun k_ => (cu k_ ∨ w.heap.size <= k_)) (.slice (some NC) arT.length yK) aq8) /\ aa (w'.heap[aNP]? = some (.cells #[.int .i64 ah, .int .i64 af, (.slice (some NC) arT.length yK)] 30 (0, 0))) /\ aa (Kd.C (Kd.int .i64) w' (some aVQ) (aT l1 bK).length (aT l1 bK)) /\ aa (Kept w w' (fun k_ => cu k_)) /\ aa (Below w0.heap.size w0 w'))
   case atStart => exact ⟨(0), (arT), RG, H', ⟨Nat.le_refl _⟩, ⟨ER HO_528002.1 ars⟩, ⟨Er azk.1 ars⟩, ⟨by repeat (first | (with_reducible exact ar4.1) | (with_reducible refine kg ?_ _) | (with_reducible refine ko ?_ _) | (with_reducible refine kH ?_) | exact ar4.1)⟩, ⟨KL HK.1⟩, ⟨BL HB.1⟩⟩
   clear H'
   try clear c13; try clear aTw; try clear aH8; try clear oo; try clear oq; try clear aRD; try clear aT0; try clear aVO; try clear EJ; try clear aT2; try clear aT1; try clear aVP; try clear EK; try clear aT3; clear c6b0 c7b0 c8b0 c9b0 c9b1 c10b0 c11b0 c12b0 c13b0 c13b1
   obtain ⟨lK, aq8, rfl, HA, nG, HO_528002, azk, ar4, HK, HB⟩ := hrel
   have aDo := (ay HO_528002.1).1
   rw [aDo] at HO_528002
   (try simp only [aDo])
   (try simp only [aDo] at azk)
   cases gk with
   | zero => exact absurd HA.1 (by simp [aM.l1])
   | succ k2 => ?_
   have H := HA.1
   clear HA
   simp only [aM.l1] at H
   replace H := pu H; rcases H with ⟨c16b0, H⟩ | ⟨c16b0, H⟩
   · replace H := ji H; obtain ⟨c17b0, H⟩ := H
     replace H := ji H; obtain ⟨c18b0, H⟩ := H
     replace H := ji H; obtain ⟨c19b0, H⟩ := H
     replace H := ji H; obtain ⟨c20b0, H⟩ := H
     generalize a3T : ((aq8.set ((rd (aT l1 bK) lK) : Int).toNat (⟨(aj aq8 (rd (aT l1 bK) lK)).f0, wrap64 (1 - ((aj aq8 (rd (aT l1 bK) lK)).f1))⟩ : fq)) : List (fq)) = bcP at H
     have a_t := aa.mk a3T.symm; clear a3T
     have H' := aa.mk H
     clear H
     have a6r : 0 <= (lK : Int) := OD
     have a6s : lK < ((aT l1 bK).length : Int) := OD
     obtain ⟨a_u, bcQ, baN⟩ := Kd.dx ar4.1 lK a6r a6s
     obtain rfl : aVQ = a_u := (by injection bcQ)
     replace a6r := eq_true a6r
     replace a6s := eq_true a6s
     try go_wp2
     refine E5 (aQ HO_528002.1) (ag azk.1) (kH ar4.1) (Kept.drew HK.1) (dm HB.1) ?_
     clear HO_528002 azk ar4 HK HB
     intro HO_528002 azk ar4 HK HB
     have a6t : 0 <= ((rd (aT l1 bK) lK) : Int) := OD
     have a6u : (rd (aT l1 bK) lK) < (aq8.length : Int) := OD
     obtain ⟨a_v, bcR, aU8, aU9⟩ := iP (ay HO_528002.1).2.2 (rd (aT l1 bK) lK) a6t a6u
     obtain rfl : NC = a_v := (by injection bcR)
     replace a6t := eq_true a6t
     replace a6u := eq_true a6u
     have p21 : 0 <= ((rd (aT l1 bK) lK) : Int) := OD
     have q21 : ((rd (aT l1 bK) lK) : Int) < ((aq8.length : Int) : Int) := OD
     obtain ⟨Py, aQm, axq, axr, aG4, aQn, axs⟩ := mQ HO_528002.1 (by omega)
     (first | cases axq | (injection axq with ea_ en_ ec_; (first | subst ea_ | (injection ea_ with ea_; subst ea_)); subst ec_; clear en_))
     have aQo := aa.mk axr
     have aG5 := aa.mk axs
     clear axr aG4 axs
     have HMgo21 := aa.mk (show (cu Py ∨ w.heap.size <= Py) from (HO_528002.1.1 _ rfl))
     (first | simp only [add_plain] at oo | skip)
     (first | simp only [add_plain] at oq | skip)
     (first | simp only [add_plain] at aU8 | skip)
     (first | simp only [add_plain] at aU9 | skip)
     obtain ⟨aQp, axt, axu, adh, adi⟩ := nz HO_528002.1 z83 ((rd (aT l1 bK) lK) : Int) p21 q21
     obtain rfl := jY axu
     have apK : World.cell? _ ⟨Py, ((rd (aT l1 bK) lK) : Int).toNat * 2, none⟩ = some (.int .i64 ((aj aq8 (rd (aT l1 bK) lK)).f0)) := adh 0 _ rfl
     have apL : World.cell? _ ⟨Py, ((rd (aT l1 bK) lK) : Int).toNat * 2 + 1, none⟩ = some (.int .i64 ((aj aq8 (rd (aT l1 bK) lK)).f1)) := adh 1 _ rfl
     have apM : World.frozen? _ ⟨Py, ((rd (aT l1 bK) lK) : Int).toNat * 2, none⟩ = false := adi 0
     have apN : World.frozen? _ ⟨Py, ((rd (aT l1 bK) lK) : Int).toNat * 2 + 1, none⟩ = false := adi 1
     (try clear axu); clear axt adh adi
     replace p21 := eq_true p21
     replace q21 := eq_true q21
     obtain ⟨aQq, ald, axv, ale, axw⟩ := nz HO_528002.1 z83 ((rd (aT l1 bK) lK) : Int) (OD) (by have h_ : ((rd (aT l1 bK) lK) : Int) < ((aq8.length : Int) : Int) := OD; first | exact h_ | (have e_ := (ay HO_528002.1).1; omega) | simpa using h_)
     obtain rfl := jY axv
     have apO := (DZ HO_528002.1 ((rd (aT l1 bK) lK) : Int) (OD) (by have h_ : ((rd (aT l1 bK) lK) : Int) < ((aq8.length : Int) : Int) := OD; first | exact h_ | (have e_ := (ay HO_528002.1).1; omega) | simpa using h_) (seg := [.int .i64 (wrap64 (1 - ((aj aq8 (rd (aT l1 bK) lK)).f1)))]) (j := 1) ald ale (show 2 <= 2 from by decide) (x' := (⟨(aj aq8 (rd (aT l1 bK) lK)).f0, wrap64 (1 - ((aj aq8 (rd (aT l1 bK) lK)).f1))⟩ : fq)) (uE _ _ _ (⟨(aj aq8 (rd (aT l1 bK) lK)).f0, wrap64 (1 - ((aj aq8 (rd (aT l1 bK) lK)).f1))⟩ : fq) ) (fun _ hk => hk)).1
     rw [<- a_t.1] at apO
     have axx := aa.mk apO
     (try clear axv); clear ald ale axw apO
     refine jN (n := 13) (S := fun w' => w'.cell? ⟨aNP, 0, none⟩ = some (.int .i64 ah) /\ w'.cell? ⟨aNP, 1, none⟩ = some (.int .i64 af) /\ w'.cell? ⟨aNP, 2, none⟩ = some (.slice (some ⟨Py, 0, none⟩) aq8.length yK) /\ w'.cell? ⟨Py, ((rd (aT l1 bK) lK)).toNat * 2, none⟩ = some (.int .i64 ((aj aq8 (rd (aT l1 bK) lK)).f0)) /\ w'.cell? ⟨Py, ((rd (aT l1 bK) lK)).toNat * 2 + 1, none⟩ = some (.int .i64 ((aj aq8 (rd (aT l1 bK) lK)).f1))) (ds := [12]) #[Zz,Zz,Zz,Zz,Zz,Zz,Zz,Zz,Zz,Zz,Zz,Zz,Zz] (by kernel_rfl) rfl rfl ⟨(ai azk.1 0).trans rfl, (ai azk.1 1).trans rfl, (ai azk.1 2).trans rfl, aU8, aU9⟩ (fun hHeld => ?_); refine iq aM.afG aM.bits8 (fun HT_ HW_ => ?_)
     generalize wr.drew = BM at HO_528002 azk ar4 HK HB aG5 axx apM apN apK apL aU8 aU9 hHeld ⊢
     refine aU 0 (N := some 36) HT_.1 ?_
     refine aU 2 (N := some 38) HT_.1 ?_
     refine aU 3 (N := some 39) HT_.1 ?_
     refine aU 5 (N := some 41) HT_.1 ?_
     refine gF 1 (N := some 37) HT_.1 HW_.1 hHeld ?_
     refine gF 4 (N := some 40) HT_.1 HW_.1 hHeld ?_
     refine aU 6 (N := some 42) HT_.1 ?_
     refine aU 7 (N := some 43) HT_.1 ?_
     refine gF 8 (N := some 44) HT_.1 HW_.1 hHeld ?_
     refine aU 9 (N := some 45) HT_.1 ?_
     refine aU 10 (N := some 46) HT_.1 ?_
     refine aU 11 (N := some 47) HT_.1 ?_
     refine BD (i := 12) (N := none) #[Yy,Yy,Yy,Yy,Yy,Yy,Yy,Yy,Yy,Yy,Yy,Yy,Yy] rfl rfl (jc HT_.1 (by kernel_rfl)) (by decide) (fun K hK => ?_)
     refine pF (w1 := ?_) (by rfl) rfl ?_ ?_
     rotate_left
     · go_simp
       rfl
     refine hK.out _ _ ?_
     clear hK K
     refine lI (jS HT_.1 (by kernel_rfl)) ?_
     try go_wp2
     (try simp only [<- aDo])
     go_roundg k2
     case measure => have := iB.1; have := nG.1; omega
     case rel => exact ⟨(wrap64 (lK + 1)), (bcP), RG, H', ⟨by have := iB.1; have := nG.1; omega⟩, ⟨MZ axx.1 ars aDo⟩, ⟨by (try simp only [ars]); (try simp only [aDo]); (with_reducible repeat (first | refine ak ?_ _ | refine ag ?_ | refine au ?_ _)); refine bu ?_ (by have h_ := dK HO_528002.1 azk.1 (by decide); intro e_; exact h_ (by rw [e_]; rfl)) _; (with_reducible repeat (first | refine ak ?_ _ | refine ag ?_ | refine au ?_ _)); exact azk.1⟩, ⟨aXG.1 _ (by repeat (first | (with_reducible first | exact HK.1 | apply Kept.alloc | apply Kept.drewN | apply Kept.drew | refine Kept.setCell ?_ HMgo21.1 _ | refine Kept.setCell ?_ (.inr a3S.1) _) | exact HK.1))⟩, ⟨by repeat (first | (with_reducible first | exact HK.1 | apply Kept.alloc | apply Kept.drewN | apply Kept.drew | refine Kept.setCell ?_ HMgo21.1 _ | refine Kept.setCell ?_ (.inr a3S.1) _) | exact HK.1)⟩, ⟨BL HB.1⟩⟩
   have H' := aa.mk H
   clear H
   go_wp2
   (try simp only [<- ars, <- aDo])
   go_roundg k2
   case measure => have := iB.1; have := nG.1; omega
   case rel => exact ⟨(wrap64 (bK + 1)), (aq8), RG, H', ⟨by have := iB.1; have := nG.1; omega⟩, ⟨MZ HO_528002.1 ars aDo⟩, ⟨HY azk.1 ars aDo⟩, ⟨KL HK.1⟩, ⟨BL HB.1⟩⟩
 obtain rfl := Option.some.inj H
 go_wp2
 first | go_end0 | ((try simp only [Exit.inBlock, Exit.then]); refine bodyPost_ret (results_none rfl _ _ _) rfl ?_)
 exact ⟨RF, (by first | exact (PR HO_528002.1) | (simp only [ars]; exact (PR HO_528002.1))), BL HB.1, KL HK.1⟩
def dA.l0 : Nat -> Int -> List Int -> Int -> Int -> Option (List Int)
 | 0, _, _, _, _ => none
 | k + 1, x0, x5, j6, qR => if qR < j6 then (if 0 <= qR then (if qR < (x5.length : Int) then (dA.l0 k x0 (x5.set (qR : Int).toNat (Go.bits .and .i64 (shr .i64 x0 qR) 1)) j6 (wrap64 (qR + 1))) else (none)) else (none)) else (some x5)
def dA.f (k : Nat) (a0 : Int) (a1 : Int) : Option (List Int) := if 0 <= a1 then (if (a1 : Int).toNat <= 35184372088832 then ((some (List.replicate (a1 : Int).toNat 0 : List Int)).bind fun aGG => (dA.l0 k a0 aGG (aGG.length : Int) 0)) else (none)) else (none)
theorem dA.mono_l : ∀ k, (∀ y0 y1 y2 y3, dO (dA.l0 k y0 y1 y2 y3) (dA.l0 (k + 1) y0 y1 y2 y3))
 | 0 => fun _ _ _ _ r h => by simp [dA.l0] at h
 | k + 1 => by
  have ja := dA.mono_l k
  intros
  first | unfold dA.l0
  exact BA ja
theorem dA.mono : ∀ a0 a1 k, dO (dA.f k a0 a1) (dA.f (k + 1) a0 a1) := by
 intro a0 a1 k
 have ja := dA.mono_l k
 unfold dA.f
 exact BA ja
theorem dA.calls (k : Nat) (a0 : Int) (a1 : Int) (r : List Int) (w : World) (h : dA.f k a0 a1 = some r) :
 Calls Try.prog 77 #[.int .i64 a0, .int .i64 a1] w fun e w' => ∃ rO : Value, e = .returned (rO) /\ Kd.R (Kd.int .i64) 3 w' w.heap.size (fun _ => True) rO r /\ Below w.heap.size w w' := by
 have HB := aa.mk (Below.refl w.heap.size w)
 have H := h
 clear h
 unfold dA.f at H
 replace H := oC H; obtain ⟨c3, H⟩ := H
 have c3b0 := eq_true c3
 have c3b1 := decide_eq_true c3
 clear c3
 replace H := oC H; obtain ⟨c4, H⟩ := H
 have c4b0 := eq_true c4
 have c4b1 := decide_eq_true c4
 clear c4
 replace H := nR H; obtain ⟨aGG, awH, H⟩ := H
 have H' := aa.mk H
 clear H
 go_enter Try.func77, Try.ntmps77
 go_wp2_with (first | ((with_reducible refine aC (N := 8) rfl ?_); refine yH (Kd.int .i64) _ 3 rfl (N := 8) rfl 38 _ _ rfl a1 rfl rfl Try.underlying38 (.int .i64 0) 8 info3 rfl (by decide) (by omega) 0 (ok := fun _ => True) (okp := fun _ => True) rfl (fun _ hk => hk) trivial (OD) (Nat.le_trans (Nat.mul_le_mul_right _ (OD : a1.toNat <= 35184372088832)) (by omega)) (Below.refl _ _) (Nat.le_refl _) ?_; intro aP5 w5 ho6 hb hg_ hnew_; clear hg_ hnew_; (first | rw [<- awH.1] at ho6 | (simp only [Int.reduceToNat] at ho6; rw [<- awH.1] at ho6)); refine E2 (bN ho6 (bZ HB.1)) (bS HB.1 hb) ?_; clear HB; intro awI HB; clear hb ho6; obtain ⟨Ao7, SI, eo7⟩ := bv awI.1; subst eo7))
 go_loopg [11] k (fun kq v11 w' => ∃ (bq : List Int) (iQ : Int), v11 = .int .i64 iQ /\ aa (dA.l0 kq a0 bq (aGG.length : Int) iQ = some r) /\ aa (kq <= k) /\ aa (Kd.R (Kd.int .i64) 3 w' w.heap.size (fun _ => True) (.slice Ao7 aGG.length SI) bq) /\ aa (Below w.heap.size w w'))
 case atStart => exact ⟨(aGG), (0), RG, H', ⟨Nat.le_refl _⟩, ⟨PR awI.1⟩, ⟨BL HB.1⟩⟩
 clear H'
 clear c3b0 c3b1 c4b0 c4b1
 obtain ⟨bq, iQ, rfl, HA, iB, HO_5, HB⟩ := hrel
 have R7 := (ay HO_5.1).1
 rw [R7] at HO_5
 (try simp only [R7])
 cases gk with
 | zero => exact absurd HA.1 (by simp [dA.l0])
 | succ k1 => ?_
 have H := HA.1
 clear HA
 simp only [dA.l0] at H
 replace H := pu H; rcases H with ⟨c8b0, H⟩ | ⟨c8b0, H⟩
 · replace H := oC H; obtain ⟨c9, H⟩ := H
   have c9b0 := eq_true c9
   have c9b1 := decide_eq_true c9
   clear c9
   obtain ⟨sN, ze⟩ : ∃ j_ : Int, (shr .i64 a0 iQ) = j_ := ⟨_, rfl⟩
   replace H : (if iQ < (bq.length : Int) then (dA.l0 k1 a0 (bq.set (iQ : Int).toNat (Go.bits .and .i64 (sN) 1)) (aGG.length : Int) (wrap64 (iQ + 1))) else (none)) = some r := by first | (rw [ze] at H; exact H) | (simp only [ze] at H ⊢; exact H)
   have aG6 : (a0 / 2 ^ min iQ.toNat 64) = sN := ze
   have hji10z : iQ <= 64 -> (a0 / 2 ^ iQ.toNat) = sN := M6 ze
   replace H := ji H; obtain ⟨c11b0, H⟩ := H
   generalize a3U : ((bq.set (iQ : Int).toNat (Go.bits .and .i64 (sN) 1)) : List Int) = a_x at H
   have a_y := aa.mk a3U.symm; clear a3U
   have H' := aa.mk H
   clear H
   have SF : 0 <= (iQ : Int) := OD
   have SG : (iQ : Int) < ((bq.length : Int) : Int) := OD
   obtain ⟨tL, rM, vF, KV, TG, ano, KW⟩ := mQ HO_5.1 (by omega)
   (first | cases vF | (injection vF with ea_ en_ ec_; (first | subst ea_ | (injection ea_ with ea_; subst ea_)); subst ec_; clear en_))
   have QR := aa.mk KV
   have anp := aa.mk KW
   clear KV TG KW
   obtain ⟨Ib, KR⟩ := lC 0 HO_5.1 (iQ : Int) SF SG
   replace SF := eq_true SF
   replace SG := eq_true SG
   have KX := qV HO_5.1 (iQ : Int) (Go.bits .and .i64 (sN) 1)
   go_wp2_with (first | ((with_reducible refine gK (t := 3) (p := 20) rfl ?_); refine lX (t := 3) (p := 20) (w1 := (wr.setCell ⟨tL, (iQ : Int).toNat, none⟩ (.int .i64 (Go.bits .and .i64 (sN) 1)))) ?_; intro yM hw; have hg : wr.grownBy yM (some tL) := (by rw [hw]; exact KX.2); have hp_ : Kd.R (Kd.int .i64) 3 yM w.heap.size (fun _ => True) (.slice (some ⟨tL, 0, none⟩) bq.length SI) a_x := (by rw [hw, a_y.1]; exact KX.1); clear KX; refine E2 (hp_) ((by rw [hw]; exact il (HB.1) QR.1 : Below w.heap.size w yM)) ?_; clear HO_5 HB; intro HO_5 HB; clear hg hw hp_))
   (try simp only [<- R7])
   go_roundg k1
   case measure => have := iB.1; omega
   case rel => exact ⟨(a_x), (wrap64 (iQ + 1)), RG, H', ⟨by have := iB.1; omega⟩, ⟨ER HO_5.1 R7⟩, ⟨BL HB.1⟩⟩
 (try simp only [R7] at c8b0)
 obtain rfl := Option.some.inj H
 go_wp2
 go_ret
 exact ⟨_, RF, pm (HO_5.1), BL HB.1⟩
mutual
def bY.j0 : Nat -> Int -> Bool -> Int -> Int -> Option (Int × Bool)
 | 0, _, _, _, _ => none
 | k + 1, x1, Oc, aIb, aTx => if Oc = true then (some (0, false)) else (if aIb = 1 then (some ((-1), true)) else (if aIb = 2 then (some (1, true)) else (if aIb = 3 then (bY.j1 k x1 aIb (aIb == 3) aIb aTx) else (bY.j1 k x1 aIb (aIb == 6) aIb aTx))))
def bY.j1 : Nat -> Int -> Int -> Bool -> Int -> Int -> Option (Int × Bool)
 | 0, _, _, _, _, _ => none
 | k + 1, x1, Hu, x28, aIb, aTx => if x28 = true then (some (wrap64 ((wrap64 (2 * aTx)) - 1), true)) else (if Hu = 4 then (some (wrap64 (-x1), true)) else (some (0, true)))
end
def bY.f (k : Nat) (ah : Int) (af : Int) (a1 : Int) : Option (Int × Bool) := (kD.f ah af).bind fun a_z => (if a_z = true then (if a1 < (-1) then (bY.j0 k a1 true ah af) else (if a1 > 1 then (bY.j0 k a1 true ah af) else (bY.j0 k a1 (ah == 5) ah af))) else (bY.j0 k a1 true ah af))
theorem bY.mono_l : ∀ k, (∀ y0 y1 y2 y3, dO (bY.j0 k y0 y1 y2 y3) (bY.j0 (k + 1) y0 y1 y2 y3)) /\ (∀ y0 y1 y2 y3 y4, dO (bY.j1 k y0 y1 y2 y3 y4) (bY.j1 (k + 1) y0 y1 y2 y3 y4))
 | 0 => by refine ⟨?_, ?_⟩ <;> (intros; intro r h; first | (simp [bY.j0] at h; done) | (simp [bY.j1] at h; done))
 | k + 1 => by
  obtain ⟨ja, ih1⟩ := bY.mono_l k
  refine ⟨?_, ?_⟩ <;> (
   intros
   first | unfold bY.j0 | unfold bY.j1
   exact Qj ja ih1)
theorem bY.mono : ∀ a0 a1 a2 k, dO (bY.f k a0 a1 a2) (bY.f (k + 1) a0 a1 a2) := by
 intro a0 a1 a2 k
 obtain ⟨ja, ih1⟩ := bY.mono_l k
 unfold bY.f
 exact Qj ja ih1
theorem bY.calls (k : Nat) (ah : Int) (af : Int) (a1 : Int) (r1 : Int) (r2 : Bool) (w : World) (h : bY.f k ah af a1 = some (r1, r2)) :
 Calls Try.prog 89 #[.agg #[.int .i64 ah, .int .i64 af], .int .i64 a1] w fun e w' => e = .returned (.tuple #[.int .i64 r1, .bool r2]) /\ Below w.heap.size w w' := by
 have xE := Try.underlying83
 have HB := aa.mk (Below.refl w.heap.size w)
 have H := h
 clear h
 unfold bY.f at H
 have HC3 := aa.mk H
 clear H
 go_enter Try.func89, Try.ntmps89
 go_upto_region 1 with (first | ((with_reducible refine aC (N := 2) rfl ?_); refine dN (cs := #[.int .i64 ah, .int .i64 af]) (t := 83) ?_; intro a3V hg w4 hbox hb; refine mJ HB.1 hg hbox hb ?_; clear HB; intro HB azs bfm bfn; clear hb hbox hg))
 (try simp only [Act.put, List.setIfInBounds_toArray, List.set_cons_zero, List.set_cons_succ])
 go_cut [21] (fun v21 wc => ∃ (kq : Nat) (adj : Bool), v21 = .bool adj /\ aa (bY.j0 kq a1 adj ah af = some (r1, r2)) /\ aa (kq <= k) /\ aa (wc.heap[a3V]? = some (.cells #[.int .i64 ah, .int .i64 af] 83 (0, 0))) /\ aa (Below w.heap.size w wc))
 case first =>
  have H := HC3.1
  clear HC3
  replace H := dz H; obtain ⟨a_z, A5, H⟩ := H
  replace H := Cm H; rcases H with ⟨rfl, H⟩ | ⟨rfl, H⟩
  · replace H := pu H; rcases H with ⟨c7b0, H⟩ | ⟨c7b0, H⟩
    · (first | rw [c7b0] | (simp only [cz, dF]; rw [c7b0]) | skip)
      have H' := aa.mk H
      clear H
      obtain ⟨lZ, l5, l6, l7⟩ := nO azs.1
      go_wp2_with (first | ((with_reducible refine aA (f := 99) rfl ?_); refine cK (N := (some 7)) #[.agg #[.int .i64 ah, .int .i64 af]] Try.func99 ?_; (with_reducible refine (kD.calls ah af true _ A5.1).mono ?_); rintro e w9 ⟨rfl, hb⟩; refine ⟨_, rfl, ?_⟩; refine E2 (bB azs.1 hb) (bS HB.1 hb) ?_; clear azs HB; intro azs HB; (try clear hb)))
      go_meet
      case rel => exact ⟨_, (true), RG, H', ⟨by first | omega | exact Nat.le_refl _⟩, ⟨PB azs.1⟩, ⟨BL HB.1⟩⟩
    (first | rw [c7b0] | (simp only [cz, dF]; rw [c7b0]) | skip)
    replace H := oP H; rcases H with ⟨c10, H⟩ | ⟨c10, H⟩
    · have c10b0 : decide (1 < a1) = true := decide_eq_true c10
      clear c10
      have H' := aa.mk H
      clear H
      obtain ⟨vX, vY, vZ, wh⟩ := nO azs.1
      go_wp2_with (first | ((with_reducible refine aA (f := 99) rfl ?_); refine cK (N := (some 7)) #[.agg #[.int .i64 ah, .int .i64 af]] Try.func99 ?_; (with_reducible refine (kD.calls ah af true _ A5.1).mono ?_); rintro e yC ⟨rfl, hb⟩; refine ⟨_, rfl, ?_⟩; refine E2 (bB azs.1 hb) (bS HB.1 hb) ?_; clear azs HB; intro azs HB; (try clear hb)))
      go_meet
      case rel => exact ⟨_, (true), RG, H', ⟨by first | omega | exact Nat.le_refl _⟩, ⟨PB azs.1⟩, ⟨BL HB.1⟩⟩
    have c10b0 : decide (1 < a1) = false := decide_eq_false c10
    clear c10
    have H' := aa.mk H
    clear H
    obtain ⟨uF, uG, uH, uI⟩ := nO azs.1
    go_wp2_with (first | ((with_reducible refine aA (f := 99) rfl ?_); refine cK (N := (some 7)) #[.agg #[.int .i64 ah, .int .i64 af]] Try.func99 ?_; (with_reducible refine (kD.calls ah af true _ A5.1).mono ?_); rintro e yM ⟨rfl, hb⟩; refine ⟨_, rfl, ?_⟩; refine E2 (bB azs.1 hb) (bS HB.1 hb) ?_; clear azs HB; intro azs HB; (try clear hb); obtain ⟨sD, sF, sG, sH⟩ := nO azs.1))
    go_meet
    case rel => exact ⟨_, ((ah == 5)), RG, H', ⟨by first | omega | exact Nat.le_refl _⟩, ⟨PB azs.1⟩, ⟨BL HB.1⟩⟩
  have H' := aa.mk H
  clear H
  obtain ⟨wm, wo, wu, ww⟩ := nO azs.1
  go_wp2_with (first | ((with_reducible refine aA (f := 99) rfl ?_); refine cK (N := (some 7)) #[.agg #[.int .i64 ah, .int .i64 af]] Try.func99 ?_; (with_reducible refine (kD.calls ah af false _ A5.1).mono ?_); rintro e Vn ⟨rfl, hb⟩; refine ⟨_, rfl, ?_⟩; refine E2 (bB azs.1 hb) (bS HB.1 hb) ?_; clear azs HB; intro azs HB; (try clear hb)))
  go_meet
  case rel => exact ⟨_, (true), RG, H', ⟨by first | omega | exact Nat.le_refl _⟩, ⟨PB azs.1⟩, ⟨BL HB.1⟩⟩
 clear HC3
 obtain ⟨kq, adj, rfl, HA, HJ2, azs, HB⟩ := hcut
 cases kq with
 | zero => exact absurd HA.1 (by simp [bY.j0])
 | succ kj2 => ?_
 have H := HA.1
 clear HA
 simp only [bY.j0] at H
 replace H := Cm H; rcases H with ⟨rfl, H⟩ | ⟨rfl, H⟩
 · simp only [Option.some.injEq, Prod.mk.injEq] at H
   obtain ⟨rfl, rfl⟩ := H
   go_wp2
   go_ret2
   exact ⟨RF, BL HB.1⟩
 replace H := oP H; rcases H with ⟨c19, H⟩ | ⟨c19, H⟩
 · have c19b0 := beq_iff_eq.mpr c19
   have c19b1 := bne_eq_false_iff_eq.mpr c19
   clear c19
   simp only [Option.some.injEq, Prod.mk.injEq] at H
   obtain ⟨rfl, rfl⟩ := H
   obtain ⟨wz, wB, wC, wD⟩ := nO azs.1
   go_wp2
   go_ret2
   exact ⟨RF, BL HB.1⟩
 have c19b0 := beq_eq_false_iff_ne.mpr c19
 have c19b1 := bne_iff_ne.mpr c19
 replace H := oP H; rcases H with ⟨c21, H⟩ | ⟨c21, H⟩
 · have c21b0 := beq_iff_eq.mpr c21
   have c21b1 := bne_eq_false_iff_eq.mpr c21
   clear c21
   simp only [Option.some.injEq, Prod.mk.injEq] at H
   obtain ⟨rfl, rfl⟩ := H
   obtain ⟨wJ, wK, wL, wM⟩ := nO azs.1
   go_wp2
   go_ret2
   exact ⟨RF, BL HB.1⟩
 have c21b0 := beq_eq_false_iff_ne.mpr c21
 have c21b1 := bne_iff_ne.mpr c21
 have apP := aa.mk H
 clear H
 obtain ⟨JP, JQ, JR, JS⟩ := nO azs.1
 go_upto_if 28 with (fail)
 go_cut [28] (fun v28 wc => ∃ (kq : Nat) (UT : Bool), v28 = .bool UT /\ aa (bY.j1 kq a1 ah UT ah af = some (r1, r2)) /\ aa (kq <= kj2) /\ aa (wc.heap[a3V]? = some (.cells #[.int .i64 ah, .int .i64 af] 83 (0, 0))) /\ aa (Below w.heap.size w wc))
 case first =>
  have H := apP.1
  clear apP
  replace H := oP H; rcases H with ⟨Q8, H⟩ | ⟨Q8, H⟩
  · have c25b0 := beq_iff_eq.mpr Q8
    have c25b1 := bne_eq_false_iff_eq.mpr Q8
    clear Q8
    (first | rw [c25b0] | (simp only [cz, dF]; rw [c25b0]) | skip)
    have H' := aa.mk H
    clear H
    go_wp2
    go_meet
    case rel => exact ⟨_, ((ah == 3)), RG, H', ⟨by have := HJ2.1; first | omega | exact Nat.le_refl _⟩, ⟨PB azs.1⟩, ⟨BL HB.1⟩⟩
  have c25b0 := beq_eq_false_iff_ne.mpr Q8
  have c25b1 := bne_iff_ne.mpr Q8
  (first | rw [c25b0] | (simp only [cz, dF]; rw [c25b0]) | skip)
  have H' := aa.mk H
  clear H
  go_wp2
  go_meet
  case rel => exact ⟨_, ((ah == 6)), RG, H', ⟨by have := HJ2.1; first | omega | exact Nat.le_refl _⟩, ⟨PB azs.1⟩, ⟨BL HB.1⟩⟩
 clear apP
 try clear c19; try clear c21; clear c19b0 c19b1 c21b0 c21b1 JP JQ JR JS
 obtain ⟨kq, UT, rfl, HA, aQt, azs, HB⟩ := hcut
 cases kq with
 | zero => exact absurd HA.1 (by simp [bY.j1])
 | succ aQu => ?_
 have H := HA.1
 clear HA
 simp only [bY.j1] at H
 replace H := Cm H; rcases H with ⟨rfl, H⟩ | ⟨rfl, H⟩
 · simp only [Option.some.injEq, Prod.mk.injEq] at H
   obtain ⟨rfl, rfl⟩ := H
   obtain ⟨Aj, Ak, Al, Am⟩ := nO azs.1
   go_wp2
   go_ret2
   exact ⟨RF, BL HB.1⟩
 replace H := oP H; rcases H with ⟨c28, H⟩ | ⟨c28, H⟩
 · have c28b0 := beq_iff_eq.mpr c28
   have c28b1 := bne_eq_false_iff_eq.mpr c28
   clear c28
   simp only [Option.some.injEq, Prod.mk.injEq] at H
   obtain ⟨rfl, rfl⟩ := H
   go_wp2
   go_ret2
   exact ⟨RF, BL HB.1⟩
 have c28b0 := beq_eq_false_iff_ne.mpr c28
 have c28b1 := bne_iff_ne.mpr c28
 simp only [Option.some.injEq, Prod.mk.injEq] at H
 obtain ⟨rfl, rfl⟩ := H
 go_wp2
 go_ret2
 exact ⟨RF, BL HB.1⟩
end Go.Proofs.Ytbpfdbjnnlmdjaa.P
