/- The two package-level arrays of names: what the row's list says of them, and how they are read again. -/
import Derived.Test.YtfekgidcnidijaaDoorRows
import Derived.Test.YtfekgidcnidijaaDoorPx2
import Derived.ProofKit
import Derived.OpenShut
import Derived.LaidMore
import Derived.Below
import Derived.MakeChecks
import Derived.Shelf.Vars
namespace Go.Proofs.YtfekgidcnidijaaDoor.Vars
open Go.RowKit Go.Proofs.YtfekgidcnidijaaDoor.P Go.Proofs.YtfekgidcnidijaaDoorW.PrintWords
set_option linter.unusedVariables false
set_option linter.unusedSimpArgs false
theorem laid_at {P : Program} {w : World} : ∀ {l : List (String × DataW Unit)} {ps : List MemPlace}, DataW.LaidVars P w l ps → ∀ {n : String} {d : DataW Unit}, (n, d) ∈ l →
    ∃ g t cs fuel p, P.globalNamed n = some g ∧ (P.globals[g]?).map (·.type) = some t ∧ w.var? P n = some cs ∧ DataW.trod (fun _ => ()) P w 0 (fun _ => true) false fuel t cs.toList = some (d, p)
  | [], _, _, _, _, h => by cases h
  | (n', d') :: r, ps, ⟨g, t, cs, f, p, q, h1, h2, h3, h4, h5, _⟩, n, d, hm => by
    rcases List.mem_cons.1 hm with e | hm
    · obtain ⟨rfl, rfl⟩ := Prod.mk.inj e
      exact ⟨g, t, cs, f, p, h1, h2, h3, h4⟩
    · exact laid_at h5 hm
theorem str_of_trod {H : Type} {enc : TypeId × Value → H} {P : Program} {w : World} {base : Nat} {sp : Nat → Bool} {held : Bool} {fuel : Nat} {t : TypeId} {c : Value} {y : DataW H × List MemPlace}
    (ht : P.underlying t = some .string) (h : DataW.trod enc P w base sp held fuel t [c] = some y) : ∃ s : ByteArray, c = .string s ∧ y.1 = .lit (.string s.data.toList) := by
  cases fuel with
  | zero => simp [DataW.trod] at h
  | succ fuel =>
    cases c <;> simp [DataW.trod, ht] at h
    rename_i s
    refine ⟨s, rfl, ?_⟩
    first
      | (obtain ⟨_, rfl⟩ := h; rfl)
      | (subst h; rfl)
theorem strs_of_trod {H : Type} {enc : TypeId × Value → H} {P : Program} {w : World} {base : Nat} {sp : Nat → Bool} {held : Bool} {fuel : Nat} {t e : TypeId} {n : Nat} {cs : List Value} {p : List MemPlace}
    (ht : P.underlying t = some (.array n e)) (he : P.underlying e = some .string) (hce : P.cellsOf e = 1) (hct : P.cellsOf t = n) {bs : List (List UInt8)}
    (h : DataW.trod enc P w base sp held fuel t cs = some (.agg (bs.map fun x => .lit (.string x)), p)) : cs = bs.map (fun x => .string ⟨x.toArray⟩) := by
  obtain ⟨xs, m, rfl, hx, hlen, hn, hel⟩ := DataW.trod_array ht h
  have hx1 : (bs.map fun x => (DataW.lit (Lit.string x) : DataW H)) = xs.map (·.1) := by
    have := (Prod.mk.inj hx).1
    injection this
  have hbl : bs.length = n := by have := congrArg List.length hx1; simpa [hn] using this
  rw [hct] at hlen
  refine List.ext_getElem (by simp [hlen, hbl]) (fun i h1 h2 => ?_)
  have hi : i < n := by omega
  have := hel i hi
  rw [hce, Nat.mul_one, List.drop_eq_getElem_cons h1, List.take_succ_cons, List.take_zero, List.getElem?_eq_getElem (show i < xs.length by omega)] at this
  obtain ⟨s, e1, e2⟩ := str_of_trod he this
  have e3 : (DataW.lit (Lit.string bs[i]) : DataW H) = xs[i].1 := by
    have := congrArg (fun l => l[i]?) hx1
    simpa [List.getElem?_map, List.getElem?_eq_getElem (show i < xs.length by omega), List.getElem?_eq_getElem (show i < bs.length by omega)] using this
  rw [e2] at e3
  have e4 : bs[i] = s.data.toList := by injection e3 with e3; injection e3
  rw [e1, List.getElem_map, e4]
theorem gC : Tryd.prog.globalNamed "loop.example/g00942/impl.colourNames" = some 0 := by kernel_rfl
theorem gE : Tryd.prog.globalNamed "loop.example/g00942/impl.endNames" = some 1 := by kernel_rfl
theorem tC : (Tryd.prog.globals[0]?).map (·.type) = some 71 := by kernel_rfl
theorem tE : (Tryd.prog.globals[1]?).map (·.type) = some 72 := by kernel_rfl
theorem cC : Tryd.prog.cellsOf 71 = 2 := by kernel_rfl
theorem cE : Tryd.prog.cellsOf 72 = 3 := by kernel_rfl
theorem c9 : Tryd.prog.cellsOf 9 = 1 := by kernel_rfl
def cB : List (List UInt8) := [[98, 108, 117, 101], [114, 101, 100]]
def eB : List (List UInt8) := [[98, 111, 116, 116, 111, 109], [115, 116, 111, 112], [108, 111, 115, 116]]
def cCells : Array Value := #[.string ⟨#[98, 108, 117, 101]⟩, .string ⟨#[114, 101, 100]⟩]
def eCells : Array Value := #[.string ⟨#[98, 111, 116, 116, 111, 109]⟩, .string ⟨#[115, 116, 111, 112]⟩, .string ⟨#[108, 111, 115, 116]⟩]
/-- What the listed variables hold. -/
theorem of_laid {W : World} {l : List (String × DataW Unit)} (hl : (l.all fun x => x.2.handleName?.isNone) = true) (h : laidMetH Tryd.prog l W)
    (hc : ("loop.example/g00942/impl.colourNames", Rows.laid_loop_example_g00942_impl_colourNames) ∈ l) (he : ("loop.example/g00942/impl.endNames", Rows.laid_loop_example_g00942_impl_endNames) ∈ l) :
    W.var? Tryd.prog "loop.example/g00942/impl.colourNames" = some cCells ∧ W.var? Tryd.prog "loop.example/g00942/impl.endNames" = some eCells := by
  rw [MakeChecks.laidMetH_plain _ _ _ hl] at h
  obtain ⟨ps, hv, _⟩ := h
  obtain ⟨g0, t0, cs0, f0, p0, a1, a2, a3, a4⟩ := laid_at hv hc
  obtain ⟨g1, t1, cs1, f1, p1, b1, b2, b3, b4⟩ := laid_at hv he
  obtain rfl := Option.some.inj (gC.symm.trans a1)
  obtain rfl := Option.some.inj (gE.symm.trans b1)
  obtain rfl := Option.some.inj (tC.symm.trans a2)
  obtain rfl := Option.some.inj (tE.symm.trans b2)
  have e0 := strs_of_trod (bs := cB) Tryd.underlying71 Tryd.underlying9 c9 cC a4
  have e1 := strs_of_trod (bs := eB) Tryd.underlying72 Tryd.underlying9 c9 cE b4
  exact ⟨a3.trans (congrArg some (Array.ext' e0)), b3.trans (congrArg some (Array.ext' e1))⟩
theorem globs2 {W : World} (h0 : W.var? Tryd.prog "loop.example/g00942/impl.colourNames" = some cCells) (h1 : W.var? Tryd.prog "loop.example/g00942/impl.endNames" = some eCells) : Kd.C Kd.string W (some ⟨0, 0, none⟩) 2 cNames ∧ Kd.C Kd.string W (some ⟨1, 0, none⟩) 3 eNames := by
  refine ⟨Kd.C_of_reads (d := ByteArray.empty) ⟨rfl, by omega, fun _ => ⟨_, rfl, fun j hj => ?_⟩⟩, Kd.C_of_reads (d := ByteArray.empty) ⟨rfl, by omega, fun _ => ⟨_, rfl, fun j hj => ?_⟩⟩⟩
  · have e : (⟨0, 0, none⟩ : Addr).add j = ⟨0, j, none⟩ := by by_cases h : j = 0 <;> simp [Addr.add, h]
    rw [e]
    have := World.var?_cell gC h0 j
    rw [this]
    match j, hj with
    | 0, _ => rfl
    | 1, _ => rfl
  · have e : (⟨1, 0, none⟩ : Addr).add j = ⟨1, j, none⟩ := by by_cases h : j = 0 <;> simp [Addr.add, h]
    rw [e]
    have := World.var?_cell gE h1 j
    rw [this]
    match j, hj with
    | 0, _ => rfl
    | 1, _ => rfl
    | 2, _ => rfl
theorem globs {W : World} (h0 : W.var? Tryd.prog "loop.example/g00942/impl.colourNames" = some cCells) (h1 : W.var? Tryd.prog "loop.example/g00942/impl.endNames" = some eCells) (hs : W.ShapedOpen Tryd.prog) : Globs W :=
  ⟨globs2 h0 h1, cell_of_shapedOpen_int (zero := #[.int .i64 0]) (t := 3) hs (of_decide_eq_true (by kernel_rfl)) (by kernel_rfl) rfl (by kernel_rfl) (by kernel_rfl) Tryd.underlying3⟩
theorem var_below {B g : Nat} {W W' : World} {n : String} {cs : Array Value} (h : Below B W W') (hg : Tryd.prog.globalNamed n = some g) (hgB : g < B) (hv : W.var? Tryd.prog n = some cs) : W'.var? Tryd.prog n = some cs := by
  unfold World.var? at hv ⊢
  simp only [hg, Option.bind_some] at hv ⊢
  rw [h.block g hgB]
  exact hv
abbrev dC {H : Type} : DataW H := .agg (cB.map fun x => .lit (.string x))
abbrev dE {H : Type} : DataW H := .agg (eB.map fun x => .lit (.string x))
/-- The two variables, read again. -/
theorem read_again {H : Type} (enc : TypeId × Value → H) {W : World} (h0 : W.var? Tryd.prog "loop.example/g00942/impl.colourNames" = some cCells) (h1 : W.var? Tryd.prog "loop.example/g00942/impl.endNames" = some eCells) (sp : Nat → Bool) :
    DataW.TrodVars enc Tryd.prog W sp ["loop.example/g00942/impl.colourNames", "loop.example/g00942/impl.endNames"] [dC, dE] (MemPlace.row ⟨0, 0, none⟩ cCells.size ++ [] ++ (MemPlace.row ⟨1, 0, none⟩ eCells.size ++ [] ++ [])) :=
  ⟨0, 71, cCells, 3, [], _, gC, tC, h0, by kernel_rfl, ⟨1, 72, eCells, 3, [], _, gE, tE, h1, by kernel_rfl, rfl, rfl⟩, rfl⟩
theorem var_lt {W : World} {n : String} {g : Nat} {cs : Array Value} (hg : Tryd.prog.globalNamed n = some g) (h : W.var? Tryd.prog n = some cs) : g < W.heap.size := by
  unfold World.var? at h
  simp only [hg, Option.bind_some] at h
  by_cases c : g < W.heap.size
  · exact c
  · rw [Array.getElem?_eq_none (by omega)] at h
    exact absurd h (by simp)
end Go.Proofs.YtfekgidcnidijaaDoor.Vars
