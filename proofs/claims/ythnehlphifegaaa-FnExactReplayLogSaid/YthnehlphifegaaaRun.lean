/- A machine's run: the program's and the reference's are one, step for step. -/
import Derived.Test.YthnehlphifegaaaMach
import Derived.Test.YthnehlphifegaaaSameG
import Derived.Test.YthnehlphifegaaaGroups
import Derived.Test.YthnehlphifegaaaPx0
import Derived.Test.YthnehlphifegaaaPx2
import Derived.Test.YthnehlphifegaaaPx3
import Derived.Test.YthnehlphifegaaaPx5
import Derived.Test.YthnehlphifegaaaPx6
import Derived.Test.YthnehlphifegaaaPx7
import Derived.Test.YthnehlphifegaaaPx8
import Derived.Test.YthnehlphifegaaaPx9
namespace Go.Proofs.Ythnehlphifegaaa.Run
open Go.RowKit Go.Proofs.Ythnehlphifegaaa.P Go.Proofs.Ythnehlphifegaaa.Base Go.Proofs.Ythnehlphifegaaa.Board Go.Proofs.Ythnehlphifegaaa.Groups Go.Proofs.YthnehlphifegaaaW.PrintWords Go.Proofs.YthnehlphifegaaaW.PrintLast Go.Proofs.YthnehlphifegaaaW.PrintMore
set_option linter.unusedVariables false
set_option linter.unusedSimpArgs false
abbrev E := S66
abbrev FS := S61
abbrev St := List C × Int × Int × Int
/-- A marble's fall: its end, row and column, and the cells it leaves. -/
structure Falls (r c : Int) (G : List Int) (cs : List C) (col : Int) (q : Int × Int × Int × List C) : Prop where
  spec : Ev (fun k => spec_flRun.f k r c cs col) (q.1, q.2.1, q.2.2.1, r, c, q.2.2.2)
  impl : ∃ W, Ev (fun k => impl_drop.f k r c cs G col) (q.1, q.2.1, q.2.2.1, W, q.2.2.2)
  like : Like q.2.2.2 cs
  good : Board.Good r c q.2.2.2
theorem falls {r c : Int} {cs0 : List C} (h : Board.Good r c cs0) : ∃ (G : List Int) (F : List C → Int → Int × Int × Int × List C), Ev (fun k => impl_groupNumbers.f k r c cs0) G ∧
    ∀ cs col, Like cs cs0 → Board.Good r c cs → 0 ≤ col → col < c → Falls r c G cs col (F cs col) := by
  obtain ⟨G, g1, g2, hI⟩ := groups h
  have hp : ∀ p : List C × Int, ∃ q : Int × Int × Int × List C, Like p.1 cs0 → Board.Good r c p.1 → 0 ≤ p.2 → p.2 < c → Falls r c G p.1 p.2 q := fun p => by
    obtain ⟨cs, col⟩ := p
    by_cases hq : (Like cs cs0 ∧ Board.Good r c cs) ∧ 0 ≤ col ∧ col < c
    · obtain ⟨⟨a, b⟩, d, e⟩ := hq
      have hl := b.len
      obtain ⟨e, rw', cl, R, W, W', f1, f2, hLR, hgR, _⟩ := Fall.fall b d e (G := G) (by rw [hI.len, a.1]) cs
      refine ⟨(e, rw', cl, R), fun _ _ _ _ => ⟨?_, ⟨W, f2⟩, hLR, hgR⟩⟩
      show Ev (fun k => spec_flRun.f k r c cs col) (e, rw', cl, r, c, R)
      unfold spec_flRun.f
      refine Ev.bind (a := G) (by rw [groups_like a]; exact g1) (Ev.bind (a := (e, rw', cl, r, c, R, W')) ?_ (Ev.now _))
      unfold spec_flGo.f
      rw [boOwn (by omega)]
      simp only [Option.bind_some]
      exact f1
    · exact ⟨(0, 0, 0, []), fun a b d e => absurd ⟨⟨a, b⟩, d, e⟩ hq⟩
  obtain ⟨f, hf⟩ := Classical.skolem.1 hp
  exact ⟨G, fun cs col => f (cs, col), g2, fun cs col a b d e => hf (cs, col) a b d e⟩
def can (s : St) : Bool := decide (s.2.2.2 = 0 ∧ s.2.1 > 0 ∨ s.2.2.2 = 1 ∧ s.2.2.1 > 0)
def col (left right : Int) (s : St) : Int := if s.2.2.2 = 0 then left else right
def stepS (F : List C → Int → Int × Int × Int × List C) (c left right : Int) (s : St) : St :=
  ((F s.1 (col left right s)).2.2.2, if s.2.2.2 = 0 then wrap64 (s.2.1 - 1) else s.2.1, if s.2.2.2 = 0 then s.2.2.1 else wrap64 (s.2.2.1 - 1), mNext (F s.1 (col left right s)).1 (F s.1 (col left right s)).2.2.1 c)
def stepE (F : List C → Int → Int × Int × Int × List C) (left right : Int) (s : St) : E :=
  ⟨s.2.2.2, ⟨(F s.1 (col left right s)).1, (F s.1 (col left right s)).2.1, (F s.1 (col left right s)).2.2.1⟩⟩
/-- The entries of at most n steps, and the machine behind them. -/
def run (F : List C → Int → Int × Int × Int × List C) (c left right : Int) : Nat → St → List E × St
  | 0, s => ([], s)
  | n + 1, s => if can s = true then (stepE F left right s :: (run F c left right n (stepS F c left right s)).1, (run F c left right n (stepS F c left right s)).2) else ([], s)
theorem run_len (F : List C → Int → Int × Int × Int × List C) (c left right : Int) : ∀ (n : Nat) (s : St), (run F c left right n s).1.length ≤ n
  | 0, s => by simp [run]
  | n + 1, s => by
    have := run_len F c left right n (stepS F c left right s)
    simp only [run]
    split <;> simp; omega
theorem run_take (F : List C → Int → Int × Int × Int × List C) (c left right : Int) : ∀ (m n : Nat) (s : St), m ≤ n → (run F c left right m s).1 = (run F c left right n s).1.take m
  | 0, n, s, _ => by simp [run]
  | m + 1, 0, s, h => by omega
  | m + 1, n + 1, s, h => by
    have := run_take F c left right m n (stepS F c left right s) (by omega)
    simp only [run]
    split <;> simp [this]
theorem maCan (r c : Int) (cs : List C) (left right : Int) (b rd nx : Int) : spec_maCan.f r c cs left right b rd nx = some (can (cs, b, rd, nx)) := by
  unfold spec_maCan.f can
  by_cases h0 : nx = 0
  · have h1 : ¬ nx = 1 := by omega
    by_cases h2 : b > 0 <;> simp [h0, h1, h2]
  · by_cases h1 : nx = 1 <;> simp [h0, h1]
theorem canStep (r c : Int) (cs : List C) (left right : Int) (b rd nx : Int) : impl_canStep.f r c cs left right b rd nx = some (can (cs, b, rd, nx)) := maCan r c cs left right b rd nx
/-- What is known of a machine's board and columns. -/
structure Known (r c : Int) (cs0 : List C) (G : List Int) (F : List C → Int → Int × Int × Int × List C) (left right : Int) : Prop where
  all : ∀ cs col, Like cs cs0 → Board.Good r c cs → 0 ≤ col → col < c → Falls r c G cs col (F cs col)
  l0 : 0 ≤ left
  l1 : left < c
  r0 : 0 ≤ right
  r1 : right < c
theorem Known.at_ {r c : Int} {cs0 : List C} {G : List Int} {F : List C → Int → Int × Int × Int × List C} {left right : Int} (h : Known r c cs0 G F left right) (s : St) (hL : Like s.1 cs0) (hg : Board.Good r c s.1) : Falls r c G s.1 (col left right s) (F s.1 (col left right s)) := by
  unfold col
  split
  · exact h.all _ _ hL hg h.l0 h.l1
  · exact h.all _ _ hL hg h.r0 h.r1
theorem maStep {r c : Int} {cs0 : List C} {G : List Int} {F : List C → Int → Int × Int × Int × List C} {left right : Int} (h : Known r c cs0 G F left right) (cs : List C) (b rd nx : Int) (hL : Like cs cs0) (hg : Board.Good r c cs) :
    Ev (fun k => spec_maStep.f k r c cs left right b rd nx) (r, c, (stepS F c left right (cs, b, rd, nx)).1, left, right, (stepS F c left right (cs, b, rd, nx)).2.1, (stepS F c left right (cs, b, rd, nx)).2.2.1, (stepS F c left right (cs, b, rd, nx)).2.2.2, (stepE F left right (cs, b, rd, nx)).f1.f0, (stepE F left right (cs, b, rd, nx)).f1.f1, (stepE F left right (cs, b, rd, nx)).f1.f2) := by
  have hf : Ev (fun k => spec_flRun.f k r c cs (if nx = 0 then left else right)) ((F cs (col left right (cs, b, rd, nx))).1, (F cs (col left right (cs, b, rd, nx))).2.1, (F cs (col left right (cs, b, rd, nx))).2.2.1, r, c, (F cs (col left right (cs, b, rd, nx))).2.2.2) := (h.at_ (cs, b, rd, nx) hL hg).spec
  unfold spec_maStep.f
  exact Ev.bind hf (Ev.now _)
theorem spec_run {r c : Int} {cs0 : List C} {G : List Int} {F : List C → Int → Int × Int × Int × List C} {left right : Int} (h : Known r c cs0 G F left right) {n : Nat} (hn : n ≤ 60) (d : Nat) : ∀ (cs : List C) (b rd nx : Int) (cols : List Int) (fs : List FS), fs.length + d = n → cols.length = fs.length → Like cs cs0 → Board.Good r c cs →
    Ev (fun k => spec_maRun.l0 k n cols fs r c cs left right b rd nx) (r, c, (run F c left right d (cs, b, rd, nx)).2.1, left, right, (run F c left right d (cs, b, rd, nx)).2.2.1, (run F c left right d (cs, b, rd, nx)).2.2.2.1, (run F c left right d (cs, b, rd, nx)).2.2.2.2, cols ++ (run F c left right d (cs, b, rd, nx)).1.map (·.f0), fs ++ (run F c left right d (cs, b, rd, nx)).1.map (·.f1)) := by
  induction d with
  | zero =>
    intro cs b rd nx cols fs hd hc hL hg
    refine Ev.succ ?_
    simp only [spec_maRun.l0, run]
    refine Ev.neg (by omega) (Ev.val (Ev.now _) ?_)
    simp
  | succ d ih =>
    intro cs b rd nx cols fs hd hc hL hg
    have hf := h.at_ (cs, b, rd, nx) hL hg
    refine Ev.succ ?_
    simp only [spec_maRun.l0, maCan, Option.bind_some, run]
    refine Ev.pos (by omega) ?_
    by_cases hcan : can (cs, b, rd, nx) = true
    · refine Ev.pos hcan (Ev.pos (by omega) (Ev.bind (maStep h cs b rd nx hL hg) (Ev.pos (by omega) ?_)))
      simp only [if_pos hcan]
      have := ih (stepS F c left right (cs, b, rd, nx)).1 (stepS F c left right (cs, b, rd, nx)).2.1 (stepS F c left right (cs, b, rd, nx)).2.2.1 (stepS F c left right (cs, b, rd, nx)).2.2.2 (cols ++ [nx]) (fs ++ [(stepE F left right (cs, b, rd, nx)).f1]) (by simp; omega) (by simp; omega) (hf.like.trans hL) hf.good
      refine Ev.val this ?_
      simp [stepE]
    · refine Ev.neg hcan (Ev.val (Ev.now _) ?_)
      simp [hcan]
theorem impl_run {r c : Int} {cs0 : List C} {G : List Int} {F : List C → Int → Int × Int × Int × List C} {left right : Int} (h : Known r c cs0 G F left right) {n : Nat} (hn : n ≤ 60) (d : Nat) : ∀ (cs : List C) (b rd nx : Int) (es : List E), es.length + d = n → Like cs cs0 → Board.Good r c cs →
    Ev (fun k => impl_runSteps.l0 k n G r c cs left right b rd nx es) (r, c, (run F c left right d (cs, b, rd, nx)).2.1, left, right, (run F c left right d (cs, b, rd, nx)).2.2.1, (run F c left right d (cs, b, rd, nx)).2.2.2.1, (run F c left right d (cs, b, rd, nx)).2.2.2.2, es ++ (run F c left right d (cs, b, rd, nx)).1) := by
  induction d with
  | zero =>
    intro cs b rd nx es hd hL hg
    refine Ev.succ ?_
    simp only [impl_runSteps.l0, run]
    refine Ev.neg (by omega) (Ev.val (Ev.now _) ?_)
    simp
  | succ d ih =>
    intro cs b rd nx es hd hL hg
    have hf := h.at_ (cs, b, rd, nx) hL hg
    obtain ⟨W, hi⟩ := hf.impl
    refine Ev.succ ?_
    simp only [impl_runSteps.l0, canStep, Option.bind_some, run]
    refine Ev.pos (by omega) ?_
    by_cases hcan : can (cs, b, rd, nx) = true
    · refine Ev.pos hcan (Ev.bind hi (Ev.pos (by omega) ?_))
      simp only [if_pos hcan]
      have := ih (stepS F c left right (cs, b, rd, nx)).1 (stepS F c left right (cs, b, rd, nx)).2.1 (stepS F c left right (cs, b, rd, nx)).2.2.1 (stepS F c left right (cs, b, rd, nx)).2.2.2 (es ++ [stepE F left right (cs, b, rd, nx)]) (by simp; omega) (hf.like.trans hL) hf.good
      refine Ev.val this ?_
      simp
    · refine Ev.neg hcan (Ev.val (Ev.now _) ?_)
      simp [hcan]
/-- The run of a valid machine. -/
theorem runs {r c : Int} {cs : List C} {left right b rd nx : Int} (h : MGood r c cs left right b rd nx) : ∃ F : List C → Int → Int × Int × Int × List C, ∀ n : Nat, n ≤ 60 →
    (run F c left right n (cs, b, rd, nx)).2.1.length ≤ 90 ∧
    Ev (fun k => spec_maRun.f k r c cs left right b rd nx n) (r, c, (run F c left right n (cs, b, rd, nx)).2.1, left, right, (run F c left right n (cs, b, rd, nx)).2.2.1, (run F c left right n (cs, b, rd, nx)).2.2.2.1, (run F c left right n (cs, b, rd, nx)).2.2.2.2, (run F c left right n (cs, b, rd, nx)).1.map (·.f0), (run F c left right n (cs, b, rd, nx)).1.map (·.f1)) ∧
    Ev (fun k => impl_runSteps.f k r c cs left right b rd nx n) (r, c, (run F c left right n (cs, b, rd, nx)).2.1, left, right, (run F c left right n (cs, b, rd, nx)).2.2.1, (run F c left right n (cs, b, rd, nx)).2.2.2.1, (run F c left right n (cs, b, rd, nx)).2.2.2.2, (run F c left right n (cs, b, rd, nx)).1) := by
  obtain ⟨⟨hg, l0, l1⟩, ⟨_, r0, r1⟩, _⟩ := h
  have hl := hg.len
  obtain ⟨G, F, g, hF⟩ := falls hg
  have hK : Known r c cs G F left right := ⟨hF, l0, l1, r0, r1⟩
  refine ⟨F, fun n hn => ⟨?_, ?_, ?_⟩⟩
  · have len : ∀ (m : Nat) (s : St), Like s.1 cs → Board.Good r c s.1 → (run F c left right m s).2.1.length ≤ 90 := by
      intro m
      induction m with
      | zero => intro s hL hg'; simp only [run]; exact hg'.len.2
      | succ m ih =>
        intro s hL hg'
        simp only [run]
        split
        · have hf := hK.at_ s hL hg'
          exact ih _ (hf.like.trans hL) hf.good
        · exact hg'.len.2
    exact len n _ (Like.refl _) hg
  · unfold spec_maRun.f
    rw [boOwn (by omega)]
    simp only [Option.bind_some]
    have := spec_run hK hn n cs b rd nx [] [] (by simp) rfl (Like.refl _) hg
    simpa using this
  · unfold impl_runSteps.f
    rw [copyMachine (by omega)]
    simp only [Option.bind_some]
    refine Ev.bind g ?_
    have := impl_run hK hn n cs b rd nx [] (by simp) (Like.refl _) hg
    simpa using this
end Go.Proofs.Ythnehlphifegaaa.Run
