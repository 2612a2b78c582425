/- What the laws are handed, as records. -/
import Derived.Test.YthpmfghgoabnhaaGreatW12
import Derived.Test.YthpmfghgoabnhaaGreatRows
import Derived.Test.YthpmfghgoabnhaaGreatHxE
set_option linter.all false
namespace Go.Proofs.YthpmfghgoabnhaaGreat
open Go.Abs Go.Proofs
set_option maxRecDepth 100000
theorem fits_MVal {n : Nat} {x : List Val} (h : Fits Tryz.prog (n + 2) 75 x) : ∃ a : MVal, pack Tryz.prog 75 x = MVal.enc a ∧ True := by
  have h1 := fits_struct Tryz.underlying75 h
  simp only [FitsFs] at h1
  obtain ⟨a, b, rfl, _, ha, c, d, rfl, _, hc, rfl⟩ := h1
  obtain ⟨i, rfl⟩ := fits_int (k := .i64) (by first | exact Tryz.underlying74 | kernel_rfl) ha
  obtain ⟨j, rfl⟩ := fits_int Tryz.underlying3 hc
  exact ⟨⟨i, j⟩, by simp [pack, isAggT, Tryz.underlying75, MVal.enc], trivial⟩
theorem fits_ints {n : Nat} {x : List Val} (h : Fits Tryz.prog (n + 2) 23 x) : ∃ l : List Int, x = [.fz (l.map (.int .i64))] ∧ Few l.length := by
  obtain ⟨l, h1, h2, _⟩ := fits_slice (Val.int .i64) (fun _ => True) Tryz.underlying23 (fun y hy => by
    obtain ⟨i, rfl⟩ := fits_int Tryz.underlying3 hy
    exact ⟨i, by simp [pack, isAggT, Tryz.underlying3], trivial⟩) h
  exact ⟨l, h1, h2⟩
theorem fits_vals {n : Nat} {x : List Val} (h : Fits Tryz.prog (n + 3) 102 x) : ∃ l : List MVal, x = [.fz (l.map MVal.enc)] ∧ Few l.length := by
  obtain ⟨l, h1, h2, _⟩ := fits_slice MVal.enc (fun _ => True) Tryz.underlying102 (fun y hy => fits_MVal hy) h
  exact ⟨l, h1, h2⟩
theorem fits_MFrame {n : Nat} {x : List Val} (h : Fits Tryz.prog (n + 4) 114 x) : ∃ a : MFrame, pack Tryz.prog 114 x = MFrame.enc a ∧ a.few := by
  have h1 := fits_struct Tryz.underlying114 h
  simp only [FitsFs] at h1
  obtain ⟨a, b, rfl, _, ha, c, d, rfl, _, hc, e, f, rfl, _, he, rfl⟩ := h1
  obtain ⟨i, rfl⟩ := fits_int Tryz.underlying3 ha
  obtain ⟨l, rfl, hl⟩ := fits_vals hc
  obtain ⟨m, rfl, hm⟩ := fits_vals he
  exact ⟨⟨i, l, m⟩, by simp [pack, isAggT, Tryz.underlying114, MFrame.enc], hl, hm⟩
theorem fits_frames {n : Nat} {x : List Val} (h : Fits Tryz.prog (n + 5) 103 x) : ∃ l : List MFrame, x = [.fz (l.map MFrame.enc)] ∧ Few l.length ∧ ∀ f ∈ l, f.few :=
  fits_slice MFrame.enc MFrame.few Tryz.underlying103 (fun y hy => fits_MFrame hy) h
theorem fits_MObj {n : Nat} {x : List Val} (h : Fits Tryz.prog (n + 6) 105 x) : ∃ a : MObj, pack Tryz.prog 105 x = MObj.enc a ∧ a.few := by
  have h1 := fits_struct Tryz.underlying105 h
  simp only [FitsFs] at h1
  obtain ⟨a, b, rfl, _, ha, c, d, rfl, _, hc, e, f, rfl, _, he, g, k, rfl, _, hg, rfl⟩ := h1
  obtain ⟨i, rfl⟩ := fits_int (k := .i64) (by first | exact Tryz.underlying101 | kernel_rfl) ha
  obtain ⟨j, rfl⟩ := fits_int Tryz.underlying3 hc
  obtain ⟨l, rfl, hl⟩ := fits_vals he
  obtain ⟨m, rfl, hm, hm2⟩ := fits_frames hg
  exact ⟨⟨i, j, l, m⟩, by simp [pack, isAggT, Tryz.underlying105, MObj.enc], hl, hm, hm2⟩
theorem fits_MOut {n : Nat} {x : List Val} (h : Fits Tryz.prog (n + 2) 125 x) : ∃ a : MOut, pack Tryz.prog 125 x = MOut.enc a ∧ True := by
  have h1 := fits_struct Tryz.underlying125 h
  simp only [FitsFs] at h1
  obtain ⟨a, b, rfl, _, ha, c, d, rfl, _, hc, rfl⟩ := h1
  obtain ⟨i, rfl⟩ := fits_int Tryz.underlying3 ha
  obtain ⟨j, rfl⟩ := fits_int Tryz.underlying3 hc
  exact ⟨⟨i, j⟩, by simp [pack, isAggT, Tryz.underlying125, MOut.enc], trivial⟩
theorem fits_MWorld {n : Nat} {x : List Val} (h : Fits Tryz.prog (n + 8) 30 x) : ∃ w : MWorld, x = [.fz (w.objs.map MObj.enc), .fz (w.tasks.map (.int .i64)), .fz (w.outs.map MOut.enc), .fz (w.ins.map (.int .i64)), .int .i64 w.used] ∧ w.few := by
  have h1 := fits_struct Tryz.underlying30 h
  simp only [FitsFs] at h1
  obtain ⟨a, b, rfl, _, ha, c, d, rfl, _, hc, e, f, rfl, _, he, g, k, rfl, _, hg, r, q, rfl, _, hr, rfl⟩ := h1
  obtain ⟨l1, rfl, f1, f1'⟩ := fits_slice MObj.enc MObj.few Tryz.underlying27 (fun y hy => fits_MObj hy) ha
  obtain ⟨l2, rfl, f2⟩ := fits_ints hc
  obtain ⟨l3, rfl, f3, _⟩ := fits_slice MOut.enc (fun _ => True) Tryz.underlying28 (fun y hy => fits_MOut hy) he
  obtain ⟨l4, rfl, f4⟩ := fits_ints hg
  obtain ⟨i, rfl⟩ := fits_int Tryz.underlying3 hr
  exact ⟨⟨l1, l2, l3, l4, i⟩, rfl, ⟨f1, f2, f3, f4, f1'⟩⟩
theorem fits_RState {n : Nat} {x : List Val} (h : Fits Tryz.prog (n + 9) 48 x) : ∃ s : RState, x = [.fz (s.world.objs.map MObj.enc), .fz (s.world.tasks.map (.int .i64)), .fz (s.world.outs.map MOut.enc), .fz (s.world.ins.map (.int .i64)), .int .i64 s.world.used, .fz (s.ages.map (.int .i64)), .fz (s.marks.map (.int .i64)), .int .i64 s.cycle] ∧ s.few := by
  have h1 := fits_struct Tryz.underlying48 h
  simp only [FitsFs] at h1
  obtain ⟨a, b, rfl, _, ha, c, d, rfl, _, hc, e, f, rfl, _, he, g, k, rfl, _, hg, rfl⟩ := h1
  obtain ⟨w, rfl, hw⟩ := fits_MWorld ha
  obtain ⟨l2, rfl, f2⟩ := fits_ints hc
  obtain ⟨l3, rfl, f3⟩ := fits_ints he
  obtain ⟨i, rfl⟩ := fits_int Tryz.underlying3 hg
  exact ⟨⟨w, l2, l3, i⟩, rfl, hw, f2, f3⟩
theorem fits_Pat : ∀ (n : Nat) {x : List Val}, Fits Tryz.prog n 134 x → ∃ q : Pat, pack Tryz.prog 134 x = Pat.enc q ∧ q.few
  | 0, x, h => by simp [Fits] at h
  | 1, x, h => by
    have h1 := fits_struct Tryz.underlying134 h
    simp only [FitsFs] at h1
    obtain ⟨a, b, rfl, _, ha, _⟩ := h1
    simp [Fits] at ha
  | n + 2, x, h => by
    have h1 := fits_struct Tryz.underlying134 h
    simp only [FitsFs] at h1
    obtain ⟨a, b, rfl, _, ha, c, d, rfl, _, hc, e, f, rfl, _, he, g, k, rfl, _, hg, rfl⟩ := h1
    obtain ⟨i, rfl⟩ := fits_int (k := .i64) (by first | exact Tryz.underlying132 | kernel_rfl) ha
    obtain ⟨j, rfl⟩ := fits_int Tryz.underlying3 hc
    obtain ⟨t, rfl, ht⟩ := fits_str (by first | exact Tryz.underlying9 | kernel_rfl) he
    obtain ⟨l, rfl, hl, hq⟩ := fits_slice Pat.enc Pat.few Tryz.underlying128 (fun y hy => fits_Pat n hy) hg
    exact ⟨.mk i j t l, by simp [pack, isAggT, Tryz.underlying134, Pat.enc, Pat.encL_map], .mk i j t l hl ht hq⟩
theorem fits_BNode {n : Nat} {x : List Val} (h : Fits Tryz.prog (n + 4) 130 x) : ∃ a : BNode, pack Tryz.prog 130 x = BNode.enc a ∧ a.few := by
  have h1 := fits_struct Tryz.underlying130 h
  simp only [FitsFs] at h1
  obtain ⟨a, b, rfl, _, ha, c, d, rfl, _, hc, e, f, rfl, _, he, g, k, rfl, _, hg, rfl⟩ := h1
  obtain ⟨i, rfl⟩ := fits_int (k := .i64) (by first | exact Tryz.underlying72 | kernel_rfl) ha
  obtain ⟨j, rfl⟩ := fits_int Tryz.underlying3 hc
  obtain ⟨l, rfl, hl⟩ := fits_ints he
  obtain ⟨m, rfl, hm, hm2⟩ := fits_slice Pat.enc Pat.few Tryz.underlying128 (fun y hy => fits_Pat _ hy) hg
  exact ⟨⟨i, j, l, m⟩, by simp [pack, isAggT, Tryz.underlying130, BNode.enc, ints], ⟨hl, hm, hm2⟩⟩
theorem fits_BCon {n : Nat} {x : List Val} (h : Fits Tryz.prog (n + 2) 127 x) : ∃ a : BCon, pack Tryz.prog 127 x = BCon.enc a ∧ Few a.name.size := by
  have h1 := fits_struct Tryz.underlying127 h
  simp only [FitsFs] at h1
  obtain ⟨a, b, rfl, _, ha, c, d, rfl, _, hc, rfl⟩ := h1
  obtain ⟨t, rfl, ht⟩ := fits_str (by first | exact Tryz.underlying9 | kernel_rfl) ha
  obtain ⟨j, rfl⟩ := fits_int Tryz.underlying3 hc
  exact ⟨⟨t, j⟩, by simp [pack, isAggT, Tryz.underlying127, BCon.enc], ht⟩
theorem fits_BProg {n : Nat} {x : List Val} (h : Fits Tryz.prog (n + 6) 26 x) : ∃ p : BProg, x = [.fz (p.nodes.map BNode.enc), .fz (p.funs.map (.int .i64)), .int .i64 p.main, .fz (p.cons.map BCon.enc)] ∧ p.few := by
  have h1 := fits_struct Tryz.underlying26 h
  simp only [FitsFs] at h1
  obtain ⟨a, b, rfl, _, ha, c, d, rfl, _, hc, e, f, rfl, _, he, g, k, rfl, _, hg, rfl⟩ := h1
  obtain ⟨l1, rfl, f1, f1'⟩ := fits_slice BNode.enc BNode.few Tryz.underlying22 (fun y hy => fits_BNode hy) ha
  obtain ⟨l2, rfl, f2⟩ := fits_ints hc
  obtain ⟨i, rfl⟩ := fits_int Tryz.underlying3 he
  obtain ⟨l3, rfl, f3, f3'⟩ := fits_slice BCon.enc (fun c => Few c.name.size) Tryz.underlying24 (fun y hy => fits_BCon hy) hg
  exact ⟨⟨l1, l2, i, l3⟩, rfl, ⟨f1, f2, f3, f1', f3'⟩⟩
end Go.Proofs.YthpmfghgoabnhaaGreat
