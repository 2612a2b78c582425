/- What is formed: the document's answer and the program's are one. -/
import Derived.Test.YthpmfghgoabnhaaGreatSp2
set_option linter.all false
namespace Go.Abs
def tally (lo hi : Int) : List Int → List Int → Option (List Int)
  | u, [] => some u
  | u, x :: l => if inR x lo hi then tally lo hi (u.set x.toNat (IntKind.i64.wrap (u.getD x.toNat 0 + 1))) l else none
def tallyNodes (p : BProg) : Nat → List Int → List BNode → Option (List Int)
  | _, u, [] => some u
  | i, u, n :: l => (tally ((i : Int) + 1) (p.nodes.length - 1) u n.kids).bind fun u => tallyNodes p (i + 1) u l
def allOne : Option (List Int) → Bool
  | some u => u.all fun c => decide (c = 1)
  | none => false
def formedB (p : BProg) : Bool :=
  decide ((p.nodes.length : Int) ≤ 300) && decide ((1 : Int) ≤ p.funs.length) && decide ((p.funs.length : Int) ≤ p.nodes.length) && decide ((p.cons.length : Int) ≤ 20) && inR p.main 0 (p.funs.length - 1) &&
    p.cons.all conOk && apartStr [] (p.cons.map BCon.name) && p.nodes.all (nodeOk p) &&
    allOne ((tally 0 (p.nodes.length - 1) (List.replicate p.nodes.length 0) p.funs).bind fun u => tallyNodes p 0 u p.nodes)
def meetE (hi : Int) : List Bool → List (Int × Int) → Option (List Bool)
  | u, [] => some u
  | u, (lo, x) :: l => if inR x lo hi && !(u.getD x.toNat false) then meetE hi (u.set x.toNat true) l else none
def tallyE (hi : Int) : List Int → List (Int × Int) → Option (List Int)
  | u, [] => some u
  | u, (lo, x) :: l => if inR x lo hi then tallyE hi (u.set x.toNat (IntKind.i64.wrap (u.getD x.toNat 0 + 1))) l else none
def evNodes : Nat → List BNode → List (Int × Int)
  | _, [] => []
  | i, n :: l => n.kids.map (fun k => ((i : Int) + 1, k)) ++ evNodes (i + 1) l
theorem meet_E (lo hi : Int) : ∀ (l : List Int) (u : List Bool), meet lo hi u l = meetE hi u (l.map fun x => (lo, x))
  | [], u => rfl
  | x :: l, u => by simp only [meet, List.map_cons, meetE]; split <;> first | exact meet_E lo hi l _ | rfl
theorem tally_E (lo hi : Int) : ∀ (l : List Int) (u : List Int), tally lo hi u l = tallyE hi u (l.map fun x => (lo, x))
  | [], u => rfl
  | x :: l, u => by simp only [tally, List.map_cons, tallyE]; split <;> first | exact tally_E lo hi l _ | rfl
theorem meetE_append (hi : Int) : ∀ (a b : List (Int × Int)) (u : List Bool), meetE hi u (a ++ b) = (meetE hi u a).bind fun u => meetE hi u b
  | [], b, u => rfl
  | (lo, x) :: a, b, u => by simp only [List.cons_append, meetE]; split <;> first | exact meetE_append hi a b _ | rfl
theorem tallyE_append (hi : Int) : ∀ (a b : List (Int × Int)) (u : List Int), tallyE hi u (a ++ b) = (tallyE hi u a).bind fun u => tallyE hi u b
  | [], b, u => rfl
  | (lo, x) :: a, b, u => by simp only [List.cons_append, tallyE]; split <;> first | exact tallyE_append hi a b _ | rfl
theorem tallyNodes_E (p : BProg) : ∀ (l : List BNode) (i : Nat) (u : List Int), tallyNodes p i u l = tallyE (p.nodes.length - 1) u (evNodes i l)
  | [], i, u => rfl
  | n :: l, i, u => by
    simp only [tallyNodes, evNodes, tallyE_append, tally_E]
    congr 1; funext u; exact tallyNodes_E p l (i + 1) u
theorem meetNodes_E (p : BProg) : ∀ (l : List BNode) (i : Nat) (u : List Bool), meetNodes p i u l = if l.all (nodeOk p) = true then meetE (p.nodes.length - 1) u (evNodes i l) else none
  | [], i, u => rfl
  | n :: l, i, u => by
    simp only [meetNodes, evNodes, meetE_append, meet_E, List.all_cons, Bool.and_eq_true]
    by_cases h : nodeOk p n = true
    · simp only [h, if_true, true_and]
      have ih := fun u => meetNodes_E p l (i + 1) u
      by_cases h2 : l.all (nodeOk p) = true
      · simp only [h2, if_true] at ih ⊢
        congr 1; funext u; exact ih u
      · simp only [h2, if_false] at ih ⊢
        simp only [ih]
        cases meetE (↑p.nodes.length - 1) u (List.map (fun k => (↑i + 1, k)) n.kids) <;> rfl
    · simp only [h, if_false, false_and]; rfl
theorem tallyE_two {hi : Int} : ∀ (evs : List (Int × Int)) (u : List Int) (i : Nat) (B : Int), i < u.length → 2 ≤ u.getD i 0 → (∀ c ∈ u, c ≤ B) → (∀ c ∈ u, 0 ≤ c) → B + evs.length ≤ 9223372036854775807 → allOne (tallyE hi u evs) = false
  | [], u, i, B, h, h2, hB, h0, hM => by
    simp only [tallyE, allOne]
    rw [← Bool.not_eq_true]
    intro ha
    have := List.all_eq_true.1 ha u[i] (List.getElem_mem _)
    simp only [List.getD_eq_getElem?_getD, List.getElem?_eq_getElem h, Option.getD_some] at h2
    simp at this; omega
  | (lo, x) :: evs, u, i, B, h, h2, hB, h0, hM => by
    simp only [tallyE]
    split
    · have hx : u.getD x.toNat 0 ≤ B ∧ 0 ≤ u.getD x.toNat 0 := by
        rw [List.getD_eq_getElem?_getD]
        cases hg : u[x.toNat]? with
        | none =>
          have := hB u[i] (List.getElem_mem _)
          have := h0 u[i] (List.getElem_mem _)
          simp; omega
        | some c => have := List.mem_of_getElem? hg; simp; exact ⟨hB c this, h0 c this⟩
      have hw : IntKind.i64.wrap (u.getD x.toNat 0 + 1) = u.getD x.toNat 0 + 1 := wrap_in (by simp at hM; omega)
      rw [hw]
      refine tallyE_two evs _ i (B + 1) (by simpa using h) ?_ ?_ ?_ (by simp at hM; omega)
      · rw [List.getD_eq_getElem?_getD, List.getElem?_set]
        split
        · rename_i e
          subst e
          simp only [h, if_true, Option.getD_some]
          omega
        · rw [← List.getD_eq_getElem?_getD]; exact h2
      · intro c hc
        rcases List.mem_or_eq_of_mem_set hc with hc | rfl
        · have := hB c hc; omega
        · omega
      · intro c hc
        rcases List.mem_or_eq_of_mem_set hc with hc | rfl
        · exact h0 c hc
        · omega
    · rfl
theorem ofBool_get {u : List Bool} {x : Nat} (h : x < u.length) : (u.map fun b => if b then (1 : Int) else 0).getD x 0 = if u.getD x false then 1 else 0 := by
  simp [List.getD_eq_getElem?_getD, h]
theorem meet_tally {hi : Int} (evs : List (Int × Int)) : ∀ (u : List Bool), (hi : Int) = u.length - 1 → (∀ e ∈ evs, 0 ≤ e.1) → (evs.length : Int) ≤ 1000000 →
    allMet (meetE hi u evs) = allOne (tallyE hi (u.map fun b => if b then 1 else 0) evs) := by
  induction evs with
  | nil =>
    intro u _ _ _
    simp only [meetE, tallyE, allMet, allOne, List.all_map]
    congr 1
    funext b
    cases b <;> rfl
  | cons e evs ih =>
    obtain ⟨lo, x⟩ := e
    intro u hh hlo hM
    simp only [meetE, tallyE]
    have hl := hlo (lo, x) (by simp)
    simp only at hl
    have hM' : (evs.length : Int) + 1 ≤ 1000000 := by simpa using hM
    by_cases hx : inR x lo hi = true
    · have hx' := hx
      simp only [inR, decide_eq_true_eq] at hx'
      have hlt : x.toNat < u.length := by omega
      simp only [hx, Bool.true_and, if_true]
      rw [ofBool_get hlt]
      cases hb : u.getD x.toNat false with
      | true =>
        simp only [Bool.not_true, Bool.false_eq_true, if_false, if_true, allMet]
        symm
        have hw : IntKind.i64.wrap ((1 : Int) + 1) = 2 := by rw [wrap_in (by omega)]; rfl
        rw [hw]
        have hbd : ∀ c ∈ (u.map fun b => if b then (1 : Int) else 0).set x.toNat 2, 0 ≤ c ∧ c ≤ 2 := by
          intro c hc
          rcases List.mem_or_eq_of_mem_set hc with hc | rfl
          · obtain ⟨b, _, rfl⟩ := List.mem_map.1 hc; split <;> omega
          · omega
        exact tallyE_two evs _ x.toNat 2 (by simpa using hlt) (by simp [List.getD_eq_getElem?_getD, hlt]) (fun c hc => (hbd c hc).2) (fun c hc => (hbd c hc).1) (by omega)
      | false =>
        simp only [Bool.not_false, if_true, Bool.false_eq_true, if_false]
        have hw : IntKind.i64.wrap ((0 : Int) + 1) = 1 := by rw [wrap_in (by omega)]; rfl
        rw [hw, ih (u.set x.toNat true) (by simpa using hh) (fun e he => hlo e (by simp [he])) (by omega), List.map_set]
        rfl
    · simp only [Bool.not_eq_true] at hx
      simp only [hx, Bool.false_and, Bool.false_eq_true, if_false, allMet, allOne]
theorem evNodes_lo : ∀ (l : List BNode) (i : Nat), ∀ e ∈ evNodes i l, 0 ≤ e.1
  | [], i, e, h => by simp [evNodes] at h
  | n :: l, i, e, h => by
    simp only [evNodes, List.mem_append, List.mem_map] at h
    rcases h with ⟨k, _, rfl⟩ | h
    · simp only; omega
    · exact evNodes_lo l (i + 1) e h
theorem evNodes_len : ∀ (l : List BNode) (i : Nat), (∀ n ∈ l, n.kids.length ≤ 10) → (evNodes i l).length ≤ 10 * l.length
  | [], i, _ => by simp [evNodes]
  | n :: l, i, h => by
    have := evNodes_len l (i + 1) fun m hm => h m (by simp [hm])
    have h2 := h n (by simp)
    simp only [evNodes, List.length_append, List.length_map, List.length_cons]
    omega
theorem formed_same (p : BProg) (hs : smallProg p = true) : formedB p = formedOk p := by
  simp only [smallProg, Bool.and_eq_true, decide_eq_true_eq] at hs
  obtain ⟨⟨⟨⟨h1, h2⟩, h3⟩, h4⟩, h5⟩ := hs
  have hk : ∀ n ∈ p.nodes, n.kids.length ≤ 10 := by
    intro n hn
    have := List.all_eq_true.1 h5 n hn
    simp only [smallNode, Bool.and_eq_true, decide_eq_true_eq] at this
    omega
  have key : p.nodes.all (nodeOk p) = true → allMet ((meet 0 (p.nodes.length - 1) (List.replicate p.nodes.length false) p.funs).bind fun u => meetNodes p 0 u p.nodes) =
      allOne ((tally 0 (p.nodes.length - 1) (List.replicate p.nodes.length 0) p.funs).bind fun u => tallyNodes p 0 u p.nodes) := by
    intro hn
    simp only [meet_E, tally_E, meetNodes_E, tallyNodes_E, hn, if_true]
    rw [← meetE_append, ← tallyE_append]
    have := meet_tally (hi := (p.nodes.length : Int) - 1) (List.map (fun x => ((0 : Int), x)) p.funs ++ evNodes 0 p.nodes) (List.replicate p.nodes.length false) (by simp) (fun e he => by
      rcases List.mem_append.1 he with he | he
      · obtain ⟨x, _, rfl⟩ := List.mem_map.1 he; simp
      · exact evNodes_lo _ _ _ he) (by
      have := evNodes_len p.nodes 0 hk
      simp; omega)
    rw [this]
    simp [List.map_replicate]
  have none_ : p.nodes.all (nodeOk p) = false → allMet ((meet 0 (p.nodes.length - 1) (List.replicate p.nodes.length false) p.funs).bind fun u => meetNodes p 0 u p.nodes) = false := by
    intro hn
    simp only [meetNodes_E, hn, Bool.false_eq_true, if_false]
    cases meet 0 (↑p.nodes.length - 1) (List.replicate p.nodes.length false) p.funs <;> rfl
  have e1 : inR p.funs.length 1 p.nodes.length = (decide ((1 : Int) ≤ p.funs.length) && decide ((p.funs.length : Int) ≤ p.nodes.length)) := by simp [inR]
  simp only [formedB, formedOk, consOk, e1]
  cases hn : p.nodes.all (nodeOk p) with
  | true => rw [key hn]; simp only [Bool.and_true, Bool.and_assoc]; ac_rfl
  | false => rw [none_ hn]; simp
end Go.Abs
