/- What the data of chapters 5, 6 and 18 must be: plain definitions. -/
import Derived.Test.YthpmfghgoabnhaaGreatHxE
set_option linter.all false
namespace Go.Abs
theorem wrap_pred {n : Nat} (h : Few n) : IntKind.i64.wrap ((n : Int) - 1) = (n : Int) - 1 := by unfold Few at h; exact wrap_in (by omega)
theorem few_take {α : Type} {l : List α} (h : Few l.length) (k : Nat) : Few (l.take k).length := by unfold Few at *; simp; omega
def MFrame.few (f : MFrame) : Prop := Few f.env.length ∧ Few f.vals.length
def MObj.few (o : MObj) : Prop := Few o.vals.length ∧ Few o.frames.length ∧ ∀ f ∈ o.frames, f.few
structure MWorld.few (w : MWorld) : Prop where
  objs : Few w.objs.length
  tasks : Few w.tasks.length
  outs : Few w.outs.length
  ins : Few w.ins.length
  obj : ∀ o ∈ w.objs, o.few
inductive Pat.few : Pat → Prop
  | mk (f n : Int) (t : ByteArray) (l : List Pat) (h : Few l.length) (ht : Few t.size) (k : ∀ p ∈ l, Pat.few p) : Pat.few (.mk f n t l)
structure BNode.few (n : BNode) : Prop where
  kids : Few n.kids.length
  pats : Few n.pats.length
  pat : ∀ q ∈ n.pats, q.few
structure BProg.few (p : BProg) : Prop where
  nodes : Few p.nodes.length
  funs : Few p.funs.length
  cons : Few p.cons.length
  node : ∀ n ∈ p.nodes, n.few
  con : ∀ c ∈ p.cons, Few c.name.size
def inR (n lo hi : Int) : Bool := decide (lo ≤ n ∧ n ≤ hi)
def BNode.asks (n : BNode) : Int :=
  if n.op = 6 ∨ n.op = 9 ∨ n.op = 10 ∨ n.op = 11 ∨ n.op = 12 ∨ n.op = 13 ∨ n.op = 18 ∨ n.op = 22 then 2
  else if n.op = 14 then n.kids.length
  else if n.op = 7 ∨ n.op = 8 ∨ n.op = 15 ∨ n.op = 16 ∨ n.op = 17 ∨ n.op = 19 ∨ n.op = 20 ∨ n.op = 23 ∨ n.op = 24 ∨ n.op = 26 then 1 else 0
def BProg.node (p : BProg) (i : Int) : BNode := p.nodes.getD i.toNat default
def valueOk (p : BProg) (w : MWorld) (v : MVal) : Bool :=
  if v.kind = 1 then inR v.n (-1000000000) 1000000000
  else if v.kind = 2 then inR v.n 0 1
  else if v.kind = 3 then decide (v.n = 0)
  else if v.kind = 4 then inR v.n 0 (p.funs.length - 1)
  else if v.kind = 5 then inR v.n 0 (w.objs.length - 1) else false
def valuesOk (p : BProg) (w : MWorld) (l : List MVal) (most : Int) : Bool := decide ((l.length : Int) ≤ most) && l.all (valueOk p w)
def frameOk (p : BProg) (w : MWorld) (f : MFrame) : Bool :=
  inR f.node 0 (p.nodes.length - 1) && valuesOk p w f.env 30 && valuesOk p w f.vals (p.node f.node).asks
def framesOk (p : BProg) (w : MWorld) (l : List MFrame) : Bool := decide ((l.length : Int) ≤ 40) && l.all (frameOk p w)
def frameOpen (p : BProg) (f : MFrame) : Bool := decide ((f.vals.length : Int) < (p.node f.node).asks)
def taskOk (p : BProg) (w : MWorld) (o : MObj) : Bool :=
  if o.n = 0 then framesOk p w o.frames && valuesOk p w o.vals 1 && decide ((0 : Int) < o.frames.length + o.vals.length) && (o.frames.take (o.frames.length + o.vals.length - 1)).all (frameOpen p)
  else if o.n = 1 then decide ((o.frames.length : Int) = 0) && decide ((o.vals.length : Int) = 1) && valuesOk p w o.vals 1
  else if o.n = 2 ∨ o.n = 3 ∨ o.n = 4 then decide ((o.frames.length : Int) = 0) && decide ((o.vals.length : Int) = 0) else false
def objOk (p : BProg) (w : MWorld) (o : MObj) : Bool :=
  if o.form = 6 then taskOk p w o
  else if o.form = 5 then decide (o.n = 0) && decide ((o.vals.length : Int) = 0) && decide ((0 : Int) < o.frames.length) && framesOk p w o.frames && o.frames.all (frameOpen p) && decide ((p.node (o.frames.headD default).node).op = 26)
  else if ¬ (o.frames.length : Int) = 0 then false
  else if o.form = 1 then inR o.n 0 (p.cons.length - 1) && decide ((o.vals.length : Int) = (p.cons.getD o.n.toNat default).args) && valuesOk p w o.vals 3
  else if o.form = 2 then inR o.n 0 (p.nodes.length - 1) && decide ((p.node o.n).op = 5) && valuesOk p w o.vals 30
  else if o.form = 3 then decide (o.n = 0) && decide ((o.vals.length : Int) = 1) && valuesOk p w o.vals 1
  else if o.form = 4 then decide (o.n = 0) && valuesOk p w o.vals 4 else false
def isTask (o : MObj) : Bool := decide (o.form = 6)
def MWorld.obj (w : MWorld) (i : Int) : MObj := w.objs.getD i.toNat default
def distinctTasks (w : MWorld) : List Int → List Int → Bool
  | _, [] => true
  | met, k :: l => inR k 0 (w.objs.length - 1) && isTask (w.obj k) && !met.any (fun x => decide (x = k)) && distinctTasks w (met ++ [k]) l
def tasksOk (w : MWorld) : Bool := decide (w.tasks.length = w.objs.countP isTask) && distinctTasks w [] w.tasks
def intsOk (l : List Int) (most : Int) : Bool := decide ((l.length : Int) ≤ most) && l.all fun n => inR n (-1000000000) 1000000000
def outOk (o : MOut) : Bool := inR o.port 0 3 && inR o.n (-1000000000) 1000000000
def worldOk (p : BProg) (w : MWorld) : Bool :=
  decide ((w.objs.length : Int) ≤ 120) && decide ((w.outs.length : Int) ≤ 100) && intsOk w.ins 50 && inR w.used 0 1000000000 && tasksOk w && w.objs.all (objOk p w) && w.outs.all outOk
def smallObj (o : MObj) : Bool := decide ((o.vals.length : Int) ≤ 40) && decide ((o.frames.length : Int) ≤ 50) && o.frames.all fun f => decide ((f.env.length : Int) ≤ 40) && decide ((f.vals.length : Int) ≤ 40)
def smallWorld (w : MWorld) : Bool :=
  decide ((w.objs.length : Int) ≤ 130) && decide ((w.tasks.length : Int) ≤ 130) && decide ((w.outs.length : Int) ≤ 110) && decide ((w.ins.length : Int) ≤ 60) && w.objs.all smallObj
theorem count_step {α : Type} {l : List α} {k : Nat} (h : k < l.length) (p : α → Bool) : (l.take (k + 1)).countP p = (l.take k).countP p + (if p l[k] then 1 else 0) := by
  rw [← List.take_append_getElem h, List.countP_append]; simp [List.countP_cons]
theorem take_step {α : Type} {l : List α} {k : Nat} (h : k < l.length) : l.take (k + 1) = l.take k ++ [l[k]] := by
  rw [List.take_append_getElem h]
theorem ia_in {α : Type} {f : α → Val} {size : Nat} {l : List α} {k : IntKind} {i : Int} {en : En} (d : α) (h : inR i 0 ((l.length : Int) - 1) = true) (hs : ∀ x, (f x).cells.length = size) :
    opIa size en (.fz (l.map f)) (.int k i) = some { v := .fp (f (l.getD i.toNat d)).cells 0 } := by
  simp only [inR, decide_eq_true_eq] at h
  obtain ⟨j, rfl⟩ := Int.eq_ofNat_of_zero_le h.1
  have hj : j < l.length := by omega
  rw [ia_map (f := f) hj (by simp [hs])]
  simp [List.getD_eq_getElem?_getD, hj]
theorem ia_node {p : BProg} {k : IntKind} {i : Int} {en : En} (h : inR i 0 ((p.nodes.length : Int) - 1) = true) :
    opIa 4 en (.fz (p.nodes.map BNode.enc)) (.int k i) = some { v := .fp (BNode.enc (p.node i)).cells 0 } := ia_in default h fun x => rfl
theorem ia_frame0 {l : List MFrame} {k : IntKind} {en : En} (h : 0 < l.length) : opIa 3 en (.fz (l.map MFrame.enc)) (.int k 0) = some { v := .fp (MFrame.enc (l.headD default)).cells 0 } := by
  have := ia_in (f := MFrame.enc) (size := 3) (k := k) (i := 0) (en := en) default (l := l) (by simp [inR]; omega) (fun _ => rfl)
  rw [this]
  cases l <;> simp at h ⊢
theorem ia_con {l : List BCon} {k : IntKind} {i : Int} {en : En} (h : inR i 0 ((l.length : Int) - 1) = true) :
    opIa 2 en (.fz (l.map BCon.enc)) (.int k i) = some { v := .fp (BCon.enc (l.getD i.toNat default)).cells 0 } := ia_in default h fun x => rfl
theorem ia_obj {w : MWorld} {k : IntKind} {i : Int} {en : En} (h : inR i 0 ((w.objs.length : Int) - 1) = true) :
    opIa 4 en (.fz (w.objs.map MObj.enc)) (.int k i) = some { v := .fp (MObj.enc (w.obj i)).cells 0 } := ia_in default h fun x => rfl
theorem ia_int {l : List Int} {k : IntKind} {i : Int} {en : En} (h : inR i 0 ((l.length : Int) - 1) = true) :
    opIa 1 en (.fz (l.map (.int .i64))) (.int k i) = some { v := .fp [.int .i64 (l.getD i.toNat 0)] 0 } := ia_in 0 h fun x => rfl
def RState.few (s : RState) : Prop := s.world.few ∧ Few s.ages.length ∧ Few s.marks.length
def smallState (s : RState) : Bool := smallWorld s.world && decide ((s.ages.length : Int) ≤ 130) && decide ((s.marks.length : Int) ≤ 130)
def blankS : RState := ⟨⟨[], [], [], [], 0⟩, [], [], 0⟩
end Go.Abs
