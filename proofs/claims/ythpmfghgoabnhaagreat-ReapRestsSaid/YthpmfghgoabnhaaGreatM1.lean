/- Contracts of functions of the program and of the document: part 1. -/
import Derived.Test.YthpmfghgoabnhaaGreatHxE
import Derived.Laws.Strings
import Derived.Test.YthpmfghgoabnhaaGreatCo
set_option linter.all false
namespace Go.Abs
theorem wrap_pred {n : Nat} (h : Few n) : IntKind.i64.wrap ((n : Int) - 1) = (n : Int) - 1 := by unfold Few at h; exact wrap_in (by omega)
theorem few_take {α : Type} {l : List α} (h : Few l.length) (k : Nat) : Few (l.take k).length := by unfold Few at *; simp; omega
def MFrame.few (f : MFrame) : Prop := Few f.env.length ∧ Few f.vals.length
def MObj.few (o : MObj) : Prop := Few o.vals.length ∧ Few o.frames.length ∧ ∀ f ∈ o.frames,f.few
structure MWorld.few (w : MWorld) : Prop where
 objs : Few w.objs.length
 tasks : Few w.tasks.length
 outs : Few w.outs.length
 ins : Few w.ins.length
 obj : ∀ o ∈ w.objs,o.few
inductive Pat.few : Pat → Prop
 | mk (f n : Int) (t : ByteArray) (l : List Pat) (h : Few l.length) (ht : Few t.size) (k : ∀ p ∈ l,Pat.few p) : Pat.few (.mk f n t l)
structure BNode.few (n : BNode) : Prop where
 kids : Few n.kids.length
 pats : Few n.pats.length
 pat : ∀ q ∈ n.pats,q.few
structure BProg.few (p : BProg) : Prop where
 nodes : Few p.nodes.length
 funs : Few p.funs.length
 cons : Few p.cons.length
 node : ∀ n ∈ p.nodes,n.few
 con : ∀ c ∈ p.cons,Few c.name.size
def inR (n lo hi : Int) : Bool := decide (lo ≤ n ∧ n ≤ hi)
def BNode.asks (n : BNode) : Int :=
 if n.op = 6 ∨ n.op = 9 ∨ n.op = 10 ∨ n.op = 11 ∨ n.op = 12 ∨ n.op = 13 ∨ n.op = 18 ∨ n.op = 22 then 2
 else if n.op = 14 then n.kids.length
 else if n.op = 7 ∨ n.op = 8 ∨ n.op = 15 ∨ n.op = 16 ∨ n.op = 17 ∨ n.op = 19 ∨ n.op = 20 ∨ n.op = 23 ∨ n.op = 24 ∨ n.op = 26 then 1 else 0
def BProg.node (p : BProg) (i : Int) : BNode := p.nodes.getD i.toNat default
def valueOk (p : BProg) (w : MWorld) (v : MVal) : Bool :=
 if v.kind = 1 then inR v.n (-1000000000) 1000000000
 else if v.kind = 2 then inR v.n 0 1
 else if v.kind = 3 then decide (v.n = 0)
 else if v.kind = 4 then inR v.n 0 (p.funs.length - 1)
 else if v.kind = 5 then inR v.n 0 (w.objs.length - 1) else false
def valuesOk (p : BProg) (w : MWorld) (l : List MVal) (most : Int) : Bool := decide ((l.length : Int) ≤ most) && l.all (valueOk p w)
def frameOk (p : BProg) (w : MWorld) (f : MFrame) : Bool :=
 inR f.node 0 (p.nodes.length - 1) && valuesOk p w f.env 30 && valuesOk p w f.vals (p.node f.node).asks
def framesOk (p : BProg) (w : MWorld) (l : List MFrame) : Bool := decide ((l.length : Int) ≤ 40) && l.all (frameOk p w)
def frameOpen (p : BProg) (f : MFrame) : Bool := decide ((f.vals.length : Int) < (p.node f.node).asks)
def taskOk (p : BProg) (w : MWorld) (o : MObj) : Bool :=
 if o.n = 0 then framesOk p w o.frames && valuesOk p w o.vals 1 && decide ((0 : Int) < o.frames.length + o.vals.length) && (o.frames.take (o.frames.length + o.vals.length - 1)).all (frameOpen p)
 else if o.n = 1 then decide ((o.frames.length : Int) = 0) && decide ((o.vals.length : Int) = 1) && valuesOk p w o.vals 1
 else if o.n = 2 ∨ o.n = 3 ∨ o.n = 4 then decide ((o.frames.length : Int) = 0) && decide ((o.vals.length : Int) = 0) else false
def objOk (p : BProg) (w : MWorld) (o : MObj) : Bool :=
 if o.form = 6 then taskOk p w o
 else if o.form = 5 then decide (o.n = 0) && decide ((o.vals.length : Int) = 0) && decide ((0 : Int) < o.frames.length) && framesOk p w o.frames && o.frames.all (frameOpen p) && decide ((p.node (o.frames.headD default).node).op = 26)
 else if ¬ (o.frames.length : Int) = 0 then false
 else if o.form = 1 then inR o.n 0 (p.cons.length - 1) && decide ((o.vals.length : Int) = (p.cons.getD o.n.toNat default).args) && valuesOk p w o.vals 3
 else if o.form = 2 then inR o.n 0 (p.nodes.length - 1) && decide ((p.node o.n).op = 5) && valuesOk p w o.vals 30
 else if o.form = 3 then decide (o.n = 0) && decide ((o.vals.length : Int) = 1) && valuesOk p w o.vals 1
 else if o.form = 4 then decide (o.n = 0) && valuesOk p w o.vals 4 else false
def isTask (o : MObj) : Bool := decide (o.form = 6)
def MWorld.obj (w : MWorld) (i : Int) : MObj := w.objs.getD i.toNat default
def distinctTasks (w : MWorld) : List Int → List Int → Bool
 | _,[] => true
 | met,k :: l => inR k 0 (w.objs.length - 1) && isTask (w.obj k) && !met.any (fun x => decide (x = k)) && distinctTasks w (met ++ [k]) l
def tasksOk (w : MWorld) : Bool := decide (w.tasks.length = w.objs.countP isTask) && distinctTasks w [] w.tasks
def intsOk (l : List Int) (most : Int) : Bool := decide ((l.length : Int) ≤ most) && l.all fun n => inR n (-1000000000) 1000000000
def outOk (o : MOut) : Bool := inR o.port 0 3 && inR o.n (-1000000000) 1000000000
def worldOk (p : BProg) (w : MWorld) : Bool :=
 decide ((w.objs.length : Int) ≤ 120) && decide ((w.outs.length : Int) ≤ 100) && intsOk w.ins 50 && inR w.used 0 1000000000 && tasksOk w && w.objs.all (objOk p w) && w.outs.all outOk
def smallObj (o : MObj) : Bool := decide ((o.vals.length : Int) ≤ 40) && decide ((o.frames.length : Int) ≤ 50) && o.frames.all fun f => decide ((f.env.length : Int) ≤ 40) && decide ((f.vals.length : Int) ≤ 40)
def smallWorld (w : MWorld) : Bool :=
 decide ((w.objs.length : Int) ≤ 130) && decide ((w.tasks.length : Int) ≤ 130) && decide ((w.outs.length : Int) ≤ 110) && decide ((w.ins.length : Int) ≤ 60) && w.objs.all smallObj
theorem count_step {α : Type} {l : List α} {k : Nat} (h : k < l.length) (p : α → Bool) : (l.take (k + 1)).countP p = (l.take k).countP p + (if p l[k] then 1 else 0) := by
 rw [← List.take_append_getElem h,List.countP_append]; simp [List.countP_cons]
theorem take_step {α : Type} {l : List α} {k : Nat} (h : k < l.length) : l.take (k + 1) = l.take k ++ [l[k]] := by
 rw [List.take_append_getElem h]
theorem ia_in {α : Type} {f : α → Val} {size : Nat} {l : List α} {k : IntKind} {i : Int} {en : En} (d : α) (h : inR i 0 ((l.length : Int) - 1) = true) (hs : ∀ x,(f x).cells.length = size) :
  opIa size en (.fz (l.map f)) (.int k i) = some { v := .fp (f (l.getD i.toNat d)).cells 0 } := by
 simp only [inR,decide_eq_true_eq] at h
 obtain ⟨j,rfl⟩ := Int.eq_ofNat_of_zero_le h.1
 have hj : j < l.length := by omega
 rw [ia_map (f := f) hj (by simp [hs])]
 simp [List.getD_eq_getElem?_getD,hj]
theorem ia_node {p : BProg} {k : IntKind} {i : Int} {en : En} (h : inR i 0 ((p.nodes.length : Int) - 1) = true) :
  opIa 4 en (.fz (p.nodes.map BNode.enc)) (.int k i) = some { v := .fp (BNode.enc (p.node i)).cells 0 } := ia_in default h fun x => rfl
theorem ia_frame0 {l : List MFrame} {k : IntKind} {en : En} (h : 0 < l.length) : opIa 3 en (.fz (l.map MFrame.enc)) (.int k 0) = some { v := .fp (MFrame.enc (l.headD default)).cells 0 } := by
 have := ia_in (f := MFrame.enc) (size := 3) (k := k) (i := 0) (en := en) default (l := l) (by simp [inR]; omega) (fun _ => rfl)
 rw [this]
 cases l <;> simp at h ⊢
theorem ia_con {l : List BCon} {k : IntKind} {i : Int} {en : En} (h : inR i 0 ((l.length : Int) - 1) = true) :
  opIa 2 en (.fz (l.map BCon.enc)) (.int k i) = some { v := .fp (BCon.enc (l.getD i.toNat default)).cells 0 } := ia_in default h fun x => rfl
theorem ia_obj {w : MWorld} {k : IntKind} {i : Int} {en : En} (h : inR i 0 ((w.objs.length : Int) - 1) = true) :
  opIa 4 en (.fz (w.objs.map MObj.enc)) (.int k i) = some { v := .fp (MObj.enc (w.obj i)).cells 0 } := ia_in default h fun x => rfl
theorem ia_int {l : List Int} {k : IntKind} {i : Int} {en : En} (h : inR i 0 ((l.length : Int) - 1) = true) :
  opIa 1 en (.fz (l.map (.int .i64))) (.int k i) = some { v := .fp [.int .i64 (l.getD i.toNat 0)] 0 } := ia_in 0 h fun x => rfl
def RState.few (s : RState) : Prop := s.world.few ∧ Few s.ages.length ∧ Few s.marks.length
def smallState (s : RState) : Bool := smallWorld s.world && decide ((s.ages.length : Int) ≤ 130) && decide ((s.marks.length : Int) ≤ 130)
end Go.Abs
namespace Go.Abs
def octs (s : ByteArray) : List UInt8 := s.data.toList
theorem octs_len (s : ByteArray) : (octs s).length = s.size := by unfold octs; rw [Array.length_toList]; rfl
theorem ixs_oct {s : ByteArray} {k : IntKind} {j : Nat} (h : j < (octs s).length) : opIxs (.str s) (.int k (j : Int)) = some { v := .int .u8 ((octs s)[j].toNat : Nat) } := ixs_nat h
theorem octs_tail (s : ByteArray) : octs (s.extract 1 s.size) = (octs s).drop 1 := by
 have hs : s.size = s.data.toList.length := by rw [Array.length_toList]; rfl
 unfold octs
 rw [ByteArray.data_extract,Array.toList_extract,hs]
 show List.take _ (List.drop 1 _) = _
 exact List.take_of_length_le (by rw [List.length_drop]; exact Nat.le_refl _)
def isSmall (b : UInt8) : Bool := decide (97 ≤ (b.toNat : Int)) && decide ((b.toNat : Int) ≤ 122)
def smallL (l : List UInt8) : Bool := l.all isSmall
def greatL : List UInt8 → Bool
 | [] => false
 | b :: l => decide ((b :: l).length ≤ 8) && decide (65 ≤ (b.toNat : Int)) && decide ((b.toNat : Int) ≤ 90) && smallL l
def strEq (x y : ByteArray) : Bool := x.toList == y.toList
def hasStr (l : List ByteArray) (s : ByteArray) : Bool := l.any fun x => strEq x s
def apartStr : List ByteArray → List ByteArray → Bool
 | _,[] => true
 | met,s :: l => !hasStr met s && apartStr (met ++ [s]) l
def conOk (c : BCon) : Bool := greatL (octs c.name) && inR c.args 0 3
def consOk (l : List BCon) : Bool := l.all conOk && decide ((l.length : Int) ≤ 20) && apartStr [] (l.map BCon.name)
def patHead0 (cons : List BCon) (f n : Int) (k : Nat) : Bool :=
 if f = 1 ∨ f = 2 ∨ f = 5 then decide ((k : Int) = 0) && decide (n = 0)
 else if f = 3 then decide ((k : Int) = 0) && inR n (-1000000000) 1000000000
 else if f = 4 then decide ((k : Int) = 0) && inR n 0 1
 else if f = 6 then inR n 0 (cons.length - 1) && decide ((k : Int) = (cons.getD n.toNat default).args) else false
def noText (t : ByteArray) : Bool := t.toList == (⟨#[]⟩ : ByteArray).toList
def patHead (cons : List BCon) (f n : Int) (t : ByteArray) (k : Nat) : Bool := patHead0 cons f n k && noText t
mutual
def patOk (cons : List BCon) : Pat → Bool
 | .mk f n t ps => patHead cons f n t ps.length && patsOk cons ps
def patsOk (cons : List BCon) : List Pat → Bool
 | [] => true
 | p :: ps => patOk cons p && patsOk cons ps
end
theorem patsOk_all (cons : List BCon) : ∀ l,patsOk cons l = l.all (patOk cons)
 | [] => by simp [patsOk]
 | p :: ps => by simp [patsOk,patsOk_all cons ps]
theorem patOk_eq (cons : List BCon) (p : Pat) : patOk cons p = (patHead cons p.form p.n p.text p.parts.length && p.parts.all (patOk cons)) := by
 cases p; simp only [patOk,patsOk_all,Pat.form,Pat.n,Pat.text,Pat.parts]
mutual
def weigh : Pat → Int → Int
 | .mk _ _ _ ps,left => if left < 1 then -1 else weighs ps (left - 1)
def weighs : List Pat → Int → Int
 | [],left => left
 | p :: ps,left => if 0 ≤ left then weighs ps (weigh p left) else left
end
mutual
def smallTexts : Pat → Bool
 | .mk _ _ t ps => smallTextss ps && decide ((t.size : Int) ≤ 30)
def smallTextss : List Pat → Bool
 | [] => true
 | p :: ps => smallTexts p && smallTextss ps
end
theorem smallTextss_all : ∀ l,smallTextss l = l.all smallTexts
 | [] => by simp [smallTextss]
 | p :: ps => by simp [smallTextss,smallTextss_all ps]
theorem smallTexts_eq (p : Pat) : smallTexts p = (p.parts.all smallTexts && decide ((p.text.size : Int) ≤ 30)) := by
 cases p; simp only [smallTexts,smallTextss_all]; rfl
theorem weigh_eq (p : Pat) (left : Int) : weigh p left = if left < 1 then -1 else weighs p.parts (left - 1) := by
 cases p; simp only [weigh,Pat.parts]
mutual
theorem weigh_le : ∀ (p : Pat) (left : Int),-1 ≤ left → -1 ≤ weigh p left ∧ weigh p left ≤ left
 | .mk _ _ _ ps,left,h => by
  rw [weigh]; split
  ·omega
  ·have := weighs_le ps (left - 1) (by omega); omega
theorem weighs_le : ∀ (l : List Pat) (left : Int),-1 ≤ left → -1 ≤ weighs l left ∧ weighs l left ≤ left
 | [],left,h => by rw [weighs]; omega
 | p :: ps,left,h => by
  rw [weighs]; split
  ·have h1 := weigh_le p left h
   have h2 := weighs_le ps (weigh p left) h1.1
   omega
  ·omega
end
theorem weighs_neg : ∀ {l : List Pat} {left : Int},left < 0 → weighs l left = left
 | [],_,_ => by rw [weighs]
 | _ :: _,_,h => by rw [weighs,if_neg (by omega)]
def smallPat (p : Pat) : Bool := decide (0 ≤ weigh p 16) && smallTexts p
def smallNode (n : BNode) : Bool := decide ((n.kids.length : Int) ≤ 10) && decide ((n.pats.length : Int) ≤ 10) && n.pats.all smallPat
def smallProg (p : BProg) : Bool :=
 decide ((p.nodes.length : Int) ≤ 320) && decide ((p.funs.length : Int) ≤ 320) && decide ((p.cons.length : Int) ≤ 25) && p.cons.all (fun c => decide ((c.name.size : Int) ≤ 40)) && p.nodes.all smallNode
def kidsOf (op : Int) (pats : Int) (args : Int) : Int :=
 if op = 1 ∨ op = 2 ∨ op = 3 ∨ op = 4 ∨ op = 21 ∨ op = 25 ∨ op = 28 then 0
 else if op = 5 ∨ op = 27 ∨ op = 16 ∨ op = 17 ∨ op = 19 ∨ op = 20 ∨ op = 23 ∨ op = 26 ∨ op = 24 then 1
 else if op = 6 ∨ op = 7 ∨ op = 9 ∨ op = 10 ∨ op = 11 ∨ op = 12 ∨ op = 13 ∨ op = 18 ∨ op = 22 then 2
 else if op = 8 then 3 else if op = 15 then 1 + pats else if op = 14 then args else -1
def patFine (cons : List BCon) (q : Pat) : Bool := decide (0 ≤ weigh q 12) && patOk cons q
def numOk (p : BProg) (n : BNode) : Bool :=
 if n.op = 1 then inR n.n (-1000000000) 1000000000
 else if n.op = 2 then inR n.n 0 1
 else if n.op = 4 then inR n.n (-(p.funs.length : Int)) 29
 else if n.op = 24 then inR n.n 0 3
 else if n.op = 14 then inR n.n 0 (p.cons.length - 1) else decide (n.n = 0)
def argsOf (p : BProg) (n : BNode) : Int := if n.op = 14 ∧ inR n.n 0 (p.cons.length - 1) = true then (p.cons.getD n.n.toNat default).args else 0
def patsNum (n : BNode) : Bool := if n.op = 15 then inR n.pats.length 1 5 else decide ((n.pats.length : Int) = 0)
def nodeOk (p : BProg) (n : BNode) : Bool :=
 ((numOk p n && patsNum n) && n.pats.all (patFine p.cons)) && decide ((n.kids.length : Int) = kidsOf n.op n.pats.length (argsOf p n))
def meet (lo hi : Int) : List Bool → List Int → Option (List Bool)
 | u,[] => some u
 | u,x :: l => if inR x lo hi && !(u.getD x.toNat false) then meet lo hi (u.set x.toNat true) l else none
def meetNodes (p : BProg) : Nat → List Bool → List BNode → Option (List Bool)
 | _,u,[] => some u
 | i,u,n :: l => if nodeOk p n then (meet ((i : Int) + 1) (p.nodes.length - 1) u n.kids).bind fun u => meetNodes p (i + 1) u l else none
def allMet : Option (List Bool) → Bool
 | some u => u.all id
 | none => false
def formedOk (p : BProg) : Bool :=
 decide ((p.nodes.length : Int) ≤ 300) && inR p.funs.length 1 p.nodes.length && inR p.main 0 (p.funs.length - 1) && consOk p.cons &&
  allMet ((meet 0 (p.nodes.length - 1) (List.replicate p.nodes.length false) p.funs).bind fun u => meetNodes p 0 u p.nodes)
theorem Pat.few_parts {p : Pat} (h : p.few) : Few p.parts.length ∧ Few p.text.size ∧ ∀ q ∈ p.parts,q.few := by
 cases h with | mk f n t l h ht k => exact ⟨h,ht,k⟩
theorem Pat.ind {P : Pat → Prop} (h : ∀ p : Pat,(∀ q ∈ p.parts,P q) → P p) : ∀ p,P p := by
 intro p
 induction p using Pat.rec (motive_2 := fun l => ∀ q ∈ l,P q) with
 | mk f n t l ih => exact h _ ih
 | nil => rename_i q hq; simp at hq
 | cons p l h1 h2 =>
  rename_i q hq
  rcases List.mem_cons.1 hq with rfl | hq
  ·exact h1
  ·exact h2 _ hq
theorem octs_get {s : ByteArray} {i : Nat} (h : i < (octs s).length) : s.get! i = (octs s)[i] := by
 have h' : i < s.data.size := by rw [octs_len] at h; exact h
 show s.data[i]! = _
 rw [getElem!_pos s.data i h']
 simp only [octs,Array.getElem_toList]
theorem decode_small {s : ByteArray} {i : Nat} (h : i < (octs s).length) :
  (isSmall (octs s)[i] = true → Utf8.decode s i = ((octs s)[i].toNat,1)) ∧ (isSmall (octs s)[i] = false → ((Utf8.decode s i).1 : Int) < 97 ∨ 122 < ((Utf8.decode s i).1 : Int)) := by
 have hg := octs_get h
 simp only [isSmall,Bool.and_eq_true,decide_eq_true_eq,Bool.and_eq_false_iff,decide_eq_false_iff_not]
 constructor
 ·intro hb
  unfold Utf8.decode
  simp only [Nat.add_zero,hg]
  rw [if_pos (by omega)]
 ·intro hb
  unfold Utf8.decode
  simp only [Nat.add_zero,hg,Utf8.runeError]
  split
  ·simp only; omega
  ·split
   ·split
    ·simp only; omega
    ·simp
   ·split
    ·split
     ·rename_i h1; simp only [Bool.and_eq_true,decide_eq_true_eq] at h1; simp only; omega
     ·simp
    ·split
     ·split
      ·rename_i h1; simp only [Bool.and_eq_true,decide_eq_true_eq] at h1; simp only; omega
      ·simp
     ·simp
def metStr (ks : List ByteArray) (s : ByteArray) : List ByteArray := if hasStr ks s then ks else ks ++ [s]
theorem metStr_len : ∀ (l ks : List ByteArray),(l.foldl metStr ks).length ≤ ks.length + l.length
 | [],ks => by simp
 | s :: l,ks => by
  have := metStr_len l (metStr ks s)
  simp only [List.foldl_cons,List.length_cons]
  have h2 : (metStr ks s).length ≤ ks.length + 1 := by unfold metStr; split <;> simp
  omega
theorem metStr_apart : ∀ (l ks : List ByteArray),decide ((l.foldl metStr ks).length = ks.length + l.length) = apartStr ks l
 | [],ks => by simp [apartStr]
 | s :: l,ks => by
  simp only [List.foldl_cons,List.length_cons,apartStr]
  by_cases h : hasStr ks s = true
  ·have := metStr_len l ks
   simp only [metStr,h,if_true,Bool.not_true,Bool.false_and,decide_eq_false_iff_not]
   omega
  ·have := metStr_apart l (ks ++ [s])
   simp only [Bool.not_eq_true] at h
   simp only [metStr,h,Bool.false_eq_true,if_false,Bool.not_false,Bool.true_and]
   rw [← this,decide_eq_decide]
   simp only [List.length_append,List.length_cons,List.length_nil]
   omega
mutual
def psize : Pat → Int → Int
 | .mk _ _ _ ps,most => psizes ps most 1
def psizes : List Pat → Int → Int → Int
 | [],_,n => n
 | q :: qs,most,n => if most < n then n else psizes qs most (n + psize q (most - n))
end
theorem psize_eq (p : Pat) (most : Int) : psize p most = psizes p.parts most 1 := by cases p; simp only [psize,Pat.parts]
theorem psizes_over : ∀ {l : List Pat} {most n : Int},most < n → psizes l most n = n
 | [],_,_,_ => by rw [psizes]
 | _ :: _,_,_,h => by rw [psizes,if_pos h]
mutual
theorem psize_le : ∀ (p : Pat) (most : Int),0 ≤ most → 1 ≤ psize p most ∧ psize p most ≤ most + 1
 | .mk _ _ _ ps,most,h => by rw [psize]; exact psizes_le ps most 1 (by omega)
theorem psizes_le : ∀ (l : List Pat) (most n : Int),n ≤ most + 1 → n ≤ psizes l most n ∧ psizes l most n ≤ most + 1
 | [],most,n,h => by rw [psizes]; omega
 | q :: qs,most,n,h => by
  rw [psizes]; split
  ·omega
  ·have h1 := psize_le q (most - n) (by omega)
   have h2 := psizes_le qs most (n + psize q (most - n)) (by omega)
   omega
end
mutual
theorem weigh_psize : ∀ (p : Pat) (most : Int),0 ≤ most → weigh p most = if psize p most ≤ most then most - psize p most else -1
 | .mk _ _ _ ps,most,h => by
  have := weighs_psizes ps most 1 (by omega)
  rw [weigh,psize]
  split
  ·rename_i h0
   have h1 : most = 0 := by omega
   subst h1
   rw [psizes_over (by omega),if_neg (by omega)]
  ·exact this
theorem weighs_psizes : ∀ (l : List Pat) (most n : Int),n ≤ most + 1 → weighs l (most - n) = if psizes l most n ≤ most then most - psizes l most n else -1
 | [],most,n,h => by
  rw [weighs,psizes]; split <;> omega
 | q :: qs,most,n,h => by
  by_cases hm : 0 ≤ most - n
  ·rw [weighs,psizes,if_pos hm,if_neg (show ¬ most < n by omega)]
   have h1 := psize_le q (most - n) (by omega)
   have hw := weigh_psize q (most - n) (by omega)
   have h2 := weighs_psizes qs most (n + psize q (most - n)) (by omega)
   rw [hw,← h2]
   split
   ·congr 1; omega
   ·rw [weighs_neg (by omega),weighs_neg (by omega)]; omega
  ·rw [weighs,psizes,if_neg hm,if_pos (show most < n by omega),if_neg (by omega)]; omega
end
theorem psize_12 (q : Pat) : decide (psize q 12 ≤ 12) = decide (0 ≤ weigh q 12) := by
 have h := weigh_psize q 12 (by omega)
 rw [h,decide_eq_decide]
 split <;> omega
def kidsVal (op : Int) : Val :=
 if op = 1 ∨ op = 2 ∨ op = 3 ∨ op = 4 ∨ op = 21 ∨ op = 25 ∨ op = 28 then .ifc 273 (.int .i64 0)
 else if op = 5 ∨ op = 27 ∨ op = 16 ∨ op = 17 ∨ op = 19 ∨ op = 20 ∨ op = 23 ∨ op = 26 ∨ op = 24 then .ifc 273 (.int .i64 1)
 else if op = 6 ∨ op = 7 ∨ op = 9 ∨ op = 10 ∨ op = 11 ∨ op = 12 ∨ op = 13 ∨ op = 18 ∨ op = 22 then .ifc 273 (.int .i64 2)
 else if op = 8 then .ifc 273 (.int .i64 3) else if op = 14 then .ifc 274 (.agg []) else if op = 15 then .ifc 261 (.agg []) else .nili
theorem kidsVal_cases (op : Int) : (∃ c : Int,kidsVal op = .ifc 273 (.int .i64 c) ∧ (∀ n a,kidsOf op n a = c) ∧ op ≠ 14 ∧ op ≠ 15) ∨ (op = 14 ∧ kidsVal op = .ifc 274 (.agg [])) ∨
  (op = 15 ∧ kidsVal op = .ifc 261 (.agg [])) ∨ (kidsVal op = .nili ∧ (∀ n a,kidsOf op n a = -1) ∧ op ≠ 14 ∧ op ≠ 15) := by
 unfold kidsVal kidsOf
 split
 ·left; refine ⟨0,rfl,fun _ _ => rfl,?_,?_⟩ <;> omega
 split
 ·left; refine ⟨1,rfl,fun _ _ => rfl,?_,?_⟩ <;> omega
 split
 ·left; refine ⟨2,rfl,fun _ _ => rfl,?_,?_⟩ <;> omega
 split
 ·left; refine ⟨3,rfl,fun _ _ => rfl,?_,?_⟩ <;> omega
 split
 ·right; left; exact ⟨by assumption,rfl⟩
 split
 ·right; right; left; exact ⟨by assumption,rfl⟩
 ·right; right; right; refine ⟨rfl,fun n a => ?_,?_,?_⟩ <;> first | omega | skip
theorem findKey_str (s : ByteArray) : ∀ ks : List ByteArray,(∃ i,findKey .str (.str s) (ks.map .str) = some (some i) ∧ hasStr ks s = true ∧ (ks.map Val.str).set i (.str s) = ks.map .str) ∨
  (findKey .str (.str s) (ks.map .str) = some none ∧ hasStr ks s = false)
 | [] => .inr ⟨rfl,rfl⟩
 | x :: ks => by
  have hsym : (s.toList == x.toList) = strEq x s := by unfold strEq; exact Bool.beq_comm
  by_cases h : strEq x s = true
  ·refine .inl ⟨0,?_,?_,?_⟩
   ·simp only [List.map_cons,findKey,eqVal,hsym,h]
   ·simp [hasStr,h]
   ·have : x = s := by
     simp only [strEq,beq_iff_eq] at h
     rw [Go.ByteArray.toList_eq,Go.ByteArray.toList_eq] at h
     cases x; cases s; simp only at h
     congr
     exact Array.toList_inj.1 h
    simp [this]
  ·simp only [Bool.not_eq_true] at h
   rcases findKey_str s ks with ⟨i,h1,h2,h3⟩ | ⟨h1,h2⟩
   ·refine .inl ⟨i + 1,?_,?_,?_⟩
    ·simp only [List.map_cons,findKey,eqVal,hsym,h,h1]
    ·simp only [hasStr,List.any_cons,h,Bool.false_or]; exact h2
    ·simp [h3]
   ·refine .inr ⟨?_,?_⟩
    ·simp only [List.map_cons,findKey,eqVal,hsym,h,h1]
    ·simp only [hasStr,List.any_cons,h,Bool.false_or]; exact h2
def given (p : BProg) (w : MWorld) : Bool := formedOk p && worldOk p w
end Go.Abs
namespace Go.Abs
def tally (lo hi : Int) : List Int → List Int → Option (List Int)
 | u,[] => some u
 | u,x :: l => if inR x lo hi then tally lo hi (u.set x.toNat (IntKind.i64.wrap (u.getD x.toNat 0 + 1))) l else none
def tallyNodes (p : BProg) : Nat → List Int → List BNode → Option (List Int)
 | _,u,[] => some u
 | i,u,n :: l => (tally ((i : Int) + 1) (p.nodes.length - 1) u n.kids).bind fun u => tallyNodes p (i + 1) u l
def allOne : Option (List Int) → Bool
 | some u => u.all fun c => decide (c = 1)
 | none => false
def formedB (p : BProg) : Bool :=
 decide ((p.nodes.length : Int) ≤ 300) && decide ((1 : Int) ≤ p.funs.length) && decide ((p.funs.length : Int) ≤ p.nodes.length) && decide ((p.cons.length : Int) ≤ 20) && inR p.main 0 (p.funs.length - 1) &&
  p.cons.all conOk && apartStr [] (p.cons.map BCon.name) && p.nodes.all (nodeOk p) &&
  allOne ((tally 0 (p.nodes.length - 1) (List.replicate p.nodes.length 0) p.funs).bind fun u => tallyNodes p 0 u p.nodes)
def meetE (hi : Int) : List Bool → List (Int × Int) → Option (List Bool)
 | u,[] => some u
 | u,(lo,x) :: l => if inR x lo hi && !(u.getD x.toNat false) then meetE hi (u.set x.toNat true) l else none
def tallyE (hi : Int) : List Int → List (Int × Int) → Option (List Int)
 | u,[] => some u
 | u,(lo,x) :: l => if inR x lo hi then tallyE hi (u.set x.toNat (IntKind.i64.wrap (u.getD x.toNat 0 + 1))) l else none
def evNodes : Nat → List BNode → List (Int × Int)
 | _,[] => []
 | i,n :: l => n.kids.map (fun k => ((i : Int) + 1,k)) ++ evNodes (i + 1) l
theorem meet_E (lo hi : Int) : ∀ (l : List Int) (u : List Bool),meet lo hi u l = meetE hi u (l.map fun x => (lo,x))
 | [],u => rfl
 | x :: l,u => by simp only [meet,List.map_cons,meetE]; split <;> first | exact meet_E lo hi l _ | rfl
theorem tally_E (lo hi : Int) : ∀ (l : List Int) (u : List Int),tally lo hi u l = tallyE hi u (l.map fun x => (lo,x))
 | [],u => rfl
 | x :: l,u => by simp only [tally,List.map_cons,tallyE]; split <;> first | exact tally_E lo hi l _ | rfl
theorem meetE_append (hi : Int) : ∀ (a b : List (Int × Int)) (u : List Bool),meetE hi u (a ++ b) = (meetE hi u a).bind fun u => meetE hi u b
 | [],b,u => rfl
 |(lo,x) :: a,b,u => by simp only [List.cons_append,meetE]; split <;> first | exact meetE_append hi a b _ | rfl
theorem tallyE_append (hi : Int) : ∀ (a b : List (Int × Int)) (u : List Int),tallyE hi u (a ++ b) = (tallyE hi u a).bind fun u => tallyE hi u b
 | [],b,u => rfl
 |(lo,x) :: a,b,u => by simp only [List.cons_append,tallyE]; split <;> first | exact tallyE_append hi a b _ | rfl
theorem tallyNodes_E (p : BProg) : ∀ (l : List BNode) (i : Nat) (u : List Int),tallyNodes p i u l = tallyE (p.nodes.length - 1) u (evNodes i l)
 | [],i,u => rfl
 | n :: l,i,u => by
  simp only [tallyNodes,evNodes,tallyE_append,tally_E]
  congr 1; funext u; exact tallyNodes_E p l (i + 1) u
theorem meetNodes_E (p : BProg) : ∀ (l : List BNode) (i : Nat) (u : List Bool),meetNodes p i u l = if l.all (nodeOk p) = true then meetE (p.nodes.length - 1) u (evNodes i l) else none
 | [],i,u => rfl
 | n :: l,i,u => by
  simp only [meetNodes,evNodes,meetE_append,meet_E,List.all_cons,Bool.and_eq_true]
  by_cases h : nodeOk p n = true
  ·simp only [h,if_true,true_and]
   have ih := fun u => meetNodes_E p l (i + 1) u
   by_cases h2 : l.all (nodeOk p) = true
   ·simp only [h2,if_true] at ih ⊢
    congr 1; funext u; exact ih u
   ·simp only [h2,if_false] at ih ⊢
    simp only [ih]
    cases meetE (↑p.nodes.length - 1) u (List.map (fun k => (↑i + 1,k)) n.kids) <;> rfl
  ·simp only [h,if_false,false_and]; rfl
theorem tallyE_two {hi : Int} : ∀ (evs : List (Int × Int)) (u : List Int) (i : Nat) (B : Int),i < u.length → 2 ≤ u.getD i 0 → (∀ c ∈ u,c ≤ B) → (∀ c ∈ u,0 ≤ c) → B + evs.length ≤ 9223372036854775807 → allOne (tallyE hi u evs) = false
 | [],u,i,B,h,h2,hB,h0,hM => by
  simp only [tallyE,allOne]
  rw [← Bool.not_eq_true]
  intro ha
  have := List.all_eq_true.1 ha u[i] (List.getElem_mem _)
  simp only [List.getD_eq_getElem?_getD,List.getElem?_eq_getElem h,Option.getD_some] at h2
  simp at this; omega
 |(lo,x) :: evs,u,i,B,h,h2,hB,h0,hM => by
  simp only [tallyE]
  split
  ·have hx : u.getD x.toNat 0 ≤ B ∧ 0 ≤ u.getD x.toNat 0 := by
    rw [List.getD_eq_getElem?_getD]
    cases hg : u[x.toNat]? with
    | none =>
     have := hB u[i] (List.getElem_mem _)
     have := h0 u[i] (List.getElem_mem _)
     simp; omega
    | some c => have := List.mem_of_getElem? hg; simp; exact ⟨hB c this,h0 c this⟩
   have hw : IntKind.i64.wrap (u.getD x.toNat 0 + 1) = u.getD x.toNat 0 + 1 := wrap_in (by simp at hM; omega)
   rw [hw]
   refine tallyE_two evs _ i (B + 1) (by simpa using h) ?_ ?_ ?_ (by simp at hM; omega)
   ·rw [List.getD_eq_getElem?_getD,List.getElem?_set]
    split
    ·rename_i e
     subst e
     simp only [h,if_true,Option.getD_some]
     omega
    ·rw [← List.getD_eq_getElem?_getD]; exact h2
   ·intro c hc
    rcases List.mem_or_eq_of_mem_set hc with hc | rfl
    ·have := hB c hc; omega
    ·omega
   ·intro c hc
    rcases List.mem_or_eq_of_mem_set hc with hc | rfl
    ·exact h0 c hc
    ·omega
  ·rfl
theorem ofBool_get {u : List Bool} {x : Nat} (h : x < u.length) : (u.map fun b => if b then (1 : Int) else 0).getD x 0 = if u.getD x false then 1 else 0 := by
 simp [List.getD_eq_getElem?_getD,h]
theorem meet_tally {hi : Int} (evs : List (Int × Int)) : ∀ (u : List Bool),(hi : Int) = u.length - 1 → (∀ e ∈ evs,0 ≤ e.1) → (evs.length : Int) ≤ 1000000 →
  allMet (meetE hi u evs) = allOne (tallyE hi (u.map fun b => if b then 1 else 0) evs) := by
 induction evs with
 | nil =>
  intro u _ _ _
  simp only [meetE,tallyE,allMet,allOne,List.all_map]
  congr 1
  funext b
  cases b <;> rfl
 | cons e evs ih =>
  obtain ⟨lo,x⟩ := e
  intro u hh hlo hM
  simp only [meetE,tallyE]
  have hl := hlo (lo,x) (by simp)
  simp only at hl
  have hM' : (evs.length : Int) + 1 ≤ 1000000 := by simpa using hM
  by_cases hx : inR x lo hi = true
  ·have hx' := hx
   simp only [inR,decide_eq_true_eq] at hx'
   have hlt : x.toNat < u.length := by omega
   simp only [hx,Bool.true_and,if_true]
   rw [ofBool_get hlt]
   cases hb : u.getD x.toNat false with
   | true =>
    simp only [Bool.not_true,Bool.false_eq_true,if_false,if_true,allMet]
    symm
    have hw : IntKind.i64.wrap ((1 : Int) + 1) = 2 := by rw [wrap_in (by omega)]; rfl
    rw [hw]
    have hbd : ∀ c ∈ (u.map fun b => if b then (1 : Int) else 0).set x.toNat 2,0 ≤ c ∧ c ≤ 2 := by
     intro c hc
     rcases List.mem_or_eq_of_mem_set hc with hc | rfl
     ·obtain ⟨b,_,rfl⟩ := List.mem_map.1 hc; split <;> omega
     ·omega
    exact tallyE_two evs _ x.toNat 2 (by simpa using hlt) (by simp [List.getD_eq_getElem?_getD,hlt]) (fun c hc => (hbd c hc).2) (fun c hc => (hbd c hc).1) (by omega)
   | false =>
    simp only [Bool.not_false,if_true,Bool.false_eq_true,if_false]
    have hw : IntKind.i64.wrap ((0 : Int) + 1) = 1 := by rw [wrap_in (by omega)]; rfl
    rw [hw,ih (u.set x.toNat true) (by simpa using hh) (fun e he => hlo e (by simp [he])) (by omega),List.map_set]
    rfl
  ·simp only [Bool.not_eq_true] at hx
   simp only [hx,Bool.false_and,Bool.false_eq_true,if_false,allMet,allOne]
theorem evNodes_lo : ∀ (l : List BNode) (i : Nat),∀ e ∈ evNodes i l,0 ≤ e.1
 | [],i,e,h => by simp [evNodes] at h
 | n :: l,i,e,h => by
  simp only [evNodes,List.mem_append,List.mem_map] at h
  rcases h with ⟨k,_,rfl⟩ | h
  ·simp only; omega
  ·exact evNodes_lo l (i + 1) e h
theorem evNodes_len : ∀ (l : List BNode) (i : Nat),(∀ n ∈ l,n.kids.length ≤ 10) → (evNodes i l).length ≤ 10 * l.length
 | [],i,_ => by simp [evNodes]
 | n :: l,i,h => by
  have := evNodes_len l (i + 1) fun m hm => h m (by simp [hm])
  have h2 := h n (by simp)
  simp only [evNodes,List.length_append,List.length_map,List.length_cons]
  omega
theorem formed_same (p : BProg) (hs : smallProg p = true) : formedB p = formedOk p := by
 simp only [smallProg,Bool.and_eq_true,decide_eq_true_eq] at hs
 obtain ⟨⟨⟨⟨h1,h2⟩,h3⟩,h4⟩,h5⟩ := hs
 have hk : ∀ n ∈ p.nodes,n.kids.length ≤ 10 := by
  intro n hn
  have := List.all_eq_true.1 h5 n hn
  simp only [smallNode,Bool.and_eq_true,decide_eq_true_eq] at this
  omega
 have key : p.nodes.all (nodeOk p) = true → allMet ((meet 0 (p.nodes.length - 1) (List.replicate p.nodes.length false) p.funs).bind fun u => meetNodes p 0 u p.nodes) =
   allOne ((tally 0 (p.nodes.length - 1) (List.replicate p.nodes.length 0) p.funs).bind fun u => tallyNodes p 0 u p.nodes) := by
  intro hn
  simp only [meet_E,tally_E,meetNodes_E,tallyNodes_E,hn,if_true]
  rw [← meetE_append,← tallyE_append]
  have := meet_tally (hi := (p.nodes.length : Int) - 1) (List.map (fun x => ((0 : Int),x)) p.funs ++ evNodes 0 p.nodes) (List.replicate p.nodes.length false) (by simp) (fun e he => by
   rcases List.mem_append.1 he with he | he
   ·obtain ⟨x,_,rfl⟩ := List.mem_map.1 he; simp
   ·exact evNodes_lo _ _ _ he) (by
   have := evNodes_len p.nodes 0 hk
   simp; omega)
  rw [this]
  simp [List.map_replicate]
 have none_ : p.nodes.all (nodeOk p) = false → allMet ((meet 0 (p.nodes.length - 1) (List.replicate p.nodes.length false) p.funs).bind fun u => meetNodes p 0 u p.nodes) = false := by
  intro hn
  simp only [meetNodes_E,hn,Bool.false_eq_true,if_false]
  cases meet 0 (↑p.nodes.length - 1) (List.replicate p.nodes.length false) p.funs <;> rfl
 have e1 : inR p.funs.length 1 p.nodes.length = (decide ((1 : Int) ≤ p.funs.length) && decide ((p.funs.length : Int) ≤ p.nodes.length)) := by simp [inR]
 simp only [formedB,formedOk,consOk,e1]
 cases hn : p.nodes.all (nodeOk p) with
 | true => rw [key hn]; simp only [Bool.and_true,Bool.and_assoc]; ac_rfl
 | false => rw [none_ hn]; simp
end Go.Abs
namespace Go.Proofs.YthpmfghgoabnhaaGreat
open Go.Abs Go.Proofs
theorem R06_in_pc (n lo hi : Int) : PC L F.R06_in [.int .i64 n,.int .i64 lo,.int .i64 hi] (.bool (inR n lo hi)) := by
 refine pc_of LF.R06_in rfl rfl ?_
 simp only [go_sem,qW,C.R06_in]
 refine guard_split (fun h => ?_) (fun h => ?_) <;> simp only [go_sem,qW,h] <;> simp at h <;> simp [h,inR]
 omega
theorem R06_listed_pc (l : List Int) (n : Int) (hl : Few l.length) : PC L F.R06_listed [.fz (l.map (.int .i64)),.int .i64 n] (.bool (l.any fun x => decide (x = n))) := by
 refine pc_of LF.R06_listed rfl rfl ?_
 simp only [go_sem,qW,C.R06_listed]
 refine wp_for l.length (fun k st => ∃ fr en cnt,st = ⟨fr,en,cnt⟩ ∧ fr 0 = .fz (l.map (.int .i64)) ∧ fr 1 = .int .i64 n ∧ fr 5 = .int .i64 k ∧ (l.drop k).any (fun x => decide (x = n)) = l.any fun x => decide (x = n)) 0 (Nat.zero_le _) ⟨_,_,_,rfl,by simp only [go_sem,qW],by simp only [go_sem,qW],by simp only [go_sem,qW],rfl⟩ ?_
 rintro k st hk ⟨fr,en,cnt,rfl,h0,h1,h5,hI⟩
 simp only [go_sem,qW,h0,h1,h5]
 refine wcond_split (fun h => ?_) (fun h => ?_)
 ·have h' : k < l.length := of_decide_eq_true h
  rw [any_step h'] at hI
  simp only [go_sem,qW,h',h0,h1,h5]
  refine wcond_split (fun h2 => ?_) (fun h2 => ?_)
  ·rw [← hI,h2]; rfl
  ·refine ⟨_,_,_,rfl,?_⟩
   simp only [go_sem,qW,h0,h1,h5,wrap_succ h' hl]
   rw [← hI,h2]; simp
 ·have : k = l.length := by simp at h; omega
  subst this
  rw [← hI]; simp
theorem R06_Asks_pc (n : BNode) : PC L F.R06_Asks [.agg [.int .i64 n.op,.int .i64 n.n,.fz (n.kids.map (.int .i64)),.fz (n.pats.map Pat.enc)]] (.int .i64 n.asks) := by
 refine pc_of LF.R06_Asks rfl rfl ?_
 simp only [go_sem,qW,C.R06_Asks]
 repeat' ((first | with_reducible refine wcond_split (fun h => ?_) (fun h => ?_) | with_reducible refine guard_split (fun h => ?_) (fun h => ?_)) <;> (try simp only [decide_eq_true_eq,decide_eq_false_iff_not,Bool.not_true,Bool.not_false] at h) <;> try simp only [go_sem,qW,h])
 all_goals simp [BNode.asks, *]
theorem R06_value_pc (p : BProg) (w : MWorld) (v : MVal) (hp : p.few) (hw : w.few) : PC L F.R06_value [.agg [.fz (p.nodes.map BNode.enc),.fz (p.funs.map (.int .i64)),.int .i64 p.main,.fz (p.cons.map BCon.enc)],.agg [.fz (w.objs.map MObj.enc),.fz (w.tasks.map (.int .i64)),.fz (w.outs.map MOut.enc),.fz (w.ins.map (.int .i64)),.int .i64 w.used],.agg [.int .i64 v.kind,.int .i64 v.n]] (.bool (valueOk p w v)) := by
 refine pc_of LF.R06_value rfl rfl ?_
 simp only [go_sem,qW,C.R06_value,(R06_in_pc _ _ _).ret,wrap_pred hp.funs,wrap_pred hw.objs]
 repeat' ((first | with_reducible refine wcond_split (fun h => ?_) (fun h => ?_) | with_reducible refine guard_split (fun h => ?_) (fun h => ?_)) <;> (try simp only [decide_eq_true_eq,decide_eq_false_iff_not,Bool.not_true,Bool.not_false] at h) <;> try simp only [go_sem,qW,h,(R06_in_pc _ _ _).ret,wrap_pred hp.funs,wrap_pred hw.objs])
 all_goals simp [valueOk, *]
theorem R06_values_pc (p : BProg) (w : MWorld) (l : List MVal) (m : Int) (hp : p.few) (hw : w.few) (hl : Few l.length) :
  PC L F.R06_values [.agg [.fz (p.nodes.map BNode.enc),.fz (p.funs.map (.int .i64)),.int .i64 p.main,.fz (p.cons.map BCon.enc)],.agg [.fz (w.objs.map MObj.enc),.fz (w.tasks.map (.int .i64)),.fz (w.outs.map MOut.enc),.fz (w.ins.map (.int .i64)),.int .i64 w.used],.fz (l.map MVal.enc),.int .i64 m] (.bool (valuesOk p w l m)) := by
 refine pc_of LF.R06_values rfl rfl ?_
 simp only [go_sem,qW,C.R06_values]
 refine wp_for (l.length) (fun k st => ∃ fr en cnt,st = ⟨fr,en,cnt⟩ ∧ (fr 2 = .fz (l.map MVal.enc)) ∧ (fr 3 = .int .i64 m) ∧ (fr 4 = .ptr ⟨0,4,0⟩ 0) ∧ (en ⟨0,4,0⟩ = some (.box p.cells false)) ∧ (fr 5 = .ptr ⟨0,5,0⟩ 0) ∧ (en ⟨0,5,0⟩ = some (.box w.cells false)) ∧ (fr 9 = .int .i64 k) ∧ ((l.drop k).all (valueOk p w) = l.all (valueOk p w))) 0 (Nat.zero_le _) ⟨_,_,_,rfl,(by first | (simp only [go_sem,qW]; (try rfl); done) | rfl | simp),(by first | (simp only [go_sem,qW]; (try rfl); done) | rfl | simp),(by first | (simp only [go_sem,qW]; (try rfl); done) | rfl | simp),(by first | (simp only [go_sem,qW]; (try rfl); done) | rfl | simp),(by first | (simp only [go_sem,qW]; (try rfl); done) | rfl | simp),(by first | (simp only [go_sem,qW]; (try rfl); done) | rfl | simp),(by first | (simp only [go_sem,qW]; (try rfl); done) | rfl | simp),(by first | (simp only [go_sem,qW]; (try rfl); done) | rfl | simp)⟩ ?_
 rintro k st hk ⟨fr,en,cnt,rfl,h2,h3,h4,e4,h5,e5,h9,hI⟩
 simp only [go_sem,qW,h2,h3,h4,e4,h5,e5,h9]
 refine guard_split (fun h => ?_) (fun h => ?_)
 ·have h' : k < l.length := of_decide_eq_true h
  rw [all_step h'] at hI
  simp only [go_sem,qW,h,h',h2,h3,h4,e4,h5,e5,h9]
  refine wcond_split (fun hm => ?_) (fun hm => ?_)
  ·simp only [go_sem,qW,h',h2,h3,h4,e4,h5,e5,h9,(R06_value_pc p w _ hp hw).ret]
   refine wcond_split (fun hb => ?_) (fun hb => ?_)
   ·simp at hb
    simp [valuesOk,← hI,hb]
   ·simp at hb
    refine ⟨_,_,_,rfl,?_⟩
    simp only [go_sem,qW,h2,h3,h4,e4,h5,e5,h9,wrap_succ h' hl]
    rw [← hI,hb]; simp
  ·simp at hm
   try simp only [go_sem,qW,h2,h3,h4,e4,h5,e5,h9]
   simp [valuesOk]
   omega
 ·have : k = l.length := by simp at h; omega
  subst this
  try simp only [go_sem,qW,h,h2,h3,h4,e4,h5,e5,h9]
  simp at hI
  simp [valuesOk]
  exact fun _ => hI
theorem R06_frames_pc (p : BProg) (w : MWorld) (l : List MFrame) (hp : p.few) (hw : w.few) (hl : Few l.length) (hf : ∀ f ∈ l,f.few) :
  PC L F.R06_frames [.agg [.fz (p.nodes.map BNode.enc),.fz (p.funs.map (.int .i64)),.int .i64 p.main,.fz (p.cons.map BCon.enc)],.agg [.fz (w.objs.map MObj.enc),.fz (w.tasks.map (.int .i64)),.fz (w.outs.map MOut.enc),.fz (w.ins.map (.int .i64)),.int .i64 w.used],.fz (l.map MFrame.enc)] (.bool (framesOk p w l)) := by
 refine pc_of LF.R06_frames rfl rfl ?_
 simp only [go_sem,qW,C.R06_frames]
 refine wp_for (l.length) (fun k st => ∃ fr en cnt,st = ⟨fr,en,cnt⟩ ∧ (fr 2 = .fz (l.map MFrame.enc)) ∧ (fr 3 = .ptr ⟨0,3,0⟩ 0) ∧ (en ⟨0,3,0⟩ = some (.box p.cells false)) ∧ (fr 4 = .ptr ⟨0,4,0⟩ 0) ∧ (en ⟨0,4,0⟩ = some (.box w.cells false)) ∧ (fr 7 = .int .i64 k) ∧ ((l.drop k).all (frameOk p w) = l.all (frameOk p w))) 0 (Nat.zero_le _) ⟨_,_,_,rfl,(by first | (simp only [go_sem,qW]; (try rfl); done) | rfl | simp),(by first | (simp only [go_sem,qW]; (try rfl); done) | rfl | simp),(by first | (simp only [go_sem,qW]; (try rfl); done) | rfl | simp),(by first | (simp only [go_sem,qW]; (try rfl); done) | rfl | simp),(by first | (simp only [go_sem,qW]; (try rfl); done) | rfl | simp),(by first | (simp only [go_sem,qW]; (try rfl); done) | rfl | simp),(by first | (simp only [go_sem,qW]; (try rfl); done) | rfl | simp)⟩ ?_
 rintro k st hk ⟨fr,en,cnt,rfl,h2,h3,e3,h4,e4,h7,hI⟩
 simp only [go_sem,qW,h2,h3,e3,h4,e4,h7]
 refine guard_split (fun h => ?_) (fun h => ?_)
 ·have h' : k < l.length := of_decide_eq_true h
  rw [all_step h'] at hI
  have hx := hf l[k] (List.getElem_mem _)
  simp only [go_sem,qW,h,h',h2,h3,e3,h4,e4,h7]
  refine wcond_split (fun hm => ?_) (fun hm => ?_)
  ·refine wp_still ?_ ?_
   ·decide
   simp only [go_sem,qW,h',h2,h3,e3,h4,e4,h7,(R06_in_pc _ _ _).ret,wrap_pred hp.nodes]
   refine guard_split (fun hb => ?_) (fun hb => ?_)
   ·have hb' : inR l[k].node 0 (p.nodes.length - 1) = true := by simpa using hb
    simp only [go_sem,qW,hb,hb',h2,h3,e3,h4,e4,h7,(R06_values_pc p w _ _ hp hw hx.1).ret]
    refine guard_split (fun hc => ?_) (fun hc => ?_)
    ·have hc' : valuesOk p w l[k].env 30 = true := by simpa using hc
     simp only [go_sem,qW,hc,hc',hb',h2,h3,e3,h4,e4,h7,ia_node,(R06_Asks_pc _).ret,(R06_values_pc p w _ _ hp hw hx.2).ret]
     refine wcond_split (fun hd => ?_) (fun hd => ?_)
     ·simp at hd
      simp [framesOk,← hI,frameOk,hb',hc',hd]
     ·simp at hd
      refine ⟨_,_,_,rfl,?_⟩
      simp only [go_sem,qW,h2,h3,e3,h4,e4,h7,wrap_succ h' hl]
      rw [← hI]; simp [frameOk,hb',hc',hd]
    ·simp only [go_sem,qW,hc,hb',h2,h3,e3,h4,e4,h7]
     simp at hc
     simp [framesOk,← hI,frameOk,hc]
   ·simp only [go_sem,qW,hb,h2,h3,e3,h4,e4,h7]
    simp at hb
    simp [framesOk,← hI,frameOk,hb]
  ·simp at hm
   try simp only [go_sem,qW,h2,h3,e3,h4,e4,h7]
   simp [framesOk]
   omega
 ·have : k = l.length := by simp at h; omega
  subst this
  try simp only [go_sem,qW,h,h2,h3,e3,h4,e4,h7]
  simp at hI
  simp [framesOk]
  exact fun _ => hI
end Go.Proofs.YthpmfghgoabnhaaGreat
namespace Go.Proofs.YthpmfghgoabnhaaGreat
open Go.Abs Go.Proofs
theorem R06_Open_pc (p : BProg) (l : List MFrame) (n : Nat) (hp : p.few) (hl : Few l.length) (hn : n ≤ l.length) (hf : ∀ f ∈ l,inR f.node 0 (p.nodes.length - 1) = true) :
  PC L F.R06_Open [.agg [.fz (p.nodes.map BNode.enc),.fz (p.funs.map (.int .i64)),.int .i64 p.main,.fz (p.cons.map BCon.enc)],.fz (l.map MFrame.enc),.int .i64 n] (.bool ((l.take n).all (frameOpen p))) := by
 refine pc_of LF.R06_Open rfl rfl ?_
 simp only [go_sem,qW,C.R06_Open]
 refine wp_for (n) (fun k st => ∃ fr en cnt,st = ⟨fr,en,cnt⟩ ∧ (fr 1 = .fz (l.map MFrame.enc)) ∧ (fr 2 = .int .i64 n) ∧ (fr 3 = .ptr ⟨0,3,0⟩ 0) ∧ (en ⟨0,3,0⟩ = some (.box p.cells false)) ∧ (fr 7 = .int .i64 k) ∧ (((l.take n).drop k).all (frameOpen p) = (l.take n).all (frameOpen p))) 0 (Nat.zero_le _) ⟨_,_,_,rfl,(by first | (simp only [go_sem,qW]; (try rfl); done) | rfl | simp),(by first | (simp only [go_sem,qW]; (try rfl); done) | rfl | simp),(by first | (simp only [go_sem,qW]; (try rfl); done) | rfl | simp),(by first | (simp only [go_sem,qW]; (try rfl); done) | rfl | simp),(by first | (simp only [go_sem,qW]; (try rfl); done) | rfl | simp),(by first | (simp only [go_sem,qW]; (try rfl); done) | rfl | simp)⟩ ?_
 rintro k st hk ⟨fr,en,cnt,rfl,h1,h2,h3,e3,h7,hI⟩
 simp only [go_sem,qW,h1,h2,h3,e3,h7]
 refine wcond_split (fun h => ?_) (fun h => ?_)
 ·have h'' : k < n := by simp at h; omega
  have h' : k < l.length := by omega
  rw [all_step (by simp; omega)] at hI
  have hx := hf l[k] (List.getElem_mem _)
  try simp only [go_sem,qW,h1,h2,h3,e3,h7]
  refine wp_still ?_ ?_
  ·decide
  simp only [go_sem,qW,h1,h2,h3,e3,h7,h',h'',hx,ia_node,(R06_Asks_pc _).ret]
  have he : (l.take n)[k]'(by simp; omega) = l[k] := by simp
  rw [he] at hI
  refine wcond_split (fun hb => ?_) (fun hb => ?_)
  ·simp at hb
   have : frameOpen p l[k] = false := by simp [frameOpen,hb]
   rw [← hI,this]; rfl
  ·simp at hb
   have : frameOpen p l[k] = true := by simp [frameOpen,hb]
   refine ⟨_,_,_,rfl,?_⟩
   simp only [go_sem,qW,h1,h2,h3,e3,h7,h'',wrap_succ h' hl]
   rw [← hI,this]; simp
 ·have : k = n := by simp at h; omega
  subst this
  try simp only [go_sem,qW]
  rw [← hI]; simp
theorem valuesOk_len {p : BProg} {w : MWorld} {l : List MVal} {m : Int} (h : valuesOk p w l m = true) : (l.length : Int) ≤ m := by
 simp [valuesOk] at h; exact h.1
theorem framesOk_len {p : BProg} {w : MWorld} {l : List MFrame} (h : framesOk p w l = true) : (l.length : Int) ≤ 40 := by
 simp [framesOk] at h; omega
theorem framesOk_node {p : BProg} {w : MWorld} {l : List MFrame} (h : framesOk p w l = true) : ∀ f ∈ l,inR f.node 0 (p.nodes.length - 1) = true := by
 simp [framesOk] at h
 intro f hf
 have := h.2 f hf
 simp [frameOk] at this
 exact this.1.1
theorem R06_task_pc (p : BProg) (w : MWorld) (o : MObj) (hp : p.few) (hw : w.few) (ho : o.few) : PC L F.R06_task [.agg [.fz (p.nodes.map BNode.enc),.fz (p.funs.map (.int .i64)),.int .i64 p.main,.fz (p.cons.map BCon.enc)],.agg [.fz (w.objs.map MObj.enc),.fz (w.tasks.map (.int .i64)),.fz (w.outs.map MOut.enc),.fz (w.ins.map (.int .i64)),.int .i64 w.used],.agg [.int .i64 o.form,.int .i64 o.n,.fz (o.vals.map MVal.enc),.fz (o.frames.map MFrame.enc)]] (.bool (taskOk p w o)) := by
 refine pc_of LF.R06_task rfl rfl ?_
 simp only [go_sem,qW,C.R06_task]
 refine wcond_split (fun h => ?_) (fun h => ?_) <;> simp only [decide_eq_true_eq,decide_eq_false_iff_not] at h
 ·simp only [go_sem,qW,(R06_frames_pc p w _ hp hw ho.2.1 ho.2.2).ret]
  refine guard_split (fun h1 => ?_) (fun h1 => ?_)
  ·simp only [go_sem,qW,h1,(R06_values_pc p w _ _ hp hw ho.1).ret]
   refine guard_split (fun h2 => ?_) (fun h2 => ?_)
   ·have k1 := framesOk_len h1
    have k2 := valuesOk_len h2
    have e1 : IntKind.i64.wrap ((o.frames.length : Int) + o.vals.length) = (o.frames.length : Int) + o.vals.length := wrap_in (by omega)
    simp only [go_sem,qW,h1,h2,e1]
    refine guard_split (fun h3 => ?_) (fun h3 => ?_)
    ·simp at h3
     have e2 : IntKind.i64.wrap ((o.frames.length : Int) - 1) = (o.frames.length : Int) - 1 := wrap_in (by omega)
     have e3 : IntKind.i64.wrap ((o.frames.length : Int) - 1 + o.vals.length) = ((o.frames.length + o.vals.length - 1 : Nat) : Int) := by rw [wrap_in (by omega)]; omega
     have e4 : min (o.frames.length : Int) (max 0 ((o.frames.length + o.vals.length - 1 : Nat) : Int)) = ((o.frames.length + o.vals.length - 1 : Nat) : Int) := by omega
     simp only [go_sem,qW,h3,e2,e3,e4,(R06_Open_pc p o.frames (o.frames.length + o.vals.length - 1) hp ho.2.1 (by omega) (framesOk_node h1)).ret]
     simp [taskOk,h,h1,h2,h3]
    ·simp only [go_sem,qW,h3]
     simp at h3
     simp [taskOk,h,h1,h2]
     omega
   ·simp only [go_sem,qW,h1,h2]
    simp at h2
    simp [taskOk,h,h1,h2]
  ·simp only [go_sem,qW,h1]
   simp at h1
   simp [taskOk,h,h1]
 ·repeat' ((first | with_reducible refine wcond_split (fun h => ?_) (fun h => ?_) | with_reducible refine guard_split (fun h => ?_) (fun h => ?_)) <;> (try simp only [decide_eq_true_eq,decide_eq_false_iff_not,Bool.not_true,Bool.not_false] at h) <;> try simp only [go_sem,qW,h,(R06_values_pc p w _ _ hp hw ho.1).ret])
  all_goals simp [taskOk, *]
  all_goals (intros; simp_all)
theorem R06_object_pc (p : BProg) (w : MWorld) (o : MObj) (hp : p.few) (hw : w.few) (ho : o.few) : PC L F.R06_object [.agg [.fz (p.nodes.map BNode.enc),.fz (p.funs.map (.int .i64)),.int .i64 p.main,.fz (p.cons.map BCon.enc)],.agg [.fz (w.objs.map MObj.enc),.fz (w.tasks.map (.int .i64)),.fz (w.outs.map MOut.enc),.fz (w.ins.map (.int .i64)),.int .i64 w.used],.agg [.int .i64 o.form,.int .i64 o.n,.fz (o.vals.map MVal.enc),.fz (o.frames.map MFrame.enc)]] (.bool (objOk p w o)) := by
 refine pc_of LF.R06_object rfl rfl ?_
 simp only [go_sem,qW,C.R06_object]
 refine wcond_split (fun h => ?_) (fun h => ?_) <;> simp only [decide_eq_true_eq,decide_eq_false_iff_not] at h
 ·simp only [go_sem,qW,(R06_task_pc p w o hp hw ho).ret]
  simp [objOk,h]
 ·refine wcond_split (fun h5 => ?_) (fun h5 => ?_) <;> simp only [decide_eq_true_eq,decide_eq_false_iff_not] at h5
  ·try simp only [go_sem,qW]
   refine guard_split (fun h1 => ?_) (fun h1 => ?_)
   ·simp only [go_sem,qW,h1]
    refine guard_split (fun h2 => ?_) (fun h2 => ?_)
    ·simp only [go_sem,qW,h1,h2]
     refine guard_split (fun h3 => ?_) (fun h3 => ?_)
     ·simp only [go_sem,qW,h1,h2,h3,(R06_frames_pc p w _ hp hw ho.2.1 ho.2.2).ret]
      refine guard_split (fun h4 => ?_) (fun h4 => ?_)
      ·simp only [go_sem,qW,h1,h2,h3,h4,(R06_Open_pc p o.frames o.frames.length hp ho.2.1 (Nat.le_refl _) (framesOk_node h4)).ret]
       refine guard_split (fun h6 => ?_) (fun h6 => ?_)
       ·have hpos : 0 < o.frames.length := by have := of_decide_eq_true h3; omega
        have hn : inR (o.frames.headD default).node 0 (p.nodes.length - 1) = true := framesOk_node h4 _ (by cases hh : o.frames with | nil => simp [hh] at hpos | cons a l => simp)
        simp only [go_sem,qW,h6,ia_frame0 hpos,hn,ia_node]
        simp at h6 h1 h2
        simp [objOk,h,h5,h1,h2,h4,h6]
        first | (intros; simp_all; done) | trace_state
       ·simp only [go_sem,qW,h6]
        simp at h6 h1 h2
        simp [objOk,h,h5,h1,h2,h4]
        obtain ⟨x,hx,hx2⟩ := h6
        intro _ hh
        rw [hh x hx] at hx2; cases hx2
      ·simp only [go_sem,qW,h4]
       simp at h4
       simp [objOk,h,h5,h4]
     ·simp only [go_sem,qW,h3]
      simp at h3
      simp [objOk,h,h5,h3]
    ·simp only [go_sem,qW,h2]
     simp at h2
     simp [objOk,h,h5,h2]
   ·simp only [go_sem,qW,h1]
    simp at h1
    simp [objOk,h,h5,h1]
  ·try simp only [go_sem,qW]
   refine wcond_split (fun h7 => ?_) (fun h7 => ?_)
   ·simp at h7
    simp [objOk,h,h5,h7]
   ·have h7' : (o.frames.length : Int) = 0 := by simp at h7; simp [h7]
    try simp only [go_sem,qW]
    repeat' ((first | with_reducible refine wcond_split (fun h => ?_) (fun h => ?_) | with_reducible refine guard_split (fun h => ?_) (fun h => ?_)) <;> (try simp only [decide_eq_true_eq,decide_eq_false_iff_not,Bool.not_true,Bool.not_false] at h) <;> try simp only [go_sem,qW, *,(R06_in_pc _ _ _).ret,(R06_values_pc p w _ _ hp hw ho.1).ret,wrap_pred hp.nodes,wrap_pred hp.cons,ia_node,ia_con])
    all_goals simp [objOk, *]
    all_goals (intros; simp_all)
end Go.Proofs.YthpmfghgoabnhaaGreat
namespace Go.Proofs.YthpmfghgoabnhaaGreat
open Go.Abs Go.Proofs
theorem R06_Ints_pc (l : List Int) (m : Int) (hl : Few l.length) : PC L F.R06_Ints [.fz (l.map (.int .i64)),.int .i64 m] (.bool (intsOk l m)) := by
 refine pc_of LF.R06_Ints rfl rfl ?_
 simp only [go_sem,qW,C.R06_Ints]
 refine wp_for (l.length) (fun k st => ∃ fr en cnt,st = ⟨fr,en,cnt⟩ ∧ (fr 0 = .fz (l.map (.int .i64))) ∧ (fr 1 = .int .i64 m) ∧ (fr 5 = .int .i64 k) ∧ ((l.drop k).all (fun n => inR n (-1000000000) 1000000000) = l.all fun n => inR n (-1000000000) 1000000000)) 0 (Nat.zero_le _) ⟨_,_,_,rfl,(by first | (simp only [go_sem,qW]; (try rfl); done) | rfl | simp),(by first | (simp only [go_sem,qW]; (try rfl); done) | rfl | simp),(by first | (simp only [go_sem,qW]; (try rfl); done) | rfl | simp),(by first | (simp only [go_sem,qW]; (try rfl); done) | rfl | simp)⟩ ?_
 rintro k st hk ⟨fr,en,cnt,rfl,h0,h1,h5,hI⟩
 simp only [go_sem,qW,h0,h1,h5]
 refine guard_split (fun h => ?_) (fun h => ?_)
 ·have h' : k < l.length := of_decide_eq_true h
  rw [all_step h'] at hI
  simp only [go_sem,qW,h,h',h0,h1,h5]
  refine wcond_split (fun hm => ?_) (fun hm => ?_)
  ·simp only [go_sem,qW,h',h0,h1,h5,(R06_in_pc _ _ _).ret]
   refine wcond_split (fun hb => ?_) (fun hb => ?_)
   ·simp at hb
    simp [intsOk,← hI,hb]
   ·simp at hb
    refine ⟨_,_,_,rfl,?_⟩
    simp only [go_sem,qW,h0,h1,h5,wrap_succ h' hl]
    rw [← hI,hb]; simp
  ·simp at hm
   try simp only [go_sem,qW,h0,h1,h5]
   simp [intsOk]
   omega
 ·have : k = l.length := by simp at h; omega
  subst this
  try simp only [go_sem,qW,h,h0,h1,h5]
  simp at hI
  simp [intsOk]
  exact fun _ => hI
theorem R06_tasks_pc (w : MWorld) (hw : w.few) : PC L F.R06_tasks [.agg [.fz (w.objs.map MObj.enc),.fz (w.tasks.map (.int .i64)),.fz (w.outs.map MOut.enc),.fz (w.ins.map (.int .i64)),.int .i64 w.used]] (.bool (tasksOk w)) := by
 refine pc_of LF.R06_tasks rfl rfl ?_
 simp only [go_sem,qW,C.R06_tasks]
 refine wp_for (w.objs.length) (fun k st => ∃ fr en cnt,st = ⟨fr,en,cnt⟩ ∧ (fr 1 = .ptr ⟨0,1,0⟩ 0) ∧ (en ⟨0,1,0⟩ = some (.box w.cells false)) ∧ (fr 3 = .int .i64 ((w.objs.take k).countP isTask : Nat)) ∧ (fr 4 = .int .i64 k)) 0 (Nat.zero_le _) ⟨_,_,_,rfl,(by first | (simp only [go_sem,qW]; (try rfl); done) | rfl | simp),(by first | (simp only [go_sem,qW]; (try rfl); done) | rfl | simp),(by first | (simp only [go_sem,qW]; (try rfl); done) | rfl | simp),(by first | (simp only [go_sem,qW]; (try rfl); done) | rfl | simp)⟩ ?_
 rintro k st hk ⟨fr,en,cnt,rfl,h1,e1,h3,h4⟩
 simp only [go_sem,qW,h1,e1,h3,h4]
 refine wcond_split (fun h => ?_) (fun h => ?_)
 ·have h' : k < w.objs.length := of_decide_eq_true h
  have hc : (w.objs.take k).countP isTask ≤ k := Nat.le_trans List.countP_le_length (by simp; omega)
  have hs := count_step h' isTask
  simp only [go_sem,qW,h',h1,e1,h3,h4]
  refine wcond_split (fun hb => ?_) (fun hb => ?_)
  ·simp at hb
   have e : IntKind.i64.wrap (((w.objs.take k).countP isTask : Nat) + 1) = (((w.objs.take (k + 1)).countP isTask : Nat) : Int) := by
    have := hw.objs; unfold Few at this
    rw [wrap_in (by omega),hs]; simp [isTask,hb]
   simp only [go_sem,qW,h1,e1,h3,h4,e,wrap_succ h' hw.objs]
   refine ⟨_,_,_,rfl,?_⟩
   simp only [go_sem,qW,h1,e1,h3,h4,e,wrap_succ h' hw.objs]
  ·simp at hb
   have e : (w.objs.take (k + 1)).countP isTask = (w.objs.take k).countP isTask := by rw [hs]; simp [isTask,hb]
   refine ⟨_,_,_,rfl,?_⟩
   simp only [go_sem,qW,h1,e1,h3,h4,e,wrap_succ h' hw.objs]
 ·have : k = w.objs.length := by simp at h; omega
  subst this
  try simp only [go_sem,qW,h1,e1,h3,h4,List.take_length]
  refine wcond_split (fun hb => ?_) (fun hb => ?_)
  ·simp at hb
   simp [tasksOk]; intro h0; omega
  ·have hn : w.tasks.length = w.objs.countP isTask := by simp at hb; omega
   clear hb h
   refine wp_for (w.tasks.length) (fun k st => ∃ fr en cnt,st = ⟨fr,en,cnt⟩ ∧ (fr 1 = .ptr ⟨0,1,0⟩ 0) ∧ (en ⟨0,1,0⟩ = some (.box w.cells false)) ∧ (fr 3 = .int .i64 (w.tasks.length : Nat)) ∧ (fr 5 = .int .i64 k) ∧ (distinctTasks w (w.tasks.take k) (w.tasks.drop k) = distinctTasks w [] w.tasks)) 0 (Nat.zero_le _) ⟨_,_,_,rfl,(by first | (simp only [go_sem,h1,e1,h3,h4,hn,List.take_length]; (try rfl); done) | rfl | simp),(by first | (simp only [go_sem,h1,e1,h3,h4,hn,List.take_length]; (try rfl); done) | rfl | simp),(by first | (simp only [go_sem,h1,e1,h3,h4,hn,List.take_length]; (try rfl); done) | rfl | simp),(by first | (simp only [go_sem,h1,e1,h3,h4,hn,List.take_length]; (try rfl); done) | rfl | simp),(by first | (simp only [go_sem,h1,e1,h3,h4,hn,List.take_length]; (try rfl); done) | rfl | simp)⟩ ?_
   rintro k st hk ⟨fr,en,cnt,rfl,h1,e1,h3,h5,hI⟩
   simp only [go_sem,qW,h1,e1,h3,h5]
   refine wcond_split (fun h => ?_) (fun h => ?_)
   ·have h' : k < w.tasks.length := of_decide_eq_true h
    rw [List.drop_eq_getElem_cons h',distinctTasks,← take_step h'] at hI
    simp only [go_sem,qW,h',h1,e1,h3,h5,(R06_in_pc _ _ _).ret,wrap_pred hw.objs]
    refine guard_split (fun hb => ?_) (fun hb => ?_)
    ·have hb' : inR w.tasks[k] 0 (w.objs.length - 1) = true := by simpa using hb
     simp only [go_sem,qW,h',hb,hb',h1,e1,h3,h5,ia_obj]
     refine guard_split (fun hc => ?_) (fun hc => ?_)
     ·have hc' : isTask (w.obj w.tasks[k]) = true := by simpa [isTask] using hc
      simp only [go_sem,qW,h',hb,hb',hc,h1,e1,h3,h5,slice_to,hk,← List.map_take,(R06_listed_pc _ _ (few_take hw.tasks k)).ret]
      refine wcond_split (fun hd => ?_) (fun hd => ?_)
      ·simp [tasksOk,← hI,hb',hc',hd]
      ·refine ⟨_,_,_,rfl,?_⟩
       simp only [go_sem,qW,h1,e1,h3,h5,wrap_succ h' hw.tasks]
       rw [← hI,hb',hc',hd]; simp
     ·simp only [go_sem,qW,hc,h1,e1,h3,h5]
      simp [isTask] at hc
      simp [tasksOk,← hI,isTask,hc]
    ·simp only [go_sem,qW,hb,h1,e1,h3,h5]
     simp at hb
     simp [tasksOk,← hI,hb]
   ·have : k = w.tasks.length := by simp at h; omega
    subst this
    try simp only [go_sem,qW,h1,e1,h3,h5]
    have ht : distinctTasks w [] w.tasks = true := by rw [← hI]; simp [distinctTasks]
    simp [tasksOk,hn,ht]
theorem R06_World_pc (p : BProg) (w : MWorld) (hp : p.few) (hw : w.few) : PC L F.R06_World [.agg [.fz (p.nodes.map BNode.enc),.fz (p.funs.map (.int .i64)),.int .i64 p.main,.fz (p.cons.map BCon.enc)],.agg [.fz (w.objs.map MObj.enc),.fz (w.tasks.map (.int .i64)),.fz (w.outs.map MOut.enc),.fz (w.ins.map (.int .i64)),.int .i64 w.used]] (.bool (worldOk p w)) := by
 refine pc_of LF.R06_World rfl rfl ?_
 simp only [go_sem,qW,C.R06_World]
 repeat' ((first | with_reducible refine wcond_split (fun h => ?_) (fun h => ?_) | with_reducible refine guard_split (fun h => ?_) (fun h => ?_)) <;> (try simp only [decide_eq_true_eq,decide_eq_false_iff_not,Bool.not_true,Bool.not_false] at h) <;> try simp only [go_sem,qW, *,(R06_in_pc _ _ _).ret,(R06_Ints_pc _ _ hw.ins).ret,(R06_tasks_pc w hw).ret])
 all_goals (try simp only [Bool.not_eq_true',Bool.not_eq_false',Int.not_lt,Int.not_le] at *)
 all_goals try (simp [worldOk, *]; done)
 all_goals try (simp [worldOk, *]; intros; omega)
 rename_i g1 g2 g3 g4
 refine wp_for (w.objs.length) (fun k st => ∃ fr en cnt,st = ⟨fr,en,cnt⟩ ∧ (fr 2 = .ptr ⟨0,2,0⟩ 0) ∧ (en ⟨0,2,0⟩ = some (.box p.cells false)) ∧ (fr 3 = .ptr ⟨0,3,0⟩ 0) ∧ (en ⟨0,3,0⟩ = some (.box w.cells false)) ∧ (fr 5 = .int .i64 k) ∧ ((w.objs.drop k).all (objOk p w) = w.objs.all (objOk p w))) 0 (Nat.zero_le _) ⟨_,_,_,rfl,(by first | (simp only [go_sem,qW]; (try rfl); done) | rfl | simp),(by first | (simp only [go_sem,qW]; (try rfl); done) | rfl | simp),(by first | (simp only [go_sem,qW]; (try rfl); done) | rfl | simp),(by first | (simp only [go_sem,qW]; (try rfl); done) | rfl | simp),(by first | (simp only [go_sem,qW]; (try rfl); done) | rfl | simp),(by first | (simp only [go_sem,qW]; (try rfl); done) | rfl | simp)⟩ ?_
 rintro k st hk ⟨fr,en,cnt,rfl,h2,e2,h3,e3,h5,hI⟩
 simp only [go_sem,qW,h2,e2,h3,e3,h5]
 refine wcond_split (fun h1 => ?_) (fun h1 => ?_)
 ·have h' : k < w.objs.length := of_decide_eq_true h1
  rw [all_step h'] at hI
  simp only [go_sem,qW,h',h2,e2,h3,e3,h5,(R06_object_pc p w _ hp hw (hw.obj w.objs[k] (List.getElem_mem _))).ret]
  refine wcond_split (fun hb => ?_) (fun hb => ?_)
  ·simp at hb
   simp [worldOk,← hI,hb]
  ·simp at hb
   refine ⟨_,_,_,rfl,?_⟩
   simp only [go_sem,qW,h2,e2,h3,e3,h5,wrap_succ h' hw.objs]
   rw [← hI,hb]; simp
 ·have : k = w.objs.length := by simp at h1; omega
  subst this
  have hobj : w.objs.all (objOk p w) = true := by rw [← hI]; simp
  clear hI h1
  try simp only [go_sem,qW,h2,e2,h3,e3,h5]
  refine wp_for (w.outs.length) (fun k st => ∃ fr en cnt,st = ⟨fr,en,cnt⟩ ∧ (fr 3 = .ptr ⟨0,3,0⟩ 0) ∧ (en ⟨0,3,0⟩ = some (.box w.cells false)) ∧ (fr 6 = .int .i64 k) ∧ ((w.outs.drop k).all outOk = w.outs.all outOk)) 0 (Nat.zero_le _) ⟨_,_,_,rfl,(by first | (simp only [go_sem,h2,e2,h3,e3,h5]; (try rfl); done) | rfl | simp),(by first | (simp only [go_sem,h2,e2,h3,e3,h5]; (try rfl); done) | rfl | simp),(by first | (simp only [go_sem,h2,e2,h3,e3,h5]; (try rfl); done) | rfl | simp),(by first | (simp only [go_sem,h2,e2,h3,e3,h5]; (try rfl); done) | rfl | simp)⟩ ?_
  rintro k st hk ⟨fr,en,cnt,rfl,h3,e3,h6,hI⟩
  simp only [go_sem,qW,h3,e3,h6]
  refine wcond_split (fun h1 => ?_) (fun h1 => ?_)
  ·have h' : k < w.outs.length := of_decide_eq_true h1
   rw [all_step h'] at hI
   simp only [go_sem,qW,h',h3,e3,h6,(R06_in_pc _ _ _).ret]
   refine guard_split (fun hb => ?_) (fun hb => ?_)
   ·simp at hb
    simp only [go_sem,qW,h',hb,Bool.not_true,h3,e3,h6,(R06_in_pc _ _ _).ret]
    refine wcond_split (fun hc => ?_) (fun hc => ?_)
    ·simp at hc
     simp [worldOk,← hI,outOk,hc]
    ·simp at hc
     refine ⟨_,_,_,rfl,?_⟩
     simp only [go_sem,qW,h3,e3,h6,wrap_succ h' hw.outs]
     rw [← hI,outOk,hb,hc]; simp
   ·simp at hb
    simp only [go_sem,qW,hb,Bool.not_false,h3,e3,h6]
    simp [worldOk,← hI,outOk,hb]
  ·have : k = w.outs.length := by simp at h1; omega
   subst this
   have hout : w.outs.all outOk = true := by rw [← hI]; simp
   try simp only [go_sem,qW,h3,e3,h6]
   simp only [worldOk,hobj,hout,g3,g4,h]
   simp [g1,g2]
theorem R06_smallVals_pc (l : List MVal) : PC L F.R06_smallVals [.fz (l.map MVal.enc)] (.bool (decide ((l.length : Int) ≤ 40))) := by
 refine pc_of LF.R06_smallVals rfl rfl ?_
 simp only [go_sem,qW,C.R06_smallVals]
theorem R06_SmallWorld_pc (w : MWorld) (hw : w.few) : PC L F.R06_SmallWorld [.agg [.fz (w.objs.map MObj.enc),.fz (w.tasks.map (.int .i64)),.fz (w.outs.map MOut.enc),.fz (w.ins.map (.int .i64)),.int .i64 w.used]] (.bool (smallWorld w)) := by
 refine pc_of LF.R06_SmallWorld rfl rfl ?_
 simp only [go_sem,qW,C.R06_SmallWorld]
 repeat' ((first | with_reducible refine wcond_split (fun h => ?_) (fun h => ?_) | with_reducible refine guard_split (fun h => ?_) (fun h => ?_)) <;> (try simp only [decide_eq_true_eq,decide_eq_false_iff_not,Bool.not_true,Bool.not_false] at h) <;> try simp only [go_sem,qW, *])
 all_goals (try simp only [Bool.not_eq_true',Bool.not_eq_false',Int.not_lt,Int.not_le] at *)
 all_goals try (simp [smallWorld, *]; done)
 all_goals try (simp [smallWorld, *]; intros; omega)
 rename_i g1 g2 g3
 refine wp_for (w.objs.length) (fun k st => ∃ fr en cnt,st = ⟨fr,en,cnt⟩ ∧ (fr 1 = .ptr ⟨0,1,0⟩ 0) ∧ (en ⟨0,1,0⟩ = some (.box w.cells false)) ∧ (fr 3 = .int .i64 k) ∧ ((w.objs.drop k).all smallObj = w.objs.all smallObj)) 0 (Nat.zero_le _) ⟨_,_,_,rfl,(by first | (simp only [go_sem,qW]; (try rfl); done) | rfl | simp),(by first | (simp only [go_sem,qW]; (try rfl); done) | rfl | simp),(by first | (simp only [go_sem,qW]; (try rfl); done) | rfl | simp),(by first | (simp only [go_sem,qW]; (try rfl); done) | rfl | simp)⟩ ?_
 rintro k st hk ⟨fr,en,cnt,rfl,h1,e1,h3,hI⟩
 simp only [go_sem,qW,h1,e1,h3]
 refine wcond_split (fun hq => ?_) (fun hq => ?_)
 ·have h' : k < w.objs.length := of_decide_eq_true hq
  have hx := hw.obj w.objs[k] (List.getElem_mem _)
  rw [all_step h'] at hI
  simp only [go_sem,qW,h',h1,e1,h3,(R06_smallVals_pc _).ret]
  refine guard_split (fun hb => ?_) (fun hb => ?_)
  ·simp at hb
   try simp only [go_sem,qW,h',hb,h1,e1,h3]
   refine wcond_split (fun hc => ?_) (fun hc => ?_)
   ·simp at hc
    simp [smallWorld,← hI,smallObj]
    intros; omega
   ·simp at hc
    generalize cnt 0 4 = g4
    refine wp_for (w.objs[k].frames.length) (fun j st => ∃ fr en cnt,st = ⟨fr,en,cnt⟩ ∧ (fr 1 = .ptr ⟨0,1,0⟩ 0) ∧ (en ⟨0,1,0⟩ = some (.box w.cells false)) ∧ (fr 4 = .ptr ⟨0,4,g4⟩ 0) ∧ (en ⟨0,4,g4⟩ = some (.box [.int .i64 w.objs[k].form,.int .i64 w.objs[k].n,.fz (w.objs[k].vals.map MVal.enc),.fz (w.objs[k].frames.map MFrame.enc)] false)) ∧ (fr 3 = .int .i64 k) ∧ (fr 5 = .int .i64 j) ∧ ((w.objs[k].frames.drop j).all (fun f => decide ((f.env.length : Int) ≤ 40) && decide ((f.vals.length : Int) ≤ 40)) = w.objs[k].frames.all fun f => decide ((f.env.length : Int) ≤ 40) && decide ((f.vals.length : Int) ≤ 40))) 0 (Nat.zero_le _) ⟨_,_,_,rfl,(by first | (simp only [go_sem,h1,e1,h3]; (try rfl); done) | rfl | simp),(by first | (simp only [go_sem,h1,e1,h3]; (try rfl); done) | rfl | simp),(by first | (simp only [go_sem,h1,e1,h3]; (try rfl); done) | rfl | simp),(by first | (simp only [go_sem,h1,e1,h3]; (try rfl); done) | rfl | simp),(by first | (simp only [go_sem,h1,e1,h3]; (try rfl); done) | rfl | simp),(by first | (simp only [go_sem,h1,e1,h3]; (try rfl); done) | rfl | simp),(by first | (simp only [go_sem,h1,e1,h3]; (try rfl); done) | rfl | simp)⟩ ?_
    rintro j st hk ⟨fr,en,cnt,rfl,h1,e1,h4,e4,h3,h5,hJ⟩
    simp only [go_sem,qW,h1,e1,h4,e4,h3,h5]
    refine wcond_split (fun h2 => ?_) (fun h2 => ?_)
    ·have h2' : j < w.objs[k].frames.length := of_decide_eq_true h2
     rw [all_step h2'] at hJ
     simp only [go_sem,qW,h2',h1,e1,h4,e4,h3,h5,(R06_smallVals_pc _).ret]
     refine guard_split (fun hd => ?_) (fun hd => ?_)
     ·simp only [go_sem,qW,h2',hd,h1,e1,h4,e4,h3,h5,(R06_smallVals_pc _).ret]
      refine wcond_split (fun he => ?_) (fun he => ?_)
      ·simp at he
       have : w.objs[k].frames.all (fun f => decide ((f.env.length : Int) ≤ 40) && decide ((f.vals.length : Int) ≤ 40)) = false := by rw [← hJ]; simp; intros; omega
       simp only [smallWorld,← hI,smallObj,this]
       simp
      ·refine ⟨_,_,_,rfl,?_⟩
       simp only [go_sem,qW,h1,e1,h4,e4,h3,h5,wrap_succ h2' hx.2.1]
       simp at hd he
       rw [← hJ]; simp; intros; exact ⟨by omega,by omega⟩
     ·simp only [go_sem,qW,hd,Bool.not_false,h1,e1,h4,e4,h3,h5]
      simp at hd
      have : w.objs[k].frames.all (fun f => decide ((f.env.length : Int) ≤ 40) && decide ((f.vals.length : Int) ≤ 40)) = false := by rw [← hJ]; simp; intros; omega
      simp only [smallWorld,← hI,smallObj,this]
      simp
    ·have : j = w.objs[k].frames.length := by simp at h2; omega
     subst this
     have hfr : smallObj w.objs[k] = true := by
      simp only [smallObj,← hJ]; simp; exact ⟨by omega,by omega⟩
     try simp only [go_sem,qW,h1,e1,h4,e4,h3,h5]
     refine ⟨_,_,_,rfl,?_⟩
     simp only [go_sem,qW,h1,e1,h4,e4,h3,h5,wrap_succ h' hw.objs]
     rw [← hI,hfr]; simp
  ·simp only [go_sem,qW,h',hb,Bool.not_false,h1,e1,h3]
   simp at hb
   have : smallObj w.objs[k] = false := by simp [smallObj]; intros; omega
   simp [smallWorld,← hI,this]
 ·have : k = w.objs.length := by simp at hq; omega
  subst this
  have hobj : w.objs.all smallObj = true := by rw [← hI]; simp
  try simp only [go_sem,qW,h1,e1,h4,e4,h3,h5]
  simp only [smallWorld,hobj]
  simp [g1,g2,g3,h]
end Go.Proofs.YthpmfghgoabnhaaGreat
namespace Go.Proofs.YthpmfghgoabnhaaGreat
open Go.Abs Go.Proofs
theorem R05_in_pc (n lo hi : Int) : PC L F.R05_in [.int .i64 n,.int .i64 lo,.int .i64 hi] (.bool (inR n lo hi)) := by
 refine pc_of LF.R05_in rfl rfl ?_
 simp only [go_sem,qW,C.R05_in]
 refine guard_split (fun h => ?_) (fun h => ?_) <;> simp only [go_sem,qW,h] <;> simp at h <;> simp [h,inR]
 omega
theorem R01_small_pc (s : ByteArray) (hs : Few s.size) : PC L F.R01_small [.str s] (.bool (smallL (octs s))) := by
 refine pc_of LF.R01_small rfl rfl ?_
 simp only [go_sem,qW,C.R01_small]
 refine wp_for (s.size) (fun k st => ∃ fr en cnt,st = ⟨fr,en,cnt⟩ ∧ (fr 0 = .str s) ∧ (fr 3 = .int .i64 k) ∧ (((octs s).drop k).all isSmall = (octs s).all isSmall)) 0 (Nat.zero_le _) ⟨_,_,_,rfl,(by first | (simp only [go_sem,qW]; (try rfl); done) | rfl | simp),(by first | (simp only [go_sem,qW]; (try rfl); done) | rfl | simp),(by first | (simp only [go_sem,qW]; (try rfl); done) | rfl | simp)⟩ ?_
 rintro k st hk ⟨fr,en,cnt,rfl,h0,h3,hI⟩
 have hsz := octs_len s
 simp only [go_sem,qW,h0,h3]
 refine wcond_split (fun h => ?_) (fun h => ?_)
 ·have h' : k < s.size := of_decide_eq_true h
  have h'' : k < (octs s).length := by omega
  rw [all_step h''] at hI
  simp only [go_sem,qW,h',h'',h0,h3,ixs_oct h'']
  refine guard_split (fun hb => ?_) (fun hb => ?_)
  ·simp only [go_sem,qW,h',hb,h0,h3,ixs_oct h'']
   refine wcond_split (fun hc => ?_) (fun hc => ?_)
   ·simp only [decide_eq_true_eq,decide_eq_false_iff_not] at hb hc
    have : isSmall (octs s)[k] = false := by simp only [isSmall,Bool.and_eq_false_iff,decide_eq_false_iff_not]; right; omega
    simp [smallL,← hI,this]
   ·simp only [decide_eq_true_eq,decide_eq_false_iff_not] at hb hc
    have : isSmall (octs s)[k] = true := by simp only [isSmall,Bool.and_eq_true,decide_eq_true_eq]; constructor <;> omega
    refine ⟨_,_,_,rfl,?_⟩
    simp only [go_sem,qW,h0,h3,wrap_succ h' hs]
    rw [← hI,this]; simp
  ·simp only [go_sem,qW,hb,Bool.not_false,h0,h3]
   simp only [decide_eq_true_eq,Bool.not_false] at hb
   have : isSmall (octs s)[k] = false := by simp only [isSmall,Bool.and_eq_false_iff,decide_eq_false_iff_not]; left; omega
   simp [smallL,← hI,this]
 ·have : k = s.size := by simp at h; omega
  subst this
  try simp only [go_sem,qW,h0,h3]
  rw [smallL,← hI,← hsz]; simp
theorem R01_Has_pc (l : List ByteArray) (s : ByteArray) (hl : Few l.length) : PC L F.R01_Has [.fz (l.map .str),.str s] (.bool (hasStr l s)) := by
 refine pc_of LF.R01_Has rfl rfl ?_
 simp only [go_sem,qW,C.R01_Has]
 refine wp_for (l.length) (fun k st => ∃ fr en cnt,st = ⟨fr,en,cnt⟩ ∧ (fr 0 = .fz (l.map .str)) ∧ (fr 1 = .str s) ∧ (fr 5 = .int .i64 k) ∧ ((l.drop k).any (fun x => strEq x s) = l.any fun x => strEq x s)) 0 (Nat.zero_le _) ⟨_,_,_,rfl,(by first | (simp only [go_sem,qW]; (try rfl); done) | rfl | simp),(by first | (simp only [go_sem,qW]; (try rfl); done) | rfl | simp),(by first | (simp only [go_sem,qW]; (try rfl); done) | rfl | simp),(by first | (simp only [go_sem,qW]; (try rfl); done) | rfl | simp)⟩ ?_
 rintro k st hk ⟨fr,en,cnt,rfl,h0,h1,h5,hI⟩
 simp only [go_sem,qW,h0,h1,h5]
 refine wcond_split (fun h => ?_) (fun h => ?_)
 ·have h' : k < l.length := of_decide_eq_true h
  rw [any_step h'] at hI
  simp only [go_sem,qW,h',h0,h1,h5]
  refine wcond_split (fun hb => ?_) (fun hb => ?_)
  ·rw [hasStr,← hI,strEq,hb]; rfl
  ·refine ⟨_,_,_,rfl,?_⟩
   simp only [go_sem,qW,h0,h1,h5,wrap_succ h' hl]
   rw [← hI,strEq,hb]; simp
 ·have : k = l.length := by simp at h; omega
  subst this
  try simp only [go_sem,qW,h0,h1,h5]
  rw [hasStr,← hI]; simp
theorem R01_Differ_pc (l : List ByteArray) (hl : Few l.length) : PC L F.R01_Differ [.fz (l.map .str)] (.bool (apartStr [] l)) := by
 refine pc_of LF.R01_Differ rfl rfl ?_
 simp only [go_sem,qW,C.R01_Differ]
 refine wp_for (l.length) (fun k st => ∃ fr en cnt,st = ⟨fr,en,cnt⟩ ∧ (fr 0 = .fz (l.map .str)) ∧ (fr 3 = .int .i64 k) ∧ (apartStr (l.take k) (l.drop k) = apartStr [] l)) 0 (Nat.zero_le _) ⟨_,_,_,rfl,(by first | (simp only [go_sem,qW]; (try rfl); done) | rfl | simp),(by first | (simp only [go_sem,qW]; (try rfl); done) | rfl | simp),(by first | (simp only [go_sem,qW]; (try rfl); done) | rfl | simp)⟩ ?_
 rintro k st hk ⟨fr,en,cnt,rfl,h0,h3,hI⟩
 simp only [go_sem,qW,h0,h3]
 refine wcond_split (fun h => ?_) (fun h => ?_)
 ·have h' : k < l.length := of_decide_eq_true h
  rw [List.drop_eq_getElem_cons h',apartStr,← take_step h'] at hI
  simp only [go_sem,qW,h',h0,h3,slice_to,hk,← List.map_take,(R01_Has_pc _ _ (few_take hl k)).ret]
  refine wcond_split (fun hb => ?_) (fun hb => ?_)
  ·rw [← hI,hb]; rfl
  ·refine ⟨_,_,_,rfl,?_⟩
   simp only [go_sem,qW,h0,h3,wrap_succ h' hl]
   rw [← hI,hb]; simp
 ·have : k = l.length := by simp at h; omega
  subst this
  try simp only [go_sem,qW,h0,h3]
  rw [← hI]; simp [apartStr]
theorem slice_str1 {s : ByteArray} {en : En} (h : 1 ≤ s.size) : opSlice true 1 en (.str s) (some (.int .i64 1)) none none = some { v := .str (s.extract 1 s.size) } := by
 have : bound (some (.int .i64 1)) 0 s.size = some 1 := by
  simp only [bound]; rw [if_pos ⟨by omega,by omega⟩]; rfl
 simp [opSlice,bound_no,this]
theorem great_list {l : List UInt8} {n : Nat} (hn : l.length = n) (h : 0 < l.length) : greatL l = (decide ((n : Int) ≤ 8) && decide ((65 : Int) ≤ (l[0].toNat : Int)) && decide ((l[0].toNat : Int) ≤ 90) && smallL (l.drop 1)) := by
 cases l with
 | nil => simp at h
 | cons b l =>
  have e : decide ((b :: l).length ≤ 8) = decide ((n : Int) ≤ 8) := by rw [decide_eq_decide,hn]; omega
  simp only [greatL,e,List.getElem_cons_zero,List.drop_succ_cons,List.drop_zero]
theorem R01_Great_pc (s : ByteArray) (hs : Few s.size) : PC L F.R01_Great [.str s] (.bool (greatL (octs s))) := by
 refine pc_of LF.R01_Great rfl rfl ?_
 simp only [go_sem,qW,C.R01_Great]
 refine guard_split (fun h => ?_) (fun h => ?_)
 ·have h' : 1 ≤ s.size := by simp at h; omega
  have h0 : 0 < (octs s).length := by rw [octs_len]; omega
  have hix := fun (k : IntKind) => ixs_oct (k := k) h0
  simp only [Int.natCast_zero] at hix
  rw [great_list (octs_len s) h0]
  simp only [go_sem,qW,h]
  refine guard_split (fun h1 => ?_) (fun h1 => ?_) <;> simp only [go_sem,qW,h1,hix]
  refine guard_split (fun h2 => ?_) (fun h2 => ?_) <;> simp only [go_sem,qW,h1,h2,hix]
  refine guard_split (fun h3 => ?_) (fun h3 => ?_) <;> simp only [go_sem,qW,h1,h2,h3,slice_str1 h',(R01_small_pc _ (show Few (s.extract 1 s.size).size by unfold Few at *; simp; omega)).ret,octs_tail]
  all_goals simp only [decide_eq_true_eq,decide_eq_false_iff_not,Bool.not_true] at *
  all_goals simp [*]
 ·have : s.size = 0 := by simp at h; omega
  have e : octs s = [] := by rw [← List.length_eq_zero_iff,octs_len,this]
  simp only [go_sem,qW,h]
  rw [e]; rfl
theorem R05_kids_pc (op n a : Int) (hn : 0 ≤ n ∧ n ≤ 1000) : PC L F.R05_kids [.int .i64 op,.int .i64 n,.int .i64 a] (.int .i64 (kidsOf op n a)) := by
 have e : IntKind.i64.wrap (1 + n) = 1 + n := wrap_in (by omega)
 refine pc_of LF.R05_kids rfl rfl ?_
 simp only [go_sem,qC,qG,qW,C.R05_kids,e]
 repeat' ((first | with_reducible refine condK_split (fun h => ?_) (fun h => ?_) | with_reducible refine guardK_split (fun h => ?_) (fun h => ?_)) <;> (try simp only [decide_eq_true_eq,decide_eq_false_iff_not,Bool.not_true,Bool.not_false] at h) <;> try simp only [go_sem,qC,qG,qW,h,e])
 all_goals simp [kidsOf, *]
theorem R01_WeighPat_pc : ∀ q : Pat,q.few → ∀ left : Int,-1 ≤ left → left ≤ 1000 → PC L F.R01_WeighPat [.agg [.int .i64 q.form,.int .i64 q.n,.str q.text,.fz (q.parts.map Pat.enc)],.int .i64 left] (.int .i64 (weigh q left)) := by
 refine Pat.ind fun q ih hq left h1 h2 => ?_
 obtain ⟨hl,_,hps⟩ := Pat.few_parts hq
 refine pc_of LF.R01_WeighPat rfl rfl ?_
 simp only [go_sem,qW,C.R01_WeighPat]
 refine wcond_split (fun h => ?_) (fun h => ?_) <;> simp only [decide_eq_true_eq,decide_eq_false_iff_not] at h
 ·simp [weigh_eq,h]
 ·have e : IntKind.i64.wrap (left - 1) = left - 1 := wrap_in (by omega)
  rw [weigh_eq,if_neg h]
  try simp only [go_sem,qW,e]
  refine wp_for q.parts.length (fun k st => ∃ fr en cnt a,st = ⟨fr,en,cnt⟩ ∧ fr 1 = .int .i64 a ∧ fr 5 = .int .i64 k ∧ fr 2 = .ptr ⟨0,2,0⟩ 0 ∧ en ⟨0,2,0⟩ = some (.box [.int .i64 q.form,.int .i64 q.n,.str q.text,.fz (q.parts.map Pat.enc)] false) ∧ -1 ≤ a ∧ a ≤ 1000 ∧ weighs (q.parts.drop k) a = weighs q.parts (left - 1)) 0 (Nat.zero_le _) ⟨_,_,_,left - 1,rfl,by simp only [go_sem,qW],by simp only [go_sem,qW],by simp only [go_sem,qW],by simp only [go_sem,qW],by omega,by omega,rfl⟩ ?_
  rintro k st hk ⟨fr,en,cnt,a,rfl,h1,h5,h2,e2,ha,hb,hI⟩
  simp only [go_sem,qW,h1,h5,h2,e2]
  refine guard_split (fun hc => ?_) (fun hc => ?_)
  ·have h' : k < q.parts.length := of_decide_eq_true hc
   rw [List.drop_eq_getElem_cons h',weighs] at hI
   have hm : q.parts[k] ∈ q.parts := List.getElem_mem _
   simp only [go_sem,qW,hc,h',h1,h5,h2,e2]
   refine wcond_split (fun hd => ?_) (fun hd => ?_) <;> simp only [decide_eq_true_eq,decide_eq_false_iff_not] at hd
   ·rw [if_pos hd] at hI
    have hw := weigh_le q.parts[k] a ha
    simp only [go_sem,qW,h',h1,h5,h2,e2,(ih _ hm (hps _ hm) a ha hb).ret]
    refine ⟨_,_,_,weigh q.parts[k] a,rfl,?_⟩
    simp only [go_sem,qW,h',h1,h5,h2,e2,wrap_succ h' hl]
    exact ⟨hw.1,by omega,hI⟩
   ·rw [if_neg hd] at hI
    try simp only [go_sem,qW,h',h1,h5,h2,e2]
    rw [hI]
  ·have : k = q.parts.length := by simp at hc; omega
   subst this
   try simp only [go_sem,qW,hc,h1,h5,h2,e2]
   rw [← hI]; simp [weighs]
theorem R01_smallPat_pc : ∀ q : Pat,q.few → PC L F.R01_smallPat [.agg [.int .i64 q.form,.int .i64 q.n,.str q.text,.fz (q.parts.map Pat.enc)]] (.bool (smallTexts q)) := by
 refine Pat.ind fun q ih hq => ?_
 obtain ⟨hl,_,hps⟩ := Pat.few_parts hq
 refine pc_of LF.R01_smallPat rfl rfl ?_
 simp only [go_sem,qW,C.R01_smallPat]
 refine wp_for (q.parts.length) (fun k st => ∃ fr en cnt,st = ⟨fr,en,cnt⟩ ∧ (fr 1 = .ptr ⟨0,1,0⟩ 0) ∧ (en ⟨0,1,0⟩ = some (.box [.int .i64 q.form,.int .i64 q.n,.str q.text,.fz (q.parts.map Pat.enc)] false)) ∧ (fr 3 = .int .i64 k) ∧ ((q.parts.drop k).all smallTexts = q.parts.all smallTexts)) 0 (Nat.zero_le _) ⟨_,_,_,rfl,(by first | (simp only [go_sem,qW]; (try rfl); done) | rfl | simp),(by first | (simp only [go_sem,qW]; (try rfl); done) | rfl | simp),(by first | (simp only [go_sem,qW]; (try rfl); done) | rfl | simp),(by first | (simp only [go_sem,qW]; (try rfl); done) | rfl | simp)⟩ ?_
 rintro k st hk ⟨fr,en,cnt,rfl,h1,e1,h3,hI⟩
 simp only [go_sem,qW,h1,e1,h3]
 refine wcond_split (fun h => ?_) (fun h => ?_)
 ·have h' : k < q.parts.length := of_decide_eq_true h
  have hm : q.parts[k] ∈ q.parts := List.getElem_mem _
  rw [all_step h'] at hI
  simp only [go_sem,qW,h',h1,e1,h3,(ih _ hm (hps _ hm)).ret]
  refine wcond_split (fun hb => ?_) (fun hb => ?_)
  ·simp at hb
   rw [smallTexts_eq,← hI,hb]; rfl
  ·simp at hb
   refine ⟨_,_,_,rfl,?_⟩
   simp only [go_sem,qW,h1,e1,h3,wrap_succ h' hl]
   rw [← hI,hb]; simp
 ·have : k = q.parts.length := by simp at h; omega
  subst this
  have ht : q.parts.all smallTexts = true := by rw [← hI]; simp
  try simp only [go_sem,qW,h1,e1,h3]
  rw [smallTexts_eq,ht]; rfl
theorem R01_SmallPat_pc (q : Pat) (hq : q.few) : PC L F.R01_SmallPat [.agg [.int .i64 q.form,.int .i64 q.n,.str q.text,.fz (q.parts.map Pat.enc)]] (.bool (smallPat q)) := by
 refine pc_of LF.R01_SmallPat rfl rfl ?_
 simp only [go_sem,qW,C.R01_SmallPat,(R01_WeighPat_pc q hq 16 (by omega) (by omega)).ret]
 refine guard_split (fun h => ?_) (fun h => ?_) <;> simp only [go_sem,qW,h,(R01_smallPat_pc q hq).ret] <;> simp at h <;> simp [smallPat,h]
 intros; omega
theorem R05_pat_pc (cons : List BCon) (hc : Few cons.length) : ∀ q : Pat,q.few → PC L F.R05_pat [.agg [.int .i64 q.form,.int .i64 q.n,.str q.text,.fz (q.parts.map Pat.enc)],.fz (cons.map BCon.enc)] (.bool (patOk cons q)) := by
 refine Pat.ind fun q ih hq => ?_
 obtain ⟨hl,_,hps⟩ := Pat.few_parts hq
 refine pc_of LF.R05_pat rfl rfl ?_
 have e := wrap_pred hc
 simp only [go_sem,wp_seq_ops,Go.Abs.start,qC,qG,C.R05_pat]
 refine wp_cut' (fun st => (st.fr 1 = .fz (cons.map BCon.enc)) ∧ (st.fr 2 = .ptr ⟨0,2,0⟩ 0) ∧ (st.en ⟨0,2,0⟩ = some (.box [.int .i64 q.form,.int .i64 q.n,.str q.text,.fz (q.parts.map Pat.enc)] false)) ∧ (st.fr 6 = .int .i64 q.parts.length) ∧ (st.fr 5 = .bool (patHead0 cons q.form q.n q.parts.length))) ?_ ?_
 ·simp only [go_sem,qC,qG,qW,e,(R05_in_pc _ _ _).ret]
  repeat' ((first | with_reducible refine condK_split (fun h => ?_) (fun h => ?_) | with_reducible refine guardK_split (fun h => ?_) (fun h => ?_)) <;> (try simp only [decide_eq_true_eq,decide_eq_false_iff_not,Bool.not_true,Bool.not_false] at h) <;> try simp only [go_sem,qC,qG,qW, *,(R05_in_pc _ _ _).ret,ia_con])
  all_goals try simp [patHead0, *]
  all_goals (intro h0; exact absurd (by simp [h0]) h)
 ·rintro fr en cnt ⟨(h1 : fr 1 = .fz (cons.map BCon.enc)),(h2 : fr 2 = .ptr ⟨0,2,0⟩ 0),(e2 : en ⟨0,2,0⟩ = some (.box [.int .i64 q.form,.int .i64 q.n,.str q.text,.fz (q.parts.map Pat.enc)] false)),(h6 : fr 6 = .int .i64 q.parts.length),(h5 : fr 5 = .bool (patHead0 cons q.form q.n q.parts.length))⟩
  refine wp_cut' (fun st => (st.fr 1 = .fz (cons.map BCon.enc)) ∧ (st.fr 2 = .ptr ⟨0,2,0⟩ 0) ∧ (st.en ⟨0,2,0⟩ = some (.box [.int .i64 q.form,.int .i64 q.n,.str q.text,.fz (q.parts.map Pat.enc)] false)) ∧ (st.fr 6 = .int .i64 q.parts.length) ∧ (st.fr 5 = .bool (patHead cons q.form q.n q.text q.parts.length))) ?_ ?_
  ·simp only [go_sem,qC,qG,qW,h1,h2,e2,h6,h5]
   repeat' ((first | with_reducible refine condK_split (fun h => ?_) (fun h => ?_) | with_reducible refine guardK_split (fun h => ?_) (fun h => ?_)) <;> (try simp only [decide_eq_true_eq,decide_eq_false_iff_not,Bool.not_true,Bool.not_false] at h) <;> try simp only [go_sem,qC,qG,qW, *])
   all_goals simp [patHead,noText, *]
  ·rintro fr en cnt ⟨(h1 : fr 1 = .fz (cons.map BCon.enc)),(h2 : fr 2 = .ptr ⟨0,2,0⟩ 0),(e2 : en ⟨0,2,0⟩ = some (.box [.int .i64 q.form,.int .i64 q.n,.str q.text,.fz (q.parts.map Pat.enc)] false)),(h6 : fr 6 = .int .i64 q.parts.length),(h5 : fr 5 = .bool (patHead cons q.form q.n q.text q.parts.length))⟩
   rw [patOk_eq]
   generalize patHead cons q.form q.n q.text q.parts.length = b0 at h5
   simp only [go_sem,qC,qG,qW,h1,h2,e2,h6,h5]
   refine wp_for q.parts.length (fun k st => ∃ fr en cnt b,st = ⟨fr,en,cnt⟩ ∧ fr 1 = .fz (cons.map BCon.enc) ∧ fr 7 = .int .i64 k ∧ fr 6 = .int .i64 q.parts.length ∧ fr 2 = .ptr ⟨0,2,0⟩ 0 ∧ en ⟨0,2,0⟩ = some (.box [.int .i64 q.form,.int .i64 q.n,.str q.text,.fz (q.parts.map Pat.enc)] false) ∧ fr 5 = .bool b ∧ (b && (q.parts.drop k).all (patOk cons)) = (b0 && q.parts.all (patOk cons))) 0 (Nat.zero_le _) ⟨_,_,_,b0,rfl,by simp only [go_sem,h1,h2,e2,h6,h5],by simp only [go_sem,h1,h2,e2,h6,h5],by simp only [go_sem,h1,h2,e2,h6,h5],by simp only [go_sem,h1,h2,e2,h6,h5],by simp only [go_sem,h1,h2,e2,h6,h5],by simp only [go_sem,h1,h2,e2,h6,h5],rfl⟩ ?_
   rintro k st hk ⟨fr,en,cnt,b,rfl,h1,h7,h6,h2,e2,h5,hI⟩
   simp only [go_sem,qC,qG,qW,h1,h7,h6,h2,e2,h5]
   refine guardK_split (fun hd => ?_) (fun hd => ?_)
   ·have h' : k < q.parts.length := of_decide_eq_true hd
    have hm : q.parts[k] ∈ q.parts := List.getElem_mem _
    rw [all_step h'] at hI
    simp only [go_sem,qC,qG,qW,hd,h',h1,h7,h6,h2,e2,h5]
    refine condK_split (fun hb => ?_) (fun hb => ?_)
    ·simp only [go_sem,qC,qG,qW,hd,h',h1,h7,h6,h2,e2,h5,(ih _ hm (hps _ hm)).ret]
     refine ⟨_,_,_,patOk cons q.parts[k],rfl,?_⟩
     simp only [go_sem,qC,qG,qW,h',h1,h7,h6,h2,e2,h5,wrap_succ h' hl]
     rw [← hI,hb]; simp
    ·simp only [go_sem,qC,qG,qW,hd,h',h1,h7,h6,h2,e2,h5]
     rw [← hI,hb]; simp
   ·have : k = q.parts.length := by simp at hd; omega
    subst this
    simp only [go_sem,qC,qG,qW,hd,h1,h7,h6,h2,e2,h5]
    rw [← hI]; simp
theorem R05_cons_pc (l : List BCon) (hl : l.length ≤ 1000) (hs : ∀ c ∈ l,Few c.name.size) : PC L F.R05_cons [.fz (l.map BCon.enc)] (.bool (consOk l)) := by
 have hf : Few l.length := by unfold Few; omega
 refine pc_of LF.R05_cons rfl rfl ?_
 simp only [go_sem,qC,qG,qW,C.R05_cons]
 refine wp_for l.length (fun k st => ∃ fr en cnt,st = ⟨fr,en,cnt⟩ ∧ fr 0 = .fz (l.map BCon.enc) ∧ fr 4 = .int .i64 k ∧ Mine en (fr 3) 1 ((l.take k).map fun c => .str c.name) [34] ∧ (l.drop k).all conOk = l.all conOk) 0 (Nat.zero_le _) ⟨_,_,_,rfl,by simp only [go_sem,qW],by simp only [go_sem,qW],by simp only [go_sem,qW]; exact Mine.nil _ _,rfl⟩ ?_
 rintro k st hk ⟨fr,en,cnt,rfl,h0,h4,h3,hI⟩
 simp only [go_sem,qC,qG,qW,h0,h4]
 refine condK_split (fun h => ?_) (fun h => ?_)
 ·have h' : k < l.length := of_decide_eq_true h
  have hm : l[k] ∈ l := List.getElem_mem _
  rw [all_step h'] at hI
  simp only [go_sem,qC,qG,qW,h',h0,h4,(R01_Great_pc _ (hs _ hm)).ret]
  refine guardK_split (fun hb => ?_) (fun hb => ?_)
  ·simp only [go_sem,qC,qG,qW,hb,h',h0,h4,(R05_in_pc _ _ _).ret]
   refine condK_split (fun hc => ?_) (fun hc => ?_)
   ·simp only [go_sem,qC,qG,qW]
    simp at hc
    simp [consOk,← hI,conOk,hc]
   ·simp only [go_sem,qC,qG,qW,h',h0,h4]
    simp at hb hc
    have hk2 : conOk l[k] = true := by simp [conOk,hb,hc]
    have hx : Mine en (St.get (fun i => fr i) (.t 3)) 1 ((l.take k).map fun c => Val.str c.name) [34] := h3
    refine w_append (D := [34]) (xs := (l.take k).map fun c => Val.str c.name) (ys := [.str l[k].name]) (rs := []) ?_ ?_ ?_ ?_ ?_
    ·simp only [go_sem,qW]; exact h3
    ·simp only [go_sem,qW]
    ·rfl
    ·simp; omega
    ·intro v en' cnt' hown hen hcnt
     simp only [go_sem,qC,qG,qW,h',h0,h4]
     refine ⟨_,_,_,rfl,?_⟩
     simp only [go_sem,qC,qG,qW,h',h0,h4,wrap_succ h' hf]
     refine ⟨?_,?_⟩
     ·exact Mine.sub (by rw [take_step h',List.map_append]; exact hown) (by simp)
     ·rw [← hI,hk2]; simp
  ·simp only [go_sem,qC,qG,qW,hb,Bool.not_false]
   simp at hb
   simp [consOk,← hI,conOk,hb]
 ·have : k = l.length := by simp at h; omega
  subst this
  have ha : l.all conOk = true := by rw [← hI]; simp
  simp only [go_sem,qC,qG,qW,h0]
  refine guardK_split (fun hb => ?_) (fun hb => ?_)
  ·rw [List.take_length] at h3
   have hmap : (l.map fun c => Val.str c.name) = (l.map BCon.name).map .str := by simp
   simp only [go_sem,qC,qG,qW,hb]
   obtain ⟨r,ks,e1,_,e2,_⟩ := h3.snap 7
   have hd := R01_Differ_pc (l.map BCon.name) (by simpa using hf)
   rw [← hmap] at hd
   simp only [go_sem,qC,qG,qW,e1,e2,hd.ret]
   simp at hb
   simp [consOk,ha,hb]
  ·simp only [go_sem,qC,qG,qW,hb]
   simp at hb
   simp [consOk,hb]
   intros; omega
end Go.Proofs.YthpmfghgoabnhaaGreat
namespace Go.Proofs.YthpmfghgoabnhaaGreat
open Go.Abs Go.Proofs
theorem R05_SmallProg_pc (p : BProg) (hp : p.few) : PC L F.R05_SmallProg [.agg [.fz (p.nodes.map BNode.enc),.fz (p.funs.map (.int .i64)),.int .i64 p.main,.fz (p.cons.map BCon.enc)]] (.bool (smallProg p)) := by
 refine pc_of LF.R05_SmallProg rfl rfl ?_
 simp only [go_sem,qC,qG,qS,qW,C.R05_SmallProg]
 repeat' ((first | with_reducible refine condK_split (fun h => ?_) (fun h => ?_) | with_reducible refine guardK_split (fun h => ?_) (fun h => ?_)) <;> (try simp only [decide_eq_true_eq,decide_eq_false_iff_not,Bool.not_true,Bool.not_false] at h) <;> try simp only [go_sem,qC,qG,qS,qW, *])
 all_goals (try simp only [Bool.not_eq_true',Bool.not_eq_false',Int.not_lt,Int.not_le] at *)
 all_goals try (simp [smallProg, *]; done)
 all_goals try (simp [smallProg, *]; intros; omega)
 rename_i g1 g2
 refine wp_for (p.cons.length) (fun k st => ∃ fr en cnt,st = ⟨fr,en,cnt⟩ ∧ (fr 1 = .ptr ⟨0,1,0⟩ 0) ∧ (en ⟨0,1,0⟩ = some (.box p.cells false)) ∧ (fr 3 = .int .i64 k) ∧ ((p.cons.drop k).all (fun c => decide ((c.name.size : Int) ≤ 40)) = p.cons.all fun c => decide ((c.name.size : Int) ≤ 40))) 0 (Nat.zero_le _) ⟨_,_,_,rfl,(by first | (simp only [go_sem,qW]; (try rfl); done) | rfl | simp),(by first | (simp only [go_sem,qW]; (try rfl); done) | rfl | simp),(by first | (simp only [go_sem,qW]; (try rfl); done) | rfl | simp),(by first | (simp only [go_sem,qW]; (try rfl); done) | rfl | simp)⟩ ?_
 rintro k st hk ⟨fr,en,cnt,rfl,h1,e1,h3,hI⟩
 simp only [go_sem,qC,qG,qS,qW,h1,e1,h3]
 refine condK_split (fun hq => ?_) (fun hq => ?_)
 ·have h' : k < p.cons.length := of_decide_eq_true hq
  rw [all_step h'] at hI
  simp only [go_sem,qC,qG,qS,qW,h',h1,e1,h3]
  refine condK_split (fun hb => ?_) (fun hb => ?_)
  ·simp only [go_sem,qC,qG,qS,qW]
   simp at hb
   have : p.cons.all (fun c => decide ((c.name.size : Int) ≤ 40)) = false := by rw [← hI]; simp; intros; omega
   simp only [smallProg,this]; simp
  ·simp only [go_sem,qC,qG,qS,qW,h',h1,e1,h3]
   simp at hb
   refine ⟨_,_,_,rfl,?_⟩
   simp only [go_sem,qW,h1,e1,h3,wrap_succ h' hp.cons]
   rw [← hI]; simp; intros; omega
 ·have : k = p.cons.length := by simp at hq; omega
  subst this
  have hcon : p.cons.all (fun c => decide ((c.name.size : Int) ≤ 40)) = true := by rw [← hI]; simp
  clear hI hq
  simp only [go_sem,qC,qG,qS,qW,h1,e1,h3]
  refine wp_for (p.nodes.length) (fun k st => ∃ fr en cnt,st = ⟨fr,en,cnt⟩ ∧ (fr 1 = .ptr ⟨0,1,0⟩ 0) ∧ (en ⟨0,1,0⟩ = some (.box p.cells false)) ∧ (fr 4 = .int .i64 k) ∧ ((p.nodes.drop k).all smallNode = p.nodes.all smallNode)) 0 (Nat.zero_le _) ⟨_,_,_,rfl,(by first | (simp only [go_sem,h1,e1,h3]; (try rfl); done) | rfl | simp),(by first | (simp only [go_sem,h1,e1,h3]; (try rfl); done) | rfl | simp),(by first | (simp only [go_sem,h1,e1,h3]; (try rfl); done) | rfl | simp),(by first | (simp only [go_sem,h1,e1,h3]; (try rfl); done) | rfl | simp)⟩ ?_
  rintro k st hk ⟨fr,en,cnt,rfl,h1,e1,h4,hI⟩
  simp only [go_sem,qC,qG,qS,qW,h1,e1,h4]
  refine condK_split (fun hq => ?_) (fun hq => ?_)
  ·have h' : k < p.nodes.length := of_decide_eq_true hq
   have hx := hp.node p.nodes[k] (List.getElem_mem _)
   rw [all_step h'] at hI
   have fin : smallNode p.nodes[k] = false → Val.bool false = Val.bool (smallProg p) := by
    intro h; simp [smallProg,← hI,h]
   simp only [go_sem,qC,qG,qS,qW,h',h1,e1,h4]
   refine guardK_split (fun hb => ?_) (fun hb => ?_)
   ·simp only [go_sem,qC,qG,qS,qW,hb,h',h1,e1,h4]
    simp at hb
    refine condK_split (fun hc => ?_) (fun hc => ?_)
    ·simp only [go_sem,qC,qG,qS,qW]
     simp at hc
     exact fin (by simp [smallNode]; intros; omega)
    ·simp only [go_sem,qC,qG,qS,qW,h',h1,e1,h4]
     simp at hc
     generalize cnt 0 5 = g5
     refine wp_for (p.nodes[k].pats.length) (fun j st => ∃ fr en cnt,st = ⟨fr,en,cnt⟩ ∧ (fr 1 = .ptr ⟨0,1,0⟩ 0) ∧ (en ⟨0,1,0⟩ = some (.box p.cells false)) ∧ (fr 5 = .ptr ⟨0,5,g5⟩ 0) ∧ (en ⟨0,5,g5⟩ = some (.box [.int .i64 p.nodes[k].op,.int .i64 p.nodes[k].n,.fz (p.nodes[k].kids.map (.int .i64)),.fz (p.nodes[k].pats.map Pat.enc)] false)) ∧ (fr 4 = .int .i64 k) ∧ (fr 6 = .int .i64 j) ∧ ((p.nodes[k].pats.drop j).all smallPat = p.nodes[k].pats.all smallPat)) 0 (Nat.zero_le _) ⟨_,_,_,rfl,(by first | (simp only [go_sem,h1,e1,h4]; (try rfl); done) | rfl | simp),(by first | (simp only [go_sem,h1,e1,h4]; (try rfl); done) | rfl | simp),(by first | (simp only [go_sem,h1,e1,h4]; (try rfl); done) | rfl | simp),(by first | (simp only [go_sem,h1,e1,h4]; (try rfl); done) | rfl | simp),(by first | (simp only [go_sem,h1,e1,h4]; (try rfl); done) | rfl | simp),(by first | (simp only [go_sem,h1,e1,h4]; (try rfl); done) | rfl | simp),(by first | (simp only [go_sem,h1,e1,h4]; (try rfl); done) | rfl | simp)⟩ ?_
     rintro j st hk ⟨fr,en,cnt,rfl,h1,e1,h5,e5,h4,h6,hJ⟩
     simp only [go_sem,qC,qG,qS,qW,h1,e1,h5,e5,h4,h6]
     refine condK_split (fun h2 => ?_) (fun h2 => ?_)
     ·have h2' : j < p.nodes[k].pats.length := of_decide_eq_true h2
      rw [all_step h2'] at hJ
      simp only [go_sem,qC,qG,qS,qW,h2',h1,e1,h5,e5,h4,h6,(R01_SmallPat_pc _ (hx.pat _ (List.getElem_mem _))).ret]
      refine condK_split (fun hd => ?_) (fun hd => ?_)
      ·simp only [go_sem,qC,qG,qS,qW]
       simp at hd
       exact fin (by simp [smallNode,← hJ,hd])
      ·simp only [go_sem,qC,qG,qS,qW,h2',h1,e1,h5,e5,h4,h6]
       simp at hd
       refine ⟨_,_,_,rfl,?_⟩
       simp only [go_sem,qW,h1,e1,h5,e5,h4,h6,wrap_succ h2' hx.pats]
       rw [← hJ,hd]; simp
     ·have : j = p.nodes[k].pats.length := by simp at h2; omega
      subst this
      have hfr : smallNode p.nodes[k] = true := by
       simp only [smallNode,← hJ]; simp; exact ⟨by omega,by omega⟩
      simp only [go_sem,qC,qG,qS,qW,h',h1,e1,h5,e5,h4,h6]
      refine ⟨_,_,_,rfl,?_⟩
      simp only [go_sem,qW,h1,e1,h5,e5,h4,h6,wrap_succ h' hp.nodes]
      rw [← hI,hfr]; simp
   ·simp only [go_sem,qC,qG,qS,qW,hb,Bool.not_false,h1,e1,h4]
    simp at hb
    exact fin (by simp [smallNode]; intros; omega)
  ·have : k = p.nodes.length := by simp at hq; omega
   subst this
   have hn : p.nodes.all smallNode = true := by rw [← hI]; simp
   simp only [go_sem,qC,qG,qS,qW,h1,e1,h4]
   simp only [smallProg,hcon,hn]
   simp [g1,g2,h]
theorem R05_node_pc (p : BProg) (n : BNode) (hp : p.few) (hn : n.few) : PC L F.R05_node [.agg [.fz (p.nodes.map BNode.enc),.fz (p.funs.map (.int .i64)),.int .i64 p.main,.fz (p.cons.map BCon.enc)],.agg [.int .i64 n.op,.int .i64 n.n,.fz (n.kids.map (.int .i64)),.fz (n.pats.map Pat.enc)]] (.bool (nodeOk p n)) := by
 have e1 : IntKind.i64.wrap (0 - (p.funs.length : Int)) = -(p.funs.length : Int) := by have := hp.funs; unfold Few at this; rw [wrap_in (by omega)]; omega
 have e2 := wrap_pred hp.cons
 refine pc_of LF.R05_node rfl rfl ?_
 simp only [go_sem,wp_seq_ops,Go.Abs.start,qC,qG,qS,C.R05_node]
 refine wp_cut' (fun st => (st.fr 2 = .ptr ⟨0,2,0⟩ 0) ∧ (st.en ⟨0,2,0⟩ = some (.box p.cells false)) ∧ (st.fr 3 = .ptr ⟨0,3,0⟩ 0) ∧ (st.en ⟨0,3,0⟩ = some (.box [.int .i64 n.op,.int .i64 n.n,.fz (n.kids.map (.int .i64)),.fz (n.pats.map Pat.enc)] false)) ∧ (st.fr 6 = .bool (numOk p n)) ∧ (st.fr 5 = .int .i64 (argsOf p n))) ?_ ?_
 ·simp only [go_sem,qC,qG,qS,qW]
  repeat' ((first | with_reducible refine condK_split (fun h => ?_) (fun h => ?_) | with_reducible refine guardK_split (fun h => ?_) (fun h => ?_)) <;> (try simp only [decide_eq_true_eq,decide_eq_false_iff_not,Bool.not_true,Bool.not_false] at h) <;> try simp only [go_sem,qC,qG,qS,qW, *,(R05_in_pc _ _ _).ret,ia_con])
  all_goals simp [numOk,argsOf, *]
 ·rintro fr en cnt ⟨(h2 : fr 2 = .ptr ⟨0,2,0⟩ 0),(e2 : en ⟨0,2,0⟩ = some (.box p.cells false)),(h3 : fr 3 = .ptr ⟨0,3,0⟩ 0),(e3 : en ⟨0,3,0⟩ = some (.box [.int .i64 n.op,.int .i64 n.n,.fz (n.kids.map (.int .i64)),.fz (n.pats.map Pat.enc)] false)),(h6 : fr 6 = .bool (numOk p n)),(h5 : fr 5 = .int .i64 (argsOf p n))⟩
  refine wp_cut' (fun st => (st.fr 2 = .ptr ⟨0,2,0⟩ 0) ∧ (st.en ⟨0,2,0⟩ = some (.box p.cells false)) ∧ (st.fr 3 = .ptr ⟨0,3,0⟩ 0) ∧ (st.en ⟨0,3,0⟩ = some (.box [.int .i64 n.op,.int .i64 n.n,.fz (n.kids.map (.int .i64)),.fz (n.pats.map Pat.enc)] false)) ∧ (st.fr 6 = .bool (numOk p n && patsNum n)) ∧ (st.fr 5 = .int .i64 (argsOf p n))) ?_ ?_
  ·simp only [go_sem,qC,qG,qS,qW,h2,e2,h3,e3,h6,h5]
   repeat' ((first | with_reducible refine condK_split (fun h => ?_) (fun h => ?_) | with_reducible refine guardK_split (fun h => ?_) (fun h => ?_)) <;> (try simp only [decide_eq_true_eq,decide_eq_false_iff_not,Bool.not_true,Bool.not_false] at h) <;> try simp only [go_sem,qC,qG,qS,qW, *,(R05_in_pc _ _ _).ret])
   all_goals simp [patsNum, *]
  ·rintro fr en cnt ⟨(h2 : fr 2 = .ptr ⟨0,2,0⟩ 0),(e2 : en ⟨0,2,0⟩ = some (.box p.cells false)),(h3 : fr 3 = .ptr ⟨0,3,0⟩ 0),(e3 : en ⟨0,3,0⟩ = some (.box [.int .i64 n.op,.int .i64 n.n,.fz (n.kids.map (.int .i64)),.fz (n.pats.map Pat.enc)] false)),(h6 : fr 6 = .bool (numOk p n && patsNum n)),(h5 : fr 5 = .int .i64 (argsOf p n))⟩
   have hb0 : (numOk p n && patsNum n) = true → 0 ≤ (n.pats.length : Int) ∧ (n.pats.length : Int) ≤ 1000 := by
    intro h; simp only [Bool.and_eq_true] at h
    have := h.2; unfold patsNum at this; split at this
    ·simp [inR] at this; omega
    ·simp at this; simp [this]
   have hres : nodeOk p n = (((numOk p n && patsNum n) && n.pats.all (patFine p.cons)) && decide ((n.kids.length : Int) = kidsOf n.op n.pats.length (argsOf p n))) := rfl
   rw [hres]
   clear hres e1
   generalize (numOk p n && patsNum n) = b0 at h6 hb0
   refine wp_cut' (fun st => st.fr 2 = .ptr ⟨0,2,0⟩ 0 ∧ st.en ⟨0,2,0⟩ = some (.box p.cells false) ∧ st.fr 3 = .ptr ⟨0,3,0⟩ 0 ∧ st.en ⟨0,3,0⟩ = some (.box [.int .i64 n.op,.int .i64 n.n,.fz (n.kids.map (.int .i64)),.fz (n.pats.map Pat.enc)] false) ∧ st.fr 6 = .bool (b0 && n.pats.all (patFine p.cons)) ∧ st.fr 5 = .int .i64 (argsOf p n)) ?_ ?_
   ·simp only [go_sem,qC,qG,qS,qW,h2,e2,h3,e3,h6,h5]
    refine wp_for n.pats.length (fun k st => ∃ fr en cnt b,st = ⟨fr,en,cnt⟩ ∧ fr 2 = .ptr ⟨0,2,0⟩ 0 ∧ en ⟨0,2,0⟩ = some (.box p.cells false) ∧ fr 3 = .ptr ⟨0,3,0⟩ 0 ∧ en ⟨0,3,0⟩ = some (.box [.int .i64 n.op,.int .i64 n.n,.fz (n.kids.map (.int .i64)),.fz (n.pats.map Pat.enc)] false) ∧ fr 5 = .int .i64 (argsOf p n) ∧ fr 7 = .int .i64 k ∧ fr 6 = .bool b ∧ (b && (n.pats.drop k).all (patFine p.cons)) = (b0 && n.pats.all (patFine p.cons))) 0 (Nat.zero_le _) ⟨_,_,_,b0,rfl,by simp only [go_sem,h2,e2,h3,e3,h6,h5],by simp only [go_sem,h2,e2,h3,e3,h6,h5],by simp only [go_sem,h2,e2,h3,e3,h6,h5],by simp only [go_sem,h2,e2,h3,e3,h6,h5],by simp only [go_sem,h2,e2,h3,e3,h6,h5],by simp only [go_sem,h2,e2,h3,e3,h6,h5],by simp only [go_sem,h2,e2,h3,e3,h6,h5],rfl⟩ ?_
    rintro k st hk ⟨fr,en,cnt,b,rfl,h2,e2,h3,e3,h5,h7,h6,hI⟩
    simp only [go_sem,qC,qG,qS,qW,h2,e2,h3,e3,h5,h7,h6]
    refine guardK_split (fun hd => ?_) (fun hd => ?_)
    ·have h' : k < n.pats.length := of_decide_eq_true hd
     have hm : n.pats[k] ∈ n.pats := List.getElem_mem _
     rw [all_step h'] at hI
     simp only [go_sem,qC,qG,qS,qW,hd,h2,e2,h3,e3,h5,h7,h6]
     refine condK_split (fun hb => ?_) (fun hb => ?_)
     ·rw [hb] at hI
      simp only [go_sem,qC,qG,qS,qW,hd,h',h2,e2,h3,e3,h5,h7,h6,(R01_WeighPat_pc _ (hn.pat _ hm) 12 (by omega) (by omega)).ret]
      refine guardK_split (fun hw => ?_) (fun hw => ?_)
      ·simp only [go_sem,qC,qG,qS,qW,hw,h',h2,e2,h3,e3,h5,h7,h6,(R05_pat_pc _ hp.cons _ (hn.pat _ hm)).ret]
       refine ⟨_,_,_,patOk p.cons n.pats[k],rfl,?_⟩
       simp only [go_sem,qC,qG,qS,qW,h',h2,e2,h3,e3,h5,h7,h6,wrap_succ h' hn.pats]
       rw [← hI]; simp [patFine,of_decide_eq_true hw]
      ·simp only [go_sem,qC,qG,qS,qW,hw,h',h2,e2,h3,e3,h5,h7,h6]
       refine ⟨_,_,_,false,rfl,?_⟩
       simp only [go_sem,qC,qG,qS,qW,h',h2,e2,h3,e3,h5,h7,h6,wrap_succ h' hn.pats]
       simp at hw
       rw [← hI]; simp [patFine]; intros; omega
     ·simp only [go_sem,qC,qG,qS,qW,hd,h',h2,e2,h3,e3,h5,h7,h6]
      rw [← hI,hb]; simp
    ·have : k = n.pats.length := by simp at hd; omega
     subst this
     simp only [go_sem,qC,qG,qS,qW,hd,h2,e2,h3,e3,h5,h7,h6]
     rw [← hI]; simp
   ·rintro fr en cnt ⟨(h2 : fr 2 = _),(e2 : en _ = _),(h3 : fr 3 = _),(e3 : en _ = _),(h6 : fr 6 = _),(h5 : fr 5 = _)⟩
    generalize hbb : (b0 && n.pats.all (patFine p.cons)) = b at h6 ⊢
    simp only [go_sem,qC,qG,qS,qW]
    refine wp_still ?_ ?_
    ·decide
    simp only [go_sem,qC,qG,qS,qW,h2,e2,h3,e3,h5,h6]
    refine guardK_split (fun hd => ?_) (fun hd => ?_)
    ·have h0 : b0 = true := by
      simp only [hd,Bool.and_eq_true] at hbb; exact hbb.1
     simp only [go_sem,qC,qG,qS,qW,hd,h2,e2,h3,e3,h5,h6,(R05_kids_pc _ _ _ (hb0 h0)).ret]
    ·simp only [go_sem,qC,qG,qS,qW,hd,h2,e2,h3,e3,h5,h6]
theorem use_get {u : List Bool} {n : Nat} {x : Int} (hu : u.length = n) (h : inR x 0 ((n : Int) - 1) = true) : 0 ≤ x ∧ x < (n : Int) ∧ (u.map Val.bool)[x.toNat]? = some (.bool (u.getD x.toNat false)) := by
 simp only [inR,decide_eq_true_eq] at h
 have hx : x.toNat < u.length := by omega
 exact ⟨by omega,by omega,by simp [List.getD_eq_getElem?_getD,hx]⟩
theorem R05_Formed_pc (p : BProg) (hp : p.few) (hs : p.cons.length ≤ 1000) : PC L F.R05_Formed [.agg [.fz (p.nodes.map BNode.enc),.fz (p.funs.map (.int .i64)),.int .i64 p.main,.fz (p.cons.map BCon.enc)]] (.bool (formedOk p)) := by
 have w1 := wrap_pred hp.nodes
 have w2 := wrap_pred hp.funs
 refine pc_of LF.R05_Formed rfl rfl ?_
 simp only [go_sem,qC,qG,qS,qW,C.R05_Formed,w1,w2]
 repeat' ((first | with_reducible refine condK_split (fun h => ?_) (fun h => ?_) | with_reducible refine guardK_split (fun h => ?_) (fun h => ?_)) <;> (try simp only [decide_eq_true_eq,decide_eq_false_iff_not,Bool.not_true,Bool.not_false] at h) <;> try simp only [go_sem,qC,qG,qS,qW, *,(R05_in_pc _ _ _).ret,(R05_cons_pc _ hs hp.con).ret])
 all_goals (try simp only [Bool.not_eq_true',Bool.not_eq_false',Int.not_lt,Int.not_le] at *)
 all_goals try (simp [formedOk, *]; done)
 all_goals try (simp [formedOk, *]; intros; omega)
 rename_i g1 g2 g3
 have hn : p.nodes.length ≤ 16777216 := by omega
 have hfo : formedOk p = allMet ((meet 0 (p.nodes.length - 1) (List.replicate p.nodes.length false) p.funs).bind fun u => meetNodes p 0 u p.nodes) := by simp [formedOk,g1,g2,g3,h]
 rw [hfo]
 clear hfo
 simp only [go_sem,qC,qG,qS,qW,mk_nat hn]
 refine wp_for p.funs.length (fun k st => ∃ fr en cnt u,st = ⟨fr,en,cnt⟩ ∧ (fr 1 = .ptr ⟨0,1,0⟩ 0 ∧ en ⟨0,1,0⟩ = some (.box p.cells false) ∧ fr 3 = .int .i64 p.nodes.length ∧ fr 4 = .bl ⟨0,40,0⟩ 0 p.nodes.length ∧ en ⟨0,40,0⟩ = some (.blk 1 (u.map Val.bool) false) ∧ u.length = p.nodes.length) ∧ fr 5 = .int .i64 k ∧ meet 0 (p.nodes.length - 1) u (p.funs.drop k) = meet 0 (p.nodes.length - 1) (List.replicate p.nodes.length false) p.funs) 0 (Nat.zero_le _) ⟨_,_,_,List.replicate p.nodes.length false,rfl,⟨by simp only [go_sem,qW],by simp only [go_sem,qW],by simp only [go_sem,qW],by simp only [go_sem,qW],by simp only [go_sem,List.map_replicate],by simp⟩,by simp only [go_sem,qW],rfl⟩ ?_
 rintro k st hk ⟨fr,en,cnt,u,rfl,⟨h1,e1,h3,h4,eu,hu⟩,h5,hI⟩
 simp only [go_sem,qC,qG,qS,qW,h1,e1,h5]
 refine condK_split (fun hq => ?_) (fun hq => ?_)
 ·have h' : k < p.funs.length := of_decide_eq_true hq
  rw [List.drop_eq_getElem_cons h',meet] at hI
  simp only [go_sem,qC,qG,qS,qW,h',h1,e1,h3,h4,eu,h5,(R05_in_pc _ _ _).ret,w1]
  refine guardK_split (fun hb => ?_) (fun hb => ?_)
  ·simp at hb
   obtain ⟨a1,a2,a3⟩ := use_get hu hb
   rw [hb] at hI
   simp only [go_sem,qC,qG,qS,qW,hb,Bool.not_true,h',h1,e1,h3,h4,eu,h5,a1,a2,a3]
   refine condK_split (fun hc => ?_) (fun hc => ?_)
   ·simp only [go_sem,qC,qG,qS,qW]
    rw [hc] at hI
    simp at hI
    rw [← hI]; rfl
   ·simp only [go_sem,qC,qG,qS,qW,h',h1,e1,h3,h4,eu,h5,a1,a2,a3]
    rw [hc] at hI
    simp at hI
    refine ⟨_,_,_,u.set p.funs[k].toNat true,rfl,?_⟩
    simp only [go_sem,qC,qG,qS,qW,h',h1,e1,h3,h4,eu,h5,a1,a2,a3,← List.map_set,wrap_succ h' hp.funs]
    exact ⟨by simp [hu],hI⟩
  ·simp only [go_sem,qC,qG,qS,qW,hb,Bool.not_false]
   simp at hb
   rw [hb] at hI
   simp at hI
   rw [← hI]; rfl
 ·have : k = p.funs.length := by simp at hq; omega
  subst this
  rw [List.drop_length,meet] at hI
  rw [← hI]
  simp only [Option.bind_some]
  clear hq hI hk
  generalize hM : meetNodes p 0 u p.nodes = M
  simp only [go_sem,qC,qG,qS,qW,h1,e1,h3]
  refine wp_for p.nodes.length (fun k st => ∃ fr en cnt u,st = ⟨fr,en,cnt⟩ ∧ (fr 1 = .ptr ⟨0,1,0⟩ 0 ∧ en ⟨0,1,0⟩ = some (.box p.cells false) ∧ fr 3 = .int .i64 p.nodes.length ∧ fr 4 = .bl ⟨0,40,0⟩ 0 p.nodes.length ∧ en ⟨0,40,0⟩ = some (.blk 1 (u.map Val.bool) false) ∧ u.length = p.nodes.length) ∧ fr 6 = .int .i64 k ∧ meetNodes p k u (p.nodes.drop k) = M) 0 (Nat.zero_le _) ⟨_,_,_,u,rfl,⟨by simp only [go_sem,h1,e1,h3,h4,eu,hu],by simp only [go_sem,h1,e1,h3,h4,eu,hu],by simp only [go_sem,h1,e1,h3,h4,eu,hu],by simp only [go_sem,h1,e1,h3,h4,eu,hu],by simp only [go_sem,h1,e1,h3,h4,eu,hu],hu⟩,by simp only [go_sem,qW],hM⟩ ?_
  clear hM h1 e1 h3 h4 eu hu h5
  rintro k st hk ⟨fr,en,cnt,u,rfl,⟨h1,e1,h3,h4,eu,hu⟩,h6,hI⟩
  simp only [go_sem,qC,qG,qS,qW,h1,e1,h3,h6]
  refine condK_split (fun hq => ?_) (fun hq => ?_)
  ·have h' : k < p.nodes.length := of_decide_eq_true hq
   have hx := hp.node p.nodes[k] (List.getElem_mem _)
   rw [List.drop_eq_getElem_cons h',meetNodes] at hI
   simp only [go_sem,qC,qG,qS,qW,h',h1,e1,h3,h6,(R05_node_pc p _ hp hx).ret]
   refine condK_split (fun hb => ?_) (fun hb => ?_)
   ·simp only [go_sem,qC,qG,qS,qW]
    simp at hb
    rw [hb] at hI
    rw [← hI]; rfl
   ·simp only [go_sem,qC,qG,qS,qW,h',h1,e1,h3,h6]
    simp at hb
    rw [hb] at hI
    simp only [if_true] at hI
    generalize hm : meet ((k : Int) + 1) (p.nodes.length - 1) u p.nodes[k].kids = m at hI
    refine wp_for p.nodes[k].kids.length (fun j st => ∃ fr en cnt u,st = ⟨fr,en,cnt⟩ ∧ (fr 1 = .ptr ⟨0,1,0⟩ 0 ∧ en ⟨0,1,0⟩ = some (.box p.cells false) ∧ fr 3 = .int .i64 p.nodes.length ∧ fr 4 = .bl ⟨0,40,0⟩ 0 p.nodes.length ∧ en ⟨0,40,0⟩ = some (.blk 1 (u.map Val.bool) false) ∧ u.length = p.nodes.length) ∧ fr 6 = .int .i64 k ∧ fr 7 = .int .i64 j ∧ meet ((k : Int) + 1) (p.nodes.length - 1) u (p.nodes[k].kids.drop j) = m) 0 (Nat.zero_le _) ⟨_,_,_,u,rfl,⟨by simp only [go_sem,h1,e1,h3,h4,eu,hu],by simp only [go_sem,h1,e1,h3,h4,eu,hu],by simp only [go_sem,h1,e1,h3,h4,eu,hu],by simp only [go_sem,h1,e1,h3,h4,eu,hu],by simp only [go_sem,h1,e1,h3,h4,eu,hu],hu⟩,by simp only [go_sem,h6],by simp only [go_sem,qW],hm⟩ ?_
    clear hm h1 e1 h3 h4 eu hu h6
    rintro j st hj ⟨fr,en,cnt,u,rfl,⟨h1,e1,h3,h4,eu,hu⟩,h6,h7,hJ⟩
    simp only [go_sem,qC,qG,qS,qW,h',h1,e1,h3,h6,h7]
    refine condK_split (fun h2 => ?_) (fun h2 => ?_)
    ·have h2' : j < p.nodes[k].kids.length := of_decide_eq_true h2
     rw [List.drop_eq_getElem_cons h2',meet] at hJ
     have w3 : IntKind.i64.wrap ((k : Int) + 1) = (k : Int) + 1 := wrap_in (by omega)
     simp only [go_sem,qC,qG,qS,qW,h',h2',h1,e1,h3,h4,eu,h6,h7,(R05_in_pc _ _ _).ret,w1,w3]
     refine guardK_split (fun hc => ?_) (fun hc => ?_)
     ·simp at hc
      have hc0 : inR p.nodes[k].kids[j] 0 ((p.nodes.length : Int) - 1) = true := by simp [inR] at hc ⊢; omega
      obtain ⟨a1,a2,a3⟩ := use_get hu hc0
      rw [hc] at hJ
      simp only [go_sem,qC,qG,qS,qW,hc,Bool.not_true,h1,e1,h3,h4,eu,h6,h7,a1,a2,a3]
      refine condK_split (fun hd => ?_) (fun hd => ?_)
      ·simp only [go_sem,qC,qG,qS,qW]
       rw [hd] at hJ
       simp at hJ
       rw [← hI,← hJ]; rfl
      ·simp only [go_sem,qC,qG,qS,qW,h2',h1,e1,h3,h4,eu,h6,h7,a1,a2,a3]
       rw [hd] at hJ
       simp at hJ
       refine ⟨_,_,_,u.set p.nodes[k].kids[j].toNat true,rfl,?_⟩
       simp only [go_sem,qC,qG,qS,qW,h2',h1,e1,h3,h4,eu,h6,h7,a1,a2,a3,← List.map_set,wrap_succ h2' hx.kids]
       exact ⟨by simp [hu],hJ⟩
     ·simp only [go_sem,qC,qG,qS,qW,hc,Bool.not_false]
      simp at hc
      rw [hc] at hJ
      simp at hJ
      rw [← hI,← hJ]; rfl
    ·have : j = p.nodes[k].kids.length := by simp at h2; omega
     subst this
     rw [List.drop_length,meet] at hJ
     rw [← hJ] at hI
     simp only [Option.bind_some] at hI
     simp only [go_sem,qC,qG,qS,qW,h',h1,e1,h3,h4,eu,h6,h7]
     refine ⟨_,_,_,u,rfl,?_⟩
     simp only [go_sem,qC,qG,qS,qW,h1,e1,h3,h4,eu,h6,h7,hu,wrap_succ h' hp.nodes]
     exact hI
  ·have : k = p.nodes.length := by simp at hq; omega
   subst this
   rw [List.drop_length,meetNodes] at hI
   rw [← hI]
   simp only [allMet]
   simp only [go_sem,qC,qG,qS,qW,h1,e1,h3,h4]
   refine wp_for p.nodes.length (fun k st => ∃ fr en cnt,st = ⟨fr,en,cnt⟩ ∧ fr 3 = .int .i64 p.nodes.length ∧ fr 4 = .bl ⟨0,40,0⟩ 0 p.nodes.length ∧ en ⟨0,40,0⟩ = some (.blk 1 (u.map Val.bool) false) ∧ fr 9 = .int .i64 k ∧ (u.drop k).all id = u.all id) 0 (Nat.zero_le _) ⟨_,_,_,rfl,by simp only [go_sem,h1,e1,h3,h4,eu,hu],by simp only [go_sem,h1,e1,h3,h4,eu,hu],by simp only [go_sem,h1,e1,h3,h4,eu,hu],by simp only [go_sem,qW],rfl⟩ ?_
   clear h1 e1 h3 h4 eu h6 hI hq hk
   rintro k st hk ⟨fr,en,cnt,rfl,h3,h4,eu,h9,hI⟩
   simp only [go_sem,qC,qG,qS,qW,h3,h9]
   refine condK_split (fun hq => ?_) (fun hq => ?_)
   ·have h' : k < p.nodes.length := of_decide_eq_true hq
    have h'' : k < u.length := by omega
    rw [all_step h''] at hI
    have a3 : (u.map Val.bool)[k]? = some (.bool u[k]) := by simp [h'']
    simp only [go_sem,qC,qG,qS,qW,h',h3,h4,eu,h9,a3,Int.natCast_nonneg,Int.toNat_natCast]
    refine condK_split (fun hb => ?_) (fun hb => ?_)
    ·simp only [go_sem,qC,qG,qS,qW]
     simp at hb
     rw [← hI,hb]; rfl
    ·simp only [go_sem,qC,qG,qS,qW,h',h3,h4,eu,h9]
     simp at hb
     refine ⟨_,_,_,rfl,?_⟩
     simp only [go_sem,qC,qG,qS,qW,h3,h4,eu,h9,wrap_succ h' hp.nodes]
     rw [← hI,hb]; simp
   ·have : k = p.nodes.length := by simp at hq; omega
    subst this
    simp only [go_sem,qC,qG,qS,qW]
    rw [← hI,List.drop_eq_nil_of_le (by omega)]; rfl
end Go.Proofs.YthpmfghgoabnhaaGreat
namespace Go.Proofs.YthpmfghgoabnhaaGreat
open Go.Abs Go.Proofs
theorem idx_BCon (l : List BCon) (h : Val) (p : BCon → Bool) (hl : Few l.length) (hc : AsksT L (fun x : BCon => .agg [.str x.name,.int .i64 x.args]) h p l) :
  PC L F.slices_IndexFunc_s_api_BindCon_api_BindCon [.fz (l.map BCon.enc),h] (.int .i64 (idxOf p l 0)) := by
 refine pc_of LF.slices_IndexFunc_s_api_BindCon_api_BindCon rfl rfl ?_
 simp only [go_sem,qC,qG,qW,C.slices_IndexFunc_s_api_BindCon_api_BindCon]
 refine wp_for (l.length) (fun k st => ∃ fr en cnt,st = ⟨fr,en,cnt⟩ ∧ (fr 0 = .fz (l.map BCon.enc)) ∧ (fr 1 = h) ∧ (fr 7 = .int .i64 l.length) ∧ (fr 8 = .int .i64 k) ∧ (idxOf p (l.drop k) k = idxOf p l 0)) 0 (Nat.zero_le _) ⟨_,_,_,rfl,(by first | (simp only [go_sem,qW]; (try rfl); done) | rfl | simp),(by first | (simp only [go_sem,qW]; (try rfl); done) | rfl | simp),(by first | (simp only [go_sem,qW]; (try rfl); done) | rfl | simp),(by first | (simp only [go_sem,qW]; (try rfl); done) | rfl | simp),(by first | (simp only [go_sem,qW]; (try rfl); done) | rfl | simp)⟩ ?_
 rintro k st hk ⟨fr,en,cnt,rfl,h0,h1,h7,h8,hI⟩
 simp only [go_sem,qC,qG,qW,h0,h1,h7,h8]
 refine condK_split (fun hq => ?_) (fun hq => ?_)
 ·have h' : k < l.length := of_decide_eq_true hq
  rw [List.drop_eq_getElem_cons h',idxOf] at hI
  simp only [go_sem,qC,qG,qW,h',h0,h1,h7,h8]
  refine hc.call l[k] (List.getElem_mem _) _ _ ?_
  simp only [go_sem,qC,qG,qW,h0,h1,h7,h8]
  refine condK_split (fun hb => ?_) (fun hb => ?_)
  ·simp only [go_sem,qC,qG,qW,h0,h1,h7,h8]
   rw [hb,if_pos rfl] at hI
   rw [← hI]
  ·simp only [go_sem,qC,qG,qW,h',h0,h1,h7,h8]
   rw [hb] at hI
   simp at hI
   refine ⟨_,_,_,rfl,?_⟩
   simp only [go_sem,qW,h0,h1,h7,h8,wrap_succ h' hl]
   exact hI
 ·have : k = l.length := by simp at hq; omega
  subst this
  simp only [go_sem,qC,qG,qW,h0,h1,h7,h8]
  rw [← hI]; simp [idxOf]
theorem cont_BCon (l : List BCon) (h : Val) (p : BCon → Bool) (hl : Few l.length) (hc : AsksT L (fun x : BCon => .agg [.str x.name,.int .i64 x.args]) h p l) :
  PC L F.slices_ContainsFunc_s_api_BindCon_api_BindCon [.fz (l.map BCon.enc),h] (.bool (l.any p)) := by
 refine pc_of LF.slices_ContainsFunc_s_api_BindCon_api_BindCon rfl rfl ?_
 simp only [go_sem,qC,qG,qW,C.slices_ContainsFunc_s_api_BindCon_api_BindCon,hc.snap,hc.wk,(idx_BCon l h p hl hc).ret]
 rw [← idxOf_any p l 0]
theorem bind_every_api_BindCon_c1_pc (l : List BCon) (h : Val) (p : BCon → Bool) (hc : AsksT L (fun x : BCon => .agg [.str x.name,.int .i64 x.args]) h p l) (x : BCon) (hx : x ∈ l) :
  PC L F.bind_every_api_BindCon_c1 [.agg [.str x.name,.int .i64 x.args],.fp [h] 0] (.bool (!p x)) := by
 refine pc_of LF.bind_every_api_BindCon_c1 rfl rfl ?_
 simp only [go_sem,qC,qG,qW,C.bind_every_api_BindCon_c1]
 refine hc.call x hx _ _ ?_
 simp only [go_sem,qC,qG,qW]
theorem bind_every_api_BindCon_pc (l : List BCon) (h : Val) (p : BCon → Bool) (hl : Few l.length) (hc : AsksT L (fun x : BCon => .agg [.str x.name,.int .i64 x.args]) h p l) :
  PC L F.bind_every_api_BindCon [.fz (l.map BCon.enc),h] (.bool (l.all p)) := by
 have hd : AsksT L (fun x : BCon => .agg [.str x.name,.int .i64 x.args]) (.fn F.bind_every_api_BindCon_c1 [] [.fp [h] 0]) (fun x => !p x) l := by
  refine ⟨fun n en hn => ?_,rfl,rfl,rfl,fun x hx en K hK => ?_⟩
  ·obtain ⟨m,rfl⟩ : ∃ m,n = m + 4 := ⟨n - 4,by omega⟩
   simp only [go_sem,qW]
  ·simp only [go_sem,qW,(bind_every_api_BindCon_c1_pc l h p hc x hx).ret]
   exact hK
 refine pc_of LF.bind_every_api_BindCon rfl rfl ?_
 simp only [go_sem,qC,qG,qW,C.bind_every_api_BindCon,box_any hc.one hc.cells,hc.snap,hc.wk,(cont_BCon l _ _ hl hd).ret]
 rw [← List.not_all_eq_any_not,Bool.not_not]
theorem idx_BNode (l : List BNode) (h : Val) (p : BNode → Bool) (hl : Few l.length) (hc : AsksT L (fun x : BNode => .agg [.int .i64 x.op,.int .i64 x.n,.fz (x.kids.map (.int .i64)),.fz (x.pats.map Pat.enc)]) h p l) :
  PC L F.slices_IndexFunc_s_api_BindNode_api_BindNode [.fz (l.map BNode.enc),h] (.int .i64 (idxOf p l 0)) := by
 refine pc_of LF.slices_IndexFunc_s_api_BindNode_api_BindNode rfl rfl ?_
 simp only [go_sem,qC,qG,qW,C.slices_IndexFunc_s_api_BindNode_api_BindNode]
 refine wp_for (l.length) (fun k st => ∃ fr en cnt,st = ⟨fr,en,cnt⟩ ∧ (fr 0 = .fz (l.map BNode.enc)) ∧ (fr 1 = h) ∧ (fr 7 = .int .i64 l.length) ∧ (fr 8 = .int .i64 k) ∧ (idxOf p (l.drop k) k = idxOf p l 0)) 0 (Nat.zero_le _) ⟨_,_,_,rfl,(by first | (simp only [go_sem,qW]; (try rfl); done) | rfl | simp),(by first | (simp only [go_sem,qW]; (try rfl); done) | rfl | simp),(by first | (simp only [go_sem,qW]; (try rfl); done) | rfl | simp),(by first | (simp only [go_sem,qW]; (try rfl); done) | rfl | simp),(by first | (simp only [go_sem,qW]; (try rfl); done) | rfl | simp)⟩ ?_
 rintro k st hk ⟨fr,en,cnt,rfl,h0,h1,h7,h8,hI⟩
 simp only [go_sem,qC,qG,qW,h0,h1,h7,h8]
 refine condK_split (fun hq => ?_) (fun hq => ?_)
 ·have h' : k < l.length := of_decide_eq_true hq
  rw [List.drop_eq_getElem_cons h',idxOf] at hI
  simp only [go_sem,qC,qG,qW,h',h0,h1,h7,h8]
  refine hc.call l[k] (List.getElem_mem _) _ _ ?_
  simp only [go_sem,qC,qG,qW,h0,h1,h7,h8]
  refine condK_split (fun hb => ?_) (fun hb => ?_)
  ·simp only [go_sem,qC,qG,qW,h0,h1,h7,h8]
   rw [hb,if_pos rfl] at hI
   rw [← hI]
  ·simp only [go_sem,qC,qG,qW,h',h0,h1,h7,h8]
   rw [hb] at hI
   simp at hI
   refine ⟨_,_,_,rfl,?_⟩
   simp only [go_sem,qW,h0,h1,h7,h8,wrap_succ h' hl]
   exact hI
 ·have : k = l.length := by simp at hq; omega
  subst this
  simp only [go_sem,qC,qG,qW,h0,h1,h7,h8]
  rw [← hI]; simp [idxOf]
theorem cont_BNode (l : List BNode) (h : Val) (p : BNode → Bool) (hl : Few l.length) (hc : AsksT L (fun x : BNode => .agg [.int .i64 x.op,.int .i64 x.n,.fz (x.kids.map (.int .i64)),.fz (x.pats.map Pat.enc)]) h p l) :
  PC L F.slices_ContainsFunc_s_api_BindNode_api_BindNode [.fz (l.map BNode.enc),h] (.bool (l.any p)) := by
 refine pc_of LF.slices_ContainsFunc_s_api_BindNode_api_BindNode rfl rfl ?_
 simp only [go_sem,qC,qG,qW,C.slices_ContainsFunc_s_api_BindNode_api_BindNode,hc.snap,hc.wk,(idx_BNode l h p hl hc).ret]
 rw [← idxOf_any p l 0]
theorem bind_every_api_BindNode_c1_pc (l : List BNode) (h : Val) (p : BNode → Bool) (hc : AsksT L (fun x : BNode => .agg [.int .i64 x.op,.int .i64 x.n,.fz (x.kids.map (.int .i64)),.fz (x.pats.map Pat.enc)]) h p l) (x : BNode) (hx : x ∈ l) :
  PC L F.bind_every_api_BindNode_c1 [.agg [.int .i64 x.op,.int .i64 x.n,.fz (x.kids.map (.int .i64)),.fz (x.pats.map Pat.enc)],.fp [h] 0] (.bool (!p x)) := by
 refine pc_of LF.bind_every_api_BindNode_c1 rfl rfl ?_
 simp only [go_sem,qC,qG,qW,C.bind_every_api_BindNode_c1]
 refine hc.call x hx _ _ ?_
 simp only [go_sem,qC,qG,qW]
theorem bind_every_api_BindNode_pc (l : List BNode) (h : Val) (p : BNode → Bool) (hl : Few l.length) (hc : AsksT L (fun x : BNode => .agg [.int .i64 x.op,.int .i64 x.n,.fz (x.kids.map (.int .i64)),.fz (x.pats.map Pat.enc)]) h p l) :
  PC L F.bind_every_api_BindNode [.fz (l.map BNode.enc),h] (.bool (l.all p)) := by
 have hd : AsksT L (fun x : BNode => .agg [.int .i64 x.op,.int .i64 x.n,.fz (x.kids.map (.int .i64)),.fz (x.pats.map Pat.enc)]) (.fn F.bind_every_api_BindNode_c1 [] [.fp [h] 0]) (fun x => !p x) l := by
  refine ⟨fun n en hn => ?_,rfl,rfl,rfl,fun x hx en K hK => ?_⟩
  ·obtain ⟨m,rfl⟩ : ∃ m,n = m + 4 := ⟨n - 4,by omega⟩
   simp only [go_sem,qW]
  ·simp only [go_sem,qW,(bind_every_api_BindNode_c1_pc l h p hc x hx).ret]
   exact hK
 refine pc_of LF.bind_every_api_BindNode rfl rfl ?_
 simp only [go_sem,qC,qG,qW,C.bind_every_api_BindNode,box_any hc.one hc.cells,hc.snap,hc.wk,(cont_BNode l _ _ hl hd).ret]
 rw [← List.not_all_eq_any_not,Bool.not_not]
theorem idx_Pat (l : List Pat) (h : Val) (p : Pat → Bool) (hl : Few l.length) (hc : AsksT L (fun x : Pat => .agg [.int .i64 x.form,.int .i64 x.n,.str x.text,.fz (x.parts.map Pat.enc)]) h p l) :
  PC L F.slices_IndexFunc_s_api_TermPat_api_TermPat [.fz (l.map Pat.enc),h] (.int .i64 (idxOf p l 0)) := by
 refine pc_of LF.slices_IndexFunc_s_api_TermPat_api_TermPat rfl rfl ?_
 simp only [go_sem,qC,qG,qW,C.slices_IndexFunc_s_api_TermPat_api_TermPat]
 refine wp_for (l.length) (fun k st => ∃ fr en cnt,st = ⟨fr,en,cnt⟩ ∧ (fr 0 = .fz (l.map Pat.enc)) ∧ (fr 1 = h) ∧ (fr 7 = .int .i64 l.length) ∧ (fr 8 = .int .i64 k) ∧ (idxOf p (l.drop k) k = idxOf p l 0)) 0 (Nat.zero_le _) ⟨_,_,_,rfl,(by first | (simp only [go_sem,qW]; (try rfl); done) | rfl | simp),(by first | (simp only [go_sem,qW]; (try rfl); done) | rfl | simp),(by first | (simp only [go_sem,qW]; (try rfl); done) | rfl | simp),(by first | (simp only [go_sem,qW]; (try rfl); done) | rfl | simp),(by first | (simp only [go_sem,qW]; (try rfl); done) | rfl | simp)⟩ ?_
 rintro k st hk ⟨fr,en,cnt,rfl,h0,h1,h7,h8,hI⟩
 simp only [go_sem,qC,qG,qW,h0,h1,h7,h8]
 refine condK_split (fun hq => ?_) (fun hq => ?_)
 ·have h' : k < l.length := of_decide_eq_true hq
  rw [List.drop_eq_getElem_cons h',idxOf] at hI
  simp only [go_sem,qC,qG,qW,h',h0,h1,h7,h8]
  refine hc.call l[k] (List.getElem_mem _) _ _ ?_
  simp only [go_sem,qC,qG,qW,h0,h1,h7,h8]
  refine condK_split (fun hb => ?_) (fun hb => ?_)
  ·simp only [go_sem,qC,qG,qW,h0,h1,h7,h8]
   rw [hb,if_pos rfl] at hI
   rw [← hI]
  ·simp only [go_sem,qC,qG,qW,h',h0,h1,h7,h8]
   rw [hb] at hI
   simp at hI
   refine ⟨_,_,_,rfl,?_⟩
   simp only [go_sem,qW,h0,h1,h7,h8,wrap_succ h' hl]
   exact hI
 ·have : k = l.length := by simp at hq; omega
  subst this
  simp only [go_sem,qC,qG,qW,h0,h1,h7,h8]
  rw [← hI]; simp [idxOf]
theorem cont_Pat (l : List Pat) (h : Val) (p : Pat → Bool) (hl : Few l.length) (hc : AsksT L (fun x : Pat => .agg [.int .i64 x.form,.int .i64 x.n,.str x.text,.fz (x.parts.map Pat.enc)]) h p l) :
  PC L F.slices_ContainsFunc_s_api_TermPat_api_TermPat [.fz (l.map Pat.enc),h] (.bool (l.any p)) := by
 refine pc_of LF.slices_ContainsFunc_s_api_TermPat_api_TermPat rfl rfl ?_
 simp only [go_sem,qC,qG,qW,C.slices_ContainsFunc_s_api_TermPat_api_TermPat,hc.snap,hc.wk,(idx_Pat l h p hl hc).ret]
 rw [← idxOf_any p l 0]
theorem bind_every_api_TermPat_c1_pc (l : List Pat) (h : Val) (p : Pat → Bool) (hc : AsksT L (fun x : Pat => .agg [.int .i64 x.form,.int .i64 x.n,.str x.text,.fz (x.parts.map Pat.enc)]) h p l) (x : Pat) (hx : x ∈ l) :
  PC L F.bind_every_api_TermPat_c1 [.agg [.int .i64 x.form,.int .i64 x.n,.str x.text,.fz (x.parts.map Pat.enc)],.fp [h] 0] (.bool (!p x)) := by
 refine pc_of LF.bind_every_api_TermPat_c1 rfl rfl ?_
 simp only [go_sem,qC,qG,qW,C.bind_every_api_TermPat_c1]
 refine hc.call x hx _ _ ?_
 simp only [go_sem,qC,qG,qW]
theorem bind_every_api_TermPat_pc (l : List Pat) (h : Val) (p : Pat → Bool) (hl : Few l.length) (hc : AsksT L (fun x : Pat => .agg [.int .i64 x.form,.int .i64 x.n,.str x.text,.fz (x.parts.map Pat.enc)]) h p l) :
  PC L F.bind_every_api_TermPat [.fz (l.map Pat.enc),h] (.bool (l.all p)) := by
 have hd : AsksT L (fun x : Pat => .agg [.int .i64 x.form,.int .i64 x.n,.str x.text,.fz (x.parts.map Pat.enc)]) (.fn F.bind_every_api_TermPat_c1 [] [.fp [h] 0]) (fun x => !p x) l := by
  refine ⟨fun n en hn => ?_,rfl,rfl,rfl,fun x hx en K hK => ?_⟩
  ·obtain ⟨m,rfl⟩ : ∃ m,n = m + 4 := ⟨n - 4,by omega⟩
   simp only [go_sem,qW]
  ·simp only [go_sem,qW,(bind_every_api_TermPat_c1_pc l h p hc x hx).ret]
   exact hK
 refine pc_of LF.bind_every_api_TermPat rfl rfl ?_
 simp only [go_sem,qC,qG,qW,C.bind_every_api_TermPat,box_any hc.one hc.cells,hc.snap,hc.wk,(cont_Pat l _ _ hl hd).ret]
 rw [← List.not_all_eq_any_not,Bool.not_not]
theorem idx_int (l : List Int) (h : Val) (p : Int → Bool) (hl : Few l.length) (hc : AsksT L (fun x : Int => .int .i64 x) h p l) :
  PC L F.slices_IndexFunc_s_int_int [.fz (l.map (.int .i64)),h] (.int .i64 (idxOf p l 0)) := by
 refine pc_of LF.slices_IndexFunc_s_int_int rfl rfl ?_
 simp only [go_sem,qC,qG,qW,C.slices_IndexFunc_s_int_int]
 refine wp_for (l.length) (fun k st => ∃ fr en cnt,st = ⟨fr,en,cnt⟩ ∧ (fr 0 = .fz (l.map (.int .i64))) ∧ (fr 1 = h) ∧ (fr 7 = .int .i64 l.length) ∧ (fr 8 = .int .i64 k) ∧ (idxOf p (l.drop k) k = idxOf p l 0)) 0 (Nat.zero_le _) ⟨_,_,_,rfl,(by first | (simp only [go_sem,qW]; (try rfl); done) | rfl | simp),(by first | (simp only [go_sem,qW]; (try rfl); done) | rfl | simp),(by first | (simp only [go_sem,qW]; (try rfl); done) | rfl | simp),(by first | (simp only [go_sem,qW]; (try rfl); done) | rfl | simp),(by first | (simp only [go_sem,qW]; (try rfl); done) | rfl | simp)⟩ ?_
 rintro k st hk ⟨fr,en,cnt,rfl,h0,h1,h7,h8,hI⟩
 simp only [go_sem,qC,qG,qW,h0,h1,h7,h8]
 refine condK_split (fun hq => ?_) (fun hq => ?_)
 ·have h' : k < l.length := of_decide_eq_true hq
  rw [List.drop_eq_getElem_cons h',idxOf] at hI
  simp only [go_sem,qC,qG,qW,h',h0,h1,h7,h8]
  refine hc.call l[k] (List.getElem_mem _) _ _ ?_
  simp only [go_sem,qC,qG,qW,h0,h1,h7,h8]
  refine condK_split (fun hb => ?_) (fun hb => ?_)
  ·simp only [go_sem,qC,qG,qW,h0,h1,h7,h8]
   rw [hb,if_pos rfl] at hI
   rw [← hI]
  ·simp only [go_sem,qC,qG,qW,h',h0,h1,h7,h8]
   rw [hb] at hI
   simp at hI
   refine ⟨_,_,_,rfl,?_⟩
   simp only [go_sem,qW,h0,h1,h7,h8,wrap_succ h' hl]
   exact hI
 ·have : k = l.length := by simp at hq; omega
  subst this
  simp only [go_sem,qC,qG,qW,h0,h1,h7,h8]
  rw [← hI]; simp [idxOf]
theorem cont_int (l : List Int) (h : Val) (p : Int → Bool) (hl : Few l.length) (hc : AsksT L (fun x : Int => .int .i64 x) h p l) :
  PC L F.slices_ContainsFunc_s_int_int [.fz (l.map (.int .i64)),h] (.bool (l.any p)) := by
 refine pc_of LF.slices_ContainsFunc_s_int_int rfl rfl ?_
 simp only [go_sem,qC,qG,qW,C.slices_ContainsFunc_s_int_int,hc.snap,hc.wk,(idx_int l h p hl hc).ret]
 rw [← idxOf_any p l 0]
theorem bind_every_int_c1_pc (l : List Int) (h : Val) (p : Int → Bool) (hc : AsksT L (fun x : Int => .int .i64 x) h p l) (x : Int) (hx : x ∈ l) :
  PC L F.bind_every_int_c1 [.int .i64 x,.fp [h] 0] (.bool (!p x)) := by
 refine pc_of LF.bind_every_int_c1 rfl rfl ?_
 simp only [go_sem,qC,qG,qW,C.bind_every_int_c1]
 refine hc.call x hx _ _ ?_
 simp only [go_sem,qC,qG,qW]
theorem bind_every_int_pc (l : List Int) (h : Val) (p : Int → Bool) (hl : Few l.length) (hc : AsksT L (fun x : Int => .int .i64 x) h p l) :
  PC L F.bind_every_int [.fz (l.map (.int .i64)),h] (.bool (l.all p)) := by
 have hd : AsksT L (fun x : Int => .int .i64 x) (.fn F.bind_every_int_c1 [] [.fp [h] 0]) (fun x => !p x) l := by
  refine ⟨fun n en hn => ?_,rfl,rfl,rfl,fun x hx en K hK => ?_⟩
  ·obtain ⟨m,rfl⟩ : ∃ m,n = m + 4 := ⟨n - 4,by omega⟩
   simp only [go_sem,qW]
  ·simp only [go_sem,qW,(bind_every_int_c1_pc l h p hc x hx).ret]
   exact hK
 refine pc_of LF.bind_every_int rfl rfl ?_
 simp only [go_sem,qC,qG,qW,C.bind_every_int,box_any hc.one hc.cells,hc.snap,hc.wk,(cont_int l _ _ hl hd).ret]
 rw [← List.not_all_eq_any_not,Bool.not_not]
theorem bind_in_pc (n lo hi : Int) : PC L F.bind_in [.int .i64 n,.int .i64 lo,.int .i64 hi] (.bool (inR n lo hi)) := by
 refine pc_of LF.bind_in rfl rfl ?_
 simp only [go_sem,qW,C.bind_in]
 refine guard_split (fun h => ?_) (fun h => ?_) <;> simp only [go_sem,qW,h] <;> simp at h <;> simp [h,inR]
 omega
theorem bind_integer_pc (n : Int) : PC L F.bind_integer [.int .i64 n] (.bool (inR n (-1000000000) 1000000000)) := by
 refine pc_of LF.bind_integer rfl rfl ?_
 simp only [go_sem,qC,qG,qW,C.bind_integer,(bind_in_pc _ _ _).ret]
theorem term_small_pc (s : ByteArray) : PC L F.term_small [.str s] (.bool (smallL (octs s))) := by
 refine pc_of LF.term_small rfl rfl ?_
 simp only [go_sem,qC,qG,qW,C.term_small]
 refine wp_for s.size (fun k st => ∃ fr en cnt,st = ⟨fr,en,cnt⟩ ∧ fr 6 = .it ⟨0,6,0⟩ ∧ en ⟨0,6,0⟩ = some (.iter s k) ∧ ((octs s).drop k).all isSmall = (octs s).all isSmall) 0 (Nat.zero_le _) ⟨_,_,_,rfl,by simp only [go_sem,qW],by simp only [go_sem,qW],rfl⟩ ?_
 rintro k st hk ⟨fr,en,cnt,rfl,h6,e6,hI⟩
 have hsz := octs_len s
 by_cases h' : k < s.size
 ·have h'' : k < (octs s).length := by omega
  obtain ⟨d1,d2⟩ := decode_small h''
  rw [all_step h''] at hI
  simp only [go_sem,qC,qG,qW,h6,e6,h']
  cases hb : isSmall (octs s)[k] with
  | true =>
   have hd := d1 hb
   have hb2 := hb
   simp only [isSmall,Bool.and_eq_true,decide_eq_true_eq] at hb2
   have c1 : decide ((((octs s)[k].toNat : Nat) : Int) < 97) = false := by simp; omega
   have c2 : decide ((122 : Int) < (((octs s)[k].toNat : Nat) : Int)) = false := by simp; omega
   simp only [go_sem,qC,qG,qW,hd,h6,e6,c1,c2]
   refine ⟨_,_,_,rfl,?_⟩
   simp only [go_sem,qC,qG,qW,hd,h6,e6]
   rw [← hI,hb]; simp
  | false =>
   have hd := d2 hb
   rw [hb] at hI
   generalize (Utf8.decode s k).1 = r at hd ⊢
   refine guardK_split (fun hc => ?_) (fun hc => ?_)
   ·simp at hc
    have c1 : decide ((r : Int) < 97) = false := by simp; omega
    have c2 : decide ((122 : Int) < (r : Int)) = true := by simp; omega
    simp only [go_sem,qC,qG,qW,c1,c2]
    rw [smallL,← hI]; rfl
   ·simp only [go_sem,qC,qG,qW,hc,Bool.not_false]
    rw [smallL,← hI]; rfl
 ·have : k = s.size := by omega
  subst this
  simp only [go_sem,qC,qG,qW,h6,e6,Nat.lt_irrefl]
  rw [smallL,← hI,List.drop_eq_nil_of_le (by omega)]; rfl
theorem empty_str (s : ByteArray) : (s.toList == (⟨#[]⟩ : ByteArray).toList) = decide (s.size = 0) := by
 rw [Go.ByteArray.toList_eq,Go.ByteArray.toList_eq]
 have : s.size = s.data.toList.length := by rw [Array.length_toList]; rfl
 rw [this]
 cases s.data.toList <;> rfl
theorem term_Great_pc (s : ByteArray) : PC L F.term_Great [.str s] (.bool (greatL (octs s))) := by
 refine pc_of LF.term_Great rfl rfl ?_
 simp only [go_sem,qC,qG,qW,C.term_Great,empty_str]
 refine guardK_split (fun h => ?_) (fun h => ?_)
 ·have h' : 1 ≤ s.size := by
   have : ¬ s.size = 0 := by intro h0; rw [h0] at h; simp at h
   omega
  have h0 : 0 < (octs s).length := by rw [octs_len]; omega
  have hix := fun (k : IntKind) => ixs_oct (k := k) h0
  simp only [Int.natCast_zero] at hix
  rw [great_list (octs_len s) h0]
  simp only [go_sem,qC,qG,qW,h]
  refine guardK_split (fun h1 => ?_) (fun h1 => ?_) <;> simp only [go_sem,qC,qG,qW,h1,hix]
  refine guardK_split (fun h2 => ?_) (fun h2 => ?_) <;> simp only [go_sem,qC,qG,qW,h1,h2,hix]
  refine guardK_split (fun h3 => ?_) (fun h3 => ?_) <;> simp only [go_sem,qC,qG,qW,h1,h2,h3,slice_str1 h',(term_small_pc _).ret,octs_tail]
  all_goals simp only [decide_eq_true_eq,decide_eq_false_iff_not,Bool.not_true] at *
  all_goals simp [*]
 ·have : s.size = 0 := by
   by_cases h0 : s.size = 0
   ·exact h0
   ·simp only [h0,decide_false] at h; simp at h
  have e : octs s = [] := by rw [← List.length_eq_zero_iff,octs_len,this]
  simp only [go_sem,qC,qG,qW,h,Bool.not_true]
  rw [e]; rfl
theorem bind_con_pc (c : BCon) : PC L F.bind_con [.agg [.str c.name,.int .i64 c.args]] (.bool (conOk c)) := by
 refine pc_of LF.bind_con rfl rfl ?_
 simp only [go_sem,qC,qG,qW,C.bind_con,(term_Great_pc _).ret]
 refine guardK_split (fun h => ?_) (fun h => ?_) <;> simp only [go_sem,qC,qG,qW,h,(bind_in_pc _ _ _).ret] <;> simp [conOk,h]
theorem bind_program_formed_c1_pc (c : BCon) : PC L F.bind_program_formed_c1 [.agg [.str c.name,.int .i64 c.args]] (.str c.name) := by
 refine pc_of LF.bind_program_formed_c1 rfl rfl ?_
 simp only [go_sem,qC,qG,qW,C.bind_program_formed_c1]
theorem bind_program_formed_c2_pc (n : Int) : PC L F.bind_program_formed_c2 [.int .i64 n] (.bool (decide (n = 1))) := by
 refine pc_of LF.bind_program_formed_c2 rfl rfl ?_
 simp only [go_sem,qC,qG,qW,C.bind_program_formed_c2]
theorem bind_size_pc : ∀ q : Pat,q.few → ∀ most : Int,0 ≤ most → most ≤ 1000 → PC L F.bind_size [.agg [.int .i64 q.form,.int .i64 q.n,.str q.text,.fz (q.parts.map Pat.enc)],.int .i64 most] (.int .i64 (psize q most)) := by
 refine Pat.ind fun q ih hq most h1 h2 => ?_
 obtain ⟨hl,_,hps⟩ := Pat.few_parts hq
 rw [psize_eq]
 refine pc_of LF.bind_size rfl rfl ?_
 simp only [go_sem,qC,qG,qW,C.bind_size]
 refine wp_for q.parts.length (fun k st => ∃ fr en cnt a,st = ⟨fr,en,cnt⟩ ∧ fr 1 = .int .i64 most ∧ fr 5 = .int .i64 a ∧ fr 9 = .fz (q.parts.map Pat.enc) ∧ fr 10 = .int .i64 q.parts.length ∧ fr 11 = .int .i64 k ∧ 1 ≤ a ∧ a ≤ most + 1 ∧ psizes (q.parts.drop k) most a = psizes q.parts most 1) 0 (Nat.zero_le _) ⟨_,_,_,1,rfl,by simp only [go_sem,qW],by simp only [go_sem,qW],by simp only [go_sem,qW],by simp only [go_sem,qW],by simp only [go_sem,qW],by omega,by omega,rfl⟩ ?_
 rintro k st hk ⟨fr,en,cnt,a,rfl,h1',h5,h9,h10,h11,ha,hb,hI⟩
 simp only [go_sem,qC,qG,qW,h1',h5,h9,h10,h11]
 refine condK_split (fun hc => ?_) (fun hc => ?_)
 ·have h' : k < q.parts.length := of_decide_eq_true hc
  rw [List.drop_eq_getElem_cons h',psizes] at hI
  have hm : q.parts[k] ∈ q.parts := List.getElem_mem _
  simp only [go_sem,qC,qG,qW,h',h1',h5,h9,h10,h11]
  refine condK_split (fun hd => ?_) (fun hd => ?_) <;> simp only [decide_eq_true_eq,decide_eq_false_iff_not] at hd
  ·simp only [go_sem,qC,qG,qW,h5]
   rw [if_pos hd] at hI
   rw [hI]
  ·rw [if_neg hd] at hI
   have e1 : IntKind.i64.wrap (most - a) = most - a := wrap_in (by omega)
   have hz := psize_le q.parts[k] (most - a) (by omega)
   have e2 : IntKind.i64.wrap (a + psize q.parts[k] (most - a)) = a + psize q.parts[k] (most - a) := wrap_in (by omega)
   simp only [go_sem,qC,qG,qW,h',h1',h5,h9,h10,h11,e1,e2,(ih _ hm (hps _ hm) (most - a) (by omega) (by omega)).ret]
   refine ⟨_,_,_,a + psize q.parts[k] (most - a),rfl,?_⟩
   simp only [go_sem,qC,qG,qW,h',h1',h5,h9,h10,h11,wrap_succ h' hl]
   exact ⟨by omega,by omega,hI⟩
 ·have : k = q.parts.length := by simp at hc; omega
  subst this
  simp only [go_sem,qC,qG,qW,h5]
  rw [← hI]; simp [psizes]
theorem bind_program_pat_pc (p : BProg) (hc : Few p.cons.length) : ∀ q : Pat,q.few → PC L F.bind_program_pat [.agg [.fz (p.nodes.map BNode.enc),.fz (p.funs.map (.int .i64)),.int .i64 p.main,.fz (p.cons.map BCon.enc)],.agg [.int .i64 q.form,.int .i64 q.n,.str q.text,.fz (q.parts.map Pat.enc)]] (.bool (patOk p.cons q)) := by
 refine Pat.ind fun q ih hq => ?_
 obtain ⟨hl,_,hps⟩ := Pat.few_parts hq
 have e := wrap_pred hc
 have ask : AsksT L (fun x : Pat => .agg [.int .i64 x.form,.int .i64 x.n,.str x.text,.fz (x.parts.map Pat.enc)]) (.fn F.bind_program_pat [.agg [.fz (p.nodes.map BNode.enc),.fz (p.funs.map (.int .i64)),.int .i64 p.main,.fz (p.cons.map BCon.enc)]] []) (patOk p.cons) q.parts := by
  refine ⟨fun n en hn => ?_,rfl,rfl,rfl,fun x hx en K hK => ?_⟩
  ·obtain ⟨m,rfl⟩ : ∃ m,n = m + 4 := ⟨n - 4,by omega⟩
   simp only [go_sem,qW]
  ·simp only [go_sem,qW,(ih x hx (hps x hx)).ret]
   exact hK
 rw [patOk_eq]
 refine pc_of LF.bind_program_pat rfl rfl ?_
 simp only [go_sem,qC,qG,qW,C.bind_program_pat]
 refine guardK_split (fun h => ?_) (fun h => ?_)
 ·simp only [go_sem,qC,qG,qW,h,Bool.not_false,(bind_every_api_TermPat_pc q.parts _ _ hl ask).ret]
  have ht : noText q.text = true := by simp only [noText]; simpa using h
  refine condK_split (fun h2 => ?_) (fun h2 => ?_)
  ·simp only [go_sem,qC,qG,qW]
   simp at h2
   simp [h2]
  ·have h3 : q.parts.all (patOk p.cons) = true := by simpa using h2
   rw [h3]
   simp only [go_sem,qC,qG,qW,e]
   repeat' ((first | with_reducible refine condK_split (fun h => ?_) (fun h => ?_) | with_reducible refine guardK_split (fun h => ?_) (fun h => ?_)) <;> (try simp only [decide_eq_true_eq,decide_eq_false_iff_not,Bool.not_true,Bool.not_false] at h) <;> try simp only [go_sem,qC,qG,qW, *,(bind_in_pc _ _ _).ret,(bind_integer_pc _).ret,ia_con])
   all_goals try simp [patHead,patHead0, *]
   all_goals try (intros; simp_all; done)
 ·simp only [go_sem,qC,qG,qW,h,Bool.not_false]
  have ht : noText q.text = false := by simp only [noText]; simpa using h
  simp [patHead,ht]
end Go.Proofs.YthpmfghgoabnhaaGreat
namespace Go.Proofs.YthpmfghgoabnhaaGreat
open Go.Abs Go.Proofs
theorem bin_if1 {t : Nat} {v : Val} : binVal .eql .iface (.ifc t v) .nili = some (.bool false) := (rfl)
theorem bin_if0 : binVal .eql .iface .nili .nili = some (.bool true) := (rfl)
theorem bind_kidsOf_pc (op : Int) : PC L F.bind_kidsOf [.int .i64 op] (kidsVal op) := by
 refine pc_of LF.bind_kidsOf rfl rfl ?_
 simp only [go_sem,qC,qG,qW,C.bind_kidsOf]
 repeat' ((first | with_reducible refine condK_split (fun h => ?_) (fun h => ?_) | with_reducible refine guardK_split (fun h => ?_) (fun h => ?_)) <;> (try simp only [decide_eq_true_eq,decide_eq_false_iff_not,Bool.not_true,Bool.not_false] at h) <;> try simp only [go_sem,qC,qG,qW,h])
 all_goals simp [kidsVal, *]
theorem bind_fixed_fine_pc (c : Int) (p : BProg) (n : BNode) : PC L F.bind_fixed_fine [.int .i64 c,.agg [.fz (p.nodes.map BNode.enc),.fz (p.funs.map (.int .i64)),.int .i64 p.main,.fz (p.cons.map BCon.enc)],.agg [.int .i64 n.op,.int .i64 n.n,.fz (n.kids.map (.int .i64)),.fz (n.pats.map Pat.enc)]] (.bool (decide ((n.kids.length : Int) = c))) := by
 refine pc_of LF.bind_fixed_fine rfl rfl ?_
 simp only [go_sem,qC,qG,qW,C.bind_fixed_fine]
theorem bind_ofMatch_fine_pc (p : BProg) (n : BNode) (hn : n.pats.length ≤ 1000) : PC L F.bind_ofMatch_fine [.agg [],.agg [.fz (p.nodes.map BNode.enc),.fz (p.funs.map (.int .i64)),.int .i64 p.main,.fz (p.cons.map BCon.enc)],.agg [.int .i64 n.op,.int .i64 n.n,.fz (n.kids.map (.int .i64)),.fz (n.pats.map Pat.enc)]] (.bool (inR n.pats.length 1 5 && decide ((n.kids.length : Int) = 1 + n.pats.length))) := by
 have e : IntKind.i64.wrap (1 + (n.pats.length : Int)) = 1 + n.pats.length := wrap_in (by omega)
 refine pc_of LF.bind_ofMatch_fine rfl rfl ?_
 simp only [go_sem,qC,qG,qW,C.bind_ofMatch_fine,(bind_in_pc _ _ _).ret]
 refine guardK_split (fun h => ?_) (fun h => ?_) <;> simp only [go_sem,qC,qG,qW,h,e] <;> simp [h]
theorem bind_ofCon_fine_pc (p : BProg) (n : BNode) (hc : Few p.cons.length) : PC L F.bind_ofCon_fine [.agg [],.agg [.fz (p.nodes.map BNode.enc),.fz (p.funs.map (.int .i64)),.int .i64 p.main,.fz (p.cons.map BCon.enc)],.agg [.int .i64 n.op,.int .i64 n.n,.fz (n.kids.map (.int .i64)),.fz (n.pats.map Pat.enc)]] (.bool (inR n.n 0 (p.cons.length - 1) && decide ((n.kids.length : Int) = (p.cons.getD n.n.toNat default).args))) := by
 refine pc_of LF.bind_ofCon_fine rfl rfl ?_
 simp only [go_sem,qC,qG,qW,C.bind_ofCon_fine,(bind_in_pc _ _ _).ret,wrap_pred hc]
 refine guardK_split (fun h => ?_) (fun h => ?_) <;> simp only [go_sem,qC,qG,qW,h,ia_con] <;> simp [h]
def numB (p : BProg) (n : BNode) : Bool := if n.op = 14 then true else numOk p n
theorem bind_program_number_pc (p : BProg) (n : BNode) (hp : p.few) : PC L F.bind_program_number [.agg [.fz (p.nodes.map BNode.enc),.fz (p.funs.map (.int .i64)),.int .i64 p.main,.fz (p.cons.map BCon.enc)],.agg [.int .i64 n.op,.int .i64 n.n,.fz (n.kids.map (.int .i64)),.fz (n.pats.map Pat.enc)]] (.bool (numB p n)) := by
 have e1 : IntKind.i64.wrap (0 - (p.funs.length : Int)) = -(p.funs.length : Int) := by have := hp.funs; unfold Few at this; rw [wrap_in (by omega)]; omega
 refine pc_of LF.bind_program_number rfl rfl ?_
 simp only [go_sem,qC,qG,qW,C.bind_program_number]
 repeat' ((first | with_reducible refine condK_split (fun h => ?_) (fun h => ?_) | with_reducible refine guardK_split (fun h => ?_) (fun h => ?_)) <;> (try simp only [decide_eq_true_eq,decide_eq_false_iff_not,Bool.not_true,Bool.not_false] at h) <;> try simp only [go_sem,qC,qG,qW,h,e1,(bind_in_pc _ _ _).ret,(bind_integer_pc _).ret])
 all_goals simp [numB,numOk, *]
theorem bind_program_node_c1_pc (p : BProg) (hc : Few p.cons.length) (q : Pat) (hq : q.few) : PC L F.bind_program_node_c1 [.agg [.int .i64 q.form,.int .i64 q.n,.str q.text,.fz (q.parts.map Pat.enc)],.fp p.cells 0] (.bool (patFine p.cons q)) := by
 refine pc_of LF.bind_program_node_c1 rfl rfl ?_
 simp only [go_sem,qC,qG,qW,C.bind_program_node_c1,(bind_size_pc q hq 12 (by omega) (by omega)).ret,psize_12]
 refine guardK_split (fun h => ?_) (fun h => ?_) <;> simp only [go_sem,qC,qG,qW,h,(bind_program_pat_pc p hc q hq).ret] <;> simp at h <;> simp [patFine,h]
 intros; omega
theorem bind_program_node_pc (p : BProg) (n : BNode) (hp : p.few) (hn : n.few) (hm : n.pats.length ≤ 1000) : PC L F.bind_program_node [.agg [.fz (p.nodes.map BNode.enc),.fz (p.funs.map (.int .i64)),.int .i64 p.main,.fz (p.cons.map BCon.enc)],.agg [.int .i64 n.op,.int .i64 n.n,.fz (n.kids.map (.int .i64)),.fz (n.pats.map Pat.enc)]] (.bool (nodeOk p n)) := by
 have ask : AsksT L (fun x : Pat => .agg [.int .i64 x.form,.int .i64 x.n,.str x.text,.fz (x.parts.map Pat.enc)]) (.fn F.bind_program_node_c1 [] [.fp p.cells 0]) (patFine p.cons) n.pats := by
  refine ⟨fun n en hn => ?_,rfl,rfl,rfl,fun x hx en K hK => ?_⟩
  ·obtain ⟨m,rfl⟩ : ∃ m,n = m + 4 := ⟨n - 4,by omega⟩
   simp only [go_sem,qW]
  ·have := bind_program_node_c1_pc p hp.cons x (hn.pat x hx)
   simp only [go_sem,qW] at this
   simp only [go_sem,qW,this.ret]
   exact hK
 have hev := bind_every_api_TermPat_pc n.pats _ _ hn.pats ask
 simp only [go_sem,qW] at hev
 have hnum := bind_program_number_pc p n hp
 refine pc_of LF.bind_program_node rfl rfl ?_
 rcases kidsVal_cases n.op with ⟨c,hk,hko,h14,h15⟩ | ⟨h14,hk⟩ | ⟨h15,hk⟩ | ⟨hk,hko,h14,h15⟩
 ·simp only [go_sem,qC,qG,qW,C.bind_program_node,(bind_kidsOf_pc _).ret,hk,bin_if1]
  refine condK_split (fun h => ?_) (fun h => ?_)
  ·simp only [go_sem,qC,qG,qW]
   simp at h
   simp [nodeOk,patsNum,h15]
   intros; simp_all
  ·simp only [go_sem,qC,qG,qW,(bind_fixed_fine_pc c p n).ret]
   simp at h
   refine guardK_split (fun h2 => ?_) (fun h2 => ?_)
   ·simp only [go_sem,qC,qG,qW,h2,hnum.ret]
    refine guardK_split (fun h3 => ?_) (fun h3 => ?_)
    ·simp only [go_sem,qC,qG,qW,h3,hev.ret]
     simp [numB,h14] at h2 h3
     simp [nodeOk,patsNum,h15,h,hko,h2,h3]
    ·simp only [go_sem,qC,qG,qW,h3]
     simp [numB,h14] at h3
     simp [nodeOk,h3]
   ·simp only [go_sem,qC,qG,qW,h2]
    simp at h2
    simp [nodeOk,hko,h2]
 ·simp only [go_sem,qC,qG,qW,C.bind_program_node,(bind_kidsOf_pc _).ret,hk,bin_if1]
  refine condK_split (fun h => ?_) (fun h => ?_)
  ·simp only [go_sem,qC,qG,qW]
   simp at h
   simp [nodeOk,patsNum,h14]
   intros; simp_all
  ·simp only [go_sem,qC,qG,qW,(bind_ofCon_fine_pc p n hp.cons).ret]
   simp at h
   refine guardK_split (fun h2 => ?_) (fun h2 => ?_)
   ·simp only [go_sem,qC,qG,qW,h2,hnum.ret]
    refine guardK_split (fun h3 => ?_) (fun h3 => ?_)
    ·simp only [go_sem,qC,qG,qW,h3,hev.ret]
     simp at h2
     simp [nodeOk,patsNum,numOk,kidsOf,argsOf,h14,h,h2]
    ·simp only [go_sem,qC,qG,qW,h3]
     simp [numB,h14] at h3
   ·simp only [go_sem,qC,qG,qW,h2]
    simp at h2
    simp [nodeOk,patsNum,numOk,kidsOf,argsOf,h14,h]
    intros; simp_all
 ·simp only [go_sem,qC,qG,qW,C.bind_program_node,(bind_kidsOf_pc _).ret,hk,bin_if1]
  simp only [go_sem,qC,qG,qW,(bind_ofMatch_fine_pc p n hm).ret]
  refine guardK_split (fun h2 => ?_) (fun h2 => ?_)
  ·simp only [go_sem,qC,qG,qW,h2,hnum.ret]
   refine guardK_split (fun h3 => ?_) (fun h3 => ?_)
   ·simp only [go_sem,qC,qG,qW,h3,hev.ret]
    simp [numB,h15] at h2 h3
    simp [nodeOk,patsNum,kidsOf,h15,h2,h3]
   ·simp only [go_sem,qC,qG,qW,h3]
    simp [numB,h15] at h3
    simp [nodeOk,h3]
  ·simp only [go_sem,qC,qG,qW,h2]
   simp at h2
   simp [nodeOk,patsNum,kidsOf,h15]
   intros; simp_all
 ·simp only [go_sem,qC,qG,qW,C.bind_program_node,(bind_kidsOf_pc _).ret,hk,bin_if0]
  simp [nodeOk,hko]
end Go.Proofs.YthpmfghgoabnhaaGreat
namespace Go.Proofs.YthpmfghgoabnhaaGreat
open Go.Abs Go.Proofs
theorem bind_differ_pc (l : List ByteArray) (hl : Few l.length) : PC L F.bind_differ [.fz (l.map .str)] (.bool (apartStr [] l)) := by
 refine pc_of LF.bind_differ rfl rfl ?_
 simp only [go_sem,qC,qG,qW,C.bind_differ]
 refine wp_for l.length (fun k st => ∃ fr en cnt ks vs,st = ⟨fr,en,cnt⟩ ∧ fr 0 = .fz (l.map .str) ∧ fr 3 = .mp ⟨0,6,0⟩ ∧ fr 7 = .fz (l.map .str) ∧ fr 8 = .int .i64 l.length ∧ fr 9 = .int .i64 k ∧ en ⟨0,6,0⟩ = some (.map (List.map Val.str ks) vs false) ∧ (l.drop k).foldl metStr ks = l.foldl metStr []) 0 (Nat.zero_le _) ⟨_,_,_,[],[],rfl,by simp only [go_sem,qW],by simp only [go_sem,qW],by simp only [go_sem,qW],by simp only [go_sem,qW],by simp only [go_sem,qW],by simp only [go_sem,qW],rfl⟩ ?_
 rintro k st hk ⟨fr,en,cnt,ks,vs,rfl,h0,h3,h7,h8,h9,e6,hI⟩
 simp only [go_sem,qC,qG,qW,h0,h3,h7,h8,h9]
 refine condK_split (fun hq => ?_) (fun hq => ?_)
 ·have h' : k < l.length := of_decide_eq_true hq
  rw [List.drop_eq_getElem_cons h',List.foldl_cons,metStr] at hI
  rcases findKey_str l[k] ks with ⟨i,f1,f2,f3⟩ | ⟨f1,f2⟩
  ·rw [f2] at hI
   simp only [go_sem,qC,qG,qW,h',h0,h3,h7,h8,h9,e6,f1,f3]
   refine ⟨_,_,_,ks,vs.set i (.bool true),rfl,?_⟩
   simp only [go_sem,qC,qG,qW,h0,h3,h7,h8,h9,wrap_succ h' hl]
   simpa using hI
  ·rw [f2] at hI
   simp only [go_sem,qC,qG,qW,h',h0,h3,h7,h8,h9,e6,f1]
   refine ⟨_,_,_,ks ++ [l[k]],vs ++ [.bool true],rfl,?_⟩
   simp only [go_sem,qC,qG,qW,h0,h3,h7,h8,h9,wrap_succ h' hl]
   refine ⟨by simp,?_⟩
   simpa using hI
 ·have : k = l.length := by simp at hq; omega
  subst this
  simp only [List.drop_length,List.foldl_nil] at hI
  simp only [go_sem,qC,qG,qW,h0,h3,e6]
  have := metStr_apart l []
  rw [← this,← hI]
  simp
theorem mine_ret {en : En} {v : Val} {size : Nat} {xs : List Val} {D : List Nat} (h : Mine en v size xs D) : ∃ r ks,snapD 8 en v = some (r,ks) ∧ r.wk = .fz xs ∧ r.wk1 = .fz xs := by
 obtain ⟨r,ks,h1,_,h2,h3,_⟩ := h.snap 7
 exact ⟨r,ks,h1,h3,h2⟩
theorem bind_mapped_pc (l : List BCon) (hl : l.length ≤ 1000) : PC L F.bind_mapped_api_BindCon_string [.fz (l.map BCon.enc),.fn F.bind_program_formed_c1 [] []] (.fz (l.map fun c => .str c.name)) := by
 have hf : Few l.length := by unfold Few; omega
 refine pc_of LF.bind_mapped_api_BindCon_string rfl rfl ?_
 simp only [go_sem,qC,qG,qW,C.bind_mapped_api_BindCon_string]
 refine wp_for l.length (fun k st => ∃ fr en cnt,st = ⟨fr,en,cnt⟩ ∧ fr 1 = .fn F.bind_program_formed_c1 [] [] ∧ fr 8 = .fz (l.map BCon.enc) ∧ fr 9 = .int .i64 l.length ∧ fr 10 = .int .i64 k ∧ Mine en (fr 5) 1 ((l.take k).map fun c => .str c.name) [19]) 0 (Nat.zero_le _) ⟨_,_,_,rfl,by simp only [go_sem,qW],by simp only [go_sem,qW],by simp only [go_sem,qW],by simp only [go_sem,qW],by simp only [go_sem,qW]; exact Mine.nil _ _⟩ ?_
 rintro k st hk ⟨fr,en,cnt,rfl,h1,h8,h9,h10,h5⟩
 simp only [go_sem,qC,qG,qW,h1,h8,h9,h10]
 refine condK_split (fun hq => ?_) (fun hq => ?_)
 ·have h' : k < l.length := of_decide_eq_true hq
  simp only [go_sem,qC,qG,qW,h',h1,h8,h9,h10,(bind_program_formed_c1_pc _).ret]
  refine w_append (D := [19]) (xs := (l.take k).map fun c => Val.str c.name) (ys := [.str l[k].name]) (rs := []) ?_ ?_ ?_ ?_ ?_
  ·simp only [go_sem,qW]
   exact h5.keep fun t g ht => by simp at ht; subst ht; simp only [go_sem,qW]
  ·simp only [go_sem,qW]
  ·rfl
  ·simp; omega
  ·intro v en' cnt' hown hen hcnt
   simp only [go_sem,qC,qG,qW,h',h1,h8,h9,h10]
   refine ⟨_,_,_,rfl,?_⟩
   simp only [go_sem,qC,qG,qW,h',h1,h8,h9,h10,wrap_succ h' hf]
   exact Mine.sub (by rw [take_step h',List.map_append]; exact hown) (by simp)
 ·have : k = l.length := by simp at hq; omega
  subst this
  rw [List.take_length] at h5
  simp only [go_sem,qC,qG,qW]
  obtain ⟨r,ks,e1,e2,_⟩ := mine_ret h5
  simp only [go_sem,qC,qG,qW,e1,e2]
theorem use_getI {u : List Int} {n : Nat} {x : Int} (hu : u.length = n) (h : inR x 0 ((n : Int) - 1) = true) : 0 ≤ x ∧ x < (n : Int) ∧ (u.map (Val.int .i64))[x.toNat]? = some (.int .i64 (u.getD x.toNat 0)) := by
 simp only [inR,decide_eq_true_eq] at h
 have hx : x.toNat < u.length := by omega
 exact ⟨by omega,by omega,by simp [List.getD_eq_getElem?_getD,hx]⟩
theorem bind_program_formed_pc (p : BProg) (hp : p.few) (hs : p.cons.length ≤ 1000) (hm : ∀ n ∈ p.nodes,n.pats.length ≤ 1000) : PC L F.bind_program_formed [.agg [.fz (p.nodes.map BNode.enc),.fz (p.funs.map (.int .i64)),.int .i64 p.main,.fz (p.cons.map BCon.enc)]] (.bool (formedB p)) := by
 have w1 := wrap_pred hp.nodes
 have w2 := wrap_pred hp.funs
 have ask1 : AsksT L (fun x : BCon => .agg [.str x.name,.int .i64 x.args]) (.fn F.bind_con [] []) conOk p.cons := by
  refine ⟨fun n en hn => ?_,rfl,rfl,rfl,fun x hx en K hK => ?_⟩
  ·obtain ⟨m,rfl⟩ : ∃ m,n = m + 4 := ⟨n - 4,by omega⟩
   simp only [go_sem,qW]
  ·simp only [go_sem,qW,(bind_con_pc x).ret]
   exact hK
 have ask2 : AsksT L (fun x : BNode => .agg [.int .i64 x.op,.int .i64 x.n,.fz (x.kids.map (.int .i64)),.fz (x.pats.map Pat.enc)]) (.fn F.bind_program_node [.agg [.fz (p.nodes.map BNode.enc),.fz (p.funs.map (.int .i64)),.int .i64 p.main,.fz (p.cons.map BCon.enc)]] []) (nodeOk p) p.nodes := by
  refine ⟨fun n en hn => ?_,rfl,rfl,rfl,fun x hx en K hK => ?_⟩
  ·obtain ⟨m,rfl⟩ : ∃ m,n = m + 4 := ⟨n - 4,by omega⟩
   simp only [go_sem,qW]
  ·simp only [go_sem,qW,(bind_program_node_pc p x hp (hp.node x hx) (hm x hx)).ret]
   exact hK
 have hd := bind_differ_pc (p.cons.map BCon.name) (by simpa using hp.cons)
 rw [show (p.cons.map BCon.name).map Val.str = p.cons.map fun c => Val.str c.name by simp] at hd
 refine pc_of LF.bind_program_formed rfl rfl ?_
 simp only [go_sem,qC,qG,qW,C.bind_program_formed,w1,w2]
 repeat' ((first | with_reducible refine condK_split (fun h => ?_) (fun h => ?_) | with_reducible refine guardK_split (fun h => ?_) (fun h => ?_)) <;> (try simp only [decide_eq_true_eq,decide_eq_false_iff_not,Bool.not_true,Bool.not_false] at h) <;> try simp only [go_sem,qC,qG,qW, *,(bind_in_pc _ _ _).ret,(bind_every_api_BindCon_pc _ _ _ hp.cons ask1).ret,(bind_mapped_pc _ hs).ret,hd.ret,(bind_every_api_BindNode_pc _ _ _ hp.nodes ask2).ret])
 all_goals (try simp only [Bool.not_eq_true',Bool.not_eq_false',Int.not_lt,Int.not_le] at *)
 all_goals try (simp [formedB, *]; done)
 all_goals try (simp [formedB, *]; intros; omega)
 have hn : p.nodes.length ≤ 16777216 := by omega
 have hfo : formedB p = allOne ((tally 0 (p.nodes.length - 1) (List.replicate p.nodes.length 0) p.funs).bind fun u => tallyNodes p 0 u p.nodes) := by
  simp [formedB, *]
  intros; omega
 rw [hfo]
 clear hfo
 simp only [go_sem,qC,qG,qW,mk_nat hn]
 refine wp_for p.funs.length (fun k st => ∃ fr en cnt u,st = ⟨fr,en,cnt⟩ ∧ (fr 1 = .ptr ⟨0,1,0⟩ 0 ∧ en ⟨0,1,0⟩ = some (.box p.cells false) ∧ fr 3 = .int .i64 p.nodes.length ∧ fr 4 = .bl ⟨0,74,0⟩ 0 p.nodes.length ∧ en ⟨0,74,0⟩ = some (.blk 1 (u.map (Val.int .i64)) false) ∧ u.length = p.nodes.length) ∧ fr 77 = .fz (p.funs.map (.int .i64)) ∧ fr 78 = .int .i64 p.funs.length ∧ fr 79 = .int .i64 k ∧ tally 0 (p.nodes.length - 1) u (p.funs.drop k) = tally 0 (p.nodes.length - 1) (List.replicate p.nodes.length 0) p.funs) 0 (Nat.zero_le _) ⟨_,_,_,List.replicate p.nodes.length 0,rfl,⟨by simp only [go_sem,qW],by simp only [go_sem,qW],by simp only [go_sem,qW],by simp only [go_sem,qW],by simp only [go_sem,List.map_replicate],by simp⟩,by simp only [go_sem,qW],by simp only [go_sem,qW],by simp only [go_sem,qW],rfl⟩ ?_
 rintro k st hk ⟨fr,en,cnt,u,rfl,⟨h1,e1,h3,h4,eu,hu⟩,h77,h78,h79,hI⟩
 simp only [go_sem,qC,qG,qW,h77,h78,h79]
 refine condK_split (fun hq => ?_) (fun hq => ?_)
 ·have h' : k < p.funs.length := of_decide_eq_true hq
  rw [List.drop_eq_getElem_cons h',tally] at hI
  simp only [go_sem,qC,qG,qW,h',h1,e1,h3,h4,eu,h77,h78,h79,(bind_in_pc _ _ _).ret,w1]
  refine condK_split (fun hb => ?_) (fun hb => ?_)
  ·simp only [go_sem,qC,qG,qW]
   simp at hb
   rw [hb] at hI
   simp at hI
   rw [← hI]; rfl
  ·simp at hb
   obtain ⟨a1,a2,a3⟩ := use_getI hu hb
   rw [hb] at hI
   simp at hI
   simp only [go_sem,qC,qG,qW,h',h1,e1,h3,h4,eu,h77,h78,h79,a1,a2,a3]
   refine ⟨_,_,_,u.set p.funs[k].toNat (IntKind.i64.wrap (u.getD p.funs[k].toNat 0 + 1)),rfl,?_⟩
   simp only [go_sem,qC,qG,qW,h',h1,e1,h3,h4,eu,h77,h78,h79,a1,a2,a3,← List.map_set,wrap_succ h' hp.funs]
   exact ⟨by simp [hu],by simpa using hI⟩
 ·have : k = p.funs.length := by simp at hq; omega
  subst this
  rw [List.drop_length,tally] at hI
  rw [← hI]
  simp only [Option.bind_some]
  clear hq hI hk
  generalize hM : tallyNodes p 0 u p.nodes = M
  simp only [go_sem,qC,qG,qW,h1,e1,h3]
  refine wp_for p.nodes.length (fun k st => ∃ fr en cnt u,st = ⟨fr,en,cnt⟩ ∧ (fr 1 = .ptr ⟨0,1,0⟩ 0 ∧ en ⟨0,1,0⟩ = some (.box p.cells false) ∧ fr 3 = .int .i64 p.nodes.length ∧ fr 4 = .bl ⟨0,74,0⟩ 0 p.nodes.length ∧ en ⟨0,74,0⟩ = some (.blk 1 (u.map (Val.int .i64)) false) ∧ u.length = p.nodes.length) ∧ fr 97 = .fz (p.nodes.map BNode.enc) ∧ fr 98 = .int .i64 p.nodes.length ∧ fr 99 = .int .i64 k ∧ tallyNodes p k u (p.nodes.drop k) = M) 0 (Nat.zero_le _) ⟨_,_,_,u,rfl,⟨by simp only [go_sem,h1,e1,h3,h4,eu,hu],by simp only [go_sem,h1,e1,h3,h4,eu,hu],by simp only [go_sem,h1,e1,h3,h4,eu,hu],by simp only [go_sem,h1,e1,h3,h4,eu,hu],by simp only [go_sem,h1,e1,h3,h4,eu,hu],hu⟩,by simp only [go_sem,qW],by simp only [go_sem,qW],by simp only [go_sem,qW],hM⟩ ?_
  clear hM h1 e1 h3 h4 eu hu h77 h78 h79
  rintro k st hk ⟨fr,en,cnt,u,rfl,⟨h1,e1,h3,h4,eu,hu⟩,h97,h98,h99,hI⟩
  simp only [go_sem,qC,qG,qW,h97,h98,h99]
  refine condK_split (fun hq => ?_) (fun hq => ?_)
  ·have h' : k < p.nodes.length := of_decide_eq_true hq
   have hx := hp.node p.nodes[k] (List.getElem_mem _)
   rw [List.drop_eq_getElem_cons h',tallyNodes] at hI
   generalize hmm : tally ((k : Int) + 1) (p.nodes.length - 1) u p.nodes[k].kids = m at hI
   simp only [go_sem,qC,qG,qW,h',h1,e1,h3,h97,h98,h99]
   refine wp_for p.nodes[k].kids.length (fun j st => ∃ fr en cnt u,st = ⟨fr,en,cnt⟩ ∧ (fr 1 = .ptr ⟨0,1,0⟩ 0 ∧ en ⟨0,1,0⟩ = some (.box p.cells false) ∧ fr 3 = .int .i64 p.nodes.length ∧ fr 4 = .bl ⟨0,74,0⟩ 0 p.nodes.length ∧ en ⟨0,74,0⟩ = some (.blk 1 (u.map (Val.int .i64)) false) ∧ u.length = p.nodes.length) ∧ fr 7 = .int .i64 k ∧ fr 97 = .fz (p.nodes.map BNode.enc) ∧ fr 98 = .int .i64 p.nodes.length ∧ fr 99 = .int .i64 k ∧ fr 105 = .fz (p.nodes[k].kids.map (.int .i64)) ∧ fr 106 = .int .i64 p.nodes[k].kids.length ∧ fr 107 = .int .i64 j ∧ tally ((k : Int) + 1) (p.nodes.length - 1) u (p.nodes[k].kids.drop j) = m) 0 (Nat.zero_le _) ⟨_,_,_,u,rfl,⟨by simp only [go_sem,h1,e1,h3,h4,eu,hu],by simp only [go_sem,h1,e1,h3,h4,eu,hu],by simp only [go_sem,h1,e1,h3,h4,eu,hu],by simp only [go_sem,h1,e1,h3,h4,eu,hu],by simp only [go_sem,h1,e1,h3,h4,eu,hu],hu⟩,by simp only [go_sem,qW],by simp only [go_sem,h97],by simp only [go_sem,h98],by simp only [go_sem,h99],by simp only [go_sem,qW],by simp only [go_sem,qW],by simp only [go_sem,qW],hmm⟩ ?_
   clear hmm h1 e1 h3 h4 eu hu h97 h98 h99
   rintro j st hj ⟨fr,en,cnt,u,rfl,⟨h1,e1,h3,h4,eu,hu⟩,h7,h97,h98,h99,h105,h106,h107,hJ⟩
   simp only [go_sem,qC,qG,qW,h105,h106,h107]
   refine condK_split (fun h2 => ?_) (fun h2 => ?_)
   ·have h2' : j < p.nodes[k].kids.length := of_decide_eq_true h2
    rw [List.drop_eq_getElem_cons h2',tally] at hJ
    have w3 : IntKind.i64.wrap ((k : Int) + 1) = (k : Int) + 1 := wrap_in (by omega)
    simp only [go_sem,qC,qG,qW,h2',h3,h7,h105,h106,h107,(bind_in_pc _ _ _).ret,w1,w3]
    refine condK_split (fun hc => ?_) (fun hc => ?_)
    ·simp only [go_sem,qC,qG,qW]
     simp at hc
     rw [hc] at hJ
     simp at hJ
     rw [← hI,← hJ]; rfl
    ·simp at hc
     have hc0 : inR p.nodes[k].kids[j] 0 ((p.nodes.length : Int) - 1) = true := by simp [inR] at hc ⊢; omega
     obtain ⟨a1,a2,a3⟩ := use_getI hu hc0
     rw [hc] at hJ
     simp at hJ
     simp only [go_sem,qC,qG,qW,h2',h1,e1,h3,h4,eu,h7,h97,h98,h99,h105,h106,h107,a1,a2,a3]
     refine ⟨_,_,_,u.set p.nodes[k].kids[j].toNat (IntKind.i64.wrap (u.getD p.nodes[k].kids[j].toNat 0 + 1)),rfl,?_⟩
     simp only [go_sem,qC,qG,qW,h2',h1,e1,h3,h4,eu,h7,h97,h98,h99,h105,h106,h107,a1,a2,a3,← List.map_set,wrap_succ h2' hx.kids]
     exact ⟨by simp [hu],by simpa using hJ⟩
   ·have : j = p.nodes[k].kids.length := by simp at h2; omega
    subst this
    rw [List.drop_length,tally] at hJ
    rw [← hJ] at hI
    simp only [Option.bind_some] at hI
    simp only [go_sem,qC,qG,qW,h',h1,e1,h3,h4,eu,h97,h98,h99]
    refine ⟨_,_,_,u,rfl,?_⟩
    simp only [go_sem,qC,qG,qW,h1,e1,h3,h4,eu,h97,h98,h99,hu,wrap_succ h' hp.nodes]
    exact hI
  ·have : k = p.nodes.length := by simp at hq; omega
   subst this
   rw [List.drop_length,tallyNodes] at hI
   rw [← hI]
   have ask3 : AsksT L (fun x : Int => .int .i64 x) (.fn F.bind_program_formed_c2 [] []) (fun c => decide (c = 1)) u := by
    refine ⟨fun n en hn => ?_,rfl,rfl,rfl,fun x hx en K hK => ?_⟩
    ·obtain ⟨m,rfl⟩ : ∃ m,n = m + 4 := ⟨n - 4,by omega⟩
     simp only [go_sem,qW]
    ·simp only [go_sem,qW,(bind_program_formed_c2_pc x).ret]
     exact hK
   have ht : List.take p.nodes.length (u.map (Val.int .i64)) = u.map (Val.int .i64) := List.take_of_length_le (by simp [hu])
   simp only [go_sem,qC,qG,qW,h4,eu,hu,Nat.le_refl,ht,(bind_every_int_pc u _ _ (by rw [hu]; exact hp.nodes) ask3).ret]
   rfl
theorem bind_Check_pc (p : BProg) (hp : p.few) (hs : smallProg p = true) : PC L F.bind_Check [.agg [.fz (p.nodes.map BNode.enc),.fz (p.funs.map (.int .i64)),.int .i64 p.main,.fz (p.cons.map BCon.enc)]] (.int .i64 (if formedOk p then 0 else 2)) := by
 have hs' := hs
 simp only [smallProg,Bool.and_eq_true,decide_eq_true_eq] at hs'
 obtain ⟨⟨⟨⟨h1,h2⟩,h3⟩,h4⟩,h5⟩ := hs'
 have hm : ∀ n ∈ p.nodes,n.pats.length ≤ 1000 := by
  intro n hn
  have := List.all_eq_true.1 h5 n hn
  simp only [smallNode,Bool.and_eq_true,decide_eq_true_eq] at this
  omega
 have h := bind_program_formed_pc p hp (by omega) hm
 rw [formed_same p hs] at h
 refine pc_of LF.bind_Check rfl rfl ?_
 simp only [go_sem,qC,qG,qW,C.bind_Check,h.ret]
 cases hf : formedOk p <;> simp only [go_sem,qC,qG,qW,hf,Bool.not_true,Bool.not_false]
end Go.Proofs.YthpmfghgoabnhaaGreat
