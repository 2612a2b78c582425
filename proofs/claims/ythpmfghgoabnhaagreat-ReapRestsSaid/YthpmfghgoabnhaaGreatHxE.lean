/- The interpreter of the translated code, and its proof: part E. -/
import Derived.Test.YthpmfghgoabnhaaGreatHxD
import Derived.Test.YthpmfghgoabnhaaGreatHxC
import Derived.ChangeArms
import Derived.ChangeBears
import Derived.JoinedOf
import Derived.KernelRfl
set_option linter.all false
namespace Go.Abs
def ints (l : List Int) : Val := .fz (l.map (.int .i64))
structure MVal where
 kind : Int
 n : Int
 deriving DecidableEq,Inhabited
def MVal.enc (v : MVal) : Val := .agg [.int .i64 v.kind,.int .i64 v.n]
structure MFrame where
 node : Int
 env : List MVal
 vals : List MVal
 deriving DecidableEq,Inhabited
def MFrame.enc (f : MFrame) : Val := .agg [.int .i64 f.node,.fz (f.env.map MVal.enc),.fz (f.vals.map MVal.enc)]
structure MObj where
 form : Int
 n : Int
 vals : List MVal
 frames : List MFrame
 deriving DecidableEq,Inhabited
def MObj.enc (o : MObj) : Val := .agg [.int .i64 o.form,.int .i64 o.n,.fz (o.vals.map MVal.enc),.fz (o.frames.map MFrame.enc)]
structure MOut where
 port : Int
 n : Int
 deriving DecidableEq,Inhabited
def MOut.enc (o : MOut) : Val := .agg [.int .i64 o.port,.int .i64 o.n]
structure MWorld where
 objs : List MObj
 tasks : List Int
 outs : List MOut
 ins : List Int
 used : Int
 deriving DecidableEq,Inhabited
def MWorld.cells (w : MWorld) : List Val := [.fz (w.objs.map MObj.enc),ints w.tasks,.fz (w.outs.map MOut.enc),ints w.ins,.int .i64 w.used]
structure RState where
 world : MWorld
 ages : List Int
 marks : List Int
 cycle : Int
 deriving DecidableEq,Inhabited
def RState.cells (s : RState) : List Val := s.world.cells ++ [ints s.ages,ints s.marks,.int .i64 s.cycle]
structure BCon where
 name : ByteArray
 args : Int
 deriving DecidableEq,Inhabited
def BCon.enc (c : BCon) : Val := .agg [.str c.name,.int .i64 c.args]
inductive Pat where
 | mk (form n : Int) (text : ByteArray) (parts : List Pat)
 deriving Inhabited
mutual
def Pat.enc : Pat → Val
 | .mk f n t ps => .agg [.int .i64 f,.int .i64 n,.str t,.fz (Pat.encL ps)]
def Pat.encL : List Pat → List Val
 | [] => []
 | p :: ps => p.enc :: Pat.encL ps
end
theorem Pat.encL_map : ∀ ps : List Pat,Pat.encL ps = ps.map Pat.enc
 | [] => rfl
 | p :: ps => by rw [Pat.encL,Pat.encL_map ps]; rfl
def Pat.form : Pat → Int | .mk f _ _ _ => f
def Pat.n : Pat → Int | .mk _ n _ _ => n
def Pat.text : Pat → ByteArray | .mk _ _ t _ => t
def Pat.parts : Pat → List Pat | .mk _ _ _ l => l
theorem Pat.enc_eq (p : Pat) : p.enc = .agg [.int .i64 p.form,.int .i64 p.n,.str p.text,.fz (p.parts.map Pat.enc)] := by
 cases p; simp only [Pat.enc,Pat.encL_map,Pat.form,Pat.n,Pat.text,Pat.parts]
structure BNode where
 op : Int
 n : Int
 kids : List Int
 pats : List Pat
 deriving Inhabited
def BNode.enc (o : BNode) : Val := .agg [.int .i64 o.op,.int .i64 o.n,ints o.kids,.fz (o.pats.map Pat.enc)]
structure BProg where
 nodes : List BNode
 funs : List Int
 main : Int
 cons : List BCon
 deriving Inhabited
def BProg.cells (p : BProg) : List Val := [.fz (p.nodes.map BNode.enc),ints p.funs,.int .i64 p.main,.fz (p.cons.map BCon.enc)]
attribute [go_sem] MVal.enc MFrame.enc MObj.enc MOut.enc BCon.enc BNode.enc Pat.enc_eq MWorld.cells BProg.cells RState.cells ints
end Go.Abs
namespace Go.Abs
def WStill (L : Prog) : List LOper → St → (St → Prop) → Prop
 | [],st,Q => Q st
 | o :: l,st,Q => WStep L st o fun st' r => r.ws = [] ∧ r.bump = false ∧ r.mem = none ∧ WStill L l st' Q
theorem wstep_mono {L : Prog} {st : St} {o : LOper} {K K' : St → Res → Prop} (h : WStep L st o K) (hk : ∀ s r,K s r → K' s r) : WStep L st o K' := by
 have wop : ∀ {d g : Nat} {en : En} {get : Opd → Val} {op : LOp} {K K' : Res → Prop},WOp L d g en get op K → (∀ r,K r → K' r) → WOp L d g en get op K' := by
  intro d g en get op K K' h hk
  have oth : (match evalW d g en get op with | some r => K r | none => False) → (match evalW d g en get op with | some r => K' r | none => False) := by
   intro h; split <;> rename_i hr <;> simp only [hr] at h; exact hk _ h
  cases op with
  | call f args =>
   simp only [WOp] at h ⊢
   split at h
   ·split at h
    ·obtain ⟨r,h1,h2⟩ := h; exact ⟨r,h1,hk _ h2⟩
    ·exact h.elim
   ·exact h.elim
  | _ => exact oth h
 unfold WStep at h ⊢
 split
 ·rename_i hw; simp only [hw] at h
  split
  ·rename_i f args hop; simp only [hop] at h; exact h.mono fun _ _ _ => hk _ _
  ·rename_i op hne
   have h' : WOp L (o.dst.getD 0) (st.cnt 0 (o.dst.getD 0)) st.en (St.get st.fr) o.op fun r => (r.bump && o.dst.isNone) = false ∧
     K ⟨putFr st.fr o.dst r.v,W.applyAll st.en r.ws,if r.bump then setCnt st.cnt 0 (o.dst.getD 0) (st.cnt 0 (o.dst.getD 0) + 1) else st.cnt⟩ r := by
    split at h
    ·rename_i f a hx; exact absurd hx (hne f a)
    ·exact h
   exact wop h' fun r ⟨h1,h2⟩ => ⟨h1,hk _ _ h2⟩
 ·rename_i hw; simp only [hw] at h; exact hk _ _ h
 ·rename_i hw; simp only [hw] at h
def AllStill (rs : List Res) : Prop := ∀ r ∈ rs,r.ws = [] ∧ r.bump = false ∧ r.mem = none
theorem still_rec {L : Prog} : ∀ (l : List LOper) {st : St} {Q : St → Prop},WStill L l st Q → WRec L l st fun st' rs => AllStill rs ∧ rs.length = l.length ∧ Q st'
 | [],st,Q,h => ⟨fun _ hr => by simp at hr,rfl,h⟩
 | o :: l,st,Q,h => by
  refine wstep_mono h fun s r ⟨h1,h2,h3,h4⟩ => ?_
  have rec_ : ∀ (l : List LOper) {st : St} {Q R : St → List Res → Prop},WRec L l st Q → (∀ s rs,Q s rs → R s rs) → WRec L l st R := by
   intro l
   induction l with
   | nil => intro st Q R h k; exact k _ _ h
   | cons o l ih => intro st Q R h k; exact wstep_mono h fun s r hs => ih hs fun s rs hq => k _ _ hq
  refine rec_ l (still_rec l h4) fun s rs ⟨k1,k2,k3⟩ => ⟨fun x hx => ?_,by simp [k2],k3⟩
  rcases List.mem_cons.1 hx with rfl | hx
  ·exact ⟨h1,h2,h3⟩
  ·exact k1 x hx
theorem wp_still {L : Prog} {l : List LOper} {pairs : List (Nat × Nat)} {st : St} {R : Ex → St → Prop} (hp : pairs.all (fun p => decide (p.1 < l.length) && decide (p.2 < l.length)) = true)
  (h : WStill L l st (R .normal)) : Wp L (.draw l pairs) st R := by
 simp only [Wp]
 have hr := still_rec l h
 split
 ·rename_i hpp
  have : ∀ (l : List LOper) {st : St} {Q : St → List Res → Prop} {R : St → Prop},WRec L l st Q → (∀ s rs,Q s rs → R s) → WOps L l st R := by
   intro l
   induction l with
   | nil => intro st Q R h k; exact k _ _ h
   | cons o l ih => intro st Q R h k; exact wstep_mono h fun s r hs => ih hs fun s rs hq => k _ _ hq
  exact this l hr fun s rs h => h.2.2
 ·have rec_ : ∀ (l : List LOper) {st : St} {Q R : St → List Res → Prop},WRec L l st Q → (∀ s rs,Q s rs → R s rs) → WRec L l st R := by
   intro l
   induction l with
   | nil => intro st Q R h k; exact k _ _ h
   | cons o l ih => intro st Q R h k; exact wstep_mono h fun s r hs => ih hs fun s rs hq => k _ _ hq
  refine rec_ l hr fun s rs ⟨h1,h2,h3⟩ => ⟨?_,h3⟩
  unfold pairsOk
  refine List.all_eq_true.2 fun p hpm => ?_
  have := List.all_eq_true.1 hp p hpm
  simp only [Bool.and_eq_true,decide_eq_true_eq] at this
  rw [List.getElem?_eq_getElem (by omega),List.getElem?_eq_getElem (by omega)]
  obtain ⟨a1,a2,a3⟩ := h1 rs[p.1] (List.getElem_mem _)
  obtain ⟨b1,b2,b3⟩ := h1 rs[p.2] (List.getElem_mem _)
  simp [apartRes,a1,a3,b1,b3]
section
variable {L : Prog} {fr : Nat → Val} {en : En} {cnt : Nat → Nat → Nat} {Q : St → Prop} {l : List LOper} {d : Nat} {dst : Option Nat}
@[congr] theorem wstill_congr {st : St} : WStill L l st Q = WStill L l st Q := (rfl)
@[go_sem] theorem ws_nil (st : St) : WStill L [] st Q = Q st := (rfl)
def WPutS (L : Prog) (l : List LOper) (dst : Option Nat) (fr : Nat → Val) (en : En) (cnt : Nat → Nat → Nat) (Q : St → Prop) : Option Res → Prop
 | some r => (r.bump && dst.isNone) = false ∧ r.ws = [] ∧ r.bump = false ∧ r.mem = none ∧ WStill L l ⟨putFr fr dst r.v,W.applyAll en r.ws,if r.bump then setCnt cnt 0 (dst.getD 0) (cnt 0 (dst.getD 0) + 1) else cnt⟩ Q
 | none => False
@[congr] theorem wputs_congr {r r' : Option Res} (h : r = r') : WPutS L l dst fr en cnt Q r = WPutS L l dst fr en cnt Q r' := by rw [h]
@[go_sem] theorem wputs_some {v : Val} {rs : List R} {u : Key → Bool} :
  WPutS L l dst fr en cnt Q (some ⟨v,[],rs,false,none,u⟩) = WStill L l ⟨putFr fr dst v,en,cnt⟩ Q := by simp [WPutS,W.applyAll]
@[go_sem] theorem wputs_none : WPutS L l dst fr en cnt Q none = False := (rfl)
@[go_sem] theorem ws_op {op : LOp} (h : op.plain = true) : WStill L (⟨dst,op,none⟩ :: l) ⟨fr,en,cnt⟩ Q = WPutS L l dst fr en cnt Q (evalW (dst.getD 0) (cnt 0 (dst.getD 0)) en (St.get fr) op) := by
 cases op <;> first | (simp [LOp.plain] at h; done) | rfl | (simp only [WStill,WStep,wanted,WOp,WPutS]; rfl)
@[go_sem] theorem ws_guard {t : Nat} {b : Bool} {op : LOp} : WStill L (⟨dst,op,some (t,b)⟩ :: l) ⟨fr,en,cnt⟩ Q =
  WGuard (fr t) b (WStill L (⟨dst,op,none⟩ :: l) ⟨fr,en,cnt⟩ Q) (WStill L l ⟨putFr fr dst (.tup []),en,cnt⟩ Q) := by
 simp only [WStill,WStep,wanted,WGuard]
 split <;> rename_i h
 ·split at h
  ·rename_i b' hb; simp only [Option.some.injEq] at h; simp only [hb,h,if_true]
  ·cases h
  ·cases h
 ·split at h
  ·rename_i b' hb; simp only [Option.some.injEq] at h; simp only [hb,h,Bool.false_eq_true,if_false,true_and]
  ·rename_i hb; simp only [hb,true_and]
  ·cases h
 ·split at h
  ·cases h
  ·cases h
  ·rename_i h1 h2
   split
   ·rename_i b' hb; exact absurd hb (h1 _)
   ·rename_i hb; exact absurd hb h2
   ·rfl
@[go_sem] theorem ws_call {f : Opd} {args : List Opd} : WStill L (⟨dst,.call f args,none⟩ :: l) ⟨fr,en,cnt⟩ Q =
  WCall L en (St.get fr f) (args.map (St.get fr)) fun r ks => WPutS L l dst fr en cnt Q (some (callRes 0 (dst.getD 0) (cnt 0 (dst.getD 0)) r ks)) := by
 simp only [WStill,WStep,wanted,WOp,WCall,WSnap,WRet]
 cases St.get fr f <;> first | rfl | skip
end
section
variable {L : Prog} {fr : Nat → Val} {en : En} {cnt : Nat → Nat → Nat} {Q : St → Prop} {l : List LOper} {d g : Nat} {dst : Option Nat} {get : Opd → Val}
def opStore (m : Nat) (en : En) (a v : Val) : Option Res :=
  if v.one = true ∧ v.cells.length = m then
   match a with
   | .ptr k off => match en k with
    | some (.box cs false) => if off + m ≤ cs.length then some { v := .tup [],ws := [.cells k off v.cells],rs := [.flag k] } else none
    | _ => none
   | .ep k i off => match en k with
    | some (.blk _ xs false) => match xs[i]? with
     | some y => if off + m ≤ y.cells.length then
       match snapD 8 en v with
       | some (v',ks) => if v'.one = true ∧ v'.cells.length = m ∧ ks.all (fun k' => decide (k' ≠ k)) = true then some { v := .tup [],ws := ks.map .frz ++ [.elem k i off v'.wk1.cells],rs := .val k :: .flag k :: ks.map .val } else none
       | none => none
      else none
     | none => none
    | _ => none
   | _ => none
  else none
@[go_sem] theorem evw_store {m : Nat} {a x : Opd} : evalW d g en get (.store m a x) = opStore m en (get a) (get x) := (rfl)
@[go_sem] theorem store_ptr {m off : Nat} {k : Key} {v : Val} (h1 : v.one = true) (h2 : v.cells.length = m) : opStore m en (.ptr k off) v = (match en k with
    | some (.box cs false) => if off + m ≤ cs.length then some { v := .tup [],ws := [.cells k off v.cells],rs := [.flag k] } else none
    | _ => none) := by simp [opStore,h1,h2]
@[go_sem] theorem apply_cells {k : Key} {off : Nat} {vs : List Val} : (W.cells k off vs).apply en = (match en k with
  | some (.box cs f) => en.set k (some (.box (setCells cs off vs) f))
  | _ => en) := (rfl)
def opSlice (str : Bool) (size : Nat) (en : En) (x : Val) (lo hi mx : Option Val) : Option Res :=
  if str then
   match x,mx with
   | .str s,none => match bound hi s.size s.size with
    | some h => (bound lo 0 h).map fun l => { v := .str (s.extract l h) }
    | none => none
   | _,_ => none
  else match x with
   | .fz xs => match mx with
    | none => match bound hi xs.length xs.length with
     | some h => match bound lo 0 h with
      | some l => if l = 0 ∨ headOk size xs = true then some { v := .fz ((xs.take h).drop l) } else none
      | none => none
     | none => none
    | some m => cut3 size xs lo hi m
   | .cl xs => match mx with
    | none => match bound hi xs.length xs.length with
     | some h => match bound lo 0 h with
      | some l => if l = 0 ∨ headOk size xs = true then some { v := if h = xs.length then .cl (xs.drop l) else .fz ((xs.take h).drop l) } else none
      | none => none
     | none => none
    | some m => cut3 size xs lo hi m
   | .bl k off len => match mx with
    | none => match bound hi len len with
     | some h => match bound lo 0 h with
      | some l => match en k with
       | some (.blk sz _ _) => if l = 0 ∨ sz = size then some { v := .bl k (off + l) (h - l),rs := [.val k] } else none
       | _ => none
      | none => none
     | none => none
    | some _ => none
   | _ => none
@[go_sem] theorem evw_slice {str : Bool} {size : Nat} {x : Opd} {lo hi mx : Option Opd} : evalW d g en get (.slice str size x lo hi mx) = opSlice str size en (get x) (lo.map get) (hi.map get) (mx.map get) := by
 cases mx <;> cases str <;> (simp only [evalW,eval,opSlice,Option.map]) <;> cases get x <;> rfl
@[go_sem] theorem bound_no {a t : Nat} : bound none a t = some a := (rfl)
theorem bound_nat {k : IntKind} {i a t : Nat} (h : i ≤ t) : bound (some (.int k (i : Int))) a t = some i := by
 simp only [bound]; rw [if_pos ⟨by omega,by omega⟩]; simp
@[go_sem] theorem slice_to {size : Nat} {xs : List Val} {k : IntKind} {i : Nat} (h : i ≤ xs.length) : opSlice false size en (.fz xs) none (some (.int k (i : Int))) none = some { v := .fz (xs.take i) } := by
 simp [opSlice,bound_nat h,bound_no]
end
theorem any_step {α : Type} {l : List α} {k : Nat} (h : k < l.length) (p : α → Bool) : (l.drop k).any p = (p l[k] || (l.drop (k + 1)).any p) := by
 rw [List.drop_eq_getElem_cons h,List.any_cons]
theorem all_step {α : Type} {l : List α} {k : Nat} (h : k < l.length) (p : α → Bool) : (l.drop k).all p = (p l[k] && (l.drop (k + 1)).all p) := by
 rw [List.drop_eq_getElem_cons h,List.all_cons]
end Go.Abs
namespace Go.Abs
section
variable {L : Prog} {fr : Nat → Val} {en : En} {cnt : Nat → Nat → Nat} {Q : St → Prop} {l : List LOper} {d g : Nat} {dst : Option Nat} {get : Opd → Val}
def Mine (en : En) (v : Val) (size : Nat) (xs : List Val) (D : List Nat) : Prop :=
 (v = .cl [] ∧ xs = []) ∨ ∃ t g f,v = .bl ⟨0,t,g⟩ 0 xs.length ∧ en ⟨0,t,g⟩ = some (.blk size xs f) ∧ t ∈ D
theorem Mine.nil (size : Nat) (D : List Nat) : Mine en (.cl []) size [] D := .inl ⟨rfl,rfl⟩
theorem Mine.keep {v : Val} {size : Nat} {xs : List Val} {D : List Nat} {en' : En} (h : Mine en v size xs D) (k : ∀ t g,t ∈ D → en' ⟨0,t,g⟩ = en ⟨0,t,g⟩) : Mine en' v size xs D := by
 rcases h with h | ⟨t,g,f,h1,h2,h3⟩
 ·exact .inl h
 ·exact .inr ⟨t,g,f,h1,by rw [k t g h3]; exact h2,h3⟩
theorem Mine.sub {v : Val} {size : Nat} {xs : List Val} {D D' : List Nat} (h : Mine en v size xs D) (k : ∀ t ∈ D,t ∈ D') : Mine en v size xs D' := by
 rcases h with h | ⟨t,g,f,h1,h2,h3⟩
 ·exact .inl h
 ·exact .inr ⟨t,g,f,h1,h2,k t h3⟩
theorem Mine.snap {v : Val} {size : Nat} {xs : List Val} {D : List Nat} (h : Mine en v size xs D) (n : Nat) :
  ∃ r ks,snapD (n + 1) en v = some (r,ks) ∧ r.wk0 = .fz xs ∧ r.wk1 = .fz xs ∧ r.wk = .fz xs ∧ (r = .fz xs ∨ r = .cl xs) := by
 rcases h with ⟨rfl,rfl⟩ | ⟨t,g,f,rfl,h2,_⟩
 ·exact ⟨.cl [],[],rfl,rfl,rfl,rfl,.inr rfl⟩
 ·refine ⟨.fz xs,[⟨0,t,g⟩],?_,rfl,rfl,rfl,.inl rfl⟩
  simp [snapD,h2]
theorem Mine.len {v : Val} {size : Nat} {xs : List Val} {D : List Nat} (h : Mine en v size xs D) : lenOf v = some xs.length := by
 rcases h with ⟨rfl,rfl⟩ | ⟨t,g,f,rfl,h2,_⟩ <;> rfl
@[go_sem] theorem elems_cl {xs : List Val} : elemsOf en (.cl xs) = some (xs,[]) := (rfl)
@[go_sem] theorem elems_fz {xs : List Val} : elemsOf en (.fz xs) = some (xs,[]) := (rfl)
theorem w_append {x y : Opd} {size : Nat} {xs ys : List Val} {rs : List R} {D : List Nat} (hx : Mine en (St.get fr x) size xs D) (hy : elemsOf en (St.get fr y) = some (ys,rs)) (h1 : headOk size ys = true)
  (hl : xs.length + ys.length ≤ 16777216)
  (k : ∀ v en' cnt',Mine en' v size (xs ++ ys) (d :: D) → (∀ n t g,n ≠ 0 ∨ (t ≠ d ∧ t ∉ D) → en' ⟨n,t,g⟩ = en ⟨n,t,g⟩) → (∀ n t,t ≠ d → cnt' n t = cnt n t) → WOps L l ⟨setFr fr d v,en',cnt'⟩ Q) :
  WOps L (⟨some d,.append size x y,none⟩ :: l) ⟨fr,en,cnt⟩ Q := by
 rw [w_gen (by rfl)]
 simp only [Option.getD_some]
 rcases hx with ⟨hv,rfl⟩ | ⟨t,g,f,hv,he,ht⟩
 ·simp only [evalW,eval,hy,h1,if_true,hv]
  by_cases hys : ys.isEmpty = true
  ·have : ys = [] := by simpa using hys
   subst this
   simp only [List.isEmpty_nil,if_true,wput_some,applyAll_nil]
   exact k _ _ _ (.inl ⟨rfl,rfl⟩) (fun _ _ _ _ => rfl) (fun _ _ _ => rfl)
  ·rw [if_neg hys,if_pos ⟨by simpa using hl,rfl⟩]
   simp only [wput_bump,applyAll_cons,applyAll_nil,apply_ent]
   refine k _ _ _ (.inr ⟨d,cnt 0 d,false,by simp,by simp [En.set],by simp⟩) (fun n t g h => en_ne (fun he => ?_)) (fun n t h => by simp [setCnt,h])
   injection he with h3 h4 h5
   rcases h with h | ⟨h,_⟩
   ·exact h h3
   ·exact h h4
 ·simp only [evalW,eval,hy,h1,if_true,hv,he]
  rw [if_pos ⟨.inl (by simp),hl,trivial⟩]
  simp only [wput_bump,applyAll_cons,applyAll_nil,apply_ent]
  refine k _ _ _ (.inr ⟨d,cnt 0 d,f,by simp,?_,by simp⟩) (fun n t' g' h => ?_) (fun n t h => by simp [setCnt,h])
  ·simp [En.set]
  ·have e1 : (⟨n,t',g'⟩ : Key) ≠ ⟨0,d,cnt 0 d⟩ := by
    intro he; injection he with h3 h4 h5
    rcases h with h | ⟨h,_⟩
    ·exact h h3
    ·exact h h4
   have e2 : (⟨n,t',g'⟩ : Key) ≠ ⟨0,t,g⟩ := by
    intro he; injection he with h3 h4 h5
    subst h4
    rcases h with h | ⟨_,h⟩
    ·exact h h3
    ·exact h ht
   rw [en_ne e1,en_ne e2]
def opIxs (x i : Val) : Option Res := match x,i with
  | .str s,.int _ j => if 0 ≤ j then (s[j.toNat]?).map fun b => { v := .int .u8 b.toNat } else none
  | _,_ => none
@[go_sem] theorem evw_ixs {x i : Opd} : evalW d g en get (.ixs x i) = opIxs (get x) (get i) := (rfl)
theorem ixs_nat {s : ByteArray} {k : IntKind} {j : Nat} (h : j < s.data.toList.length) : opIxs (.str s) (.int k (j : Int)) = some { v := .int .u8 (s.data.toList[j]).toNat } := by
 have h' : j < s.size := by rw [Array.length_toList] at h; exact h
 have e : s[(j : Int).toNat]? = some (s.data.toList[j]) := by
  simp only [Int.toNat_natCast]
  rw [getElem?_pos s j h']
  exact congrArg some (by rw [ByteArray.getElem_eq_getElem_data,Array.getElem_toList])
 unfold opIxs
 simp only [if_pos (Int.natCast_nonneg j),e,Option.map]
end
end Go.Abs
namespace Go.Abs
inductive Keep (a b : Prop) : Type
 | mk
section
variable {L : Prog} {fr : Nat → Val} {en : En} {cnt : Nat → Nat → Nat} {Q : St → Prop} {l : List LOper} {dst : Option Nat} {R : Ex → St → Prop}
def WCondK (v : Val) (a b : Prop) (_ : Keep a b) : Prop := WCond v a b
def WGuardK (v : Val) (t : Bool) (a b : Prop) (_ : Keep a b) : Prop := WGuard v t a b
@[congr] theorem wcondK_congr {v v' : Val} {a b : Prop} {k : Keep a b} (h : v = v') : WCondK v a b k = WCondK v' a b k := by rw [h]
@[congr] theorem wguardK_congr {v v' : Val} {t : Bool} {a b : Prop} {k : Keep a b} (h : v = v') : WGuardK v t a b k = WGuardK v' t a b k := by rw [h]
theorem qC {x : Opd} {a b : LCode} : Wp L (.cond x a b) ⟨fr,en,cnt⟩ R = WCondK (St.get fr x) (Wp L a ⟨fr,en,cnt⟩ R) (Wp L b ⟨fr,en,cnt⟩ R) .mk := (rfl)
theorem wcondK_t {a b : Prop} {k : Keep a b} : WCondK (.bool true) a b k = a := (rfl)
theorem wcondK_f {a b : Prop} {k : Keep a b} : WCondK (.bool false) a b k = b := (rfl)
theorem condK_split {t : Bool} {a b : Prop} {k : Keep a b} (h : t = true → a) (h' : t = false → b) : WCondK (.bool t) a b k := wcond_split h h'
theorem qG {t : Nat} {b : Bool} {op : LOp} : WOps L (⟨dst,op,some (t,b)⟩ :: l) ⟨fr,en,cnt⟩ Q =
  WGuardK (fr t) b (WOps L (⟨dst,op,none⟩ :: l) ⟨fr,en,cnt⟩ Q) (WOps L l ⟨putFr fr dst (.tup []),en,cnt⟩ Q) .mk := w_guard
theorem qS {t : Nat} {b : Bool} {op : LOp} : WStill L (⟨dst,op,some (t,b)⟩ :: l) ⟨fr,en,cnt⟩ Q =
  WGuardK (fr t) b (WStill L (⟨dst,op,none⟩ :: l) ⟨fr,en,cnt⟩ Q) (WStill L l ⟨putFr fr dst (.tup []),en,cnt⟩ Q) .mk := ws_guard
theorem guardK_tt {a b : Prop} {k : Keep a b} : WGuardK (.bool true) true a b k = a := (rfl)
theorem guardK_ff {a b : Prop} {k : Keep a b} : WGuardK (.bool false) false a b k = a := (rfl)
theorem guardK_tf {a b : Prop} {k : Keep a b} : WGuardK (.bool true) false a b k = b := (rfl)
theorem guardK_ft {a b : Prop} {k : Keep a b} : WGuardK (.bool false) true a b k = b := (rfl)
theorem guardK_un {a b : Prop} {k : Keep a b} {t : Bool} : WGuardK (.tup []) t a b k = b := (rfl)
theorem guardK_split {b b' : Bool} {yes no : Prop} {k : Keep yes no} (h : b = b' → yes) (h' : b = !b' → no) : WGuardK (.bool b) b' yes no k := guard_split h h'
end
theorem wp_seq_ops {L : Prog} {l : List LOper} {b : LCode} {st : St} {R : Ex → St → Prop} : Wp L (.seq (.ops l) b) st R = WOps L l st fun st' => Wp L b st' R := (rfl)
theorem wp_cut' {L : Prog} {a b : LCode} {st : St} {Q : Ex → St → Prop} (M : St → Prop)
  (h : Wp L a st fun e st' => match e with | .normal => M st' | .exit i => Q (.exit i) st' | .ret => Q .ret st') (k : ∀ fr en cnt,M ⟨fr,en,cnt⟩ → Wp L b ⟨fr,en,cnt⟩ Q) : Wp L (.seq a b) st Q :=
 wp_cut M h fun st' h' => k _ _ _ h'
section
variable {L : Prog} {fr : Nat → Val} {en : En} {cnt : Nat → Nat → Nat} {Q : St → Prop} {l : List LOper} {d g : Nat} {dst : Option Nat} {get : Opd → Val}
def opMk (size : Nat) (z : List Val) (d g : Nat) (x y : Val) : Option Res := match x,y with
  | .int .i64 a,.int .i64 b => if a = b ∧ small a = true then
    some { v := .bl ⟨0,d,g⟩ 0 a.toNat,ws := [.ent ⟨0,d,g⟩ (some (.blk size (List.replicate a.toNat (ofZero size z false)) false))],bump := true } else none
  | _,_ => none
@[go_sem] theorem evw_mklen {size : Nat} {z : List Val} {x y : Opd} : evalW d g en get (.mklen size z x y) = opMk size z d g (get x) (get y) := (rfl)
theorem mk_nat {size n : Nat} {z : List Val} (h : n ≤ 16777216) : opMk size z d g (.int .i64 (n : Int)) (.int .i64 (n : Int)) = some { v := .bl ⟨0,d,g⟩ 0 n,ws := [.ent ⟨0,d,g⟩ (some (.blk size (List.replicate n (ofZero size z false)) false))],bump := true } := by
 have : small (n : Int) = true := by simp [small]; omega
 simp [opMk,this]
@[go_sem] theorem ofZero_bool {b : Bool} : ofZero 1 [.bool b] false = .bool b := (rfl)
@[go_sem] theorem ofZero_int {k : IntKind} {n : Int} : ofZero 1 [.int k n] false = .int k n := (rfl)
@[go_sem] theorem ia_bl {size off len : Nat} {k : Key} {kk : IntKind} {j : Int} : opIa size en (.bl k off len) (.int kk j) = (match en k with
  | some (.blk sz _ _) => if 0 ≤ j ∧ j < len ∧ sz = size then some { v := .ep k (off + j.toNat) 0,rs := [.val k] } else none
  | _ => none) := (rfl)
@[go_sem] theorem read_ep {k : Key} {i off n : Nat} : readAt en (.ep k i off) n = (match en k with
  | some (.blk _ xs _) => (match xs[i]? with
   | some x => if off + n ≤ x.cells.length then some ((x.cells.drop off).take n,[.val k]) else none
   | none => none)
  | _ => none) := (rfl)
@[go_sem] theorem store_ep {m i off : Nat} {k : Key} {v : Val} (h1 : v.one = true) (h2 : v.cells.length = m) : opStore m en (.ep k i off) v = (match en k with
    | some (.blk _ xs false) => (match xs[i]? with
     | some y => if off + m ≤ y.cells.length then
       (match snapD 8 en v with
       | some (v',ks) => if v'.one = true ∧ v'.cells.length = m ∧ ks.all (fun k' => decide (k' ≠ k)) = true then some { v := .tup [],ws := ks.map .frz ++ [.elem k i off v'.wk1.cells],rs := .val k :: .flag k :: ks.map .val } else none
       | none => none)
      else none
     | none => none)
    | _ => none) := by simp [opStore,h1,h2]
@[go_sem] theorem apply_elem {k : Key} {i off : Nat} {vs : List Val} : (W.elem k i off vs).apply en = (match en k with
  | some (.blk sz xs f) => (match xs[i]? with
   | some x => en.set k (some (.blk sz (xs.set i (putCells x off vs)) f))
   | none => en)
  | _ => en) := (rfl)
@[go_sem] theorem put_bool {b : Bool} {v : Val} : putCells (.bool b) 0 [v] = v := (rfl)
@[go_sem] theorem put_int {k : IntKind} {n : Int} {v : Val} : putCells (.int k n) 0 [v] = v := (rfl)
attribute [go_sem] List.all_nil ite_self
end
section
variable {L : Prog} {fr : Nat → Val} {en : En} {cnt : Nat → Nat → Nat} {n : Nat}
@[go_sem] theorem sn_fn {f : Nat} {a b : List Val} : snapD (n + 1) en (.fn f a b) = (match mapO (snapD n en) a with
   | some x => (match mapO (snapD n en) b with
    | some y => some (.fn f (x.map (·.1)) (y.map (·.1)),x.flatMap (·.2) ++ y.flatMap (·.2))
    | none => none)
   | none => none) := (rfl)
@[go_sem] theorem sn_ifc {t : Nat} {v : Val} : snapD (n + 1) en (.ifc t v) = (match snapD n en v with
   | some r => some (.ifc t r.1,r.2)
   | none => none) := (rfl)
@[go_sem] theorem g_m {tbl : List (Nat × Nat)} {i : Nat} : St.get fr (.m tbl i) = methodOf tbl (fr i) := (rfl)
@[go_sem] theorem method_ifc {tbl : List (Nat × Nat)} {t : Nat} {v : Val} : methodOf tbl (.ifc t v) = (match tbl.lookup t with
  | some f => .fn f [v] []
  | none => .dead) := (rfl)
attribute [go_sem] List.lookup_cons
structure AsksT {α : Type} (L : Prog) (enc : α → Val) (h : Val) (p : α → Bool) (l : List α) : Prop where
 snap : ∀ n en,4 ≤ n → snapD n en h = some (h,[])
 wk : h.wk1 = h
 one : h.one = true
 cells : h.cells = [h]
 call : ∀ x ∈ l,∀ en K,K (.bool (p x)) [] → WCall L en h [enc x] K
theorem box_any {d g : Nat} {v : Val} (h1 : v.one = true) (h2 : v.cells = [v]) : opBox d g 1 v = some { v := .ptr ⟨0,d,g⟩ 0,ws := [.ent ⟨0,d,g⟩ (some (.box [v] false))],bump := true } := by
 simp [opBox,h1,h2]
end
def idxOf {α : Type} (p : α → Bool) : List α → Nat → Int
 | [],_ => -1
 | x :: l,k => if p x then (k : Int) else idxOf p l (k + 1)
theorem idxOf_any {α : Type} (p : α → Bool) : ∀ (l : List α) (k : Nat),decide (0 ≤ idxOf p l k) = l.any p
 | [],k => by simp [idxOf]
 | x :: l,k => by
  simp only [idxOf,List.any_cons]
  split
  ·rename_i h; simp [h]
  ·rename_i h; rw [idxOf_any p l (k + 1)]; simp [h]
section
variable {en : En} {d g : Nat} {get : Opd → Val}
def opRng (d g : Nat) (x : Val) : Option Res := match x with
  | .str s => some { v := .it ⟨0,d,g⟩,ws := [.ent ⟨0,d,g⟩ (some (.iter s 0))],bump := true }
  | _ => none
@[go_sem] theorem evw_rng {x : Opd} : evalW d g en get (.rng x) = opRng d g (get x) := (rfl)
@[go_sem] theorem rng_str {s : ByteArray} : opRng d g (.str s) = some { v := .it ⟨0,d,g⟩,ws := [.ent ⟨0,d,g⟩ (some (.iter s 0))],bump := true } := (rfl)
def opNxt (en : En) (x : Val) : Option Res := match x with
  | .it k => match en k with
   | some (.iter s pos) =>
    if pos < s.size then some { v := .tup [.bool true,.int .i64 pos,.int .i32 (Utf8.decode s pos).1],ws := [.ent k (some (.iter s (pos + (Utf8.decode s pos).2)))],rs := [.val k,.flag k] }
    else some { v := .tup [.bool false],rs := [.val k] }
   | _ => none
  | _ => none
@[go_sem] theorem evw_nxt {x : Opd} : evalW d g en get (.nxt x) = opNxt en (get x) := (rfl)
@[go_sem] theorem nxt_it {k : Key} : opNxt en (.it k) = (match en k with
   | some (.iter s pos) =>
    if pos < s.size then some { v := .tup [.bool true,.int .i64 pos,.int .i32 (Utf8.decode s pos).1],ws := [.ent k (some (.iter s (pos + (Utf8.decode s pos).2)))],rs := [.val k,.flag k] }
    else some { v := .tup [.bool false],rs := [.val k] }
   | _ => none) := (rfl)
end
section
variable {en : En} {d g : Nat} {get : Opd → Val}
def opPut (t : EqT) (en : En) (m k x : Val) : Option Res := match m with
  | .mp key => match en key with
   | some (.map ks vs false) =>
    if keyOk t k && x.flat1 then
     match findKey t k ks with
     | some (some i) => some { v := .tup [],ws := [.ent key (some (.map (ks.set i k) (vs.set i x) false))],rs := [.val key,.flag key] }
     | some none => some { v := .tup [],ws := [.ent key (some (.map (ks ++ [k]) (vs ++ [x]) false))],rs := [.val key,.flag key] }
     | none => none
    else none
   | _ => none
  | _ => none
@[go_sem] theorem evw_mput {t : EqT} {m k x : Opd} : evalW d g en get (.mput t m k x) = opPut t en (get m) (get k) (get x) := (rfl)
@[go_sem] theorem put_mp {t : EqT} {key : Key} {k x : Val} : opPut t en (.mp key) k x = (match en key with
   | some (.map ks vs false) =>
    if (keyOk t k && x.flat1) = true then
     (match findKey t k ks with
     | some (some i) => some { v := .tup [],ws := [.ent key (some (.map (ks.set i k) (vs.set i x) false))],rs := [.val key,.flag key] }
     | some none => some { v := .tup [],ws := [.ent key (some (.map (ks ++ [k]) (vs ++ [x]) false))],rs := [.val key,.flag key] }
     | none => none)
    else none
   | _ => none) := (rfl)
@[go_sem] theorem keyOk_str {s : ByteArray} : keyOk .str (.str s) = true := (rfl)
@[go_sem] theorem keyOk_int {k : IntKind} {n : Int} : keyOk .num (.int k n) = true := (rfl)
@[go_sem] theorem flat1_bool {b : Bool} : Val.flat1 (.bool b) = true := (rfl)
@[go_sem] theorem flat1_int {k : IntKind} {n : Int} : Val.flat1 (.int k n) = true := (rfl)
@[go_sem] theorem len_mp {k : Key} : opLen .map en (.mp k) = (match en k with
    | some (.map ks _ _) => some { v := .int .i64 ks.length,rs := [.val k] }
    | _ => none) := (rfl)
def lookIn (t : EqT) (z : Val) (ok : Bool) (k : Val) (ks vs : List Val) : Option Val := match findKey t k ks with
    | some (some i) => some (if ok then .tup [vs.getD i .dead,.bool true] else vs.getD i .dead)
    | some none => some (if ok then .tup [z,.bool false] else z)
    | none => none
def opGet (t : EqT) (z : Val) (ok : Bool) (en : En) (m k : Val) : Option Res :=
  if keyOk t k then
   match m with
   | .mp key => match en key with
    | some (.map ks vs _) => (lookIn t z ok k ks vs).map fun v => { v,rs := [.val key] }
    | _ => none
   | .fm ks vs => (lookIn t z ok k ks vs).map fun v => { v }
   | .nilm => (lookIn t z ok k [] []).map fun v => { v }
   | _ => none
  else none
@[go_sem] theorem evw_mget {t : EqT} {z : Val} {ok : Bool} {m k : Opd} : evalW d g en get (.mget t z ok m k) = opGet t z ok en (get m) (get k) := (rfl)
@[go_sem] theorem get_mp {t : EqT} {z : Val} {ok : Bool} {key : Key} {k : Val} (h : keyOk t k = true) : opGet t z ok en (.mp key) k = (match en key with
    | some (.map ks vs _) => (lookIn t z ok k ks vs).map fun v => { v,rs := [.val key] }
    | _ => none) := by simp [opGet,h]
@[go_sem] theorem get_fm {t : EqT} {z : Val} {ok : Bool} {k : Val} {ks vs : List Val} (h : keyOk t k = true) : opGet t z ok en (.fm ks vs) k = (lookIn t z ok k ks vs).map fun v => { v } := by simp [opGet,h]
end
theorem wp_range {L : Prog} {g : Opd} {ps : List Nat} {a b : LCode} {fr : Nat → Val} {en : En} {cnt : Nat → Nat → Nat} {Q : Ex → St → Prop} {f : Nat} {x y : List Val} (h : St.get fr g = .fn f x y)
  (H : ∀ fr0 k,fr0 = fr → k = loopKey cnt → WIn L (.fn f x y) [.yld k] (en.set k (some (.loop fr0 ps a b .ready))) (setCnt cnt 1 0 (cnt 1 0 + 1)) fun _ en' cnt' =>
   match en' k with
   | some (.loop _ _ _ _ .ready) => Q .normal ⟨fr,en'.set k none,cnt'⟩
   | some (.loop _ _ _ _ (.done e)) => Q e ⟨fr,en'.set k none,cnt'⟩
   | _ => False) : Wp L (.rangeF g ps a b) ⟨fr,en,cnt⟩ Q := by
 simp only [Wp,h]
 exact H fr _ rfl rfl
@[go_sem] theorem setFrs_nil {fr : Nat → Val} {vs : List Val} : setFrs fr [] vs = fr := (rfl)
@[go_sem] theorem setFrs_cons {fr : Nat → Val} {p : Nat} {ps : List Nat} {v : Val} {vs : List Val} : setFrs fr (p :: ps) (v :: vs) = setFrs (setFr fr p v) ps vs := (rfl)
theorem Mine.shape {en : En} {v : Val} {size : Nat} {xs : List Val} {D : List Nat} (h : Mine en v size xs D) : v.one = true ∧ v.cells = [v] := by
 rcases h with ⟨rfl,_⟩ | ⟨t,g,f,rfl,_⟩ <;> exact ⟨rfl,rfl⟩
attribute [go_sem] wcondK_t wcondK_f guardK_tt guardK_ff guardK_tf guardK_ft guardK_un Int.cast_ofNat_Int beq_self_eq_true
attribute [go_sem] Nat.reduceEqDiff Nat.reduceBEq Nat.reduceMul Nat.reduceLeDiff Nat.reduceAdd Nat.reduceSub Nat.reduceLT Int.reduceLT Int.reduceLE Int.reduceToNat Int.reduceAdd Int.reduceNeg Int.reduceEq
end Go.Abs
namespace Go.Abs
def FitsFs (P : Program) (F : TypeId → List Val → Prop) : List Field → List Val → Prop
 | [],vs => vs = []
 | f :: fs,vs => ∃ a b,vs = a ++ b ∧ a.length = P.cellsOf f.type ∧ F f.type a ∧ FitsFs P F fs b
def pack (P : Program) (t : TypeId) (vs : List Val) : Val := if isAggT P t then .agg vs else vs.getD 0 .dead
def Fits (P : Program) : Nat → TypeId → List Val → Prop
 | 0,_,_ => False
 | n + 1,t,vs =>
  match P.underlying t with
  | some .bool => ∃ b,vs = [.bool b]
  | some (.int k) => ∃ i,vs = [.int k i] ∧ (Lit.int k i).wf = true
  | some .string => ∃ s : ByteArray,vs = [.str s] ∧ s.size ≤ maxLen
  | some (.slice e) => ∃ xs : List (List Val),vs = [.fz (xs.map (pack P e))] ∧ xs.length ≤ maxLen ∧ ∀ x ∈ xs,Fits P n e x
  | some (.struct fs) => FitsFs P (Fits P n) fs.toList vs
  | _ => True
def closedOk (P : Program) (S : TypeId → Bool) : Bool := (List.range P.types.size).all fun t => !S t || match P.underlying t with
 | some (.slice e) => P.cellsOf e != 0 && S e
 | some (.struct fs) => fs.toList.all fun f => S f.type
 | some (.array ..) => false
 | _ => true
def There (w : World) : Nat → Nat → Prop := fun b _ => b < w.heap.size
section
variable {H : Type} {enc : TypeId × Value → H} {P : Program} {w : World} {sp : Nat → Bool}
def Reads (w : World) (vs : List Val) (cs : List Value) : Prop :=
 vs.length = cs.length ∧ ∀ i,i < cs.length → oneV (cs.getD i undef) = true ∧ VR (There w) Gh.none w (vs.getD i .dead) (cs.getD i undef)
theorem Reads.nil : Reads w [] [] := ⟨rfl,fun i hi => by simp at hi⟩
theorem Reads.one {v : Val} {c : Value} (h : VR (There w) Gh.none w v c) (ho : oneV c = true) : Reads w [v] [c] := by
 refine ⟨rfl,fun i hi => ?_⟩
 have : i = 0 := by simp at hi; omega
 subst this
 exact ⟨ho,h⟩
theorem Reads.append {a b : List Val} {c d : List Value} (h : Reads w a c) (k : Reads w b d) : Reads w (a ++ b) (c ++ d) := by
 refine ⟨by simp [h.1,k.1],fun i hi => ?_⟩
 simp only [List.getD_eq_getElem?_getD,List.getElem?_append]
 rw [h.1]
 split
 ·rename_i hlt; have := h.2 i hlt; simpa [List.getD_eq_getElem?_getD] using this
 ·have := k.2 (i - c.length) (by simp at hi; omega); simpa [List.getD_eq_getElem?_getD] using this
theorem not_agg {v : Val} {c : Value} (h : VR (There w) Gh.none w v c) (ho : oneV c = true) : v.cells = [v] ∧ v.one = true := by
 cases h <;> first | exact ⟨rfl,rfl⟩ | (simp [oneV] at ho)
theorem open_fields (n : Nat) (F : TypeId → List Val → Prop) : ∀ (fs : List Field) (cs : List Value),cs.length = (fs.map fun f => P.cellsOf f.type).sum →
  (∀ (j : Nat) f,fs[j]? = some f → ∃ vs,F f.type vs ∧ Reads w vs ((cs.drop ((fs.take j).map fun f => P.cellsOf f.type).sum).take (P.cellsOf f.type))) →
  ∃ vs,FitsFs P F fs vs ∧ Reads w vs cs
 | [],cs,hl,_ => by
  have : cs = [] := by simpa using hl
  subst this
  exact ⟨[],rfl,Reads.nil⟩
 | f :: fs,cs,hl,h => by
  simp only [List.map_cons,List.sum_cons] at hl
  obtain ⟨a,ha,hra⟩ := h 0 f rfl
  simp only [List.take_zero,List.map_nil,List.sum_nil,List.drop_zero] at hra
  obtain ⟨b,hb,hrb⟩ := open_fields n F fs (cs.drop (P.cellsOf f.type)) (by simp; omega) (fun j g hj => by
   obtain ⟨vs,h1,h2⟩ := h (j + 1) g (by simpa using hj)
   refine ⟨vs,h1,?_⟩
   simpa [List.drop_drop] using h2)
  refine ⟨a ++ b,⟨a,b,rfl,?_,ha,hb⟩,?_⟩
  ·rw [hra.1]; simp; omega
  ·have := Reads.append hra hrb
   rwa [List.take_append_drop] at this
theorem addr_add (b o i : Nat) : (⟨b,o,none⟩ : Addr).add i = ⟨b,o + i,none⟩ := by
 unfold Addr.add; split
 ·rename_i h; subst h; rfl
 ·rfl
theorem cells_get {a : Addr} {n : Nat} {cs : List Value} (h : w.cells? 0 a n = some cs) : cs.length = n ∧ ∀ j,j < n → w.cell? (a.add j) = some (cs.getD j undef) := by
 unfold World.cells? at h
 rw [if_pos (Nat.zero_le _)] at h
 have h1 := mapM_some_length h
 refine ⟨by simpa using h1,fun j hj => ?_⟩
 have h2 := mapM_some_get h j j (by simp [hj])
 rw [h2]
 have : j < cs.length := by rw [h1]; simpa using hj
 simp [List.getD_eq_getElem?_getD,this]
theorem open_data (hl : laidOutB P = true) (S : TypeId → Bool) (hz : closedOk P S = true) : ∀ (fuel : Nat) (t : TypeId) (cs : List Value) (x : DataW H × List MemPlace),t < P.types.size → S t = true → DataW.trod enc P w 0 sp true fuel t cs = some x →
  ∃ vs,Fits P fuel t vs ∧ Reads w vs cs := by
 intro fuel
 induction fuel with
 | zero => intro t cs x _ _ h; simp [DataW.trod] at h
 | succ n ih =>
  intro t cs x ht hs h
  have hz0 := List.all_eq_true.1 hz t (List.mem_range.2 ht)
  simp only [hs,Bool.not_true,Bool.false_or] at hz0
  cases hu : P.underlying t with
  | none => simp [DataW.trod,hu] at h
  | some u =>
   have dead : ∀ c : Value,cs = [c] → oneV c = true → ∃ vs : List Val,True ∧ Reads w vs cs := by
    rintro c rfl ho; exact ⟨[.dead],trivial,Reads.one (.dead c ho) ho⟩
   have gen : (∃ c,cs = [c] ∧ oneV c = true) → (match u with | .bool | .int _ | .string | .slice _ | .struct _ | .array .. => False | _ => True) → ∃ vs,Fits P (n + 1) t vs ∧ Reads w vs cs := by
    rintro ⟨c,rfl,ho⟩ hk
    refine ⟨[.dead],?_,Reads.one (.dead c ho) ho⟩
    simp only [Fits,hu]
    cases u <;> first | trivial | exact hk.elim
   cases u with
   | bool =>
    simp only [DataW.trod,hu] at h
    split at h <;> first | (cases h; done) | skip
    all_goals first | (rename_i h1; cases h1; done) | skip
    rename_i b h1
    exact ⟨[.bool b],by simp only [Fits,hu]; exact ⟨b,rfl⟩,Reads.one (.bool b) rfl⟩
   | int k =>
    simp only [DataW.trod,hu] at h
    split at h <;> first | (cases h; done) | skip
    all_goals first | (rename_i h1; cases h1; done) | skip
    rename_i k0 k' i h1
    cases h1
    split at h
    ·rename_i hk
     obtain ⟨rfl,hw⟩ := hk
     exact ⟨[.int _ i],by simp only [Fits,hu]; exact ⟨i,rfl,hw⟩,Reads.one (.int _ i) rfl⟩
    ·cases h
   | string =>
    simp only [DataW.trod,hu] at h
    split at h <;> first | (cases h; done) | skip
    all_goals first | (rename_i h1; cases h1; done) | skip
    rename_i s h1
    split at h
    ·rename_i hs
     exact ⟨[.str s],by simp only [Fits,hu]; exact ⟨s,rfl,hs⟩,Reads.one (.str s) rfl⟩
    ·cases h
   | slice e =>
    simp only [hu,Bool.and_eq_true] at hz0
    have he : P.cellsOf e ≠ 0 := by simpa using hz0.1
    have hSe : S e = true := hz0.2
    have hke : e < P.types.size := kid_slice hl ht hu
    rcases DataW.trod_slice hu h with ⟨rfl,rfl⟩ | ⟨a,len,cap,elems,rest,m,hm,rfl,rfl,_,hlc,hcm,hel,hall⟩
    ·exact ⟨[.fz []],by simp only [Fits,hu]; exact ⟨[],rfl,Nat.zero_le _,by simp⟩,Reads.one (.fz0 _ _) rfl⟩
    ·cases hm
     replace hall := hall.1
     have each : ∀ i,i < len → ∃ csi vsi,w.cells? 0 (a.add (i * P.cellsOf e)) (P.cellsOf e) = some csi ∧ Fits P n e vsi ∧ Reads w vsi csi := by
      intro i hi
      have h1 := hall i hi
      have hlt : i < elems.length := by omega
      rw [List.getElem?_eq_getElem hlt] at h1
      simp only [Option.bind_eq_some_iff] at h1
      obtain ⟨csi,h2,h3⟩ := h1
      obtain ⟨vsi,h4,h5⟩ := ih e csi _ hke hSe h3
      exact ⟨csi,vsi,h2,h4,h5⟩
     let C (i : Nat) : List Value := if hi : i < len then (each i hi).choose else []
     let V (i : Nat) : List Val := if hi : i < len then (each i hi).choose_spec.choose else []
     have hCV : ∀ i,i < len → w.cells? 0 (a.add (i * P.cellsOf e)) (P.cellsOf e) = some (C i) ∧ Fits P n e (V i) ∧ Reads w (V i) (C i) := by
      intro i hi
      have := (each i hi).choose_spec.choose_spec
      simp only [C,V,dif_pos hi]
      exact this
     have hpk : ∀ i,i < len → (pack P e (V i)).cells = V i := by
      intro i hi
      obtain ⟨h1,h2,h3⟩ := hCV i hi
      unfold pack
      split
      ·rfl
      ·rename_i hagg
       have hlen : (V i).length = 1 := by
        rw [h3.1,(cells_get h1).1]
        have hr := rowFine_of hl hke
        unfold isAggT at hagg
        have hvar : isVar P e = true := by
         have := rowFine_of hl ht
         simp only [rowFine,hu] at this
         have hv : isVar P t = true := by simp [isVar,ht,hu,kindOk]
         simp only [hv,Bool.not_true,Bool.false_or,Bool.and_eq_true] at this
         exact this.1
        simp only [rowFine,hvar,Bool.not_true,Bool.false_or] at hr
        split at hr <;> first | (rename_i h'; rw [h'] at hagg; simp at hagg; done) | (simp only [Bool.and_eq_true,beq_iff_eq] at hr; exact hr.2) | (simpa using hr)
       obtain ⟨v,hv⟩ := List.length_eq_one_iff.1 hlen
       have h4 := h3.2 0 (by rw [← h3.1,hlen]; omega)
       rw [hv] at h4 ⊢
       simp only [List.getD_cons_zero] at h4 ⊢
       exact (not_agg h4.2 h4.1).1
     refine ⟨[.fz ((List.range len).map fun i => pack P e (V i))],?_,?_⟩
     ·simp only [Fits,hu]
      refine ⟨(List.range len).map V,by simp [Function.comp_def],by simp; omega,fun x hx => ?_⟩
      obtain ⟨i,hi,rfl⟩ := List.mem_map.1 hx
      exact (hCV i (by simpa using hi)).2.1
     ·refine Reads.one ?_ rfl
      by_cases h0 : len = 0
      ·subst h0; exact .fz0 _ _
      ·have hsp : a.spot = none := by
        have := (cells_get (hCV 0 (by omega)).1).2 0 (by omega)
        unfold World.cell? at this
        split at this
        ·rename_i hh
         split at this
         ·cases this
         ·rename_i hs; simpa [Addr.add] using hs
        ·cases this
       obtain ⟨blk,off,spt⟩ := a
       simp only at hsp
       subst hsp
       have hg : ∀ i,i < len → ((List.range len).map fun i => pack P e (V i)).getD i .dead = pack P e (V i) := by
        intro i hi; simp [List.getD_eq_getElem?_getD,hi]
       have hcell : ∀ i j,i < len → j < P.cellsOf e → w.cell? ⟨blk,off + i * P.cellsOf e + j,none⟩ = some ((C i).getD j undef) := by
        intro i j hi hj
        have := (cells_get (hCV i hi).1).2 j hj
        rw [addr_add,addr_add] at this
        exact this
       have := VR.fz (T := There w) (G := Gh.none) (w := w) ((List.range len).map fun i => pack P e (V i)) blk off (P.cellsOf e) cap (fun i j => (C i).getD j undef)
        (by simpa using hlc) (fun i hi => by
         have hi' : i < len := by simpa using hi
         rw [hg i hi',hpk i hi',(hCV i hi').2.2.1,(cells_get (hCV i hi').1).1])
        (fun i j hi hj => hcell i j (by simpa using hi) hj)
        (fun i j hi hj => by
         have := hcell i j (by simpa using hi) hj
         unfold World.cell? at this
         split at this
         ·rename_i hh; exact (Array.getElem?_eq_some_iff.1 hh).1
         ·cases this)
        (fun i j hi hj => by
         have hi' : i < len := by simpa using hi
         exact ((hCV i hi').2.2.2 j (by rw [(cells_get (hCV i hi').1).1]; exact hj)).1)
        (fun i j hi hj => by
         have hi' : i < len := by simpa using hi
         rw [hg i hi',hpk i hi']
         exact ((hCV i hi').2.2.2 j (by rw [(cells_get (hCV i hi').1).1]; exact hj)).2)
       simpa using this
   | struct fs =>
    obtain ⟨xs,m,hm,_,hlen,hxl,hall⟩ := DataW.trod_struct hu h
    cases hm
    obtain ⟨k1,k2,k3⟩ := kid_struct hl ht hu
    obtain ⟨vs,h1,h2⟩ := open_fields (P := P) (w := w) n (Fits P n) fs.toList cs (by rw [hlen,k2]) (fun j f hj => by
     have h3 := hall j f (by simpa using hj)
     have hj' : j < xs.length := by rw [hxl]; exact (by simpa using (List.getElem?_eq_some_iff.1 hj).1)
     rw [List.getElem?_eq_getElem hj'] at h3
     rw [k3 j f hj] at h3
     exact ih _ _ _ (k1 f (List.mem_of_getElem? hj)) (by simp only [hu] at hz0; exact List.all_eq_true.1 hz0 f (List.mem_of_getElem? hj)) h3)
    exact ⟨vs,by simp only [Fits,hu]; exact h1,h2⟩
   | array k e =>
    simp [hu] at hz0
   | _ =>
    refine gen ?_ trivial
    simp only [DataW.trod,hu] at h
    first
    |(cases h; done)
    |(split at h <;> first | (cases h; done) | exact ⟨_,rfl,rfl⟩ | (rename_i h1; cases h1; done) | (rename_i h1 _; cases h1; done))
end
end Go.Abs
namespace Go.Abs
def WFoot (L : Prog) : List LOper → St → (St → List Res → Prop) → Prop
 | [],st,Q => Q st []
 | o :: l,st,Q => WStep L st o fun st' r => WFoot L l st' fun s rs => Q s ({ r with v := .dead } :: rs)
theorem wrec_mono {L : Prog} (l : List LOper) : ∀ {st : St} {Q R : St → List Res → Prop},WRec L l st Q → (∀ s rs,Q s rs → R s rs) → WRec L l st R := by
 induction l with
 | nil => intro st Q R h k; exact k _ _ h
 | cons o l ih => intro st Q R h k; exact wstep_mono h fun s r hs => ih hs fun s rs hq => k _ _ hq
def SameFoot : List Res → List Res → Prop
 | [],[] => True
 | a :: l,b :: m => (a = { b with v := .dead }) ∧ SameFoot l m
 | _,_ => False
theorem foot_rec {L : Prog} : ∀ (l : List LOper) {st : St} {Q : St → List Res → Prop},WFoot L l st Q → WRec L l st fun st' rs => ∃ fs,SameFoot fs rs ∧ Q st' fs
 | [],st,Q,h => ⟨[],trivial,h⟩
 | o :: l,st,Q,h => by
  refine wstep_mono h fun s r h2 => ?_
  refine wrec_mono l (foot_rec l h2) fun s rs ⟨fs,k1,k2⟩ => ⟨{ r with v := .dead } :: fs,(show SameFoot ({ r with v := .dead } :: fs) (r :: rs) from ⟨rfl,k1⟩),k2⟩
theorem foot_get : ∀ {fs rs : List Res},SameFoot fs rs → ∀ (i : Nat),(fs[i]? = none ∧ rs[i]? = none) ∨ ∃ b,fs[i]? = some { b with v := .dead } ∧ rs[i]? = some b
 | [],[],_,i => .inl ⟨rfl,rfl⟩
 | a :: l,b :: m,h,0 => .inr ⟨b,by rw [← h.1]; rfl,rfl⟩
 | a :: l,b :: m,h,i + 1 => by simpa using foot_get h.2 i
 | [],_ :: _,h,_ => h.elim
 | _ :: _,[],h,_ => h.elim
theorem foot_pairs {fs rs : List Res} (h : SameFoot fs rs) (pairs : List (Nat × Nat)) (hp : pairsOk fs pairs = true) : pairsOk rs pairs = true := by
 unfold pairsOk at hp ⊢
 refine List.all_eq_true.2 fun p hm => ?_
 have := List.all_eq_true.1 hp p hm
 rcases foot_get h p.1 with ⟨a1,_⟩ | ⟨b,a1,a2⟩
 ·rw [a1] at this; cases this
 rcases foot_get h p.2 with ⟨c1,_⟩ | ⟨d,c1,c2⟩
 ·rw [a1,c1] at this; cases this
 rw [a1,c1] at this
 rw [a2,c2]
 exact this
theorem wp_foot {L : Prog} {l : List LOper} {pairs : List (Nat × Nat)} {st : St} {R : Ex → St → Prop}
  (h : WFoot L l st fun st' rs => pairsOk rs pairs = true ∧ R .normal st') : Wp L (.draw l pairs) st R := by
 simp only [Wp]
 have hr := foot_rec l h
 split
 ·have : ∀ (l : List LOper) {st : St} {Q : St → List Res → Prop} {R : St → Prop},WRec L l st Q → (∀ s rs,Q s rs → R s) → WOps L l st R := by
   intro l
   induction l with
   | nil => intro st Q R h k; exact k _ _ h
   | cons o l ih => intro st Q R h k; exact wstep_mono h fun s r hs => ih hs fun s rs hq => k _ _ hq
  exact this l hr fun s rs ⟨_,_,h⟩ => h.2
 ·exact wrec_mono l hr fun s rs ⟨fs,h1,h2,h3⟩ => ⟨foot_pairs h1 _ h2,h3⟩
section
variable {L : Prog} {fr : Nat → Val} {en : En} {cnt : Nat → Nat → Nat} {Q : St → List Res → Prop} {l : List LOper} {d : Nat} {dst : Option Nat}
@[congr] theorem wfoot_congr {st : St} : WFoot L l st Q = WFoot L l st Q := (rfl)
@[go_sem] theorem wf_nil (st : St) : WFoot L [] st Q = Q st [] := (rfl)
def WPutF (L : Prog) (l : List LOper) (dst : Option Nat) (fr : Nat → Val) (en : En) (cnt : Nat → Nat → Nat) (Q : St → List Res → Prop) : Option Res → Prop
 | some r => (r.bump && dst.isNone) = false ∧ WFoot L l ⟨putFr fr dst r.v,W.applyAll en r.ws,if r.bump then setCnt cnt 0 (dst.getD 0) (cnt 0 (dst.getD 0) + 1) else cnt⟩ fun s rs => Q s ({ r with v := .dead } :: rs)
 | none => False
@[congr] theorem wputf_congr {r r' : Option Res} (h : r = r') : WPutF L l dst fr en cnt Q r = WPutF L l dst fr en cnt Q r' := by rw [h]
@[go_sem] theorem wputf_some {v : Val} {ws : List W} {rs : List R} {u : Key → Bool} :
  WPutF L l dst fr en cnt Q (some ⟨v,ws,rs,false,none,u⟩) = WFoot L l ⟨putFr fr dst v,W.applyAll en ws,cnt⟩ fun s fs => Q s ({ v := .dead,ws := ws,rs := rs,unch := u } :: fs) := by simp [WPutF]
@[go_sem] theorem wputf_bump {v : Val} {ws : List W} {rs : List R} {u : Key → Bool} :
  WPutF L l (some d) fr en cnt Q (some ⟨v,ws,rs,true,none,u⟩) = WFoot L l ⟨setFr fr d v,W.applyAll en ws,setCnt cnt 0 d (cnt 0 d + 1)⟩ fun s fs => Q s ({ v := .dead,ws := ws,rs := rs,bump := true,unch := u } :: fs) := by simp [WPutF,putFr]
@[go_sem] theorem wputf_none : WPutF L l dst fr en cnt Q none = False := (rfl)
theorem wf_gen {op : LOp} (h : op.plain = true) : WFoot L (⟨dst,op,none⟩ :: l) ⟨fr,en,cnt⟩ Q = WPutF L l dst fr en cnt Q (evalW (dst.getD 0) (cnt 0 (dst.getD 0)) en (St.get fr) op) := by
 cases op <;> first | (simp [LOp.plain] at h; done) | rfl | (simp only [WFoot,WStep,wanted,WOp,WPutF]; rfl)
@[go_sem] theorem wf_some {op : LOp} (h : op.plain = true) : WFoot L (⟨some d,op,none⟩ :: l) ⟨fr,en,cnt⟩ Q = WPutF L l (some d) fr en cnt Q (evalW d (cnt 0 d) en (St.get fr) op) := wf_gen h
@[go_sem] theorem wf_none {op : LOp} (h : op.plain = true) : WFoot L (⟨none,op,none⟩ :: l) ⟨fr,en,cnt⟩ Q = WPutF L l none fr en cnt Q (evalW 0 (cnt 0 0) en (St.get fr) op) := wf_gen h
@[go_sem] theorem wf_call {f : Opd} {args : List Opd} : WFoot L (⟨dst,.call f args,none⟩ :: l) ⟨fr,en,cnt⟩ Q =
  WCall L en (St.get fr f) (args.map (St.get fr)) fun r ks => WPutF L l dst fr en cnt Q (some (callRes 0 (dst.getD 0) (cnt 0 (dst.getD 0)) r ks)) := by
 simp only [WFoot,WStep,wanted,WOp,WCall,WSnap,WRet]
 cases St.get fr f <;> first | rfl | skip
@[go_sem] theorem wf_icall {f : Opd} {args : List Opd} : WFoot L (⟨dst,.icall f args,none⟩ :: l) ⟨fr,en,cnt⟩ Q =
  WIn L (St.get fr f) (args.map (St.get fr)) en cnt fun v en' cnt' => WFoot L l ⟨putFr fr dst v,en',cnt'⟩ fun s fs => Q s ({ v := .dead,mem := some (en',cnt'),unch := fun k => sameE (en k) (en' k) } :: fs) := (rfl)
theorem wf_guardK {t : Nat} {b : Bool} {op : LOp} : WFoot L (⟨dst,op,some (t,b)⟩ :: l) ⟨fr,en,cnt⟩ Q =
  WGuardK (fr t) b (WFoot L (⟨dst,op,none⟩ :: l) ⟨fr,en,cnt⟩ Q) (WFoot L l ⟨putFr fr dst (.tup []),en,cnt⟩ fun s fs => Q s ({ v := .dead } :: fs)) .mk := by
 simp only [WFoot,WStep,wanted,WGuardK,WGuard]
 split <;> rename_i h
 ·split at h
  ·rename_i b' hb; simp only [Option.some.injEq] at h; simp only [hb,h,if_true]
  ·cases h
  ·cases h
 ·split at h
  ·rename_i b' hb; simp only [Option.some.injEq] at h; simp only [hb,h,Bool.false_eq_true,if_false,true_and]
  ·rename_i hb; simp only [hb,true_and]
  ·cases h
 ·split at h
  ·cases h
  ·cases h
  ·rename_i h1 h2
   split
   ·rename_i b' hb; exact absurd hb (h1 _)
   ·rename_i hb; exact absurd hb h2
   ·rfl
theorem wf_append {x y : Opd} {size : Nat} {xs ys : List Val} {rs : List R} {D : List Nat} (hx : Mine en (St.get fr x) size xs D) (hy : elemsOf en (St.get fr y) = some (ys,rs)) (h1 : headOk size ys = true) (hrs : rs = [])
  (hl : xs.length + ys.length ≤ 16777216)
  (k : ∀ v en' cnt' r,Mine en' v size (xs ++ ys) (d :: D) → (∀ n t g,n ≠ 0 ∨ (t ≠ d ∧ t ∉ D) → en' ⟨n,t,g⟩ = en ⟨n,t,g⟩) → (∀ n t,t ≠ d → cnt' n t = cnt n t) →
   (∀ w ∈ (r : Res).ws,w.key.n = 0 ∧ (w.key.t = d ∨ w.key.t ∈ D) ∧ ∃ e,w = .ent w.key e) → (∀ ρ ∈ r.rs,ρ.key.n = 0 ∧ ρ.key.t ∈ D) → r.mem = none → WFoot L l ⟨setFr fr d v,en',cnt'⟩ fun s fs => Q s ({ r with v := .dead } :: fs)) :
  WFoot L (⟨some d,.append size x y,none⟩ :: l) ⟨fr,en,cnt⟩ Q := by
 subst hrs
 rw [wf_gen (by rfl)]
 simp only [Option.getD_some]
 rcases hx with ⟨hv,rfl⟩ | ⟨t,g,f,hv,he,ht⟩
 ·simp only [evalW,eval,hy,h1,if_true,hv]
  by_cases hys : ys.isEmpty = true
  ·have : ys = [] := by simpa using hys
   subst this
   simp only [List.isEmpty_nil,if_true,wputf_some,applyAll_nil]
   exact k _ _ _ { v := .dead } (.inl ⟨rfl,rfl⟩) (fun _ _ _ _ => rfl) (fun _ _ _ => rfl) (by simp) (by simp) rfl
  ·rw [if_neg hys,if_pos ⟨by simpa using hl,rfl⟩]
   simp only [wputf_bump,applyAll_cons,applyAll_nil,apply_ent]
   refine k _ _ _ { v := .dead,ws := [.ent ⟨0,d,cnt 0 d⟩ _],rs := [],bump := true } (.inr ⟨d,cnt 0 d,false,by simp,by simp [En.set],by simp⟩) (fun n t g h => en_ne (fun he => ?_)) (fun n t h => by simp [setCnt,h]) (by simp [W.key]) (by simp) rfl
   injection he with h3 h4 h5
   rcases h with h | ⟨h,_⟩
   ·exact h h3
   ·exact h h4
 ·simp only [evalW,eval,hy,h1,if_true,hv,he]
  rw [if_pos ⟨.inl (by simp),hl,trivial⟩]
  simp only [wputf_bump,applyAll_cons,applyAll_nil,apply_ent]
  refine k _ _ _ { v := .dead,ws := [.ent ⟨0,t,g⟩ none,.ent ⟨0,d,cnt 0 d⟩ _],rs := [.val ⟨0,t,g⟩,.flag ⟨0,t,g⟩],bump := true } (.inr ⟨d,cnt 0 d,f,by simp,?_,by simp⟩) (fun n t' g' h => ?_) (fun n t h => by simp [setCnt,h]) (by simp [W.key,ht]) (by simp [R.key,ht]) rfl
  ·simp [En.set]
  ·have e1 : (⟨n,t',g'⟩ : Key) ≠ ⟨0,d,cnt 0 d⟩ := by
    intro he; injection he with h3 h4 h5
    rcases h with h | ⟨h,_⟩
    ·exact h h3
    ·exact h h4
   have e2 : (⟨n,t',g'⟩ : Key) ≠ ⟨0,t,g⟩ := by
    intro he; injection he with h3 h4 h5
    subst h4
    rcases h with h | ⟨_,h⟩
    ·exact h h3
    ·exact h ht
   rw [en_ne e1,en_ne e2]
end
theorem apart_ew {k : Key} {e : Option Ent} {ρ : R} : apartWR (.ent k e) ρ = decide (k ≠ ρ.key) := by cases ρ <;> rfl
theorem apart_cv {k k' : Key} {o : Nat} {vs : List Val} : apartWR (.cells k o vs) (.val k') = decide (k ≠ k') := rfl
theorem apart_cf {k k' : Key} {o : Nat} {vs : List Val} : apartWR (.cells k o vs) (.flag k') = true := rfl
theorem apart_cc {k k' : Key} {o o' n : Nat} {vs : List Val} : apartWR (.cells k o vs) (.cells k' o' n) = (decide (k ≠ k') || decide (o + vs.length ≤ o') || decide (o' + n ≤ o)) := rfl
theorem apart_ee {k : Key} {e : Option Ent} {w : W} : apartWW (.ent k e) w = decide (k ≠ w.key) := by cases w <;> rfl
theorem apart_ce {k k' : Key} {o : Nat} {vs : List Val} {e : Option Ent} : apartWW (.cells k o vs) (.ent k' e) = decide (k ≠ k') := rfl
theorem apart_cw {k k' : Key} {o o' : Nat} {vs vs' : List Val} : apartWW (.cells k o vs) (.cells k' o' vs') = (decide (k ≠ k') || decide (o + vs.length ≤ o') || decide (o' + vs'.length ≤ o)) := rfl
theorem key_t {n t g n' t' g' : Nat} (h : t ≠ t') : ((⟨n,t,g⟩ : Key) ≠ ⟨n',t',g'⟩) = True := by simp [h]
attribute [go_sem] pairsOk apartRes apart_ew apart_cv apart_cf apart_cc apart_ee apart_ce apart_cw key_t W.key R.key Option.isSome_none wf_guardK
end Go.Abs
namespace Go.Abs
section
variable {P : Program} {n : Nat} {t : TypeId} {vs : List Val}
theorem fits_int {k : IntKind} (hu : P.underlying t = some (.int k)) (h : Fits P (n + 1) t vs) : ∃ i,vs = [.int k i] := by
 simp only [Fits,hu] at h
 obtain ⟨i,h,_⟩ := h; exact ⟨i,h⟩
theorem fits_str (hu : P.underlying t = some .string) (h : Fits P (n + 1) t vs) : ∃ s : ByteArray,vs = [.str s] ∧ Few s.size := by
 simp only [Fits,hu] at h
 obtain ⟨s,h,k⟩ := h
 exact ⟨s,h,by unfold Few; unfold maxLen at k; omega⟩
theorem list_of {α : Type} (enc : α → Val) (Q : α → Prop) (f : List Val → Val) : ∀ (xs : List (List Val)),(∀ x ∈ xs,∃ a,f x = enc a ∧ Q a) → ∃ l : List α,xs.map f = l.map enc ∧ l.length = xs.length ∧ ∀ a ∈ l,Q a
 | [],_ => ⟨[],rfl,rfl,by simp⟩
 | x :: xs,h => by
  obtain ⟨a,ha,hq⟩ := h x (by simp)
  obtain ⟨l,h1,h2,h3⟩ := list_of enc Q f xs fun y hy => h y (by simp [hy])
  exact ⟨a :: l,by simp [ha,h1],by simp [h2],fun b hb => by rcases List.mem_cons.1 hb with rfl | hb; exact hq; exact h3 b hb⟩
theorem fits_slice {α : Type} (enc : α → Val) (Q : α → Prop) {e : TypeId} (hu : P.underlying t = some (.slice e)) (hel : ∀ x,Fits P n e x → ∃ a,pack P e x = enc a ∧ Q a) (h : Fits P (n + 1) t vs) :
  ∃ l : List α,vs = [.fz (l.map enc)] ∧ Few l.length ∧ ∀ a ∈ l,Q a := by
 simp only [Fits,hu] at h
 obtain ⟨xs,h,hl,hx⟩ := h
 obtain ⟨l,h1,h2,h3⟩ := list_of enc Q (pack P e) xs fun x hm => hel x (hx x hm)
 exact ⟨l,by rw [h,h1],by rw [h2]; unfold Few; unfold maxLen at hl; omega,h3⟩
theorem fits_struct {fs : Array Field} (hu : P.underlying t = some (.struct fs)) (h : Fits P (n + 1) t vs) : FitsFs P (Fits P n) fs.toList vs := by
 simp only [Fits,hu] at h; exact h
theorem fitsFs_mono {F F' : TypeId → List Val → Prop} (h : ∀ t vs,F t vs → F' t vs) : ∀ (fs : List Field) (vs : List Val),FitsFs P F fs vs → FitsFs P F' fs vs
 | [],vs,k => k
 | f :: fs,vs,⟨a,b,h1,h2,h3,h4⟩ => ⟨a,b,h1,h2,h _ _ h3,fitsFs_mono h fs b h4⟩
theorem fits_mono : ∀ (n : Nat) (t : TypeId) (vs : List Val),Fits P n t vs → Fits P (n + 1) t vs
 | 0,t,vs,h => by simp [Fits] at h
 | n + 1,t,vs,h => by
  rw [Fits] at h ⊢
  split
  ·rename_i hu; rw [hu] at h; exact h
  ·rename_i hu; rw [hu] at h; exact h
  ·rename_i hu; rw [hu] at h; exact h
  ·rename_i hu; rw [hu] at h
   obtain ⟨xs,h1,h2,h3⟩ := h
   exact ⟨xs,h1,h2,fun x hx => fits_mono n _ _ (h3 x hx)⟩
  ·rename_i hu; rw [hu] at h; exact fitsFs_mono (fits_mono n) _ _ h
  ·trivial
theorem fits_more (k : Nat) (h : Fits P n t vs) : Fits P (n + k) t vs := by
 induction k with
 | zero => exact h
 | succ k ih => exact fits_mono _ _ _ ih
theorem agg_of_reads {w : World} {x : Array Value} (h : Reads w vs x.toList) : VR (There w) Gh.none w (.agg vs) (.agg x) := by
 have e : ∀ i,x.getD i undef = x.toList.getD i undef := by
  intro i; simp [Array.getD_eq_getD_getElem?,List.getD_eq_getElem?_getD]
 have hl : vs.length = x.size := by simpa using h.1
 refine .agg vs x hl.symm (fun i hi => ?_) fun i hi => ?_
 ·rw [e]; exact (h.2 i (by rw [Array.length_toList]; omega)).1
 ·rw [e]; exact (h.2 i (by rw [Array.length_toList]; omega)).2
end
end Go.Abs
namespace Go.Abs
def grownQ (P : Program) : Nat → List TypeId → List TypeId
 | 0,s => s
 | d + 1,s => if P.grow s == s then s else grownQ P d (P.grow s)
theorem grown_fix {P : Program} {s : List TypeId} (h : P.grow s = s) : ∀ d,P.grown d s = s
 | 0 => rfl
 | d + 1 => by rw [Program.grown,h]; exact grown_fix h d
theorem grownQ_eq (P : Program) : ∀ (d : Nat) (s : List TypeId),P.grown d s = grownQ P d s
 | 0,s => rfl
 | d + 1,s => by
  rw [grownQ]
  by_cases h : (P.grow s == s) = true
  ·rw [if_pos h]; exact grown_fix (eq_of_beq h) _
  ·rw [if_neg h,Program.grown]; exact grownQ_eq P d _
theorem book_q (P : Program) (t : TypeId) : P.book t = grownQ P P.types.size [t] := grownQ_eq P _ _
end Go.Abs
