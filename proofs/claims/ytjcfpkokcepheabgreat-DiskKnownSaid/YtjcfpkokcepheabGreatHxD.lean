/- The interpreter of the translated code, and its proof: part D. -/
import Derived.Test.YtjcfpkokcepheabGreatHxC
import Derived.IntWalk
import Derived.JoinedOf
import Derived.KernelRfl
set_option linter.all false
namespace Go.Abs
def PC (L : Prog) (f : Nat) (args : List Val) (r : Val) : Prop := ∃ n0,∀ n,n0 ≤ n → pcall L n f args = some r
def Ev (L : Prog) (c : LCode) (st : St) (e : Ex) (st' : St) : Prop := ∃ n0,∀ n,n0 ≤ n → exec L n c st = some (e,st')
def WIn (L : Prog) (f : Val) (args : List Val) (en : En) (cnt : Nat → Nat → Nat) (Q : Val → En → (Nat → Nat → Nat) → Prop) : Prop :=
 ∃ v en' cnt',(∃ n0,∀ n,n0 ≤ n → ∀ fr,(inlOf L (exec L n)).call f args ⟨fr,en,cnt⟩ = some (v,⟨fr,en',cnt'⟩)) ∧ Q v en' cnt'
theorem WIn.mono {L : Prog} {f : Val} {args : List Val} {en : En} {cnt : Nat → Nat → Nat} {Q R : Val → En → (Nat → Nat → Nat) → Prop}
  (h : WIn L f args en cnt Q) (k : ∀ v en' cnt',Q v en' cnt' → R v en' cnt') : WIn L f args en cnt R := by
 obtain ⟨v,en',cnt',h1,h2⟩ := h; exact ⟨v,en',cnt',h1,k _ _ _ h2⟩
theorem PC.det {L : Prog} {f : Nat} {args : List Val} {r s : Val} (h : PC L f args r) (k : PC L f args s) : s = r := by
 obtain ⟨n,h⟩ := h; obtain ⟨m,k⟩ := k
 have h1 := h (max n m) (by omega); have h2 := k (max n m) (by omega)
 rw [h1] at h2; cases h2; rfl
theorem PC.is {L : Prog} {f : Nat} {args : List Val} {r s : Val} (h : PC L f args r) : PC L f args s ↔ s = r :=
 ⟨fun k => h.det k,fun e => e ▸ h⟩
def noCall : CallFn := fun _ _ => none
def snapD : Nat → En → Val → Option (Val × List Key)
 | 0,_,_ => none
 | n + 1,en,v =>
  match v with
  | .ptr k off => match en k with
   | some (.box cs _) => match mapO (snapD n en) cs with
    | some rs => some (.fp (rs.map (·.1)) off,k :: rs.flatMap (·.2))
    | none => none
   | _ => none
  | .ep k i off => match en k with
   | some (.blk _ xs _) => if k.deep then none else match xs[i]? with
    | some x => some (.fp x.cells off,[k])
    | none => none
   | _ => none
  | .bl k off len => match en k with
   | some (.blk _ xs _) => if k.deep then none else if off + len ≤ xs.length then some (.fz ((xs.drop off).take len),[k]) else none
   | _ => none
  | .mp k => match en k with
   | some (.map ks vs _) => some (.fm ks vs,[k])
   | _ => none
  | .yld _ | .it _ | .sl _ _ _ => none
  | .fn f a b => match mapO (snapD n en) a with
   | some x => match mapO (snapD n en) b with
    | some y => some (.fn f (x.map (·.1)) (y.map (·.1)),x.flatMap (·.2) ++ y.flatMap (·.2))
    | none => none
   | none => none
  | .ifc t v => match snapD n en v with
   | some r => some (.ifc t r.1,r.2)
   | none => none
  | .agg cs => match mapO (snapD n en) cs with
   | some rs => some (.agg (rs.map (·.1)),rs.flatMap (·.2))
   | none => none
  | .tup vs => match mapO (snapD n en) vs with
   | some rs => some (.tup (rs.map (·.1)),rs.flatMap (·.2))
   | none => none
  | v => some (v,[])
def evalW (d g : Nat) (en : En) (get : Opd → Val) : LOp → Option Res
 | .bslice len size z parts =>
  if len * size ≤ 16777216 then
   match mapO (fun p => match snapD 8 en (get p.2) with | some r => some ((p.1,r.1.wk1),r.2) | none => none) parts with
   | some ps => match fillElems (List.replicate len (ofZero size z false)) size (ps.map (·.1)) with
    | some xs => some { v := .cl xs,ws := (ps.flatMap (·.2)).map .frz,rs := (ps.flatMap (·.2)).map .val }
    | none => none
   | none => none
  else none
 | .store m a x =>
  let v := get x
  if v.one = true ∧ v.cells.length = m then
   match get a with
   | .ptr k off => match en k with
    | some (.box cs false) => if off + m ≤ cs.length then some { v := .tup [],ws := [.cells k off v.cells],rs := [.flag k] } else none
    | _ => none
   | .ep k i off => match en k with
    | some (.blk _ xs false) => match xs[i]? with
     | some y => if off + m ≤ y.cells.length then
       if k.deep then none else
       match snapD 8 en v with
       | some (v',ks) => if v'.one = true ∧ v'.cells.length = m ∧ ks.all (fun k' => decide (k' ≠ k)) = true then some { v := .tup [],ws := ks.map .frz ++ [.elem k i off v'.wk1.cells],rs := .val k :: .flag k :: ks.map .val } else none
       | none => none
      else none
     | none => none
    | _ => none
   | _ => none
  else none
 | .call _ _ | .icall _ _ | .appendD .. | .bsliceK .. => none
 | op => eval 8 noCall 0 d g en get op
def WOp (L : Prog) (d g : Nat) (en : En) (get : Opd → Val) (op : LOp) (K : Res → Prop) : Prop :=
 match op with
 | .call f args => match get f with
  | .fn f a b => match mapO (snapD 8 en) (a ++ args.map get ++ b) with
   | some rs => ∃ r,PC L f (rs.map (·.1.wk1)) r ∧ K (callRes 0 d g r (rs.flatMap (·.2)))
   | none => False
  | _ => False
 | op => match evalW d g en get op with
  | some r => K r
  | none => False
def WStep (L : Prog) (st : St) (o : LOper) (K : St → Res → Prop) : Prop :=
 match wanted st.fr o.guard with
 | some true => match o.op with
  | .icall f args => WIn L (St.get st.fr f) (args.map (St.get st.fr)) st.en st.cnt fun v en' cnt' => K ⟨putFr st.fr o.dst v,en',cnt'⟩ { v,mem := some (en',cnt'),unch := fun k => sameE (st.en k) (en' k) }
  | op => WOp L (o.dst.getD 0) (st.cnt 0 (o.dst.getD 0)) st.en (St.get st.fr) op fun r => (r.bump && o.dst.isNone) = false ∧
    K ⟨putFr st.fr o.dst r.v,W.applyAll st.en r.ws,if r.bump then setCnt st.cnt 0 (o.dst.getD 0) (st.cnt 0 (o.dst.getD 0) + 1) else st.cnt⟩ r
 | some false => K ⟨putFr st.fr o.dst (.tup []),st.en,st.cnt⟩ { v := .tup [] }
 | none => False
def WOps (L : Prog) : List LOper → St → (St → Prop) → Prop
 | [],st,Q => Q st
 | o :: l,st,Q => WStep L st o fun st' _ => WOps L l st' Q
def WRec (L : Prog) : List LOper → St → (St → List Res → Prop) → Prop
 | [],st,Q => Q st []
 | o :: l,st,Q => WStep L st o fun st' r => WRec L l st' fun st'' rs => Q st'' (r :: rs)
def PX (L : Prog) (f : Nat) (args : List Val) (v : Val) : Prop := ∃ n0,∀ n,n0 ≤ n → ppan L n f args = some v
def WPan (L : Prog) (f : Nat) (args : List Val) (en : En) (cnt : Nat → Nat → Nat) (Q : Val → En → (Nat → Nat → Nat) → Prop) : Prop :=
 ∃ v en' cnt',(∃ n0,∀ n,n0 ≤ n → ∀ fr,panIn L (exec L n) f args ⟨fr,en,cnt⟩ = some (v,⟨fr,en',cnt'⟩)) ∧ Q v en' cnt'
theorem WPan.mono {L : Prog} {f : Nat} {args : List Val} {en : En} {cnt : Nat → Nat → Nat} {Q R : Val → En → (Nat → Nat → Nat) → Prop}
  (h : WPan L f args en cnt Q) (k : ∀ v en' cnt',Q v en' cnt' → R v en' cnt') : WPan L f args en cnt R := by
 obtain ⟨v,en',cnt',h1,h2⟩ := h; exact ⟨v,en',cnt',h1,k _ _ _ h2⟩
def WPanO (L : Prog) (o : LOper) (st : St) (K : Val → St → Prop) : Prop :=
 match wanted st.fr o.guard with
 | some true => match o.op with
  | .panic x => match St.get st.fr x with
   | .ifc t u => (Val.ifc t u).flat = true ∧ K (.ifc t u) st
   | _ => False
  | .call f args => match f.noM,St.get st.fr f with
   | true,.fn f a b => match mapO (snapD 8 st.en) (a ++ args.map (St.get st.fr) ++ b) with
    | some rs => ∃ v,PX L f (rs.map (·.1.wk1)) v ∧ K v st
    | none => False
   | _,_ => False
  | .icall f args => match St.get st.fr f with
   | .fn f a b => WPan L f (a ++ args.map (St.get st.fr) ++ b) st.en st.cnt fun v en' cnt' => K v ⟨st.fr,en',cnt'⟩
   | _ => False
  | _ => False
 | _ => False
def loopKey (cnt : Nat → Nat → Nat) : Key := ⟨1,0,cnt 1 0⟩
def Wp (L : Prog) : LCode → St → (Ex → St → Prop) → Prop
 | .skip,st,Q => Q .normal st
 | .ops l,st,Q => WOps L l st (Q .normal)
 | .draw l pairs,st,Q => if pairs = [] then WOps L l st (Q .normal) else WRec L l st fun st' rs => pairsOk rs pairs = true ∧ Q .normal st'
 | .seq a b,st,Q => Wp L a st fun e st' => match e with
  | .normal => Wp L b st' Q
  | .exit i => Q (.exit i) st'
  | .ret => Q .ret st'
  | .panic v => Q (.panic v) st'
 | .cond x a b,st,Q => match St.get st.fr x with
  | .bool t => if t = true then Wp L a st Q else Wp L b st Q
  | _ => False
 | .block id b,st,Q => Wp L b st fun e st' => match e with
  | .exit id' => if id' = id then Q .normal st' else Q (.exit id') st'
  | .normal => Q .normal st'
  | .ret => Q .ret st'
  | .panic v => Q (.panic v) st'
 | .loop b,st,Q => ∃ e st',Ev L (.loop b) st e st' ∧ Q e st'
 | .exit id,st,Q => Q (.exit id) st
 | .ret,st,Q => Q .ret st
 | .rangeF g ps a b,st,Q =>
  match St.get st.fr g with
  | .fn f x y => (WIn L (.fn f x y) [.yld (loopKey st.cnt)] (st.en.set (loopKey st.cnt) (some (.loop st.fr ps a b .ready))) (setCnt st.cnt 1 0 (st.cnt 1 0 + 1)) fun _ en' cnt' =>
   match en' (loopKey st.cnt) with
   | some (.loop _ _ _ _ .ready) => Q .normal ⟨st.fr,en'.set (loopKey st.cnt) none,cnt'⟩
   | some (.loop _ _ _ _ (.done e)) => Q e ⟨st.fr,en'.set (loopKey st.cnt) none,cnt'⟩
   | _ => False) ∨ WPan L f (x ++ [.yld (loopKey st.cnt)] ++ y) (st.en.set (loopKey st.cnt) (some (.loop st.fr ps a b .ready))) (setCnt st.cnt 1 0 (st.cnt 1 0 + 1)) fun v en' cnt' => Q (.panic v) ⟨st.fr,en'.set (loopKey st.cnt) none,cnt'⟩
  | _ => False
 | .opsP l,st,Q => WOps L l st (Q .normal) ∨ ∃ k o,l[k]? = some o ∧ WOps L (l.take k) st fun st1 => WPanO L o st1 fun v st2 => Q (.panic v) st2
 | .drawP l an pairs,st,Q => (WRec L l st fun st' rs => pairsOk rs pairs = true ∧ Q .normal st') ∨
   ∃ j o,l[j]? = some o ∧ (WOps L (l.take j) st fun s => WPanO L o s fun _ _ => True) ∧ WRec L (cutAt an j l) st fun st1 rs => (pairsOk rs pairs && stillBut an j l rs) = true ∧
    WPanO L o st1 fun v st2 => Q (.panic v) ⟨fun t => if dstIn l t then .tup [] else st2.fr t,st2.en,st2.cnt⟩
 | .drawL l an pairs A,st,Q => (WRec L (lateL A (lateKey st (l.getD A default)) l) (lateS (lateKey st (l.getD A default)) (lateZ (l.getD A default).op) st) fun st' rs => (pairsOk rs pairs && leftOk an A (lateKey st (l.getD A default)) rs) = true ∧ Q .normal st') ∨
   ∃ j o,(lateL A (lateKey st (l.getD A default)) l)[j]? = some o ∧ (WOps L ((lateL A (lateKey st (l.getD A default)) l).take j) (lateS (lateKey st (l.getD A default)) (lateZ (l.getD A default).op) st) fun s => WPanO L o s fun _ _ => True) ∧
    WRec L (cutAt an j (lateL A (lateKey st (l.getD A default)) l)) (lateS (lateKey st (l.getD A default)) (lateZ (l.getD A default).op) st) fun st1 rs => ((pairsOk rs pairs && stillBut an j (lateL A (lateKey st (l.getD A default)) l) rs) && leftOk an A (lateKey st (l.getD A default)) rs) = true ∧
    WPanO L o st1 fun v st2 => Q (.panic v) ⟨fun t => if dstIn (lateL A (lateKey st (l.getD A default)) l) t then .tup [] else st2.fr t,st2.en,st2.cnt⟩
 | .dfr ts l f args b,st,Q => WOps L l st fun st2 => Wp L b st2 fun e st3 => ts.any (fun t => (st3.fr t).isUndef) = false ∧
   ∃ st4,(∃ n0,∀ n,n0 ≤ n → deferWith L (exec L n) (St.get st2.fr f) (args.map (St.get st2.fr)) e st3 = some st4) ∧ Q .ret st4
 | .rcv _ _ _,_,_ => False
def WRes (st : St) (lf : LFunc) (r : Val) : Prop :=
 match mapO (readRes st) lf.res with
 | some vs => match (if lf.keep then ownOf st.en (tupOf vs) else none) with
  | some v => v = r
  | none => match snapD 8 st.en (tupOf vs) with
   | some (v,_) => (if lf.keep then v else v.wk) = r
   | none => False
 | none => False
theorem pc_run {L : Prog} {n f : Nat} {args : List Val} {r : Val} (h : pcall L n f args = some r) : PC L f args r := ⟨n,fun _ hm => pcall_le hm h⟩
end Go.Abs
namespace Go.Abs
def orC (m c : CallFn) : CallFn := fun f a => match m f a with
 | some r => some r
 | none => c f a
def unC (m c : CallFn) : CallFn := fun f a => match m f a with
 | some _ => none
 | none => c f a
def execM (L : Prog) (m : CallFn) : Nat → LCode → St → Option (Ex × St)
 | 0 => fun _ _ => none
 | n + 1 => stepX L (execM L m n) (orC m (callWith L 8 (execM L m n))) (unC m (panWith L (execM L m n)))
theorem execM_le {L : Prog} {m : CallFn} {N : Nat} (hm : CLe m (pcall L N)) : ∀ n,XLe (execM L m n) (exec L (N + n))
 | 0 => fun c s r h => by simp [execM] at h
 | n + 1 => by
  have ih := execM_le hm n
  rw [show N + (n + 1) = (N + n) + 1 from rfl,exec_succ]
  refine step_le ih (fun f a r h => ?_) (fun f a r h => ?_)
  ·unfold orC at h
   split at h
   ·rename_i hq
    cases h
    exact pcall_le (by omega) (hm _ _ _ hq)
   ·exact call_mono ih _ _ _ h
  ·unfold unC at h
   split at h
   ·cases h
   ·exact pan_mono ih _ _ _ h
structure Known1 where
 f : Nat
 a : List Val
 r : Val
def memo : List Known1 → CallFn
 | [],_,_ => none
 | e :: l,f,a => if e.f = f then (if sameL (sameV 50) e.a a = true then some e.r else memo l f a) else memo l f a
def Knows (L : Prog) (l : List Known1) : Prop := ∃ N,CLe (memo l) (pcall L N)
theorem Knows.nil {L : Prog} : Knows L [] := ⟨0,fun _ _ _ h => by simp [memo] at h⟩
theorem Knows.pc {L : Prog} {l : List Known1} (h : Knows L l) {n f : Nat} {a : List Val} {r : Val} (hr : callWith L 8 (execM L (memo l) n) f a = some r) : PC L f a r := by
 obtain ⟨N,hN⟩ := h
 exact pc_run (call_mono (execM_le hN n) _ _ _ hr)
theorem Knows.add {L : Prog} {l : List Known1} (h : Knows L l) {f : Nat} {a : List Val} {r : Val} (hr : PC L f a r) : Knows L (⟨f,a,r⟩ :: l) := by
 obtain ⟨N,hN⟩ := h
 obtain ⟨M,hM⟩ := hr
 refine ⟨N + M,fun g b q hq => ?_⟩
 simp only [memo] at hq
 split at hq
 ·rename_i e1
  split at hq
  ·rename_i e2
   cases hq
   subst e1
   cases sameL_eq (sameV_eq 50) e2
   exact hM _ (by omega)
  ·exact pcall_le (by omega) (hN _ _ _ hq)
 ·exact pcall_le (by omega) (hN _ _ _ hq)
theorem Knows.step {L : Prog} {e : Known1} {l : List Known1} (h : Knows L l) (hr : callWith L 8 (execM L (memo l) 1000) e.f e.a = some e.r) : Knows L (e :: l) := h.add (h.pc hr)
theorem Knows.one {L : Prog} {e : Known1} {l : List Known1} (h : Knows L (e :: l)) : Knows L [e] := by
 obtain ⟨N,hN⟩ := h
 refine ⟨N,fun f a r hr => hN f a r ?_⟩
 simp only [memo] at hr ⊢
 split at hr
 ·rename_i e1
  split at hr
  ·rename_i e2; rw [if_pos e1,if_pos e2]; exact hr
  ·cases hr
 ·cases hr
end Go.Abs
namespace Go.Abs
inductive Tr (α : Type) where
 | lf
 | nd (l : Tr α) (v : Option α) (r : Tr α)
namespace Tr
variable {α : Type}
def get : Tr α → Nat → Option α
 | lf,_ => none
 | nd l v r,n => if n = 0 then v else if n % 2 = 1 then l.get (n / 2) else r.get (n / 2 - 1)
def sub : Tr α → Tr α × Option α × Tr α
 | lf => (lf,none,lf)
 | nd l v r => (l,v,r)
def put : Nat → Tr α → Nat → Option α → Tr α
 | 0,t,_,_ => t
 | f + 1,t,n,x =>
  if n = 0 then nd t.sub.1 x t.sub.2.2
  else if n % 2 = 1 then nd (put f t.sub.1 (n / 2) x) t.sub.2.1 t.sub.2.2
  else nd t.sub.1 t.sub.2.1 (put f t.sub.2.2 (n / 2 - 1) x)
theorem get_sub (t : Tr α) (n : Nat) : t.get n = if n = 0 then t.sub.2.1 else if n % 2 = 1 then t.sub.1.get (n / 2) else t.sub.2.2.get (n / 2 - 1) := by
 cases t with
 | lf => simp [get,sub]
 | nd l v r => rfl
theorem get_put : ∀ (f : Nat) (t : Tr α) (n : Nat) (x : Option α) (m : Nat),n < f → (put f t n x).get m = if m = n then x else t.get m
 | 0,_,_,_,_,h => by omega
 | f + 1,t,n,x,m,h => by
  rw [get_sub t m]
  simp only [put]
  split
  ·rename_i h0; subst h0
   simp only [get]
   by_cases hm : m = 0 <;> simp [hm]
  ·rename_i h0
   split
   ·rename_i h1
    simp only [get]
    by_cases hm : m = 0
    ·subst hm; simp; omega
    ·by_cases h2 : m % 2 = 1
     ·simp only [hm,h2,if_false,if_true]
      rw [get_put f _ _ _ _ (by omega)]
      by_cases e : m = n
      ·subst e; simp
      ·rw [if_neg e,if_neg (by omega)]
     ·simp only [hm,h2,if_false]
      rw [if_neg (by rintro rfl; omega)]
   ·rename_i h1
    simp only [get]
    by_cases hm : m = 0
    ·subst hm; simp; omega
    ·by_cases h2 : m % 2 = 1
     ·simp only [hm,h2,if_false,if_true]
      rw [if_neg (by rintro rfl; omega)]
     ·simp only [hm,h2,if_false]
      rw [get_put f _ _ _ _ (by omega)]
      by_cases e : m = n
      ·subst e; simp
      ·rw [if_neg e,if_neg (by omega)]
end Tr
structure FFr where
 t : Tr Val
 d : Val
def FFr.fn (f : FFr) : Nat → Val := fun i => (f.t.get i).getD f.d
def FFr.set (f : FFr) (i : Nat) (v : Val) : FFr := ⟨f.t.put (i + 1) i (some v),f.d⟩
theorem FFr.set_fn (f : FFr) (i : Nat) (v : Val) : (f.set i v).fn = setFr f.fn i v := by
 funext j
 simp only [FFr.fn,FFr.set,setFr,Tr.get_put _ _ _ _ _ (Nat.lt_succ_self i)]
 by_cases e : j = i <;> simp [e]
def FFr.ofArgs : List Val → Nat → FFr → FFr
 | [],_,f => f
 | v :: vs,i,f => FFr.ofArgs vs (i + 1) (f.set i v)
theorem FFr.ofArgs_fn : ∀ (vs : List Val) (i : Nat) (f : FFr) (j : Nat),(FFr.ofArgs vs i f).fn j = if i ≤ j ∧ j < i + vs.length then vs.getD (j - i) .dead else f.fn j
 | [],i,f,j => by
  simp only [FFr.ofArgs,List.length_nil,Nat.add_zero]
  rw [if_neg (by omega)]
 | v :: vs,i,f,j => by
  simp only [FFr.ofArgs,FFr.ofArgs_fn vs,FFr.set_fn,setFr,List.length_cons]
  by_cases e : j = i
  ·subst e
   rw [if_neg (by omega),if_pos rfl,if_pos (by omega)]; simp
  ·rw [if_neg e]
   by_cases h : i + 1 ≤ j ∧ j < i + 1 + vs.length
   ·rw [if_pos h,if_pos (by omega)]
    obtain ⟨k,rfl⟩ : ∃ k,j = i + 1 + k := ⟨j - (i + 1),by omega⟩
    rw [show i + 1 + k - (i + 1) = k by omega,show i + 1 + k - i = k + 1 by omega]; rfl
   ·rw [if_neg h,if_neg (by omega)]
def FFr.start (args : List Val) : FFr := FFr.ofArgs args 0 ⟨.lf,.tup []⟩
theorem FFr.start_fn (args : List Val) : (FFr.start args).fn = fun i => args.getD i (.tup []) := by
 funext j
 simp only [FFr.start,FFr.ofArgs_fn,Nat.zero_le,true_and,Nat.zero_add,Nat.sub_zero]
 split
 ·rename_i h; simp [List.getD_eq_getElem?_getD,h]
 ·rename_i h; simp [FFr.fn,Tr.get,List.getD_eq_getElem?_getD,List.getElem?_eq_none (Nat.le_of_not_lt h)]
def FFr.dead : FFr := ⟨.lf,.dead⟩
theorem FFr.dead_fn : FFr.dead.fn = fun _ => .dead := rfl
inductive FEnt where
 | pl (x : Ent)
 | loop (fr : FFr) (ps : List Nat) (a b : LCode) (s : LSt)
def FEnt.un : FEnt → Ent
 | .pl x => x
 | .loop fr ps a b s => .loop fr.fn ps a b s
structure FEn where
 t : Tr (Tr (Tr FEnt))
def FEn.get (en : FEn) (k : Key) : Option FEnt := ((en.t.get k.n).getD .lf |>.get k.t).getD .lf |>.get k.g
def FEn.put (en : FEn) (k : Key) (x : Option FEnt) : FEn :=
 let a := (en.t.get k.n).getD .lf
 let b := (a.get k.t).getD .lf
 ⟨en.t.put (k.n + 1) k.n (some (a.put (k.t + 1) k.t (some (b.put (k.g + 1) k.g x))))⟩
def FEn.fn (en : FEn) : En := fun k => (en.get k).map FEnt.un
theorem FEn.get_put (en : FEn) (k : Key) (x : Option FEnt) (k' : Key) : (en.put k x).get k' = if k' = k then x else en.get k' := by
 obtain ⟨n,t,g⟩ := k
 obtain ⟨n',t',g'⟩ := k'
 simp only [FEn.get,FEn.put,Tr.get_put _ _ _ _ _ (Nat.lt_succ_self _),Key.mk.injEq]
 by_cases e1 : n' = n
 ·subst e1
  simp only [if_true,Option.getD_some,Tr.get_put _ _ _ _ _ (Nat.lt_succ_self _),true_and]
  by_cases e2 : t' = t
  ·subst e2
   simp only [if_true,Option.getD_some,Tr.get_put _ _ _ _ _ (Nat.lt_succ_self _),true_and]
  ·simp [e2]
 ·simp [e1]
theorem FEn.put_fn (en : FEn) (k : Key) (x : Option FEnt) : (en.put k x).fn = en.fn.set k (x.map FEnt.un) := by
 funext k'
 simp only [FEn.fn,FEn.get_put,En.set]
 split <;> rfl
structure FCnt where
 t : Tr (Tr Nat)
def FCnt.fn (c : FCnt) : Nat → Nat → Nat := fun n t => (((c.t.get n).getD .lf).get t).getD 0
def FCnt.put (c : FCnt) (n t x : Nat) : FCnt := ⟨c.t.put (n + 1) n (some (((c.t.get n).getD .lf).put (t + 1) t (some x)))⟩
theorem FCnt.put_fn (c : FCnt) (n t x : Nat) : (c.put n t x).fn = setCnt c.fn n t x := by
 funext n' t'
 simp only [FCnt.fn,FCnt.put,setCnt,Tr.get_put _ _ _ _ _ (Nat.lt_succ_self _)]
 by_cases e1 : n' = n
 ·subst e1
  simp only [if_true,Option.getD_some,Tr.get_put _ _ _ _ _ (Nat.lt_succ_self _),true_and]
  by_cases e2 : t' = t <;> simp [e2]
 ·simp [e1]
structure FSt where
 fr : FFr
 en : FEn
 cnt : FCnt
def FSt.st (s : FSt) : St := { fr := s.fr.fn,en := s.en.fn,cnt := s.cnt.fn }
def overQ : List Val → List Val → List Val
 | cs,[] => cs
 | [],_ :: _ => []
 | _ :: cs,v :: vs => v :: overQ cs vs
def setQ : List Val → Nat → List Val → List Val
 | cs,0,vs => overQ cs vs
 | [],_ + 1,_ => []
 | c :: cs,n + 1,vs => c :: setQ cs n vs
theorem setC_nil : ∀ (n : Nat) (vs : List Val),setCells [] n vs = []
 | _,[] => rfl
 | n,_ :: vs => by simp only [setCells,List.set_nil]; exact setC_nil _ vs
theorem setC_succ (c : Val) : ∀ (vs cs : List Val) (n : Nat),setCells (c :: cs) (n + 1) vs = c :: setCells cs n vs
 | [],_,_ => rfl
 | v :: vs,cs,n => by simp only [setCells,List.set_cons_succ]; exact setC_succ c vs _ _
theorem overQ_eq : ∀ cs vs : List Val,overQ cs vs = setCells cs 0 vs
 | _,[] => by simp [overQ,setCells]
 | [],v :: vs => by rw [setC_nil]; rfl
 | c :: cs,v :: vs => by simp only [overQ,setCells,List.set_cons_zero]; rw [setC_succ,overQ_eq cs vs]
theorem setQ_eq : ∀ (cs : List Val) (n : Nat) (vs : List Val),setQ cs n vs = setCells cs n vs
 | cs,0,vs => by simp only [setQ]; exact overQ_eq cs vs
 | [],n + 1,vs => by rw [setC_nil]; rfl
 | c :: cs,n + 1,vs => by simp only [setQ]; rw [setC_succ,setQ_eq cs n vs]
def fillQ : List Val → List (Nat × Nat × Val) → Option (List Val)
 | cs,[] => some cs
 | cs,(off,size,v) :: rest =>
  if v.one = true ∧ v.cells.length = size ∧ off + size ≤ cs.length then fillQ (setQ cs off v.cells) rest else none
theorem fillQ_eq : ∀ (ps : List (Nat × Nat × Val)) (cs : List Val),fillQ cs ps = fillIn cs ps
 | [],_ => rfl
 |(off,size,v) :: rest,cs => by simp only [fillQ,fillIn,setQ_eq,fillQ_eq rest]
def evalQ (n : Nat) (call : CallFn) (me d g : Nat) (en : En) (get : Opd → Val) : LOp → Option Res
 | .build z parts => (fillQ z (parts.map fun p => (p.1,p.2.1,get p.2.2))).map fun cs => { v := .agg cs }
 | op => eval n call me d g en get op
theorem evalQ_eq (n : Nat) (call : CallFn) (me d g : Nat) (en : En) (get : Opd → Val) (op : LOp) : evalQ n call me d g en get op = eval n call me d g en get op := by
 cases op <;> first | rfl | (simp only [evalQ,eval,fillQ_eq])
def W.fapply (en : FEn) : W → FEn
 | .ent k none => en.put k none
 | .ent k (some e) => en.put k (some (.pl e))
 | .cells k off vs => match en.get k with
  | some (.pl (.box cs f)) => en.put k (some (.pl (.box (setQ cs off vs) f)))
  | _ => en
 | .elem k i off vs => match en.get k with
  | some (.pl (.blk sz xs f)) => match xs[i]? with
   | some x => en.put k (some (.pl (.blk sz (xs.set i (putCells x off vs)) f)))
   | none => en
  | _ => en
 | .frz k => match en.get k with
  | some (.pl e) => en.put k (some (.pl e.freeze))
  | _ => en
def W.fapplyAll (en : FEn) (ws : List W) : FEn := ws.foldl W.fapply en
theorem set_same {en : En} {k : Key} {e : Option Ent} (h : en k = e) : en.set k e = en := by
 funext k'; simp only [En.set]; split
 ·rename_i h'; rw [h',h]
 ·rfl
theorem W.fapply_fn (en : FEn) (w : W) : (W.fapply en w).fn = W.apply en.fn w := by
 have hf : ∀ k,en.fn k = (en.get k).map FEnt.un := fun _ => rfl
 cases w with
 | ent k e => cases e <;> simp only [W.fapply,W.apply,FEn.put_fn] <;> rfl
 | cells k off vs =>
  simp only [W.fapply,W.apply,hf]
  cases h : en.get k with
  | none => rfl
  | some x => cases x with
   | loop => rfl
   | pl e => cases e <;> first | rfl | (simp only [Option.map_some,FEnt.un,FEn.put_fn,setQ_eq])
 | elem k i off vs =>
  simp only [W.fapply,W.apply,hf]
  cases h : en.get k with
  | none => rfl
  | some x => cases x with
   | loop => rfl
   | pl e => cases e with
    | blk sz xs f => simp only [Option.map_some,FEnt.un]; cases hx : xs[i]? <;> simp only [FEn.put_fn,Option.map_some,FEnt.un]
    | _ => rfl
 | frz k =>
  simp only [W.fapply,W.apply,hf]
  cases h : en.get k with
  | none => rfl
  | some x => cases x with
   | loop fr ps a b s => simp only [Option.map_some,FEnt.un,Ent.freeze]; exact (set_same (by rw [hf,h]; rfl)).symm
   | pl e => simp only [Option.map_some,FEnt.un,FEn.put_fn]
theorem W.fapplyAll_fn (ws : List W) : ∀ (en : FEn),(W.fapplyAll en ws).fn = W.applyAll en.fn ws := by
 induction ws with
 | nil => intro en; rfl
 | cons w ws ih => intro en; simp only [W.fapplyAll,W.applyAll,List.foldl_cons] at ih ⊢; rw [ih,W.fapply_fn]
structure FInl where
 fn : Nat → List Val → FSt → Option (Val × FSt)
 yld : Key → List Val → FSt → Option (Val × FSt)
def FInl.call (io : FInl) (f : Val) (args : List Val) (st : FSt) : Option (Val × FSt) :=
 match f with
 | .fn f a b => io.fn f (a ++ args ++ b) st
 | .yld k => io.yld k args st
 | _ => Option.none
def FFr.put (fr : FFr) (dst : Option Nat) (v : Val) : FFr :=
 match dst with
 | some d => fr.set d v
 | none => fr
theorem FFr.put_fn (fr : FFr) (dst : Option Nat) (v : Val) : (fr.put dst v).fn = putFr fr.fn dst v := by
 cases dst <;> simp [FFr.put,putFr,FFr.set_fn]
def fstep (call : CallFn) (io : FInl) (st : FSt) (o : LOper) : Option (FSt × Res) :=
 match wanted st.fr.fn o.guard with
 | some false => some ({ st with fr := st.fr.put o.dst (.tup []) },{ v := .tup [] })
 | some true =>
  match o.op with
  | .icall f args => match io.call (St.get st.fr.fn f) (args.map (St.get st.fr.fn)) { st with fr := .dead } with
   | some (v,st') => some ({ fr := st.fr.put o.dst v,en := st'.en,cnt := st'.cnt },{ v,mem := some (st'.en.fn,st'.cnt.fn),unch := fun k => sameE (st.en.fn k) (st'.en.fn k) })
   | none => none
  | op =>
   let d := o.dst.getD 0
   match evalQ 8 call (op.me 0) d (st.cnt.fn (op.me 0) d) st.en.fn (St.get st.fr.fn) op with
   | some r =>
    if r.bump && o.dst.isNone then none else
    some ({ fr := st.fr.put o.dst r.v,en := W.fapplyAll st.en r.ws,cnt := if r.bump then st.cnt.put (op.me 0) d (st.cnt.fn (op.me 0) d + 1) else st.cnt },r)
   | none => none
 | none => none
def frunOps (call : CallFn) (io : FInl) : List LOper → FSt → Option FSt
 | [],st => some st
 | o :: l,st => match fstep call io st o with
  | some (st',_) => frunOps call io l st'
  | none => none
def frunRec (call : CallFn) (io : FInl) : List LOper → FSt → Option (FSt × List Res)
 | [],st => some (st,[])
 | o :: l,st => match fstep call io st o with
  | some (st',r) => match frunRec call io l st' with
   | some (st'',rs) => some (st'',r :: rs)
   | none => none
  | none => none
def FSt.ofStart (args : List Val) : FSt := { fr := .start args,en := ⟨.lf⟩,cnt := ⟨.lf⟩ }
def fcallBody (lf : LFunc) (ex : LCode → FSt → Option (Ex × FSt)) (args : List Val) : Option Val :=
 match ex lf.body (.ofStart args) with
 | some (e,st) => if e.ends then resultOf st.st lf 8 else none
 | none => none
def fcallWith (L : Prog) (memo : CallFn) (ex : LCode → FSt → Option (Ex × FSt)) : CallFn := fun f args =>
 match memo f args with
 | some v => some v
 | none => match L f with
  | none => none
  | some lf =>
   if args.length = lf.np then
    if isAmb lf args then sameEmpty (fcallBody lf ex [.es true]) (fcallBody lf ex [.es false]) else fcallBody lf ex args
   else none
def finlWith (L : Prog) (ex : LCode → FSt → Option (Ex × FSt)) (f : Nat) (args : List Val) (st : FSt) : Option (Val × FSt) :=
 match L f with
 | none => none
 | some lf =>
  if args.length = lf.np ∧ lf.nrm = [] then
   if isAmb lf args then (sameEmpty (fcallBody lf ex [.es true]) (fcallBody lf ex [.es false])).map fun v => (v,st) else
   match ex lf.body { st with fr := .start args } with
   | some (e,st') => if e.ends then (mapO (readRes st'.st) lf.res).map fun vs => (tupOf vs,{ st' with fr := st.fr }) else none
   | none => none
  else none
def FFr.sets (fr : FFr) : List Nat → List Val → FFr
 | p :: ps,v :: vs => FFr.sets (fr.set p v) ps vs
 | _,_ => fr
theorem FFr.sets_fn : ∀ (ps : List Nat) (vs : List Val) (fr : FFr),(fr.sets ps vs).fn = setFrs fr.fn ps vs
 | [],_,_ => by simp [FFr.sets,setFrs]
 | _ :: _,[],_ => by simp [FFr.sets,setFrs]
 | p :: ps,v :: vs,fr => by simp only [FFr.sets,setFrs,FFr.sets_fn ps vs,FFr.set_fn]
def fyldWith (ex : LCode → FSt → Option (Ex × FSt)) (k : Key) (args : List Val) (st : FSt) : Option (Val × FSt) :=
 match st.en.get k with
 | some (.loop fr ps a b .ready) =>
  if args.length = ps.length then
   match ex a { fr := fr.sets ps args,en := st.en,cnt := st.cnt } with
   | some (.normal,st1) => match st1.en.get k with
    | some (.loop fr1 ps1 a1 b1 .ready) => match ex b { st1 with en := st1.en.put k (some (.loop fr1 ps1 a1 b1 .busy)) } with
     | some (e,st2) => match e.calm,st2.en.get k with
      | true,some (.loop fr2 ps2 a2 b2 .busy) =>
       some (.bool (decide (e = .normal)),{ fr := st.fr,en := st2.en.put k (some (.loop fr2 ps2 a2 b2 (if e = .normal then .ready else .done e))),cnt := st2.cnt })
      | _,_ => none
     | none => none
    | _ => none
   | _ => none
  else none
 | _ => none
def finlOf (L : Prog) (ex : LCode → FSt → Option (Ex × FSt)) : FInl := { fn := finlWith L ex,yld := fyldWith ex }
end Go.Abs
namespace Go.Abs
def FILe (i : FInl) (j : Inl) : Prop :=
 (∀ f a s v s',i.fn f a s = some (v,s') → j.fn f a s.st = some (v,s'.st)) ∧ ∀ k a s v s',i.yld k a s = some (v,s') → j.yld k a s.st = some (v,s'.st)
def FXLe (x : LCode → FSt → Option (Ex × FSt)) (y : LCode → St → Option (Ex × St)) : Prop := ∀ c s e s',x c s = some (e,s') → y c s.st = some (e,s'.st)
theorem finlcall_ok {i : FInl} {j : Inl} (h : FILe i j) {f : Val} {a : List Val} {s s' : FSt} {v : Val} (he : i.call f a s = some (v,s')) : j.call f a s.st = some (v,s'.st) := by
 cases f <;> simp only [FInl.call,Inl.call,reduceCtorEq] at he ⊢
 ·exact h.1 _ _ _ _ _ he
 ·exact h.2 _ _ _ _ _ he
theorem fstep_ok {c c' : CallFn} {i : FInl} {j : Inl} (hc : CLe c c') (hi : FILe i j) {st st' : FSt} {o : LOper} {r : Res} (h : fstep c i st o = some (st',r)) : step 8 c' j 0 st.st o = some (st'.st,r) := by
 obtain ⟨dst,op,g⟩ := o
 simp only [fstep,step] at h ⊢
 have e1 : st.st.fr = st.fr.fn := rfl
 have e2 : st.st.en = st.en.fn := rfl
 have e3 : st.st.cnt = st.cnt.fn := rfl
 simp only [e1,e2,e3]
 split at h
 ·rename_i hw
  simp only [hw]
  simp only [Option.some.injEq,Prod.mk.injEq] at h ⊢
  obtain ⟨rfl,rfl⟩ := h
  refine ⟨?_,rfl⟩
  simp only [FSt.st,FFr.put_fn]
 ·rename_i hw
  simp only [hw]
  cases op with
  | icall f args =>
   simp only at h ⊢
   split at h
   case h_2 => cases h
   rename_i hv
   have := finlcall_ok hi hv
   simp only [FSt.st,FFr.dead_fn] at this ⊢
   rw [this]
   simp only [Option.some.injEq,Prod.mk.injEq] at h ⊢
   obtain ⟨rfl,rfl⟩ := h
   refine ⟨?_,rfl⟩
   simp only [FFr.put_fn]
  | _ =>
   simp only at h ⊢
   split at h
   case h_2 => cases h
   rename_i hv
   rw [evalQ_eq] at hv
   rw [eval_mono hc hv]
   simp only
   split at h
   ·cases h
   rename_i hb
   rw [if_neg hb]
   simp only [Option.some.injEq,Prod.mk.injEq] at h ⊢
   obtain ⟨rfl,rfl⟩ := h
   refine ⟨?_,rfl⟩
   simp only [FSt.st,FFr.put_fn,W.fapplyAll_fn]
   split <;> simp [FCnt.put_fn]
 ·cases h
theorem frunOps_ok {c c' : CallFn} {i : FInl} {j : Inl} (hc : CLe c c') (hi : FILe i j) : ∀ (l : List LOper) {st r : FSt},frunOps c i l st = some r → runOps 8 c' j 0 l st.st = some r.st
 | [],_,_,h => by simp only [frunOps,Option.some.injEq] at h; subst h; rfl
 | o :: l,st,r,h => by
  simp only [frunOps,runOps] at h ⊢
  split at h
  case h_2 => cases h
  rename_i hs
  rw [fstep_ok hc hi hs]; exact frunOps_ok hc hi l h
theorem frunRec_ok {c c' : CallFn} {i : FInl} {j : Inl} (hc : CLe c c') (hi : FILe i j) : ∀ (l : List LOper) {st r : FSt} {rs : List Res},frunRec c i l st = some (r,rs) → runRec 8 c' j 0 l st.st = some (r.st,rs)
 | [],_,_,_,h => by simp only [frunRec,Option.some.injEq,Prod.mk.injEq] at h; obtain ⟨rfl,rfl⟩ := h; rfl
 | o :: l,st,r,rs,h => by
  simp only [frunRec,runRec] at h ⊢
  split at h
  case h_2 => cases h
  rename_i hs
  rw [fstep_ok hc hi hs]
  split at h
  case h_2 => cases h
  rename_i hr
  simp only [Option.some.injEq,Prod.mk.injEq] at h; obtain ⟨rfl,rfl⟩ := h
  simp only [frunRec_ok hc hi l hr]
theorem start_st (a : List Val) : (FSt.ofStart a).st = start a := by
 simp only [FSt.ofStart,FSt.st,start,FFr.start_fn]
 rfl
theorem fbody_ok {x : LCode → FSt → Option (Ex × FSt)} {y : LCode → St → Option (Ex × St)} (h : FXLe x y) {lf : LFunc} {a : List Val} {r : Val} (hb : fcallBody lf x a = some r) : callBody lf 8 y a = some r := by
 simp only [fcallBody,callBody] at hb ⊢
 split at hb
 case h_2 => cases hb
 rename_i hx
 have := h _ _ _ _ hx
 rw [start_st] at this
 rw [this]; exact hb
theorem fcall_ok {L : Prog} {memo : CallFn} {x : LCode → FSt → Option (Ex × FSt)} {y : LCode → St → Option (Ex × St)} (hm : CLe memo (callWith L 8 y)) (h : FXLe x y) : CLe (fcallWith L memo x) (callWith L 8 y) := by
 intro f a r hc
 simp only [fcallWith] at hc
 split at hc
 ·rename_i hv; simp only [Option.some.injEq] at hc; subst hc; exact hm _ _ _ hv
 simp only [callWith]
 split at hc
 ·cases hc
 rename_i hL
 rw [hL]
 simp only
 split at hc
 case isFalse => cases hc
 rename_i hl
 rw [if_pos hl]
 split at hc
 ·rename_i ha
  rw [if_pos ha]
  exact same_mono (fun _ => fbody_ok h) (fun _ => fbody_ok h) hc
 ·rename_i ha
  rw [if_neg ha]; exact fbody_ok h hc
theorem finl_ok {L : Prog} {x : LCode → FSt → Option (Ex × FSt)} {y : LCode → St → Option (Ex × St)} (h : FXLe x y) : FILe (finlOf L x) (inlOf L y) := by
 refine ⟨fun f a s v s' hc => ?_,fun k a s v s' hc => ?_⟩
 ·suffices hs : inlWith L y f a s.st = some (v,s'.st) ∧ ∃ lf,L f = some lf ∧ lf.nrm = [] by
   obtain ⟨h1,lf,h2,h3⟩ := hs
   simp only [inlOf,inlN,h1,h2,h3,norms]
  simp only [finlOf,finlWith,inlWith] at hc ⊢
  split at hc
  ·cases hc
  rename_i hL
  rw [hL]; simp only
  split at hc
  case isFalse => cases hc
  rename_i hl
  rw [if_pos hl.1]
  refine ⟨?_,_,rfl,hl.2⟩
  split at hc
  ·rename_i ha
   rw [if_pos ha]
   obtain ⟨v,hv,he⟩ := Option.map_eq_some_iff.1 hc
   simp only [Prod.mk.injEq] at he
   obtain ⟨rfl,rfl⟩ := he
   rw [same_mono (fun _ => fbody_ok h) (fun _ => fbody_ok h) hv]; rfl
  ·rename_i ha
   rw [if_neg ha]
   split at hc
   case h_2 => cases hc
   rename_i hx
   have := h _ _ _ _ hx
   simp only [FSt.st,FFr.start_fn] at this ⊢
   rw [this]
   simp only
   split at hc
   case isFalse => cases hc
   rename_i he
   rw [if_pos he]
   obtain ⟨vs,hvs,he⟩ := Option.map_eq_some_iff.1 hc
   simp only [Prod.mk.injEq] at he
   obtain ⟨rfl,rfl⟩ := he
   simp only [FSt.st] at hvs
   rw [hvs]; rfl
 ·simp only [finlOf,fyldWith,inlOf,yldWith] at hc ⊢
  have hg : ∀ (s : FSt) (k : Key) (x : FEnt),s.en.get k = some x → s.st.en k = some x.un := fun s k x h => by simp only [FSt.st,FEn.fn,h,Option.map_some]
  split at hc
  case h_2 => cases hc
  rename_i h0
  rw [hg _ _ _ h0]
  simp only [FEnt.un]
  split at hc
  case isFalse => cases hc
  rename_i hl
  rw [if_pos hl]
  split at hc
  case h_2 => cases hc
  rename_i hx
  have := h _ _ _ _ hx
  simp only [FSt.st,FFr.sets_fn] at this ⊢
  rw [this]
  simp only
  split at hc
  case h_2 => cases hc
  rename_i hk
  have := hg _ _ _ hk
  simp only [FSt.st,FEnt.un] at this
  simp only [this]
  split at hc
  case h_2 => cases hc
  rename_i hx2
  have := h _ _ _ _ hx2
  simp only [FSt.st,FEn.put_fn,Option.map_some,FEnt.un] at this
  simp only [this]
  split at hc
  case h_2 => cases hc
  rename_i hcalm hk2
  have := hg _ _ _ hk2
  simp only [FSt.st,FEnt.un] at this
  simp only [this,hcalm]
  simp only [Option.some.injEq,Prod.mk.injEq] at hc ⊢
  obtain ⟨rfl,rfl⟩ := hc
  refine ⟨rfl,?_⟩
  simp only [FEn.put_fn,Option.map_some,FEnt.un]
def frangeWith (L : Prog) (ex : LCode → FSt → Option (Ex × FSt)) (g : Val) (ps : List Nat) (a b : LCode) (st : FSt) : Option (Ex × FSt) :=
 match g with
 | .fn f x y =>
  let k : Key := ⟨1,0,st.cnt.fn 1 0⟩
  match finlWith L ex f (x ++ [.yld k] ++ y) { fr := st.fr,en := st.en.put k (some (.loop st.fr ps a b .ready)),cnt := st.cnt.put 1 0 (st.cnt.fn 1 0 + 1) } with
  | some (_,st') => match st'.en.get k with
   | some (.loop _ _ _ _ .ready) => some (.normal,{ st' with en := st'.en.put k none })
   | some (.loop _ _ _ _ (.done e)) => some (e,{ st' with en := st'.en.put k none })
   | _ => none
  | none => none
 | _ => none
def fexec (L : Prog) (memo : CallFn) : Nat → LCode → FSt → Option (Ex × FSt)
 | 0,_,_ => none
 | n + 1,c,st =>
  match c with
  | .skip => some (.normal,st)
  | .ops l => (frunOps (fcallWith L memo (fexec L memo n)) (finlOf L (fexec L memo n)) l st).map fun st => (.normal,st)
  | .draw l pairs => match frunRec (fcallWith L memo (fexec L memo n)) (finlOf L (fexec L memo n)) l st with
   | some (st',rs) => if pairsOk rs pairs then some (.normal,st') else none
   | none => none
  | .seq a b => match fexec L memo n a st with
   | some (.normal,st') => fexec L memo n b st'
   | r => r
  | .cond x a b => match St.get st.fr.fn x with
   | .bool true => fexec L memo n a st
   | .bool false => fexec L memo n b st
   | _ => none
  | .block id b => match fexec L memo n b st with
   | some (.exit id',st') => if id' = id then some (.normal,st') else some (.exit id',st')
   | r => r
  | .loop b => match fexec L memo n b st with
   | some (.normal,st') => fexec L memo n (.loop b) st'
   | r => r
  | .exit id => some (.exit id,st)
  | .ret => some (.ret,st)
  | .rangeF g ps a b => frangeWith L (fexec L memo n) (St.get st.fr.fn g) ps a b st
  | _ => none
theorem frange_ok {L : Prog} {x : LCode → FSt → Option (Ex × FSt)} {y : LCode → St → Option (Ex × St)} (h : FXLe x y) {g : Val} {ps : List Nat} {a b : LCode} {st st' : FSt} {e : Ex} (hr : frangeWith L x g ps a b st = some (e,st')) :
  rangeWith L y g ps a b st.st = some (e,st'.st) := by
 unfold frangeWith at hr
 unfold rangeWith
 split at hr
 case h_2 => cases hr
 simp only at hr ⊢
 split at hr
 case h_2 => cases hr
 rename_i hx
 have := (finl_ok h (L := L)).1 _ _ _ _ _ hx
 simp only [inlOf,FSt.st,FEn.put_fn,Option.map_some,FEnt.un,FCnt.put_fn] at this
 simp only [FSt.st]
 rw [this]
 simp only
 have hg : ∀ (s : FSt) (k : Key) (x : FEnt),s.en.get k = some x → s.en.fn k = some x.un := fun s k x h => by simp only [FEn.fn,h,Option.map_some]
 split at hr
 ·rename_i hk
  have := hg _ _ _ hk
  simp only [FEnt.un] at this
  simp only [this]
  simp only [Option.some.injEq,Prod.mk.injEq] at hr
  obtain ⟨rfl,rfl⟩ := hr
  simp only [FEn.put_fn,Option.map_none]
 ·rename_i hk
  have := hg _ _ _ hk
  simp only [FEnt.un] at this
  simp only [this]
  simp only [Option.some.injEq,Prod.mk.injEq] at hr
  obtain ⟨rfl,rfl⟩ := hr
  simp only [FEn.put_fn,Option.map_none]
 ·cases hr
theorem fexec_ok (L : Prog) (memo : CallFn) (N : Nat) (hm : CLe memo (pcall L N)) : ∀ n,FXLe (fexec L memo n) (exec L (N + n)) := by
 intro n
 induction n with
 | zero => intro c s e s' h; simp [fexec] at h
 | succ n ih =>
  intro c s e s' h
  have hm' : CLe memo (callWith L 8 (exec L (N + n))) := fun f a r hr => pcall_le (by omega) (hm f a r hr)
  have hc := fcall_ok hm' ih
  have hi := finl_ok ih (L := L)
  rw [show N + (n + 1) = (N + n) + 1 from rfl]
  cases c with
  | skip => rw [fexec] at h; rw [exec]; simp only [Option.some.injEq,Prod.mk.injEq] at h; obtain ⟨rfl,rfl⟩ := h; rfl
  | ops l =>
   rw [fexec] at h; rw [exec]
   obtain ⟨st,hs,he⟩ := Option.map_eq_some_iff.1 h
   simp only [Prod.mk.injEq] at he
   obtain ⟨rfl,rfl⟩ := he
   rw [frunOps_ok hc hi l hs]; rfl
  | draw l ps =>
   rw [fexec] at h; rw [exec]
   split at h
   case h_2 => cases h
   rename_i hs
   rw [frunRec_ok hc hi l hs]
   simp only
   split at h
   ·rename_i hp
    rw [if_pos hp]
    simp only [Option.some.injEq,Prod.mk.injEq] at h; obtain ⟨rfl,rfl⟩ := h; rfl
   ·cases h
  | seq a b =>
   rw [fexec] at h; rw [exec]
   cases hx : fexec L memo n a s with
   | none => rw [hx] at h; cases h
   | some p =>
    obtain ⟨e0,st⟩ := p
    rw [hx] at h
    rw [ih _ _ _ _ hx]
    cases e0 with
    | normal => exact ih _ _ _ _ h
    | exit i => simp only [Option.some.injEq,Prod.mk.injEq] at h ⊢; obtain ⟨rfl,rfl⟩ := h; exact ⟨rfl,rfl⟩
    | ret => simp only [Option.some.injEq,Prod.mk.injEq] at h ⊢; obtain ⟨rfl,rfl⟩ := h; exact ⟨rfl,rfl⟩
    | panic => simp only [Option.some.injEq,Prod.mk.injEq] at h ⊢; obtain ⟨rfl,rfl⟩ := h; exact ⟨rfl,rfl⟩
  | cond z a b =>
   rw [fexec] at h; rw [exec]
   have e1 : s.st.fr = s.fr.fn := rfl
   rw [e1]
   split at h
   ·rename_i hz; simp only [hz]; exact ih _ _ _ _ h
   ·rename_i hz; simp only [hz]; exact ih _ _ _ _ h
   ·cases h
  | block id b =>
   rw [fexec] at h; rw [exec]
   cases hx : fexec L memo n b s with
   | none => rw [hx] at h; cases h
   | some p =>
    obtain ⟨e0,st⟩ := p
    rw [hx] at h
    rw [ih _ _ _ _ hx]
    cases e0 with
    | normal => simp only [Option.some.injEq,Prod.mk.injEq] at h ⊢; obtain ⟨rfl,rfl⟩ := h; exact ⟨rfl,rfl⟩
    | ret => simp only [Option.some.injEq,Prod.mk.injEq] at h ⊢; obtain ⟨rfl,rfl⟩ := h; exact ⟨rfl,rfl⟩
    | panic => simp only [Option.some.injEq,Prod.mk.injEq] at h ⊢; obtain ⟨rfl,rfl⟩ := h; exact ⟨rfl,rfl⟩
    | exit i =>
     simp only at h ⊢
     split at h <;> rename_i hh
     ·rw [if_pos hh]; simp only [Option.some.injEq,Prod.mk.injEq] at h ⊢; obtain ⟨rfl,rfl⟩ := h; exact ⟨rfl,rfl⟩
     ·rw [if_neg hh]; simp only [Option.some.injEq,Prod.mk.injEq] at h ⊢; obtain ⟨rfl,rfl⟩ := h; exact ⟨rfl,rfl⟩
  | loop b =>
   rw [fexec] at h; rw [exec]
   cases hx : fexec L memo n b s with
   | none => rw [hx] at h; cases h
   | some p =>
    obtain ⟨e0,st⟩ := p
    rw [hx] at h
    rw [ih _ _ _ _ hx]
    cases e0 with
    | normal => exact ih _ _ _ _ h
    | exit i => simp only [Option.some.injEq,Prod.mk.injEq] at h ⊢; obtain ⟨rfl,rfl⟩ := h; exact ⟨rfl,rfl⟩
    | ret => simp only [Option.some.injEq,Prod.mk.injEq] at h ⊢; obtain ⟨rfl,rfl⟩ := h; exact ⟨rfl,rfl⟩
    | panic => simp only [Option.some.injEq,Prod.mk.injEq] at h ⊢; obtain ⟨rfl,rfl⟩ := h; exact ⟨rfl,rfl⟩
  | exit i => rw [fexec] at h; rw [exec]; simp only [Option.some.injEq,Prod.mk.injEq] at h; obtain ⟨rfl,rfl⟩ := h; rfl
  | ret => rw [fexec] at h; rw [exec]; simp only [Option.some.injEq,Prod.mk.injEq] at h; obtain ⟨rfl,rfl⟩ := h; rfl
  | rangeF g ps a b =>
   rw [fexec] at h; rw [exec]
   exact frange_ok ih h
  | opsP => simp [fexec] at h
  | dfr => simp [fexec] at h
  | rcv => simp [fexec] at h
  | drawP => simp [fexec] at h
  | drawL => simp [fexec] at h
def fcall (L : Prog) (memo : CallFn) (n f : Nat) (args : List Val) : Option Val :=
 match L f with
 | none => none
 | some lf => if args.length = lf.np then (if isAmb lf args then none else fcallBody lf (fexec L memo n) args) else none
theorem fcall_sound {L : Prog} {memo : CallFn} {N n f : Nat} {args : List Val} {r : Val} (hm : CLe memo (pcall L N)) (h : fcall L memo n f args = some r) : pcall L (N + n) f args = some r := by
 simp only [fcall] at h
 simp only [pcall,callWith]
 split at h
 ·cases h
 rename_i hL
 rw [hL]
 simp only
 split at h
 case isFalse => cases h
 rename_i hl
 rw [if_pos hl]
 split at h
 ·cases h
 rename_i ha
 rw [if_neg ha]
 exact fbody_ok (fexec_ok L memo N hm n) h
end Go.Abs
namespace Go.Abs
theorem Knows.stepF {L : Prog} {e : Known1} {l : List Known1} (h : Knows L l) (hr : fcall L (memo l) 1000 e.f e.a = some e.r) : Knows L (e :: l) := by
 obtain ⟨N,hN⟩ := id h
 exact h.add (pc_run (fcall_sound hN hr))
end Go.Abs
namespace Go.Abs
section
variable {L : Prog} {fr : Nat → Val} {en : En} {cnt : Nat → Nat → Nat} {Q : St → Prop} {l : List LOper} {d : Nat} {dst : Option Nat}
@[go_sem] theorem g_t {i : Nat} : St.get fr (.t i) = fr i := (rfl)
@[go_sem] theorem g_c {v : Val} : St.get fr (.c v) = v := (rfl)
@[go_sem] theorem g_f {i : Nat} : St.get fr (.f i) = .fn i [] [] := (rfl)
@[go_sem] theorem fr_eq {v : Val} : setFr fr d v d = v := by simp [setFr]
@[go_sem] theorem fr_ne {v : Val} {i : Nat} (h : ¬ i = d) : setFr fr d v i = fr i := by simp [setFr,h]
@[go_sem] theorem put_some {v : Val} : putFr fr (some d) v = setFr fr d v := (rfl)
@[go_sem] theorem put_none {v : Val} : putFr fr none v = fr := (rfl)
@[go_sem] theorem en_eq {k : Key} {e : Option Ent} : En.set en k e k = e := by simp [En.set]
theorem en_ne {k k' : Key} {e : Option Ent} (h : k' ≠ k) : En.set en k e k' = en k' := by simp [En.set,h]
@[go_sem] theorem en_ne_t {n n' t t' g g' : Nat} {e : Option Ent} (h : ¬ t' = t) : En.set en ⟨n,t,g⟩ e ⟨n',t',g'⟩ = en ⟨n',t',g'⟩ :=
 en_ne fun he => h (by injection he)
@[go_sem] theorem en_ne_g {n n' t t' g g' : Nat} {e : Option Ent} (h : ¬ g' = g) : En.set en ⟨n,t,g⟩ e ⟨n',t',g'⟩ = en ⟨n',t',g'⟩ :=
 en_ne fun he => h (by injection he)
@[go_sem] theorem cnt_eq {n t x : Nat} : setCnt cnt n t x n t = x := by simp [setCnt]
@[go_sem] theorem cnt_ne {n t t' x : Nat} (h : ¬ t' = t) : setCnt cnt n t x n t' = cnt n t' := by simp [setCnt,h]
@[go_sem] theorem w_nil (st : St) : WOps L [] st Q = Q st := (rfl)
def LOp.plain : LOp → Bool
 | .call _ _ | .icall _ _ => false
 | _ => true
def WPut (L : Prog) (l : List LOper) (dst : Option Nat) (fr : Nat → Val) (en : En) (cnt : Nat → Nat → Nat) (Q : St → Prop) : Option Res → Prop
 | some r => (r.bump && dst.isNone) = false ∧ WOps L l ⟨putFr fr dst r.v,W.applyAll en r.ws,if r.bump then setCnt cnt 0 (dst.getD 0) (cnt 0 (dst.getD 0) + 1) else cnt⟩ Q
 | none => False
@[go_sem] theorem wput_some {v : Val} {ws : List W} {rs : List R} {m : Option (En × (Nat → Nat → Nat))} {u : Key → Bool} :
  WPut L l dst fr en cnt Q (some ⟨v,ws,rs,false,m,u⟩) = WOps L l ⟨putFr fr dst v,W.applyAll en ws,cnt⟩ Q := by simp [WPut]
@[go_sem] theorem wput_bump {v : Val} {ws : List W} {rs : List R} {m : Option (En × (Nat → Nat → Nat))} {u : Key → Bool} :
  WPut L l (some d) fr en cnt Q (some ⟨v,ws,rs,true,m,u⟩) = WOps L l ⟨setFr fr d v,W.applyAll en ws,setCnt cnt 0 d (cnt 0 d + 1)⟩ Q := by simp [WPut,putFr]
@[go_sem] theorem wput_none : WPut L l dst fr en cnt Q none = False := (rfl)
@[congr] theorem wput_congr {r r' : Option Res} (h : r = r') : WPut L l dst fr en cnt Q r = WPut L l dst fr en cnt Q r' := by rw [h]
@[congr] theorem wops_congr {st : St} : WOps L l st Q = WOps L l st Q := (rfl)
theorem w_gen {op : LOp} (h : op.plain = true) : WOps L (⟨dst,op,none⟩ :: l) ⟨fr,en,cnt⟩ Q =
  WPut L l dst fr en cnt Q (evalW (dst.getD 0) (cnt 0 (dst.getD 0)) en (St.get fr) op) := by
 cases op <;> first | (simp [LOp.plain] at h; done) | rfl | (simp only [WOps,WStep,wanted,WOp]; rfl)
@[go_sem] theorem w_some {op : LOp} (h : op.plain = true) : WOps L (⟨some d,op,none⟩ :: l) ⟨fr,en,cnt⟩ Q =
  WPut L l (some d) fr en cnt Q (evalW d (cnt 0 d) en (St.get fr) op) := w_gen h
@[go_sem] theorem w_none {op : LOp} (h : op.plain = true) : WOps L (⟨none,op,none⟩ :: l) ⟨fr,en,cnt⟩ Q =
  WPut L l none fr en cnt Q (evalW 0 (cnt 0 0) en (St.get fr) op) := w_gen h
@[go_sem] theorem pl_mv {x : Opd} : LOp.plain (.mv x) = true := (rfl)
@[go_sem] theorem pl_pick {a b c : Opd} : LOp.plain (.pick a b c) = true := (rfl)
@[go_sem] theorem pl_alloc {z : List Val} : LOp.plain (.alloc z) = true := (rfl)
@[go_sem] theorem pl_box {n : Nat} {x : Opd} : LOp.plain (.box n x) = true := (rfl)
@[go_sem] theorem pl_build {z : List Val} {p : List (Nat × Nat × Opd)} : LOp.plain (.build z p) = true := (rfl)
@[go_sem] theorem pl_bslice {a b : Nat} {z : List Val} {p : List (Nat × Opd)} : LOp.plain (.bslice a b z p) = true := (rfl)
@[go_sem] theorem pl_bsliceO {a b : Nat} {z : List Val} {p : List (Nat × Opd)} : LOp.plain (.bsliceO a b z p) = true := (rfl)
@[go_sem] theorem pl_appendZ {n : Nat} {z : List Val} {x y : Opd} : LOp.plain (.appendZ n z x y) = true := (rfl)
@[go_sem] theorem pl_load {a : Bool} {n : Nat} {x : Opd} : LOp.plain (.load a n x) = true := (rfl)
@[go_sem] theorem pl_store {n : Nat} {x y : Opd} : LOp.plain (.store n x y) = true := (rfl)
@[go_sem] theorem pl_nilck {x : Opd} : LOp.plain (.nilck x) = true := (rfl)
@[go_sem] theorem pl_bin {b : BinOp} {t : EqT} {x y : Opd} : LOp.plain (.bin b t x y) = true := (rfl)
@[go_sem] theorem pl_un {u : UnOp} {x : Opd} : LOp.plain (.un u x) = true := (rfl)
@[go_sem] theorem pl_wrap {k : IntKind} {x : Opd} : LOp.plain (.wrap k x) = true := (rfl)
@[go_sem] theorem pl_iface {t : Nat} {x : Opd} : LOp.plain (.iface t x) = true := (rfl)
@[go_sem] theorem pl_assert {t : Nat} {z : Val} {b : Bool} {x : Opd} : LOp.plain (.assert t z b x) = true := (rfl)
@[go_sem] theorem pl_mkfn {f : Nat} {a b : List Opd} : LOp.plain (.mkfn f a b) = true := (rfl)
@[go_sem] theorem pl_mkmap  : LOp.plain (.mkmap ) = true := (rfl)
@[go_sem] theorem pl_mput {t : EqT} {a b c : Opd} : LOp.plain (.mput t a b c) = true := (rfl)
@[go_sem] theorem pl_mget {t : EqT} {z : Val} {b : Bool} {x y : Opd} : LOp.plain (.mget t z b x y) = true := (rfl)
@[go_sem] theorem pl_mklen {n : Nat} {z : List Val} {x y : Opd} : LOp.plain (.mklen n z x y) = true := (rfl)
@[go_sem] theorem pl_slice {b : Bool} {n : Nat} {x : Opd} {l h m : Option Opd} : LOp.plain (.slice b n x l h m) = true := (rfl)
@[go_sem] theorem pl_fa {n : Nat} {x : Opd} : LOp.plain (.fa n x) = true := (rfl)
@[go_sem] theorem pl_fld {b : Bool} {n m : Nat} {x : Opd} : LOp.plain (.fld b n m x) = true := (rfl)
@[go_sem] theorem pl_ia {n : Nat} {x y : Opd} : LOp.plain (.ia n x y) = true := (rfl)
@[go_sem] theorem pl_iaa {n m : Nat} {x y : Opd} : LOp.plain (.iaa n m x y) = true := (rfl)
@[go_sem] theorem pl_ixs {x y : Opd} : LOp.plain (.ixs x y) = true := (rfl)
@[go_sem] theorem pl_ixa {b : Bool} {n m : Nat} {x y : Opd} : LOp.plain (.ixa b n m x y) = true := (rfl)
@[go_sem] theorem pl_ext {n : Nat} {x : Opd} : LOp.plain (.ext n x) = true := (rfl)
@[go_sem] theorem pl_len {t : EqT} {x : Opd} : LOp.plain (.len t x) = true := (rfl)
@[go_sem] theorem pl_copy {n : Nat} {x y : Opd} : LOp.plain (.copy n x y) = true := (rfl)
@[go_sem] theorem pl_minmax {b : Bool} {l : List Opd} : LOp.plain (.minmax b l) = true := (rfl)
@[go_sem] theorem pl_rng {x : Opd} : LOp.plain (.rng x) = true := (rfl)
@[go_sem] theorem pl_nxt {x : Opd} : LOp.plain (.nxt x) = true := (rfl)
def WGuard (v : Val) (b : Bool) (yes no : Prop) : Prop :=
 match v with
 | .bool b' => if (b' == b) = true then yes else no
 | .tup [] => no
 | _ => False
@[congr] theorem guard_congr {v v' : Val} {b : Bool} {yes no : Prop} (h : v = v') : WGuard v b yes no = WGuard v' b yes no := by rw [h]
@[go_sem] theorem w_guard {t : Nat} {b : Bool} {op : LOp} : WOps L (⟨dst,op,some (t,b)⟩ :: l) ⟨fr,en,cnt⟩ Q =
  WGuard (fr t) b (WOps L (⟨dst,op,none⟩ :: l) ⟨fr,en,cnt⟩ Q) (WOps L l ⟨putFr fr dst (.tup []),en,cnt⟩ Q) := by
 simp only [WOps,WStep,wanted,WGuard]
 split <;> rename_i h
 ·split at h
  ·rename_i b' hb; simp only [Option.some.injEq] at h; simp only [hb,h,if_true]
  ·cases h
  ·cases h
 ·split at h
  ·rename_i b' hb; simp only [Option.some.injEq] at h; simp only [hb,h,Bool.false_eq_true,if_false]
  ·rename_i hb; simp only [hb]
  ·cases h
 ·split at h
  ·cases h
  ·cases h
  ·rename_i h1 h2
   split
   ·rename_i b' hb; exact absurd hb (h1 _)
   ·rename_i hb; exact absurd hb h2
   ·rfl
@[go_sem] theorem guard_tt {yes no : Prop} : WGuard (.bool true) true yes no = yes := (rfl)
@[go_sem] theorem guard_ff {yes no : Prop} : WGuard (.bool false) false yes no = yes := (rfl)
@[go_sem] theorem guard_tf {yes no : Prop} : WGuard (.bool true) false yes no = no := (rfl)
@[go_sem] theorem guard_ft {yes no : Prop} : WGuard (.bool false) true yes no = no := (rfl)
@[go_sem] theorem guard_un {yes no : Prop} {b : Bool} : WGuard (.tup []) b yes no = no := (rfl)
@[congr] theorem win_congr {f : Val} {a : List Val} {K : Val → En → (Nat → Nat → Nat) → Prop} {f' : Val} {a' : List Val} (h : f = f') (h' : a = a') : WIn L f a en cnt K = WIn L f' a' en cnt K := by rw [h,h']
@[go_sem] theorem w_icall {f : Opd} {args : List Opd} : WOps L (⟨dst,.icall f args,none⟩ :: l) ⟨fr,en,cnt⟩ Q =
  WIn L (St.get fr f) (args.map (St.get fr)) en cnt fun v en' cnt' => WOps L l ⟨putFr fr dst v,en',cnt'⟩ Q := (rfl)
def WRet (L : Prog) (f : Nat) (args : List Val) (K : Val → Prop) : Prop := ∃ r,PC L f args r ∧ K r
@[congr] theorem wret_congr {f : Nat} {a a' : List Val} {K : Val → Prop} (h : a = a') : WRet L f a K = WRet L f a' K := by rw [h]
theorem _root_.Go.Abs.PC.ret {L : Prog} {f : Nat} {args : List Val} {r : Val} (h : PC L f args r) {K : Val → Prop} : WRet L f args K = K r :=
 propext ⟨fun ⟨s,h1,h2⟩ => h.det h1 ▸ h2,fun h2 => ⟨r,h,h2⟩⟩
def WSnap (L : Prog) (f : Nat) (o : Option (List (Val × List Key))) (K : Val → List Key → Prop) : Prop :=
 match o with
 | some rs => WRet L f (rs.map (·.1.wk1)) fun r => K r (rs.flatMap (·.2))
 | none => False
@[congr] theorem wsnap_congr {f : Nat} {o o' : Option (List (Val × List Key))} {K : Val → List Key → Prop} (h : o = o') : WSnap L f o K = WSnap L f o' K := by rw [h]
@[go_sem] theorem wsnap {f : Nat} {rs : List (Val × List Key)} {K : Val → List Key → Prop} : WSnap L f (some rs) K = WRet L f (rs.map (·.1.wk1)) fun r => K r (rs.flatMap (·.2)) := (rfl)
def WCall (L : Prog) (en : En) (f : Val) (args : List Val) (K : Val → List Key → Prop) : Prop :=
 match f with
 | .fn f a b => WSnap L f (mapO (snapD 8 en) (a ++ args ++ b)) K
 | _ => False
@[congr] theorem wcall_congr {f f' : Val} {a a' : List Val} {K : Val → List Key → Prop} (h : f = f') (h' : a = a') : WCall L en f a K = WCall L en f' a' K := by rw [h,h']
@[go_sem] theorem w_call {f : Opd} {args : List Opd} : WOps L (⟨dst,.call f args,none⟩ :: l) ⟨fr,en,cnt⟩ Q =
  WCall L en (St.get fr f) (args.map (St.get fr)) fun r ks => WPut L l dst fr en cnt Q (some (callRes 0 (dst.getD 0) (cnt 0 (dst.getD 0)) r ks)) := by
 simp only [WOps,WStep,wanted,WOp,WCall,WSnap,WRet]
 cases St.get fr f <;> first | rfl | skip
@[go_sem] theorem wcall {f : Nat} {a b args : List Val} {K : Val → List Key → Prop} : WCall L en (.fn f a b) args K = WSnap L f (mapO (snapD 8 en) (a ++ args ++ b)) K := (rfl)
def isOwnV : Val → Bool
 | .own _ _ => true
 | _ => false
@[go_sem] theorem callRes_own {me d g sz : Nat} {xs : List Val} {ks : List Key} : callRes me d g (.own sz xs) ks =
  { v := .bl ⟨me,d,g⟩ 0 xs.length,ws := (if xs.all Val.flat1 then [] else ks.map .frz) ++ [.ent ⟨me,d,g⟩ (some (.blk sz xs false))],rs := ks.map .val,bump := true } := (rfl)
@[go_sem] theorem callRes_not {me d g : Nat} {v : Val} {ks : List Key} (h : isOwnV v = false) : callRes me d g v ks = { v,ws := if v.flat then [] else ks.map .frz,rs := ks.map .val } := by
 cases v <;> first | rfl | cases h
section
variable {k : IntKind} {i : Int} {b : Bool} {x : ByteArray} {xs ys : List Val} {m : Nat}
@[go_sem] theorem no_int : isOwnV (.int k i) = false := (rfl)
@[go_sem] theorem no_bool : isOwnV (.bool b) = false := (rfl)
@[go_sem] theorem no_str : isOwnV (.str x) = false := (rfl)
@[go_sem] theorem no_fz : isOwnV (.fz xs) = false := (rfl)
@[go_sem] theorem no_cl : isOwnV (.cl xs) = false := (rfl)
@[go_sem] theorem no_agg : isOwnV (.agg xs) = false := (rfl)
@[go_sem] theorem no_tup : isOwnV (.tup xs) = false := (rfl)
@[go_sem] theorem no_fp : isOwnV (.fp xs m) = false := (rfl)
@[go_sem] theorem no_fn : isOwnV (.fn m xs ys) = false := (rfl)
@[go_sem] theorem no_nili : isOwnV .nili = false := (rfl)
@[go_sem] theorem no_ifc {v : Val} : isOwnV (.ifc m v) = false := (rfl)
end
@[go_sem] theorem mapO_nil {α β : Type} {f : α → Option β} : mapO f [] = some [] := (rfl)
@[go_sem] theorem mapO_cons {α β : Type} {f : α → Option β} {x : α} {xs : List α} : mapO f (x :: xs) = (match f x with | some y => (match mapO f xs with | some ys => some (y :: ys) | none => none) | none => none) := (rfl)
@[go_sem] theorem ofCells_t {cs : List Val} : ofCells true cs = some (.agg cs) := (rfl)
@[go_sem] theorem ofCells_f {v : Val} : ofCells false [v] = some v := (rfl)
attribute [go_sem] o og on ong
def cellAt (cs : List Val) (off : Nat) : Option Val := cs[off]?
@[go_sem] theorem cellAt_z {v : Val} {cs : List Val} : cellAt (v :: cs) 0 = some v := (rfl)
@[go_sem] theorem cellAt_s {v : Val} {cs : List Val} {n : Nat} : cellAt (v :: cs) (n + 1) = cellAt cs n := (rfl)
section
variable {g : Nat} {get : Opd → Val}
@[go_sem] theorem ev_mv {x : Opd} : evalW d g en get (.mv x) = some { v := get x } := (rfl)
def opPick (c a b : Val) : Option Res := match c with | .bool t => some { v := if t then a else b } | _ => none
@[go_sem] theorem ev_pick {c a b : Opd} : evalW d g en get (.pick c a b) = opPick (get c) (get a) (get b) := (rfl)
@[go_sem] theorem pick_t {a b : Val} : opPick (.bool true) a b = some { v := a } := (rfl)
@[go_sem] theorem pick_f {a b : Val} : opPick (.bool false) a b = some { v := b } := (rfl)
@[go_sem] theorem pick_b {t a b : Bool} : opPick (.bool t) (.bool a) (.bool b) = some { v := .bool (if t then a else b) } := by cases t <;> rfl
@[go_sem] theorem ev_alloc {z : List Val} : evalW d g en get (.alloc z) = some { v := .ptr ⟨0,d,g⟩ 0,ws := [.ent ⟨0,d,g⟩ (some (.box z false))],bump := true } := (rfl)
def opBox (d g m : Nat) (x : Val) : Option Res := if x.one = true ∧ x.cells.length = m then some { v := .ptr ⟨0,d,g⟩ 0,ws := [.ent ⟨0,d,g⟩ (some (.box x.cells false))],bump := true } else none
@[go_sem] theorem ev_box {m : Nat} {x : Opd} : evalW d g en get (.box m x) = opBox d g m (get x) := (rfl)
@[go_sem] theorem box_agg {m : Nat} {cs : List Val} (h : cs.length = m) : opBox d g m (.agg cs) = some { v := .ptr ⟨0,d,g⟩ 0,ws := [.ent ⟨0,d,g⟩ (some (.box cs false))],bump := true } := by simp [opBox,Val.one,Val.cells,h]
@[go_sem] theorem box_int {k : IntKind} {n : Int} : opBox d g 1 (.int k n) = some { v := .ptr ⟨0,d,g⟩ 0,ws := [.ent ⟨0,d,g⟩ (some (.box [.int k n] false))],bump := true } := by simp [opBox,Val.one,Val.cells]
@[go_sem] theorem box_bool {b : Bool} : opBox d g 1 (.bool b) = some { v := .ptr ⟨0,d,g⟩ 0,ws := [.ent ⟨0,d,g⟩ (some (.box [.bool b] false))],bump := true } := by simp [opBox,Val.one,Val.cells]
@[go_sem] theorem box_str {b : ByteArray} : opBox d g 1 (.str b) = some { v := .ptr ⟨0,d,g⟩ 0,ws := [.ent ⟨0,d,g⟩ (some (.box [.str b] false))],bump := true } := by simp [opBox,Val.one,Val.cells]
@[go_sem] theorem box_fz {xs : List Val} : opBox d g 1 (.fz xs) = some { v := .ptr ⟨0,d,g⟩ 0,ws := [.ent ⟨0,d,g⟩ (some (.box [.fz xs] false))],bump := true } := by simp [opBox,Val.one,Val.cells]
@[go_sem] theorem box_fp {xs : List Val} {i : Nat} : opBox d g 1 (.fp xs i) = some { v := .ptr ⟨0,d,g⟩ 0,ws := [.ent ⟨0,d,g⟩ (some (.box [.fp xs i] false))],bump := true } := by simp [opBox,Val.one,Val.cells]
@[go_sem] theorem box_ptr {k : Key} {i : Nat} : opBox d g 1 (.ptr k i) = some { v := .ptr ⟨0,d,g⟩ 0,ws := [.ent ⟨0,d,g⟩ (some (.box [.ptr k i] false))],bump := true } := by simp [opBox,Val.one,Val.cells]
@[go_sem] theorem box_fn {f : Nat} {a b : List Val} : opBox d g 1 (.fn f a b) = some { v := .ptr ⟨0,d,g⟩ 0,ws := [.ent ⟨0,d,g⟩ (some (.box [.fn f a b] false))],bump := true } := by simp [opBox,Val.one,Val.cells]
@[go_sem] theorem ev_build {z : List Val} {ps : List (Nat × Nat × Opd)} : evalW d g en get (.build z ps) = (fillIn z (ps.map fun p => (p.1,p.2.1,get p.2.2))).map fun cs => { v := .agg cs } := (rfl)
@[go_sem] theorem ev_load {agg : Bool} {m : Nat} {a : Opd} : evalW d g en get (.load agg m a) = (match readAt en (get a) m with | some (cs,rs) => (ofCells agg cs).map fun v => { v,rs } | none => none) := (rfl)
@[go_sem] theorem ev_bin {op : BinOp} {t : EqT} {x y : Opd} : evalW d g en get (.bin op t x y) = (binVal op t (get x) (get y)).map fun v => { v } := (rfl)
def opNot (x : Val) : Option Res := match x with | .bool b => some { v := .bool !b } | _ => none
def opNeg (x : Val) : Option Res := match x with | .int k a => some { v := .int k (k.wrap (0 - a)) } | _ => none
@[go_sem] theorem ev_not {x : Opd} : evalW d g en get (.un .not x) = opNot (get x) := by
 simp only [evalW,eval,opNot]; cases get x <;> rfl
@[go_sem] theorem ev_neg {x : Opd} : evalW d g en get (.un .neg x) = opNeg (get x) := by
 simp only [evalW,eval,opNeg]; cases get x <;> rfl
@[go_sem] theorem not_b {b : Bool} : opNot (.bool b) = some { v := .bool !b } := (rfl)
@[go_sem] theorem neg_i {k : IntKind} {a : Int} : opNeg (.int k a) = some { v := .int k (k.wrap (0 - a)) } := (rfl)
def opWrap (k : IntKind) (x : Val) : Option Res := match x with | .int _ a => some { v := .int k (k.wrap a) } | _ => none
@[go_sem] theorem ev_wrap {k : IntKind} {x : Opd} : evalW d g en get (.wrap k x) = opWrap k (get x) := (rfl)
@[go_sem] theorem wrap_i {k j : IntKind} {a : Int} : opWrap k (.int j a) = some { v := .int k (k.wrap a) } := (rfl)
@[go_sem] theorem ev_iface {t : Nat} {x : Opd} : evalW d g en get (.iface t x) = if (get x).one = true then some { v := .ifc t (get x) } else none := (rfl)
def opAssert (t : Nat) (z : Val) (ok : Bool) (x : Val) : Option Res := match x with
 | .ifc t' v => if t' = t then some { v := if ok then .tup [v,.bool true] else v } else if ok then some { v := .tup [z,.bool false] } else none
 | .nili => if ok then some { v := .tup [z,.bool false] } else none
 | _ => none
@[go_sem] theorem ev_assert {t : Nat} {z : Val} {ok : Bool} {x : Opd} : evalW d g en get (.assert t z ok x) = opAssert t z ok (get x) := (rfl)
@[go_sem] theorem assert_ifc {t t' : Nat} {z v : Val} : opAssert t z true (.ifc t' v) = some { v := if t' = t then .tup [v,.bool true] else .tup [z,.bool false] } := by
 simp only [opAssert]; split <;> simp
@[go_sem] theorem assert_nil {t : Nat} {z : Val} : opAssert t z true .nili = some { v := .tup [z,.bool false] } := (rfl)
@[go_sem] theorem ev_mkfn {f : Nat} {a b : List Opd} : evalW d g en get (.mkfn f a b) = some { v := .fn f (a.map get) (b.map get) } := (rfl)
@[go_sem] theorem ev_mkmap : evalW d g en get .mkmap = some { v := .mp ⟨0,d,g⟩,ws := [.ent ⟨0,d,g⟩ (some (.map [] [] false))],bump := true } := (rfl)
def opLen (t : EqT) (en : En) (x : Val) : Option Res := match t with
  | .map => match x with
   | .mp key => match en key with
    | some (.map ks _ _) => some { v := .int .i64 ks.length,rs := [.val key] }
    | _ => none
   | .fm ks _ => some { v := .int .i64 ks.length }
   | .nilm => some { v := .int .i64 0 }
   | _ => none
  | .str => match x with
   | .str s => some { v := .int .i64 s.size }
   | _ => none
  | .slice => (lenOf x).map fun m => { v := .int .i64 m }
  | .func => match x with
   | .cl xs => some { v := .int .i64 xs.length }
   | _ => none
  | _ => none
@[go_sem] theorem ev_len {t : EqT} {x : Opd} : evalW d g en get (.len t x) = opLen t en (get x) := (rfl)
@[go_sem] theorem len_s {x : Val} : opLen .slice en x = (lenOf x).map fun (m : Nat) => { v := .int .i64 (m : Int) } := by simp only [opLen]; cases lenOf x <;> rfl
@[go_sem] theorem len_str {s : ByteArray} : opLen .str en (.str s) = some { v := .int .i64 s.size } := (rfl)
@[go_sem] theorem len_cap {xs : List Val} : opLen .func en (.cl xs) = some { v := .int .i64 xs.length } := (rfl)
@[go_sem] theorem len_nilm : opLen .map en .nilm = some { v := .int .i64 0 } := (rfl)
@[go_sem] theorem len_fm {ks vs : List Val} : opLen .map en (.fm ks vs) = some { v := .int .i64 ks.length } := (rfl)
@[go_sem] theorem lenOf_fz {xs : List Val} : lenOf (.fz xs) = some xs.length := (rfl)
@[go_sem] theorem lenOf_cl {xs : List Val} : lenOf (.cl xs) = some xs.length := (rfl)
@[go_sem] theorem lenOf_bl {k : Key} {o n : Nat} : lenOf (.bl k o n) = some n := (rfl)
def opExt (i : Nat) (x : Val) : Option Res := match x with | .tup vs => (vs[i]?).map fun v => { v } | _ => none
@[go_sem] theorem ev_ext {i : Nat} {x : Opd} : evalW d g en get (.ext i x) = opExt i (get x) := (rfl)
@[go_sem] theorem ext_tup {i : Nat} {vs : List Val} : opExt i (.tup vs) = (cellAt vs i).map fun v => { v } := (rfl)
def opFa (off : Nat) (x : Val) : Option Res := match x with
  | .fp cs o => some { v := .fp cs (o + off) }
  | .ptr k o => some { v := .ptr k (o + off) }
  | .ep k i o => some { v := .ep k i (o + off) }
  | _ => none
@[go_sem] theorem ev_fa {off : Nat} {x : Opd} : evalW d g en get (.fa off x) = opFa off (get x) := (rfl)
@[go_sem] theorem fa_fp {off o : Nat} {cs : List Val} : opFa off (.fp cs o) = some { v := .fp cs (o + off) } := (rfl)
@[go_sem] theorem fa_ptr {off o : Nat} {k : Key} : opFa off (.ptr k o) = some { v := .ptr k (o + off) } := (rfl)
@[go_sem] theorem fa_ep {off o i : Nat} {k : Key} : opFa off (.ep k i o) = some { v := .ep k i (o + off) } := (rfl)
def opIa (size : Nat) (en : En) (x i : Val) : Option Res := match i with
  | .int _ j =>
   match x with
   | .fz xs | .cl xs => if 0 ≤ j then match xs[j.toNat]? with
     | some y => if y.cells.length = size then some { v := .fp y.cells 0 } else none
     | none => none else none
   | .bl k off len => match en k with
    | some (.blk sz _ _) => if 0 ≤ j ∧ j < len ∧ sz = size then some { v := .ep k (off + j.toNat) 0,rs := [.val k] } else none
    | _ => none
   | _ => none
  | _ => none
@[go_sem] theorem ev_ia {size : Nat} {x i : Opd} : evalW d g en get (.ia size x i) = opIa size en (get x) (get i) := by
 simp only [evalW,eval,opIa]; cases get i <;> rfl
theorem ia_at {size : Nat} {xs : List Val} {k : IntKind} {j : Nat} {y : Val} (h : xs[j]? = some y) (hs : y.cells.length = size) : opIa size en (.fz xs) (.int k j) = some { v := .fp y.cells 0 } := by
 simp [opIa,h,hs]
@[go_sem] theorem ia_map {α : Type} {f : α → Val} {size : Nat} {l : List α} {k : IntKind} {j : Nat} (h : j < l.length) (hs : ((f l[j]).cells.length == size) = true) : opIa size en (.fz (l.map f)) (.int k j) = some { v := .fp (f l[j]).cells 0 } :=
 ia_at (by simp [h]) (by simpa using hs)
@[go_sem] theorem ev_bslice {len size : Nat} {z : List Val} {ps : List (Nat × Opd)} : evalW d g en get (.bslice len size z ps) =
  if len * size ≤ 16777216 then
   match mapO (fun p => match snapD 8 en (get p.2) with | some r => some ((p.1,r.1.wk1),r.2) | none => none) ps with
   | some ps => match fillElems (List.replicate len (ofZero size z false)) size (ps.map (·.1)) with
    | some xs => some { v := .cl xs,ws := (ps.flatMap (·.2)).map .frz,rs := (ps.flatMap (·.2)).map .val }
    | none => none
   | none => none
  else none := (rfl)
@[go_sem] theorem ev_bsliceO {len size : Nat} {z : List Val} {ps : List (Nat × Opd)} : evalW d g en get (.bsliceO len size z ps) =
  if len * size ≤ 16777216 ∧ ps.all (fun p => (get p.2).flat1) = true then
   match fillElems (List.replicate len (ofZero size z false)) size (ps.map fun p => (p.1,get p.2)) with
   | some xs => some { v := .bl ⟨0,d,g⟩ 0 len,ws := [.ent ⟨0,d,g⟩ (some (.blk size xs false))],bump := true }
   | none => none
  else none := (rfl)
def opZ (d g size : Nat) (z : List Val) (x y : Val) : Option Res := match x,y with
  | .cl [],.int .i64 m => if 0 < m ∧ m ≤ 16777216 then
    some { v := .bl ⟨0,d,g⟩ 0 m.toNat,ws := [.ent ⟨0,d,g⟩ (some (.blk size (List.replicate m.toNat (ofZero size z false)) false))],bump := true } else none
  | _,_ => none
@[go_sem] theorem ev_appendZ {size : Nat} {z : List Val} {x y : Opd} : evalW d g en get (.appendZ size z x y) = opZ d g size z (get x) (get y) := (rfl)
def opMinmax (mx : Bool) (xs : List Val) : Option Res := match xs with
  | [.int j a,.int k b] => if j = k then some { v := .int j (if mx then (if b > a then b else a) else (if b < a then b else a)) } else none
  | _ => none
@[go_sem] theorem ev_minmax {mx : Bool} {xs : List Opd} : evalW d g en get (.minmax mx xs) = opMinmax mx (xs.map get) := (rfl)
@[go_sem] theorem max_i {k : IntKind} {a b : Int} : opMinmax true [.int k a,.int k b] = some { v := .int k (max a b) } := by
 simp only [opMinmax,if_true,Option.some.injEq,Res.mk.injEq,Val.int.injEq,true_and,and_true]; omega
@[go_sem] theorem min_i {k : IntKind} {a b : Int} : opMinmax false [.int k a,.int k b] = some { v := .int k (min a b) } := by
 simp only [opMinmax,if_true,Bool.false_eq_true,if_false,Option.some.injEq,Res.mk.injEq,Val.int.injEq,true_and,and_true]; omega
def opNilck (x : Val) : Option Res := match x with
  | .fp cs off => some { v := .fp cs off }
  | .ptr k off => some { v := .ptr k off }
  | .ep k i off => some { v := .ep k i off }
  | .fn f a b => some { v := .fn f a b }
  | .ifc t v => some { v := .ifc t v }
  | _ => none
@[go_sem] theorem ev_nilck {x : Opd} : evalW d g en get (.nilck x) = opNilck (get x) := (rfl)
@[go_sem] theorem nilck_fp {cs : List Val} {o : Nat} : opNilck (.fp cs o) = some { v := .fp cs o } := (rfl)
@[go_sem] theorem nilck_ptr {k : Key} {o : Nat} : opNilck (.ptr k o) = some { v := .ptr k o } := (rfl)
@[go_sem] theorem nilck_fn {f : Nat} {a b : List Val} : opNilck (.fn f a b) = some { v := .fn f a b } := (rfl)
@[go_sem] theorem nilck_ifc {t : Nat} {v : Val} : opNilck (.ifc t v) = some { v := .ifc t v } := (rfl)
end
@[go_sem] theorem fillE_nil {xs : List Val} {size : Nat} : fillElems xs size [] = some xs := (rfl)
@[go_sem] theorem fillE_cons {xs : List Val} {size i : Nat} {v : Val} {rest : List (Nat × Val)} (h1 : v.one = true) (h2 : v.cells.length = size) (h3 : i < xs.length) : fillElems xs size ((i,v) :: rest) = fillElems (xs.set i v) size rest := by
 simp only [fillElems,h1,h2,h3,and_self,if_true]
@[go_sem] theorem rep_0 {z : Val} : List.replicate 0 z = [] := (rfl)
@[go_sem] theorem rep_1 {z : Val} : List.replicate 1 z = [z] := (rfl)
@[go_sem] theorem rep_2 {z : Val} : List.replicate 2 z = [z,z] := (rfl)
@[go_sem] theorem rep_3 {z : Val} : List.replicate 3 z = [z,z,z] := (rfl)
@[go_sem] theorem rep_4 {z : Val} : List.replicate 4 z = [z,z,z,z] := (rfl)
@[go_sem] theorem rep_5 {z : Val} : List.replicate 5 z = [z,z,z,z,z] := (rfl)
@[go_sem] theorem fill_nil {cs : List Val} : fillIn cs [] = some cs := (rfl)
@[go_sem] theorem fill_cons {cs : List Val} {off size : Nat} {v : Val} {rest : List (Nat × Nat × Val)} (h1 : v.one = true) (h2 : v.cells.length = size) (h3 : off + size ≤ cs.length) : fillIn cs ((off,size,v) :: rest) = fillIn (setCells cs off v.cells) rest := by
 simp only [fillIn,h1,h2,h3,and_self,if_true]
@[go_sem] theorem set_nil {cs : List Val} {off : Nat} : setCells cs off [] = cs := (rfl)
@[go_sem] theorem set_cons {cs : List Val} {off : Nat} {v : Val} {vs : List Val} : setCells cs off (v :: vs) = setCells (cs.set off v) (off + 1) vs := (rfl)
attribute [go_sem] List.set_cons_zero List.set_cons_succ
@[go_sem] theorem ia_lit {size : Nat} {xs : List Val} {k : IntKind} {j : Int} : opIa size en (.cl xs) (.int k j) = if 0 ≤ j then (match cellAt xs j.toNat with | some y => if y.cells.length = size then some { v := .fp y.cells 0 } else none | none => none) else none := (rfl)
section
variable {k : IntKind} {a b : Int}
@[go_sem] theorem bin_add : binVal .add .num (.int k a) (.int k b) = some (.int k (k.wrap (a + b))) := by simp [binVal,binInt]
@[go_sem] theorem bin_sub : binVal .sub .num (.int k a) (.int k b) = some (.int k (k.wrap (a - b))) := by simp [binVal,binInt]
@[go_sem] theorem bin_mul : binVal .mul .num (.int k a) (.int k b) = some (.int k (k.wrap (a * b))) := by simp [binVal,binInt]
@[go_sem] theorem bin_quo : binVal .quo .num (.int k a) (.int k b) = if b = 0 then none else some (.int k (k.wrap (a.tdiv b))) := by simp [binVal,binInt]
@[go_sem] theorem bin_rem : binVal .rem .num (.int k a) (.int k b) = if b = 0 then none else some (.int k (a.tmod b)) := by simp [binVal,binInt]
@[go_sem] theorem bin_lss : binVal .lss .num (.int k a) (.int k b) = some (.bool (decide (a < b))) := by simp [binVal,binInt]
@[go_sem] theorem bin_leq : binVal .leq .num (.int k a) (.int k b) = some (.bool (decide (a ≤ b))) := by simp [binVal,binInt]
@[go_sem] theorem bin_gtr : binVal .gtr .num (.int k a) (.int k b) = some (.bool (decide (b < a))) := by simp [binVal,binInt]
@[go_sem] theorem bin_geq : binVal .geq .num (.int k a) (.int k b) = some (.bool (decide (b ≤ a))) := by simp [binVal,binInt]
@[go_sem] theorem bin_eql : binVal .eql .num (.int k a) (.int k b) = some (.bool (decide (a = b))) := by
 simp only [binVal,eqVal,if_true,Option.map_some]; congr 2
@[go_sem] theorem bin_neq : binVal .neq .num (.int k a) (.int k b) = some (.bool (!decide (a = b))) := by
 simp only [binVal,eqVal,if_true,Option.map_some]; congr 3
@[go_sem] theorem bin_eqb {x y : Bool} : binVal .eql .bool (.bool x) (.bool y) = some (.bool (x == y)) := (rfl)
@[go_sem] theorem bin_neb {x y : Bool} : binVal .neq .bool (.bool x) (.bool y) = some (.bool (!(x == y))) := (rfl)
@[go_sem] theorem bin_eqs {x y : ByteArray} : binVal .eql .str (.str x) (.str y) = some (.bool (x.toList == y.toList)) := (rfl)
@[go_sem] theorem bin_nes {x y : ByteArray} : binVal .neq .str (.str x) (.str y) = some (.bool (!(x.toList == y.toList))) := (rfl)
end
@[go_sem] theorem applyAll_nil : W.applyAll en [] = en := (rfl)
@[go_sem] theorem applyAll_cons {w : W} {ws : List W} : W.applyAll en (w :: ws) = W.applyAll (w.apply en) ws := (rfl)
@[go_sem] theorem apply_ent {k : Key} {e : Option Ent} : (W.ent k e).apply en = en.set k e := (rfl)
theorem take1 (cs : List Val) (off : Nat) : (if off + 1 ≤ cs.length then some ((cs.drop off).take 1) else none) = (cs[off]?).map fun v => [v] := by
 by_cases h : off < cs.length
 ·rw [if_pos (by omega),List.getElem?_eq_getElem h,List.drop_eq_getElem_cons h]; rfl
 ·rw [if_neg (by omega),List.getElem?_eq_none (by omega)]; rfl
theorem read1 (cs : List Val) (off : Nat) (rs : List R) : (if off + 1 ≤ cs.length then some ((cs.drop off).take 1,rs) else none) = (cellAt cs off).map fun v => ([v],rs) := by
 have := take1 cs off
 unfold cellAt
 by_cases h : off + 1 ≤ cs.length
 ·rw [if_pos h] at this ⊢; cases hc : cs[off]? with
  | none => rw [hc] at this; cases this
  | some v => rw [hc] at this; simp only [Option.map,Option.some.injEq] at this ⊢; rw [this]
 ·rw [if_neg h] at this ⊢; cases hc : cs[off]? with
  | none => rfl
  | some v => rw [hc] at this; cases this
@[go_sem] theorem read_fp1 {cs : List Val} {off : Nat} : readAt en (.fp cs off) 1 = (cellAt cs off).map fun v => ([v],[]) := read1 cs off []
@[go_sem] theorem read_ptr {k : Key} {off n : Nat} : readAt en (.ptr k off) n = (match en k with | some (.box cs _) => if off + n ≤ cs.length then some ((cs.drop off).take n,[.cells k off n]) else none | _ => none) := (rfl)
@[go_sem] theorem read_fp {cs : List Val} {off n : Nat} : readAt en (.fp cs off) n = if off + n ≤ cs.length then some ((cs.drop off).take n,[]) else none := (rfl)
@[go_sem] theorem opt_map_some {α β : Type} {f : α → β} {x : α} : (some x).map f = some (f x) := (rfl)
@[go_sem] theorem opt_map_none {α β : Type} {f : α → β} : (none : Option α).map f = none := (rfl)
attribute [go_sem] List.drop_zero List.drop_succ_cons List.take_zero List.take_succ_cons List.length_cons List.length_nil List.take_nil List.drop_nil
section
variable {st : St} {R : Ex → St → Prop}
@[congr] theorem wp_congr {c : LCode} : Wp L c st R = Wp L c st R := (rfl)
@[go_sem] theorem wp_start {c : LCode} {args : List Val} : Wp L c (start args) R = Wp L c ⟨fun i => args.getD i (.tup []),fun _ => none,fun _ _ => 0⟩ R := (rfl)
@[go_sem] theorem wp_skip : Wp L .skip st R = R .normal st := (rfl)
@[go_sem] theorem wp_ops {l : List LOper} : Wp L (.ops l) st R = WOps L l st (R .normal) := (rfl)
@[go_sem] theorem wp_draw {l : List LOper} : Wp L (.draw l []) st R = WOps L l st (R .normal) := by simp [Wp]
def WCond (v : Val) (a b : Prop) : Prop := match v with | .bool t => if t = true then a else b | _ => False
@[go_sem] theorem wp_cond {x : Opd} {a b : LCode} : Wp L (.cond x a b) ⟨fr,en,cnt⟩ R = WCond (St.get fr x) (Wp L a ⟨fr,en,cnt⟩ R) (Wp L b ⟨fr,en,cnt⟩ R) := (rfl)
@[congr] theorem wcond_congr {v v' : Val} {a b : Prop} (h : v = v') : WCond v a b = WCond v' a b := by rw [h]
@[go_sem] theorem wcond_t {a b : Prop} : WCond (.bool true) a b = a := (rfl)
@[go_sem] theorem wcond_f {a b : Prop} : WCond (.bool false) a b = b := (rfl)
@[go_sem] theorem wp_block {id : Nat} {b : LCode} : Wp L (.block id b) st R = Wp L b st fun e st' => match e with
  | .exit id' => if id' = id then R .normal st' else R (.exit id') st'
  | .normal => R .normal st'
  | .ret => R .ret st'
  | .panic v => R (.panic v) st' := (rfl)
@[go_sem] theorem calm_n : Ex.calm .normal = true := (rfl)
@[go_sem] theorem calm_r : Ex.calm .ret = true := (rfl)
@[go_sem] theorem calm_e {id : Nat} : Ex.calm (.exit id) = true := (rfl)
@[go_sem] theorem wp_exit {id : Nat} : Wp L (.exit id) st R = R (.exit id) st := (rfl)
@[go_sem] theorem wp_ret : Wp L .ret st R = R .ret st := (rfl)
end
attribute [go_sem] Ex.ends WRes readRes tupOf ownOf and_true List.getD_cons_zero List.getD_cons_succ List.getD_nil List.map_cons List.map_nil List.append_nil List.nil_append List.cons_append List.flatMap_cons List.flatMap_nil
 not_false_eq_true not_true_eq_false ne_eq Option.map_some List.all_cons List.all_nil true_and and_true Bool.and_true Bool.true_and Bool.and_false Bool.false_and if_true if_false Bool.false_eq_true Bool.not_true Bool.not_false Nat.zero_add Nat.add_zero
section
variable {k : IntKind} {i : Int} {b : Bool} {x : ByteArray} {xs ys : List Val} {m : Nat}
@[go_sem] theorem wk_int : Val.wk (.int k i) = .int k i := (rfl)
@[go_sem] theorem wk_bool : Val.wk (.bool b) = .bool b := (rfl)
@[go_sem] theorem wk_str : Val.wk (.str x) = .str x := (rfl)
@[go_sem] theorem wk_fz : Val.wk (.fz xs) = .fz xs := (rfl)
@[go_sem] theorem wk_cl : Val.wk (.cl xs) = .fz xs := (rfl)
@[go_sem] theorem wk_fp : Val.wk (.fp xs m) = .fp xs m := (rfl)
@[go_sem] theorem wk_fn : Val.wk (.fn m xs ys) = .fn m xs ys := (rfl)
@[go_sem] theorem wk_nili : Val.wk .nili = .nili := (rfl)
@[go_sem] theorem wk_nilp : Val.wk .nilp = .nilp := (rfl)
@[go_sem] theorem wk_ifc {v : Val} : Val.wk (.ifc m v) = .ifc m v := (rfl)
@[go_sem] theorem wk_fm : Val.wk (.fm xs ys) = .fm xs ys := (rfl)
@[go_sem] theorem wk_agg : Val.wk (.agg xs) = .agg (xs.map Val.wk0) := (rfl)
@[go_sem] theorem wk_tup : Val.wk (.tup xs) = .tup (xs.map Val.wk1) := (rfl)
@[go_sem] theorem wk1_int : Val.wk1 (.int k i) = .int k i := (rfl)
@[go_sem] theorem wk1_bool : Val.wk1 (.bool b) = .bool b := (rfl)
@[go_sem] theorem wk1_str : Val.wk1 (.str x) = .str x := (rfl)
@[go_sem] theorem wk1_fz : Val.wk1 (.fz xs) = .fz xs := (rfl)
@[go_sem] theorem wk1_cl : Val.wk1 (.cl xs) = .fz xs := (rfl)
@[go_sem] theorem wk1_fp : Val.wk1 (.fp xs m) = .fp xs m := (rfl)
@[go_sem] theorem wk1_fn : Val.wk1 (.fn m xs ys) = .fn m xs ys := (rfl)
@[go_sem] theorem wk1_nili : Val.wk1 .nili = .nili := (rfl)
@[go_sem] theorem wk1_nilp : Val.wk1 .nilp = .nilp := (rfl)
@[go_sem] theorem wk1_nilm : Val.wk1 .nilm = .nilm := (rfl)
@[go_sem] theorem wk1_ifc {v : Val} : Val.wk1 (.ifc m v) = .ifc m v := (rfl)
@[go_sem] theorem wk1_fm : Val.wk1 (.fm xs ys) = .fm xs ys := (rfl)
@[go_sem] theorem wk1_agg : Val.wk1 (.agg xs) = .agg (xs.map Val.wk0) := (rfl)
@[go_sem] theorem wk0_int : Val.wk0 (.int k i) = .int k i := (rfl)
@[go_sem] theorem wk0_bool : Val.wk0 (.bool b) = .bool b := (rfl)
@[go_sem] theorem wk0_str : Val.wk0 (.str x) = .str x := (rfl)
@[go_sem] theorem wk0_fz : Val.wk0 (.fz xs) = .fz xs := (rfl)
@[go_sem] theorem wk0_cl : Val.wk0 (.cl xs) = .fz xs := (rfl)
@[go_sem] theorem wk0_fp : Val.wk0 (.fp xs m) = .fp xs m := (rfl)
@[go_sem] theorem wk0_fn : Val.wk0 (.fn m xs ys) = .fn m xs ys := (rfl)
@[go_sem] theorem wk0_nili : Val.wk0 .nili = .nili := (rfl)
@[go_sem] theorem wk0_nilp : Val.wk0 .nilp = .nilp := (rfl)
@[go_sem] theorem wk0_ifc {v : Val} : Val.wk0 (.ifc m v) = .ifc m v := (rfl)
@[go_sem] theorem flat_int : Val.flat (.int k i) = true := (rfl)
@[go_sem] theorem flat_bool : Val.flat (.bool b) = true := (rfl)
@[go_sem] theorem flat_str : Val.flat (.str x) = true := (rfl)
@[go_sem] theorem cells_agg : Val.cells (.agg xs) = xs := (rfl)
@[go_sem] theorem cells_int : Val.cells (.int k i) = [.int k i] := (rfl)
@[go_sem] theorem cells_bool : Val.cells (.bool b) = [.bool b] := (rfl)
@[go_sem] theorem cells_str : Val.cells (.str x) = [.str x] := (rfl)
@[go_sem] theorem cells_fz : Val.cells (.fz xs) = [.fz xs] := (rfl)
@[go_sem] theorem one_int : Val.one (.int k i) = true := (rfl)
@[go_sem] theorem one_bool : Val.one (.bool b) = true := (rfl)
@[go_sem] theorem one_str : Val.one (.str x) = true := (rfl)
@[go_sem] theorem one_fz : Val.one (.fz xs) = true := (rfl)
@[go_sem] theorem one_cl : Val.one (.cl xs) = true := (rfl)
@[go_sem] theorem one_agg : Val.one (.agg xs) = true := (rfl)
end
section
variable {n : Nat}
@[go_sem] theorem sn_bool {b : Bool} : snapD (n + 1) en (.bool b) = some (.bool b,[]) := (rfl)
@[go_sem] theorem sn_int {k : IntKind} {i : Int} : snapD (n + 1) en (.int k i) = some (.int k i,[]) := (rfl)
@[go_sem] theorem sn_str {s : ByteArray} : snapD (n + 1) en (.str s) = some (.str s,[]) := (rfl)
@[go_sem] theorem sn_nilp : snapD (n + 1) en .nilp = some (.nilp,[]) := (rfl)
@[go_sem] theorem sn_nilm : snapD (n + 1) en .nilm = some (.nilm,[]) := (rfl)
@[go_sem] theorem sn_nilf : snapD (n + 1) en .nilf = some (.nilf,[]) := (rfl)
@[go_sem] theorem sn_nili : snapD (n + 1) en .nili = some (.nili,[]) := (rfl)
@[go_sem] theorem sn_fz {xs : List Val} : snapD (n + 1) en (.fz xs) = some (.fz xs,[]) := (rfl)
@[go_sem] theorem sn_cl {xs : List Val} : snapD (n + 1) en (.cl xs) = some (.cl xs,[]) := (rfl)
@[go_sem] theorem sn_fp {xs : List Val} {off : Nat} : snapD (n + 1) en (.fp xs off) = some (.fp xs off,[]) := (rfl)
@[go_sem] theorem sn_fm {xs ys : List Val} : snapD (n + 1) en (.fm xs ys) = some (.fm xs ys,[]) := (rfl)
@[go_sem] theorem sn_agg {cs : List Val} : snapD (n + 1) en (.agg cs) = (match mapO (snapD n en) cs with | some rs => some (.agg (rs.map (·.1)),rs.flatMap (·.2)) | none => none) := (rfl)
@[go_sem] theorem sn_tup {cs : List Val} : snapD (n + 1) en (.tup cs) = (match mapO (snapD n en) cs with | some rs => some (.tup (rs.map (·.1)),rs.flatMap (·.2)) | none => none) := (rfl)
@[go_sem] theorem sn_ptr {k : Key} {off : Nat} : snapD (n + 1) en (.ptr k off) = (match en k with | some (.box cs _) => (match mapO (snapD n en) cs with | some rs => some (.fp (rs.map (·.1)) off,k :: rs.flatMap (·.2)) | none => none) | _ => none) := (rfl)
@[go_sem] theorem sn_bl {k : Key} {off len : Nat} : snapD (n + 1) en (.bl k off len) = (match en k with | some (.blk _ xs _) => if k.deep = true then none else if off + len ≤ xs.length then some (.fz ((xs.drop off).take len),[k]) else none | _ => none) := (rfl)
@[go_sem] theorem deep_no {n t g : Nat} (h : ¬ n = 3) : Key.deep ⟨n,t,g⟩ = false := by simp [Key.deep,h]
@[go_sem] theorem deep_0 {t g : Nat} : Key.deep ⟨0,t,g⟩ = false := (rfl)
end
theorem wrap_in {n : Int} (h : -9223372036854775808 ≤ n ∧ n ≤ 9223372036854775807) : IntKind.i64.wrap n = n := IntWalk.i64_in n h
def Few (n : Nat) : Prop := n ≤ 9223372036854775807
@[go_sem] theorem wrap_succ {k n : Nat} (h : k < n) (hn : Few n) : IntKind.i64.wrap ((k : Int) + 1) = ((k + 1 : Nat) : Int) := by
 unfold Few at hn; rw [wrap_in (by omega)]; rfl
attribute [go_sem] Int.ofNat_lt Int.ofNat_le Int.ofNat_inj decide_true decide_false List.length_map
@[go_sem] theorem eq2 {k : IntKind} {a b c d : Int} : binVal .eql (.agg [.num,.num]) (.agg [.int k a,.int k b]) (.agg [.int k c,.int k d]) = some (.bool (decide (a = c) && decide (b = d))) := by
 simp only [binVal,eqVal,List.length_cons,List.length_nil,and_self,if_true,eqCells,eqCell]
 have e : (a == c) = decide (a = c) := by by_cases h : a = c <;> simp [h]
 have e' : (b == d) = decide (b = d) := by by_cases h : b = d <;> simp [h]
 rw [e,e']
 by_cases h : a = c <;> by_cases h' : b = d <;> simp [h,h']
@[go_sem] theorem ne2 {k : IntKind} {a b c d : Int} : binVal .neq (.agg [.num,.num]) (.agg [.int k a,.int k b]) (.agg [.int k c,.int k d]) = some (.bool (!(decide (a = c) && decide (b = d)))) := by
 simp only [binVal,eqVal,List.length_cons,List.length_nil,and_self,if_true,eqCells,eqCell]
 have e : (a == c) = decide (a = c) := by by_cases h : a = c <;> simp [h]
 have e' : (b == d) = decide (b = d) := by by_cases h : b = d <;> simp [h]
 rw [e,e']
 by_cases h : a = c <;> by_cases h' : b = d <;> simp [h,h']
end
end Go.Abs
namespace Go.Abs
def ints (l : List Int) : Val := .fz (l.map (.int .i64))
structure MVal where
 kind : Int
 n : Int
 deriving DecidableEq,Inhabited
def MVal.enc (v : MVal) : Val := .agg [.int .i64 v.kind,.int .i64 v.n]
structure MFrame where
 node : Int
 env : List MVal
 vals : List MVal
 deriving DecidableEq,Inhabited
def MFrame.enc (f : MFrame) : Val := .agg [.int .i64 f.node,.fz (f.env.map MVal.enc),.fz (f.vals.map MVal.enc)]
structure MObj where
 form : Int
 n : Int
 vals : List MVal
 frames : List MFrame
 deriving DecidableEq,Inhabited
def MObj.enc (o : MObj) : Val := .agg [.int .i64 o.form,.int .i64 o.n,.fz (o.vals.map MVal.enc),.fz (o.frames.map MFrame.enc)]
structure MOut where
 port : Int
 n : Int
 deriving DecidableEq,Inhabited
def MOut.enc (o : MOut) : Val := .agg [.int .i64 o.port,.int .i64 o.n]
structure MWorld where
 objs : List MObj
 tasks : List Int
 outs : List MOut
 ins : List Int
 used : Int
 deriving DecidableEq,Inhabited
def MWorld.cells (w : MWorld) : List Val := [.fz (w.objs.map MObj.enc),ints w.tasks,.fz (w.outs.map MOut.enc),ints w.ins,.int .i64 w.used]
structure RState where
 world : MWorld
 ages : List Int
 marks : List Int
 cycle : Int
 deriving DecidableEq,Inhabited
def RState.cells (s : RState) : List Val := s.world.cells ++ [ints s.ages,ints s.marks,.int .i64 s.cycle]
structure BCon where
 name : ByteArray
 args : Int
 deriving DecidableEq,Inhabited
def BCon.enc (c : BCon) : Val := .agg [.str c.name,.int .i64 c.args]
inductive Pat where
 | mk (form n : Int) (text : ByteArray) (parts : List Pat)
 deriving Inhabited
mutual
def Pat.enc : Pat → Val
 | .mk f n t ps => .agg [.int .i64 f,.int .i64 n,.str t,.fz (Pat.encL ps)]
def Pat.encL : List Pat → List Val
 | [] => []
 | p :: ps => p.enc :: Pat.encL ps
end
theorem Pat.encL_map : ∀ ps : List Pat,Pat.encL ps = ps.map Pat.enc
 | [] => rfl
 | p :: ps => by rw [Pat.encL,Pat.encL_map ps]; rfl
def Pat.form : Pat → Int | .mk f _ _ _ => f
def Pat.n : Pat → Int | .mk _ n _ _ => n
def Pat.text : Pat → ByteArray | .mk _ _ t _ => t
def Pat.parts : Pat → List Pat | .mk _ _ _ l => l
theorem Pat.enc_eq (p : Pat) : p.enc = .agg [.int .i64 p.form,.int .i64 p.n,.str p.text,.fz (p.parts.map Pat.enc)] := by
 cases p; simp only [Pat.enc,Pat.encL_map,Pat.form,Pat.n,Pat.text,Pat.parts]
structure BNode where
 op : Int
 n : Int
 kids : List Int
 pats : List Pat
 deriving Inhabited
def BNode.enc (o : BNode) : Val := .agg [.int .i64 o.op,.int .i64 o.n,ints o.kids,.fz (o.pats.map Pat.enc)]
structure BProg where
 nodes : List BNode
 funs : List Int
 main : Int
 cons : List BCon
 deriving Inhabited
def BProg.cells (p : BProg) : List Val := [.fz (p.nodes.map BNode.enc),ints p.funs,.int .i64 p.main,.fz (p.cons.map BCon.enc)]
attribute [go_sem] MVal.enc MFrame.enc MObj.enc MOut.enc BCon.enc BNode.enc Pat.enc_eq MWorld.cells BProg.cells RState.cells ints
@[match_pattern] abbrev Val.i (n : Int) : Val := .int .i64 n
abbrev Val.is (l : List Int) : Val := .fz (l.map (.int .i64))
abbrev MWorld.cs (w : MWorld) : List Val := [.fz (w.objs.map MObj.enc),.is w.tasks,.fz (w.outs.map MOut.enc),.is w.ins,.int .i64 w.used]
abbrev BProg.cs (p : BProg) : List Val := [.fz (p.nodes.map BNode.enc),.is p.funs,.int .i64 p.main,.fz (p.cons.map BCon.enc)]
end Go.Abs
namespace Go.Abs
def lead (P : Program) (g : Nat) : List Nat := (P.funcs[g]?).elim [] P.leadsTo
theorem via_sub {P : Program} {G : Nat → Prop} (hc : ∀ g,G g → ∀ h ∈ lead P g,G h) : ∀ (n : Nat) (todo seen : List Nat),(∀ g ∈ todo,G g) → (∀ g ∈ seen,G g) → ∀ g ∈ P.closureVia n todo seen,G g
 | 0,_,seen,_,hs => fun g hg => hs g (by simpa [Program.closureVia] using hg)
 | n + 1,[],seen,_,hs => fun g hg => hs g (by simpa [Program.closureVia] using hg)
 | n + 1,f :: todo,seen,ht,hs => by
  rw [Program.closureVia]
  split
  ·exact via_sub hc n todo seen (fun g hg => ht g (List.mem_cons_of_mem _ hg)) hs
  ·refine via_sub hc n _ _ (fun g hg => ?_) (fun g hg => ?_)
   ·rcases List.mem_append.1 hg with h | h
    ·exact hc f (ht f List.mem_cons_self) g h
    ·exact ht g (List.mem_cons_of_mem _ h)
   ·rcases List.mem_cons.1 hg with rfl | h
    ·exact ht g List.mem_cons_self
    ·exact hs g h
def rest (P : Program) (seen : List Nat) : List Nat → Nat
 | [] => 0
 | g :: l => (if seen.contains g then 0 else (lead P g).length) + rest P seen l
theorem rest_le {P : Program} {seen : List Nat} (f : Nat) : ∀ l,rest P (f :: seen) l ≤ rest P seen l
 | [] => Nat.le_refl _
 | g :: l => by
  have := rest_le (P := P) (seen := seen) f l
  simp only [rest,List.contains_cons]
  by_cases h : (g == f) = true <;> by_cases h2 : seen.contains g = true <;> simp [h,h2] <;> omega
theorem rest_cons {P : Program} {seen : List Nat} {f : Nat} (hf : seen.contains f = false) : ∀ l,f ∈ l → rest P (f :: seen) l + (lead P f).length ≤ rest P seen l
 | [],h => by cases h
 | g :: l,h => by
  have h1 := rest_le (P := P) (seen := seen) f l
  simp only [rest,List.contains_cons]
  by_cases e : g = f
  ·subst e
   simp only [beq_self_eq_true,Bool.true_or,if_true,hf,Bool.false_eq_true,if_false]
   omega
  ·have hm : f ∈ l := by
    rcases List.mem_cons.1 h with h | h
    ·exact absurd h.symm e
    ·exact h
   have h2 := rest_cons (P := P) hf l hm
   have : (g == f) = false := by simpa using e
   simp only [this,Bool.false_or]
   omega
theorem via_all {P : Program} : ∀ (n : Nat) (todo seen : List Nat),todo.length + rest P seen (List.range P.funcs.size) ≤ n → (∀ g ∈ seen,∀ h ∈ lead P g,h ∈ seen ∨ h ∈ todo) →
  (∀ g,g ∈ seen ∨ g ∈ todo → g ∈ P.closureVia n todo seen) ∧ ∀ g ∈ P.closureVia n todo seen,∀ h ∈ lead P g,h ∈ P.closureVia n todo seen
 | 0,todo,seen,hn,hi => by
  have : todo = [] := List.length_eq_zero_iff.1 (by omega)
  subst this
  refine ⟨fun g hg => ?_,fun g hg h hh => ?_⟩
  ·rcases hg with h | h
   ·simpa [Program.closureVia] using h
   ·cases h
  ·have hg' : g ∈ seen := by simpa [Program.closureVia] using hg
   rcases hi g hg' h hh with h | h
   ·simpa [Program.closureVia] using h
   ·cases h
 | n + 1,[],seen,hn,hi => by
  refine ⟨fun g hg => ?_,fun g hg h hh => ?_⟩
  ·rcases hg with h | h
   ·simpa [Program.closureVia] using h
   ·cases h
  ·have hg' : g ∈ seen := by simpa [Program.closureVia] using hg
   rcases hi g hg' h hh with h | h
   ·simpa [Program.closureVia] using h
   ·cases h
 | n + 1,f :: todo,seen,hn,hi => by
  rw [Program.closureVia]
  by_cases hf : seen.contains f = true
  ·rw [if_pos hf]
   have hfs : f ∈ seen := by simpa using hf
   simp only [List.length_cons] at hn
   obtain ⟨a,b⟩ := via_all (P := P) n todo seen (by omega) (fun g hg h hh => by
    rcases hi g hg h hh with h1 | h1
    ·exact .inl h1
    ·rcases List.mem_cons.1 h1 with rfl | h1
     ·exact .inl hfs
     ·exact .inr h1)
   refine ⟨fun g hg => a g ?_,b⟩
   rcases hg with h | h
   ·exact .inl h
   ·rcases List.mem_cons.1 h with rfl | h
    ·exact .inl hfs
    ·exact .inr h
  ·rw [if_neg hf]
   have hf' : seen.contains f = false := by simpa using hf
   have hlen : (lead P f).length + rest P (f :: seen) (List.range P.funcs.size) ≤ rest P seen (List.range P.funcs.size) := by
    by_cases hs : f < P.funcs.size
    ·have := rest_cons (P := P) hf' _ (List.mem_range.2 hs)
     omega
    ·have : lead P f = [] := by unfold lead; rw [Array.getElem?_eq_none (by omega)]; rfl
     rw [this]
     have := rest_le (P := P) (seen := seen) f (List.range P.funcs.size)
     simpa using this
   simp only [List.length_cons] at hn
   obtain ⟨a,b⟩ := via_all (P := P) n (lead P f ++ todo) (f :: seen) (by simp only [List.length_append]; omega) (fun g hg h hh => by
    rcases List.mem_cons.1 hg with rfl | hg
    ·exact .inr (List.mem_append_left _ hh)
    ·rcases hi g hg h hh with h1 | h1
     ·exact .inl (List.mem_cons_of_mem _ h1)
     ·rcases List.mem_cons.1 h1 with rfl | h1
      ·exact .inl List.mem_cons_self
      ·exact .inr (List.mem_append_right _ h1))
   refine ⟨fun g hg => a g ?_,b⟩
   rcases hg with h | h
   ·exact .inl (List.mem_cons_of_mem _ h)
   ·rcases List.mem_cons.1 h with rfl | h
    ·exact .inl List.mem_cons_self
    ·exact .inr (List.mem_append_right _ h)
theorem rest_all {P : Program} : ∀ (l : List Func) (k : Nat),(∀ i,i < l.length → P.funcs[k + i]? = l[i]?) → rest P [] (List.range' k l.length) ≤ (l.map fun g => (P.leadsTo g).length + 1).sum
 | [],_,_ => Nat.zero_le _
 | g :: l,k,h => by
  have h0 := h 0 (by simp)
  have ih := rest_all (P := P) l (k + 1) (fun i hi => by
   have := h (i + 1) (by simp; omega)
   rw [show k + 1 + i = k + (i + 1) by omega,this]; rfl)
  simp only [Nat.add_zero,List.getElem?_cons_zero] at h0
  have e : lead P k = P.leadsTo g := by unfold lead; rw [h0]; rfl
  simp only [List.length_cons,List.range'_succ,rest,e,List.map_cons,List.sum_cons]
  have : ([] : List Nat).contains k = false := rfl
  rw [this]
  simp only [Bool.false_eq_true,if_false]
  omega
theorem closure_all (P : Program) (f : Nat) : f ∈ P.closure f ∧ ∀ g ∈ P.closure f,∀ h ∈ lead P g,h ∈ P.closure f := by
 have hr := rest_all (P := P) P.funcs.toList 0 (fun i _ => by simp)
 rw [← List.range_eq_range',Array.length_toList] at hr
 obtain ⟨a,b⟩ := via_all (P := P) (1 + (P.funcs.toList.map fun g => (P.leadsTo g).length + 1).sum) [f] [] (by simp only [List.length_cons,List.length_nil]; omega) (fun g hg => by cases hg)
 exact ⟨a f (.inr List.mem_cons_self),b⟩
theorem closure_step {P : Program} {f g h : Nat} {fn : Func} (hg : g ∈ P.closure f) (hfn : P.funcs[g]? = some fn) (hh : (P.leadsTo fn).contains h = true) : h ∈ P.closure f :=
 (closure_all P f).2 g hg h (by unfold lead; rw [hfn]; simpa using hh)
theorem zip_of {P : Program} {q : Func → Nat → Bool} (h : (P.funcs.toList.zipIdx.all fun p => q p.1 p.2) = true) {g : Nat} {fn : Func} (hfn : P.funcs[g]? = some fn) : q fn g = true := by
 rw [List.all_eq_true] at h
 exact h (fn,g) (by rw [List.mem_zipIdx_iff_getElem?]; simpa using hfn)
def tameB (P : Program) (good : Nat → Bool) : Bool := P.funcs.toList.zipIdx.all fun p => (p.1.body.elim [] Code.globalsNamed).isEmpty && (!good p.2 || ((P.leadsTo p.1).all good && !(p.1.ours || p.1.body.isNone || p.1.name == "runtime.NumGoroutine")))
theorem closure_tame {P : Program} {good : Nat → Bool} {f : Nat} (h : tameB P good = true) (hf : good f = true) : P.inPlace f = [] ∧ P.varsNamed f = [] := by
 have hz := fun g fn hfn => zip_of (q := fun a b => (a.body.elim [] Code.globalsNamed).isEmpty && (!good b || ((P.leadsTo a).all good && !(a.ours || a.body.isNone || a.name == "runtime.NumGoroutine")))) h (g := g) (fn := fn) hfn
 have hg : ∀ g ∈ P.closure f,good g = true := by
  refine via_sub (P := P) (G := fun g => good g = true) (fun g hg x hx => ?_) _ _ _ (fun g hg => ?_) (fun g hg => by cases hg)
  ·unfold lead at hx
   cases hfn : P.funcs[g]? with
   | none => rw [hfn] at hx; cases hx
   | some fn =>
    rw [hfn] at hx
    have := hz g fn hfn
    simp only [hg,Bool.not_true,Bool.false_or,Bool.and_eq_true,List.all_eq_true] at this
    exact this.2.1 x hx
  ·rw [List.mem_singleton.1 hg]; exact hf
 have hodd : ∀ g ∈ P.closure f,∀ fn,P.funcs[g]? = some fn → (fn.ours || fn.body.isNone || fn.name == "runtime.NumGoroutine") = false := fun g h1 fn hfn => by
  have := hz g fn hfn
  simp only [hg g h1,Bool.not_true,Bool.false_or,Bool.and_eq_true] at this
  simpa using this.2.2
 constructor
 ·unfold Program.inPlace
  rw [List.filterMap_eq_nil_iff]
  intro g h1
  cases hfn : P.funcs[g]? with
  | none => rfl
  | some fn =>
   simp only [Option.bind_some]
   rw [hodd g h1 fn hfn]; rfl
 ·unfold Program.varsNamed
  have e1 : ((P.closure f).flatMap fun g => ((P.funcs[g]?).bind (·.body)).elim [] Code.globalsNamed) = [] := by
   rw [List.flatMap_eq_nil_iff]
   intro g h1
   cases hfn : P.funcs[g]? with
   | none => rfl
   | some fn =>
    have := hz g fn hfn
    simp only [Bool.and_eq_true,List.isEmpty_iff] at this
    simp only [Option.bind_some]
    exact this.1
  have e2 : ((P.closure f).filterMap fun g => (P.funcs[g]?).bind fun fn => if fn.body.isNone then entryReads.lookup fn.name else none) = [] := by
   rw [List.filterMap_eq_nil_iff]
   intro g h1
   cases hfn : P.funcs[g]? with
   | none => rfl
   | some fn =>
    have := hodd g h1 fn hfn
    simp only [Bool.or_eq_false_iff] at this
    simp only [Option.bind_some,this.1.2,Bool.false_eq_true,if_false]
  rw [e1,e2]; rfl
theorem unf_of {P : Program} {f g : Nat} {fn : Func} (hg : g ∈ P.closure f) (hfn : P.funcs[g]? = some fn) (h : (match fn.body with | some c => c.unfollowed | none => entryCalls fn) = true) : P.unfollowed f = true ∧ P.recurses f = true := by
 have : P.unfollowed f = true := by
  unfold Program.unfollowed
  rw [List.any_eq_true]
  exact ⟨g,hg,by rw [hfn]; exact h⟩
 exact ⟨this,by unfold Program.recurses; rw [this]; rfl⟩
end Go.Abs
