/- The interpreter of the translated code, and its proof: part D. -/
import Derived.Test.YthpmfghgoabnhaaGreatHxA
import Derived.Test.YthpmfghgoabnhaaGreatHxC
import Derived.IntWalk
set_option linter.all false
namespace Go.Abs
def CLe (c c' : CallFn) : Prop := ∀ f a r,c f a = some r → c' f a = some r
def ILe (i j : Inl) : Prop := (∀ f a s r,i.fn f a s = some r → j.fn f a s = some r) ∧ ∀ k a s r,i.yld k a s = some r → j.yld k a s = some r
def XLe (x y : LCode → St → Option (Ex × St)) : Prop := ∀ c s r,x c s = some r → y c s = some r
theorem eval_mono {n : Nat} {c c' : CallFn} (h : CLe c c') {me d g : Nat} {en : En} {get : Opd → Val} {op : LOp} {r : Res} (he : eval n c me d g en get op = some r) : eval n c' me d g en get op = some r := by
 by_cases hc : ∃ f args,op = .call f args
 ·obtain ⟨f,args,rfl⟩ := hc
  simp only [eval] at he ⊢
  split at he
  case h_2 => cases he
  split at he
  case h_2 => cases he
  split at he
  case h_2 => cases he
  rename_i hv
  rw [h _ _ _ hv]; exact he
 ·cases op <;> first | exact absurd ⟨_,_,rfl⟩ hc | exact he
theorem inlcall_mono {i j : Inl} (h : ILe i j) {f : Val} {a : List Val} {s : St} {r : Val × St} (he : i.call f a s = some r) : j.call f a s = some r := by
 cases f <;> simp only [Inl.call,reduceCtorEq] at he ⊢
 ·exact h.1 _ _ _ _ he
 ·exact h.2 _ _ _ _ he
theorem step_mono {n : Nat} {c c' : CallFn} {i j : Inl} (hc : CLe c c') (hi : ILe i j) {st : St} {o : LOper} {r : St × Res} (h : step n c i 0 st o = some r) : step n c' j 0 st o = some r := by
 obtain ⟨dst,op,g⟩ := o
 simp only [step] at h ⊢
 split at h
 ·exact h
 ·cases op with
  | icall f args =>
   simp only at h ⊢
   split at h
   case h_2 => cases h
   rename_i hv
   rw [inlcall_mono hi hv]; exact h
  | _ =>
   simp only at h ⊢
   split at h
   case h_2 => cases h
   rename_i hv
   rw [eval_mono hc hv]; exact h
 ·cases h
theorem runOps_mono {n : Nat} {c c' : CallFn} {i j : Inl} (hc : CLe c c') (hi : ILe i j) : ∀ (l : List LOper) {st r : St},runOps n c i 0 l st = some r → runOps n c' j 0 l st = some r
 | [],_,_,h => h
 | o :: l,st,r,h => by
  simp only [runOps] at h ⊢
  split at h
  case h_2 => cases h
  rename_i hs
  rw [step_mono hc hi hs]; exact runOps_mono hc hi l h
theorem runRec_mono {n : Nat} {c c' : CallFn} {i j : Inl} (hc : CLe c c') (hi : ILe i j) : ∀ (l : List LOper) {st : St} {r : St × List Res},runRec n c i 0 l st = some r → runRec n c' j 0 l st = some r
 | [],_,_,h => h
 | o :: l,st,r,h => by
  simp only [runRec] at h ⊢
  split at h
  case h_2 => cases h
  rename_i hs
  rw [step_mono hc hi hs]
  split at h
  case h_2 => cases h
  rename_i hr
  simp only [runRec_mono hc hi l hr]; exact h
theorem body_mono {x y : LCode → St → Option (Ex × St)} (h : XLe x y) {lf : LFunc} {n : Nat} {a : List Val} {r : Val} (hb : callBody lf n x a = some r) : callBody lf n y a = some r := by
 simp only [callBody] at hb ⊢
 split at hb
 case h_2 => cases hb
 rename_i hx
 rw [h _ _ _ hx]; exact hb
theorem same_mono {a b a' b' : Option Val} {r : Val} (ha : ∀ r,a = some r → a' = some r) (hb : ∀ r,b = some r → b' = some r) (h : sameEmpty a b = some r) : sameEmpty a' b' = some r := by
 unfold sameEmpty at h
 split at h <;> first | (cases h; done) | (rw [ha _ rfl,hb _ rfl]; exact h)
theorem call_mono {L : Prog} {x y : LCode → St → Option (Ex × St)} (h : XLe x y) {n : Nat} : CLe (callWith L n x) (callWith L n y) := by
 intro f a r hc
 simp only [callWith] at hc ⊢
 split at hc
 ·cases hc
 split at hc
 case isFalse => cases hc
 rename_i hl
 rw [if_pos hl]
 split at hc
 ·rename_i ha
  rw [if_pos ha]
  exact same_mono (fun _ => body_mono h) (fun _ => body_mono h) hc
 ·rename_i ha
  rw [if_neg ha]; exact body_mono h hc
theorem inl_mono {L : Prog} {x y : LCode → St → Option (Ex × St)} (h : XLe x y) : ILe (inlOf L x) (inlOf L y) := by
 refine ⟨fun f a s r hc => ?_,fun k a s r hc => ?_⟩
 ·simp only [inlOf,inlWith] at hc ⊢
  split at hc
  ·cases hc
  split at hc
  case isFalse => cases hc
  rename_i hl
  rw [if_pos hl]
  split at hc
  ·rename_i ha
   rw [if_pos ha]
   obtain ⟨v,hv,rfl⟩ := Option.map_eq_some_iff.1 hc
   rw [same_mono (fun _ => body_mono h) (fun _ => body_mono h) hv]; rfl
  ·rename_i ha
   rw [if_neg ha]
   split at hc
   case h_2 => cases hc
   rename_i hx
   rw [h _ _ _ hx]; exact hc
 ·simp only [inlOf,yldWith] at hc ⊢
  split at hc
  case h_2 => cases hc
  split at hc
  case isFalse => cases hc
  rename_i hl
  rw [if_pos hl]
  split at hc
  case h_2 => cases hc
  rename_i hx
  rw [h _ _ _ hx]
  split at hc
  case h_2 => cases hc
  rename_i hk
  simp only [hk]
  split at hc
  case h_2 => cases hc
  rename_i hx2
  simp only [h _ _ _ hx2]; exact hc
theorem range_mono {L : Prog} {x y : LCode → St → Option (Ex × St)} (h : XLe x y) {g : Val} {ps : List Nat} {a b : LCode} {st : St} {r : Ex × St} (hr : rangeWith L x g ps a b st = some r) : rangeWith L y g ps a b st = some r := by
 unfold rangeWith at hr ⊢
 split at hr
 case h_2 => cases hr
 simp only at hr ⊢
 split at hr
 case h_2 => cases hr
 rename_i hx
 have := (inl_mono h (L := L)).1 _ _ _ _ hx
 simp only [inlOf] at this
 rw [this]; exact hr
theorem exec_mono (L : Prog) : ∀ n,XLe (exec L n) (exec L (n + 1)) := by
 intro n
 induction n with
 | zero => intro c s r h; simp [exec] at h
 | succ n ih =>
  intro c s r h
  have hc := call_mono ih (L := L) (n := 8)
  have hi := inl_mono ih (L := L)
  cases c with
  | skip => exact h
  | ops l =>
   rw [exec] at h ⊢
   obtain ⟨st,hs,rfl⟩ := Option.map_eq_some_iff.1 h
   rw [runOps_mono hc hi l hs]; rfl
  | draw l ps =>
   rw [exec] at h ⊢
   split at h
   case h_2 => cases h
   rename_i hs
   rw [runRec_mono hc hi l hs]; exact h
  | seq a b =>
   rw [exec] at h ⊢
   cases hx : exec L n a s with
   | none => rw [hx] at h; cases h
   | some p =>
    obtain ⟨e,st⟩ := p
    rw [hx] at h
    rw [ih _ _ _ hx]
    cases e with
    | normal => exact ih _ _ _ h
    | exit i => exact h
    | ret => exact h
  | cond z a b =>
   rw [exec] at h ⊢
   split at h
   ·exact ih _ _ _ h
   ·exact ih _ _ _ h
   ·cases h
  | block id b =>
   rw [exec] at h ⊢
   cases hx : exec L n b s with
   | none => rw [hx] at h; cases h
   | some p =>
    obtain ⟨e,st⟩ := p
    rw [hx] at h
    rw [ih _ _ _ hx]; exact h
  | loop b =>
   rw [exec] at h ⊢
   cases hx : exec L n b s with
   | none => rw [hx] at h; cases h
   | some p =>
    obtain ⟨e,st⟩ := p
    rw [hx] at h
    rw [ih _ _ _ hx]
    cases e with
    | normal => exact ih _ _ _ h
    | exit i => exact h
    | ret => exact h
  | exit i => exact h
  | ret => exact h
  | rangeF g ps a b =>
   rw [exec] at h ⊢
   exact range_mono ih h
theorem exec_le (L : Prog) {n m : Nat} (h : n ≤ m) : XLe (exec L n) (exec L m) := by
 induction h with
 | refl => intro c s r h; exact h
 | step _ ih => intro c s r h; exact exec_mono L _ _ _ _ (ih _ _ _ h)
theorem pcall_le {L : Prog} {n m : Nat} (h : n ≤ m) {f : Nat} {a : List Val} {r : Val} (hr : pcall L n f a = some r) : pcall L m f a = some r := call_mono (exec_le L h) _ _ _ hr
end Go.Abs
namespace Go.Abs
def PC (L : Prog) (f : Nat) (args : List Val) (r : Val) : Prop := ∃ n0,∀ n,n0 ≤ n → pcall L n f args = some r
def Ev (L : Prog) (c : LCode) (st : St) (e : Ex) (st' : St) : Prop := ∃ n0,∀ n,n0 ≤ n → exec L n c st = some (e,st')
def WIn (L : Prog) (f : Val) (args : List Val) (en : En) (cnt : Nat → Nat → Nat) (Q : Val → En → (Nat → Nat → Nat) → Prop) : Prop :=
 ∃ v en' cnt',(∃ n0,∀ n,n0 ≤ n → ∀ fr,(inlOf L (exec L n)).call f args ⟨fr,en,cnt⟩ = some (v,⟨fr,en',cnt'⟩)) ∧ Q v en' cnt'
theorem WIn.mono {L : Prog} {f : Val} {args : List Val} {en : En} {cnt : Nat → Nat → Nat} {Q R : Val → En → (Nat → Nat → Nat) → Prop}
  (h : WIn L f args en cnt Q) (k : ∀ v en' cnt',Q v en' cnt' → R v en' cnt') : WIn L f args en cnt R := by
 obtain ⟨v,en',cnt',h1,h2⟩ := h; exact ⟨v,en',cnt',h1,k _ _ _ h2⟩
theorem PC.det {L : Prog} {f : Nat} {args : List Val} {r s : Val} (h : PC L f args r) (k : PC L f args s) : s = r := by
 obtain ⟨n,h⟩ := h; obtain ⟨m,k⟩ := k
 have h1 := h (max n m) (by omega); have h2 := k (max n m) (by omega)
 rw [h1] at h2; cases h2; rfl
def noCall : CallFn := fun _ _ => none
def snapD : Nat → En → Val → Option (Val × List Key)
 | 0,_,_ => none
 | n + 1,en,v =>
  match v with
  | .ptr k off => match en k with
   | some (.box cs _) => match mapO (snapD n en) cs with
    | some rs => some (.fp (rs.map (·.1)) off,k :: rs.flatMap (·.2))
    | none => none
   | _ => none
  | .ep k i off => match en k with
   | some (.blk _ xs _) => match xs[i]? with
    | some x => some (.fp x.cells off,[k])
    | none => none
   | _ => none
  | .bl k off len => match en k with
   | some (.blk _ xs _) => if off + len ≤ xs.length then some (.fz ((xs.drop off).take len),[k]) else none
   | _ => none
  | .mp k => match en k with
   | some (.map ks vs _) => some (.fm ks vs,[k])
   | _ => none
  | .yld _ | .it _ => none
  | .fn f a b => match mapO (snapD n en) a with
   | some x => match mapO (snapD n en) b with
    | some y => some (.fn f (x.map (·.1)) (y.map (·.1)),x.flatMap (·.2) ++ y.flatMap (·.2))
    | none => none
   | none => none
  | .ifc t v => match snapD n en v with
   | some r => some (.ifc t r.1,r.2)
   | none => none
  | .agg cs => match mapO (snapD n en) cs with
   | some rs => some (.agg (rs.map (·.1)),rs.flatMap (·.2))
   | none => none
  | .tup vs => match mapO (snapD n en) vs with
   | some rs => some (.tup (rs.map (·.1)),rs.flatMap (·.2))
   | none => none
  | v => some (v,[])
theorem mapO_imp {α β : Type} {f g : α → Option β} (h : ∀ x y,f x = some y → g x = some y) : ∀ {l : List α} {r : List β},mapO f l = some r → mapO g l = some r := by
 intro l
 induction l with
 | nil => intro r h'; exact h'
 | cons x xs ih =>
  intro r h'
  simp only [mapO] at h' ⊢
  split at h'
  ·rename_i y hy
   split at h'
   ·rename_i ys hys
    rw [h x y hy,ih hys]; exact h'
   ·cases h'
  ·cases h'
theorem snapD_ok (en : En) : ∀ (n : Nat) (v : Val) (r : Val × List Key),snapD n en v = some r → ∀ m,n ≤ m → snap m en v = some r := by
 intro n
 induction n with
 | zero => intro v r h; simp [snapD] at h
 | succ n ih =>
  intro v r h m hm
  obtain ⟨m,rfl⟩ : ∃ k,m = k + 1 := ⟨m - 1,by omega⟩
  have hl : ∀ {l : List Val} {rs : List (Val × List Key)},mapO (snapD n en) l = some rs → mapO (snap m en) l = some rs :=
   fun h => mapO_imp (fun x y hx => ih x y hx m (by omega)) h
  cases v with
  | ptr k off =>
   simp only [snapD] at h; simp only [snap]
   split at h
   ·rename_i hk
    split at h
    ·rename_i hrs; simp only [Option.some.injEq] at h; subst h; simp only [hk,hl hrs,Option.map]
    ·cases h
   ·cases h
  | fn f a b =>
   simp only [snapD] at h; simp only [snap]
   split at h
   ·rename_i hx
    split at h
    ·rename_i hy; simp only [Option.some.injEq] at h; subst h; simp only [hl hx,hl hy,Option.map]
    ·cases h
   ·cases h
  | ifc t v =>
   simp only [snapD] at h; simp only [snap]
   split at h
   ·rename_i hx; simp only [Option.some.injEq] at h; subst h; simp only [ih _ _ hx m (by omega),Option.map]
   ·cases h
  | agg cs =>
   simp only [snapD] at h; simp only [snap]
   split at h
   ·rename_i hx; simp only [Option.some.injEq] at h; subst h; simp only [hl hx,Option.map]
   ·cases h
  | tup vs =>
   simp only [snapD] at h; simp only [snap]
   split at h
   ·rename_i hx; simp only [Option.some.injEq] at h; subst h; simp only [hl hx,Option.map]
   ·cases h
  | _ => exact h
def evalW (d g : Nat) (en : En) (get : Opd → Val) : LOp → Option Res
 | .bslice len size z parts =>
  if len * size ≤ 16777216 then
   match mapO (fun p => match snapD 8 en (get p.2) with | some r => some ((p.1,r.1.wk1),r.2) | none => none) parts with
   | some ps => match fillElems (List.replicate len (ofZero size z false)) size (ps.map (·.1)) with
    | some xs => some { v := .cl xs,ws := (ps.flatMap (·.2)).map .frz,rs := (ps.flatMap (·.2)).map .val }
    | none => none
   | none => none
  else none
 | .store m a x =>
  let v := get x
  if v.one = true ∧ v.cells.length = m then
   match get a with
   | .ptr k off => match en k with
    | some (.box cs false) => if off + m ≤ cs.length then some { v := .tup [],ws := [.cells k off v.cells],rs := [.flag k] } else none
    | _ => none
   | .ep k i off => match en k with
    | some (.blk _ xs false) => match xs[i]? with
     | some y => if off + m ≤ y.cells.length then
       match snapD 8 en v with
       | some (v',ks) => if v'.one = true ∧ v'.cells.length = m ∧ ks.all (fun k' => decide (k' ≠ k)) = true then some { v := .tup [],ws := ks.map .frz ++ [.elem k i off v'.wk1.cells],rs := .val k :: .flag k :: ks.map .val } else none
       | none => none
      else none
     | none => none
    | _ => none
   | _ => none
  else none
 | .call _ _ | .icall _ _ => none
 | op => eval 8 noCall 0 d g en get op
theorem evalW_ok {d g : Nat} {en : En} {get : Opd → Val} {op : LOp} {r : Res} (h : evalW d g en get op = some r) (call : CallFn) (n : Nat) (hn : 8 ≤ n) :
  eval n call 0 d g en get op = some r := by
 cases op with
 | bslice len size z parts =>
  simp only [evalW] at h; simp only [eval]
  split at h
  ·rename_i hc; rw [if_pos hc]
   split at h
   ·rename_i ps hps
    have : mapO (fun p => (snap n en (get p.2)).map fun r => ((p.1,r.1.wk1),r.2)) parts = some ps := by
     refine mapO_imp (fun x y hx => ?_) hps
     split at hx
     ·rename_i r hr; simp only [Option.some.injEq] at hx; subst hx; rw [snapD_ok en 8 _ _ hr n hn]; rfl
     ·cases hx
    rw [this]; exact h
   ·cases h
  ·cases h
 | store m a x =>
  simp only [evalW] at h; simp only [eval]
  split at h
  ·rename_i hc; rw [if_pos hc]
   split at h
   ·rename_i hg; simp only [hg]; exact h
   ·rename_i hg; simp only [hg]
    split at h
    ·rename_i he; simp only [he]
     split at h
     ·rename_i hy; simp only [hy]
      split at h
      ·rename_i hl; rw [if_pos hl]
       split at h
       ·rename_i hs; simp only [snapD_ok en 8 _ _ hs n hn]; exact h
       ·cases h
      ·cases h
     ·cases h
    ·cases h
   ·cases h
  ·cases h
 | call f a => simp [evalW] at h
 | icall f a => simp [evalW] at h
 | _ => exact h
def WOp (L : Prog) (d g : Nat) (en : En) (get : Opd → Val) (op : LOp) (K : Res → Prop) : Prop :=
 match op with
 | .call f args => match get f with
  | .fn f a b => match mapO (snapD 8 en) (a ++ args.map get ++ b) with
   | some rs => ∃ r,PC L f (rs.map (·.1.wk1)) r ∧ K (callRes 0 d g r (rs.flatMap (·.2)))
   | none => False
  | _ => False
 | op => match evalW d g en get op with
  | some r => K r
  | none => False
theorem wop_ok {L : Prog} {d g : Nat} {en : En} {get : Opd → Val} {op : LOp} {K : Res → Prop} (h : WOp L d g en get op K) :
  ∃ r,(∃ n0,∀ n,n0 ≤ n → eval 8 (pcall L n) 0 d g en get op = some r) ∧ K r := by
 have oth : (match evalW d g en get op with | some r => K r | none => False) → ∃ r,(∃ n0,∀ n,n0 ≤ n → eval 8 (pcall L n) 0 d g en get op = some r) ∧ K r := by
  intro h
  split at h
  ·rename_i r hr; exact ⟨r,⟨0,fun n _ => evalW_ok hr _ 8 (Nat.le_refl _)⟩,h⟩
  ·exact h.elim
 cases op with
 | call f args =>
  simp only [WOp] at h
  split at h
  ·rename_i f' a b hf
   split at h
   ·rename_i rs hrs
    obtain ⟨r,⟨n1,h1⟩,hk⟩ := h
    refine ⟨_,⟨n1,fun n hn => ?_⟩,hk⟩
    have : mapO (fun x => snap 8 en x) (a ++ args.map get ++ b) = some rs := mapO_imp (fun x y hx => snapD_ok en 8 x y hx 8 (Nat.le_refl _)) hrs
    simp only [eval,hf,this,h1 n (by omega)]
   ·exact h.elim
  ·exact h.elim
 | _ => exact oth h
def WStep (L : Prog) (st : St) (o : LOper) (K : St → Res → Prop) : Prop :=
 match wanted st.fr o.guard with
 | some true => match o.op with
  | .icall f args => WIn L (St.get st.fr f) (args.map (St.get st.fr)) st.en st.cnt fun v en' cnt' => K ⟨putFr st.fr o.dst v,en',cnt'⟩ { v,mem := some (en',cnt'),unch := fun k => sameE (st.en k) (en' k) }
  | op => WOp L (o.dst.getD 0) (st.cnt 0 (o.dst.getD 0)) st.en (St.get st.fr) op fun r => (r.bump && o.dst.isNone) = false ∧
    K ⟨putFr st.fr o.dst r.v,W.applyAll st.en r.ws,if r.bump then setCnt st.cnt 0 (o.dst.getD 0) (st.cnt 0 (o.dst.getD 0) + 1) else st.cnt⟩ r
 | some false => K ⟨putFr st.fr o.dst (.tup []),st.en,st.cnt⟩ { v := .tup [] }
 | none => False
def WOps (L : Prog) : List LOper → St → (St → Prop) → Prop
 | [],st,Q => Q st
 | o :: l,st,Q => WStep L st o fun st' _ => WOps L l st' Q
def WRec (L : Prog) : List LOper → St → (St → List Res → Prop) → Prop
 | [],st,Q => Q st []
 | o :: l,st,Q => WStep L st o fun st' r => WRec L l st' fun st'' rs => Q st'' (r :: rs)
def loopKey (cnt : Nat → Nat → Nat) : Key := ⟨1,0,cnt 1 0⟩
def Wp (L : Prog) : LCode → St → (Ex → St → Prop) → Prop
 | .skip,st,Q => Q .normal st
 | .ops l,st,Q => WOps L l st (Q .normal)
 | .draw l pairs,st,Q => if pairs = [] then WOps L l st (Q .normal) else WRec L l st fun st' rs => pairsOk rs pairs = true ∧ Q .normal st'
 | .seq a b,st,Q => Wp L a st fun e st' => match e with
  | .normal => Wp L b st' Q
  | .exit i => Q (.exit i) st'
  | .ret => Q .ret st'
 | .cond x a b,st,Q => match St.get st.fr x with
  | .bool t => if t = true then Wp L a st Q else Wp L b st Q
  | _ => False
 | .block id b,st,Q => Wp L b st fun e st' => match e with
  | .exit id' => if id' = id then Q .normal st' else Q (.exit id') st'
  | .normal => Q .normal st'
  | .ret => Q .ret st'
 | .loop b,st,Q => ∃ e st',Ev L (.loop b) st e st' ∧ Q e st'
 | .exit id,st,Q => Q (.exit id) st
 | .ret,st,Q => Q .ret st
 | .rangeF g ps a b,st,Q =>
  match St.get st.fr g with
  | .fn f x y => WIn L (.fn f x y) [.yld (loopKey st.cnt)] (st.en.set (loopKey st.cnt) (some (.loop st.fr ps a b .ready))) (setCnt st.cnt 1 0 (st.cnt 1 0 + 1)) fun _ en' cnt' =>
   match en' (loopKey st.cnt) with
   | some (.loop _ _ _ _ .ready) => Q .normal ⟨st.fr,en'.set (loopKey st.cnt) none,cnt'⟩
   | some (.loop _ _ _ _ (.done e)) => Q e ⟨st.fr,en'.set (loopKey st.cnt) none,cnt'⟩
   | _ => False
  | _ => False
theorem step_ne {n : Nat} {call : CallFn} {io : Inl} {st : St} {o : LOper} {r : Res} (hne : ∀ f a,o.op ≠ .icall f a) (hw : wanted st.fr o.guard = some true)
  (he : eval n call 0 (o.dst.getD 0) (st.cnt 0 (o.dst.getD 0)) st.en (St.get st.fr) o.op = some r) (hb : (r.bump && o.dst.isNone) = false) :
  step n call io 0 st o = some (⟨putFr st.fr o.dst r.v,W.applyAll st.en r.ws,if r.bump then setCnt st.cnt 0 (o.dst.getD 0) (st.cnt 0 (o.dst.getD 0) + 1) else st.cnt⟩,r) := by
 obtain ⟨dst,op,guard⟩ := o
 simp only at hw he hb hne
 cases op with
 | icall f a => exact absurd rfl (hne _ _)
 | _ => simp only [step,hw,he,hb,Bool.false_eq_true,if_false]
theorem step_of {L : Prog} {st : St} {o : LOper} {K : St → Res → Prop} (h : WStep L st o K) :
  ∃ st' r,(∃ n0,∀ n,n0 ≤ n → step 8 (pcall L n) (inlOf L (exec L n)) 0 st o = some (st',r)) ∧ K st' r := by
 unfold WStep at h
 split at h
 ·rename_i hw
  split at h
  ·rename_i f args hop
   obtain ⟨v,en',cnt',⟨n0,hn⟩,hk⟩ := h
   refine ⟨_,_,⟨n0,fun n hn' => ?_⟩,hk⟩
   simp only [step,hw,hop,hn n hn']
  ·rename_i op hne
   obtain ⟨r,⟨n0,hn⟩,hb,hk⟩ := wop_ok h
   exact ⟨_,r,⟨n0,fun n hn' => step_ne (fun f a => hne f a) hw (hn n hn') hb⟩,hk⟩
 ·rename_i hw
  exact ⟨_,_,⟨0,fun n _ => by simp only [step,hw]⟩,h⟩
 ·exact h.elim
theorem ops_of {L : Prog} (l : List LOper) : ∀ {st : St} {Q : St → Prop},WOps L l st Q →
  ∃ st',(∃ n0,∀ n,n0 ≤ n → runOps 8 (pcall L n) (inlOf L (exec L n)) 0 l st = some st') ∧ Q st' := by
 induction l with
 | nil => intro st Q h; exact ⟨st,⟨0,fun n _ => rfl⟩,h⟩
 | cons o l ih =>
  intro st Q h
  obtain ⟨st1,r,⟨n1,h1⟩,hk⟩ := step_of h
  obtain ⟨st2,⟨n2,h2⟩,hq⟩ := ih hk
  exact ⟨st2,⟨max n1 n2,fun n hn => by simp only [runOps,h1 n (by omega),h2 n (by omega)]⟩,hq⟩
theorem rec_of {L : Prog} (l : List LOper) : ∀ {st : St} {Q : St → List Res → Prop},WRec L l st Q →
  ∃ st' rs,(∃ n0,∀ n,n0 ≤ n → runRec 8 (pcall L n) (inlOf L (exec L n)) 0 l st = some (st',rs)) ∧ Q st' rs := by
 induction l with
 | nil => intro st Q h; exact ⟨st,[],⟨0,fun n _ => rfl⟩,h⟩
 | cons o l ih =>
  intro st Q h
  obtain ⟨st1,r,⟨n1,h1⟩,hk⟩ := step_of h
  obtain ⟨st2,rs,⟨n2,h2⟩,hq⟩ := ih hk
  exact ⟨st2,r :: rs,⟨max n1 n2,fun n hn => by simp only [runRec,h1 n (by omega),h2 n (by omega)]⟩,hq⟩
theorem runRec_of_runOps {n : Nat} {call : CallFn} {io : Inl} (l : List LOper) : ∀ {st st' : St},runOps n call io 0 l st = some st' → ∃ rs,runRec n call io 0 l st = some (st',rs) := by
 induction l with
 | nil => intro st st' h; simp only [runOps,Option.some.injEq] at h; subst h; exact ⟨[],rfl⟩
 | cons o l ih =>
  intro st st' h
  simp only [runOps] at h
  split at h
  ·rename_i st1 r hs
   obtain ⟨rs,hr⟩ := ih h
   exact ⟨r :: rs,by simp only [runRec,hs,hr]⟩
  ·cases h
theorem wp_of {L : Prog} (c : LCode) : ∀ {st : St} {Q : Ex → St → Prop},Wp L c st Q → ∃ e st',Ev L c st e st' ∧ Q e st' := by
 induction c with
 | skip => intro st Q h; exact ⟨.normal,st,⟨1,fun n hn => by obtain ⟨m,rfl⟩ : ∃ m,n = m + 1 := ⟨n - 1,by omega⟩; rfl⟩,h⟩
 | ops l =>
  intro st Q h
  obtain ⟨st',⟨n0,h0⟩,hq⟩ := ops_of l h
  refine ⟨.normal,st',⟨n0 + 1,fun n hn => ?_⟩,hq⟩
  obtain ⟨m,rfl⟩ : ∃ m,n = m + 1 := ⟨n - 1,by omega⟩
  have := h0 m (by omega)
  simp only [pcall] at this
  simp only [exec,this,Option.map]
 | draw l pairs =>
  intro st Q h
  simp only [Wp] at h
  split at h
  ·rename_i hp
   obtain ⟨st',⟨n0,h0⟩,hq⟩ := ops_of l h
   refine ⟨.normal,st',⟨n0 + 1,fun n hn => ?_⟩,hq⟩
   obtain ⟨m,rfl⟩ : ∃ m,n = m + 1 := ⟨n - 1,by omega⟩
   obtain ⟨rs,hr⟩ := runRec_of_runOps l (h0 m (by omega))
   simp only [pcall] at hr
   simp only [exec,hr,hp,pairsOk,List.all_nil,if_true]
  ·obtain ⟨st',rs,⟨n0,h0⟩,hp,hq⟩ := rec_of l h
   refine ⟨.normal,st',⟨n0 + 1,fun n hn => ?_⟩,hq⟩
   obtain ⟨m,rfl⟩ : ∃ m,n = m + 1 := ⟨n - 1,by omega⟩
   have hr := h0 m (by omega)
   simp only [pcall] at hr
   simp only [exec,hr,hp,if_true]
 | seq a b iha ihb =>
  intro st Q h
  obtain ⟨e,st1,⟨n1,h1⟩,hk⟩ := iha h
  cases e with
  | normal =>
   obtain ⟨e2,st2,⟨n2,h2⟩,hq⟩ := ihb hk
   refine ⟨e2,st2,⟨max n1 n2 + 1,fun n hn => ?_⟩,hq⟩
   obtain ⟨m,rfl⟩ : ∃ m,n = m + 1 := ⟨n - 1,by omega⟩
   simp only [exec,h1 m (by omega),h2 m (by omega)]
  | exit id =>
   refine ⟨_,st1,⟨n1 + 1,fun n hn => ?_⟩,hk⟩
   obtain ⟨m,rfl⟩ : ∃ m,n = m + 1 := ⟨n - 1,by omega⟩
   simp only [exec,h1 m (by omega)]
  | ret =>
   refine ⟨_,st1,⟨n1 + 1,fun n hn => ?_⟩,hk⟩
   obtain ⟨m,rfl⟩ : ∃ m,n = m + 1 := ⟨n - 1,by omega⟩
   simp only [exec,h1 m (by omega)]
 | cond x a b iha ihb =>
  intro st Q h
  simp only [Wp] at h
  split at h
  ·rename_i t ht
   cases t with
   | true =>
    obtain ⟨e,st1,⟨n1,h1⟩,hk⟩ := iha (by simpa using h)
    refine ⟨e,st1,⟨n1 + 1,fun n hn => ?_⟩,hk⟩
    obtain ⟨m,rfl⟩ : ∃ m,n = m + 1 := ⟨n - 1,by omega⟩
    simp only [exec,ht,h1 m (by omega)]
   | false =>
    obtain ⟨e,st1,⟨n1,h1⟩,hk⟩ := ihb (by simpa using h)
    refine ⟨e,st1,⟨n1 + 1,fun n hn => ?_⟩,hk⟩
    obtain ⟨m,rfl⟩ : ∃ m,n = m + 1 := ⟨n - 1,by omega⟩
    simp only [exec,ht,h1 m (by omega)]
  ·exact h.elim
 | block id b ih =>
  intro st Q h
  obtain ⟨e,st1,⟨n1,h1⟩,hk⟩ := ih h
  cases e with
  | exit id' =>
   simp only at hk
   by_cases hi : id' = id
   ·rw [if_pos hi] at hk
    refine ⟨.normal,st1,⟨n1 + 1,fun n hn => ?_⟩,hk⟩
    obtain ⟨m,rfl⟩ : ∃ m,n = m + 1 := ⟨n - 1,by omega⟩
    simp only [exec,h1 m (by omega),hi,if_true]
   ·rw [if_neg hi] at hk
    refine ⟨.exit id',st1,⟨n1 + 1,fun n hn => ?_⟩,hk⟩
    obtain ⟨m,rfl⟩ : ∃ m,n = m + 1 := ⟨n - 1,by omega⟩
    simp only [exec,h1 m (by omega),hi,if_false]
  | normal =>
   refine ⟨_,st1,⟨n1 + 1,fun n hn => ?_⟩,hk⟩
   obtain ⟨m,rfl⟩ : ∃ m,n = m + 1 := ⟨n - 1,by omega⟩
   simp only [exec,h1 m (by omega)]
  | ret =>
   refine ⟨_,st1,⟨n1 + 1,fun n hn => ?_⟩,hk⟩
   obtain ⟨m,rfl⟩ : ∃ m,n = m + 1 := ⟨n - 1,by omega⟩
   simp only [exec,h1 m (by omega)]
 | loop b ih => intro st Q h; exact h
 | exit id => intro st Q h; exact ⟨.exit id,st,⟨1,fun n hn => by obtain ⟨m,rfl⟩ : ∃ m,n = m + 1 := ⟨n - 1,by omega⟩; rfl⟩,h⟩
 | ret => intro st Q h; exact ⟨.ret,st,⟨1,fun n hn => by obtain ⟨m,rfl⟩ : ∃ m,n = m + 1 := ⟨n - 1,by omega⟩; rfl⟩,h⟩
 | rangeF g ps a b =>
  intro st Q h
  simp only [Wp] at h
  split at h
  ·rename_i f x y hg
   obtain ⟨v,en',cnt',⟨n1,h1⟩,hk⟩ := h
   have run : ∀ n,n1 + 1 ≤ n → ∀ r,(match en' (loopKey st.cnt) with
     | some (.loop _ _ _ _ .ready) => some (Ex.normal,{ fr := st.fr,en := en'.set (loopKey st.cnt) none,cnt := cnt' : St })
     | some (.loop _ _ _ _ (.done e)) => some (e,{ fr := st.fr,en := en'.set (loopKey st.cnt) none,cnt := cnt' })
     | _ => none) = some r → exec L n (.rangeF g ps a b) st = some r := by
    intro n hn r hr
    obtain ⟨m,rfl⟩ : ∃ m,n = m + 1 := ⟨n - 1,by omega⟩
    have hi := h1 m (by omega) st.fr
    simp only [Inl.call,inlOf] at hi
    simp only [exec,hg,rangeWith]
    simp only [loopKey] at hi hr
    rw [hi]
    exact hr
   split at hk
   ·rename_i hl
    exact ⟨_,_,⟨n1 + 1,fun n hn => run n hn _ (by simp only [hl])⟩,hk⟩
   ·rename_i hl
    exact ⟨_,_,⟨n1 + 1,fun n hn => run n hn _ (by simp only [hl])⟩,hk⟩
   ·exact hk.elim
  ·exact h.elim
theorem wp_loop {α : Type} {L : Prog} {b : LCode} {Q : Ex → St → Prop} (I : α → St → Prop) (μ : α → Nat) (x : α) {st : St} (h0 : I x st)
  (hr : ∀ x st,I x st → Wp L b st fun e st' => match e with
   | .normal => ∃ y,I y st' ∧ μ y < μ x
   | .exit i => Q (.exit i) st'
   | .ret => Q .ret st') : Wp L (.loop b) st Q := by
 have key : ∀ m x st,μ x = m → I x st → ∃ e st',Ev L (.loop b) st e st' ∧ Q e st' := by
  intro m
  induction m using Nat.strongRecOn with
  | _ m ih =>
   intro x st hm hI
   obtain ⟨e,st1,⟨n1,h1⟩,hk⟩ := wp_of b (hr x st hI)
   cases e with
   | normal =>
    obtain ⟨y,hy,hlt⟩ := hk
    obtain ⟨e2,st2,⟨n2,h2⟩,hq⟩ := ih (μ y) (hm ▸ hlt) y st1 rfl hy
    refine ⟨e2,st2,⟨max n1 n2 + 1,fun n hn => ?_⟩,hq⟩
    obtain ⟨m',rfl⟩ : ∃ m,n = m + 1 := ⟨n - 1,by omega⟩
    simp only [exec,h1 m' (by omega),h2 m' (by omega)]
   | exit id =>
    refine ⟨_,st1,⟨n1 + 1,fun n hn => ?_⟩,hk⟩
    obtain ⟨m',rfl⟩ : ∃ m,n = m + 1 := ⟨n - 1,by omega⟩
    simp only [exec,h1 m' (by omega)]
   | ret =>
    refine ⟨_,st1,⟨n1 + 1,fun n hn => ?_⟩,hk⟩
    obtain ⟨m',rfl⟩ : ∃ m,n = m + 1 := ⟨n - 1,by omega⟩
    simp only [exec,h1 m' (by omega)]
 exact key _ x st rfl h0
theorem wp_mono {L : Prog} (c : LCode) : ∀ {st : St} {Q R : Ex → St → Prop},Wp L c st Q → (∀ e st',Q e st' → R e st') → Wp L c st R := by
 have stp : ∀ {st : St} {o : LOper} {K K' : St → Res → Prop},WStep L st o K → (∀ s r,K s r → K' s r) → WStep L st o K' := by
  intro st o K K' h hk
  unfold WStep at h ⊢
  split
  ·rename_i hw; simp only [hw] at h
   split
   ·rename_i f args hop; simp only [hop] at h; exact h.mono fun _ _ _ => hk _ _
   ·rename_i op hne
    have h' : WOp L (o.dst.getD 0) (st.cnt 0 (o.dst.getD 0)) st.en (St.get st.fr) o.op fun r => (r.bump && o.dst.isNone) = false ∧
      K ⟨putFr st.fr o.dst r.v,W.applyAll st.en r.ws,if r.bump then setCnt st.cnt 0 (o.dst.getD 0) (st.cnt 0 (o.dst.getD 0) + 1) else st.cnt⟩ r := by
     split at h
     ·rename_i f a hx; exact absurd hx (hne f a)
     ·exact h
    have oth : ∀ {K K' : Res → Prop},(∀ r,K r → K' r) → (match evalW (o.dst.getD 0) (st.cnt 0 (o.dst.getD 0)) st.en (St.get st.fr) o.op with | some r => K r | none => False) →
      (match evalW (o.dst.getD 0) (st.cnt 0 (o.dst.getD 0)) st.en (St.get st.fr) o.op with | some r => K' r | none => False) := by
     intro K K' hk h; split <;> rename_i hr <;> simp only [hr] at h; exact hk _ h
    have mono : ∀ {K K' : Res → Prop},(∀ r,K r → K' r) → WOp L (o.dst.getD 0) (st.cnt 0 (o.dst.getD 0)) st.en (St.get st.fr) o.op K → WOp L (o.dst.getD 0) (st.cnt 0 (o.dst.getD 0)) st.en (St.get st.fr) o.op K' := by
     intro K K' hk h
     generalize hop : o.op = op at h ⊢ oth
     cases op with
     | call f args =>
      simp only [WOp] at h ⊢
      split at h
      ·split at h
       ·obtain ⟨r,h1,h2⟩ := h; exact ⟨r,h1,hk _ h2⟩
       ·exact h.elim
      ·exact h.elim
     | _ => exact oth hk h
    exact mono (fun r ⟨h1,h2⟩ => ⟨h1,hk _ _ h2⟩) h'
  ·rename_i hw; simp only [hw] at h; exact hk _ _ h
  ·rename_i hw; simp only [hw] at h
 have ops : ∀ (l : List LOper) {st : St} {Q R : St → Prop},WOps L l st Q → (∀ s,Q s → R s) → WOps L l st R := by
  intro l
  induction l with
  | nil => intro st Q R h k; exact k _ h
  | cons o l ih => intro st Q R h k; exact stp h fun s r hs => ih hs k
 have rec_ : ∀ (l : List LOper) {st : St} {Q R : St → List Res → Prop},WRec L l st Q → (∀ s rs,Q s rs → R s rs) → WRec L l st R := by
  intro l
  induction l with
  | nil => intro st Q R h k; exact k _ _ h
  | cons o l ih => intro st Q R h k; exact stp h fun s r hs => ih hs fun s rs hq => k _ _ hq
 induction c with
 | skip => intro st Q R h k; exact k _ _ h
 | ops l => intro st Q R h k; exact ops l h fun s => k _ s
 | draw l pairs =>
  intro st Q R h k
  simp only [Wp] at h ⊢
  split at h
  ·rename_i hp; rw [if_pos hp]; exact ops l h fun s => k _ s
  ·rename_i hp; rw [if_neg hp]; exact rec_ l h fun s rs ⟨h1,h2⟩ => ⟨h1,k _ _ h2⟩
 | seq a b iha ihb =>
  intro st Q R h k
  refine iha h fun e st' hq => ?_
  cases e with
  | normal => exact ihb hq k
  | exit i => exact k _ _ hq
  | ret => exact k _ _ hq
 | cond x a b iha ihb =>
  intro st Q R h k
  simp only [Wp] at h ⊢
  split at h
  ·rename_i t ht
   split at h
   ·rename_i htt; rw [if_pos htt]; exact iha h k
   ·rename_i htt; rw [if_neg htt]; exact ihb h k
  ·exact h.elim
 | block id b ih =>
  intro st Q R h k
  refine ih h fun e st' hq => ?_
  cases e with
  | normal => exact k _ _ hq
  | exit i =>
   simp only at hq ⊢
   split at hq
   ·rename_i hi; rw [if_pos hi]; exact k _ _ hq
   ·rename_i hi; rw [if_neg hi]; exact k _ _ hq
  | ret => exact k _ _ hq
 | loop b ih => intro st Q R h k; obtain ⟨e,st',h1,h2⟩ := h; exact ⟨e,st',h1,k _ _ h2⟩
 | exit id => intro st Q R h k; exact k _ _ h
 | ret => intro st Q R h k; exact k _ _ h
 | rangeF g ps a b =>
  intro st Q R h k
  simp only [Wp] at h ⊢
  split at h
  ·refine h.mono fun v en' cnt' hq => ?_
   split at hq
   ·exact k _ _ hq
   ·exact k _ _ hq
   ·exact hq.elim
  ·exact h.elim
theorem wp_cut {L : Prog} {a b : LCode} {st : St} {Q : Ex → St → Prop} (M : St → Prop)
  (h : Wp L a st fun e st' => match e with | .normal => M st' | .exit i => Q (.exit i) st' | .ret => Q .ret st') (k : ∀ st',M st' → Wp L b st' Q) : Wp L (.seq a b) st Q := by
 refine wp_mono a h fun e st' hq => ?_
 cases e with
 | normal => exact k _ hq
 | exit i => exact hq
 | ret => exact hq
def WRes (st : St) (lf : LFunc) (r : Val) : Prop :=
 match mapO (readRes st) lf.res with
 | some vs => match (if lf.keep then ownOf st.en (tupOf vs) else none) with
  | some v => v = r
  | none => match snapD 8 st.en (tupOf vs) with
   | some (v,_) => (if lf.keep then v else v.wk) = r
   | none => False
 | none => False
def Body (L : Prog) (lf : LFunc) (args : List Val) (r : Val) : Prop := ∃ n0,∀ n,n0 ≤ n → callBody lf 8 (exec L n) args = some r
theorem body_of {L : Prog} {lf : LFunc} {args : List Val} {r : Val} (h : Wp L lf.body (start args) fun e st => e.ends = true ∧ WRes st lf r) : Body L lf args r := by
 obtain ⟨e,st,⟨n1,h1⟩,he,h2⟩ := wp_of _ h
 refine ⟨n1,fun n hm => ?_⟩
 simp only [callBody,h1 n (by omega),he,if_true,resultOf]
 unfold WRes at h2
 split at h2
 ·rename_i vs hvs
  simp only [hvs]
  split at h2
  ·rename_i v hv; rw [hv,h2]
  ·rename_i hv
   rw [hv]
   split at h2
   ·rename_i v ks hs; simp only [snapD_ok _ _ _ _ hs 8 (Nat.le_refl _),h2]
   ·exact h2.elim
 ·exact h2.elim
theorem pc_of {L : Prog} {f : Nat} {lf : LFunc} {args : List Val} {r : Val} (hL : L f = some lf) (hn : args.length = lf.np) (ha : isAmb lf args = false)
  (h : Wp L lf.body (start args) fun e st => e.ends = true ∧ WRes st lf r) : PC L f args r := by
 obtain ⟨n1,h1⟩ := body_of h
 refine ⟨n1,fun n hm => ?_⟩
 simp only [pcall,callWith,hL,hn,if_true,ha,Bool.false_eq_true,if_false,h1 n (by omega)]
theorem same_of {a b : Option Val} {r : Val} (ha : a = some r) (hb : b = some r) (hr : r = .cl [] ∨ r = .fz []) : sameEmpty a b = some r := by
 rcases hr with rfl | rfl <;> simp [ha,hb,sameEmpty]
theorem pc_amb {L : Prog} {f : Nat} {lf : LFunc} {args : List Val} {r : Val} (hL : L f = some lf) (hn : args.length = lf.np) (ha : isAmb lf args = true) (hr : r = .cl [] ∨ r = .fz []) (h1 : Body L lf [.es true] r) (h2 : Body L lf [.es false] r) : PC L f args r := by
 obtain ⟨n1,h1⟩ := h1
 obtain ⟨n2,h2⟩ := h2
 refine ⟨max n1 n2,fun n hm => ?_⟩
 simp only [pcall,callWith,hL,hn,if_true,ha]
 exact same_of (h1 n (by omega)) (h2 n (by omega)) hr
theorem win_of {L : Prog} {f : Nat} {a b : List Val} {lf : LFunc} {args : List Val} {en : En} {cnt : Nat → Nat → Nat} {Q : Val → En → (Nat → Nat → Nat) → Prop} (hL : L f = some lf) (hn : (a ++ args ++ b).length = lf.np) (ha : isAmb lf (a ++ args ++ b) = false)
  (h : Wp L lf.body ⟨fun i => (a ++ args ++ b).getD i (.tup []),en,cnt⟩ fun e st => e.ends = true ∧ match mapO (readRes st) lf.res with | some vs => Q (tupOf vs) st.en st.cnt | none => False) : WIn L (.fn f a b) args en cnt Q := by
 obtain ⟨e,st,⟨n1,h1⟩,he,h2⟩ := wp_of _ h
 split at h2
 ·rename_i vs hvs
  refine ⟨_,_,_,⟨n1,fun n hm fr => ?_⟩,h2⟩
  simp only [Inl.call,inlOf,inlWith,hL,hn,if_true,ha,Bool.false_eq_true,if_false,h1 n hm,he,hvs,Option.map]
 ·exact h2.elim
theorem win_yld {L : Prog} {k : Key} {args : List Val} {en : En} {cnt : Nat → Nat → Nat} {Q : Val → En → (Nat → Nat → Nat) → Prop} {fr : Nat → Val} {ps : List Nat} {a b : LCode}
  (hk : en k = some (.loop fr ps a b .ready)) (hn : args.length = ps.length)
  (h : Wp L a ⟨setFrs fr ps args,en,cnt⟩ fun e st => e = .normal ∧ match st.en k with
   | some (.loop fr1 ps1 a1 b1 .ready) => Wp L b ⟨st.fr,st.en.set k (some (.loop fr1 ps1 a1 b1 .busy)),st.cnt⟩ fun e st => match st.en k with
    | some (.loop fr2 ps2 a2 b2 .busy) => Q (.bool (decide (e = .normal))) (st.en.set k (some (.loop fr2 ps2 a2 b2 (if e = .normal then .ready else .done e)))) st.cnt
    | _ => False
   | _ => False) : WIn L (.yld k) args en cnt Q := by
 obtain ⟨e,st,⟨n1,h1⟩,rfl,h2⟩ := wp_of _ h
 split at h2
 ·rename_i fr1 ps1 a1 b1 hk1
  obtain ⟨e2,st2,⟨n2,h3⟩,h4⟩ := wp_of _ h2
  split at h4
  ·rename_i hk2
   refine ⟨_,_,_,⟨max n1 n2,fun n hm fr' => ?_⟩,h4⟩
   simp only [Inl.call,inlOf,yldWith,hk,hn,if_true,h1 n (by omega),hk1,h3 n (by omega),hk2]
  ·exact h4.elim
 ·exact h2.elim
theorem pc_run {L : Prog} {n f : Nat} {args : List Val} {r : Val} (h : pcall L n f args = some r) : PC L f args r := ⟨n,fun _ hm => pcall_le hm h⟩
end Go.Abs
namespace Go.Abs
section
variable {L : Prog} {fr : Nat → Val} {en : En} {cnt : Nat → Nat → Nat} {Q : St → Prop} {l : List LOper} {d : Nat} {dst : Option Nat}
@[go_sem] theorem g_t {i : Nat} : St.get fr (.t i) = fr i := (rfl)
@[go_sem] theorem g_c {v : Val} : St.get fr (.c v) = v := (rfl)
@[go_sem] theorem g_f {i : Nat} : St.get fr (.f i) = .fn i [] [] := (rfl)
@[go_sem] theorem fr_eq {v : Val} : setFr fr d v d = v := by simp [setFr]
@[go_sem] theorem fr_ne {v : Val} {i : Nat} (h : ¬ i = d) : setFr fr d v i = fr i := by simp [setFr,h]
@[go_sem] theorem put_some {v : Val} : putFr fr (some d) v = setFr fr d v := (rfl)
@[go_sem] theorem put_none {v : Val} : putFr fr none v = fr := (rfl)
@[go_sem] theorem en_eq {k : Key} {e : Option Ent} : En.set en k e k = e := by simp [En.set]
theorem en_ne {k k' : Key} {e : Option Ent} (h : k' ≠ k) : En.set en k e k' = en k' := by simp [En.set,h]
@[go_sem] theorem en_ne_t {n n' t t' g g' : Nat} {e : Option Ent} (h : ¬ t' = t) : En.set en ⟨n,t,g⟩ e ⟨n',t',g'⟩ = en ⟨n',t',g'⟩ :=
 en_ne fun he => h (by injection he)
@[go_sem] theorem en_ne_g {n n' t t' g g' : Nat} {e : Option Ent} (h : ¬ g' = g) : En.set en ⟨n,t,g⟩ e ⟨n',t',g'⟩ = en ⟨n',t',g'⟩ :=
 en_ne fun he => h (by injection he)
@[go_sem] theorem cnt_eq {n t x : Nat} : setCnt cnt n t x n t = x := by simp [setCnt]
@[go_sem] theorem cnt_ne {n t t' x : Nat} (h : ¬ t' = t) : setCnt cnt n t x n t' = cnt n t' := by simp [setCnt,h]
@[go_sem] theorem w_nil (st : St) : WOps L [] st Q = Q st := (rfl)
def LOp.plain : LOp → Bool
 | .call _ _ | .icall _ _ => false
 | _ => true
def WPut (L : Prog) (l : List LOper) (dst : Option Nat) (fr : Nat → Val) (en : En) (cnt : Nat → Nat → Nat) (Q : St → Prop) : Option Res → Prop
 | some r => (r.bump && dst.isNone) = false ∧ WOps L l ⟨putFr fr dst r.v,W.applyAll en r.ws,if r.bump then setCnt cnt 0 (dst.getD 0) (cnt 0 (dst.getD 0) + 1) else cnt⟩ Q
 | none => False
@[go_sem] theorem wput_some {v : Val} {ws : List W} {rs : List R} {m : Option (En × (Nat → Nat → Nat))} {u : Key → Bool} :
  WPut L l dst fr en cnt Q (some ⟨v,ws,rs,false,m,u⟩) = WOps L l ⟨putFr fr dst v,W.applyAll en ws,cnt⟩ Q := by simp [WPut]
@[go_sem] theorem wput_bump {v : Val} {ws : List W} {rs : List R} {m : Option (En × (Nat → Nat → Nat))} {u : Key → Bool} :
  WPut L l (some d) fr en cnt Q (some ⟨v,ws,rs,true,m,u⟩) = WOps L l ⟨setFr fr d v,W.applyAll en ws,setCnt cnt 0 d (cnt 0 d + 1)⟩ Q := by simp [WPut,putFr]
@[go_sem] theorem wput_none : WPut L l dst fr en cnt Q none = False := (rfl)
@[congr] theorem wput_congr {r r' : Option Res} (h : r = r') : WPut L l dst fr en cnt Q r = WPut L l dst fr en cnt Q r' := by rw [h]
@[congr] theorem wops_congr {st : St} : WOps L l st Q = WOps L l st Q := (rfl)
theorem w_gen {op : LOp} (h : op.plain = true) : WOps L (⟨dst,op,none⟩ :: l) ⟨fr,en,cnt⟩ Q =
  WPut L l dst fr en cnt Q (evalW (dst.getD 0) (cnt 0 (dst.getD 0)) en (St.get fr) op) := by
 cases op <;> first | (simp [LOp.plain] at h; done) | rfl | (simp only [WOps,WStep,wanted,WOp]; rfl)
@[go_sem] theorem w_some {op : LOp} (h : op.plain = true) : WOps L (⟨some d,op,none⟩ :: l) ⟨fr,en,cnt⟩ Q =
  WPut L l (some d) fr en cnt Q (evalW d (cnt 0 d) en (St.get fr) op) := w_gen h
@[go_sem] theorem w_none {op : LOp} (h : op.plain = true) : WOps L (⟨none,op,none⟩ :: l) ⟨fr,en,cnt⟩ Q =
  WPut L l none fr en cnt Q (evalW 0 (cnt 0 0) en (St.get fr) op) := w_gen h
@[go_sem] theorem pl_mv {x : Opd} : LOp.plain (.mv x) = true := (rfl)
@[go_sem] theorem pl_pick {a b c : Opd} : LOp.plain (.pick a b c) = true := (rfl)
@[go_sem] theorem pl_alloc {z : List Val} : LOp.plain (.alloc z) = true := (rfl)
@[go_sem] theorem pl_box {n : Nat} {x : Opd} : LOp.plain (.box n x) = true := (rfl)
@[go_sem] theorem pl_build {z : List Val} {p : List (Nat × Nat × Opd)} : LOp.plain (.build z p) = true := (rfl)
@[go_sem] theorem pl_bslice {a b : Nat} {z : List Val} {p : List (Nat × Opd)} : LOp.plain (.bslice a b z p) = true := (rfl)
@[go_sem] theorem pl_load {a : Bool} {n : Nat} {x : Opd} : LOp.plain (.load a n x) = true := (rfl)
@[go_sem] theorem pl_store {n : Nat} {x y : Opd} : LOp.plain (.store n x y) = true := (rfl)
@[go_sem] theorem pl_nilck {x : Opd} : LOp.plain (.nilck x) = true := (rfl)
@[go_sem] theorem pl_bin {b : BinOp} {t : EqT} {x y : Opd} : LOp.plain (.bin b t x y) = true := (rfl)
@[go_sem] theorem pl_un {u : UnOp} {x : Opd} : LOp.plain (.un u x) = true := (rfl)
@[go_sem] theorem pl_wrap {k : IntKind} {x : Opd} : LOp.plain (.wrap k x) = true := (rfl)
@[go_sem] theorem pl_iface {t : Nat} {x : Opd} : LOp.plain (.iface t x) = true := (rfl)
@[go_sem] theorem pl_assert {t : Nat} {z : Val} {b : Bool} {x : Opd} : LOp.plain (.assert t z b x) = true := (rfl)
@[go_sem] theorem pl_mkfn {f : Nat} {a b : List Opd} : LOp.plain (.mkfn f a b) = true := (rfl)
@[go_sem] theorem pl_mkmap  : LOp.plain (.mkmap ) = true := (rfl)
@[go_sem] theorem pl_mput {t : EqT} {a b c : Opd} : LOp.plain (.mput t a b c) = true := (rfl)
@[go_sem] theorem pl_mget {t : EqT} {z : Val} {b : Bool} {x y : Opd} : LOp.plain (.mget t z b x y) = true := (rfl)
@[go_sem] theorem pl_mklen {n : Nat} {z : List Val} {x y : Opd} : LOp.plain (.mklen n z x y) = true := (rfl)
@[go_sem] theorem pl_slice {b : Bool} {n : Nat} {x : Opd} {l h m : Option Opd} : LOp.plain (.slice b n x l h m) = true := (rfl)
@[go_sem] theorem pl_fa {n : Nat} {x : Opd} : LOp.plain (.fa n x) = true := (rfl)
@[go_sem] theorem pl_fld {b : Bool} {n m : Nat} {x : Opd} : LOp.plain (.fld b n m x) = true := (rfl)
@[go_sem] theorem pl_ia {n : Nat} {x y : Opd} : LOp.plain (.ia n x y) = true := (rfl)
@[go_sem] theorem pl_iaa {n m : Nat} {x y : Opd} : LOp.plain (.iaa n m x y) = true := (rfl)
@[go_sem] theorem pl_ixs {x y : Opd} : LOp.plain (.ixs x y) = true := (rfl)
@[go_sem] theorem pl_ixa {b : Bool} {n m : Nat} {x y : Opd} : LOp.plain (.ixa b n m x y) = true := (rfl)
@[go_sem] theorem pl_ext {n : Nat} {x : Opd} : LOp.plain (.ext n x) = true := (rfl)
@[go_sem] theorem pl_len {t : EqT} {x : Opd} : LOp.plain (.len t x) = true := (rfl)
@[go_sem] theorem pl_copy {n : Nat} {x y : Opd} : LOp.plain (.copy n x y) = true := (rfl)
@[go_sem] theorem pl_minmax {b : Bool} {l : List Opd} : LOp.plain (.minmax b l) = true := (rfl)
@[go_sem] theorem pl_rng {x : Opd} : LOp.plain (.rng x) = true := (rfl)
@[go_sem] theorem pl_nxt {x : Opd} : LOp.plain (.nxt x) = true := (rfl)
def WGuard (v : Val) (b : Bool) (yes no : Prop) : Prop :=
 match v with
 | .bool b' => if (b' == b) = true then yes else no
 | .tup [] => no
 | _ => False
@[congr] theorem guard_congr {v v' : Val} {b : Bool} {yes no : Prop} (h : v = v') : WGuard v b yes no = WGuard v' b yes no := by rw [h]
@[go_sem] theorem w_guard {t : Nat} {b : Bool} {op : LOp} : WOps L (⟨dst,op,some (t,b)⟩ :: l) ⟨fr,en,cnt⟩ Q =
  WGuard (fr t) b (WOps L (⟨dst,op,none⟩ :: l) ⟨fr,en,cnt⟩ Q) (WOps L l ⟨putFr fr dst (.tup []),en,cnt⟩ Q) := by
 simp only [WOps,WStep,wanted,WGuard]
 split <;> rename_i h
 ·split at h
  ·rename_i b' hb; simp only [Option.some.injEq] at h; simp only [hb,h,if_true]
  ·cases h
  ·cases h
 ·split at h
  ·rename_i b' hb; simp only [Option.some.injEq] at h; simp only [hb,h,Bool.false_eq_true,if_false]
  ·rename_i hb; simp only [hb]
  ·cases h
 ·split at h
  ·cases h
  ·cases h
  ·rename_i h1 h2
   split
   ·rename_i b' hb; exact absurd hb (h1 _)
   ·rename_i hb; exact absurd hb h2
   ·rfl
@[go_sem] theorem guard_tt {yes no : Prop} : WGuard (.bool true) true yes no = yes := (rfl)
@[go_sem] theorem guard_ff {yes no : Prop} : WGuard (.bool false) false yes no = yes := (rfl)
@[go_sem] theorem guard_tf {yes no : Prop} : WGuard (.bool true) false yes no = no := (rfl)
@[go_sem] theorem guard_ft {yes no : Prop} : WGuard (.bool false) true yes no = no := (rfl)
@[go_sem] theorem guard_un {yes no : Prop} {b : Bool} : WGuard (.tup []) b yes no = no := (rfl)
theorem guard_split {b b' : Bool} {yes no : Prop} (h : b = b' → yes) (k : b = !b' → no) : WGuard (.bool b) b' yes no := by
 cases b <;> cases b' <;> first | exact h rfl | exact k rfl
@[congr] theorem win_congr {f : Val} {a : List Val} {K : Val → En → (Nat → Nat → Nat) → Prop} {f' : Val} {a' : List Val} (h : f = f') (h' : a = a') : WIn L f a en cnt K = WIn L f' a' en cnt K := by rw [h,h']
@[go_sem] theorem w_icall {f : Opd} {args : List Opd} : WOps L (⟨dst,.icall f args,none⟩ :: l) ⟨fr,en,cnt⟩ Q =
  WIn L (St.get fr f) (args.map (St.get fr)) en cnt fun v en' cnt' => WOps L l ⟨putFr fr dst v,en',cnt'⟩ Q := (rfl)
def WRet (L : Prog) (f : Nat) (args : List Val) (K : Val → Prop) : Prop := ∃ r,PC L f args r ∧ K r
@[congr] theorem wret_congr {f : Nat} {a a' : List Val} {K : Val → Prop} (h : a = a') : WRet L f a K = WRet L f a' K := by rw [h]
theorem _root_.Go.Abs.PC.ret {L : Prog} {f : Nat} {args : List Val} {r : Val} (h : PC L f args r) {K : Val → Prop} : WRet L f args K = K r :=
 propext ⟨fun ⟨s,h1,h2⟩ => h.det h1 ▸ h2,fun h2 => ⟨r,h,h2⟩⟩
def WSnap (L : Prog) (f : Nat) (o : Option (List (Val × List Key))) (K : Val → List Key → Prop) : Prop :=
 match o with
 | some rs => WRet L f (rs.map (·.1.wk1)) fun r => K r (rs.flatMap (·.2))
 | none => False
@[congr] theorem wsnap_congr {f : Nat} {o o' : Option (List (Val × List Key))} {K : Val → List Key → Prop} (h : o = o') : WSnap L f o K = WSnap L f o' K := by rw [h]
@[go_sem] theorem wsnap {f : Nat} {rs : List (Val × List Key)} {K : Val → List Key → Prop} : WSnap L f (some rs) K = WRet L f (rs.map (·.1.wk1)) fun r => K r (rs.flatMap (·.2)) := (rfl)
def WCall (L : Prog) (en : En) (f : Val) (args : List Val) (K : Val → List Key → Prop) : Prop :=
 match f with
 | .fn f a b => WSnap L f (mapO (snapD 8 en) (a ++ args ++ b)) K
 | _ => False
@[congr] theorem wcall_congr {f f' : Val} {a a' : List Val} {K : Val → List Key → Prop} (h : f = f') (h' : a = a') : WCall L en f a K = WCall L en f' a' K := by rw [h,h']
@[go_sem] theorem w_call {f : Opd} {args : List Opd} : WOps L (⟨dst,.call f args,none⟩ :: l) ⟨fr,en,cnt⟩ Q =
  WCall L en (St.get fr f) (args.map (St.get fr)) fun r ks => WPut L l dst fr en cnt Q (some (callRes 0 (dst.getD 0) (cnt 0 (dst.getD 0)) r ks)) := by
 simp only [WOps,WStep,wanted,WOp,WCall,WSnap,WRet]
 cases St.get fr f <;> first | rfl | skip
@[go_sem] theorem wcall {f : Nat} {a b args : List Val} {K : Val → List Key → Prop} : WCall L en (.fn f a b) args K = WSnap L f (mapO (snapD 8 en) (a ++ args ++ b)) K := (rfl)
def isOwnV : Val → Bool
 | .own _ _ => true
 | _ => false
@[go_sem] theorem callRes_own {me d g sz : Nat} {xs : List Val} {ks : List Key} : callRes me d g (.own sz xs) ks =
  { v := .bl ⟨me,d,g⟩ 0 xs.length,ws := (if xs.all Val.flat1 then [] else ks.map .frz) ++ [.ent ⟨me,d,g⟩ (some (.blk sz xs false))],rs := ks.map .val,bump := true } := (rfl)
@[go_sem] theorem callRes_not {me d g : Nat} {v : Val} {ks : List Key} (h : isOwnV v = false) : callRes me d g v ks = { v,ws := if v.flat then [] else ks.map .frz,rs := ks.map .val } := by
 cases v <;> first | rfl | cases h
section
variable {k : IntKind} {i : Int} {b : Bool} {x : ByteArray} {xs ys : List Val} {m : Nat}
@[go_sem] theorem no_int : isOwnV (.int k i) = false := (rfl)
@[go_sem] theorem no_bool : isOwnV (.bool b) = false := (rfl)
@[go_sem] theorem no_str : isOwnV (.str x) = false := (rfl)
@[go_sem] theorem no_fz : isOwnV (.fz xs) = false := (rfl)
@[go_sem] theorem no_cl : isOwnV (.cl xs) = false := (rfl)
@[go_sem] theorem no_agg : isOwnV (.agg xs) = false := (rfl)
@[go_sem] theorem no_tup : isOwnV (.tup xs) = false := (rfl)
@[go_sem] theorem no_fp : isOwnV (.fp xs m) = false := (rfl)
@[go_sem] theorem no_fn : isOwnV (.fn m xs ys) = false := (rfl)
@[go_sem] theorem no_nili : isOwnV .nili = false := (rfl)
@[go_sem] theorem no_ifc {v : Val} : isOwnV (.ifc m v) = false := (rfl)
end
@[go_sem] theorem mapO_nil {α β : Type} {f : α → Option β} : mapO f [] = some [] := (rfl)
@[go_sem] theorem mapO_cons {α β : Type} {f : α → Option β} {x : α} {xs : List α} : mapO f (x :: xs) = (match f x with | some y => (match mapO f xs with | some ys => some (y :: ys) | none => none) | none => none) := (rfl)
@[go_sem] theorem ofCells_t {cs : List Val} : ofCells true cs = some (.agg cs) := (rfl)
@[go_sem] theorem ofCells_f {v : Val} : ofCells false [v] = some v := (rfl)
attribute [go_sem] o og on ong
def cellAt (cs : List Val) (off : Nat) : Option Val := cs[off]?
@[go_sem] theorem cellAt_z {v : Val} {cs : List Val} : cellAt (v :: cs) 0 = some v := (rfl)
@[go_sem] theorem cellAt_s {v : Val} {cs : List Val} {n : Nat} : cellAt (v :: cs) (n + 1) = cellAt cs n := (rfl)
section
variable {g : Nat} {get : Opd → Val}
@[go_sem] theorem ev_mv {x : Opd} : evalW d g en get (.mv x) = some { v := get x } := (rfl)
def opPick (c a b : Val) : Option Res := match c with | .bool t => some { v := if t then a else b } | _ => none
@[go_sem] theorem ev_pick {c a b : Opd} : evalW d g en get (.pick c a b) = opPick (get c) (get a) (get b) := (rfl)
@[go_sem] theorem pick_t {a b : Val} : opPick (.bool true) a b = some { v := a } := (rfl)
@[go_sem] theorem pick_f {a b : Val} : opPick (.bool false) a b = some { v := b } := (rfl)
@[go_sem] theorem pick_b {t a b : Bool} : opPick (.bool t) (.bool a) (.bool b) = some { v := .bool (if t then a else b) } := by cases t <;> rfl
@[go_sem] theorem ev_alloc {z : List Val} : evalW d g en get (.alloc z) = some { v := .ptr ⟨0,d,g⟩ 0,ws := [.ent ⟨0,d,g⟩ (some (.box z false))],bump := true } := (rfl)
def opBox (d g m : Nat) (x : Val) : Option Res := if x.one = true ∧ x.cells.length = m then some { v := .ptr ⟨0,d,g⟩ 0,ws := [.ent ⟨0,d,g⟩ (some (.box x.cells false))],bump := true } else none
@[go_sem] theorem ev_box {m : Nat} {x : Opd} : evalW d g en get (.box m x) = opBox d g m (get x) := (rfl)
@[go_sem] theorem box_agg {m : Nat} {cs : List Val} (h : cs.length = m) : opBox d g m (.agg cs) = some { v := .ptr ⟨0,d,g⟩ 0,ws := [.ent ⟨0,d,g⟩ (some (.box cs false))],bump := true } := by simp [opBox,Val.one,Val.cells,h]
@[go_sem] theorem box_int {k : IntKind} {n : Int} : opBox d g 1 (.int k n) = some { v := .ptr ⟨0,d,g⟩ 0,ws := [.ent ⟨0,d,g⟩ (some (.box [.int k n] false))],bump := true } := by simp [opBox,Val.one,Val.cells]
@[go_sem] theorem box_bool {b : Bool} : opBox d g 1 (.bool b) = some { v := .ptr ⟨0,d,g⟩ 0,ws := [.ent ⟨0,d,g⟩ (some (.box [.bool b] false))],bump := true } := by simp [opBox,Val.one,Val.cells]
@[go_sem] theorem box_str {b : ByteArray} : opBox d g 1 (.str b) = some { v := .ptr ⟨0,d,g⟩ 0,ws := [.ent ⟨0,d,g⟩ (some (.box [.str b] false))],bump := true } := by simp [opBox,Val.one,Val.cells]
@[go_sem] theorem box_fz {xs : List Val} : opBox d g 1 (.fz xs) = some { v := .ptr ⟨0,d,g⟩ 0,ws := [.ent ⟨0,d,g⟩ (some (.box [.fz xs] false))],bump := true } := by simp [opBox,Val.one,Val.cells]
@[go_sem] theorem box_fp {xs : List Val} {i : Nat} : opBox d g 1 (.fp xs i) = some { v := .ptr ⟨0,d,g⟩ 0,ws := [.ent ⟨0,d,g⟩ (some (.box [.fp xs i] false))],bump := true } := by simp [opBox,Val.one,Val.cells]
@[go_sem] theorem box_ptr {k : Key} {i : Nat} : opBox d g 1 (.ptr k i) = some { v := .ptr ⟨0,d,g⟩ 0,ws := [.ent ⟨0,d,g⟩ (some (.box [.ptr k i] false))],bump := true } := by simp [opBox,Val.one,Val.cells]
@[go_sem] theorem box_fn {f : Nat} {a b : List Val} : opBox d g 1 (.fn f a b) = some { v := .ptr ⟨0,d,g⟩ 0,ws := [.ent ⟨0,d,g⟩ (some (.box [.fn f a b] false))],bump := true } := by simp [opBox,Val.one,Val.cells]
@[go_sem] theorem ev_build {z : List Val} {ps : List (Nat × Nat × Opd)} : evalW d g en get (.build z ps) = (fillIn z (ps.map fun p => (p.1,p.2.1,get p.2.2))).map fun cs => { v := .agg cs } := (rfl)
@[go_sem] theorem ev_load {agg : Bool} {m : Nat} {a : Opd} : evalW d g en get (.load agg m a) = (match readAt en (get a) m with | some (cs,rs) => (ofCells agg cs).map fun v => { v,rs } | none => none) := (rfl)
@[go_sem] theorem ev_bin {op : BinOp} {t : EqT} {x y : Opd} : evalW d g en get (.bin op t x y) = (binVal op t (get x) (get y)).map fun v => { v } := (rfl)
def opNot (x : Val) : Option Res := match x with | .bool b => some { v := .bool !b } | _ => none
def opNeg (x : Val) : Option Res := match x with | .int k a => some { v := .int k (k.wrap (0 - a)) } | _ => none
@[go_sem] theorem ev_not {x : Opd} : evalW d g en get (.un .not x) = opNot (get x) := by
 simp only [evalW,eval,opNot]; cases get x <;> rfl
@[go_sem] theorem ev_neg {x : Opd} : evalW d g en get (.un .neg x) = opNeg (get x) := by
 simp only [evalW,eval,opNeg]; cases get x <;> rfl
@[go_sem] theorem not_b {b : Bool} : opNot (.bool b) = some { v := .bool !b } := (rfl)
@[go_sem] theorem neg_i {k : IntKind} {a : Int} : opNeg (.int k a) = some { v := .int k (k.wrap (0 - a)) } := (rfl)
def opWrap (k : IntKind) (x : Val) : Option Res := match x with | .int _ a => some { v := .int k (k.wrap a) } | _ => none
@[go_sem] theorem ev_wrap {k : IntKind} {x : Opd} : evalW d g en get (.wrap k x) = opWrap k (get x) := (rfl)
@[go_sem] theorem wrap_i {k j : IntKind} {a : Int} : opWrap k (.int j a) = some { v := .int k (k.wrap a) } := (rfl)
@[go_sem] theorem ev_iface {t : Nat} {x : Opd} : evalW d g en get (.iface t x) = if (get x).one = true then some { v := .ifc t (get x) } else none := (rfl)
def opAssert (t : Nat) (z : Val) (ok : Bool) (x : Val) : Option Res := match x with
 | .ifc t' v => if t' = t then some { v := if ok then .tup [v,.bool true] else v } else if ok then some { v := .tup [z,.bool false] } else none
 | .nili => if ok then some { v := .tup [z,.bool false] } else none
 | _ => none
@[go_sem] theorem ev_assert {t : Nat} {z : Val} {ok : Bool} {x : Opd} : evalW d g en get (.assert t z ok x) = opAssert t z ok (get x) := (rfl)
@[go_sem] theorem assert_ifc {t t' : Nat} {z v : Val} : opAssert t z true (.ifc t' v) = some { v := if t' = t then .tup [v,.bool true] else .tup [z,.bool false] } := by
 simp only [opAssert]; split <;> simp
@[go_sem] theorem assert_nil {t : Nat} {z : Val} : opAssert t z true .nili = some { v := .tup [z,.bool false] } := (rfl)
@[go_sem] theorem ev_mkfn {f : Nat} {a b : List Opd} : evalW d g en get (.mkfn f a b) = some { v := .fn f (a.map get) (b.map get) } := (rfl)
@[go_sem] theorem ev_mkmap : evalW d g en get .mkmap = some { v := .mp ⟨0,d,g⟩,ws := [.ent ⟨0,d,g⟩ (some (.map [] [] false))],bump := true } := (rfl)
def opLen (t : EqT) (en : En) (x : Val) : Option Res := match t with
  | .map => match x with
   | .mp key => match en key with
    | some (.map ks _ _) => some { v := .int .i64 ks.length,rs := [.val key] }
    | _ => none
   | .fm ks _ => some { v := .int .i64 ks.length }
   | .nilm => some { v := .int .i64 0 }
   | _ => none
  | .str => match x with
   | .str s => some { v := .int .i64 s.size }
   | _ => none
  | .slice => (lenOf x).map fun m => { v := .int .i64 m }
  | _ => none
@[go_sem] theorem ev_len {t : EqT} {x : Opd} : evalW d g en get (.len t x) = opLen t en (get x) := (rfl)
@[go_sem] theorem len_s {x : Val} : opLen .slice en x = (lenOf x).map fun (m : Nat) => { v := .int .i64 (m : Int) } := by simp only [opLen]; cases lenOf x <;> rfl
@[go_sem] theorem len_str {s : ByteArray} : opLen .str en (.str s) = some { v := .int .i64 s.size } := (rfl)
@[go_sem] theorem len_nilm : opLen .map en .nilm = some { v := .int .i64 0 } := (rfl)
@[go_sem] theorem len_fm {ks vs : List Val} : opLen .map en (.fm ks vs) = some { v := .int .i64 ks.length } := (rfl)
@[go_sem] theorem lenOf_fz {xs : List Val} : lenOf (.fz xs) = some xs.length := (rfl)
@[go_sem] theorem lenOf_cl {xs : List Val} : lenOf (.cl xs) = some xs.length := (rfl)
@[go_sem] theorem lenOf_bl {k : Key} {o n : Nat} : lenOf (.bl k o n) = some n := (rfl)
def opExt (i : Nat) (x : Val) : Option Res := match x with | .tup vs => (vs[i]?).map fun v => { v } | _ => none
@[go_sem] theorem ev_ext {i : Nat} {x : Opd} : evalW d g en get (.ext i x) = opExt i (get x) := (rfl)
@[go_sem] theorem ext_tup {i : Nat} {vs : List Val} : opExt i (.tup vs) = (cellAt vs i).map fun v => { v } := (rfl)
def opFa (off : Nat) (x : Val) : Option Res := match x with
  | .fp cs o => some { v := .fp cs (o + off) }
  | .ptr k o => some { v := .ptr k (o + off) }
  | .ep k i o => some { v := .ep k i (o + off) }
  | _ => none
@[go_sem] theorem ev_fa {off : Nat} {x : Opd} : evalW d g en get (.fa off x) = opFa off (get x) := (rfl)
@[go_sem] theorem fa_fp {off o : Nat} {cs : List Val} : opFa off (.fp cs o) = some { v := .fp cs (o + off) } := (rfl)
@[go_sem] theorem fa_ptr {off o : Nat} {k : Key} : opFa off (.ptr k o) = some { v := .ptr k (o + off) } := (rfl)
@[go_sem] theorem fa_ep {off o i : Nat} {k : Key} : opFa off (.ep k i o) = some { v := .ep k i (o + off) } := (rfl)
def opIa (size : Nat) (en : En) (x i : Val) : Option Res := match i with
  | .int _ j =>
   match x with
   | .fz xs | .cl xs => if 0 ≤ j then match xs[j.toNat]? with
     | some y => if y.cells.length = size then some { v := .fp y.cells 0 } else none
     | none => none else none
   | .bl k off len => match en k with
    | some (.blk sz _ _) => if 0 ≤ j ∧ j < len ∧ sz = size then some { v := .ep k (off + j.toNat) 0,rs := [.val k] } else none
    | _ => none
   | _ => none
  | _ => none
@[go_sem] theorem ev_ia {size : Nat} {x i : Opd} : evalW d g en get (.ia size x i) = opIa size en (get x) (get i) := by
 simp only [evalW,eval,opIa]; cases get i <;> rfl
theorem ia_at {size : Nat} {xs : List Val} {k : IntKind} {j : Nat} {y : Val} (h : xs[j]? = some y) (hs : y.cells.length = size) : opIa size en (.fz xs) (.int k j) = some { v := .fp y.cells 0 } := by
 simp [opIa,h,hs]
@[go_sem] theorem ia_map {α : Type} {f : α → Val} {size : Nat} {l : List α} {k : IntKind} {j : Nat} (h : j < l.length) (hs : ((f l[j]).cells.length == size) = true) : opIa size en (.fz (l.map f)) (.int k j) = some { v := .fp (f l[j]).cells 0 } :=
 ia_at (by simp [h]) (by simpa using hs)
@[go_sem] theorem ev_bslice {len size : Nat} {z : List Val} {ps : List (Nat × Opd)} : evalW d g en get (.bslice len size z ps) =
  if len * size ≤ 16777216 then
   match mapO (fun p => match snapD 8 en (get p.2) with | some r => some ((p.1,r.1.wk1),r.2) | none => none) ps with
   | some ps => match fillElems (List.replicate len (ofZero size z false)) size (ps.map (·.1)) with
    | some xs => some { v := .cl xs,ws := (ps.flatMap (·.2)).map .frz,rs := (ps.flatMap (·.2)).map .val }
    | none => none
   | none => none
  else none := (rfl)
def opMinmax (mx : Bool) (xs : List Val) : Option Res := match xs with
  | [.int j a,.int k b] => if j = k then some { v := .int j (if mx then (if b > a then b else a) else (if b < a then b else a)) } else none
  | _ => none
@[go_sem] theorem ev_minmax {mx : Bool} {xs : List Opd} : evalW d g en get (.minmax mx xs) = opMinmax mx (xs.map get) := (rfl)
@[go_sem] theorem max_i {k : IntKind} {a b : Int} : opMinmax true [.int k a,.int k b] = some { v := .int k (max a b) } := by
 simp only [opMinmax,if_true,Option.some.injEq,Res.mk.injEq,Val.int.injEq,true_and,and_true]; omega
@[go_sem] theorem min_i {k : IntKind} {a b : Int} : opMinmax false [.int k a,.int k b] = some { v := .int k (min a b) } := by
 simp only [opMinmax,if_true,Bool.false_eq_true,if_false,Option.some.injEq,Res.mk.injEq,Val.int.injEq,true_and,and_true]; omega
def opNilck (x : Val) : Option Res := match x with
  | .fp cs off => some { v := .fp cs off }
  | .ptr k off => some { v := .ptr k off }
  | .ep k i off => some { v := .ep k i off }
  | .fn f a b => some { v := .fn f a b }
  | .ifc t v => some { v := .ifc t v }
  | _ => none
@[go_sem] theorem ev_nilck {x : Opd} : evalW d g en get (.nilck x) = opNilck (get x) := (rfl)
@[go_sem] theorem nilck_fp {cs : List Val} {o : Nat} : opNilck (.fp cs o) = some { v := .fp cs o } := (rfl)
@[go_sem] theorem nilck_ptr {k : Key} {o : Nat} : opNilck (.ptr k o) = some { v := .ptr k o } := (rfl)
@[go_sem] theorem nilck_fn {f : Nat} {a b : List Val} : opNilck (.fn f a b) = some { v := .fn f a b } := (rfl)
@[go_sem] theorem nilck_ifc {t : Nat} {v : Val} : opNilck (.ifc t v) = some { v := .ifc t v } := (rfl)
end
@[go_sem] theorem fillE_nil {xs : List Val} {size : Nat} : fillElems xs size [] = some xs := (rfl)
@[go_sem] theorem fillE_cons {xs : List Val} {size i : Nat} {v : Val} {rest : List (Nat × Val)} (h1 : v.one = true) (h2 : v.cells.length = size) (h3 : i < xs.length) : fillElems xs size ((i,v) :: rest) = fillElems (xs.set i v) size rest := by
 simp only [fillElems,h1,h2,h3,and_self,if_true]
@[go_sem] theorem rep_0 {z : Val} : List.replicate 0 z = [] := (rfl)
@[go_sem] theorem rep_1 {z : Val} : List.replicate 1 z = [z] := (rfl)
@[go_sem] theorem rep_2 {z : Val} : List.replicate 2 z = [z,z] := (rfl)
@[go_sem] theorem rep_3 {z : Val} : List.replicate 3 z = [z,z,z] := (rfl)
@[go_sem] theorem rep_4 {z : Val} : List.replicate 4 z = [z,z,z,z] := (rfl)
@[go_sem] theorem rep_5 {z : Val} : List.replicate 5 z = [z,z,z,z,z] := (rfl)
@[go_sem] theorem fill_nil {cs : List Val} : fillIn cs [] = some cs := (rfl)
@[go_sem] theorem fill_cons {cs : List Val} {off size : Nat} {v : Val} {rest : List (Nat × Nat × Val)} (h1 : v.one = true) (h2 : v.cells.length = size) (h3 : off + size ≤ cs.length) : fillIn cs ((off,size,v) :: rest) = fillIn (setCells cs off v.cells) rest := by
 simp only [fillIn,h1,h2,h3,and_self,if_true]
@[go_sem] theorem set_nil {cs : List Val} {off : Nat} : setCells cs off [] = cs := (rfl)
@[go_sem] theorem set_cons {cs : List Val} {off : Nat} {v : Val} {vs : List Val} : setCells cs off (v :: vs) = setCells (cs.set off v) (off + 1) vs := (rfl)
attribute [go_sem] List.set_cons_zero List.set_cons_succ
@[go_sem] theorem ia_lit {size : Nat} {xs : List Val} {k : IntKind} {j : Int} : opIa size en (.cl xs) (.int k j) = if 0 ≤ j then (match cellAt xs j.toNat with | some y => if y.cells.length = size then some { v := .fp y.cells 0 } else none | none => none) else none := (rfl)
section
variable {k : IntKind} {a b : Int}
@[go_sem] theorem bin_add : binVal .add .num (.int k a) (.int k b) = some (.int k (k.wrap (a + b))) := by simp [binVal,binInt]
@[go_sem] theorem bin_sub : binVal .sub .num (.int k a) (.int k b) = some (.int k (k.wrap (a - b))) := by simp [binVal,binInt]
@[go_sem] theorem bin_mul : binVal .mul .num (.int k a) (.int k b) = some (.int k (k.wrap (a * b))) := by simp [binVal,binInt]
@[go_sem] theorem bin_quo : binVal .quo .num (.int k a) (.int k b) = if b = 0 then none else some (.int k (k.wrap (a.tdiv b))) := by simp [binVal,binInt]
@[go_sem] theorem bin_rem : binVal .rem .num (.int k a) (.int k b) = if b = 0 then none else some (.int k (a.tmod b)) := by simp [binVal,binInt]
@[go_sem] theorem bin_lss : binVal .lss .num (.int k a) (.int k b) = some (.bool (decide (a < b))) := by simp [binVal,binInt]
@[go_sem] theorem bin_leq : binVal .leq .num (.int k a) (.int k b) = some (.bool (decide (a ≤ b))) := by simp [binVal,binInt]
@[go_sem] theorem bin_gtr : binVal .gtr .num (.int k a) (.int k b) = some (.bool (decide (b < a))) := by simp [binVal,binInt]
@[go_sem] theorem bin_geq : binVal .geq .num (.int k a) (.int k b) = some (.bool (decide (b ≤ a))) := by simp [binVal,binInt]
@[go_sem] theorem bin_eql : binVal .eql .num (.int k a) (.int k b) = some (.bool (decide (a = b))) := by
 simp only [binVal,eqVal,if_true,Option.map_some]; congr 2
@[go_sem] theorem bin_neq : binVal .neq .num (.int k a) (.int k b) = some (.bool (!decide (a = b))) := by
 simp only [binVal,eqVal,if_true,Option.map_some]; congr 3
@[go_sem] theorem bin_eqb {x y : Bool} : binVal .eql .bool (.bool x) (.bool y) = some (.bool (x == y)) := (rfl)
@[go_sem] theorem bin_neb {x y : Bool} : binVal .neq .bool (.bool x) (.bool y) = some (.bool (!(x == y))) := (rfl)
@[go_sem] theorem bin_eqs {x y : ByteArray} : binVal .eql .str (.str x) (.str y) = some (.bool (x.toList == y.toList)) := (rfl)
@[go_sem] theorem bin_nes {x y : ByteArray} : binVal .neq .str (.str x) (.str y) = some (.bool (!(x.toList == y.toList))) := (rfl)
end
@[go_sem] theorem applyAll_nil : W.applyAll en [] = en := (rfl)
@[go_sem] theorem applyAll_cons {w : W} {ws : List W} : W.applyAll en (w :: ws) = W.applyAll (w.apply en) ws := (rfl)
@[go_sem] theorem apply_ent {k : Key} {e : Option Ent} : (W.ent k e).apply en = en.set k e := (rfl)
theorem take1 (cs : List Val) (off : Nat) : (if off + 1 ≤ cs.length then some ((cs.drop off).take 1) else none) = (cs[off]?).map fun v => [v] := by
 by_cases h : off < cs.length
 ·rw [if_pos (by omega),List.getElem?_eq_getElem h,List.drop_eq_getElem_cons h]; rfl
 ·rw [if_neg (by omega),List.getElem?_eq_none (by omega)]; rfl
theorem read1 (cs : List Val) (off : Nat) (rs : List R) : (if off + 1 ≤ cs.length then some ((cs.drop off).take 1,rs) else none) = (cellAt cs off).map fun v => ([v],rs) := by
 have := take1 cs off
 unfold cellAt
 by_cases h : off + 1 ≤ cs.length
 ·rw [if_pos h] at this ⊢; cases hc : cs[off]? with
  | none => rw [hc] at this; cases this
  | some v => rw [hc] at this; simp only [Option.map,Option.some.injEq] at this ⊢; rw [this]
 ·rw [if_neg h] at this ⊢; cases hc : cs[off]? with
  | none => rfl
  | some v => rw [hc] at this; cases this
@[go_sem] theorem read_fp1 {cs : List Val} {off : Nat} : readAt en (.fp cs off) 1 = (cellAt cs off).map fun v => ([v],[]) := read1 cs off []
@[go_sem] theorem read_ptr {k : Key} {off n : Nat} : readAt en (.ptr k off) n = (match en k with | some (.box cs _) => if off + n ≤ cs.length then some ((cs.drop off).take n,[.cells k off n]) else none | _ => none) := (rfl)
@[go_sem] theorem read_fp {cs : List Val} {off n : Nat} : readAt en (.fp cs off) n = if off + n ≤ cs.length then some ((cs.drop off).take n,[]) else none := (rfl)
@[go_sem] theorem opt_map_some {α β : Type} {f : α → β} {x : α} : (some x).map f = some (f x) := (rfl)
@[go_sem] theorem opt_map_none {α β : Type} {f : α → β} : (none : Option α).map f = none := (rfl)
attribute [go_sem] List.drop_zero List.drop_succ_cons List.take_zero List.take_succ_cons List.length_cons List.length_nil List.take_nil List.drop_nil
section
variable {st : St} {R : Ex → St → Prop}
@[congr] theorem wp_congr {c : LCode} : Wp L c st R = Wp L c st R := (rfl)
@[go_sem] theorem wp_start {c : LCode} {args : List Val} : Wp L c (start args) R = Wp L c ⟨fun i => args.getD i (.tup []),fun _ => none,fun _ _ => 0⟩ R := (rfl)
@[go_sem] theorem wp_skip : Wp L .skip st R = R .normal st := (rfl)
@[go_sem] theorem wp_ops {l : List LOper} : Wp L (.ops l) st R = WOps L l st (R .normal) := (rfl)
@[go_sem] theorem wp_draw {l : List LOper} : Wp L (.draw l []) st R = WOps L l st (R .normal) := by simp [Wp]
theorem qW {a b : LCode} : Wp L (.seq a b) st R = Wp L a st fun e st' => match e with
  | .normal => Wp L b st' R
  | .exit i => R (.exit i) st'
  | .ret => R .ret st' := (rfl)
def WCond (v : Val) (a b : Prop) : Prop := match v with | .bool t => if t = true then a else b | _ => False
@[go_sem] theorem wp_cond {x : Opd} {a b : LCode} : Wp L (.cond x a b) ⟨fr,en,cnt⟩ R = WCond (St.get fr x) (Wp L a ⟨fr,en,cnt⟩ R) (Wp L b ⟨fr,en,cnt⟩ R) := (rfl)
@[congr] theorem wcond_congr {v v' : Val} {a b : Prop} (h : v = v') : WCond v a b = WCond v' a b := by rw [h]
@[go_sem] theorem wcond_t {a b : Prop} : WCond (.bool true) a b = a := (rfl)
@[go_sem] theorem wcond_f {a b : Prop} : WCond (.bool false) a b = b := (rfl)
theorem wcond_split {t : Bool} {a b : Prop} (h : t = true → a) (k : t = false → b) : WCond (.bool t) a b := by cases t <;> first | exact h rfl | exact k rfl
@[go_sem] theorem wp_block {id : Nat} {b : LCode} : Wp L (.block id b) st R = Wp L b st fun e st' => match e with
  | .exit id' => if id' = id then R .normal st' else R (.exit id') st'
  | .normal => R .normal st'
  | .ret => R .ret st' := (rfl)
@[go_sem] theorem wp_exit {id : Nat} : Wp L (.exit id) st R = R (.exit id) st := (rfl)
@[go_sem] theorem wp_ret : Wp L .ret st R = R .ret st := (rfl)
end
attribute [go_sem] Ex.ends WRes readRes tupOf ownOf List.getD_cons_zero List.getD_cons_succ List.getD_nil List.map_cons List.map_nil List.append_nil List.nil_append List.cons_append List.flatMap_cons List.flatMap_nil
 not_false_eq_true not_true_eq_false ne_eq Option.map_some List.all_cons List.all_nil true_and and_true Bool.and_true Bool.true_and Bool.and_false Bool.false_and if_true if_false Bool.false_eq_true Bool.not_true Bool.not_false Nat.zero_add Nat.add_zero
section
variable {k : IntKind} {i : Int} {b : Bool} {x : ByteArray} {xs ys : List Val} {m : Nat}
@[go_sem] theorem wk_int : Val.wk (.int k i) = .int k i := (rfl)
@[go_sem] theorem wk_bool : Val.wk (.bool b) = .bool b := (rfl)
@[go_sem] theorem wk_str : Val.wk (.str x) = .str x := (rfl)
@[go_sem] theorem wk_fz : Val.wk (.fz xs) = .fz xs := (rfl)
@[go_sem] theorem wk_cl : Val.wk (.cl xs) = .fz xs := (rfl)
@[go_sem] theorem wk_fp : Val.wk (.fp xs m) = .fp xs m := (rfl)
@[go_sem] theorem wk_fn : Val.wk (.fn m xs ys) = .fn m xs ys := (rfl)
@[go_sem] theorem wk_nili : Val.wk .nili = .nili := (rfl)
@[go_sem] theorem wk_nilp : Val.wk .nilp = .nilp := (rfl)
@[go_sem] theorem wk_ifc {v : Val} : Val.wk (.ifc m v) = .ifc m v := (rfl)
@[go_sem] theorem wk_fm : Val.wk (.fm xs ys) = .fm xs ys := (rfl)
@[go_sem] theorem wk_agg : Val.wk (.agg xs) = .agg (xs.map Val.wk0) := (rfl)
@[go_sem] theorem wk_tup : Val.wk (.tup xs) = .tup (xs.map Val.wk1) := (rfl)
@[go_sem] theorem wk1_int : Val.wk1 (.int k i) = .int k i := (rfl)
@[go_sem] theorem wk1_bool : Val.wk1 (.bool b) = .bool b := (rfl)
@[go_sem] theorem wk1_str : Val.wk1 (.str x) = .str x := (rfl)
@[go_sem] theorem wk1_fz : Val.wk1 (.fz xs) = .fz xs := (rfl)
@[go_sem] theorem wk1_cl : Val.wk1 (.cl xs) = .fz xs := (rfl)
@[go_sem] theorem wk1_fp : Val.wk1 (.fp xs m) = .fp xs m := (rfl)
@[go_sem] theorem wk1_fn : Val.wk1 (.fn m xs ys) = .fn m xs ys := (rfl)
@[go_sem] theorem wk1_nili : Val.wk1 .nili = .nili := (rfl)
@[go_sem] theorem wk1_nilp : Val.wk1 .nilp = .nilp := (rfl)
@[go_sem] theorem wk1_nilm : Val.wk1 .nilm = .nilm := (rfl)
@[go_sem] theorem wk1_ifc {v : Val} : Val.wk1 (.ifc m v) = .ifc m v := (rfl)
@[go_sem] theorem wk1_fm : Val.wk1 (.fm xs ys) = .fm xs ys := (rfl)
@[go_sem] theorem wk1_agg : Val.wk1 (.agg xs) = .agg (xs.map Val.wk0) := (rfl)
@[go_sem] theorem wk0_int : Val.wk0 (.int k i) = .int k i := (rfl)
@[go_sem] theorem wk0_bool : Val.wk0 (.bool b) = .bool b := (rfl)
@[go_sem] theorem wk0_str : Val.wk0 (.str x) = .str x := (rfl)
@[go_sem] theorem wk0_fz : Val.wk0 (.fz xs) = .fz xs := (rfl)
@[go_sem] theorem wk0_cl : Val.wk0 (.cl xs) = .fz xs := (rfl)
@[go_sem] theorem wk0_fp : Val.wk0 (.fp xs m) = .fp xs m := (rfl)
@[go_sem] theorem wk0_fn : Val.wk0 (.fn m xs ys) = .fn m xs ys := (rfl)
@[go_sem] theorem wk0_nili : Val.wk0 .nili = .nili := (rfl)
@[go_sem] theorem wk0_nilp : Val.wk0 .nilp = .nilp := (rfl)
@[go_sem] theorem wk0_ifc {v : Val} : Val.wk0 (.ifc m v) = .ifc m v := (rfl)
@[go_sem] theorem flat_int : Val.flat (.int k i) = true := (rfl)
@[go_sem] theorem flat_bool : Val.flat (.bool b) = true := (rfl)
@[go_sem] theorem flat_str : Val.flat (.str x) = true := (rfl)
@[go_sem] theorem cells_agg : Val.cells (.agg xs) = xs := (rfl)
@[go_sem] theorem cells_int : Val.cells (.int k i) = [.int k i] := (rfl)
@[go_sem] theorem cells_bool : Val.cells (.bool b) = [.bool b] := (rfl)
@[go_sem] theorem cells_str : Val.cells (.str x) = [.str x] := (rfl)
@[go_sem] theorem cells_fz : Val.cells (.fz xs) = [.fz xs] := (rfl)
@[go_sem] theorem one_int : Val.one (.int k i) = true := (rfl)
@[go_sem] theorem one_bool : Val.one (.bool b) = true := (rfl)
@[go_sem] theorem one_str : Val.one (.str x) = true := (rfl)
@[go_sem] theorem one_fz : Val.one (.fz xs) = true := (rfl)
@[go_sem] theorem one_cl : Val.one (.cl xs) = true := (rfl)
@[go_sem] theorem one_agg : Val.one (.agg xs) = true := (rfl)
end
section
variable {n : Nat}
@[go_sem] theorem sn_bool {b : Bool} : snapD (n + 1) en (.bool b) = some (.bool b,[]) := (rfl)
@[go_sem] theorem sn_int {k : IntKind} {i : Int} : snapD (n + 1) en (.int k i) = some (.int k i,[]) := (rfl)
@[go_sem] theorem sn_str {s : ByteArray} : snapD (n + 1) en (.str s) = some (.str s,[]) := (rfl)
@[go_sem] theorem sn_nilp : snapD (n + 1) en .nilp = some (.nilp,[]) := (rfl)
@[go_sem] theorem sn_nilm : snapD (n + 1) en .nilm = some (.nilm,[]) := (rfl)
@[go_sem] theorem sn_nilf : snapD (n + 1) en .nilf = some (.nilf,[]) := (rfl)
@[go_sem] theorem sn_nili : snapD (n + 1) en .nili = some (.nili,[]) := (rfl)
@[go_sem] theorem sn_fz {xs : List Val} : snapD (n + 1) en (.fz xs) = some (.fz xs,[]) := (rfl)
@[go_sem] theorem sn_cl {xs : List Val} : snapD (n + 1) en (.cl xs) = some (.cl xs,[]) := (rfl)
@[go_sem] theorem sn_fp {xs : List Val} {off : Nat} : snapD (n + 1) en (.fp xs off) = some (.fp xs off,[]) := (rfl)
@[go_sem] theorem sn_fm {xs ys : List Val} : snapD (n + 1) en (.fm xs ys) = some (.fm xs ys,[]) := (rfl)
@[go_sem] theorem sn_agg {cs : List Val} : snapD (n + 1) en (.agg cs) = (match mapO (snapD n en) cs with | some rs => some (.agg (rs.map (·.1)),rs.flatMap (·.2)) | none => none) := (rfl)
@[go_sem] theorem sn_tup {cs : List Val} : snapD (n + 1) en (.tup cs) = (match mapO (snapD n en) cs with | some rs => some (.tup (rs.map (·.1)),rs.flatMap (·.2)) | none => none) := (rfl)
@[go_sem] theorem sn_ptr {k : Key} {off : Nat} : snapD (n + 1) en (.ptr k off) = (match en k with | some (.box cs _) => (match mapO (snapD n en) cs with | some rs => some (.fp (rs.map (·.1)) off,k :: rs.flatMap (·.2)) | none => none) | _ => none) := (rfl)
@[go_sem] theorem sn_bl {k : Key} {off len : Nat} : snapD (n + 1) en (.bl k off len) = (match en k with | some (.blk _ xs _) => if off + len ≤ xs.length then some (.fz ((xs.drop off).take len),[k]) else none | _ => none) := (rfl)
end
theorem wp_for {L : Prog} {b : LCode} {Q : Ex → St → Prop} {st : St} (n : Nat) (I : Nat → St → Prop) (k0 : Nat) (hle : k0 ≤ n) (h0 : I k0 st)
  (hr : ∀ k st,k ≤ n → I k st → Wp L b st fun e st' => match e with
   | .normal => k < n ∧ I (k + 1) st'
   | .exit i => Q (.exit i) st'
   | .ret => Q .ret st') : Wp L (.loop b) st Q :=
 wp_loop (fun k st => k ≤ n ∧ I k st) (fun k => n - k) k0 ⟨hle,h0⟩ fun k st ⟨hk,hI⟩ => wp_mono b (hr k st hk hI) fun e st' h => by
  cases e with
  | normal => exact ⟨k + 1,⟨by omega,h.2⟩,by omega⟩
  | exit i => exact h
  | ret => exact h
theorem wrap_in {n : Int} (h : -9223372036854775808 ≤ n ∧ n ≤ 9223372036854775807) : IntKind.i64.wrap n = n := IntWalk.i64_in n h
def Few (n : Nat) : Prop := n ≤ 9223372036854775807
@[go_sem] theorem wrap_succ {k n : Nat} (h : k < n) (hn : Few n) : IntKind.i64.wrap ((k : Int) + 1) = ((k + 1 : Nat) : Int) := by
 unfold Few at hn; rw [wrap_in (by omega)]; rfl
attribute [go_sem] Int.ofNat_lt Int.ofNat_le Int.ofNat_inj decide_true decide_false List.length_map
@[go_sem] theorem eq2 {k : IntKind} {a b c d : Int} : binVal .eql (.agg [.num,.num]) (.agg [.int k a,.int k b]) (.agg [.int k c,.int k d]) = some (.bool (decide (a = c) && decide (b = d))) := by
 simp only [binVal,eqVal,List.length_cons,List.length_nil,and_self,if_true,eqCells,eqCell]
 have e : (a == c) = decide (a = c) := by by_cases h : a = c <;> simp [h]
 have e' : (b == d) = decide (b = d) := by by_cases h : b = d <;> simp [h]
 rw [e,e']
 by_cases h : a = c <;> by_cases h' : b = d <;> simp [h,h']
@[go_sem] theorem ne2 {k : IntKind} {a b c d : Int} : binVal .neq (.agg [.num,.num]) (.agg [.int k a,.int k b]) (.agg [.int k c,.int k d]) = some (.bool (!(decide (a = c) && decide (b = d)))) := by
 simp only [binVal,eqVal,List.length_cons,List.length_nil,and_self,if_true,eqCells,eqCell]
 have e : (a == c) = decide (a = c) := by by_cases h : a = c <;> simp [h]
 have e' : (b == d) = decide (b = d) := by by_cases h : b = d <;> simp [h]
 rw [e,e']
 by_cases h : a = c <;> by_cases h' : b = d <;> simp [h,h']
end
end Go.Abs
