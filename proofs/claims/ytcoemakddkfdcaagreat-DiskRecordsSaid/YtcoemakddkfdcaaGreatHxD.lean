/- The interpreter of the translated code, and its proof: part D. -/
import Derived.Test.YtcoemakddkfdcaaGreatHxA
import Derived.Test.YtcoemakddkfdcaaGreatHxC
import Derived.IntWalk
import Derived.ChangeArms
import Derived.ChangeBears
import Derived.JoinedOf
import Derived.KernelRfl
set_option linter.all false
namespace Go.Abs
def CLe (c c' : CallFn) : Prop := ∀ f a r,c f a = some r → c' f a = some r
def ILe (i j : Inl) : Prop := (∀ f a s r,i.fn f a s = some r → j.fn f a s = some r) ∧ ∀ k a s r,i.yld k a s = some r → j.yld k a s = some r
def XLe (x y : LCode → St → Option (Ex × St)) : Prop := ∀ c s r,x c s = some r → y c s = some r
theorem eval_mono {n : Nat} {c c' : CallFn} (h : CLe c c') {me d g : Nat} {en : En} {get : Opd → Val} {op : LOp} {r : Res} (he : eval n c me d g en get op = some r) : eval n c' me d g en get op = some r := by
 by_cases hc : ∃ f args,op = .call f args
 ·obtain ⟨f,args,rfl⟩ := hc
  simp only [eval] at he ⊢
  split at he
  case h_2 => cases he
  split at he
  case h_2 => cases he
  split at he
  case h_2 => cases he
  rename_i hv
  rw [h _ _ _ hv]; exact he
 ·cases op <;> first | exact absurd ⟨_,_,rfl⟩ hc | exact he
theorem inlcall_mono {i j : Inl} (h : ILe i j) {f : Val} {a : List Val} {s : St} {r : Val × St} (he : i.call f a s = some r) : j.call f a s = some r := by
 cases f <;> simp only [Inl.call,reduceCtorEq] at he ⊢
 ·exact h.1 _ _ _ _ he
 ·exact h.2 _ _ _ _ he
theorem step_mono {n : Nat} {c c' : CallFn} {i j : Inl} (hc : CLe c c') (hi : ILe i j) {st : St} {o : LOper} {r : St × Res} (h : step n c i 0 st o = some r) : step n c' j 0 st o = some r := by
 obtain ⟨dst,op,g⟩ := o
 simp only [step] at h ⊢
 split at h
 ·exact h
 ·cases op with
  | icall f args =>
   simp only at h ⊢
   split at h
   case h_2 => cases h
   rename_i hv
   rw [inlcall_mono hi hv]; exact h
  | _ =>
   simp only at h ⊢
   split at h
   case h_2 => cases h
   rename_i hv
   rw [eval_mono hc hv]; exact h
 ·cases h
theorem runOps_mono {n : Nat} {c c' : CallFn} {i j : Inl} (hc : CLe c c') (hi : ILe i j) : ∀ (l : List LOper) {st r : St},runOps n c i 0 l st = some r → runOps n c' j 0 l st = some r
 | [],_,_,h => h
 | o :: l,st,r,h => by
  simp only [runOps] at h ⊢
  split at h
  case h_2 => cases h
  rename_i hs
  rw [step_mono hc hi hs]; exact runOps_mono hc hi l h
theorem runRec_mono {n : Nat} {c c' : CallFn} {i j : Inl} (hc : CLe c c') (hi : ILe i j) : ∀ (l : List LOper) {st : St} {r : St × List Res},runRec n c i 0 l st = some r → runRec n c' j 0 l st = some r
 | [],_,_,h => h
 | o :: l,st,r,h => by
  simp only [runRec] at h ⊢
  split at h
  case h_2 => cases h
  rename_i hs
  rw [step_mono hc hi hs]
  split at h
  case h_2 => cases h
  rename_i hr
  simp only [runRec_mono hc hi l hr]; exact h
theorem body_mono {x y : LCode → St → Option (Ex × St)} (h : XLe x y) {lf : LFunc} {n : Nat} {a : List Val} {r : Val} (hb : callBody lf n x a = some r) : callBody lf n y a = some r := by
 simp only [callBody] at hb ⊢
 split at hb
 case h_2 => cases hb
 rename_i hx
 rw [h _ _ _ hx]; exact hb
theorem same_mono {a b a' b' : Option Val} {r : Val} (ha : ∀ r,a = some r → a' = some r) (hb : ∀ r,b = some r → b' = some r) (h : sameEmpty a b = some r) : sameEmpty a' b' = some r := by
 unfold sameEmpty at h
 split at h <;> first | (cases h; done) | (rw [ha _ rfl,hb _ rfl]; exact h)
theorem call_mono {L : Prog} {x y : LCode → St → Option (Ex × St)} (h : XLe x y) {n : Nat} : CLe (callWith L n x) (callWith L n y) := by
 intro f a r hc
 simp only [callWith] at hc ⊢
 split at hc
 ·cases hc
 split at hc
 case isFalse => cases hc
 rename_i hl
 rw [if_pos hl]
 split at hc
 ·rename_i ha
  rw [if_pos ha]
  exact same_mono (fun _ => body_mono h) (fun _ => body_mono h) hc
 ·rename_i ha
  rw [if_neg ha]; exact body_mono h hc
theorem inlW_mono {L : Prog} {x y : LCode → St → Option (Ex × St)} (h : XLe x y) {f : Nat} {a : List Val} {s : St} {r : Val × St} (hc : inlWith L x f a s = some r) : inlWith L y f a s = some r := by
 simp only [inlWith] at hc ⊢
 split at hc
 ·cases hc
 split at hc
 case isFalse => cases hc
 rename_i hl
 rw [if_pos hl]
 split at hc
 ·rename_i ha
  rw [if_pos ha]
  obtain ⟨v,hv,rfl⟩ := Option.map_eq_some_iff.1 hc
  rw [same_mono (fun _ => body_mono h) (fun _ => body_mono h) hv]; rfl
 ·rename_i ha
  rw [if_neg ha]
  split at hc
  case h_2 => cases hc
  rename_i hx
  rw [h _ _ _ hx]; exact hc
theorem inl_mono {L : Prog} {x y : LCode → St → Option (Ex × St)} (h : XLe x y) : ILe (inlOf L x) (inlOf L y) := by
 refine ⟨fun f a s r hc => ?_,fun k a s r hc => ?_⟩
 ·simp only [inlOf,inlN] at hc ⊢
  split at hc
  case h_2 => cases hc
  rename_i hx
  rw [inlW_mono h hx]; exact hc
 ·simp only [inlOf,yldWith] at hc ⊢
  split at hc
  case h_2 => cases hc
  split at hc
  case isFalse => cases hc
  rename_i hl
  rw [if_pos hl]
  split at hc
  case h_2 => cases hc
  rename_i hx
  rw [h _ _ _ hx]
  split at hc
  case h_2 => cases hc
  rename_i hk
  simp only [hk]
  split at hc
  case h_2 => cases hc
  rename_i hx2
  simp only [h _ _ _ hx2]; exact hc
theorem pan_mono {L : Prog} {x y : LCode → St → Option (Ex × St)} (h : XLe x y) : CLe (panWith L x) (panWith L y) := by
 intro f a r hc
 simp only [panWith] at hc ⊢
 split at hc
 ·cases hc
 split at hc
 case isFalse => cases hc
 rename_i hl
 rw [if_pos hl]
 split at hc
 case h_2 => cases hc
 rename_i hx
 simp only [h _ _ _ hx]; exact hc
theorem pin_mono {L : Prog} {x y : LCode → St → Option (Ex × St)} (h : XLe x y) {f : Nat} {a : List Val} {s : St} {r : Val × St} (hc : panIn L x f a s = some r) : panIn L y f a s = some r := by
 simp only [panIn] at hc ⊢
 split at hc
 ·cases hc
 split at hc
 case isFalse => cases hc
 rename_i hl
 rw [if_pos hl]
 split at hc
 case h_2 => cases hc
 rename_i hx
 simp only [h _ _ _ hx]; exact hc
theorem pan_call {L : Prog} {x : LCode → St → Option (Ex × St)} {f n : Nat} {a : List Val} {v : Val} (h : panWith L x f a = some v) : callWith L n x f a = none := by
 simp only [panWith] at h
 split at h
 ·cases h
 rename_i lf hlf
 split at h
 case isFalse => cases h
 rename_i hl
 split at h
 case h_2 => cases h
 rename_i hx
 simp only [callWith,hlf,hl.1,hl.2,if_true,Bool.false_eq_true,if_false,callBody,hx,Ex.ends]
theorem pin_inl {L : Prog} {x : LCode → St → Option (Ex × St)} {f : Nat} {a : List Val} {s : St} {r : Val × St} (h : panIn L x f a s = some r) : inlWith L x f a s = none := by
 simp only [panIn] at h
 split at h
 ·cases h
 rename_i lf hlf
 split at h
 case isFalse => cases h
 rename_i hl
 split at h
 case h_2 => cases h
 rename_i hx
 simp only [inlWith,hlf,hl.1,hl.2,if_true,Bool.false_eq_true,if_false,hx,Ex.ends]
theorem pin_inlN {L : Prog} {x : LCode → St → Option (Ex × St)} {f : Nat} {a : List Val} {s : St} {r : Val × St} (h : panIn L x f a s = some r) : inlN L x f a s = none := by
 simp only [inlN,pin_inl h]
theorem pan_step {L : Prog} {x : LCode → St → Option (Ex × St)} {n k : Nat} {st : St} {o : LOper} {r : Val × St} (h : panStep n (panWith L x) (panIn L x) st o = some r) : step n (callWith L k x) (inlOf L x) 0 st o = none := by
 obtain ⟨dst,op,g⟩ := o
 simp only [panStep] at h
 split at h
 case h_2 => cases h
 rename_i hw
 simp only [step,hw]
 cases op with
 | panic y => simp [eval]
 | call f args =>
  simp only at h ⊢
  split at h
  case h_2 => cases h
  rename_i hf
  split at h
  case h_2 => cases h
  rename_i hs
  obtain ⟨v,hv,rfl⟩ := Option.map_eq_some_iff.1 h
  simp only [eval,hf,hs,pan_call hv]
 | icall f args =>
  simp only at h ⊢
  split at h
  case h_2 => cases h
  rename_i hf
  split at h
  case h_2 => cases h
  rename_i hv
  simp only [hf,Inl.call,inlOf,inlN,pin_inl hv]
 | _ => simp at h
theorem panStep_mono {L : Prog} {x y : LCode → St → Option (Ex × St)} {p : CallFn} (hx : XLe x y) (hp : CLe p (panWith L y)) {n : Nat} {st : St} {o : LOper} {r : Val × St} (h : panStep n p (panIn L x) st o = some r) : panStep n (panWith L y) (panIn L y) st o = some r := by
 obtain ⟨dst,op,g⟩ := o
 simp only [panStep] at h ⊢
 split at h
 case h_2 => cases h
 rename_i hw
 cases op with
 | call f args =>
  simp only at h ⊢
  split at h
  case h_2 => cases h
  split at h
  case h_2 => cases h
  obtain ⟨v,hv,rfl⟩ := Option.map_eq_some_iff.1 h
  simp only [hp _ _ _ hv,Option.map_some]
 | icall f args =>
  simp only at h ⊢
  split at h
  case h_2 => cases h
  split at h
  case h_2 => cases h
  rename_i hv
  rw [pin_mono hx hv]; exact h
 | _ => exact h
theorem runP_mono {L : Prog} {x y : LCode → St → Option (Ex × St)} {c p : CallFn} {k : Nat} (hx : XLe x y) (hc : CLe c (callWith L k y)) (hp : CLe p (panWith L y)) {n : Nat} : ∀ (l : List LOper) {st : St} {r : Ex × St},
  runP n c (inlOf L x) p (panIn L x) l st = some r → runP n (callWith L k y) (inlOf L y) (panWith L y) (panIn L y) l st = some r
 | [],_,_,h => h
 | o :: l,st,r,h => by
  simp only [runP] at h ⊢
  split at h
  ·rename_i hq
   simp only [panStep_mono hx hp hq]; exact h
  ·split at h
   case h_2 => cases h
   rename_i hs
   have hs' := step_mono hc (inl_mono hx (L := L)) hs
   have hn : panStep n (panWith L y) (panIn L y) st o = none := by
    cases hq : panStep n (panWith L y) (panIn L y) st o with
    | none => rfl
    | some q => rw [pan_step hq] at hs'; cases hs'
   simp only [hn,hs']; exact runP_mono hx hc hp l h
theorem defer_mono {L : Prog} {x y : LCode → St → Option (Ex × St)} (hx : XLe x y) {f : Val} {args : List Val} {e : Ex} {st st' : St} (h : deferWith L x f args e st = some st') : deferWith L y f args e st = some st' := by
 unfold deferWith at h ⊢
 split at h
 case h_2 => cases h
 split at h
 case h_2 => cases h
 split at h
 case h_2 => cases h
 split at h
 case isFalse => cases h
 rename_i hc
 split at h
 case h_2 => cases h
 rename_i ho
 split at h
 case h_2 => cases h
 rename_i hb
 simp only [if_pos hc,runOps_mono (call_mono hx (L := L) (n := 8)) (inl_mono hx (L := L)) _ ho,hx _ _ _ hb]; exact h
theorem first_mono {L : Prog} {x y : LCode → St → Option (Ex × St)} {c p : CallFn} {k : Nat} (hx : XLe x y) (hc : CLe c (callWith L k y)) (hp : CLe p (panWith L y)) {n : Nat} : ∀ (l : List LOper) {i j : Nat} {st : St},
  firstP n c (inlOf L x) p (panIn L x) l i st = some j → firstP n (callWith L k y) (inlOf L y) (panWith L y) (panIn L y) l i st = some j
 | [],_,_,_,h => h
 | o :: l,i,j,st,h => by
  simp only [firstP] at h ⊢
  split at h
  ·rename_i hq
   simp only [panStep_mono hx hp hq]; exact h
  ·split at h
   case h_2 => cases h
   rename_i hs
   have hs' := step_mono hc (inl_mono hx (L := L)) hs
   have hn : panStep n (panWith L y) (panIn L y) st o = none := by
    cases hq : panStep n (panWith L y) (panIn L y) st o with
    | none => rfl
    | some q => rw [pan_step hq] at hs'; cases hs'
   simp only [hn,hs']; exact first_mono hx hc hp l h
theorem first_none {L : Prog} {x : LCode → St → Option (Ex × St)} {n k : Nat} : ∀ (l : List LOper) {i : Nat} {st : St} {r : St × List Res},
  runRec n (callWith L k x) (inlOf L x) 0 l st = some r → firstP n (callWith L k x) (inlOf L x) (panWith L x) (panIn L x) l i st = none
 | [],_,_,_,_ => rfl
 | o :: l,i,st,r,h => by
  simp only [runRec] at h
  split at h
  case h_2 => cases h
  rename_i hs
  split at h
  case h_2 => cases h
  rename_i hr
  have hn : panStep n (panWith L x) (panIn L x) st o = none := by
   cases hq : panStep n (panWith L x) (panIn L x) st o with
   | none => rfl
   | some q => rw [pan_step hq] at hs; cases hs
  simp only [firstP,hn,hs]
  exact first_none l hr
theorem drawPan_mono {L : Prog} {x y : LCode → St → Option (Ex × St)} {c p : CallFn} {k : Nat} (hx : XLe x y) (hc : CLe c (callWith L k y)) (hp : CLe p (panWith L y)) {n : Nat} {l : List LOper} {an : List (List Nat)} {ps : List (Nat × Nat)} {j : Nat} {st : St} {r : Ex × St}
  (h : drawPan n c (inlOf L x) p (panIn L x) l an ps j st = some r) : drawPan n (callWith L k y) (inlOf L y) (panWith L y) (panIn L y) l an ps j st = some r := by
 simp only [drawPan] at h ⊢
 split at h
 case h_2 => cases h
 rename_i hr
 rw [runRec_mono hc (inl_mono hx (L := L)) _ hr]
 simp only
 split at h
 case isFalse => cases h
 rename_i hk
 rw [if_pos hk]
 split at h
 case h_2 => cases h
 rename_i hq
 simp only [panStep_mono hx hp hq]; exact h
theorem range_mono {L : Prog} {x y : LCode → St → Option (Ex × St)} (h : XLe x y) {g : Val} {ps : List Nat} {a b : LCode} {st : St} {r : Ex × St} (hr : rangeWith L x g ps a b st = some r) : rangeWith L y g ps a b st = some r := by
 unfold rangeWith at hr ⊢
 split at hr
 case h_2 => cases hr
 simp only at hr ⊢
 split at hr
 ·rename_i hx
  have := (inl_mono h (L := L)).1 _ _ _ _ hx
  simp only [inlOf] at this
  rw [this]; exact hr
 ·split at hr
  case h_2 => cases hr
  rename_i hx
  have := pin_mono h (L := L) hx
  simp only [pin_inlN this,this]; exact hr
def stepX (L : Prog) (x : LCode → St → Option (Ex × St)) (ca p : CallFn) (c : LCode) (st : St) : Option (Ex × St) :=
 let i := inlOf L x
 match c with
 | .skip => some (.normal,st)
 | .ops l => (runOps 8 ca i 0 l st).map fun st => (.normal,st)
 | .draw l ps => match runRec 8 ca i 0 l st with
  | some (st',rs) => if pairsOk rs ps then some (.normal,st') else none
  | none => none
 | .seq a b => match x a st with
  | some (.normal,st') => x b st'
  | r => r
 | .cond z a b => match St.get st.fr z with
  | .bool true => x a st
  | .bool false => x b st
  | _ => none
 | .block id b => match x b st with
  | some (.exit id',st') => if id' = id then some (.normal,st') else some (.exit id',st')
  | r => r
 | .loop b => match x b st with
  | some (.normal,st') => x (.loop b) st'
  | r => r
 | .exit id => some (.exit id,st)
 | .ret => some (.ret,st)
 | .rangeF g ps a b => rangeWith L x (St.get st.fr g) ps a b st
 | .opsP l => runP 8 ca i p (panIn L x) l st
 | .dfr ts l f args b => match runOps 8 ca i 0 l st with
  | some st2 => match x b st2 with
   | some (e,st3) => if ts.any (fun t => (st3.fr t).isUndef) then none else (deferWith L x (St.get st2.fr f) (args.map (St.get st2.fr)) e st3).map fun st4 => (.ret,st4)
   | none => none
  | none => none
 | .rcv _ _ _ => none
 | .drawP l an ps => match firstP 8 ca i p (panIn L x) l 0 st with
  | some j => drawPan 8 ca i p (panIn L x) l an ps j st
  | none => match runRec 8 ca i 0 l st with
   | some (st',rs) => if pairsOk rs ps then some (.normal,st') else none
   | none => none
 | .drawL l an ps A => drawLate 8 ca i p (panIn L x) (lateL A (lateKey st (l.getD A default)) l) an ps A (lateKey st (l.getD A default)) (lateS (lateKey st (l.getD A default)) (lateZ (l.getD A default).op) st)
 | .drawM l an ps As => drawLates 8 ca i l an ps As st
theorem exec_succ (L : Prog) (n : Nat) : exec L (n + 1) = stepX L (exec L n) (callWith L 8 (exec L n)) (panWith L (exec L n)) := by
 funext c st
 cases c <;> rfl
theorem step_le {L : Prog} {x y : LCode → St → Option (Ex × St)} {ca p : CallFn} (ih : XLe x y) (hc : CLe ca (callWith L 8 y)) (hp : CLe p (panWith L y)) : XLe (stepX L x ca p) (stepX L y (callWith L 8 y) (panWith L y)) := by
 intro c s r h
 have hi := inl_mono ih (L := L)
 cases c with
 | skip => exact h
 | ops l =>
  simp only [stepX] at h ⊢
  obtain ⟨st,hs,rfl⟩ := Option.map_eq_some_iff.1 h
  rw [runOps_mono hc hi l hs]; rfl
 | draw l ps =>
  simp only [stepX] at h ⊢
  split at h
  case h_2 => cases h
  rename_i hs
  rw [runRec_mono hc hi l hs]; exact h
 | seq a b =>
  simp only [stepX] at h ⊢
  cases hx : x a s with
  | none => rw [hx] at h; cases h
  | some p =>
   obtain ⟨e,st⟩ := p
   rw [hx] at h
   rw [ih _ _ _ hx]
   cases e with
   | normal => exact ih _ _ _ h
   | exit i => exact h
   | ret => exact h
   | panic v => exact h
 | cond z a b =>
  simp only [stepX] at h ⊢
  split at h
  ·exact ih _ _ _ h
  ·exact ih _ _ _ h
  ·cases h
 | block id b =>
  simp only [stepX] at h ⊢
  cases hx : x b s with
  | none => rw [hx] at h; cases h
  | some p =>
   obtain ⟨e,st⟩ := p
   rw [hx] at h
   rw [ih _ _ _ hx]; exact h
 | loop b =>
  simp only [stepX] at h ⊢
  cases hx : x b s with
  | none => rw [hx] at h; cases h
  | some p =>
   obtain ⟨e,st⟩ := p
   rw [hx] at h
   rw [ih _ _ _ hx]
   cases e with
   | normal => exact ih _ _ _ h
   | exit i => exact h
   | ret => exact h
   | panic v => exact h
 | exit i => exact h
 | ret => exact h
 | rangeF g ps a b =>
  simp only [stepX] at h ⊢
  exact range_mono ih h
 | opsP l =>
  simp only [stepX] at h ⊢
  exact runP_mono ih hc hp l h
 | rcv d l b => simp [stepX] at h
 | drawP l an ps =>
  simp only [stepX] at h ⊢
  split at h
  ·rename_i hf
   simp only [first_mono ih hc hp l hf]
   exact drawPan_mono ih hc hp h
  ·split at h
   case h_2 => cases h
   rename_i hr
   have hr' := runRec_mono hc hi l hr
   simp only [first_none (x := y) l hr',hr']; exact h
 | drawL l an ps A =>
  simp only [stepX] at h ⊢
  unfold drawLate at h ⊢
  split at h
  ·rename_i hf
   simp only [first_mono ih hc hp _ hf]
   split at h
   case h_2 => cases h
   rename_i hr
   rw [runRec_mono hc hi _ hr]
   simp only
   split at h
   case isFalse => cases h
   rename_i hck
   rw [if_pos hck]
   split at h
   case h_2 => cases h
   rename_i hq
   simp only [panStep_mono ih hp hq]; exact h
  ·split at h
   case h_2 => cases h
   rename_i hr
   have hr' := runRec_mono hc hi _ hr
   simp only [first_none (x := y) _ hr',hr']; exact h
 | drawM l an ps As =>
  simp only [stepX,drawLates] at h ⊢
  split at h
  case h_2 => cases h
  rename_i hr
  rw [runRec_mono hc hi _ hr]; exact h
 | dfr ts l f args b =>
  simp only [stepX] at h ⊢
  split at h
  case h_2 => cases h
  rename_i hr
  simp only [runOps_mono hc hi l hr]
  split at h
  case h_2 => cases h
  rename_i hb
  simp only [ih _ _ _ hb]
  split at h
  ·cases h
  rename_i hts
  rw [if_neg hts]
  obtain ⟨q,hq,rfl⟩ := Option.map_eq_some_iff.1 h
  rw [defer_mono ih hq]; rfl
theorem exec_mono (L : Prog) : ∀ n,XLe (exec L n) (exec L (n + 1)) := by
 intro n
 induction n with
 | zero => intro c s r h; simp [exec] at h
 | succ n ih => rw [exec_succ,exec_succ]; exact step_le ih (call_mono ih) (pan_mono ih)
theorem exec_le (L : Prog) {n m : Nat} (h : n ≤ m) : XLe (exec L n) (exec L m) := by
 induction h with
 | refl => intro c s r h; exact h
 | step _ ih => intro c s r h; exact exec_mono L _ _ _ _ (ih _ _ _ h)
theorem pcall_le {L : Prog} {n m : Nat} (h : n ≤ m) {f : Nat} {a : List Val} {r : Val} (hr : pcall L n f a = some r) : pcall L m f a = some r := call_mono (exec_le L h) _ _ _ hr
end Go.Abs
namespace Go.Abs
def PC (L : Prog) (f : Nat) (args : List Val) (r : Val) : Prop := ∃ n0,∀ n,n0 ≤ n → pcall L n f args = some r
def Ev (L : Prog) (c : LCode) (st : St) (e : Ex) (st' : St) : Prop := ∃ n0,∀ n,n0 ≤ n → exec L n c st = some (e,st')
def WIn (L : Prog) (f : Val) (args : List Val) (en : En) (cnt : Nat → Nat → Nat) (Q : Val → En → (Nat → Nat → Nat) → Prop) : Prop :=
 ∃ v en' cnt',(∃ n0,∀ n,n0 ≤ n → ∀ fr,(inlOf L (exec L n)).call f args ⟨fr,en,cnt⟩ = some (v,⟨fr,en',cnt'⟩)) ∧ Q v en' cnt'
theorem WIn.mono {L : Prog} {f : Val} {args : List Val} {en : En} {cnt : Nat → Nat → Nat} {Q R : Val → En → (Nat → Nat → Nat) → Prop}
  (h : WIn L f args en cnt Q) (k : ∀ v en' cnt',Q v en' cnt' → R v en' cnt') : WIn L f args en cnt R := by
 obtain ⟨v,en',cnt',h1,h2⟩ := h; exact ⟨v,en',cnt',h1,k _ _ _ h2⟩
theorem PC.det {L : Prog} {f : Nat} {args : List Val} {r s : Val} (h : PC L f args r) (k : PC L f args s) : s = r := by
 obtain ⟨n,h⟩ := h; obtain ⟨m,k⟩ := k
 have h1 := h (max n m) (by omega); have h2 := k (max n m) (by omega)
 rw [h1] at h2; cases h2; rfl
theorem PC.is {L : Prog} {f : Nat} {args : List Val} {r s : Val} (h : PC L f args r) : PC L f args s ↔ s = r :=
 ⟨fun k => h.det k,fun e => e ▸ h⟩
def noCall : CallFn := fun _ _ => none
def snapD : Nat → En → Val → Option (Val × List Key)
 | 0,_,_ => none
 | n + 1,en,v =>
  match v with
  | .ptr k off => match en k with
   | some (.box cs _) => match mapO (snapD n en) cs with
    | some rs => some (.fp (rs.map (·.1)) off,k :: rs.flatMap (·.2))
    | none => none
   | _ => none
  | .ep k i off => match en k with
   | some (.blk _ xs _) => if k.deep then none else match xs[i]? with
    | some x => some (.fp x.cells off,[k])
    | none => none
   | _ => none
  | .bl k off len => match en k with
   | some (.blk _ xs _) => if k.deep then none else if off + len ≤ xs.length then some (.fz ((xs.drop off).take len),[k]) else none
   | _ => none
  | .mp k => match en k with
   | some (.map ks vs _) => some (.fm ks vs,[k])
   | _ => none
  | .yld _ | .it _ | .sl _ _ _ => none
  | .fn f a b => match mapO (snapD n en) a with
   | some x => match mapO (snapD n en) b with
    | some y => some (.fn f (x.map (·.1)) (y.map (·.1)),x.flatMap (·.2) ++ y.flatMap (·.2))
    | none => none
   | none => none
  | .ifc t v => match snapD n en v with
   | some r => some (.ifc t r.1,r.2)
   | none => none
  | .agg cs => match mapO (snapD n en) cs with
   | some rs => some (.agg (rs.map (·.1)),rs.flatMap (·.2))
   | none => none
  | .tup vs => match mapO (snapD n en) vs with
   | some rs => some (.tup (rs.map (·.1)),rs.flatMap (·.2))
   | none => none
  | v => some (v,[])
theorem mapO_imp {α β : Type} {f g : α → Option β} (h : ∀ x y,f x = some y → g x = some y) : ∀ {l : List α} {r : List β},mapO f l = some r → mapO g l = some r := by
 intro l
 induction l with
 | nil => intro r h'; exact h'
 | cons x xs ih =>
  intro r h'
  simp only [mapO] at h' ⊢
  split at h'
  ·rename_i y hy
   split at h'
   ·rename_i ys hys
    rw [h x y hy,ih hys]; exact h'
   ·cases h'
  ·cases h'
theorem snapD_ok (en : En) : ∀ (n : Nat) (v : Val) (r : Val × List Key),snapD n en v = some r → ∀ m,n ≤ m → snap m en v = some r := by
 intro n
 induction n with
 | zero => intro v r h; simp [snapD] at h
 | succ n ih =>
  intro v r h m hm
  obtain ⟨m,rfl⟩ : ∃ k,m = k + 1 := ⟨m - 1,by omega⟩
  have hl : ∀ {l : List Val} {rs : List (Val × List Key)},mapO (snapD n en) l = some rs → mapO (snap m en) l = some rs :=
   fun h => mapO_imp (fun x y hx => ih x y hx m (by omega)) h
  cases v with
  | ptr k off =>
   simp only [snapD] at h; simp only [snap]
   split at h
   ·rename_i hk
    split at h
    ·rename_i hrs; simp only [Option.some.injEq] at h; subst h; simp only [hk,hl hrs,Option.map]
    ·cases h
   ·cases h
  | bl k off len =>
   simp only [snapD] at h; simp only [snap]
   split at h
   case h_2 => cases h
   rename_i hk
   split at h
   ·cases h
   rename_i hd
   split at h
   case isFalse => cases h
   rename_i hl
   simp only [hk,if_neg hd,if_pos hl]; exact h
  | fn f a b =>
   simp only [snapD] at h; simp only [snap]
   split at h
   ·rename_i hx
    split at h
    ·rename_i hy; simp only [Option.some.injEq] at h; subst h; simp only [hl hx,hl hy,Option.map]
    ·cases h
   ·cases h
  | ifc t v =>
   simp only [snapD] at h; simp only [snap]
   split at h
   ·rename_i hx; simp only [Option.some.injEq] at h; subst h; simp only [ih _ _ hx m (by omega),Option.map]
   ·cases h
  | agg cs =>
   simp only [snapD] at h; simp only [snap]
   split at h
   ·rename_i hx; simp only [Option.some.injEq] at h; subst h; simp only [hl hx,Option.map]
   ·cases h
  | tup vs =>
   simp only [snapD] at h; simp only [snap]
   split at h
   ·rename_i hx; simp only [Option.some.injEq] at h; subst h; simp only [hl hx,Option.map]
   ·cases h
  | _ => exact h
def evalW (d g : Nat) (en : En) (get : Opd → Val) : LOp → Option Res
 | .bslice len size z parts =>
  if len * size ≤ 16777216 then
   match mapO (fun p => match snapD 8 en (get p.2) with | some r => some ((p.1,r.1.wk1),r.2) | none => none) parts with
   | some ps => match fillElems (List.replicate len (ofZero size z false)) size (ps.map (·.1)) with
    | some xs => some { v := .cl xs,ws := (ps.flatMap (·.2)).map .frz,rs := (ps.flatMap (·.2)).map .val }
    | none => none
   | none => none
  else none
 | .store m a x =>
  let v := get x
  if v.one = true ∧ v.cells.length = m then
   match get a with
   | .ptr k off => match en k with
    | some (.box cs false) => if off + m ≤ cs.length then some { v := .tup [],ws := [.cells k off v.cells],rs := [.flag k] } else none
    | _ => none
   | .ep k i off => match en k with
    | some (.blk _ xs false) => match xs[i]? with
     | some y => if off + m ≤ y.cells.length then
       if k.deep then none else
       match snapD 8 en v with
       | some (v',ks) => if v'.one = true ∧ v'.cells.length = m ∧ ks.all (fun k' => decide (k' ≠ k)) = true then some { v := .tup [],ws := ks.map .frz ++ [.elem k i off v'.wk1.cells],rs := .val k :: .flag k :: ks.map .val } else none
       | none => none
      else none
     | none => none
    | _ => none
   | _ => none
  else none
 | .call _ _ | .icall _ _ | .appendD .. | .bsliceK .. | .bsliceO .. => none
 | op => eval 8 noCall 0 d g en get op
theorem evalW_ok {d g : Nat} {en : En} {get : Opd → Val} {op : LOp} {r : Res} (h : evalW d g en get op = some r) (call : CallFn) (n : Nat) (hn : 8 ≤ n) :
  eval n call 0 d g en get op = some r := by
 cases op with
 | bslice len size z parts =>
  simp only [evalW] at h; simp only [eval]
  split at h
  ·rename_i hc; rw [if_pos hc]
   split at h
   ·rename_i ps hps
    have : mapO (fun p => (snap n en (get p.2)).map fun r => ((p.1,r.1.wk1),r.2)) parts = some ps := by
     refine mapO_imp (fun x y hx => ?_) hps
     split at hx
     ·rename_i r hr; simp only [Option.some.injEq] at hx; subst hx; rw [snapD_ok en 8 _ _ hr n hn]; rfl
     ·cases hx
    rw [this]; exact h
   ·cases h
  ·cases h
 | store m a x =>
  simp only [evalW] at h; simp only [eval]
  split at h
  ·rename_i hc; rw [if_pos hc]
   split at h
   ·rename_i hg; simp only [hg]; exact h
   ·rename_i hg; simp only [hg]
    split at h
    ·rename_i he; simp only [he]
     split at h
     ·rename_i hy; simp only [hy]
      split at h
      ·rename_i hl; rw [if_pos hl]
       split at h
       ·cases h
       rename_i hd
       rw [if_neg hd]
       split at h
       ·rename_i hs; simp only [snapD_ok en 8 _ _ hs n hn]; exact h
       ·cases h
      ·cases h
     ·cases h
    ·cases h
   ·cases h
  ·cases h
 | call f a => simp [evalW] at h
 | icall f a => simp [evalW] at h
 | appendD => simp [evalW] at h
 | bsliceK => simp [evalW] at h
 | bsliceO => simp [evalW] at h
 | _ => exact h
def WOp (L : Prog) (d g : Nat) (en : En) (get : Opd → Val) (op : LOp) (K : Res → Prop) : Prop :=
 match op with
 | .call f args => match get f with
  | .fn f a b => match mapO (snapD 8 en) (a ++ args.map get ++ b) with
   | some rs => ∃ r,PC L f (rs.map (·.1.wk1)) r ∧ K (callRes 0 d g r (rs.flatMap (·.2)))
   | none => False
  | _ => False
 | op => match evalW d g en get op with
  | some r => K r
  | none => False
theorem wop_ok {L : Prog} {d g : Nat} {en : En} {get : Opd → Val} {op : LOp} {K : Res → Prop} (h : WOp L d g en get op K) :
  op.me 0 = 0 ∧ ∃ r,(∃ n0,∀ n,n0 ≤ n → eval 8 (pcall L n) 0 d g en get op = some r) ∧ K r := by
 have oth : (match evalW d g en get op with | some r => K r | none => False) → op.me 0 = 0 ∧ ∃ r,(∃ n0,∀ n,n0 ≤ n → eval 8 (pcall L n) 0 d g en get op = some r) ∧ K r := by
  intro h
  refine ⟨by cases op <;> first | rfl | simp [evalW] at h,?_⟩
  split at h
  ·rename_i r hr; exact ⟨r,⟨0,fun n _ => evalW_ok hr _ 8 (Nat.le_refl _)⟩,h⟩
  ·exact h.elim
 cases op with
 | call f args =>
  simp only [WOp] at h
  split at h
  ·rename_i f' a b hf
   split at h
   ·rename_i rs hrs
    obtain ⟨r,⟨n1,h1⟩,hk⟩ := h
    refine ⟨rfl,_,⟨n1,fun n hn => ?_⟩,hk⟩
    have : mapO (fun x => snap 8 en x) (a ++ args.map get ++ b) = some rs := mapO_imp (fun x y hx => snapD_ok en 8 x y hx 8 (Nat.le_refl _)) hrs
    simp only [eval,hf,this,h1 n (by omega)]
   ·exact h.elim
  ·exact h.elim
 | _ => exact oth h
def WStep (L : Prog) (st : St) (o : LOper) (K : St → Res → Prop) : Prop :=
 match wanted st.fr o.guard with
 | some true => match o.op with
  | .icall f args => WIn L (St.get st.fr f) (args.map (St.get st.fr)) st.en st.cnt fun v en' cnt' => K ⟨putFr st.fr o.dst v,en',cnt'⟩ { v,mem := some (en',cnt'),unch := fun k => sameE (st.en k) (en' k) }
  | op => WOp L (o.dst.getD 0) (st.cnt 0 (o.dst.getD 0)) st.en (St.get st.fr) op fun r => (r.bump && o.dst.isNone) = false ∧
    K ⟨putFr st.fr o.dst r.v,W.applyAll st.en r.ws,if r.bump then setCnt st.cnt 0 (o.dst.getD 0) (st.cnt 0 (o.dst.getD 0) + 1) else st.cnt⟩ r
 | some false => K ⟨putFr st.fr o.dst (.tup []),st.en,st.cnt⟩ { v := .tup [] }
 | none => False
def WOps (L : Prog) : List LOper → St → (St → Prop) → Prop
 | [],st,Q => Q st
 | o :: l,st,Q => WStep L st o fun st' _ => WOps L l st' Q
def WRec (L : Prog) : List LOper → St → (St → List Res → Prop) → Prop
 | [],st,Q => Q st []
 | o :: l,st,Q => WStep L st o fun st' r => WRec L l st' fun st'' rs => Q st'' (r :: rs)
def PX (L : Prog) (f : Nat) (args : List Val) (v : Val) : Prop := ∃ n0,∀ n,n0 ≤ n → ppan L n f args = some v
def WPan (L : Prog) (f : Nat) (args : List Val) (en : En) (cnt : Nat → Nat → Nat) (Q : Val → En → (Nat → Nat → Nat) → Prop) : Prop :=
 ∃ v en' cnt',(∃ n0,∀ n,n0 ≤ n → ∀ fr,panIn L (exec L n) f args ⟨fr,en,cnt⟩ = some (v,⟨fr,en',cnt'⟩)) ∧ Q v en' cnt'
theorem WPan.mono {L : Prog} {f : Nat} {args : List Val} {en : En} {cnt : Nat → Nat → Nat} {Q R : Val → En → (Nat → Nat → Nat) → Prop}
  (h : WPan L f args en cnt Q) (k : ∀ v en' cnt',Q v en' cnt' → R v en' cnt') : WPan L f args en cnt R := by
 obtain ⟨v,en',cnt',h1,h2⟩ := h; exact ⟨v,en',cnt',h1,k _ _ _ h2⟩
def WPanO (L : Prog) (o : LOper) (st : St) (K : Val → St → Prop) : Prop :=
 match wanted st.fr o.guard with
 | some true => match o.op with
  | .panic x => match St.get st.fr x with
   | .ifc t u => (Val.ifc t u).flat = true ∧ K (.ifc t u) st
   | _ => False
  | .call f args => match f.noM,St.get st.fr f with
   | true,.fn f a b => match mapO (snapD 8 st.en) (a ++ args.map (St.get st.fr) ++ b) with
    | some rs => ∃ v,PX L f (rs.map (·.1.wk1)) v ∧ K v st
    | none => False
   | _,_ => False
  | .icall f args => match St.get st.fr f with
   | .fn f a b => WPan L f (a ++ args.map (St.get st.fr) ++ b) st.en st.cnt fun v en' cnt' => K v ⟨st.fr,en',cnt'⟩
   | _ => False
  | _ => False
 | _ => False
theorem wpano_mono {L : Prog} {o : LOper} {st : St} {K K' : Val → St → Prop} (h : WPanO L o st K) (k : ∀ v s,K v s → K' v s) : WPanO L o st K' := by
 unfold WPanO at h ⊢
 split at h
 case h_2 => cases h
 split at h
 ·split at h
  case h_2 => cases h
  exact ⟨h.1,k _ _ h.2⟩
 ·split at h
  case h_2 => cases h
  split at h
  case h_2 => cases h
  obtain ⟨v,h1,h2⟩ := h
  exact ⟨v,h1,k _ _ h2⟩
 ·split at h
  case h_2 => cases h
  exact h.mono fun _ _ _ => k _ _
 ·cases h
theorem wpano_of {L : Prog} {o : LOper} {st : St} {K : Val → St → Prop} (h : WPanO L o st K) :
  ∃ v st',(∃ n0,∀ n,n0 ≤ n → panStep 8 (panWith L (exec L n)) (panIn L (exec L n)) st o = some (v,st')) ∧ K v st' := by
 unfold WPanO at h
 split at h
 case h_2 => cases h
 rename_i hw
 split at h
 ·rename_i x hop
  split at h
  case h_2 => cases h
  rename_i t u hu
  exact ⟨_,_,⟨0,fun n _ => by simp only [panStep,hw,hop,hu,h.1,if_true]⟩,h.2⟩
 ·rename_i f args hop
  split at h
  case h_2 => cases h
  rename_i f' a b hf1 hf2
  split at h
  case h_2 => cases h
  rename_i rs hrs
  obtain ⟨v,⟨n0,h1⟩,h2⟩ := h
  refine ⟨v,st,⟨n0,fun n hn => ?_⟩,h2⟩
  have : mapO (fun x => snap 8 st.en x) (a ++ args.map (St.get st.fr) ++ b) = some rs := mapO_imp (fun x y hx => snapD_ok st.en 8 x y hx 8 (Nat.le_refl _)) hrs
  have h1 := h1 n hn
  unfold ppan at h1
  simp only [panStep,hw,hop,hf1,hf2,this,h1,Option.map_some]
 ·rename_i f args hop
  split at h
  case h_2 => cases h
  rename_i f' a b hf
  obtain ⟨v,en',cnt',⟨n0,h1⟩,h2⟩ := h
  exact ⟨v,_,⟨n0,fun n hn => by simp only [panStep,hw,hop,hf,h1 n hn]⟩,h2⟩
 ·cases h
def loopKey (cnt : Nat → Nat → Nat) : Key := ⟨1,0,cnt 1 0⟩
def Wp (L : Prog) : LCode → St → (Ex → St → Prop) → Prop
 | .skip,st,Q => Q .normal st
 | .ops l,st,Q => WOps L l st (Q .normal)
 | .draw l pairs,st,Q => if pairs = [] then WOps L l st (Q .normal) else WRec L l st fun st' rs => pairsOk rs pairs = true ∧ Q .normal st'
 | .seq a b,st,Q => Wp L a st fun e st' => match e with
  | .normal => Wp L b st' Q
  | .exit i => Q (.exit i) st'
  | .ret => Q .ret st'
  | .panic v => Q (.panic v) st'
 | .cond x a b,st,Q => match St.get st.fr x with
  | .bool t => if t = true then Wp L a st Q else Wp L b st Q
  | _ => False
 | .block id b,st,Q => Wp L b st fun e st' => match e with
  | .exit id' => if id' = id then Q .normal st' else Q (.exit id') st'
  | .normal => Q .normal st'
  | .ret => Q .ret st'
  | .panic v => Q (.panic v) st'
 | .loop b,st,Q => ∃ e st',Ev L (.loop b) st e st' ∧ Q e st'
 | .exit id,st,Q => Q (.exit id) st
 | .ret,st,Q => Q .ret st
 | .rangeF g ps a b,st,Q =>
  match St.get st.fr g with
  | .fn f x y => (WIn L (.fn f x y) [.yld (loopKey st.cnt)] (st.en.set (loopKey st.cnt) (some (.loop st.fr ps a b .ready))) (setCnt st.cnt 1 0 (st.cnt 1 0 + 1)) fun _ en' cnt' =>
   match en' (loopKey st.cnt) with
   | some (.loop _ _ _ _ .ready) => Q .normal ⟨st.fr,en'.set (loopKey st.cnt) none,cnt'⟩
   | some (.loop _ _ _ _ (.done e)) => Q e ⟨st.fr,en'.set (loopKey st.cnt) none,cnt'⟩
   | _ => False) ∨ WPan L f (x ++ [.yld (loopKey st.cnt)] ++ y) (st.en.set (loopKey st.cnt) (some (.loop st.fr ps a b .ready))) (setCnt st.cnt 1 0 (st.cnt 1 0 + 1)) fun v en' cnt' => Q (.panic v) ⟨st.fr,en'.set (loopKey st.cnt) none,cnt'⟩
  | _ => False
 | .opsP l,st,Q => WOps L l st (Q .normal) ∨ ∃ k o,l[k]? = some o ∧ WOps L (l.take k) st fun st1 => WPanO L o st1 fun v st2 => Q (.panic v) st2
 | .drawP l an pairs,st,Q => (WRec L l st fun st' rs => pairsOk rs pairs = true ∧ Q .normal st') ∨
   ∃ j o,l[j]? = some o ∧ (WOps L (l.take j) st fun s => WPanO L o s fun _ _ => True) ∧ WRec L (cutAt an j l) st fun st1 rs => (pairsOk rs pairs && stillBut an j l rs) = true ∧
    WPanO L o st1 fun v st2 => Q (.panic v) ⟨fun t => if dstIn l t then .tup [] else st2.fr t,st2.en,st2.cnt⟩
 | .drawL l an pairs A,st,Q => (WRec L (lateL A (lateKey st (l.getD A default)) l) (lateS (lateKey st (l.getD A default)) (lateZ (l.getD A default).op) st) fun st' rs => (pairsOk rs pairs && leftOk an A (lateKey st (l.getD A default)) rs) = true ∧ Q .normal st') ∨
   ∃ j o,(lateL A (lateKey st (l.getD A default)) l)[j]? = some o ∧ (WOps L ((lateL A (lateKey st (l.getD A default)) l).take j) (lateS (lateKey st (l.getD A default)) (lateZ (l.getD A default).op) st) fun s => WPanO L o s fun _ _ => True) ∧
    WRec L (cutAt an j (lateL A (lateKey st (l.getD A default)) l)) (lateS (lateKey st (l.getD A default)) (lateZ (l.getD A default).op) st) fun st1 rs => ((pairsOk rs pairs && stillBut an j (lateL A (lateKey st (l.getD A default)) l) rs) && leftOk an A (lateKey st (l.getD A default)) rs) = true ∧
    WPanO L o st1 fun v st2 => Q (.panic v) ⟨fun t => if dstIn (lateL A (lateKey st (l.getD A default)) l) t then .tup [] else st2.fr t,st2.en,st2.cnt⟩
 | .drawM _ _ _ _,_,_ => False
 | .dfr ts l f args b,st,Q => WOps L l st fun st2 => Wp L b st2 fun e st3 => ts.any (fun t => (st3.fr t).isUndef) = false ∧
   ∃ st4,(∃ n0,∀ n,n0 ≤ n → deferWith L (exec L n) (St.get st2.fr f) (args.map (St.get st2.fr)) e st3 = some st4) ∧ Q .ret st4
 | .rcv _ _ _,_,_ => False
theorem step_ne {n : Nat} {call : CallFn} {io : Inl} {st : St} {o : LOper} {r : Res} (hme : o.op.me 0 = 0) (hne : ∀ f a,o.op ≠ .icall f a) (hw : wanted st.fr o.guard = some true)
  (he : eval n call 0 (o.dst.getD 0) (st.cnt 0 (o.dst.getD 0)) st.en (St.get st.fr) o.op = some r) (hb : (r.bump && o.dst.isNone) = false) :
  step n call io 0 st o = some (⟨putFr st.fr o.dst r.v,W.applyAll st.en r.ws,if r.bump then setCnt st.cnt 0 (o.dst.getD 0) (st.cnt 0 (o.dst.getD 0) + 1) else st.cnt⟩,r) := by
 obtain ⟨dst,op,guard⟩ := o
 simp only at hw he hb hne hme
 cases op with
 | icall f a => exact absurd rfl (hne _ _)
 | _ => simp only [step,hw,hme,he,hb,Bool.false_eq_true,if_false]
theorem step_of {L : Prog} {st : St} {o : LOper} {K : St → Res → Prop} (h : WStep L st o K) :
  ∃ st' r,(∃ n0,∀ n,n0 ≤ n → step 8 (pcall L n) (inlOf L (exec L n)) 0 st o = some (st',r)) ∧ K st' r := by
 unfold WStep at h
 split at h
 ·rename_i hw
  split at h
  ·rename_i f args hop
   obtain ⟨v,en',cnt',⟨n0,hn⟩,hk⟩ := h
   refine ⟨_,_,⟨n0,fun n hn' => ?_⟩,hk⟩
   simp only [step,hw,hop,hn n hn']
  ·rename_i op hne
   obtain ⟨hme,r,⟨n0,hn⟩,hb,hk⟩ := wop_ok h
   exact ⟨_,r,⟨n0,fun n hn' => step_ne hme (fun f a => hne f a) hw (hn n hn') hb⟩,hk⟩
 ·rename_i hw
  exact ⟨_,_,⟨0,fun n _ => by simp only [step,hw]⟩,h⟩
 ·exact h.elim
theorem ops_of {L : Prog} (l : List LOper) : ∀ {st : St} {Q : St → Prop},WOps L l st Q →
  ∃ st',(∃ n0,∀ n,n0 ≤ n → runOps 8 (pcall L n) (inlOf L (exec L n)) 0 l st = some st') ∧ Q st' := by
 induction l with
 | nil => intro st Q h; exact ⟨st,⟨0,fun n _ => rfl⟩,h⟩
 | cons o l ih =>
  intro st Q h
  obtain ⟨st1,r,⟨n1,h1⟩,hk⟩ := step_of h
  obtain ⟨st2,⟨n2,h2⟩,hq⟩ := ih hk
  exact ⟨st2,⟨max n1 n2,fun n hn => by simp only [runOps,h1 n (by omega),h2 n (by omega)]⟩,hq⟩
theorem rec_of {L : Prog} (l : List LOper) : ∀ {st : St} {Q : St → List Res → Prop},WRec L l st Q →
  ∃ st' rs,(∃ n0,∀ n,n0 ≤ n → runRec 8 (pcall L n) (inlOf L (exec L n)) 0 l st = some (st',rs)) ∧ Q st' rs := by
 induction l with
 | nil => intro st Q h; exact ⟨st,[],⟨0,fun n _ => rfl⟩,h⟩
 | cons o l ih =>
  intro st Q h
  obtain ⟨st1,r,⟨n1,h1⟩,hk⟩ := step_of h
  obtain ⟨st2,rs,⟨n2,h2⟩,hq⟩ := ih hk
  exact ⟨st2,r :: rs,⟨max n1 n2,fun n hn => by simp only [runRec,h1 n (by omega),h2 n (by omega)]⟩,hq⟩
theorem runRec_of_runOps {n : Nat} {call : CallFn} {io : Inl} (l : List LOper) : ∀ {st st' : St},runOps n call io 0 l st = some st' → ∃ rs,runRec n call io 0 l st = some (st',rs) := by
 induction l with
 | nil => intro st st' h; simp only [runOps,Option.some.injEq] at h; subst h; exact ⟨[],rfl⟩
 | cons o l ih =>
  intro st st' h
  simp only [runOps] at h
  split at h
  ·rename_i st1 r hs
   obtain ⟨rs,hr⟩ := ih h
   exact ⟨r :: rs,by simp only [runRec,hs,hr]⟩
  ·cases h
theorem runP_ok {L : Prog} {x : LCode → St → Option (Ex × St)} {k : Nat} : ∀ (l : List LOper) {st st' : St},runOps 8 (callWith L k x) (inlOf L x) 0 l st = some st' → runP 8 (callWith L k x) (inlOf L x) (panWith L x) (panIn L x) l st = some (.normal,st')
 | [],st,st',h => by simp only [runOps,Option.some.injEq] at h; subst h; rfl
 | o :: l,st,st',h => by
  simp only [runOps] at h
  split at h
  case h_2 => cases h
  rename_i hs
  have hn : panStep 8 (panWith L x) (panIn L x) st o = none := by
   cases hq : panStep 8 (panWith L x) (panIn L x) st o with
   | none => rfl
   | some q => rw [pan_step hq] at hs; cases hs
  simp only [runP,hn,hs]
  exact runP_ok l h
theorem runP_pan {L : Prog} {x : LCode → St → Option (Ex × St)} {k : Nat} : ∀ (l : List LOper) {j : Nat} {o : LOper} {st st' : St} {v : Val} {st2 : St},l[j]? = some o → runOps 8 (callWith L k x) (inlOf L x) 0 (l.take j) st = some st' →
  panStep 8 (panWith L x) (panIn L x) st' o = some (v,st2) → runP 8 (callWith L k x) (inlOf L x) (panWith L x) (panIn L x) l st = some (.panic v,st2) ∧ ∀ i,firstP 8 (callWith L k x) (inlOf L x) (panWith L x) (panIn L x) l i st = some (i + j)
 | [],j,o,st,st',v,st2,hj,_,_ => by simp at hj
 | o' :: l,0,o,st,st',v,st2,hj,hr,hp => by
  simp only [List.getElem?_cons_zero,Option.some.injEq] at hj; subst hj
  simp only [List.take_zero,runOps,Option.some.injEq] at hr; subst hr
  exact ⟨by simp only [runP,hp],fun i => by simp only [firstP,hp,Nat.add_zero]⟩
 | o' :: l,j + 1,o,st,st',v,st2,hj,hr,hp => by
  simp only [List.getElem?_cons_succ] at hj
  simp only [List.take_succ_cons,runOps] at hr
  split at hr
  case h_2 => cases hr
  rename_i hs
  have hn : panStep 8 (panWith L x) (panIn L x) st o' = none := by
   cases hq : panStep 8 (panWith L x) (panIn L x) st o' with
   | none => rfl
   | some q => rw [pan_step hq] at hs; cases hs
  obtain ⟨h1,h2⟩ := runP_pan l hj hr hp
  refine ⟨by simp only [runP,hn,hs]; exact h1,fun i => ?_⟩
  simp only [firstP,hn,hs]
  rw [h2 (i + 1)]
  congr 1; omega
theorem inl_none_of_pan {L : Prog} {ex : LCode → St → Option (Ex × St)} {f : Nat} {args : List Val} {st : St} {r : Val × St} (h : panIn L ex f args st = some r) : inlN L ex f args st = none := by
 unfold panIn at h
 split at h
 ·cases h
 rename_i lf hL
 split at h
 case isFalse => cases h
 rename_i hc
 have : inlWith L ex f args st = none := by
  simp only [inlWith,hL,hc.1,if_true,hc.2,Bool.false_eq_true,if_false]
  split at h
  ·rename_i v st' he; rw [he]; rfl
  ·cases h
 simp only [inlN,this]
theorem wp_of {L : Prog} (c : LCode) : ∀ {st : St} {Q : Ex → St → Prop},Wp L c st Q → ∃ e st',Ev L c st e st' ∧ Q e st' := by
 induction c with
 | skip => intro st Q h; exact ⟨.normal,st,⟨1,fun n hn => by obtain ⟨m,rfl⟩ : ∃ m,n = m + 1 := ⟨n - 1,by omega⟩; rfl⟩,h⟩
 | ops l =>
  intro st Q h
  obtain ⟨st',⟨n0,h0⟩,hq⟩ := ops_of l h
  refine ⟨.normal,st',⟨n0 + 1,fun n hn => ?_⟩,hq⟩
  obtain ⟨m,rfl⟩ : ∃ m,n = m + 1 := ⟨n - 1,by omega⟩
  have := h0 m (by omega)
  simp only [pcall] at this
  simp only [exec,this,Option.map]
 | draw l pairs =>
  intro st Q h
  simp only [Wp] at h
  split at h
  ·rename_i hp
   obtain ⟨st',⟨n0,h0⟩,hq⟩ := ops_of l h
   refine ⟨.normal,st',⟨n0 + 1,fun n hn => ?_⟩,hq⟩
   obtain ⟨m,rfl⟩ : ∃ m,n = m + 1 := ⟨n - 1,by omega⟩
   obtain ⟨rs,hr⟩ := runRec_of_runOps l (h0 m (by omega))
   simp only [pcall] at hr
   simp only [exec,hr,hp,pairsOk,List.all_nil,if_true]
  ·obtain ⟨st',rs,⟨n0,h0⟩,hp,hq⟩ := rec_of l h
   refine ⟨.normal,st',⟨n0 + 1,fun n hn => ?_⟩,hq⟩
   obtain ⟨m,rfl⟩ : ∃ m,n = m + 1 := ⟨n - 1,by omega⟩
   have hr := h0 m (by omega)
   simp only [pcall] at hr
   simp only [exec,hr,hp,if_true]
 | seq a b iha ihb =>
  intro st Q h
  obtain ⟨e,st1,⟨n1,h1⟩,hk⟩ := iha h
  cases e with
  | normal =>
   obtain ⟨e2,st2,⟨n2,h2⟩,hq⟩ := ihb hk
   refine ⟨e2,st2,⟨max n1 n2 + 1,fun n hn => ?_⟩,hq⟩
   obtain ⟨m,rfl⟩ : ∃ m,n = m + 1 := ⟨n - 1,by omega⟩
   simp only [exec,h1 m (by omega),h2 m (by omega)]
  | exit id =>
   refine ⟨_,st1,⟨n1 + 1,fun n hn => ?_⟩,hk⟩
   obtain ⟨m,rfl⟩ : ∃ m,n = m + 1 := ⟨n - 1,by omega⟩
   simp only [exec,h1 m (by omega)]
  | ret =>
   refine ⟨_,st1,⟨n1 + 1,fun n hn => ?_⟩,hk⟩
   obtain ⟨m,rfl⟩ : ∃ m,n = m + 1 := ⟨n - 1,by omega⟩
   simp only [exec,h1 m (by omega)]
  | panic v =>
   refine ⟨_,st1,⟨n1 + 1,fun n hn => ?_⟩,hk⟩
   obtain ⟨m,rfl⟩ : ∃ m,n = m + 1 := ⟨n - 1,by omega⟩
   simp only [exec,h1 m (by omega)]
 | cond x a b iha ihb =>
  intro st Q h
  simp only [Wp] at h
  split at h
  ·rename_i t ht
   cases t with
   | true =>
    obtain ⟨e,st1,⟨n1,h1⟩,hk⟩ := iha (by simpa using h)
    refine ⟨e,st1,⟨n1 + 1,fun n hn => ?_⟩,hk⟩
    obtain ⟨m,rfl⟩ : ∃ m,n = m + 1 := ⟨n - 1,by omega⟩
    simp only [exec,ht,h1 m (by omega)]
   | false =>
    obtain ⟨e,st1,⟨n1,h1⟩,hk⟩ := ihb (by simpa using h)
    refine ⟨e,st1,⟨n1 + 1,fun n hn => ?_⟩,hk⟩
    obtain ⟨m,rfl⟩ : ∃ m,n = m + 1 := ⟨n - 1,by omega⟩
    simp only [exec,ht,h1 m (by omega)]
  ·exact h.elim
 | block id b ih =>
  intro st Q h
  obtain ⟨e,st1,⟨n1,h1⟩,hk⟩ := ih h
  cases e with
  | exit id' =>
   simp only at hk
   by_cases hi : id' = id
   ·rw [if_pos hi] at hk
    refine ⟨.normal,st1,⟨n1 + 1,fun n hn => ?_⟩,hk⟩
    obtain ⟨m,rfl⟩ : ∃ m,n = m + 1 := ⟨n - 1,by omega⟩
    simp only [exec,h1 m (by omega),hi,if_true]
   ·rw [if_neg hi] at hk
    refine ⟨.exit id',st1,⟨n1 + 1,fun n hn => ?_⟩,hk⟩
    obtain ⟨m,rfl⟩ : ∃ m,n = m + 1 := ⟨n - 1,by omega⟩
    simp only [exec,h1 m (by omega),hi,if_false]
  | normal =>
   refine ⟨_,st1,⟨n1 + 1,fun n hn => ?_⟩,hk⟩
   obtain ⟨m,rfl⟩ : ∃ m,n = m + 1 := ⟨n - 1,by omega⟩
   simp only [exec,h1 m (by omega)]
  | ret =>
   refine ⟨_,st1,⟨n1 + 1,fun n hn => ?_⟩,hk⟩
   obtain ⟨m,rfl⟩ : ∃ m,n = m + 1 := ⟨n - 1,by omega⟩
   simp only [exec,h1 m (by omega)]
  | panic v =>
   refine ⟨_,st1,⟨n1 + 1,fun n hn => ?_⟩,hk⟩
   obtain ⟨m,rfl⟩ : ∃ m,n = m + 1 := ⟨n - 1,by omega⟩
   simp only [exec,h1 m (by omega)]
 | loop b ih => intro st Q h; exact h
 | exit id => intro st Q h; exact ⟨.exit id,st,⟨1,fun n hn => by obtain ⟨m,rfl⟩ : ∃ m,n = m + 1 := ⟨n - 1,by omega⟩; rfl⟩,h⟩
 | ret => intro st Q h; exact ⟨.ret,st,⟨1,fun n hn => by obtain ⟨m,rfl⟩ : ∃ m,n = m + 1 := ⟨n - 1,by omega⟩; rfl⟩,h⟩
 | rangeF g ps a b =>
  intro st Q h
  simp only [Wp] at h
  split at h
  ·rename_i f x y hg
   rcases h with h | ⟨v,en',cnt',⟨n1,h1⟩,hk⟩
   case inr =>
    refine ⟨_,_,⟨n1 + 1,fun n hn => ?_⟩,hk⟩
    obtain ⟨m,rfl⟩ : ∃ m,n = m + 1 := ⟨n - 1,by omega⟩
    have hi := h1 m (by omega) st.fr
    simp only [loopKey] at hi
    simp only [exec,hg,rangeWith,loopKey,inl_none_of_pan hi,hi]
   obtain ⟨v,en',cnt',⟨n1,h1⟩,hk⟩ := h
   have run : ∀ n,n1 + 1 ≤ n → ∀ r,(match en' (loopKey st.cnt) with
     | some (.loop _ _ _ _ .ready) => some (Ex.normal,{ fr := st.fr,en := en'.set (loopKey st.cnt) none,cnt := cnt' : St })
     | some (.loop _ _ _ _ (.done e)) => some (e,{ fr := st.fr,en := en'.set (loopKey st.cnt) none,cnt := cnt' })
     | _ => none) = some r → exec L n (.rangeF g ps a b) st = some r := by
    intro n hn r hr
    obtain ⟨m,rfl⟩ : ∃ m,n = m + 1 := ⟨n - 1,by omega⟩
    have hi := h1 m (by omega) st.fr
    simp only [Inl.call,inlOf] at hi
    simp only [exec,hg,rangeWith]
    simp only [loopKey] at hi hr
    rw [hi]
    exact hr
   split at hk
   ·rename_i hl
    exact ⟨_,_,⟨n1 + 1,fun n hn => run n hn _ (by simp only [hl])⟩,hk⟩
   ·rename_i hl
    exact ⟨_,_,⟨n1 + 1,fun n hn => run n hn _ (by simp only [hl])⟩,hk⟩
   ·exact hk.elim
  ·exact h.elim
 | rcv d l b => intro st Q h; exact h.elim
 | opsP l =>
  intro st Q h
  rcases h with h | ⟨k,o,hk,h⟩
  ·obtain ⟨st',⟨n0,h0⟩,hq⟩ := ops_of l h
   refine ⟨.normal,st',⟨n0 + 1,fun n hn => ?_⟩,hq⟩
   obtain ⟨m,rfl⟩ : ∃ m,n = m + 1 := ⟨n - 1,by omega⟩
   rw [exec]; exact runP_ok l (h0 m (by omega))
  ·obtain ⟨st1,⟨n0,h0⟩,hp⟩ := ops_of _ h
   obtain ⟨v,st2,⟨n1,h1⟩,hq⟩ := wpano_of hp
   refine ⟨.panic v,st2,⟨max n0 n1 + 1,fun n hn => ?_⟩,hq⟩
   obtain ⟨m,rfl⟩ : ∃ m,n = m + 1 := ⟨n - 1,by omega⟩
   rw [exec]; exact (runP_pan l hk (h0 m (by omega)) (h1 m (by omega))).1
 | drawP l an pairs =>
  intro st Q h
  rcases h with h | ⟨j,o,hj,h1,h2⟩
  ·obtain ⟨st',rs,⟨n0,h0⟩,hp,hq⟩ := rec_of l h
   refine ⟨.normal,st',⟨n0 + 1,fun n hn => ?_⟩,hq⟩
   obtain ⟨m,rfl⟩ : ∃ m,n = m + 1 := ⟨n - 1,by omega⟩
   have hr := h0 m (by omega)
   simp only [pcall] at hr
   simp only [exec,first_none l hr,hr,hp,if_true]
  ·obtain ⟨s,⟨n0,h0⟩,hp0⟩ := ops_of _ h1
   obtain ⟨v0,s2,⟨n1,hn1⟩,_⟩ := wpano_of hp0
   obtain ⟨st1,rs,⟨n2,hn2⟩,hc,hp⟩ := rec_of _ h2
   obtain ⟨v,st2,⟨n3,hn3⟩,hq⟩ := wpano_of hp
   refine ⟨_,_,⟨max (max n0 n1) (max n2 n3) + 1,fun n hn => ?_⟩,hq⟩
   obtain ⟨m,rfl⟩ : ∃ m,n = m + 1 := ⟨n - 1,by omega⟩
   have hf := (runP_pan l hj (h0 m (by omega)) (hn1 m (by omega))).2 0
   rw [Nat.zero_add] at hf
   have hr := hn2 m (by omega)
   simp only [pcall] at hr
   have hoj : l.getD j default = o := by simp [List.getD_eq_getElem?_getD,hj]
   simp only [exec,hf,drawPan,hr,hc,if_true,hoj,hn3 m (by omega)]
 | drawL l an pairs A =>
  intro st Q h
  rcases h with h | ⟨j,o,hj,h1,h2⟩
  ·obtain ⟨st',rs,⟨n0,h0⟩,hp,hq⟩ := rec_of _ h
   refine ⟨.normal,st',⟨n0 + 1,fun n hn => ?_⟩,hq⟩
   obtain ⟨m,rfl⟩ : ∃ m,n = m + 1 := ⟨n - 1,by omega⟩
   have hr := h0 m (by omega)
   simp only [pcall] at hr
   rw [exec]
   unfold drawLate
   simp only [first_none _ hr,hr,hp,if_true]
  ·obtain ⟨s,⟨n0,h0⟩,hp0⟩ := ops_of _ h1
   obtain ⟨v0,s2,⟨n1,hn1⟩,_⟩ := wpano_of hp0
   obtain ⟨st1,rs,⟨n2,hn2⟩,hc,hp⟩ := rec_of _ h2
   obtain ⟨v,st2,⟨n3,hn3⟩,hq⟩ := wpano_of hp
   refine ⟨_,_,⟨max (max n0 n1) (max n2 n3) + 1,fun n hn => ?_⟩,hq⟩
   obtain ⟨m,rfl⟩ : ∃ m,n = m + 1 := ⟨n - 1,by omega⟩
   have hf := (runP_pan _ hj (h0 m (by omega)) (hn1 m (by omega))).2 0
   rw [Nat.zero_add] at hf
   have hr := hn2 m (by omega)
   simp only [pcall] at hr
   have hoj : (lateL A (lateKey st (l.getD A default)) l).getD j default = o := by rw [List.getD_eq_getElem?_getD,hj]; rfl
   rw [exec]
   unfold drawLate
   simp only [hf,hr,hc,if_true,hoj,hn3 m (by omega)]
 | drawM l an ps As => intro st Q h; exact h.elim
 | dfr ts l f args b ih =>
  intro st Q h
  obtain ⟨st2,⟨n0,h0⟩,hb⟩ := ops_of l h
  obtain ⟨e,st3,⟨n1,h1⟩,hts,st4,⟨n2,h2⟩,hq⟩ := ih hb
  refine ⟨.ret,st4,⟨max n0 (max n1 n2) + 1,fun n hn => ?_⟩,hq⟩
  obtain ⟨m,rfl⟩ : ∃ m,n = m + 1 := ⟨n - 1,by omega⟩
  have hr := h0 m (by omega)
  simp only [pcall] at hr
  simp only [exec,hr,h1 m (by omega),hts,Bool.false_eq_true,if_false,h2 m (by omega),Option.map_some]
theorem wp_loop {α : Type} {L : Prog} {b : LCode} {Q : Ex → St → Prop} (I : α → St → Prop) (μ : α → Nat) (x : α) {st : St} (h0 : I x st)
  (hr : ∀ x st,I x st → Wp L b st fun e st' => match e with
   | .normal => ∃ y,I y st' ∧ μ y < μ x
   | .exit i => Q (.exit i) st'
   | .ret => Q .ret st'
   | .panic v => Q (.panic v) st') : Wp L (.loop b) st Q := by
 have key : ∀ m x st,μ x = m → I x st → ∃ e st',Ev L (.loop b) st e st' ∧ Q e st' := by
  intro m
  induction m using Nat.strongRecOn with
  | _ m ih =>
   intro x st hm hI
   obtain ⟨e,st1,⟨n1,h1⟩,hk⟩ := wp_of b (hr x st hI)
   cases e with
   | normal =>
    obtain ⟨y,hy,hlt⟩ := hk
    obtain ⟨e2,st2,⟨n2,h2⟩,hq⟩ := ih (μ y) (hm ▸ hlt) y st1 rfl hy
    refine ⟨e2,st2,⟨max n1 n2 + 1,fun n hn => ?_⟩,hq⟩
    obtain ⟨m',rfl⟩ : ∃ m,n = m + 1 := ⟨n - 1,by omega⟩
    simp only [exec,h1 m' (by omega),h2 m' (by omega)]
   | exit id =>
    refine ⟨_,st1,⟨n1 + 1,fun n hn => ?_⟩,hk⟩
    obtain ⟨m',rfl⟩ : ∃ m,n = m + 1 := ⟨n - 1,by omega⟩
    simp only [exec,h1 m' (by omega)]
   | ret =>
    refine ⟨_,st1,⟨n1 + 1,fun n hn => ?_⟩,hk⟩
    obtain ⟨m',rfl⟩ : ∃ m,n = m + 1 := ⟨n - 1,by omega⟩
    simp only [exec,h1 m' (by omega)]
   | panic v =>
    refine ⟨_,st1,⟨n1 + 1,fun n hn => ?_⟩,hk⟩
    obtain ⟨m',rfl⟩ : ∃ m,n = m + 1 := ⟨n - 1,by omega⟩
    simp only [exec,h1 m' (by omega)]
 exact key _ x st rfl h0
theorem wp_mono {L : Prog} (c : LCode) : ∀ {st : St} {Q R : Ex → St → Prop},Wp L c st Q → (∀ e st',Q e st' → R e st') → Wp L c st R := by
 have stp : ∀ {st : St} {o : LOper} {K K' : St → Res → Prop},WStep L st o K → (∀ s r,K s r → K' s r) → WStep L st o K' := by
  intro st o K K' h hk
  unfold WStep at h ⊢
  split
  ·rename_i hw; simp only [hw] at h
   split
   ·rename_i f args hop; simp only [hop] at h; exact h.mono fun _ _ _ => hk _ _
   ·rename_i op hne
    have h' : WOp L (o.dst.getD 0) (st.cnt 0 (o.dst.getD 0)) st.en (St.get st.fr) o.op fun r => (r.bump && o.dst.isNone) = false ∧
      K ⟨putFr st.fr o.dst r.v,W.applyAll st.en r.ws,if r.bump then setCnt st.cnt 0 (o.dst.getD 0) (st.cnt 0 (o.dst.getD 0) + 1) else st.cnt⟩ r := by
     split at h
     ·rename_i f a hx; exact absurd hx (hne f a)
     ·exact h
    have oth : ∀ {K K' : Res → Prop},(∀ r,K r → K' r) → (match evalW (o.dst.getD 0) (st.cnt 0 (o.dst.getD 0)) st.en (St.get st.fr) o.op with | some r => K r | none => False) →
      (match evalW (o.dst.getD 0) (st.cnt 0 (o.dst.getD 0)) st.en (St.get st.fr) o.op with | some r => K' r | none => False) := by
     intro K K' hk h; split <;> rename_i hr <;> simp only [hr] at h; exact hk _ h
    have mono : ∀ {K K' : Res → Prop},(∀ r,K r → K' r) → WOp L (o.dst.getD 0) (st.cnt 0 (o.dst.getD 0)) st.en (St.get st.fr) o.op K → WOp L (o.dst.getD 0) (st.cnt 0 (o.dst.getD 0)) st.en (St.get st.fr) o.op K' := by
     intro K K' hk h
     generalize hop : o.op = op at h ⊢ oth
     cases op with
     | call f args =>
      simp only [WOp] at h ⊢
      split at h
      ·split at h
       ·obtain ⟨r,h1,h2⟩ := h; exact ⟨r,h1,hk _ h2⟩
       ·exact h.elim
      ·exact h.elim
     | _ => exact oth hk h
    exact mono (fun r ⟨h1,h2⟩ => ⟨h1,hk _ _ h2⟩) h'
  ·rename_i hw; simp only [hw] at h; exact hk _ _ h
  ·rename_i hw; simp only [hw] at h
 have ops : ∀ (l : List LOper) {st : St} {Q R : St → Prop},WOps L l st Q → (∀ s,Q s → R s) → WOps L l st R := by
  intro l
  induction l with
  | nil => intro st Q R h k; exact k _ h
  | cons o l ih => intro st Q R h k; exact stp h fun s r hs => ih hs k
 have rec_ : ∀ (l : List LOper) {st : St} {Q R : St → List Res → Prop},WRec L l st Q → (∀ s rs,Q s rs → R s rs) → WRec L l st R := by
  intro l
  induction l with
  | nil => intro st Q R h k; exact k _ _ h
  | cons o l ih => intro st Q R h k; exact stp h fun s r hs => ih hs fun s rs hq => k _ _ hq
 induction c with
 | skip => intro st Q R h k; exact k _ _ h
 | ops l => intro st Q R h k; exact ops l h fun s => k _ s
 | draw l pairs =>
  intro st Q R h k
  simp only [Wp] at h ⊢
  split at h
  ·rename_i hp; rw [if_pos hp]; exact ops l h fun s => k _ s
  ·rename_i hp; rw [if_neg hp]; exact rec_ l h fun s rs ⟨h1,h2⟩ => ⟨h1,k _ _ h2⟩
 | seq a b iha ihb =>
  intro st Q R h k
  refine iha h fun e st' hq => ?_
  cases e with
  | normal => exact ihb hq k
  | exit i => exact k _ _ hq
  | ret => exact k _ _ hq
  | panic v => exact k _ _ hq
 | cond x a b iha ihb =>
  intro st Q R h k
  simp only [Wp] at h ⊢
  split at h
  ·rename_i t ht
   split at h
   ·rename_i htt; rw [if_pos htt]; exact iha h k
   ·rename_i htt; rw [if_neg htt]; exact ihb h k
  ·exact h.elim
 | block id b ih =>
  intro st Q R h k
  refine ih h fun e st' hq => ?_
  cases e with
  | normal => exact k _ _ hq
  | exit i =>
   simp only at hq ⊢
   split at hq
   ·rename_i hi; rw [if_pos hi]; exact k _ _ hq
   ·rename_i hi; rw [if_neg hi]; exact k _ _ hq
  | ret => exact k _ _ hq
  | panic v => exact k _ _ hq
 | loop b ih => intro st Q R h k; obtain ⟨e,st',h1,h2⟩ := h; exact ⟨e,st',h1,k _ _ h2⟩
 | exit id => intro st Q R h k; exact k _ _ h
 | ret => intro st Q R h k; exact k _ _ h
 | rangeF g ps a b =>
  intro st Q R h k
  simp only [Wp] at h ⊢
  split at h
  ·rcases h with h | h
   ·refine .inl (h.mono fun v en' cnt' hq => ?_)
    split at hq
    ·exact k _ _ hq
    ·exact k _ _ hq
    ·exact hq.elim
   ·exact .inr (h.mono fun v en' cnt' hq => k _ _ hq)
  ·exact h.elim
 | rcv d l b => intro st Q R h k; exact h.elim
 | opsP l =>
  intro st Q R h k
  rcases h with h | ⟨j,o,hj,h⟩
  ·exact .inl (ops l h fun s => k _ s)
  ·exact .inr ⟨j,o,hj,ops _ h fun s hs => wpano_mono hs fun v s2 => k _ s2⟩
 | drawP l an pairs =>
  intro st Q R h k
  rcases h with h | ⟨j,o,hj,h1,h2⟩
  ·exact .inl (rec_ l h fun s rs ⟨h1,h2⟩ => ⟨h1,k _ _ h2⟩)
  ·exact .inr ⟨j,o,hj,h1,rec_ _ h2 fun s rs ⟨q1,q2⟩ => ⟨q1,wpano_mono q2 fun v s2 => k _ _⟩⟩
 | drawL l an pairs A =>
  intro st Q R h k
  rcases h with h | ⟨j,o,hj,h1,h2⟩
  ·exact .inl (rec_ _ h fun s rs ⟨h1,h2⟩ => ⟨h1,k _ _ h2⟩)
  ·exact .inr ⟨j,o,hj,h1,rec_ _ h2 fun s rs ⟨q1,q2⟩ => ⟨q1,wpano_mono q2 fun v s2 => k _ _⟩⟩
 | drawM l an ps As => intro st Q R h k; exact h.elim
 | dfr ts l f args b ih =>
  intro st Q R h k
  exact ops l h fun st2 hb => ih hb fun e st3 ⟨h1,st4,h2,h3⟩ => ⟨h1,st4,h2,k _ _ h3⟩
def WRes (st : St) (lf : LFunc) (r : Val) : Prop :=
 match mapO (readRes st) lf.res with
 | some vs => match (if lf.keep then ownOf st.en (tupOf vs) else none) with
  | some v => v = r
  | none => match snapD 8 st.en (tupOf vs) with
   | some (v,_) => (if lf.keep then v else v.wk) = r
   | none => False
 | none => False
def Body (L : Prog) (lf : LFunc) (args : List Val) (r : Val) : Prop := ∃ n0,∀ n,n0 ≤ n → callBody lf 8 (exec L n) args = some r
theorem body_of {L : Prog} {lf : LFunc} {args : List Val} {r : Val} (h : Wp L lf.body (start args) fun e st => e.ends = true ∧ WRes st lf r) : Body L lf args r := by
 obtain ⟨e,st,⟨n1,h1⟩,he,h2⟩ := wp_of _ h
 refine ⟨n1,fun n hm => ?_⟩
 simp only [callBody,h1 n (by omega),he,if_true,resultOf]
 unfold WRes at h2
 split at h2
 ·rename_i vs hvs
  simp only [hvs]
  split at h2
  ·rename_i v hv; rw [hv,h2]
  ·rename_i hv
   rw [hv]
   split at h2
   ·rename_i v ks hs; simp only [snapD_ok _ _ _ _ hs 8 (Nat.le_refl _),h2]
   ·exact h2.elim
 ·exact h2.elim
theorem pc_of {L : Prog} {f : Nat} {lf : LFunc} {args : List Val} {r : Val} (hL : L f = some lf) (hn : args.length = lf.np) (ha : isAmb lf args = false)
  (h : Wp L lf.body (start args) fun e st => e.ends = true ∧ WRes st lf r) : PC L f args r := by
 obtain ⟨n1,h1⟩ := body_of h
 refine ⟨n1,fun n hm => ?_⟩
 simp only [pcall,callWith,hL,hn,if_true,ha,Bool.false_eq_true,if_false,h1 n (by omega)]
theorem pc_run {L : Prog} {n f : Nat} {args : List Val} {r : Val} (h : pcall L n f args = some r) : PC L f args r := ⟨n,fun _ hm => pcall_le hm h⟩
end Go.Abs
namespace Go.Abs
def orC (m c : CallFn) : CallFn := fun f a => match m f a with
 | some r => some r
 | none => c f a
def unC (m c : CallFn) : CallFn := fun f a => match m f a with
 | some _ => none
 | none => c f a
def execM (L : Prog) (m : CallFn) : Nat → LCode → St → Option (Ex × St)
 | 0 => fun _ _ => none
 | n + 1 => stepX L (execM L m n) (orC m (callWith L 8 (execM L m n))) (unC m (panWith L (execM L m n)))
theorem execM_le {L : Prog} {m : CallFn} {N : Nat} (hm : CLe m (pcall L N)) : ∀ n,XLe (execM L m n) (exec L (N + n))
 | 0 => fun c s r h => by simp [execM] at h
 | n + 1 => by
  have ih := execM_le hm n
  rw [show N + (n + 1) = (N + n) + 1 from rfl,exec_succ]
  refine step_le ih (fun f a r h => ?_) (fun f a r h => ?_)
  ·unfold orC at h
   split at h
   ·rename_i hq
    cases h
    exact pcall_le (by omega) (hm _ _ _ hq)
   ·exact call_mono ih _ _ _ h
  ·unfold unC at h
   split at h
   ·cases h
   ·exact pan_mono ih _ _ _ h
structure Known1 where
 f : Nat
 a : List Val
 r : Val
def memo : List Known1 → CallFn
 | [],_,_ => none
 | e :: l,f,a => if e.f = f then (if sameL (sameV 50) e.a a = true then some e.r else memo l f a) else memo l f a
def Knows (L : Prog) (l : List Known1) : Prop := ∃ N,CLe (memo l) (pcall L N)
theorem Knows.nil {L : Prog} : Knows L [] := ⟨0,fun _ _ _ h => by simp [memo] at h⟩
theorem Knows.pc {L : Prog} {l : List Known1} (h : Knows L l) {n f : Nat} {a : List Val} {r : Val} (hr : callWith L 8 (execM L (memo l) n) f a = some r) : PC L f a r := by
 obtain ⟨N,hN⟩ := h
 exact pc_run (call_mono (execM_le hN n) _ _ _ hr)
theorem Knows.add {L : Prog} {l : List Known1} (h : Knows L l) {f : Nat} {a : List Val} {r : Val} (hr : PC L f a r) : Knows L (⟨f,a,r⟩ :: l) := by
 obtain ⟨N,hN⟩ := h
 obtain ⟨M,hM⟩ := hr
 refine ⟨N + M,fun g b q hq => ?_⟩
 simp only [memo] at hq
 split at hq
 ·rename_i e1
  split at hq
  ·rename_i e2
   cases hq
   subst e1
   cases sameL_eq (sameV_eq 50) e2
   exact hM _ (by omega)
  ·exact pcall_le (by omega) (hN _ _ _ hq)
 ·exact pcall_le (by omega) (hN _ _ _ hq)
theorem Knows.step {L : Prog} {e : Known1} {l : List Known1} (h : Knows L l) (hr : callWith L 8 (execM L (memo l) 1000) e.f e.a = some e.r) : Knows L (e :: l) := h.add (h.pc hr)
theorem Knows.one {L : Prog} {e : Known1} {l : List Known1} (h : Knows L (e :: l)) : Knows L [e] := by
 obtain ⟨N,hN⟩ := h
 refine ⟨N,fun f a r hr => hN f a r ?_⟩
 simp only [memo] at hr ⊢
 split at hr
 ·rename_i e1
  split at hr
  ·rename_i e2; rw [if_pos e1,if_pos e2]; exact hr
  ·cases hr
 ·cases hr
end Go.Abs
namespace Go.Abs
inductive Tr (α : Type) where
 | lf
 | nd (l : Tr α) (v : Option α) (r : Tr α)
namespace Tr
variable {α : Type}
def get : Tr α → Nat → Option α
 | lf,_ => none
 | nd l v r,n => if n = 0 then v else if n % 2 = 1 then l.get (n / 2) else r.get (n / 2 - 1)
def sub : Tr α → Tr α × Option α × Tr α
 | lf => (lf,none,lf)
 | nd l v r => (l,v,r)
def put : Nat → Tr α → Nat → Option α → Tr α
 | 0,t,_,_ => t
 | f + 1,t,n,x =>
  if n = 0 then nd t.sub.1 x t.sub.2.2
  else if n % 2 = 1 then nd (put f t.sub.1 (n / 2) x) t.sub.2.1 t.sub.2.2
  else nd t.sub.1 t.sub.2.1 (put f t.sub.2.2 (n / 2 - 1) x)
theorem get_sub (t : Tr α) (n : Nat) : t.get n = if n = 0 then t.sub.2.1 else if n % 2 = 1 then t.sub.1.get (n / 2) else t.sub.2.2.get (n / 2 - 1) := by
 cases t with
 | lf => simp [get,sub]
 | nd l v r => rfl
theorem get_put : ∀ (f : Nat) (t : Tr α) (n : Nat) (x : Option α) (m : Nat),n < f → (put f t n x).get m = if m = n then x else t.get m
 | 0,_,_,_,_,h => by omega
 | f + 1,t,n,x,m,h => by
  rw [get_sub t m]
  simp only [put]
  split
  ·rename_i h0; subst h0
   simp only [get]
   by_cases hm : m = 0 <;> simp [hm]
  ·rename_i h0
   split
   ·rename_i h1
    simp only [get]
    by_cases hm : m = 0
    ·subst hm; simp; omega
    ·by_cases h2 : m % 2 = 1
     ·simp only [hm,h2,if_false,if_true]
      rw [get_put f _ _ _ _ (by omega)]
      by_cases e : m = n
      ·subst e; simp
      ·rw [if_neg e,if_neg (by omega)]
     ·simp only [hm,h2,if_false]
      rw [if_neg (by rintro rfl; omega)]
   ·rename_i h1
    simp only [get]
    by_cases hm : m = 0
    ·subst hm; simp; omega
    ·by_cases h2 : m % 2 = 1
     ·simp only [hm,h2,if_false,if_true]
      rw [if_neg (by rintro rfl; omega)]
     ·simp only [hm,h2,if_false]
      rw [get_put f _ _ _ _ (by omega)]
      by_cases e : m = n
      ·subst e; simp
      ·rw [if_neg e,if_neg (by omega)]
end Tr
structure FFr where
 t : Tr Val
 d : Val
def FFr.fn (f : FFr) : Nat → Val := fun i => (f.t.get i).getD f.d
def FFr.set (f : FFr) (i : Nat) (v : Val) : FFr := ⟨f.t.put (i + 1) i (some v),f.d⟩
theorem FFr.set_fn (f : FFr) (i : Nat) (v : Val) : (f.set i v).fn = setFr f.fn i v := by
 funext j
 simp only [FFr.fn,FFr.set,setFr,Tr.get_put _ _ _ _ _ (Nat.lt_succ_self i)]
 by_cases e : j = i <;> simp [e]
def FFr.ofArgs : List Val → Nat → FFr → FFr
 | [],_,f => f
 | v :: vs,i,f => FFr.ofArgs vs (i + 1) (f.set i v)
theorem FFr.ofArgs_fn : ∀ (vs : List Val) (i : Nat) (f : FFr) (j : Nat),(FFr.ofArgs vs i f).fn j = if i ≤ j ∧ j < i + vs.length then vs.getD (j - i) .dead else f.fn j
 | [],i,f,j => by
  simp only [FFr.ofArgs,List.length_nil,Nat.add_zero]
  rw [if_neg (by omega)]
 | v :: vs,i,f,j => by
  simp only [FFr.ofArgs,FFr.ofArgs_fn vs,FFr.set_fn,setFr,List.length_cons]
  by_cases e : j = i
  ·subst e
   rw [if_neg (by omega),if_pos rfl,if_pos (by omega)]; simp
  ·rw [if_neg e]
   by_cases h : i + 1 ≤ j ∧ j < i + 1 + vs.length
   ·rw [if_pos h,if_pos (by omega)]
    obtain ⟨k,rfl⟩ : ∃ k,j = i + 1 + k := ⟨j - (i + 1),by omega⟩
    rw [show i + 1 + k - (i + 1) = k by omega,show i + 1 + k - i = k + 1 by omega]; rfl
   ·rw [if_neg h,if_neg (by omega)]
def FFr.start (args : List Val) : FFr := FFr.ofArgs args 0 ⟨.lf,.tup []⟩
theorem FFr.start_fn (args : List Val) : (FFr.start args).fn = fun i => args.getD i (.tup []) := by
 funext j
 simp only [FFr.start,FFr.ofArgs_fn,Nat.zero_le,true_and,Nat.zero_add,Nat.sub_zero]
 split
 ·rename_i h; simp [List.getD_eq_getElem?_getD,h]
 ·rename_i h; simp [FFr.fn,Tr.get,List.getD_eq_getElem?_getD,List.getElem?_eq_none (Nat.le_of_not_lt h)]
def FFr.dead : FFr := ⟨.lf,.dead⟩
theorem FFr.dead_fn : FFr.dead.fn = fun _ => .dead := rfl
inductive FEnt where
 | pl (x : Ent)
 | loop (fr : FFr) (ps : List Nat) (a b : LCode) (s : LSt)
def FEnt.un : FEnt → Ent
 | .pl x => x
 | .loop fr ps a b s => .loop fr.fn ps a b s
structure FEn where
 t : Tr (Tr (Tr FEnt))
def FEn.get (en : FEn) (k : Key) : Option FEnt := ((en.t.get k.n).getD .lf |>.get k.t).getD .lf |>.get k.g
def FEn.put (en : FEn) (k : Key) (x : Option FEnt) : FEn :=
 let a := (en.t.get k.n).getD .lf
 let b := (a.get k.t).getD .lf
 ⟨en.t.put (k.n + 1) k.n (some (a.put (k.t + 1) k.t (some (b.put (k.g + 1) k.g x))))⟩
def FEn.fn (en : FEn) : En := fun k => (en.get k).map FEnt.un
theorem FEn.get_put (en : FEn) (k : Key) (x : Option FEnt) (k' : Key) : (en.put k x).get k' = if k' = k then x else en.get k' := by
 obtain ⟨n,t,g⟩ := k
 obtain ⟨n',t',g'⟩ := k'
 simp only [FEn.get,FEn.put,Tr.get_put _ _ _ _ _ (Nat.lt_succ_self _),Key.mk.injEq]
 by_cases e1 : n' = n
 ·subst e1
  simp only [if_true,Option.getD_some,Tr.get_put _ _ _ _ _ (Nat.lt_succ_self _),true_and]
  by_cases e2 : t' = t
  ·subst e2
   simp only [if_true,Option.getD_some,Tr.get_put _ _ _ _ _ (Nat.lt_succ_self _),true_and]
  ·simp [e2]
 ·simp [e1]
theorem FEn.put_fn (en : FEn) (k : Key) (x : Option FEnt) : (en.put k x).fn = en.fn.set k (x.map FEnt.un) := by
 funext k'
 simp only [FEn.fn,FEn.get_put,En.set]
 split <;> rfl
structure FCnt where
 t : Tr (Tr Nat)
def FCnt.fn (c : FCnt) : Nat → Nat → Nat := fun n t => (((c.t.get n).getD .lf).get t).getD 0
def FCnt.put (c : FCnt) (n t x : Nat) : FCnt := ⟨c.t.put (n + 1) n (some (((c.t.get n).getD .lf).put (t + 1) t (some x)))⟩
theorem FCnt.put_fn (c : FCnt) (n t x : Nat) : (c.put n t x).fn = setCnt c.fn n t x := by
 funext n' t'
 simp only [FCnt.fn,FCnt.put,setCnt,Tr.get_put _ _ _ _ _ (Nat.lt_succ_self _)]
 by_cases e1 : n' = n
 ·subst e1
  simp only [if_true,Option.getD_some,Tr.get_put _ _ _ _ _ (Nat.lt_succ_self _),true_and]
  by_cases e2 : t' = t <;> simp [e2]
 ·simp [e1]
structure FSt where
 fr : FFr
 en : FEn
 cnt : FCnt
def FSt.st (s : FSt) : St := { fr := s.fr.fn,en := s.en.fn,cnt := s.cnt.fn }
def overQ : List Val → List Val → List Val
 | cs,[] => cs
 | [],_ :: _ => []
 | _ :: cs,v :: vs => v :: overQ cs vs
def setQ : List Val → Nat → List Val → List Val
 | cs,0,vs => overQ cs vs
 | [],_ + 1,_ => []
 | c :: cs,n + 1,vs => c :: setQ cs n vs
theorem setC_nil : ∀ (n : Nat) (vs : List Val),setCells [] n vs = []
 | _,[] => rfl
 | n,_ :: vs => by simp only [setCells,List.set_nil]; exact setC_nil _ vs
theorem setC_succ (c : Val) : ∀ (vs cs : List Val) (n : Nat),setCells (c :: cs) (n + 1) vs = c :: setCells cs n vs
 | [],_,_ => rfl
 | v :: vs,cs,n => by simp only [setCells,List.set_cons_succ]; exact setC_succ c vs _ _
theorem overQ_eq : ∀ cs vs : List Val,overQ cs vs = setCells cs 0 vs
 | _,[] => by simp [overQ,setCells]
 | [],v :: vs => by rw [setC_nil]; rfl
 | c :: cs,v :: vs => by simp only [overQ,setCells,List.set_cons_zero]; rw [setC_succ,overQ_eq cs vs]
theorem setQ_eq : ∀ (cs : List Val) (n : Nat) (vs : List Val),setQ cs n vs = setCells cs n vs
 | cs,0,vs => by simp only [setQ]; exact overQ_eq cs vs
 | [],n + 1,vs => by rw [setC_nil]; rfl
 | c :: cs,n + 1,vs => by simp only [setQ]; rw [setC_succ,setQ_eq cs n vs]
def fillQ : List Val → List (Nat × Nat × Val) → Option (List Val)
 | cs,[] => some cs
 | cs,(off,size,v) :: rest =>
  if v.one = true ∧ v.cells.length = size ∧ off + size ≤ cs.length then fillQ (setQ cs off v.cells) rest else none
theorem fillQ_eq : ∀ (ps : List (Nat × Nat × Val)) (cs : List Val),fillQ cs ps = fillIn cs ps
 | [],_ => rfl
 |(off,size,v) :: rest,cs => by simp only [fillQ,fillIn,setQ_eq,fillQ_eq rest]
def evalQ (n : Nat) (call : CallFn) (me d g : Nat) (en : En) (get : Opd → Val) : LOp → Option Res
 | .build z parts => (fillQ z (parts.map fun p => (p.1,p.2.1,get p.2.2))).map fun cs => { v := .agg cs }
 | op => eval n call me d g en get op
theorem evalQ_eq (n : Nat) (call : CallFn) (me d g : Nat) (en : En) (get : Opd → Val) (op : LOp) : evalQ n call me d g en get op = eval n call me d g en get op := by
 cases op <;> first | rfl | (simp only [evalQ,eval,fillQ_eq])
def W.fapply (en : FEn) : W → FEn
 | .ent k none => en.put k none
 | .ent k (some e) => en.put k (some (.pl e))
 | .cells k off vs => match en.get k with
  | some (.pl (.box cs f)) => en.put k (some (.pl (.box (setQ cs off vs) f)))
  | _ => en
 | .elem k i off vs => match en.get k with
  | some (.pl (.blk sz xs f)) => match xs[i]? with
   | some x => en.put k (some (.pl (.blk sz (xs.set i (putCells x off vs)) f)))
   | none => en
  | _ => en
 | .frz k => match en.get k with
  | some (.pl e) => en.put k (some (.pl e.freeze))
  | _ => en
def W.fapplyAll (en : FEn) (ws : List W) : FEn := ws.foldl W.fapply en
theorem set_same {en : En} {k : Key} {e : Option Ent} (h : en k = e) : en.set k e = en := by
 funext k'; simp only [En.set]; split
 ·rename_i h'; rw [h',h]
 ·rfl
theorem W.fapply_fn (en : FEn) (w : W) : (W.fapply en w).fn = W.apply en.fn w := by
 have hf : ∀ k,en.fn k = (en.get k).map FEnt.un := fun _ => rfl
 cases w with
 | ent k e => cases e <;> simp only [W.fapply,W.apply,FEn.put_fn] <;> rfl
 | cells k off vs =>
  simp only [W.fapply,W.apply,hf]
  cases h : en.get k with
  | none => rfl
  | some x => cases x with
   | loop => rfl
   | pl e => cases e <;> first | rfl | (simp only [Option.map_some,FEnt.un,FEn.put_fn,setQ_eq])
 | elem k i off vs =>
  simp only [W.fapply,W.apply,hf]
  cases h : en.get k with
  | none => rfl
  | some x => cases x with
   | loop => rfl
   | pl e => cases e with
    | blk sz xs f => simp only [Option.map_some,FEnt.un]; cases hx : xs[i]? <;> simp only [FEn.put_fn,Option.map_some,FEnt.un]
    | _ => rfl
 | frz k =>
  simp only [W.fapply,W.apply,hf]
  cases h : en.get k with
  | none => rfl
  | some x => cases x with
   | loop fr ps a b s => simp only [Option.map_some,FEnt.un,Ent.freeze]; exact (set_same (by rw [hf,h]; rfl)).symm
   | pl e => simp only [Option.map_some,FEnt.un,FEn.put_fn]
theorem W.fapplyAll_fn (ws : List W) : ∀ (en : FEn),(W.fapplyAll en ws).fn = W.applyAll en.fn ws := by
 induction ws with
 | nil => intro en; rfl
 | cons w ws ih => intro en; simp only [W.fapplyAll,W.applyAll,List.foldl_cons] at ih ⊢; rw [ih,W.fapply_fn]
structure FInl where
 fn : Nat → List Val → FSt → Option (Val × FSt)
 yld : Key → List Val → FSt → Option (Val × FSt)
def FInl.call (io : FInl) (f : Val) (args : List Val) (st : FSt) : Option (Val × FSt) :=
 match f with
 | .fn f a b => io.fn f (a ++ args ++ b) st
 | .yld k => io.yld k args st
 | _ => Option.none
def FFr.put (fr : FFr) (dst : Option Nat) (v : Val) : FFr :=
 match dst with
 | some d => fr.set d v
 | none => fr
theorem FFr.put_fn (fr : FFr) (dst : Option Nat) (v : Val) : (fr.put dst v).fn = putFr fr.fn dst v := by
 cases dst <;> simp [FFr.put,putFr,FFr.set_fn]
def fstep (call : CallFn) (io : FInl) (st : FSt) (o : LOper) : Option (FSt × Res) :=
 match wanted st.fr.fn o.guard with
 | some false => some ({ st with fr := st.fr.put o.dst (.tup []) },{ v := .tup [] })
 | some true =>
  match o.op with
  | .icall f args => match io.call (St.get st.fr.fn f) (args.map (St.get st.fr.fn)) { st with fr := .dead } with
   | some (v,st') => some ({ fr := st.fr.put o.dst v,en := st'.en,cnt := st'.cnt },{ v,mem := some (st'.en.fn,st'.cnt.fn),unch := fun k => sameE (st.en.fn k) (st'.en.fn k) })
   | none => none
  | op =>
   let d := o.dst.getD 0
   match evalQ 8 call (op.me 0) d (st.cnt.fn (op.me 0) d) st.en.fn (St.get st.fr.fn) op with
   | some r =>
    if r.bump && o.dst.isNone then none else
    some ({ fr := st.fr.put o.dst r.v,en := W.fapplyAll st.en r.ws,cnt := if r.bump then st.cnt.put (op.me 0) d (st.cnt.fn (op.me 0) d + 1) else st.cnt },r)
   | none => none
 | none => none
def frunOps (call : CallFn) (io : FInl) : List LOper → FSt → Option FSt
 | [],st => some st
 | o :: l,st => match fstep call io st o with
  | some (st',_) => frunOps call io l st'
  | none => none
def frunRec (call : CallFn) (io : FInl) : List LOper → FSt → Option (FSt × List Res)
 | [],st => some (st,[])
 | o :: l,st => match fstep call io st o with
  | some (st',r) => match frunRec call io l st' with
   | some (st'',rs) => some (st'',r :: rs)
   | none => none
  | none => none
def FSt.ofStart (args : List Val) : FSt := { fr := .start args,en := ⟨.lf⟩,cnt := ⟨.lf⟩ }
def fcallBody (lf : LFunc) (ex : LCode → FSt → Option (Ex × FSt)) (args : List Val) : Option Val :=
 match ex lf.body (.ofStart args) with
 | some (e,st) => if e.ends then resultOf st.st lf 8 else none
 | none => none
def fcallWith (L : Prog) (memo : CallFn) (ex : LCode → FSt → Option (Ex × FSt)) : CallFn := fun f args =>
 match memo f args with
 | some v => some v
 | none => match L f with
  | none => none
  | some lf =>
   if args.length = lf.np then
    if isAmb lf args then sameEmpty (fcallBody lf ex [.es true]) (fcallBody lf ex [.es false]) else fcallBody lf ex args
   else none
def finlWith (L : Prog) (ex : LCode → FSt → Option (Ex × FSt)) (f : Nat) (args : List Val) (st : FSt) : Option (Val × FSt) :=
 match L f with
 | none => none
 | some lf =>
  if args.length = lf.np ∧ lf.nrm = [] then
   if isAmb lf args then (sameEmpty (fcallBody lf ex [.es true]) (fcallBody lf ex [.es false])).map fun v => (v,st) else
   match ex lf.body { st with fr := .start args } with
   | some (e,st') => if e.ends then (mapO (readRes st'.st) lf.res).map fun vs => (tupOf vs,{ st' with fr := st.fr }) else none
   | none => none
  else none
def FFr.sets (fr : FFr) : List Nat → List Val → FFr
 | p :: ps,v :: vs => FFr.sets (fr.set p v) ps vs
 | _,_ => fr
theorem FFr.sets_fn : ∀ (ps : List Nat) (vs : List Val) (fr : FFr),(fr.sets ps vs).fn = setFrs fr.fn ps vs
 | [],_,_ => by simp [FFr.sets,setFrs]
 | _ :: _,[],_ => by simp [FFr.sets,setFrs]
 | p :: ps,v :: vs,fr => by simp only [FFr.sets,setFrs,FFr.sets_fn ps vs,FFr.set_fn]
def fyldWith (ex : LCode → FSt → Option (Ex × FSt)) (k : Key) (args : List Val) (st : FSt) : Option (Val × FSt) :=
 match st.en.get k with
 | some (.loop fr ps a b .ready) =>
  if args.length = ps.length then
   match ex a { fr := fr.sets ps args,en := st.en,cnt := st.cnt } with
   | some (.normal,st1) => match st1.en.get k with
    | some (.loop fr1 ps1 a1 b1 .ready) => match ex b { st1 with en := st1.en.put k (some (.loop fr1 ps1 a1 b1 .busy)) } with
     | some (e,st2) => match e.calm,st2.en.get k with
      | true,some (.loop fr2 ps2 a2 b2 .busy) =>
       some (.bool (decide (e = .normal)),{ fr := st.fr,en := st2.en.put k (some (.loop fr2 ps2 a2 b2 (if e = .normal then .ready else .done e))),cnt := st2.cnt })
      | _,_ => none
     | none => none
    | _ => none
   | _ => none
  else none
 | _ => none
def finlOf (L : Prog) (ex : LCode → FSt → Option (Ex × FSt)) : FInl := { fn := finlWith L ex,yld := fyldWith ex }
end Go.Abs
namespace Go.Abs
def FILe (i : FInl) (j : Inl) : Prop :=
 (∀ f a s v s',i.fn f a s = some (v,s') → j.fn f a s.st = some (v,s'.st)) ∧ ∀ k a s v s',i.yld k a s = some (v,s') → j.yld k a s.st = some (v,s'.st)
def FXLe (x : LCode → FSt → Option (Ex × FSt)) (y : LCode → St → Option (Ex × St)) : Prop := ∀ c s e s',x c s = some (e,s') → y c s.st = some (e,s'.st)
theorem finlcall_ok {i : FInl} {j : Inl} (h : FILe i j) {f : Val} {a : List Val} {s s' : FSt} {v : Val} (he : i.call f a s = some (v,s')) : j.call f a s.st = some (v,s'.st) := by
 cases f <;> simp only [FInl.call,Inl.call,reduceCtorEq] at he ⊢
 ·exact h.1 _ _ _ _ _ he
 ·exact h.2 _ _ _ _ _ he
theorem fstep_ok {c c' : CallFn} {i : FInl} {j : Inl} (hc : CLe c c') (hi : FILe i j) {st st' : FSt} {o : LOper} {r : Res} (h : fstep c i st o = some (st',r)) : step 8 c' j 0 st.st o = some (st'.st,r) := by
 obtain ⟨dst,op,g⟩ := o
 simp only [fstep,step] at h ⊢
 have e1 : st.st.fr = st.fr.fn := rfl
 have e2 : st.st.en = st.en.fn := rfl
 have e3 : st.st.cnt = st.cnt.fn := rfl
 simp only [e1,e2,e3]
 split at h
 ·rename_i hw
  simp only [hw]
  simp only [Option.some.injEq,Prod.mk.injEq] at h ⊢
  obtain ⟨rfl,rfl⟩ := h
  refine ⟨?_,rfl⟩
  simp only [FSt.st,FFr.put_fn]
 ·rename_i hw
  simp only [hw]
  cases op with
  | icall f args =>
   simp only at h ⊢
   split at h
   case h_2 => cases h
   rename_i hv
   have := finlcall_ok hi hv
   simp only [FSt.st,FFr.dead_fn] at this ⊢
   rw [this]
   simp only [Option.some.injEq,Prod.mk.injEq] at h ⊢
   obtain ⟨rfl,rfl⟩ := h
   refine ⟨?_,rfl⟩
   simp only [FFr.put_fn]
  | _ =>
   simp only at h ⊢
   split at h
   case h_2 => cases h
   rename_i hv
   rw [evalQ_eq] at hv
   rw [eval_mono hc hv]
   simp only
   split at h
   ·cases h
   rename_i hb
   rw [if_neg hb]
   simp only [Option.some.injEq,Prod.mk.injEq] at h ⊢
   obtain ⟨rfl,rfl⟩ := h
   refine ⟨?_,rfl⟩
   simp only [FSt.st,FFr.put_fn,W.fapplyAll_fn]
   split <;> simp [FCnt.put_fn]
 ·cases h
theorem frunOps_ok {c c' : CallFn} {i : FInl} {j : Inl} (hc : CLe c c') (hi : FILe i j) : ∀ (l : List LOper) {st r : FSt},frunOps c i l st = some r → runOps 8 c' j 0 l st.st = some r.st
 | [],_,_,h => by simp only [frunOps,Option.some.injEq] at h; subst h; rfl
 | o :: l,st,r,h => by
  simp only [frunOps,runOps] at h ⊢
  split at h
  case h_2 => cases h
  rename_i hs
  rw [fstep_ok hc hi hs]; exact frunOps_ok hc hi l h
theorem frunRec_ok {c c' : CallFn} {i : FInl} {j : Inl} (hc : CLe c c') (hi : FILe i j) : ∀ (l : List LOper) {st r : FSt} {rs : List Res},frunRec c i l st = some (r,rs) → runRec 8 c' j 0 l st.st = some (r.st,rs)
 | [],_,_,_,h => by simp only [frunRec,Option.some.injEq,Prod.mk.injEq] at h; obtain ⟨rfl,rfl⟩ := h; rfl
 | o :: l,st,r,rs,h => by
  simp only [frunRec,runRec] at h ⊢
  split at h
  case h_2 => cases h
  rename_i hs
  rw [fstep_ok hc hi hs]
  split at h
  case h_2 => cases h
  rename_i hr
  simp only [Option.some.injEq,Prod.mk.injEq] at h; obtain ⟨rfl,rfl⟩ := h
  simp only [frunRec_ok hc hi l hr]
theorem start_st (a : List Val) : (FSt.ofStart a).st = start a := by
 simp only [FSt.ofStart,FSt.st,start,FFr.start_fn]
 rfl
theorem fbody_ok {x : LCode → FSt → Option (Ex × FSt)} {y : LCode → St → Option (Ex × St)} (h : FXLe x y) {lf : LFunc} {a : List Val} {r : Val} (hb : fcallBody lf x a = some r) : callBody lf 8 y a = some r := by
 simp only [fcallBody,callBody] at hb ⊢
 split at hb
 case h_2 => cases hb
 rename_i hx
 have := h _ _ _ _ hx
 rw [start_st] at this
 rw [this]; exact hb
theorem fcall_ok {L : Prog} {memo : CallFn} {x : LCode → FSt → Option (Ex × FSt)} {y : LCode → St → Option (Ex × St)} (hm : CLe memo (callWith L 8 y)) (h : FXLe x y) : CLe (fcallWith L memo x) (callWith L 8 y) := by
 intro f a r hc
 simp only [fcallWith] at hc
 split at hc
 ·rename_i hv; simp only [Option.some.injEq] at hc; subst hc; exact hm _ _ _ hv
 simp only [callWith]
 split at hc
 ·cases hc
 rename_i hL
 rw [hL]
 simp only
 split at hc
 case isFalse => cases hc
 rename_i hl
 rw [if_pos hl]
 split at hc
 ·rename_i ha
  rw [if_pos ha]
  exact same_mono (fun _ => fbody_ok h) (fun _ => fbody_ok h) hc
 ·rename_i ha
  rw [if_neg ha]; exact fbody_ok h hc
theorem finl_ok {L : Prog} {x : LCode → FSt → Option (Ex × FSt)} {y : LCode → St → Option (Ex × St)} (h : FXLe x y) : FILe (finlOf L x) (inlOf L y) := by
 refine ⟨fun f a s v s' hc => ?_,fun k a s v s' hc => ?_⟩
 ·suffices hs : inlWith L y f a s.st = some (v,s'.st) ∧ ∃ lf,L f = some lf ∧ lf.nrm = [] by
   obtain ⟨h1,lf,h2,h3⟩ := hs
   simp only [inlOf,inlN,h1,h2,h3,norms]
  simp only [finlOf,finlWith,inlWith] at hc ⊢
  split at hc
  ·cases hc
  rename_i hL
  rw [hL]; simp only
  split at hc
  case isFalse => cases hc
  rename_i hl
  rw [if_pos hl.1]
  refine ⟨?_,_,rfl,hl.2⟩
  split at hc
  ·rename_i ha
   rw [if_pos ha]
   obtain ⟨v,hv,he⟩ := Option.map_eq_some_iff.1 hc
   simp only [Prod.mk.injEq] at he
   obtain ⟨rfl,rfl⟩ := he
   rw [same_mono (fun _ => fbody_ok h) (fun _ => fbody_ok h) hv]; rfl
  ·rename_i ha
   rw [if_neg ha]
   split at hc
   case h_2 => cases hc
   rename_i hx
   have := h _ _ _ _ hx
   simp only [FSt.st,FFr.start_fn] at this ⊢
   rw [this]
   simp only
   split at hc
   case isFalse => cases hc
   rename_i he
   rw [if_pos he]
   obtain ⟨vs,hvs,he⟩ := Option.map_eq_some_iff.1 hc
   simp only [Prod.mk.injEq] at he
   obtain ⟨rfl,rfl⟩ := he
   simp only [FSt.st] at hvs
   rw [hvs]; rfl
 ·simp only [finlOf,fyldWith,inlOf,yldWith] at hc ⊢
  have hg : ∀ (s : FSt) (k : Key) (x : FEnt),s.en.get k = some x → s.st.en k = some x.un := fun s k x h => by simp only [FSt.st,FEn.fn,h,Option.map_some]
  split at hc
  case h_2 => cases hc
  rename_i h0
  rw [hg _ _ _ h0]
  simp only [FEnt.un]
  split at hc
  case isFalse => cases hc
  rename_i hl
  rw [if_pos hl]
  split at hc
  case h_2 => cases hc
  rename_i hx
  have := h _ _ _ _ hx
  simp only [FSt.st,FFr.sets_fn] at this ⊢
  rw [this]
  simp only
  split at hc
  case h_2 => cases hc
  rename_i hk
  have := hg _ _ _ hk
  simp only [FSt.st,FEnt.un] at this
  simp only [this]
  split at hc
  case h_2 => cases hc
  rename_i hx2
  have := h _ _ _ _ hx2
  simp only [FSt.st,FEn.put_fn,Option.map_some,FEnt.un] at this
  simp only [this]
  split at hc
  case h_2 => cases hc
  rename_i hcalm hk2
  have := hg _ _ _ hk2
  simp only [FSt.st,FEnt.un] at this
  simp only [this,hcalm]
  simp only [Option.some.injEq,Prod.mk.injEq] at hc ⊢
  obtain ⟨rfl,rfl⟩ := hc
  refine ⟨rfl,?_⟩
  simp only [FEn.put_fn,Option.map_some,FEnt.un]
def frangeWith (L : Prog) (ex : LCode → FSt → Option (Ex × FSt)) (g : Val) (ps : List Nat) (a b : LCode) (st : FSt) : Option (Ex × FSt) :=
 match g with
 | .fn f x y =>
  let k : Key := ⟨1,0,st.cnt.fn 1 0⟩
  match finlWith L ex f (x ++ [.yld k] ++ y) { fr := st.fr,en := st.en.put k (some (.loop st.fr ps a b .ready)),cnt := st.cnt.put 1 0 (st.cnt.fn 1 0 + 1) } with
  | some (_,st') => match st'.en.get k with
   | some (.loop _ _ _ _ .ready) => some (.normal,{ st' with en := st'.en.put k none })
   | some (.loop _ _ _ _ (.done e)) => some (e,{ st' with en := st'.en.put k none })
   | _ => none
  | none => none
 | _ => none
def fexec (L : Prog) (memo : CallFn) : Nat → LCode → FSt → Option (Ex × FSt)
 | 0,_,_ => none
 | n + 1,c,st =>
  match c with
  | .skip => some (.normal,st)
  | .ops l => (frunOps (fcallWith L memo (fexec L memo n)) (finlOf L (fexec L memo n)) l st).map fun st => (.normal,st)
  | .draw l pairs => match frunRec (fcallWith L memo (fexec L memo n)) (finlOf L (fexec L memo n)) l st with
   | some (st',rs) => if pairsOk rs pairs then some (.normal,st') else none
   | none => none
  | .seq a b => match fexec L memo n a st with
   | some (.normal,st') => fexec L memo n b st'
   | r => r
  | .cond x a b => match St.get st.fr.fn x with
   | .bool true => fexec L memo n a st
   | .bool false => fexec L memo n b st
   | _ => none
  | .block id b => match fexec L memo n b st with
   | some (.exit id',st') => if id' = id then some (.normal,st') else some (.exit id',st')
   | r => r
  | .loop b => match fexec L memo n b st with
   | some (.normal,st') => fexec L memo n (.loop b) st'
   | r => r
  | .exit id => some (.exit id,st)
  | .ret => some (.ret,st)
  | .rangeF g ps a b => frangeWith L (fexec L memo n) (St.get st.fr.fn g) ps a b st
  | _ => none
theorem frange_ok {L : Prog} {x : LCode → FSt → Option (Ex × FSt)} {y : LCode → St → Option (Ex × St)} (h : FXLe x y) {g : Val} {ps : List Nat} {a b : LCode} {st st' : FSt} {e : Ex} (hr : frangeWith L x g ps a b st = some (e,st')) :
  rangeWith L y g ps a b st.st = some (e,st'.st) := by
 unfold frangeWith at hr
 unfold rangeWith
 split at hr
 case h_2 => cases hr
 simp only at hr ⊢
 split at hr
 case h_2 => cases hr
 rename_i hx
 have := (finl_ok h (L := L)).1 _ _ _ _ _ hx
 simp only [inlOf,FSt.st,FEn.put_fn,Option.map_some,FEnt.un,FCnt.put_fn] at this
 simp only [FSt.st]
 rw [this]
 simp only
 have hg : ∀ (s : FSt) (k : Key) (x : FEnt),s.en.get k = some x → s.en.fn k = some x.un := fun s k x h => by simp only [FEn.fn,h,Option.map_some]
 split at hr
 ·rename_i hk
  have := hg _ _ _ hk
  simp only [FEnt.un] at this
  simp only [this]
  simp only [Option.some.injEq,Prod.mk.injEq] at hr
  obtain ⟨rfl,rfl⟩ := hr
  simp only [FEn.put_fn,Option.map_none]
 ·rename_i hk
  have := hg _ _ _ hk
  simp only [FEnt.un] at this
  simp only [this]
  simp only [Option.some.injEq,Prod.mk.injEq] at hr
  obtain ⟨rfl,rfl⟩ := hr
  simp only [FEn.put_fn,Option.map_none]
 ·cases hr
theorem fexec_ok (L : Prog) (memo : CallFn) (N : Nat) (hm : CLe memo (pcall L N)) : ∀ n,FXLe (fexec L memo n) (exec L (N + n)) := by
 intro n
 induction n with
 | zero => intro c s e s' h; simp [fexec] at h
 | succ n ih =>
  intro c s e s' h
  have hm' : CLe memo (callWith L 8 (exec L (N + n))) := fun f a r hr => pcall_le (by omega) (hm f a r hr)
  have hc := fcall_ok hm' ih
  have hi := finl_ok ih (L := L)
  rw [show N + (n + 1) = (N + n) + 1 from rfl]
  cases c with
  | skip => rw [fexec] at h; rw [exec]; simp only [Option.some.injEq,Prod.mk.injEq] at h; obtain ⟨rfl,rfl⟩ := h; rfl
  | ops l =>
   rw [fexec] at h; rw [exec]
   obtain ⟨st,hs,he⟩ := Option.map_eq_some_iff.1 h
   simp only [Prod.mk.injEq] at he
   obtain ⟨rfl,rfl⟩ := he
   rw [frunOps_ok hc hi l hs]; rfl
  | draw l ps =>
   rw [fexec] at h; rw [exec]
   split at h
   case h_2 => cases h
   rename_i hs
   rw [frunRec_ok hc hi l hs]
   simp only
   split at h
   ·rename_i hp
    rw [if_pos hp]
    simp only [Option.some.injEq,Prod.mk.injEq] at h; obtain ⟨rfl,rfl⟩ := h; rfl
   ·cases h
  | seq a b =>
   rw [fexec] at h; rw [exec]
   cases hx : fexec L memo n a s with
   | none => rw [hx] at h; cases h
   | some p =>
    obtain ⟨e0,st⟩ := p
    rw [hx] at h
    rw [ih _ _ _ _ hx]
    cases e0 with
    | normal => exact ih _ _ _ _ h
    | exit i => simp only [Option.some.injEq,Prod.mk.injEq] at h ⊢; obtain ⟨rfl,rfl⟩ := h; exact ⟨rfl,rfl⟩
    | ret => simp only [Option.some.injEq,Prod.mk.injEq] at h ⊢; obtain ⟨rfl,rfl⟩ := h; exact ⟨rfl,rfl⟩
    | panic => simp only [Option.some.injEq,Prod.mk.injEq] at h ⊢; obtain ⟨rfl,rfl⟩ := h; exact ⟨rfl,rfl⟩
  | cond z a b =>
   rw [fexec] at h; rw [exec]
   have e1 : s.st.fr = s.fr.fn := rfl
   rw [e1]
   split at h
   ·rename_i hz; simp only [hz]; exact ih _ _ _ _ h
   ·rename_i hz; simp only [hz]; exact ih _ _ _ _ h
   ·cases h
  | block id b =>
   rw [fexec] at h; rw [exec]
   cases hx : fexec L memo n b s with
   | none => rw [hx] at h; cases h
   | some p =>
    obtain ⟨e0,st⟩ := p
    rw [hx] at h
    rw [ih _ _ _ _ hx]
    cases e0 with
    | normal => simp only [Option.some.injEq,Prod.mk.injEq] at h ⊢; obtain ⟨rfl,rfl⟩ := h; exact ⟨rfl,rfl⟩
    | ret => simp only [Option.some.injEq,Prod.mk.injEq] at h ⊢; obtain ⟨rfl,rfl⟩ := h; exact ⟨rfl,rfl⟩
    | panic => simp only [Option.some.injEq,Prod.mk.injEq] at h ⊢; obtain ⟨rfl,rfl⟩ := h; exact ⟨rfl,rfl⟩
    | exit i =>
     simp only at h ⊢
     split at h <;> rename_i hh
     ·rw [if_pos hh]; simp only [Option.some.injEq,Prod.mk.injEq] at h ⊢; obtain ⟨rfl,rfl⟩ := h; exact ⟨rfl,rfl⟩
     ·rw [if_neg hh]; simp only [Option.some.injEq,Prod.mk.injEq] at h ⊢; obtain ⟨rfl,rfl⟩ := h; exact ⟨rfl,rfl⟩
  | loop b =>
   rw [fexec] at h; rw [exec]
   cases hx : fexec L memo n b s with
   | none => rw [hx] at h; cases h
   | some p =>
    obtain ⟨e0,st⟩ := p
    rw [hx] at h
    rw [ih _ _ _ _ hx]
    cases e0 with
    | normal => exact ih _ _ _ _ h
    | exit i => simp only [Option.some.injEq,Prod.mk.injEq] at h ⊢; obtain ⟨rfl,rfl⟩ := h; exact ⟨rfl,rfl⟩
    | ret => simp only [Option.some.injEq,Prod.mk.injEq] at h ⊢; obtain ⟨rfl,rfl⟩ := h; exact ⟨rfl,rfl⟩
    | panic => simp only [Option.some.injEq,Prod.mk.injEq] at h ⊢; obtain ⟨rfl,rfl⟩ := h; exact ⟨rfl,rfl⟩
  | exit i => rw [fexec] at h; rw [exec]; simp only [Option.some.injEq,Prod.mk.injEq] at h; obtain ⟨rfl,rfl⟩ := h; rfl
  | ret => rw [fexec] at h; rw [exec]; simp only [Option.some.injEq,Prod.mk.injEq] at h; obtain ⟨rfl,rfl⟩ := h; rfl
  | rangeF g ps a b =>
   rw [fexec] at h; rw [exec]
   exact frange_ok ih h
  | opsP => simp [fexec] at h
  | dfr => simp [fexec] at h
  | rcv => simp [fexec] at h
  | drawP => simp [fexec] at h
  | drawL => simp [fexec] at h
  | drawM => simp [fexec] at h
def fcall (L : Prog) (memo : CallFn) (n f : Nat) (args : List Val) : Option Val :=
 match L f with
 | none => none
 | some lf => if args.length = lf.np then (if isAmb lf args then none else fcallBody lf (fexec L memo n) args) else none
theorem fcall_sound {L : Prog} {memo : CallFn} {N n f : Nat} {args : List Val} {r : Val} (hm : CLe memo (pcall L N)) (h : fcall L memo n f args = some r) : pcall L (N + n) f args = some r := by
 simp only [fcall] at h
 simp only [pcall,callWith]
 split at h
 ·cases h
 rename_i hL
 rw [hL]
 simp only
 split at h
 case isFalse => cases h
 rename_i hl
 rw [if_pos hl]
 split at h
 ·cases h
 rename_i ha
 rw [if_neg ha]
 exact fbody_ok (fexec_ok L memo N hm n) h
end Go.Abs
namespace Go.Abs
theorem Knows.pcF {L : Prog} {l : List Known1} (h : Knows L l) {n f : Nat} {a : List Val} {r : Val} (hr : fcall L (memo l) n f a = some r) : PC L f a r := by
 obtain ⟨N,hN⟩ := h
 exact pc_run (fcall_sound hN hr)
end Go.Abs
namespace Go.Abs
section
variable {L : Prog} {fr : Nat → Val} {en : En} {cnt : Nat → Nat → Nat} {Q : St → Prop} {l : List LOper} {d : Nat} {dst : Option Nat}
@[go_sem] theorem g_t {i : Nat} : St.get fr (.t i) = fr i := (rfl)
@[go_sem] theorem g_c {v : Val} : St.get fr (.c v) = v := (rfl)
@[go_sem] theorem g_f {i : Nat} : St.get fr (.f i) = .fn i [] [] := (rfl)
@[go_sem] theorem fr_eq {v : Val} : setFr fr d v d = v := by simp [setFr]
@[go_sem] theorem fr_ne {v : Val} {i : Nat} (h : ¬ i = d) : setFr fr d v i = fr i := by simp [setFr,h]
@[go_sem] theorem put_some {v : Val} : putFr fr (some d) v = setFr fr d v := (rfl)
@[go_sem] theorem put_none {v : Val} : putFr fr none v = fr := (rfl)
@[go_sem] theorem en_eq {k : Key} {e : Option Ent} : En.set en k e k = e := by simp [En.set]
theorem en_ne {k k' : Key} {e : Option Ent} (h : k' ≠ k) : En.set en k e k' = en k' := by simp [En.set,h]
@[go_sem] theorem en_ne_t {n n' t t' g g' : Nat} {e : Option Ent} (h : ¬ t' = t) : En.set en ⟨n,t,g⟩ e ⟨n',t',g'⟩ = en ⟨n',t',g'⟩ :=
 en_ne fun he => h (by injection he)
@[go_sem] theorem en_ne_g {n n' t t' g g' : Nat} {e : Option Ent} (h : ¬ g' = g) : En.set en ⟨n,t,g⟩ e ⟨n',t',g'⟩ = en ⟨n',t',g'⟩ :=
 en_ne fun he => h (by injection he)
@[go_sem] theorem cnt_eq {n t x : Nat} : setCnt cnt n t x n t = x := by simp [setCnt]
@[go_sem] theorem cnt_ne {n t t' x : Nat} (h : ¬ t' = t) : setCnt cnt n t x n t' = cnt n t' := by simp [setCnt,h]
@[go_sem] theorem w_nil (st : St) : WOps L [] st Q = Q st := (rfl)
def LOp.plain : LOp → Bool
 | .call _ _ | .icall _ _ => false
 | _ => true
def WPut (L : Prog) (l : List LOper) (dst : Option Nat) (fr : Nat → Val) (en : En) (cnt : Nat → Nat → Nat) (Q : St → Prop) : Option Res → Prop
 | some r => (r.bump && dst.isNone) = false ∧ WOps L l ⟨putFr fr dst r.v,W.applyAll en r.ws,if r.bump then setCnt cnt 0 (dst.getD 0) (cnt 0 (dst.getD 0) + 1) else cnt⟩ Q
 | none => False
@[go_sem] theorem wput_some {v : Val} {ws : List W} {rs : List R} {m : Option (En × (Nat → Nat → Nat))} {u : Key → Bool} :
  WPut L l dst fr en cnt Q (some ⟨v,ws,rs,false,m,u⟩) = WOps L l ⟨putFr fr dst v,W.applyAll en ws,cnt⟩ Q := by simp [WPut]
@[go_sem] theorem wput_bump {v : Val} {ws : List W} {rs : List R} {m : Option (En × (Nat → Nat → Nat))} {u : Key → Bool} :
  WPut L l (some d) fr en cnt Q (some ⟨v,ws,rs,true,m,u⟩) = WOps L l ⟨setFr fr d v,W.applyAll en ws,setCnt cnt 0 d (cnt 0 d + 1)⟩ Q := by simp [WPut,putFr]
@[go_sem] theorem wput_none : WPut L l dst fr en cnt Q none = False := (rfl)
@[congr] theorem wput_congr {r r' : Option Res} (h : r = r') : WPut L l dst fr en cnt Q r = WPut L l dst fr en cnt Q r' := by rw [h]
@[congr] theorem wops_congr {st : St} : WOps L l st Q = WOps L l st Q := (rfl)
theorem w_gen {op : LOp} (h : op.plain = true) : WOps L (⟨dst,op,none⟩ :: l) ⟨fr,en,cnt⟩ Q =
  WPut L l dst fr en cnt Q (evalW (dst.getD 0) (cnt 0 (dst.getD 0)) en (St.get fr) op) := by
 cases op <;> first | (simp [LOp.plain] at h; done) | rfl | (simp only [WOps,WStep,wanted,WOp]; rfl)
@[go_sem] theorem w_some {op : LOp} (h : op.plain = true) : WOps L (⟨some d,op,none⟩ :: l) ⟨fr,en,cnt⟩ Q =
  WPut L l (some d) fr en cnt Q (evalW d (cnt 0 d) en (St.get fr) op) := w_gen h
@[go_sem] theorem w_none {op : LOp} (h : op.plain = true) : WOps L (⟨none,op,none⟩ :: l) ⟨fr,en,cnt⟩ Q =
  WPut L l none fr en cnt Q (evalW 0 (cnt 0 0) en (St.get fr) op) := w_gen h
@[go_sem] theorem pl_mv {x : Opd} : LOp.plain (.mv x) = true := (rfl)
@[go_sem] theorem pl_pick {a b c : Opd} : LOp.plain (.pick a b c) = true := (rfl)
@[go_sem] theorem pl_alloc {z : List Val} : LOp.plain (.alloc z) = true := (rfl)
@[go_sem] theorem pl_box {n : Nat} {x : Opd} : LOp.plain (.box n x) = true := (rfl)
@[go_sem] theorem pl_build {z : List Val} {p : List (Nat × Nat × Opd)} : LOp.plain (.build z p) = true := (rfl)
@[go_sem] theorem pl_bslice {a b : Nat} {z : List Val} {p : List (Nat × Opd)} : LOp.plain (.bslice a b z p) = true := (rfl)
@[go_sem] theorem pl_bsliceO {a b : Nat} {z : List Val} {p : List (Nat × Opd)} : LOp.plain (.bsliceO a b z p) = true := (rfl)
@[go_sem] theorem pl_appendZ {n : Nat} {z : List Val} {x y : Opd} : LOp.plain (.appendZ n z x y) = true := (rfl)
@[go_sem] theorem pl_load {a : Bool} {n : Nat} {x : Opd} : LOp.plain (.load a n x) = true := (rfl)
@[go_sem] theorem pl_store {n : Nat} {x y : Opd} : LOp.plain (.store n x y) = true := (rfl)
@[go_sem] theorem pl_nilck {x : Opd} : LOp.plain (.nilck x) = true := (rfl)
@[go_sem] theorem pl_bin {b : BinOp} {t : EqT} {x y : Opd} : LOp.plain (.bin b t x y) = true := (rfl)
@[go_sem] theorem pl_un {u : UnOp} {x : Opd} : LOp.plain (.un u x) = true := (rfl)
@[go_sem] theorem pl_wrap {k : IntKind} {x : Opd} : LOp.plain (.wrap k x) = true := (rfl)
@[go_sem] theorem pl_iface {t : Nat} {x : Opd} : LOp.plain (.iface t x) = true := (rfl)
@[go_sem] theorem pl_assert {t : Nat} {z : Val} {b : Bool} {x : Opd} : LOp.plain (.assert t z b x) = true := (rfl)
@[go_sem] theorem pl_mkfn {f : Nat} {a b : List Opd} : LOp.plain (.mkfn f a b) = true := (rfl)
@[go_sem] theorem pl_mkmap  : LOp.plain (.mkmap ) = true := (rfl)
@[go_sem] theorem pl_mput {t : EqT} {a b c : Opd} : LOp.plain (.mput t a b c) = true := (rfl)
@[go_sem] theorem pl_mget {t : EqT} {z : Val} {b : Bool} {x y : Opd} : LOp.plain (.mget t z b x y) = true := (rfl)
@[go_sem] theorem pl_mklen {n : Nat} {z : List Val} {x y : Opd} : LOp.plain (.mklen n z x y) = true := (rfl)
@[go_sem] theorem pl_slice {b : Bool} {n : Nat} {x : Opd} {l h m : Option Opd} : LOp.plain (.slice b n x l h m) = true := (rfl)
@[go_sem] theorem pl_fa {n : Nat} {x : Opd} : LOp.plain (.fa n x) = true := (rfl)
@[go_sem] theorem pl_fld {b : Bool} {n m : Nat} {x : Opd} : LOp.plain (.fld b n m x) = true := (rfl)
@[go_sem] theorem pl_ia {n : Nat} {x y : Opd} : LOp.plain (.ia n x y) = true := (rfl)
@[go_sem] theorem pl_iaa {n m : Nat} {x y : Opd} : LOp.plain (.iaa n m x y) = true := (rfl)
@[go_sem] theorem pl_ixs {x y : Opd} : LOp.plain (.ixs x y) = true := (rfl)
@[go_sem] theorem pl_ixa {b : Bool} {n m : Nat} {x y : Opd} : LOp.plain (.ixa b n m x y) = true := (rfl)
@[go_sem] theorem pl_ext {n : Nat} {x : Opd} : LOp.plain (.ext n x) = true := (rfl)
@[go_sem] theorem pl_len {t : EqT} {x : Opd} : LOp.plain (.len t x) = true := (rfl)
@[go_sem] theorem pl_copy {n : Nat} {x y : Opd} : LOp.plain (.copy n x y) = true := (rfl)
@[go_sem] theorem pl_minmax {b : Bool} {l : List Opd} : LOp.plain (.minmax b l) = true := (rfl)
@[go_sem] theorem pl_rng {x : Opd} : LOp.plain (.rng x) = true := (rfl)
@[go_sem] theorem pl_nxt {x : Opd} : LOp.plain (.nxt x) = true := (rfl)
def WGuard (v : Val) (b : Bool) (yes no : Prop) : Prop :=
 match v with
 | .bool b' => if (b' == b) = true then yes else no
 | .tup [] => no
 | _ => False
@[congr] theorem guard_congr {v v' : Val} {b : Bool} {yes no : Prop} (h : v = v') : WGuard v b yes no = WGuard v' b yes no := by rw [h]
@[go_sem] theorem w_guard {t : Nat} {b : Bool} {op : LOp} : WOps L (⟨dst,op,some (t,b)⟩ :: l) ⟨fr,en,cnt⟩ Q =
  WGuard (fr t) b (WOps L (⟨dst,op,none⟩ :: l) ⟨fr,en,cnt⟩ Q) (WOps L l ⟨putFr fr dst (.tup []),en,cnt⟩ Q) := by
 simp only [WOps,WStep,wanted,WGuard]
 split <;> rename_i h
 ·split at h
  ·rename_i b' hb; simp only [Option.some.injEq] at h; simp only [hb,h,if_true]
  ·cases h
  ·cases h
 ·split at h
  ·rename_i b' hb; simp only [Option.some.injEq] at h; simp only [hb,h,Bool.false_eq_true,if_false]
  ·rename_i hb; simp only [hb]
  ·cases h
 ·split at h
  ·cases h
  ·cases h
  ·rename_i h1 h2
   split
   ·rename_i b' hb; exact absurd hb (h1 _)
   ·rename_i hb; exact absurd hb h2
   ·rfl
@[go_sem] theorem guard_tt {yes no : Prop} : WGuard (.bool true) true yes no = yes := (rfl)
@[go_sem] theorem guard_ff {yes no : Prop} : WGuard (.bool false) false yes no = yes := (rfl)
@[go_sem] theorem guard_tf {yes no : Prop} : WGuard (.bool true) false yes no = no := (rfl)
@[go_sem] theorem guard_ft {yes no : Prop} : WGuard (.bool false) true yes no = no := (rfl)
@[go_sem] theorem guard_un {yes no : Prop} {b : Bool} : WGuard (.tup []) b yes no = no := (rfl)
theorem guard_split {b b' : Bool} {yes no : Prop} (h : b = b' → yes) (k : b = !b' → no) : WGuard (.bool b) b' yes no := by
 cases b <;> cases b' <;> first | exact h rfl | exact k rfl
@[congr] theorem win_congr {f : Val} {a : List Val} {K : Val → En → (Nat → Nat → Nat) → Prop} {f' : Val} {a' : List Val} (h : f = f') (h' : a = a') : WIn L f a en cnt K = WIn L f' a' en cnt K := by rw [h,h']
@[go_sem] theorem w_icall {f : Opd} {args : List Opd} : WOps L (⟨dst,.icall f args,none⟩ :: l) ⟨fr,en,cnt⟩ Q =
  WIn L (St.get fr f) (args.map (St.get fr)) en cnt fun v en' cnt' => WOps L l ⟨putFr fr dst v,en',cnt'⟩ Q := (rfl)
def WRet (L : Prog) (f : Nat) (args : List Val) (K : Val → Prop) : Prop := ∃ r,PC L f args r ∧ K r
@[congr] theorem wret_congr {f : Nat} {a a' : List Val} {K : Val → Prop} (h : a = a') : WRet L f a K = WRet L f a' K := by rw [h]
theorem _root_.Go.Abs.PC.ret {L : Prog} {f : Nat} {args : List Val} {r : Val} (h : PC L f args r) {K : Val → Prop} : WRet L f args K = K r :=
 propext ⟨fun ⟨s,h1,h2⟩ => h.det h1 ▸ h2,fun h2 => ⟨r,h,h2⟩⟩
def WSnap (L : Prog) (f : Nat) (o : Option (List (Val × List Key))) (K : Val → List Key → Prop) : Prop :=
 match o with
 | some rs => WRet L f (rs.map (·.1.wk1)) fun r => K r (rs.flatMap (·.2))
 | none => False
@[congr] theorem wsnap_congr {f : Nat} {o o' : Option (List (Val × List Key))} {K : Val → List Key → Prop} (h : o = o') : WSnap L f o K = WSnap L f o' K := by rw [h]
@[go_sem] theorem wsnap {f : Nat} {rs : List (Val × List Key)} {K : Val → List Key → Prop} : WSnap L f (some rs) K = WRet L f (rs.map (·.1.wk1)) fun r => K r (rs.flatMap (·.2)) := (rfl)
def WCall (L : Prog) (en : En) (f : Val) (args : List Val) (K : Val → List Key → Prop) : Prop :=
 match f with
 | .fn f a b => WSnap L f (mapO (snapD 8 en) (a ++ args ++ b)) K
 | _ => False
@[congr] theorem wcall_congr {f f' : Val} {a a' : List Val} {K : Val → List Key → Prop} (h : f = f') (h' : a = a') : WCall L en f a K = WCall L en f' a' K := by rw [h,h']
@[go_sem] theorem w_call {f : Opd} {args : List Opd} : WOps L (⟨dst,.call f args,none⟩ :: l) ⟨fr,en,cnt⟩ Q =
  WCall L en (St.get fr f) (args.map (St.get fr)) fun r ks => WPut L l dst fr en cnt Q (some (callRes 0 (dst.getD 0) (cnt 0 (dst.getD 0)) r ks)) := by
 simp only [WOps,WStep,wanted,WOp,WCall,WSnap,WRet]
 cases St.get fr f <;> first | rfl | skip
@[go_sem] theorem wcall {f : Nat} {a b args : List Val} {K : Val → List Key → Prop} : WCall L en (.fn f a b) args K = WSnap L f (mapO (snapD 8 en) (a ++ args ++ b)) K := (rfl)
def isOwnV : Val → Bool
 | .own _ _ => true
 | _ => false
@[go_sem] theorem callRes_own {me d g sz : Nat} {xs : List Val} {ks : List Key} : callRes me d g (.own sz xs) ks =
  { v := .bl ⟨me,d,g⟩ 0 xs.length,ws := (if xs.all Val.flat1 then [] else ks.map .frz) ++ [.ent ⟨me,d,g⟩ (some (.blk sz xs false))],rs := ks.map .val,bump := true } := (rfl)
@[go_sem] theorem callRes_not {me d g : Nat} {v : Val} {ks : List Key} (h : isOwnV v = false) : callRes me d g v ks = { v,ws := if v.flat then [] else ks.map .frz,rs := ks.map .val } := by
 cases v <;> first | rfl | cases h
section
variable {k : IntKind} {i : Int} {b : Bool} {x : ByteArray} {xs ys : List Val} {m : Nat}
@[go_sem] theorem no_int : isOwnV (.int k i) = false := (rfl)
@[go_sem] theorem no_bool : isOwnV (.bool b) = false := (rfl)
@[go_sem] theorem no_str : isOwnV (.str x) = false := (rfl)
@[go_sem] theorem no_fz : isOwnV (.fz xs) = false := (rfl)
@[go_sem] theorem no_cl : isOwnV (.cl xs) = false := (rfl)
@[go_sem] theorem no_agg : isOwnV (.agg xs) = false := (rfl)
@[go_sem] theorem no_tup : isOwnV (.tup xs) = false := (rfl)
@[go_sem] theorem no_fp : isOwnV (.fp xs m) = false := (rfl)
@[go_sem] theorem no_fn : isOwnV (.fn m xs ys) = false := (rfl)
@[go_sem] theorem no_nili : isOwnV .nili = false := (rfl)
@[go_sem] theorem no_ifc {v : Val} : isOwnV (.ifc m v) = false := (rfl)
end
@[go_sem] theorem mapO_nil {α β : Type} {f : α → Option β} : mapO f [] = some [] := (rfl)
@[go_sem] theorem mapO_cons {α β : Type} {f : α → Option β} {x : α} {xs : List α} : mapO f (x :: xs) = (match f x with | some y => (match mapO f xs with | some ys => some (y :: ys) | none => none) | none => none) := (rfl)
@[go_sem] theorem ofCells_t {cs : List Val} : ofCells true cs = some (.agg cs) := (rfl)
@[go_sem] theorem ofCells_f {v : Val} : ofCells false [v] = some v := (rfl)
attribute [go_sem] o og on ong
def cellAt (cs : List Val) (off : Nat) : Option Val := cs[off]?
@[go_sem] theorem cellAt_z {v : Val} {cs : List Val} : cellAt (v :: cs) 0 = some v := (rfl)
@[go_sem] theorem cellAt_s {v : Val} {cs : List Val} {n : Nat} : cellAt (v :: cs) (n + 1) = cellAt cs n := (rfl)
section
variable {g : Nat} {get : Opd → Val}
@[go_sem] theorem ev_mv {x : Opd} : evalW d g en get (.mv x) = some { v := get x } := (rfl)
def opPick (c a b : Val) : Option Res := match c with | .bool t => some { v := if t then a else b } | _ => none
@[go_sem] theorem ev_pick {c a b : Opd} : evalW d g en get (.pick c a b) = opPick (get c) (get a) (get b) := (rfl)
@[go_sem] theorem pick_t {a b : Val} : opPick (.bool true) a b = some { v := a } := (rfl)
@[go_sem] theorem pick_f {a b : Val} : opPick (.bool false) a b = some { v := b } := (rfl)
@[go_sem] theorem pick_b {t a b : Bool} : opPick (.bool t) (.bool a) (.bool b) = some { v := .bool (if t then a else b) } := by cases t <;> rfl
@[go_sem] theorem ev_alloc {z : List Val} : evalW d g en get (.alloc z) = some { v := .ptr ⟨0,d,g⟩ 0,ws := [.ent ⟨0,d,g⟩ (some (.box z false))],bump := true } := (rfl)
def opBox (d g m : Nat) (x : Val) : Option Res := if x.one = true ∧ x.cells.length = m then some { v := .ptr ⟨0,d,g⟩ 0,ws := [.ent ⟨0,d,g⟩ (some (.box x.cells false))],bump := true } else none
@[go_sem] theorem ev_box {m : Nat} {x : Opd} : evalW d g en get (.box m x) = opBox d g m (get x) := (rfl)
@[go_sem] theorem box_agg {m : Nat} {cs : List Val} (h : cs.length = m) : opBox d g m (.agg cs) = some { v := .ptr ⟨0,d,g⟩ 0,ws := [.ent ⟨0,d,g⟩ (some (.box cs false))],bump := true } := by simp [opBox,Val.one,Val.cells,h]
@[go_sem] theorem box_int {k : IntKind} {n : Int} : opBox d g 1 (.int k n) = some { v := .ptr ⟨0,d,g⟩ 0,ws := [.ent ⟨0,d,g⟩ (some (.box [.int k n] false))],bump := true } := by simp [opBox,Val.one,Val.cells]
@[go_sem] theorem box_bool {b : Bool} : opBox d g 1 (.bool b) = some { v := .ptr ⟨0,d,g⟩ 0,ws := [.ent ⟨0,d,g⟩ (some (.box [.bool b] false))],bump := true } := by simp [opBox,Val.one,Val.cells]
@[go_sem] theorem box_str {b : ByteArray} : opBox d g 1 (.str b) = some { v := .ptr ⟨0,d,g⟩ 0,ws := [.ent ⟨0,d,g⟩ (some (.box [.str b] false))],bump := true } := by simp [opBox,Val.one,Val.cells]
@[go_sem] theorem box_fz {xs : List Val} : opBox d g 1 (.fz xs) = some { v := .ptr ⟨0,d,g⟩ 0,ws := [.ent ⟨0,d,g⟩ (some (.box [.fz xs] false))],bump := true } := by simp [opBox,Val.one,Val.cells]
@[go_sem] theorem box_fp {xs : List Val} {i : Nat} : opBox d g 1 (.fp xs i) = some { v := .ptr ⟨0,d,g⟩ 0,ws := [.ent ⟨0,d,g⟩ (some (.box [.fp xs i] false))],bump := true } := by simp [opBox,Val.one,Val.cells]
@[go_sem] theorem box_ptr {k : Key} {i : Nat} : opBox d g 1 (.ptr k i) = some { v := .ptr ⟨0,d,g⟩ 0,ws := [.ent ⟨0,d,g⟩ (some (.box [.ptr k i] false))],bump := true } := by simp [opBox,Val.one,Val.cells]
@[go_sem] theorem box_fn {f : Nat} {a b : List Val} : opBox d g 1 (.fn f a b) = some { v := .ptr ⟨0,d,g⟩ 0,ws := [.ent ⟨0,d,g⟩ (some (.box [.fn f a b] false))],bump := true } := by simp [opBox,Val.one,Val.cells]
@[go_sem] theorem ev_build {z : List Val} {ps : List (Nat × Nat × Opd)} : evalW d g en get (.build z ps) = (fillIn z (ps.map fun p => (p.1,p.2.1,get p.2.2))).map fun cs => { v := .agg cs } := (rfl)
@[go_sem] theorem ev_load {agg : Bool} {m : Nat} {a : Opd} : evalW d g en get (.load agg m a) = (match readAt en (get a) m with | some (cs,rs) => (ofCells agg cs).map fun v => { v,rs } | none => none) := (rfl)
@[go_sem] theorem ev_bin {op : BinOp} {t : EqT} {x y : Opd} : evalW d g en get (.bin op t x y) = (binVal op t (get x) (get y)).map fun v => { v } := (rfl)
def opNot (x : Val) : Option Res := match x with | .bool b => some { v := .bool !b } | _ => none
def opNeg (x : Val) : Option Res := match x with | .int k a => some { v := .int k (k.wrap (0 - a)) } | _ => none
@[go_sem] theorem ev_not {x : Opd} : evalW d g en get (.un .not x) = opNot (get x) := by
 simp only [evalW,eval,opNot]; cases get x <;> rfl
@[go_sem] theorem ev_neg {x : Opd} : evalW d g en get (.un .neg x) = opNeg (get x) := by
 simp only [evalW,eval,opNeg]; cases get x <;> rfl
@[go_sem] theorem not_b {b : Bool} : opNot (.bool b) = some { v := .bool !b } := (rfl)
@[go_sem] theorem neg_i {k : IntKind} {a : Int} : opNeg (.int k a) = some { v := .int k (k.wrap (0 - a)) } := (rfl)
def opWrap (k : IntKind) (x : Val) : Option Res := match x with | .int _ a => some { v := .int k (k.wrap a) } | _ => none
@[go_sem] theorem ev_wrap {k : IntKind} {x : Opd} : evalW d g en get (.wrap k x) = opWrap k (get x) := (rfl)
@[go_sem] theorem wrap_i {k j : IntKind} {a : Int} : opWrap k (.int j a) = some { v := .int k (k.wrap a) } := (rfl)
@[go_sem] theorem ev_iface {t : Nat} {x : Opd} : evalW d g en get (.iface t x) = if (get x).one = true then some { v := .ifc t (get x) } else none := (rfl)
def opAssert (t : Nat) (z : Val) (ok : Bool) (x : Val) : Option Res := match x with
 | .ifc t' v => if t' = t then some { v := if ok then .tup [v,.bool true] else v } else if ok then some { v := .tup [z,.bool false] } else none
 | .nili => if ok then some { v := .tup [z,.bool false] } else none
 | _ => none
@[go_sem] theorem ev_assert {t : Nat} {z : Val} {ok : Bool} {x : Opd} : evalW d g en get (.assert t z ok x) = opAssert t z ok (get x) := (rfl)
@[go_sem] theorem assert_ifc {t t' : Nat} {z v : Val} : opAssert t z true (.ifc t' v) = some { v := if t' = t then .tup [v,.bool true] else .tup [z,.bool false] } := by
 simp only [opAssert]; split <;> simp
@[go_sem] theorem assert_nil {t : Nat} {z : Val} : opAssert t z true .nili = some { v := .tup [z,.bool false] } := (rfl)
@[go_sem] theorem ev_mkfn {f : Nat} {a b : List Opd} : evalW d g en get (.mkfn f a b) = some { v := .fn f (a.map get) (b.map get) } := (rfl)
@[go_sem] theorem ev_mkmap : evalW d g en get .mkmap = some { v := .mp ⟨0,d,g⟩,ws := [.ent ⟨0,d,g⟩ (some (.map [] [] false))],bump := true } := (rfl)
def opLen (t : EqT) (en : En) (x : Val) : Option Res := match t with
  | .map => match x with
   | .mp key => match en key with
    | some (.map ks _ _) => some { v := .int .i64 ks.length,rs := [.val key] }
    | _ => none
   | .fm ks _ => some { v := .int .i64 ks.length }
   | .nilm => some { v := .int .i64 0 }
   | _ => none
  | .str => match x with
   | .str s => some { v := .int .i64 s.size }
   | _ => none
  | .slice => (lenOf x).map fun m => { v := .int .i64 m }
  | .func => match x with
   | .cl xs => some { v := .int .i64 xs.length }
   | _ => none
  | _ => none
@[go_sem] theorem ev_len {t : EqT} {x : Opd} : evalW d g en get (.len t x) = opLen t en (get x) := (rfl)
@[go_sem] theorem len_s {x : Val} : opLen .slice en x = (lenOf x).map fun (m : Nat) => { v := .int .i64 (m : Int) } := by simp only [opLen]; cases lenOf x <;> rfl
@[go_sem] theorem len_str {s : ByteArray} : opLen .str en (.str s) = some { v := .int .i64 s.size } := (rfl)
@[go_sem] theorem len_cap {xs : List Val} : opLen .func en (.cl xs) = some { v := .int .i64 xs.length } := (rfl)
@[go_sem] theorem len_nilm : opLen .map en .nilm = some { v := .int .i64 0 } := (rfl)
@[go_sem] theorem len_fm {ks vs : List Val} : opLen .map en (.fm ks vs) = some { v := .int .i64 ks.length } := (rfl)
@[go_sem] theorem lenOf_fz {xs : List Val} : lenOf (.fz xs) = some xs.length := (rfl)
@[go_sem] theorem lenOf_cl {xs : List Val} : lenOf (.cl xs) = some xs.length := (rfl)
@[go_sem] theorem lenOf_bl {k : Key} {o n : Nat} : lenOf (.bl k o n) = some n := (rfl)
def opExt (i : Nat) (x : Val) : Option Res := match x with | .tup vs => (vs[i]?).map fun v => { v } | _ => none
@[go_sem] theorem ev_ext {i : Nat} {x : Opd} : evalW d g en get (.ext i x) = opExt i (get x) := (rfl)
@[go_sem] theorem ext_tup {i : Nat} {vs : List Val} : opExt i (.tup vs) = (cellAt vs i).map fun v => { v } := (rfl)
def opFa (off : Nat) (x : Val) : Option Res := match x with
  | .fp cs o => some { v := .fp cs (o + off) }
  | .ptr k o => some { v := .ptr k (o + off) }
  | .ep k i o => some { v := .ep k i (o + off) }
  | _ => none
@[go_sem] theorem ev_fa {off : Nat} {x : Opd} : evalW d g en get (.fa off x) = opFa off (get x) := (rfl)
@[go_sem] theorem fa_fp {off o : Nat} {cs : List Val} : opFa off (.fp cs o) = some { v := .fp cs (o + off) } := (rfl)
@[go_sem] theorem fa_ptr {off o : Nat} {k : Key} : opFa off (.ptr k o) = some { v := .ptr k (o + off) } := (rfl)
@[go_sem] theorem fa_ep {off o i : Nat} {k : Key} : opFa off (.ep k i o) = some { v := .ep k i (o + off) } := (rfl)
def opIa (size : Nat) (en : En) (x i : Val) : Option Res := match i with
  | .int _ j =>
   match x with
   | .fz xs | .cl xs => if 0 ≤ j then match xs[j.toNat]? with
     | some y => if y.cells.length = size then some { v := .fp y.cells 0 } else none
     | none => none else none
   | .bl k off len => match en k with
    | some (.blk sz _ _) => if 0 ≤ j ∧ j < len ∧ sz = size then some { v := .ep k (off + j.toNat) 0,rs := [.val k] } else none
    | _ => none
   | _ => none
  | _ => none
@[go_sem] theorem ev_ia {size : Nat} {x i : Opd} : evalW d g en get (.ia size x i) = opIa size en (get x) (get i) := by
 simp only [evalW,eval,opIa]; cases get i <;> rfl
theorem ia_at {size : Nat} {xs : List Val} {k : IntKind} {j : Nat} {y : Val} (h : xs[j]? = some y) (hs : y.cells.length = size) : opIa size en (.fz xs) (.int k j) = some { v := .fp y.cells 0 } := by
 simp [opIa,h,hs]
@[go_sem] theorem ia_map {α : Type} {f : α → Val} {size : Nat} {l : List α} {k : IntKind} {j : Nat} (h : j < l.length) (hs : ((f l[j]).cells.length == size) = true) : opIa size en (.fz (l.map f)) (.int k j) = some { v := .fp (f l[j]).cells 0 } :=
 ia_at (by simp [h]) (by simpa using hs)
@[go_sem] theorem ev_bslice {len size : Nat} {z : List Val} {ps : List (Nat × Opd)} : evalW d g en get (.bslice len size z ps) =
  if len * size ≤ 16777216 then
   match mapO (fun p => match snapD 8 en (get p.2) with | some r => some ((p.1,r.1.wk1),r.2) | none => none) ps with
   | some ps => match fillElems (List.replicate len (ofZero size z false)) size (ps.map (·.1)) with
    | some xs => some { v := .cl xs,ws := (ps.flatMap (·.2)).map .frz,rs := (ps.flatMap (·.2)).map .val }
    | none => none
   | none => none
  else none := (rfl)
def opZ (d g size : Nat) (z : List Val) (x y : Val) : Option Res := match x,y with
  | .cl [],.int .i64 m => if 0 < m ∧ m ≤ 16777216 then
    some { v := .bl ⟨0,d,g⟩ 0 m.toNat,ws := [.ent ⟨0,d,g⟩ (some (.blk size (List.replicate m.toNat (ofZero size z false)) false))],bump := true } else none
  | _,_ => none
@[go_sem] theorem ev_appendZ {size : Nat} {z : List Val} {x y : Opd} : evalW d g en get (.appendZ size z x y) = opZ d g size z (get x) (get y) := (rfl)
def opMinmax (mx : Bool) (xs : List Val) : Option Res := match xs with
  | [.int j a,.int k b] => if j = k then some { v := .int j (if mx then (if b > a then b else a) else (if b < a then b else a)) } else none
  | _ => none
@[go_sem] theorem ev_minmax {mx : Bool} {xs : List Opd} : evalW d g en get (.minmax mx xs) = opMinmax mx (xs.map get) := (rfl)
@[go_sem] theorem max_i {k : IntKind} {a b : Int} : opMinmax true [.int k a,.int k b] = some { v := .int k (max a b) } := by
 simp only [opMinmax,if_true,Option.some.injEq,Res.mk.injEq,Val.int.injEq,true_and,and_true]; omega
@[go_sem] theorem min_i {k : IntKind} {a b : Int} : opMinmax false [.int k a,.int k b] = some { v := .int k (min a b) } := by
 simp only [opMinmax,if_true,Bool.false_eq_true,if_false,Option.some.injEq,Res.mk.injEq,Val.int.injEq,true_and,and_true]; omega
def opNilck (x : Val) : Option Res := match x with
  | .fp cs off => some { v := .fp cs off }
  | .ptr k off => some { v := .ptr k off }
  | .ep k i off => some { v := .ep k i off }
  | .fn f a b => some { v := .fn f a b }
  | .ifc t v => some { v := .ifc t v }
  | _ => none
@[go_sem] theorem ev_nilck {x : Opd} : evalW d g en get (.nilck x) = opNilck (get x) := (rfl)
@[go_sem] theorem nilck_fp {cs : List Val} {o : Nat} : opNilck (.fp cs o) = some { v := .fp cs o } := (rfl)
@[go_sem] theorem nilck_ptr {k : Key} {o : Nat} : opNilck (.ptr k o) = some { v := .ptr k o } := (rfl)
@[go_sem] theorem nilck_fn {f : Nat} {a b : List Val} : opNilck (.fn f a b) = some { v := .fn f a b } := (rfl)
@[go_sem] theorem nilck_ifc {t : Nat} {v : Val} : opNilck (.ifc t v) = some { v := .ifc t v } := (rfl)
end
@[go_sem] theorem fillE_nil {xs : List Val} {size : Nat} : fillElems xs size [] = some xs := (rfl)
@[go_sem] theorem fillE_cons {xs : List Val} {size i : Nat} {v : Val} {rest : List (Nat × Val)} (h1 : v.one = true) (h2 : v.cells.length = size) (h3 : i < xs.length) : fillElems xs size ((i,v) :: rest) = fillElems (xs.set i v) size rest := by
 simp only [fillElems,h1,h2,h3,and_self,if_true]
@[go_sem] theorem rep_0 {z : Val} : List.replicate 0 z = [] := (rfl)
@[go_sem] theorem rep_1 {z : Val} : List.replicate 1 z = [z] := (rfl)
@[go_sem] theorem rep_2 {z : Val} : List.replicate 2 z = [z,z] := (rfl)
@[go_sem] theorem rep_3 {z : Val} : List.replicate 3 z = [z,z,z] := (rfl)
@[go_sem] theorem rep_4 {z : Val} : List.replicate 4 z = [z,z,z,z] := (rfl)
@[go_sem] theorem rep_5 {z : Val} : List.replicate 5 z = [z,z,z,z,z] := (rfl)
@[go_sem] theorem fill_nil {cs : List Val} : fillIn cs [] = some cs := (rfl)
@[go_sem] theorem fill_cons {cs : List Val} {off size : Nat} {v : Val} {rest : List (Nat × Nat × Val)} (h1 : v.one = true) (h2 : v.cells.length = size) (h3 : off + size ≤ cs.length) : fillIn cs ((off,size,v) :: rest) = fillIn (setCells cs off v.cells) rest := by
 simp only [fillIn,h1,h2,h3,and_self,if_true]
@[go_sem] theorem set_nil {cs : List Val} {off : Nat} : setCells cs off [] = cs := (rfl)
@[go_sem] theorem set_cons {cs : List Val} {off : Nat} {v : Val} {vs : List Val} : setCells cs off (v :: vs) = setCells (cs.set off v) (off + 1) vs := (rfl)
attribute [go_sem] List.set_cons_zero List.set_cons_succ
@[go_sem] theorem ia_lit {size : Nat} {xs : List Val} {k : IntKind} {j : Int} : opIa size en (.cl xs) (.int k j) = if 0 ≤ j then (match cellAt xs j.toNat with | some y => if y.cells.length = size then some { v := .fp y.cells 0 } else none | none => none) else none := (rfl)
section
variable {k : IntKind} {a b : Int}
@[go_sem] theorem bin_add : binVal .add .num (.int k a) (.int k b) = some (.int k (k.wrap (a + b))) := by simp [binVal,binInt]
@[go_sem] theorem bin_sub : binVal .sub .num (.int k a) (.int k b) = some (.int k (k.wrap (a - b))) := by simp [binVal,binInt]
@[go_sem] theorem bin_mul : binVal .mul .num (.int k a) (.int k b) = some (.int k (k.wrap (a * b))) := by simp [binVal,binInt]
@[go_sem] theorem bin_quo : binVal .quo .num (.int k a) (.int k b) = if b = 0 then none else some (.int k (k.wrap (a.tdiv b))) := by simp [binVal,binInt]
@[go_sem] theorem bin_rem : binVal .rem .num (.int k a) (.int k b) = if b = 0 then none else some (.int k (a.tmod b)) := by simp [binVal,binInt]
@[go_sem] theorem bin_lss : binVal .lss .num (.int k a) (.int k b) = some (.bool (decide (a < b))) := by simp [binVal,binInt]
@[go_sem] theorem bin_leq : binVal .leq .num (.int k a) (.int k b) = some (.bool (decide (a ≤ b))) := by simp [binVal,binInt]
@[go_sem] theorem bin_gtr : binVal .gtr .num (.int k a) (.int k b) = some (.bool (decide (b < a))) := by simp [binVal,binInt]
@[go_sem] theorem bin_geq : binVal .geq .num (.int k a) (.int k b) = some (.bool (decide (b ≤ a))) := by simp [binVal,binInt]
@[go_sem] theorem bin_eql : binVal .eql .num (.int k a) (.int k b) = some (.bool (decide (a = b))) := by
 simp only [binVal,eqVal,if_true,Option.map_some]; congr 2
@[go_sem] theorem bin_neq : binVal .neq .num (.int k a) (.int k b) = some (.bool (!decide (a = b))) := by
 simp only [binVal,eqVal,if_true,Option.map_some]; congr 3
@[go_sem] theorem bin_eqb {x y : Bool} : binVal .eql .bool (.bool x) (.bool y) = some (.bool (x == y)) := (rfl)
@[go_sem] theorem bin_neb {x y : Bool} : binVal .neq .bool (.bool x) (.bool y) = some (.bool (!(x == y))) := (rfl)
@[go_sem] theorem bin_eqs {x y : ByteArray} : binVal .eql .str (.str x) (.str y) = some (.bool (x.toList == y.toList)) := (rfl)
@[go_sem] theorem bin_nes {x y : ByteArray} : binVal .neq .str (.str x) (.str y) = some (.bool (!(x.toList == y.toList))) := (rfl)
end
@[go_sem] theorem applyAll_nil : W.applyAll en [] = en := (rfl)
@[go_sem] theorem applyAll_cons {w : W} {ws : List W} : W.applyAll en (w :: ws) = W.applyAll (w.apply en) ws := (rfl)
@[go_sem] theorem apply_ent {k : Key} {e : Option Ent} : (W.ent k e).apply en = en.set k e := (rfl)
theorem take1 (cs : List Val) (off : Nat) : (if off + 1 ≤ cs.length then some ((cs.drop off).take 1) else none) = (cs[off]?).map fun v => [v] := by
 by_cases h : off < cs.length
 ·rw [if_pos (by omega),List.getElem?_eq_getElem h,List.drop_eq_getElem_cons h]; rfl
 ·rw [if_neg (by omega),List.getElem?_eq_none (by omega)]; rfl
theorem read1 (cs : List Val) (off : Nat) (rs : List R) : (if off + 1 ≤ cs.length then some ((cs.drop off).take 1,rs) else none) = (cellAt cs off).map fun v => ([v],rs) := by
 have := take1 cs off
 unfold cellAt
 by_cases h : off + 1 ≤ cs.length
 ·rw [if_pos h] at this ⊢; cases hc : cs[off]? with
  | none => rw [hc] at this; cases this
  | some v => rw [hc] at this; simp only [Option.map,Option.some.injEq] at this ⊢; rw [this]
 ·rw [if_neg h] at this ⊢; cases hc : cs[off]? with
  | none => rfl
  | some v => rw [hc] at this; cases this
@[go_sem] theorem read_fp1 {cs : List Val} {off : Nat} : readAt en (.fp cs off) 1 = (cellAt cs off).map fun v => ([v],[]) := read1 cs off []
@[go_sem] theorem read_ptr {k : Key} {off n : Nat} : readAt en (.ptr k off) n = (match en k with | some (.box cs _) => if off + n ≤ cs.length then some ((cs.drop off).take n,[.cells k off n]) else none | _ => none) := (rfl)
@[go_sem] theorem read_fp {cs : List Val} {off n : Nat} : readAt en (.fp cs off) n = if off + n ≤ cs.length then some ((cs.drop off).take n,[]) else none := (rfl)
@[go_sem] theorem opt_map_some {α β : Type} {f : α → β} {x : α} : (some x).map f = some (f x) := (rfl)
@[go_sem] theorem opt_map_none {α β : Type} {f : α → β} : (none : Option α).map f = none := (rfl)
attribute [go_sem] List.drop_zero List.drop_succ_cons List.take_zero List.take_succ_cons List.length_cons List.length_nil List.take_nil List.drop_nil
section
variable {st : St} {R : Ex → St → Prop}
@[congr] theorem wp_congr {c : LCode} : Wp L c st R = Wp L c st R := (rfl)
@[go_sem] theorem wp_start {c : LCode} {args : List Val} : Wp L c (start args) R = Wp L c ⟨fun i => args.getD i (.tup []),fun _ => none,fun _ _ => 0⟩ R := (rfl)
@[go_sem] theorem wp_skip : Wp L .skip st R = R .normal st := (rfl)
@[go_sem] theorem wp_ops {l : List LOper} : Wp L (.ops l) st R = WOps L l st (R .normal) := (rfl)
@[go_sem] theorem wp_draw {l : List LOper} : Wp L (.draw l []) st R = WOps L l st (R .normal) := by simp [Wp]
theorem qW {a b : LCode} : Wp L (.seq a b) st R = Wp L a st fun e st' => match e with
  | .normal => Wp L b st' R
  | .exit i => R (.exit i) st'
  | .ret => R .ret st'
  | .panic v => R (.panic v) st' := (rfl)
def WCond (v : Val) (a b : Prop) : Prop := match v with | .bool t => if t = true then a else b | _ => False
@[go_sem] theorem wp_cond {x : Opd} {a b : LCode} : Wp L (.cond x a b) ⟨fr,en,cnt⟩ R = WCond (St.get fr x) (Wp L a ⟨fr,en,cnt⟩ R) (Wp L b ⟨fr,en,cnt⟩ R) := (rfl)
@[congr] theorem wcond_congr {v v' : Val} {a b : Prop} (h : v = v') : WCond v a b = WCond v' a b := by rw [h]
@[go_sem] theorem wcond_t {a b : Prop} : WCond (.bool true) a b = a := (rfl)
@[go_sem] theorem wcond_f {a b : Prop} : WCond (.bool false) a b = b := (rfl)
theorem wcond_split {t : Bool} {a b : Prop} (h : t = true → a) (k : t = false → b) : WCond (.bool t) a b := by cases t <;> first | exact h rfl | exact k rfl
@[go_sem] theorem wp_block {id : Nat} {b : LCode} : Wp L (.block id b) st R = Wp L b st fun e st' => match e with
  | .exit id' => if id' = id then R .normal st' else R (.exit id') st'
  | .normal => R .normal st'
  | .ret => R .ret st'
  | .panic v => R (.panic v) st' := (rfl)
@[go_sem] theorem calm_n : Ex.calm .normal = true := (rfl)
@[go_sem] theorem calm_r : Ex.calm .ret = true := (rfl)
@[go_sem] theorem calm_e {id : Nat} : Ex.calm (.exit id) = true := (rfl)
@[go_sem] theorem wp_exit {id : Nat} : Wp L (.exit id) st R = R (.exit id) st := (rfl)
@[go_sem] theorem wp_ret : Wp L .ret st R = R .ret st := (rfl)
end
attribute [go_sem] Ex.ends WRes readRes tupOf ownOf and_true List.getD_cons_zero List.getD_cons_succ List.getD_nil List.map_cons List.map_nil List.append_nil List.nil_append List.cons_append List.flatMap_cons List.flatMap_nil
 not_false_eq_true not_true_eq_false ne_eq Option.map_some List.all_cons List.all_nil true_and and_true Bool.and_true Bool.true_and Bool.and_false Bool.false_and if_true if_false Bool.false_eq_true Bool.not_true Bool.not_false Nat.zero_add Nat.add_zero
section
variable {k : IntKind} {i : Int} {b : Bool} {x : ByteArray} {xs ys : List Val} {m : Nat}
@[go_sem] theorem wk_int : Val.wk (.int k i) = .int k i := (rfl)
@[go_sem] theorem wk_bool : Val.wk (.bool b) = .bool b := (rfl)
@[go_sem] theorem wk_str : Val.wk (.str x) = .str x := (rfl)
@[go_sem] theorem wk_fz : Val.wk (.fz xs) = .fz xs := (rfl)
@[go_sem] theorem wk_cl : Val.wk (.cl xs) = .fz xs := (rfl)
@[go_sem] theorem wk_fp : Val.wk (.fp xs m) = .fp xs m := (rfl)
@[go_sem] theorem wk_fn : Val.wk (.fn m xs ys) = .fn m xs ys := (rfl)
@[go_sem] theorem wk_nili : Val.wk .nili = .nili := (rfl)
@[go_sem] theorem wk_nilp : Val.wk .nilp = .nilp := (rfl)
@[go_sem] theorem wk_ifc {v : Val} : Val.wk (.ifc m v) = .ifc m v := (rfl)
@[go_sem] theorem wk_fm : Val.wk (.fm xs ys) = .fm xs ys := (rfl)
@[go_sem] theorem wk_agg : Val.wk (.agg xs) = .agg (xs.map Val.wk0) := (rfl)
@[go_sem] theorem wk_tup : Val.wk (.tup xs) = .tup (xs.map Val.wk1) := (rfl)
@[go_sem] theorem wk1_int : Val.wk1 (.int k i) = .int k i := (rfl)
@[go_sem] theorem wk1_bool : Val.wk1 (.bool b) = .bool b := (rfl)
@[go_sem] theorem wk1_str : Val.wk1 (.str x) = .str x := (rfl)
@[go_sem] theorem wk1_fz : Val.wk1 (.fz xs) = .fz xs := (rfl)
@[go_sem] theorem wk1_cl : Val.wk1 (.cl xs) = .fz xs := (rfl)
@[go_sem] theorem wk1_fp : Val.wk1 (.fp xs m) = .fp xs m := (rfl)
@[go_sem] theorem wk1_fn : Val.wk1 (.fn m xs ys) = .fn m xs ys := (rfl)
@[go_sem] theorem wk1_nili : Val.wk1 .nili = .nili := (rfl)
@[go_sem] theorem wk1_nilp : Val.wk1 .nilp = .nilp := (rfl)
@[go_sem] theorem wk1_nilm : Val.wk1 .nilm = .nilm := (rfl)
@[go_sem] theorem wk1_ifc {v : Val} : Val.wk1 (.ifc m v) = .ifc m v := (rfl)
@[go_sem] theorem wk1_fm : Val.wk1 (.fm xs ys) = .fm xs ys := (rfl)
@[go_sem] theorem wk1_agg : Val.wk1 (.agg xs) = .agg (xs.map Val.wk0) := (rfl)
@[go_sem] theorem wk0_int : Val.wk0 (.int k i) = .int k i := (rfl)
@[go_sem] theorem wk0_bool : Val.wk0 (.bool b) = .bool b := (rfl)
@[go_sem] theorem wk0_str : Val.wk0 (.str x) = .str x := (rfl)
@[go_sem] theorem wk0_fz : Val.wk0 (.fz xs) = .fz xs := (rfl)
@[go_sem] theorem wk0_cl : Val.wk0 (.cl xs) = .fz xs := (rfl)
@[go_sem] theorem wk0_fp : Val.wk0 (.fp xs m) = .fp xs m := (rfl)
@[go_sem] theorem wk0_fn : Val.wk0 (.fn m xs ys) = .fn m xs ys := (rfl)
@[go_sem] theorem wk0_nili : Val.wk0 .nili = .nili := (rfl)
@[go_sem] theorem wk0_nilp : Val.wk0 .nilp = .nilp := (rfl)
@[go_sem] theorem wk0_ifc {v : Val} : Val.wk0 (.ifc m v) = .ifc m v := (rfl)
@[go_sem] theorem flat_int : Val.flat (.int k i) = true := (rfl)
@[go_sem] theorem flat_bool : Val.flat (.bool b) = true := (rfl)
@[go_sem] theorem flat_str : Val.flat (.str x) = true := (rfl)
@[go_sem] theorem cells_agg : Val.cells (.agg xs) = xs := (rfl)
@[go_sem] theorem cells_int : Val.cells (.int k i) = [.int k i] := (rfl)
@[go_sem] theorem cells_bool : Val.cells (.bool b) = [.bool b] := (rfl)
@[go_sem] theorem cells_str : Val.cells (.str x) = [.str x] := (rfl)
@[go_sem] theorem cells_fz : Val.cells (.fz xs) = [.fz xs] := (rfl)
@[go_sem] theorem one_int : Val.one (.int k i) = true := (rfl)
@[go_sem] theorem one_bool : Val.one (.bool b) = true := (rfl)
@[go_sem] theorem one_str : Val.one (.str x) = true := (rfl)
@[go_sem] theorem one_fz : Val.one (.fz xs) = true := (rfl)
@[go_sem] theorem one_cl : Val.one (.cl xs) = true := (rfl)
@[go_sem] theorem one_agg : Val.one (.agg xs) = true := (rfl)
end
section
variable {n : Nat}
@[go_sem] theorem sn_bool {b : Bool} : snapD (n + 1) en (.bool b) = some (.bool b,[]) := (rfl)
@[go_sem] theorem sn_int {k : IntKind} {i : Int} : snapD (n + 1) en (.int k i) = some (.int k i,[]) := (rfl)
@[go_sem] theorem sn_str {s : ByteArray} : snapD (n + 1) en (.str s) = some (.str s,[]) := (rfl)
@[go_sem] theorem sn_nilp : snapD (n + 1) en .nilp = some (.nilp,[]) := (rfl)
@[go_sem] theorem sn_nilm : snapD (n + 1) en .nilm = some (.nilm,[]) := (rfl)
@[go_sem] theorem sn_nilf : snapD (n + 1) en .nilf = some (.nilf,[]) := (rfl)
@[go_sem] theorem sn_nili : snapD (n + 1) en .nili = some (.nili,[]) := (rfl)
@[go_sem] theorem sn_fz {xs : List Val} : snapD (n + 1) en (.fz xs) = some (.fz xs,[]) := (rfl)
@[go_sem] theorem sn_cl {xs : List Val} : snapD (n + 1) en (.cl xs) = some (.cl xs,[]) := (rfl)
@[go_sem] theorem sn_fp {xs : List Val} {off : Nat} : snapD (n + 1) en (.fp xs off) = some (.fp xs off,[]) := (rfl)
@[go_sem] theorem sn_fm {xs ys : List Val} : snapD (n + 1) en (.fm xs ys) = some (.fm xs ys,[]) := (rfl)
@[go_sem] theorem sn_agg {cs : List Val} : snapD (n + 1) en (.agg cs) = (match mapO (snapD n en) cs with | some rs => some (.agg (rs.map (·.1)),rs.flatMap (·.2)) | none => none) := (rfl)
@[go_sem] theorem sn_tup {cs : List Val} : snapD (n + 1) en (.tup cs) = (match mapO (snapD n en) cs with | some rs => some (.tup (rs.map (·.1)),rs.flatMap (·.2)) | none => none) := (rfl)
@[go_sem] theorem sn_ptr {k : Key} {off : Nat} : snapD (n + 1) en (.ptr k off) = (match en k with | some (.box cs _) => (match mapO (snapD n en) cs with | some rs => some (.fp (rs.map (·.1)) off,k :: rs.flatMap (·.2)) | none => none) | _ => none) := (rfl)
@[go_sem] theorem sn_bl {k : Key} {off len : Nat} : snapD (n + 1) en (.bl k off len) = (match en k with | some (.blk _ xs _) => if k.deep = true then none else if off + len ≤ xs.length then some (.fz ((xs.drop off).take len),[k]) else none | _ => none) := (rfl)
@[go_sem] theorem deep_no {n t g : Nat} (h : ¬ n = 3) : Key.deep ⟨n,t,g⟩ = false := by simp [Key.deep,h]
@[go_sem] theorem deep_0 {t g : Nat} : Key.deep ⟨0,t,g⟩ = false := (rfl)
end
theorem wp_for {L : Prog} {b : LCode} {Q : Ex → St → Prop} {st : St} (n : Nat) (I : Nat → St → Prop) (k0 : Nat) (hle : k0 ≤ n) (h0 : I k0 st)
  (hr : ∀ k st,k ≤ n → I k st → Wp L b st fun e st' => match e with
   | .normal => k < n ∧ I (k + 1) st'
   | .exit i => Q (.exit i) st'
   | .ret => Q .ret st'
   | .panic v => Q (.panic v) st') : Wp L (.loop b) st Q :=
 wp_loop (fun k st => k ≤ n ∧ I k st) (fun k => n - k) k0 ⟨hle,h0⟩ fun k st ⟨hk,hI⟩ => wp_mono b (hr k st hk hI) fun e st' h => by
  cases e with
  | normal => exact ⟨k + 1,⟨by omega,h.2⟩,by omega⟩
  | exit i => exact h
  | ret => exact h
  | panic v => exact h
theorem wrap_in {n : Int} (h : -9223372036854775808 ≤ n ∧ n ≤ 9223372036854775807) : IntKind.i64.wrap n = n := IntWalk.i64_in n h
def Few (n : Nat) : Prop := n ≤ 9223372036854775807
@[go_sem] theorem wrap_succ {k n : Nat} (h : k < n) (hn : Few n) : IntKind.i64.wrap ((k : Int) + 1) = ((k + 1 : Nat) : Int) := by
 unfold Few at hn; rw [wrap_in (by omega)]; rfl
attribute [go_sem] Int.ofNat_lt Int.ofNat_le Int.ofNat_inj decide_true decide_false List.length_map
@[go_sem] theorem eq2 {k : IntKind} {a b c d : Int} : binVal .eql (.agg [.num,.num]) (.agg [.int k a,.int k b]) (.agg [.int k c,.int k d]) = some (.bool (decide (a = c) && decide (b = d))) := by
 simp only [binVal,eqVal,List.length_cons,List.length_nil,and_self,if_true,eqCells,eqCell]
 have e : (a == c) = decide (a = c) := by by_cases h : a = c <;> simp [h]
 have e' : (b == d) = decide (b = d) := by by_cases h : b = d <;> simp [h]
 rw [e,e']
 by_cases h : a = c <;> by_cases h' : b = d <;> simp [h,h']
@[go_sem] theorem ne2 {k : IntKind} {a b c d : Int} : binVal .neq (.agg [.num,.num]) (.agg [.int k a,.int k b]) (.agg [.int k c,.int k d]) = some (.bool (!(decide (a = c) && decide (b = d)))) := by
 simp only [binVal,eqVal,List.length_cons,List.length_nil,and_self,if_true,eqCells,eqCell]
 have e : (a == c) = decide (a = c) := by by_cases h : a = c <;> simp [h]
 have e' : (b == d) = decide (b = d) := by by_cases h : b = d <;> simp [h]
 rw [e,e']
 by_cases h : a = c <;> by_cases h' : b = d <;> simp [h,h']
end
end Go.Abs
namespace Go.Abs
def ints (l : List Int) : Val := .fz (l.map (.int .i64))
structure MVal where
 kind : Int
 n : Int
 deriving DecidableEq,Inhabited
def MVal.enc (v : MVal) : Val := .agg [.int .i64 v.kind,.int .i64 v.n]
structure MFrame where
 node : Int
 env : List MVal
 vals : List MVal
 deriving DecidableEq,Inhabited
def MFrame.enc (f : MFrame) : Val := .agg [.int .i64 f.node,.fz (f.env.map MVal.enc),.fz (f.vals.map MVal.enc)]
structure MObj where
 form : Int
 n : Int
 vals : List MVal
 frames : List MFrame
 deriving DecidableEq,Inhabited
def MObj.enc (o : MObj) : Val := .agg [.int .i64 o.form,.int .i64 o.n,.fz (o.vals.map MVal.enc),.fz (o.frames.map MFrame.enc)]
structure MOut where
 port : Int
 n : Int
 deriving DecidableEq,Inhabited
def MOut.enc (o : MOut) : Val := .agg [.int .i64 o.port,.int .i64 o.n]
structure MWorld where
 objs : List MObj
 tasks : List Int
 outs : List MOut
 ins : List Int
 used : Int
 deriving DecidableEq,Inhabited
def MWorld.cells (w : MWorld) : List Val := [.fz (w.objs.map MObj.enc),ints w.tasks,.fz (w.outs.map MOut.enc),ints w.ins,.int .i64 w.used]
structure RState where
 world : MWorld
 ages : List Int
 marks : List Int
 cycle : Int
 deriving DecidableEq,Inhabited
def RState.cells (s : RState) : List Val := s.world.cells ++ [ints s.ages,ints s.marks,.int .i64 s.cycle]
structure BCon where
 name : ByteArray
 args : Int
 deriving DecidableEq,Inhabited
def BCon.enc (c : BCon) : Val := .agg [.str c.name,.int .i64 c.args]
inductive Pat where
 | mk (form n : Int) (text : ByteArray) (parts : List Pat)
 deriving Inhabited
mutual
def Pat.enc : Pat → Val
 | .mk f n t ps => .agg [.int .i64 f,.int .i64 n,.str t,.fz (Pat.encL ps)]
def Pat.encL : List Pat → List Val
 | [] => []
 | p :: ps => p.enc :: Pat.encL ps
end
theorem Pat.encL_map : ∀ ps : List Pat,Pat.encL ps = ps.map Pat.enc
 | [] => rfl
 | p :: ps => by rw [Pat.encL,Pat.encL_map ps]; rfl
def Pat.form : Pat → Int | .mk f _ _ _ => f
def Pat.n : Pat → Int | .mk _ n _ _ => n
def Pat.text : Pat → ByteArray | .mk _ _ t _ => t
def Pat.parts : Pat → List Pat | .mk _ _ _ l => l
theorem Pat.enc_eq (p : Pat) : p.enc = .agg [.int .i64 p.form,.int .i64 p.n,.str p.text,.fz (p.parts.map Pat.enc)] := by
 cases p; simp only [Pat.enc,Pat.encL_map,Pat.form,Pat.n,Pat.text,Pat.parts]
structure BNode where
 op : Int
 n : Int
 kids : List Int
 pats : List Pat
 deriving Inhabited
def BNode.enc (o : BNode) : Val := .agg [.int .i64 o.op,.int .i64 o.n,ints o.kids,.fz (o.pats.map Pat.enc)]
structure BProg where
 nodes : List BNode
 funs : List Int
 main : Int
 cons : List BCon
 deriving Inhabited
def BProg.cells (p : BProg) : List Val := [.fz (p.nodes.map BNode.enc),ints p.funs,.int .i64 p.main,.fz (p.cons.map BCon.enc)]
attribute [go_sem] MVal.enc MFrame.enc MObj.enc MOut.enc BCon.enc BNode.enc Pat.enc_eq MWorld.cells BProg.cells RState.cells ints
@[match_pattern] abbrev Val.i (n : Int) : Val := .int .i64 n
abbrev Val.is (l : List Int) : Val := .fz (l.map (.int .i64))
abbrev MWorld.cs (w : MWorld) : List Val := [.fz (w.objs.map MObj.enc),.is w.tasks,.fz (w.outs.map MOut.enc),.is w.ins,.int .i64 w.used]
abbrev BProg.cs (p : BProg) : List Val := [.fz (p.nodes.map BNode.enc),.is p.funs,.int .i64 p.main,.fz (p.cons.map BCon.enc)]
end Go.Abs
namespace Go.Abs
def WStill (L : Prog) : List LOper → St → (St → Prop) → Prop
 | [],st,Q => Q st
 | o :: l,st,Q => WStep L st o fun st' r => r.ws = [] ∧ r.bump = false ∧ r.mem = none ∧ WStill L l st' Q
theorem wstep_mono {L : Prog} {st : St} {o : LOper} {K K' : St → Res → Prop} (h : WStep L st o K) (hk : ∀ s r,K s r → K' s r) : WStep L st o K' := by
 have wop : ∀ {d g : Nat} {en : En} {get : Opd → Val} {op : LOp} {K K' : Res → Prop},WOp L d g en get op K → (∀ r,K r → K' r) → WOp L d g en get op K' := by
  intro d g en get op K K' h hk
  have oth : (match evalW d g en get op with | some r => K r | none => False) → (match evalW d g en get op with | some r => K' r | none => False) := by
   intro h; split <;> rename_i hr <;> simp only [hr] at h; exact hk _ h
  cases op with
  | call f args =>
   simp only [WOp] at h ⊢
   split at h
   ·split at h
    ·obtain ⟨r,h1,h2⟩ := h; exact ⟨r,h1,hk _ h2⟩
    ·exact h.elim
   ·exact h.elim
  | _ => exact oth h
 unfold WStep at h ⊢
 split
 ·rename_i hw; simp only [hw] at h
  split
  ·rename_i f args hop; simp only [hop] at h; exact h.mono fun _ _ _ => hk _ _
  ·rename_i op hne
   have h' : WOp L (o.dst.getD 0) (st.cnt 0 (o.dst.getD 0)) st.en (St.get st.fr) o.op fun r => (r.bump && o.dst.isNone) = false ∧
     K ⟨putFr st.fr o.dst r.v,W.applyAll st.en r.ws,if r.bump then setCnt st.cnt 0 (o.dst.getD 0) (st.cnt 0 (o.dst.getD 0) + 1) else st.cnt⟩ r := by
    split at h
    ·rename_i f a hx; exact absurd hx (hne f a)
    ·exact h
   exact wop h' fun r ⟨h1,h2⟩ => ⟨h1,hk _ _ h2⟩
 ·rename_i hw; simp only [hw] at h; exact hk _ _ h
 ·rename_i hw; simp only [hw] at h
def AllStill (rs : List Res) : Prop := ∀ r ∈ rs,r.ws = [] ∧ r.bump = false ∧ r.mem = none
theorem still_rec {L : Prog} : ∀ (l : List LOper) {st : St} {Q : St → Prop},WStill L l st Q → WRec L l st fun st' rs => AllStill rs ∧ rs.length = l.length ∧ Q st'
 | [],st,Q,h => ⟨fun _ hr => by simp at hr,rfl,h⟩
 | o :: l,st,Q,h => by
  refine wstep_mono h fun s r ⟨h1,h2,h3,h4⟩ => ?_
  have rec_ : ∀ (l : List LOper) {st : St} {Q R : St → List Res → Prop},WRec L l st Q → (∀ s rs,Q s rs → R s rs) → WRec L l st R := by
   intro l
   induction l with
   | nil => intro st Q R h k; exact k _ _ h
   | cons o l ih => intro st Q R h k; exact wstep_mono h fun s r hs => ih hs fun s rs hq => k _ _ hq
  refine rec_ l (still_rec l h4) fun s rs ⟨k1,k2,k3⟩ => ⟨fun x hx => ?_,by simp [k2],k3⟩
  rcases List.mem_cons.1 hx with rfl | hx
  ·exact ⟨h1,h2,h3⟩
  ·exact k1 x hx
theorem wp_still {L : Prog} {l : List LOper} {pairs : List (Nat × Nat)} {st : St} {R : Ex → St → Prop} (hp : pairs.all (fun p => decide (p.1 < l.length) && decide (p.2 < l.length)) = true)
  (h : WStill L l st (R .normal)) : Wp L (.draw l pairs) st R := by
 simp only [Wp]
 have hr := still_rec l h
 split
 ·rename_i hpp
  have : ∀ (l : List LOper) {st : St} {Q : St → List Res → Prop} {R : St → Prop},WRec L l st Q → (∀ s rs,Q s rs → R s) → WOps L l st R := by
   intro l
   induction l with
   | nil => intro st Q R h k; exact k _ _ h
   | cons o l ih => intro st Q R h k; exact wstep_mono h fun s r hs => ih hs fun s rs hq => k _ _ hq
  exact this l hr fun s rs h => h.2.2
 ·have rec_ : ∀ (l : List LOper) {st : St} {Q R : St → List Res → Prop},WRec L l st Q → (∀ s rs,Q s rs → R s rs) → WRec L l st R := by
   intro l
   induction l with
   | nil => intro st Q R h k; exact k _ _ h
   | cons o l ih => intro st Q R h k; exact wstep_mono h fun s r hs => ih hs fun s rs hq => k _ _ hq
  refine rec_ l hr fun s rs ⟨h1,h2,h3⟩ => ⟨?_,h3⟩
  unfold pairsOk
  refine List.all_eq_true.2 fun p hpm => ?_
  have := List.all_eq_true.1 hp p hpm
  simp only [Bool.and_eq_true,decide_eq_true_eq] at this
  rw [List.getElem?_eq_getElem (by omega),List.getElem?_eq_getElem (by omega)]
  obtain ⟨a1,a2,a3⟩ := h1 rs[p.1] (List.getElem_mem _)
  obtain ⟨b1,b2,b3⟩ := h1 rs[p.2] (List.getElem_mem _)
  simp [apartRes,a1,a3,b1,b3]
section
variable {L : Prog} {fr : Nat → Val} {en : En} {cnt : Nat → Nat → Nat} {Q : St → Prop} {l : List LOper} {d : Nat} {dst : Option Nat}
@[congr] theorem wstill_congr {st : St} : WStill L l st Q = WStill L l st Q := (rfl)
@[go_sem] theorem ws_nil (st : St) : WStill L [] st Q = Q st := (rfl)
def WPutS (L : Prog) (l : List LOper) (dst : Option Nat) (fr : Nat → Val) (en : En) (cnt : Nat → Nat → Nat) (Q : St → Prop) : Option Res → Prop
 | some r => (r.bump && dst.isNone) = false ∧ r.ws = [] ∧ r.bump = false ∧ r.mem = none ∧ WStill L l ⟨putFr fr dst r.v,W.applyAll en r.ws,if r.bump then setCnt cnt 0 (dst.getD 0) (cnt 0 (dst.getD 0) + 1) else cnt⟩ Q
 | none => False
@[congr] theorem wputs_congr {r r' : Option Res} (h : r = r') : WPutS L l dst fr en cnt Q r = WPutS L l dst fr en cnt Q r' := by rw [h]
@[go_sem] theorem wputs_some {v : Val} {rs : List R} {u : Key → Bool} :
  WPutS L l dst fr en cnt Q (some ⟨v,[],rs,false,none,u⟩) = WStill L l ⟨putFr fr dst v,en,cnt⟩ Q := by simp [WPutS,W.applyAll]
@[go_sem] theorem wputs_none : WPutS L l dst fr en cnt Q none = False := (rfl)
@[go_sem] theorem ws_op {op : LOp} (h : op.plain = true) : WStill L (⟨dst,op,none⟩ :: l) ⟨fr,en,cnt⟩ Q = WPutS L l dst fr en cnt Q (evalW (dst.getD 0) (cnt 0 (dst.getD 0)) en (St.get fr) op) := by
 cases op <;> first | (simp [LOp.plain] at h; done) | rfl | (simp only [WStill,WStep,wanted,WOp,WPutS]; rfl)
@[go_sem] theorem ws_guard {t : Nat} {b : Bool} {op : LOp} : WStill L (⟨dst,op,some (t,b)⟩ :: l) ⟨fr,en,cnt⟩ Q =
  WGuard (fr t) b (WStill L (⟨dst,op,none⟩ :: l) ⟨fr,en,cnt⟩ Q) (WStill L l ⟨putFr fr dst (.tup []),en,cnt⟩ Q) := by
 simp only [WStill,WStep,wanted,WGuard]
 split <;> rename_i h
 ·split at h
  ·rename_i b' hb; simp only [Option.some.injEq] at h; simp only [hb,h,if_true]
  ·cases h
  ·cases h
 ·split at h
  ·rename_i b' hb; simp only [Option.some.injEq] at h; simp only [hb,h,Bool.false_eq_true,if_false,true_and]
  ·rename_i hb; simp only [hb,true_and]
  ·cases h
 ·split at h
  ·cases h
  ·cases h
  ·rename_i h1 h2
   split
   ·rename_i b' hb; exact absurd hb (h1 _)
   ·rename_i hb; exact absurd hb h2
   ·rfl
@[go_sem] theorem ws_call {f : Opd} {args : List Opd} : WStill L (⟨dst,.call f args,none⟩ :: l) ⟨fr,en,cnt⟩ Q =
  WCall L en (St.get fr f) (args.map (St.get fr)) fun r ks => WPutS L l dst fr en cnt Q (some (callRes 0 (dst.getD 0) (cnt 0 (dst.getD 0)) r ks)) := by
 simp only [WStill,WStep,wanted,WOp,WCall,WSnap,WRet]
 cases St.get fr f <;> first | rfl | skip
end
section
variable {L : Prog} {fr : Nat → Val} {en : En} {cnt : Nat → Nat → Nat} {Q : St → Prop} {l : List LOper} {d g : Nat} {dst : Option Nat} {get : Opd → Val}
def opStore (m : Nat) (en : En) (a v : Val) : Option Res :=
  if v.one = true ∧ v.cells.length = m then
   match a with
   | .ptr k off => match en k with
    | some (.box cs false) => if off + m ≤ cs.length then some { v := .tup [],ws := [.cells k off v.cells],rs := [.flag k] } else none
    | _ => none
   | .ep k i off => match en k with
    | some (.blk _ xs false) => match xs[i]? with
     | some y => if off + m ≤ y.cells.length then
       if k.deep then none else
       match snapD 8 en v with
       | some (v',ks) => if v'.one = true ∧ v'.cells.length = m ∧ ks.all (fun k' => decide (k' ≠ k)) = true then some { v := .tup [],ws := ks.map .frz ++ [.elem k i off v'.wk1.cells],rs := .val k :: .flag k :: ks.map .val } else none
       | none => none
      else none
     | none => none
    | _ => none
   | _ => none
  else none
@[go_sem] theorem evw_store {m : Nat} {a x : Opd} : evalW d g en get (.store m a x) = opStore m en (get a) (get x) := (rfl)
@[go_sem] theorem store_ptr {m off : Nat} {k : Key} {v : Val} (h1 : v.one = true) (h2 : v.cells.length = m) : opStore m en (.ptr k off) v = (match en k with
    | some (.box cs false) => if off + m ≤ cs.length then some { v := .tup [],ws := [.cells k off v.cells],rs := [.flag k] } else none
    | _ => none) := by simp [opStore,h1,h2]
@[go_sem] theorem apply_cells {k : Key} {off : Nat} {vs : List Val} : (W.cells k off vs).apply en = (match en k with
  | some (.box cs f) => en.set k (some (.box (setCells cs off vs) f))
  | _ => en) := (rfl)
def opSlice (str : Bool) (size : Nat) (en : En) (x : Val) (lo hi mx : Option Val) : Option Res :=
  if str then
   match x,mx with
   | .str s,none => match bound hi s.size s.size with
    | some h => (bound lo 0 h).map fun l => { v := .str (s.extract l h) }
    | none => none
   | _,_ => none
  else match x with
   | .fz xs => match mx with
    | none => match bound hi xs.length xs.length with
     | some h => match bound lo 0 h with
      | some l => if l = 0 ∨ headOk size xs = true then some { v := .fz ((xs.take h).drop l) } else none
      | none => none
     | none => none
    | some m => cut3 size xs lo hi m
   | .cl xs => match mx with
    | none => match bound hi xs.length xs.length with
     | some h => match bound lo 0 h with
      | some l => if l = 0 ∨ headOk size xs = true then some { v := if h = xs.length then .cl (xs.drop l) else .fz ((xs.take h).drop l) } else none
      | none => none
     | none => none
    | some m => cut3 size xs lo hi m
   | .bl k off len => match mx with
    | none => match bound hi len len with
     | some h => match bound lo 0 h with
      | some l => match en k with
       | some (.blk sz _ _) => if l = 0 ∨ sz = size then some { v := .bl k (off + l) (h - l),rs := [.val k] } else none
       | _ => none
      | none => none
     | none => none
    | some _ => none
   | _ => none
@[go_sem] theorem evw_slice {str : Bool} {size : Nat} {x : Opd} {lo hi mx : Option Opd} : evalW d g en get (.slice str size x lo hi mx) = opSlice str size en (get x) (lo.map get) (hi.map get) (mx.map get) := by
 cases mx <;> cases str <;> (simp only [evalW,eval,opSlice,Option.map]) <;> cases get x <;> rfl
@[go_sem] theorem bound_no {a t : Nat} : bound none a t = some a := (rfl)
theorem bound_nat {k : IntKind} {i a t : Nat} (h : i ≤ t) : bound (some (.int k (i : Int))) a t = some i := by
 simp only [bound]; rw [if_pos ⟨by omega,by omega⟩]; simp
@[go_sem] theorem slice_to {size : Nat} {xs : List Val} {k : IntKind} {i : Nat} (h : i ≤ xs.length) : opSlice false size en (.fz xs) none (some (.int k (i : Int))) none = some { v := .fz (xs.take i) } := by
 simp [opSlice,bound_nat h,bound_no]
end
end Go.Abs
namespace Go.Abs
section
variable {L : Prog} {fr : Nat → Val} {en : En} {cnt : Nat → Nat → Nat} {Q : St → Prop} {l : List LOper} {d g : Nat} {dst : Option Nat} {get : Opd → Val}
def Mine (en : En) (v : Val) (size : Nat) (xs : List Val) (D : List Nat) : Prop :=
 (v = .cl [] ∧ xs = []) ∨ ∃ t g f,v = .bl ⟨0,t,g⟩ 0 xs.length ∧ en ⟨0,t,g⟩ = some (.blk size xs f) ∧ t ∈ D
theorem Mine.nil (size : Nat) (D : List Nat) : Mine en (.cl []) size [] D := .inl ⟨rfl,rfl⟩
theorem Mine.keep {v : Val} {size : Nat} {xs : List Val} {D : List Nat} {en' : En} (h : Mine en v size xs D) (k : ∀ t g,t ∈ D → en' ⟨0,t,g⟩ = en ⟨0,t,g⟩) : Mine en' v size xs D := by
 rcases h with h | ⟨t,g,f,h1,h2,h3⟩
 ·exact .inl h
 ·exact .inr ⟨t,g,f,h1,by rw [k t g h3]; exact h2,h3⟩
theorem Mine.sub {v : Val} {size : Nat} {xs : List Val} {D D' : List Nat} (h : Mine en v size xs D) (k : ∀ t ∈ D,t ∈ D') : Mine en v size xs D' := by
 rcases h with h | ⟨t,g,f,h1,h2,h3⟩
 ·exact .inl h
 ·exact .inr ⟨t,g,f,h1,h2,k t h3⟩
theorem Mine.snap {v : Val} {size : Nat} {xs : List Val} {D : List Nat} (h : Mine en v size xs D) (n : Nat) :
  ∃ r ks,snapD (n + 1) en v = some (r,ks) ∧ r.wk0 = .fz xs ∧ r.wk1 = .fz xs ∧ r.wk = .fz xs ∧ (r = .fz xs ∨ r = .cl xs) := by
 rcases h with ⟨rfl,rfl⟩ | ⟨t,g,f,rfl,h2,_⟩
 ·exact ⟨.cl [],[],rfl,rfl,rfl,rfl,.inr rfl⟩
 ·refine ⟨.fz xs,[⟨0,t,g⟩],?_,rfl,rfl,rfl,.inl rfl⟩
  simp [snapD,h2,deep_0]
theorem Mine.len {v : Val} {size : Nat} {xs : List Val} {D : List Nat} (h : Mine en v size xs D) : lenOf v = some xs.length := by
 rcases h with ⟨rfl,rfl⟩ | ⟨t,g,f,rfl,h2,_⟩ <;> rfl
@[go_sem] theorem elems_cl {xs : List Val} : elemsOf en (.cl xs) = some (xs,[]) := (rfl)
@[go_sem] theorem elems_fz {xs : List Val} : elemsOf en (.fz xs) = some (xs,[]) := (rfl)
def opIxs (x i : Val) : Option Res := match x,i with
  | .str s,.int _ j => if 0 ≤ j then (s[j.toNat]?).map fun b => { v := .int .u8 b.toNat } else none
  | _,_ => none
@[go_sem] theorem evw_ixs {x i : Opd} : evalW d g en get (.ixs x i) = opIxs (get x) (get i) := (rfl)
theorem ixs_nat {s : ByteArray} {k : IntKind} {j : Nat} (h : j < s.data.toList.length) : opIxs (.str s) (.int k (j : Int)) = some { v := .int .u8 (s.data.toList[j]).toNat } := by
 have h' : j < s.size := by rw [Array.length_toList] at h; exact h
 have e : s[(j : Int).toNat]? = some (s.data.toList[j]) := by
  simp only [Int.toNat_natCast]
  rw [getElem?_pos s j h']
  exact congrArg some (by rw [ByteArray.getElem_eq_getElem_data,Array.getElem_toList])
 unfold opIxs
 simp only [if_pos (Int.natCast_nonneg j),e,Option.map]
end
end Go.Abs
namespace Go.Abs
inductive Keep (a b : Prop) : Type
 | mk
section
variable {L : Prog} {fr : Nat → Val} {en : En} {cnt : Nat → Nat → Nat} {Q : St → Prop} {l : List LOper} {dst : Option Nat} {R : Ex → St → Prop}
def WCondK (v : Val) (a b : Prop) (_ : Keep a b) : Prop := WCond v a b
def WGuardK (v : Val) (t : Bool) (a b : Prop) (_ : Keep a b) : Prop := WGuard v t a b
@[congr] theorem wcondK_congr {v v' : Val} {a b : Prop} {k : Keep a b} (h : v = v') : WCondK v a b k = WCondK v' a b k := by rw [h]
@[congr] theorem wguardK_congr {v v' : Val} {t : Bool} {a b : Prop} {k : Keep a b} (h : v = v') : WGuardK v t a b k = WGuardK v' t a b k := by rw [h]
theorem wcondK_t {a b : Prop} {k : Keep a b} : WCondK (.bool true) a b k = a := (rfl)
theorem wcondK_f {a b : Prop} {k : Keep a b} : WCondK (.bool false) a b k = b := (rfl)
theorem guardK_tt {a b : Prop} {k : Keep a b} : WGuardK (.bool true) true a b k = a := (rfl)
theorem guardK_ff {a b : Prop} {k : Keep a b} : WGuardK (.bool false) false a b k = a := (rfl)
theorem guardK_tf {a b : Prop} {k : Keep a b} : WGuardK (.bool true) false a b k = b := (rfl)
theorem guardK_ft {a b : Prop} {k : Keep a b} : WGuardK (.bool false) true a b k = b := (rfl)
theorem guardK_un {a b : Prop} {k : Keep a b} {t : Bool} : WGuardK (.tup []) t a b k = b := (rfl)
end
section
variable {L : Prog} {fr : Nat → Val} {en : En} {cnt : Nat → Nat → Nat} {Q : St → Prop} {l : List LOper} {d g : Nat} {dst : Option Nat} {get : Opd → Val}
def opMk (size : Nat) (z : List Val) (d g : Nat) (x y : Val) : Option Res := match x,y with
  | .int .i64 a,.int .i64 b => if a = b ∧ small a = true then
    some { v := .bl ⟨0,d,g⟩ 0 a.toNat,ws := [.ent ⟨0,d,g⟩ (some (.blk size (List.replicate a.toNat (ofZero size z false)) false))],bump := true } else none
  | _,_ => none
@[go_sem] theorem evw_mklen {size : Nat} {z : List Val} {x y : Opd} : evalW d g en get (.mklen size z x y) = opMk size z d g (get x) (get y) := (rfl)
@[go_sem] theorem ofZero_bool {b : Bool} : ofZero 1 [.bool b] false = .bool b := (rfl)
@[go_sem] theorem ofZero_int {k : IntKind} {n : Int} : ofZero 1 [.int k n] false = .int k n := (rfl)
@[go_sem] theorem ia_bl {size off len : Nat} {k : Key} {kk : IntKind} {j : Int} : opIa size en (.bl k off len) (.int kk j) = (match en k with
  | some (.blk sz _ _) => if 0 ≤ j ∧ j < len ∧ sz = size then some { v := .ep k (off + j.toNat) 0,rs := [.val k] } else none
  | _ => none) := (rfl)
@[go_sem] theorem read_ep {k : Key} {i off n : Nat} : readAt en (.ep k i off) n = (match en k with
  | some (.blk _ xs _) => (match xs[i]? with
   | some x => if off + n ≤ x.cells.length then some ((x.cells.drop off).take n,[.val k]) else none
   | none => none)
  | _ => none) := (rfl)
@[go_sem] theorem store_ep {m i off : Nat} {k : Key} {v : Val} (h1 : v.one = true) (h2 : v.cells.length = m) : opStore m en (.ep k i off) v = (match en k with
    | some (.blk _ xs false) => (match xs[i]? with
     | some y => if off + m ≤ y.cells.length then
       if k.deep = true then none else
       (match snapD 8 en v with
       | some (v',ks) => if v'.one = true ∧ v'.cells.length = m ∧ ks.all (fun k' => decide (k' ≠ k)) = true then some { v := .tup [],ws := ks.map .frz ++ [.elem k i off v'.wk1.cells],rs := .val k :: .flag k :: ks.map .val } else none
       | none => none)
      else none
     | none => none)
    | _ => none) := by simp [opStore,h1,h2]
@[go_sem] theorem apply_elem {k : Key} {i off : Nat} {vs : List Val} : (W.elem k i off vs).apply en = (match en k with
  | some (.blk sz xs f) => (match xs[i]? with
   | some x => en.set k (some (.blk sz (xs.set i (putCells x off vs)) f))
   | none => en)
  | _ => en) := (rfl)
@[go_sem] theorem put_bool {b : Bool} {v : Val} : putCells (.bool b) 0 [v] = v := (rfl)
@[go_sem] theorem put_int {k : IntKind} {n : Int} {v : Val} : putCells (.int k n) 0 [v] = v := (rfl)
attribute [go_sem] List.all_nil ite_self
end
section
variable {L : Prog} {fr : Nat → Val} {en : En} {cnt : Nat → Nat → Nat} {n : Nat}
@[go_sem] theorem sn_fn {f : Nat} {a b : List Val} : snapD (n + 1) en (.fn f a b) = (match mapO (snapD n en) a with
   | some x => (match mapO (snapD n en) b with
    | some y => some (.fn f (x.map (·.1)) (y.map (·.1)),x.flatMap (·.2) ++ y.flatMap (·.2))
    | none => none)
   | none => none) := (rfl)
@[go_sem] theorem sn_ifc {t : Nat} {v : Val} : snapD (n + 1) en (.ifc t v) = (match snapD n en v with
   | some r => some (.ifc t r.1,r.2)
   | none => none) := (rfl)
@[go_sem] theorem g_m {tbl : List (Nat × Nat)} {i : Nat} : St.get fr (.m tbl i) = methodOf tbl (fr i) := (rfl)
@[go_sem] theorem method_ifc {tbl : List (Nat × Nat)} {t : Nat} {v : Val} : methodOf tbl (.ifc t v) = (match tbl.lookup t with
  | some f => .fn f [v] []
  | none => .dead) := (rfl)
attribute [go_sem] List.lookup_cons
structure AsksT {α : Type} (L : Prog) (enc : α → Val) (h : Val) (p : α → Bool) (l : List α) : Prop where
 snap : ∀ n en,4 ≤ n → snapD n en h = some (h,[])
 wk : h.wk1 = h
 one : h.one = true
 cells : h.cells = [h]
 call : ∀ x ∈ l,∀ en K,K (.bool (p x)) [] → WCall L en h [enc x] K
end
section
variable {en : En} {d g : Nat} {get : Opd → Val}
def opRng (d g : Nat) (x : Val) : Option Res := match x with
  | .str s => some { v := .it ⟨0,d,g⟩,ws := [.ent ⟨0,d,g⟩ (some (.iter s 0))],bump := true }
  | _ => none
@[go_sem] theorem evw_rng {x : Opd} : evalW d g en get (.rng x) = opRng d g (get x) := (rfl)
@[go_sem] theorem rng_str {s : ByteArray} : opRng d g (.str s) = some { v := .it ⟨0,d,g⟩,ws := [.ent ⟨0,d,g⟩ (some (.iter s 0))],bump := true } := (rfl)
def opNxt (en : En) (x : Val) : Option Res := match x with
  | .it k => match en k with
   | some (.iter s pos) =>
    if pos < s.size then some { v := .tup [.bool true,.int .i64 pos,.int .i32 (Utf8.decode s pos).1],ws := [.ent k (some (.iter s (pos + (Utf8.decode s pos).2)))],rs := [.val k,.flag k] }
    else some { v := .tup [.bool false],rs := [.val k] }
   | _ => none
  | _ => none
@[go_sem] theorem evw_nxt {x : Opd} : evalW d g en get (.nxt x) = opNxt en (get x) := (rfl)
@[go_sem] theorem nxt_it {k : Key} : opNxt en (.it k) = (match en k with
   | some (.iter s pos) =>
    if pos < s.size then some { v := .tup [.bool true,.int .i64 pos,.int .i32 (Utf8.decode s pos).1],ws := [.ent k (some (.iter s (pos + (Utf8.decode s pos).2)))],rs := [.val k,.flag k] }
    else some { v := .tup [.bool false],rs := [.val k] }
   | _ => none) := (rfl)
end
section
variable {en : En} {d g : Nat} {get : Opd → Val}
def opPut (t : EqT) (en : En) (m k x : Val) : Option Res := match m with
  | .mp key => match en key with
   | some (.map ks vs false) =>
    if keyOk t k && x.flat1 then
     match findKey t k ks with
     | some (some i) => some { v := .tup [],ws := [.ent key (some (.map (ks.set i k) (vs.set i x) false))],rs := [.val key,.flag key] }
     | some none => some { v := .tup [],ws := [.ent key (some (.map (ks ++ [k]) (vs ++ [x]) false))],rs := [.val key,.flag key] }
     | none => none
    else none
   | _ => none
  | _ => none
@[go_sem] theorem evw_mput {t : EqT} {m k x : Opd} : evalW d g en get (.mput t m k x) = opPut t en (get m) (get k) (get x) := (rfl)
@[go_sem] theorem put_mp {t : EqT} {key : Key} {k x : Val} : opPut t en (.mp key) k x = (match en key with
   | some (.map ks vs false) =>
    if (keyOk t k && x.flat1) = true then
     (match findKey t k ks with
     | some (some i) => some { v := .tup [],ws := [.ent key (some (.map (ks.set i k) (vs.set i x) false))],rs := [.val key,.flag key] }
     | some none => some { v := .tup [],ws := [.ent key (some (.map (ks ++ [k]) (vs ++ [x]) false))],rs := [.val key,.flag key] }
     | none => none)
    else none
   | _ => none) := (rfl)
@[go_sem] theorem keyOk_str {s : ByteArray} : keyOk .str (.str s) = true := (rfl)
@[go_sem] theorem keyOk_int {k : IntKind} {n : Int} : keyOk .num (.int k n) = true := (rfl)
@[go_sem] theorem flat1_bool {b : Bool} : Val.flat1 (.bool b) = true := (rfl)
@[go_sem] theorem flat1_int {k : IntKind} {n : Int} : Val.flat1 (.int k n) = true := (rfl)
@[go_sem] theorem len_mp {k : Key} : opLen .map en (.mp k) = (match en k with
    | some (.map ks _ _) => some { v := .int .i64 ks.length,rs := [.val k] }
    | _ => none) := (rfl)
def lookIn (t : EqT) (z : Val) (ok : Bool) (k : Val) (ks vs : List Val) : Option Val := match findKey t k ks with
    | some (some i) => some (if ok then .tup [vs.getD i .dead,.bool true] else vs.getD i .dead)
    | some none => some (if ok then .tup [z,.bool false] else z)
    | none => none
def opGet (t : EqT) (z : Val) (ok : Bool) (en : En) (m k : Val) : Option Res :=
  if keyOk t k then
   match m with
   | .mp key => match en key with
    | some (.map ks vs _) => (lookIn t z ok k ks vs).map fun v => { v,rs := [.val key] }
    | _ => none
   | .fm ks vs => (lookIn t z ok k ks vs).map fun v => { v }
   | .nilm => (lookIn t z ok k [] []).map fun v => { v }
   | _ => none
  else none
@[go_sem] theorem evw_mget {t : EqT} {z : Val} {ok : Bool} {m k : Opd} : evalW d g en get (.mget t z ok m k) = opGet t z ok en (get m) (get k) := (rfl)
@[go_sem] theorem get_mp {t : EqT} {z : Val} {ok : Bool} {key : Key} {k : Val} (h : keyOk t k = true) : opGet t z ok en (.mp key) k = (match en key with
    | some (.map ks vs _) => (lookIn t z ok k ks vs).map fun v => { v,rs := [.val key] }
    | _ => none) := by simp [opGet,h]
@[go_sem] theorem get_fm {t : EqT} {z : Val} {ok : Bool} {k : Val} {ks vs : List Val} (h : keyOk t k = true) : opGet t z ok en (.fm ks vs) k = (lookIn t z ok k ks vs).map fun v => { v } := by simp [opGet,h]
end
@[go_sem] theorem setFrs_nil {fr : Nat → Val} {vs : List Val} : setFrs fr [] vs = fr := (rfl)
@[go_sem] theorem setFrs_cons {fr : Nat → Val} {p : Nat} {ps : List Nat} {v : Val} {vs : List Val} : setFrs fr (p :: ps) (v :: vs) = setFrs (setFr fr p v) ps vs := (rfl)
theorem Mine.shape {en : En} {v : Val} {size : Nat} {xs : List Val} {D : List Nat} (h : Mine en v size xs D) : v.one = true ∧ v.cells = [v] := by
 rcases h with ⟨rfl,_⟩ | ⟨t,g,f,rfl,_⟩ <;> exact ⟨rfl,rfl⟩
attribute [go_sem] wcondK_t wcondK_f guardK_tt guardK_ff guardK_tf guardK_ft guardK_un Int.cast_ofNat_Int beq_self_eq_true
attribute [go_sem] Nat.reduceEqDiff Nat.reduceBEq Nat.reduceMul Nat.reduceLeDiff Nat.reduceAdd Nat.reduceSub Nat.reduceLT Int.reduceLT Int.reduceLE Int.reduceToNat Int.reduceAdd Int.reduceNeg Int.reduceEq Int.reduceOfNat Int.reduceNegSucc
theorem kA : type_of% @List.all_cons.{0} ∧ type_of% @List.getElem?_cons_zero.{0} ∧ type_of% @List.getElem?_cons_succ.{0} ∧ type_of% @Bool.true_or ∧ type_of% @Bool.or_true := ⟨@List.all_cons.{0},@List.getElem?_cons_zero.{0},@List.getElem?_cons_succ.{0},@Bool.true_or,@Bool.or_true⟩
end Go.Abs
namespace Go.Abs
variable {d g : Nat} {en : En} {get : Opd → Val}
@[go_sem] theorem pl_sla {n s : Nat} {a : Bool} {x : Opd} {l h : Option Opd} : LOp.plain (.sla n s a x l h) = true := (rfl)
@[go_sem] theorem pl_b2s {x : Opd} : LOp.plain (.b2s x) = true := (rfl)
@[go_sem] theorem pl_s2b {x : Opd} : LOp.plain (.s2b x) = true := (rfl)
def opIaaP (len size : Nat) (x i : Val) : Option Res := match i with
 | .int _ j => if 0 ≤ j ∧ j < len then
    match x with
    | .fp cs o => some { v := .fp cs (o + j.toNat * size) }
    | .ptr k o => some { v := .ptr k (o + j.toNat * size) }
    | .ep k i o => some { v := .ep k i (o + j.toNat * size) }
    | _ => none
   else none
 | _ => none
@[go_sem] theorem ev_iaaP {len size : Nat} {x i : Opd} : evalW d g en get (.iaa len size x i) = opIaaP len size (get x) (get i) := (rfl)
theorem iaaP_ptr {len size : Nat} {k : Key} {o : Nat} {kk : IntKind} {j : Int} (h0 : 0 ≤ j) (h : j < (len : Int)) : opIaaP len size (.ptr k o) (.int kk j) = some { v := .ptr k (o + j.toNat * size) } := by
 simp only [opIaaP,if_pos (And.intro h0 h)]
def opSla (n size : Nat) (agg : Bool) (x : Val) (lo hi : Option Val) : Option Res := match bound hi n n with
  | some h => match bound lo 0 h with
   | some l => if l < n then
     match x with
     | .ptr k off => if size = 1 then some { v := .sl k (off + l) (h - l) } else none
     | .fp cs off => if off + n * size ≤ cs.length ∧ (agg = true ∨ (size = 1 ∧ ((cs.drop off).take n).all Val.flat0 = true)) then some { v := .fz ((List.range (h - l)).map fun i => cutV agg size cs (off + (l + i) * size)) } else none
     | _ => none
    else none
   | none => none
  | none => none
@[go_sem] theorem ev_sla {n size : Nat} {agg : Bool} {x : Opd} {lo hi : Option Opd} : evalW d g en get (.sla n size agg x lo hi) = opSla n size agg (get x) (lo.map get) (hi.map get) := (rfl)
theorem sla_ptr {n : Nat} {agg : Bool} {k : Key} {off l h : Nat} {lo hi : Option Val} (h1 : bound hi n n = some h) (h2 : bound lo 0 h = some l) (h3 : l < n) : opSla n 1 agg (.ptr k off) lo hi = some { v := .sl k (off + l) (h - l) } := by
 simp only [opSla,h1,h2,if_pos h3,if_true]
@[go_sem] theorem sla_10 {k : Key} {o : Nat} : opSla 24 1 false (.ptr k o) (some (.int .i64 10)) none = some { v := .sl k (o + 10) 14 } := sla_ptr (l := 10) (h := 24) rfl rfl (by decide)
@[go_sem] theorem sla_0 {k : Key} {o : Nat} : opSla 24 1 false (.ptr k o) none none = some { v := .sl k (o + 0) 24 } := sla_ptr (l := 0) (h := 24) rfl rfl (by decide)
def opCopy (en : En) (x y : Val) : Option Res :=
   match x with
   | .sl k off len => match en k with
    | some (.box cs false) => if off + len ≤ cs.length then
      match srcOf en y with
      | some (ys,rs) => if isStr y = false ∨ ys.length ≤ len then some { v := .int .i64 (min ys.length len : Nat),ws := [.cells k off (ys.take len)],rs := rs ++ [.flag k] } else none
      | none => none
     else none
    | _ => none
   | _ => none
@[go_sem] theorem ev_copy {x y : Opd} : evalW d g en get (.copy 1 x y) = opCopy en (get x) (get y) := (rfl)
theorem strVals_len (s : ByteArray) : (strVals s).length = s.size := by unfold strVals; rw [List.length_map,Array.length_toList]; rfl
def opB2s (en : En) (x : Val) : Option Res := if isStr x = true then none else match srcOf en x with
  | some (ys,rs) => (bytesOf ys).map fun s => { v := .str s,rs }
  | none => none
@[go_sem] theorem ev_b2s {x : Opd} : evalW d g en get (.b2s x) = opB2s en (get x) := (rfl)
@[go_sem] theorem bin_adds {a b : ByteArray} : binVal .add .str (.str a) (.str b) = if ((a.size + b.size : Nat) : Int) > IntKind.i64.max then none else some (.str (a ++ b)) := (rfl)
@[go_sem] theorem bin_shr {j k : IntKind} {a b : Int} : binVal .shr .num (.int j a) (.int k b) = if b < 0 then none else some (.int j (a.fdiv (2 ^ (min b.toNat j.bits)))) := by
 show (if BinOp.shr = BinOp.shl ∨ BinOp.shr = BinOp.shr then binShift .shr j a b else if j = k then binInt .shr j a b else none) = _
 rw [if_pos (.inr rfl)]; rfl
@[go_sem] theorem bin_shl {j k : IntKind} {a b : Int} : binVal .shl .num (.int j a) (.int k b) = if b < 0 then none else some (.int j (j.wrap (a * 2 ^ (min b.toNat j.bits)))) := by
 show (if BinOp.shl = BinOp.shl ∨ BinOp.shl = BinOp.shr then binShift .shl j a b else if j = k then binInt .shl j a b else none) = _
 rw [if_pos (.inl rfl)]; rfl
@[go_sem] theorem bin_or {k : IntKind} {a b : Int} : binVal .or .num (.int k a) (.int k b) = some (.int k (k.wrap (BitVec.ofInt k.bits a ||| BitVec.ofInt k.bits b).toNat)) := by
 simp [binVal,binInt]
def V8 (b : UInt8) : Val := .int .u8 b.toNat
theorem strVals_of (s : ByteArray) : strVals s = s.data.toList.map V8 := rfl
theorem flat_bytes (l : List UInt8) : (l.map V8).all Val.flat0 = true := by
 rw [List.all_eq_true]
 intro x hx
 obtain ⟨b,_,rfl⟩ := List.mem_map.1 hx
 rfl
theorem byteOf_V8 (b : UInt8) : byteOf (V8 b) = some b := by
 simp [byteOf,V8]
theorem bytesOf_map (l : List UInt8) : bytesOf (l.map V8) = some ⟨l.toArray⟩ := by
 have : mapO byteOf (l.map V8) = some l := by
  induction l with
  | nil => rfl
  | cons b l ih => simp only [List.map_cons,mapO,byteOf_V8,ih]
 simp only [bytesOf,this,Option.map_some]
theorem eq_bytes : ∀ (a b : List UInt8),a.length = b.length → eqCells (List.replicate a.length .num) (a.map V8) (b.map V8) = some (a == b)
 | [],[],_ => rfl
 | x :: a,y :: b,h => by
  have ih := eq_bytes a b (by simpa using h)
  have e : eqCell .num (V8 x) (V8 y) = some (x == y) := by
   simp only [eqCell,V8,if_true,Option.some.injEq]
   rw [Bool.eq_iff_iff,beq_iff_eq,beq_iff_eq]
   exact ⟨fun h => UInt8.toNat_inj.1 (by exact_mod_cast h),fun h => by rw [h]⟩
  simp only [List.length_cons,List.replicate_succ,List.map_cons,eqCells,e,List.cons_beq_cons]
  cases hxy : x == y
  ·rfl
  ·simp only [ih,Bool.true_and]
 | [],_ :: _,h => by simp at h
 | _ :: _,[],h => by simp at h
theorem setC_len : ∀ (vs cs : List Val) (n : Nat),(setCells cs n vs).length = cs.length
 | [],_,_ => rfl
 | v :: vs,cs,n => by rw [setCells,setC_len vs]; simp
theorem setC_app (vs : List Val) : ∀ (as bs cs : List Val),bs.length = vs.length → setCells (as ++ bs ++ cs) as.length vs = as ++ vs ++ cs := by
 induction vs with
 | nil => intro as bs cs h; simp only [List.length_nil,List.length_eq_zero_iff] at h; subst h; rfl
 | cons v vs ih =>
  intro as bs cs h
  cases bs with
  | nil => simp at h
  | cons b bs =>
   rw [setCells]
   have e : (as ++ b :: bs ++ cs).set as.length v = (as ++ [v]) ++ bs ++ cs := by simp [List.set_append]
   have := ih (as ++ [v]) bs cs (by simpa using h)
   simp only [List.length_append,List.length_cons,List.length_nil,Nat.zero_add] at this
   rw [e,this]; simp
theorem set_last {α : Type} (l : List α) (z x : α) : (l ++ [z]).set l.length x = l ++ [x] := by
 simp [List.set_append]
theorem snapM_V8 {n : Nat} {en : En} (l : List UInt8) : mapO (snapD (n + 1) en) (l.map V8) = some ((l.map V8).map fun v => (v,[])) := by
 induction l with
 | nil => rfl
 | cons b l ih =>
  simp only [List.map_cons,mapO]
  rw [ih]; rfl
theorem fst_pairs (l : List Val) : (l.map fun v => (v,([] : List Key))).map (fun x => x.1) = l := by
 rw [List.map_map]; exact List.map_id _
theorem snd_pairs (l : List Val) : (l.map fun v => (v,([] : List Key))).flatMap (fun x => x.2) = [] := by
 rw [List.flatMap_eq_nil_iff]
 intro x hx
 obtain ⟨v,_,rfl⟩ := List.mem_map.1 hx
 rfl
theorem setC_all (z vs : List Val) (h : z.length = vs.length) : setCells z 0 vs = vs := by
 have := setC_app vs [] z [] h
 simpa using this
theorem wk_V8 (l : List UInt8) : Val.wk (.agg (l.map V8)) = .agg (l.map V8) := by
 show Val.agg ((l.map V8).map Val.wk0) = _
 rw [List.map_map]; rfl
@[go_sem] theorem one_V8 (b : UInt8) : (V8 b).one = true := (rfl)
@[go_sem] theorem cells_V8 (b : UInt8) : (V8 b).cells = [V8 b] := (rfl)
end Go.Abs
namespace Go.Abs
def WFoot (L : Prog) : List LOper → St → (St → List Res → Prop) → Prop
 | [],st,Q => Q st []
 | o :: l,st,Q => WStep L st o fun st' r => WFoot L l st' fun s rs => Q s ({ r with v := .dead } :: rs)
theorem wrec_mono {L : Prog} (l : List LOper) : ∀ {st : St} {Q R : St → List Res → Prop},WRec L l st Q → (∀ s rs,Q s rs → R s rs) → WRec L l st R := by
 induction l with
 | nil => intro st Q R h k; exact k _ _ h
 | cons o l ih => intro st Q R h k; exact wstep_mono h fun s r hs => ih hs fun s rs hq => k _ _ hq
def SameFoot : List Res → List Res → Prop
 | [],[] => True
 | a :: l,b :: m => (a = { b with v := .dead }) ∧ SameFoot l m
 | _,_ => False
theorem foot_rec {L : Prog} : ∀ (l : List LOper) {st : St} {Q : St → List Res → Prop},WFoot L l st Q → WRec L l st fun st' rs => ∃ fs,SameFoot fs rs ∧ Q st' fs
 | [],st,Q,h => ⟨[],trivial,h⟩
 | o :: l,st,Q,h => by
  refine wstep_mono h fun s r h2 => ?_
  refine wrec_mono l (foot_rec l h2) fun s rs ⟨fs,k1,k2⟩ => ⟨{ r with v := .dead } :: fs,(show SameFoot ({ r with v := .dead } :: fs) (r :: rs) from ⟨rfl,k1⟩),k2⟩
theorem foot_get : ∀ {fs rs : List Res},SameFoot fs rs → ∀ (i : Nat),(fs[i]? = none ∧ rs[i]? = none) ∨ ∃ b,fs[i]? = some { b with v := .dead } ∧ rs[i]? = some b
 | [],[],_,i => .inl ⟨rfl,rfl⟩
 | a :: l,b :: m,h,0 => .inr ⟨b,by rw [← h.1]; rfl,rfl⟩
 | a :: l,b :: m,h,i + 1 => by simpa using foot_get h.2 i
 | [],_ :: _,h,_ => h.elim
 | _ :: _,[],h,_ => h.elim
theorem foot_pairs {fs rs : List Res} (h : SameFoot fs rs) (pairs : List (Nat × Nat)) (hp : pairsOk fs pairs = true) : pairsOk rs pairs = true := by
 unfold pairsOk at hp ⊢
 refine List.all_eq_true.2 fun p hm => ?_
 have := List.all_eq_true.1 hp p hm
 rcases foot_get h p.1 with ⟨a1,_⟩ | ⟨b,a1,a2⟩
 ·rw [a1] at this; cases this
 rcases foot_get h p.2 with ⟨c1,_⟩ | ⟨d,c1,c2⟩
 ·rw [a1,c1] at this; cases this
 rw [a1,c1] at this
 rw [a2,c2]
 exact this
theorem wp_foot {L : Prog} {l : List LOper} {pairs : List (Nat × Nat)} {st : St} {R : Ex → St → Prop}
  (h : WFoot L l st fun st' rs => pairsOk rs pairs = true ∧ R .normal st') : Wp L (.draw l pairs) st R := by
 simp only [Wp]
 have hr := foot_rec l h
 split
 ·have : ∀ (l : List LOper) {st : St} {Q : St → List Res → Prop} {R : St → Prop},WRec L l st Q → (∀ s rs,Q s rs → R s) → WOps L l st R := by
   intro l
   induction l with
   | nil => intro st Q R h k; exact k _ _ h
   | cons o l ih => intro st Q R h k; exact wstep_mono h fun s r hs => ih hs fun s rs hq => k _ _ hq
  exact this l hr fun s rs ⟨_,_,h⟩ => h.2
 ·exact wrec_mono l hr fun s rs ⟨fs,h1,h2,h3⟩ => ⟨foot_pairs h1 _ h2,h3⟩
section
variable {L : Prog} {fr : Nat → Val} {en : En} {cnt : Nat → Nat → Nat} {Q : St → List Res → Prop} {l : List LOper} {d : Nat} {dst : Option Nat}
@[congr] theorem wfoot_congr {st : St} : WFoot L l st Q = WFoot L l st Q := (rfl)
@[go_sem] theorem wf_nil (st : St) : WFoot L [] st Q = Q st [] := (rfl)
def WPutF (L : Prog) (l : List LOper) (dst : Option Nat) (fr : Nat → Val) (en : En) (cnt : Nat → Nat → Nat) (Q : St → List Res → Prop) : Option Res → Prop
 | some r => (r.bump && dst.isNone) = false ∧ WFoot L l ⟨putFr fr dst r.v,W.applyAll en r.ws,if r.bump then setCnt cnt 0 (dst.getD 0) (cnt 0 (dst.getD 0) + 1) else cnt⟩ fun s rs => Q s ({ r with v := .dead } :: rs)
 | none => False
@[congr] theorem wputf_congr {r r' : Option Res} (h : r = r') : WPutF L l dst fr en cnt Q r = WPutF L l dst fr en cnt Q r' := by rw [h]
@[go_sem] theorem wputf_some {v : Val} {ws : List W} {rs : List R} {u : Key → Bool} :
  WPutF L l dst fr en cnt Q (some ⟨v,ws,rs,false,none,u⟩) = WFoot L l ⟨putFr fr dst v,W.applyAll en ws,cnt⟩ fun s fs => Q s ({ v := .dead,ws := ws,rs := rs,unch := u } :: fs) := by simp [WPutF]
@[go_sem] theorem wputf_bump {v : Val} {ws : List W} {rs : List R} {u : Key → Bool} :
  WPutF L l (some d) fr en cnt Q (some ⟨v,ws,rs,true,none,u⟩) = WFoot L l ⟨setFr fr d v,W.applyAll en ws,setCnt cnt 0 d (cnt 0 d + 1)⟩ fun s fs => Q s ({ v := .dead,ws := ws,rs := rs,bump := true,unch := u } :: fs) := by simp [WPutF,putFr]
@[go_sem] theorem wputf_none : WPutF L l dst fr en cnt Q none = False := (rfl)
theorem wf_gen {op : LOp} (h : op.plain = true) : WFoot L (⟨dst,op,none⟩ :: l) ⟨fr,en,cnt⟩ Q = WPutF L l dst fr en cnt Q (evalW (dst.getD 0) (cnt 0 (dst.getD 0)) en (St.get fr) op) := by
 cases op <;> first | (simp [LOp.plain] at h; done) | rfl | (simp only [WFoot,WStep,wanted,WOp,WPutF]; rfl)
@[go_sem] theorem wf_some {op : LOp} (h : op.plain = true) : WFoot L (⟨some d,op,none⟩ :: l) ⟨fr,en,cnt⟩ Q = WPutF L l (some d) fr en cnt Q (evalW d (cnt 0 d) en (St.get fr) op) := wf_gen h
@[go_sem] theorem wf_none {op : LOp} (h : op.plain = true) : WFoot L (⟨none,op,none⟩ :: l) ⟨fr,en,cnt⟩ Q = WPutF L l none fr en cnt Q (evalW 0 (cnt 0 0) en (St.get fr) op) := wf_gen h
@[go_sem] theorem wf_call {f : Opd} {args : List Opd} : WFoot L (⟨dst,.call f args,none⟩ :: l) ⟨fr,en,cnt⟩ Q =
  WCall L en (St.get fr f) (args.map (St.get fr)) fun r ks => WPutF L l dst fr en cnt Q (some (callRes 0 (dst.getD 0) (cnt 0 (dst.getD 0)) r ks)) := by
 simp only [WFoot,WStep,wanted,WOp,WCall,WSnap,WRet]
 cases St.get fr f <;> first | rfl | skip
@[go_sem] theorem wf_icall {f : Opd} {args : List Opd} : WFoot L (⟨dst,.icall f args,none⟩ :: l) ⟨fr,en,cnt⟩ Q =
  WIn L (St.get fr f) (args.map (St.get fr)) en cnt fun v en' cnt' => WFoot L l ⟨putFr fr dst v,en',cnt'⟩ fun s fs => Q s ({ v := .dead,mem := some (en',cnt'),unch := fun k => sameE (en k) (en' k) } :: fs) := (rfl)
theorem wf_guardK {t : Nat} {b : Bool} {op : LOp} : WFoot L (⟨dst,op,some (t,b)⟩ :: l) ⟨fr,en,cnt⟩ Q =
  WGuardK (fr t) b (WFoot L (⟨dst,op,none⟩ :: l) ⟨fr,en,cnt⟩ Q) (WFoot L l ⟨putFr fr dst (.tup []),en,cnt⟩ fun s fs => Q s ({ v := .dead } :: fs)) .mk := by
 simp only [WFoot,WStep,wanted,WGuardK,WGuard]
 split <;> rename_i h
 ·split at h
  ·rename_i b' hb; simp only [Option.some.injEq] at h; simp only [hb,h,if_true]
  ·cases h
  ·cases h
 ·split at h
  ·rename_i b' hb; simp only [Option.some.injEq] at h; simp only [hb,h,Bool.false_eq_true,if_false,true_and]
  ·rename_i hb; simp only [hb,true_and]
  ·cases h
 ·split at h
  ·cases h
  ·cases h
  ·rename_i h1 h2
   split
   ·rename_i b' hb; exact absurd hb (h1 _)
   ·rename_i hb; exact absurd hb h2
   ·rfl
end
theorem apart_ew {k : Key} {e : Option Ent} {ρ : R} : apartWR (.ent k e) ρ = decide (k ≠ ρ.key) := by cases ρ <;> rfl
theorem apart_cv {k k' : Key} {o : Nat} {vs : List Val} : apartWR (.cells k o vs) (.val k') = decide (k ≠ k') := rfl
theorem apart_cf {k k' : Key} {o : Nat} {vs : List Val} : apartWR (.cells k o vs) (.flag k') = true := rfl
theorem apart_cc {k k' : Key} {o o' n : Nat} {vs : List Val} : apartWR (.cells k o vs) (.cells k' o' n) = (decide (k ≠ k') || decide (o + vs.length ≤ o') || decide (o' + n ≤ o)) := rfl
theorem apart_ee {k : Key} {e : Option Ent} {w : W} : apartWW (.ent k e) w = decide (k ≠ w.key) := by cases w <;> rfl
theorem apart_ce {k k' : Key} {o : Nat} {vs : List Val} {e : Option Ent} : apartWW (.cells k o vs) (.ent k' e) = decide (k ≠ k') := rfl
theorem apart_cw {k k' : Key} {o o' : Nat} {vs vs' : List Val} : apartWW (.cells k o vs) (.cells k' o' vs') = (decide (k ≠ k') || decide (o + vs.length ≤ o') || decide (o' + vs'.length ≤ o)) := rfl
theorem key_t {n t g n' t' g' : Nat} (h : t ≠ t') : ((⟨n,t,g⟩ : Key) ≠ ⟨n',t',g'⟩) = True := by simp [h]
attribute [go_sem] pairsOk apartRes apart_ew apart_cv apart_cf apart_cc apart_ee apart_ce apart_cw key_t W.key R.key Option.isSome_none wf_guardK
end Go.Abs
namespace Go.Abs
def FitsFs (P : Program) (F : TypeId → List Val → Prop) : List Field → List Val → Prop
 | [],vs => vs = []
 | f :: fs,vs => ∃ a b,vs = a ++ b ∧ a.length = P.cellsOf f.type ∧ F f.type a ∧ FitsFs P F fs b
def pack (P : Program) (t : TypeId) (vs : List Val) : Val := if isAggT P t then .agg vs else vs.getD 0 .dead
def Fits (P : Program) : Nat → TypeId → List Val → Prop
 | 0,_,_ => False
 | n + 1,t,vs =>
  match P.underlying t with
  | some .bool => ∃ b,vs = [.bool b]
  | some (.int k) => ∃ i,vs = [.int k i] ∧ (Lit.int k i).wf = true
  | some .string => ∃ s : ByteArray,vs = [.str s] ∧ s.size ≤ maxLen
  | some (.slice e) => ∃ xs : List (List Val),vs = [.fz (xs.map (pack P e))] ∧ xs.length ≤ maxLen ∧ ∀ x ∈ xs,Fits P n e x
  | some (.struct fs) => FitsFs P (Fits P n) fs.toList vs
  | _ => True
def closedOk (P : Program) (S : TypeId → Bool) : Bool := (List.range P.types.size).all fun t => !S t || match P.underlying t with
 | some (.slice e) => P.cellsOf e != 0 && S e
 | some (.struct fs) => fs.toList.all fun f => S f.type
 | some (.array ..) => false
 | _ => true
def There (w : World) : Nat → Nat → Prop := fun b _ => b < w.heap.size
section
variable {H : Type} {enc : TypeId × Value → H} {P : Program} {w : World} {sp : Nat → Bool}
def Reads (w : World) (vs : List Val) (cs : List Value) : Prop :=
 vs.length = cs.length ∧ ∀ i,i < cs.length → oneV (cs.getD i undef) = true ∧ VR (There w) Gh.none w (vs.getD i .dead) (cs.getD i undef)
theorem Reads.nil : Reads w [] [] := ⟨rfl,fun i hi => by simp at hi⟩
theorem Reads.one {v : Val} {c : Value} (h : VR (There w) Gh.none w v c) (ho : oneV c = true) : Reads w [v] [c] := by
 refine ⟨rfl,fun i hi => ?_⟩
 have : i = 0 := by simp at hi; omega
 subst this
 exact ⟨ho,h⟩
theorem Reads.append {a b : List Val} {c d : List Value} (h : Reads w a c) (k : Reads w b d) : Reads w (a ++ b) (c ++ d) := by
 refine ⟨by simp [h.1,k.1],fun i hi => ?_⟩
 simp only [List.getD_eq_getElem?_getD,List.getElem?_append]
 rw [h.1]
 split
 ·rename_i hlt; have := h.2 i hlt; simpa [List.getD_eq_getElem?_getD] using this
 ·have := k.2 (i - c.length) (by simp at hi; omega); simpa [List.getD_eq_getElem?_getD] using this
theorem not_agg {v : Val} {c : Value} (h : VR (There w) Gh.none w v c) (ho : oneV c = true) : v.cells = [v] ∧ v.one = true := by
 cases h <;> first | exact ⟨rfl,rfl⟩ | (simp [oneV] at ho)
theorem open_fields (n : Nat) (F : TypeId → List Val → Prop) : ∀ (fs : List Field) (cs : List Value),cs.length = (fs.map fun f => P.cellsOf f.type).sum →
  (∀ (j : Nat) f,fs[j]? = some f → ∃ vs,F f.type vs ∧ Reads w vs ((cs.drop ((fs.take j).map fun f => P.cellsOf f.type).sum).take (P.cellsOf f.type))) →
  ∃ vs,FitsFs P F fs vs ∧ Reads w vs cs
 | [],cs,hl,_ => by
  have : cs = [] := by simpa using hl
  subst this
  exact ⟨[],rfl,Reads.nil⟩
 | f :: fs,cs,hl,h => by
  simp only [List.map_cons,List.sum_cons] at hl
  obtain ⟨a,ha,hra⟩ := h 0 f rfl
  simp only [List.take_zero,List.map_nil,List.sum_nil,List.drop_zero] at hra
  obtain ⟨b,hb,hrb⟩ := open_fields n F fs (cs.drop (P.cellsOf f.type)) (by simp; omega) (fun j g hj => by
   obtain ⟨vs,h1,h2⟩ := h (j + 1) g (by simpa using hj)
   refine ⟨vs,h1,?_⟩
   simpa [List.drop_drop] using h2)
  refine ⟨a ++ b,⟨a,b,rfl,?_,ha,hb⟩,?_⟩
  ·rw [hra.1]; simp; omega
  ·have := Reads.append hra hrb
   rwa [List.take_append_drop] at this
theorem addr_add (b o i : Nat) : (⟨b,o,none⟩ : Addr).add i = ⟨b,o + i,none⟩ := by
 unfold Addr.add; split
 ·rename_i h; subst h; rfl
 ·rfl
theorem cells_get {a : Addr} {n : Nat} {cs : List Value} (h : w.cells? 0 a n = some cs) : cs.length = n ∧ ∀ j,j < n → w.cell? (a.add j) = some (cs.getD j undef) := by
 unfold World.cells? at h
 rw [if_pos (Nat.zero_le _)] at h
 have h1 := mapM_some_length h
 refine ⟨by simpa using h1,fun j hj => ?_⟩
 have h2 := mapM_some_get h j j (by simp [hj])
 rw [h2]
 have : j < cs.length := by rw [h1]; simpa using hj
 simp [List.getD_eq_getElem?_getD,this]
theorem open_data (hl : laidOutB P = true) (S : TypeId → Bool) (hz : closedOk P S = true) : ∀ (fuel : Nat) (t : TypeId) (cs : List Value) (x : DataW H × List MemPlace),t < P.types.size → S t = true → DataW.trod enc P w 0 sp true fuel t cs = some x →
  ∃ vs,Fits P fuel t vs ∧ Reads w vs cs := by
 intro fuel
 induction fuel with
 | zero => intro t cs x _ _ h; simp [DataW.trod] at h
 | succ n ih =>
  intro t cs x ht hs h
  have hz0 := List.all_eq_true.1 hz t (List.mem_range.2 ht)
  simp only [hs,Bool.not_true,Bool.false_or] at hz0
  cases hu : P.underlying t with
  | none => simp [DataW.trod,hu] at h
  | some u =>
   have dead : ∀ c : Value,cs = [c] → oneV c = true → ∃ vs : List Val,True ∧ Reads w vs cs := by
    rintro c rfl ho; exact ⟨[.dead],trivial,Reads.one (.dead c ho) ho⟩
   have gen : (∃ c,cs = [c] ∧ oneV c = true) → (match u with | .bool | .int _ | .string | .slice _ | .struct _ | .array .. => False | _ => True) → ∃ vs,Fits P (n + 1) t vs ∧ Reads w vs cs := by
    rintro ⟨c,rfl,ho⟩ hk
    refine ⟨[.dead],?_,Reads.one (.dead c ho) ho⟩
    simp only [Fits,hu]
    cases u <;> first | trivial | exact hk.elim
   cases u with
   | bool =>
    simp only [DataW.trod,hu] at h
    split at h <;> first | (cases h; done) | skip
    all_goals first | (rename_i h1; cases h1; done) | skip
    rename_i b h1
    exact ⟨[.bool b],by simp only [Fits,hu]; exact ⟨b,rfl⟩,Reads.one (.bool b) rfl⟩
   | int k =>
    simp only [DataW.trod,hu] at h
    split at h <;> first | (cases h; done) | skip
    all_goals first | (rename_i h1; cases h1; done) | skip
    rename_i k0 k' i h1
    cases h1
    split at h
    ·rename_i hk
     obtain ⟨rfl,hw⟩ := hk
     exact ⟨[.int _ i],by simp only [Fits,hu]; exact ⟨i,rfl,hw⟩,Reads.one (.int _ i) rfl⟩
    ·cases h
   | string =>
    simp only [DataW.trod,hu] at h
    split at h <;> first | (cases h; done) | skip
    all_goals first | (rename_i h1; cases h1; done) | skip
    rename_i s h1
    split at h
    ·rename_i hs
     exact ⟨[.str s],by simp only [Fits,hu]; exact ⟨s,rfl,hs⟩,Reads.one (.str s) rfl⟩
    ·cases h
   | slice e =>
    simp only [hu,Bool.and_eq_true] at hz0
    have he : P.cellsOf e ≠ 0 := by simpa using hz0.1
    have hSe : S e = true := hz0.2
    have hke : e < P.types.size := kid_slice hl ht hu
    rcases DataW.trod_slice hu h with ⟨rfl,rfl⟩ | ⟨a,len,cap,elems,rest,m,hm,rfl,rfl,_,hlc,hcm,hel,hall⟩
    ·exact ⟨[.fz []],by simp only [Fits,hu]; exact ⟨[],rfl,Nat.zero_le _,by simp⟩,Reads.one (.fz0 _ _) rfl⟩
    ·cases hm
     replace hall := hall.1
     have each : ∀ i,i < len → ∃ csi vsi,w.cells? 0 (a.add (i * P.cellsOf e)) (P.cellsOf e) = some csi ∧ Fits P n e vsi ∧ Reads w vsi csi := by
      intro i hi
      have h1 := hall i hi
      have hlt : i < elems.length := by omega
      rw [List.getElem?_eq_getElem hlt] at h1
      simp only [Option.bind_eq_some_iff] at h1
      obtain ⟨csi,h2,h3⟩ := h1
      obtain ⟨vsi,h4,h5⟩ := ih e csi _ hke hSe h3
      exact ⟨csi,vsi,h2,h4,h5⟩
     let C (i : Nat) : List Value := if hi : i < len then (each i hi).choose else []
     let V (i : Nat) : List Val := if hi : i < len then (each i hi).choose_spec.choose else []
     have hCV : ∀ i,i < len → w.cells? 0 (a.add (i * P.cellsOf e)) (P.cellsOf e) = some (C i) ∧ Fits P n e (V i) ∧ Reads w (V i) (C i) := by
      intro i hi
      have := (each i hi).choose_spec.choose_spec
      simp only [C,V,dif_pos hi]
      exact this
     have hpk : ∀ i,i < len → (pack P e (V i)).cells = V i := by
      intro i hi
      obtain ⟨h1,h2,h3⟩ := hCV i hi
      unfold pack
      split
      ·rfl
      ·rename_i hagg
       have hlen : (V i).length = 1 := by
        rw [h3.1,(cells_get h1).1]
        have hr := rowFine_of hl hke
        unfold isAggT at hagg
        have hvar : isVar P e = true := by
         have := rowFine_of hl ht
         simp only [rowFine,hu] at this
         have hv : isVar P t = true := by simp [isVar,ht,hu,kindOk]
         simp only [hv,Bool.not_true,Bool.false_or,Bool.and_eq_true] at this
         exact this.1
        simp only [rowFine,hvar,Bool.not_true,Bool.false_or] at hr
        split at hr <;> first | (rename_i h'; rw [h'] at hagg; simp at hagg; done) | (simp only [Bool.and_eq_true,beq_iff_eq] at hr; exact hr.2) | (simpa using hr)
       obtain ⟨v,hv⟩ := List.length_eq_one_iff.1 hlen
       have h4 := h3.2 0 (by rw [← h3.1,hlen]; omega)
       rw [hv] at h4 ⊢
       simp only [List.getD_cons_zero] at h4 ⊢
       exact (not_agg h4.2 h4.1).1
     refine ⟨[.fz ((List.range len).map fun i => pack P e (V i))],?_,?_⟩
     ·simp only [Fits,hu]
      refine ⟨(List.range len).map V,by simp [Function.comp_def],by simp; omega,fun x hx => ?_⟩
      obtain ⟨i,hi,rfl⟩ := List.mem_map.1 hx
      exact (hCV i (by simpa using hi)).2.1
     ·refine Reads.one ?_ rfl
      by_cases h0 : len = 0
      ·subst h0; exact .fz0 _ _
      ·have hsp : a.spot = none := by
        have := (cells_get (hCV 0 (by omega)).1).2 0 (by omega)
        unfold World.cell? at this
        split at this
        ·rename_i hh
         split at this
         ·cases this
         ·rename_i hs; simpa [Addr.add] using hs
        ·cases this
       obtain ⟨blk,off,spt⟩ := a
       simp only at hsp
       subst hsp
       have hg : ∀ i,i < len → ((List.range len).map fun i => pack P e (V i)).getD i .dead = pack P e (V i) := by
        intro i hi; simp [List.getD_eq_getElem?_getD,hi]
       have hcell : ∀ i j,i < len → j < P.cellsOf e → w.cell? ⟨blk,off + i * P.cellsOf e + j,none⟩ = some ((C i).getD j undef) := by
        intro i j hi hj
        have := (cells_get (hCV i hi).1).2 j hj
        rw [addr_add,addr_add] at this
        exact this
       have := VR.fz (T := There w) (G := Gh.none) (w := w) ((List.range len).map fun i => pack P e (V i)) blk off (P.cellsOf e) cap (fun i j => (C i).getD j undef)
        (by simpa using hlc) (fun i hi => by
         have hi' : i < len := by simpa using hi
         rw [hg i hi',hpk i hi',(hCV i hi').2.2.1,(cells_get (hCV i hi').1).1])
        (fun i j hi hj => hcell i j (by simpa using hi) hj)
        (fun i j hi hj => by
         have := hcell i j (by simpa using hi) hj
         unfold World.cell? at this
         split at this
         ·rename_i hh; exact (Array.getElem?_eq_some_iff.1 hh).1
         ·cases this)
        (fun i j hi hj => by
         have hi' : i < len := by simpa using hi
         exact ((hCV i hi').2.2.2 j (by rw [(cells_get (hCV i hi').1).1]; exact hj)).1)
        (fun i j hi hj => by
         have hi' : i < len := by simpa using hi
         rw [hg i hi',hpk i hi']
         exact ((hCV i hi').2.2.2 j (by rw [(cells_get (hCV i hi').1).1]; exact hj)).2)
       simpa using this
   | struct fs =>
    obtain ⟨xs,m,hm,_,hlen,hxl,hall⟩ := DataW.trod_struct hu h
    cases hm
    obtain ⟨k1,k2,k3⟩ := kid_struct hl ht hu
    obtain ⟨vs,h1,h2⟩ := open_fields (P := P) (w := w) n (Fits P n) fs.toList cs (by rw [hlen,k2]) (fun j f hj => by
     have h3 := hall j f (by simpa using hj)
     have hj' : j < xs.length := by rw [hxl]; exact (by simpa using (List.getElem?_eq_some_iff.1 hj).1)
     rw [List.getElem?_eq_getElem hj'] at h3
     rw [k3 j f hj] at h3
     exact ih _ _ _ (k1 f (List.mem_of_getElem? hj)) (by simp only [hu] at hz0; exact List.all_eq_true.1 hz0 f (List.mem_of_getElem? hj)) h3)
    exact ⟨vs,by simp only [Fits,hu]; exact h1,h2⟩
   | array k e =>
    simp [hu] at hz0
   | _ =>
    refine gen ?_ trivial
    simp only [DataW.trod,hu] at h
    first
    |(cases h; done)
    |(split at h <;> first | (cases h; done) | exact ⟨_,rfl,rfl⟩ | (rename_i h1; cases h1; done) | (rename_i h1 _; cases h1; done))
end
end Go.Abs
namespace Go.Abs
section
variable {P : Program} {n : Nat} {t : TypeId} {vs : List Val}
theorem fits_int {k : IntKind} (hu : P.underlying t = some (.int k)) (h : Fits P (n + 1) t vs) : ∃ i,vs = [.int k i] := by
 simp only [Fits,hu] at h
 obtain ⟨i,h,_⟩ := h; exact ⟨i,h⟩
theorem fits_str (hu : P.underlying t = some .string) (h : Fits P (n + 1) t vs) : ∃ s : ByteArray,vs = [.str s] ∧ Few s.size := by
 simp only [Fits,hu] at h
 obtain ⟨s,h,k⟩ := h
 exact ⟨s,h,by unfold Few; unfold maxLen at k; omega⟩
theorem fits_struct {fs : Array Field} (hu : P.underlying t = some (.struct fs)) (h : Fits P (n + 1) t vs) : FitsFs P (Fits P n) fs.toList vs := by
 simp only [Fits,hu] at h; exact h
theorem fitsFs_mono {F F' : TypeId → List Val → Prop} (h : ∀ t vs,F t vs → F' t vs) : ∀ (fs : List Field) (vs : List Val),FitsFs P F fs vs → FitsFs P F' fs vs
 | [],vs,k => k
 | f :: fs,vs,⟨a,b,h1,h2,h3,h4⟩ => ⟨a,b,h1,h2,h _ _ h3,fitsFs_mono h fs b h4⟩
theorem fits_mono : ∀ (n : Nat) (t : TypeId) (vs : List Val),Fits P n t vs → Fits P (n + 1) t vs
 | 0,t,vs,h => by simp [Fits] at h
 | n + 1,t,vs,h => by
  rw [Fits] at h ⊢
  split
  ·rename_i hu; rw [hu] at h; exact h
  ·rename_i hu; rw [hu] at h; exact h
  ·rename_i hu; rw [hu] at h; exact h
  ·rename_i hu; rw [hu] at h
   obtain ⟨xs,h1,h2,h3⟩ := h
   exact ⟨xs,h1,h2,fun x hx => fits_mono n _ _ (h3 x hx)⟩
  ·rename_i hu; rw [hu] at h; exact fitsFs_mono (fits_mono n) _ _ h
  ·trivial
theorem fits_more (k : Nat) (h : Fits P n t vs) : Fits P (n + k) t vs := by
 induction k with
 | zero => exact h
 | succ k ih => exact fits_mono _ _ _ ih
theorem agg_of_reads {w : World} {x : Array Value} (h : Reads w vs x.toList) : VR (There w) Gh.none w (.agg vs) (.agg x) := by
 have e : ∀ i,x.getD i undef = x.toList.getD i undef := by
  intro i; simp [Array.getD_eq_getD_getElem?,List.getD_eq_getElem?_getD]
 have hl : vs.length = x.size := by simpa using h.1
 refine .agg vs x hl.symm (fun i hi => ?_) fun i hi => ?_
 ·rw [e]; exact (h.2 i (by rw [Array.length_toList]; omega)).1
 ·rw [e]; exact (h.2 i (by rw [Array.length_toList]; omega)).2
end
end Go.Abs
namespace Go.Abs
def lead (P : Program) (g : Nat) : List Nat := (P.funcs[g]?).elim [] P.leadsTo
theorem via_sub {P : Program} {G : Nat → Prop} (hc : ∀ g,G g → ∀ h ∈ lead P g,G h) : ∀ (n : Nat) (todo seen : List Nat),(∀ g ∈ todo,G g) → (∀ g ∈ seen,G g) → ∀ g ∈ P.closureVia n todo seen,G g
 | 0,_,seen,_,hs => fun g hg => hs g (by simpa [Program.closureVia] using hg)
 | n + 1,[],seen,_,hs => fun g hg => hs g (by simpa [Program.closureVia] using hg)
 | n + 1,f :: todo,seen,ht,hs => by
  rw [Program.closureVia]
  split
  ·exact via_sub hc n todo seen (fun g hg => ht g (List.mem_cons_of_mem _ hg)) hs
  ·refine via_sub hc n _ _ (fun g hg => ?_) (fun g hg => ?_)
   ·rcases List.mem_append.1 hg with h | h
    ·exact hc f (ht f List.mem_cons_self) g h
    ·exact ht g (List.mem_cons_of_mem _ h)
   ·rcases List.mem_cons.1 hg with rfl | h
    ·exact ht g List.mem_cons_self
    ·exact hs g h
def rest (P : Program) (seen : List Nat) : List Nat → Nat
 | [] => 0
 | g :: l => (if seen.contains g then 0 else (lead P g).length) + rest P seen l
theorem rest_le {P : Program} {seen : List Nat} (f : Nat) : ∀ l,rest P (f :: seen) l ≤ rest P seen l
 | [] => Nat.le_refl _
 | g :: l => by
  have := rest_le (P := P) (seen := seen) f l
  simp only [rest,List.contains_cons]
  by_cases h : (g == f) = true <;> by_cases h2 : seen.contains g = true <;> simp [h,h2] <;> omega
theorem rest_cons {P : Program} {seen : List Nat} {f : Nat} (hf : seen.contains f = false) : ∀ l,f ∈ l → rest P (f :: seen) l + (lead P f).length ≤ rest P seen l
 | [],h => by cases h
 | g :: l,h => by
  have h1 := rest_le (P := P) (seen := seen) f l
  simp only [rest,List.contains_cons]
  by_cases e : g = f
  ·subst e
   simp only [beq_self_eq_true,Bool.true_or,if_true,hf,Bool.false_eq_true,if_false]
   omega
  ·have hm : f ∈ l := by
    rcases List.mem_cons.1 h with h | h
    ·exact absurd h.symm e
    ·exact h
   have h2 := rest_cons (P := P) hf l hm
   have : (g == f) = false := by simpa using e
   simp only [this,Bool.false_or]
   omega
theorem via_all {P : Program} : ∀ (n : Nat) (todo seen : List Nat),todo.length + rest P seen (List.range P.funcs.size) ≤ n → (∀ g ∈ seen,∀ h ∈ lead P g,h ∈ seen ∨ h ∈ todo) →
  (∀ g,g ∈ seen ∨ g ∈ todo → g ∈ P.closureVia n todo seen) ∧ ∀ g ∈ P.closureVia n todo seen,∀ h ∈ lead P g,h ∈ P.closureVia n todo seen
 | 0,todo,seen,hn,hi => by
  have : todo = [] := List.length_eq_zero_iff.1 (by omega)
  subst this
  refine ⟨fun g hg => ?_,fun g hg h hh => ?_⟩
  ·rcases hg with h | h
   ·simpa [Program.closureVia] using h
   ·cases h
  ·have hg' : g ∈ seen := by simpa [Program.closureVia] using hg
   rcases hi g hg' h hh with h | h
   ·simpa [Program.closureVia] using h
   ·cases h
 | n + 1,[],seen,hn,hi => by
  refine ⟨fun g hg => ?_,fun g hg h hh => ?_⟩
  ·rcases hg with h | h
   ·simpa [Program.closureVia] using h
   ·cases h
  ·have hg' : g ∈ seen := by simpa [Program.closureVia] using hg
   rcases hi g hg' h hh with h | h
   ·simpa [Program.closureVia] using h
   ·cases h
 | n + 1,f :: todo,seen,hn,hi => by
  rw [Program.closureVia]
  by_cases hf : seen.contains f = true
  ·rw [if_pos hf]
   have hfs : f ∈ seen := by simpa using hf
   simp only [List.length_cons] at hn
   obtain ⟨a,b⟩ := via_all (P := P) n todo seen (by omega) (fun g hg h hh => by
    rcases hi g hg h hh with h1 | h1
    ·exact .inl h1
    ·rcases List.mem_cons.1 h1 with rfl | h1
     ·exact .inl hfs
     ·exact .inr h1)
   refine ⟨fun g hg => a g ?_,b⟩
   rcases hg with h | h
   ·exact .inl h
   ·rcases List.mem_cons.1 h with rfl | h
    ·exact .inl hfs
    ·exact .inr h
  ·rw [if_neg hf]
   have hf' : seen.contains f = false := by simpa using hf
   have hlen : (lead P f).length + rest P (f :: seen) (List.range P.funcs.size) ≤ rest P seen (List.range P.funcs.size) := by
    by_cases hs : f < P.funcs.size
    ·have := rest_cons (P := P) hf' _ (List.mem_range.2 hs)
     omega
    ·have : lead P f = [] := by unfold lead; rw [Array.getElem?_eq_none (by omega)]; rfl
     rw [this]
     have := rest_le (P := P) (seen := seen) f (List.range P.funcs.size)
     simpa using this
   simp only [List.length_cons] at hn
   obtain ⟨a,b⟩ := via_all (P := P) n (lead P f ++ todo) (f :: seen) (by simp only [List.length_append]; omega) (fun g hg h hh => by
    rcases List.mem_cons.1 hg with rfl | hg
    ·exact .inr (List.mem_append_left _ hh)
    ·rcases hi g hg h hh with h1 | h1
     ·exact .inl (List.mem_cons_of_mem _ h1)
     ·rcases List.mem_cons.1 h1 with rfl | h1
      ·exact .inl List.mem_cons_self
      ·exact .inr (List.mem_append_right _ h1))
   refine ⟨fun g hg => a g ?_,b⟩
   rcases hg with h | h
   ·exact .inl (List.mem_cons_of_mem _ h)
   ·rcases List.mem_cons.1 h with rfl | h
    ·exact .inl List.mem_cons_self
    ·exact .inr (List.mem_append_right _ h)
theorem rest_all {P : Program} : ∀ (l : List Func) (k : Nat),(∀ i,i < l.length → P.funcs[k + i]? = l[i]?) → rest P [] (List.range' k l.length) ≤ (l.map fun g => (P.leadsTo g).length + 1).sum
 | [],_,_ => Nat.zero_le _
 | g :: l,k,h => by
  have h0 := h 0 (by simp)
  have ih := rest_all (P := P) l (k + 1) (fun i hi => by
   have := h (i + 1) (by simp; omega)
   rw [show k + 1 + i = k + (i + 1) by omega,this]; rfl)
  simp only [Nat.add_zero,List.getElem?_cons_zero] at h0
  have e : lead P k = P.leadsTo g := by unfold lead; rw [h0]; rfl
  simp only [List.length_cons,List.range'_succ,rest,e,List.map_cons,List.sum_cons]
  have : ([] : List Nat).contains k = false := rfl
  rw [this]
  simp only [Bool.false_eq_true,if_false]
  omega
theorem closure_all (P : Program) (f : Nat) : f ∈ P.closure f ∧ ∀ g ∈ P.closure f,∀ h ∈ lead P g,h ∈ P.closure f := by
 have hr := rest_all (P := P) P.funcs.toList 0 (fun i _ => by simp)
 rw [← List.range_eq_range',Array.length_toList] at hr
 obtain ⟨a,b⟩ := via_all (P := P) (1 + (P.funcs.toList.map fun g => (P.leadsTo g).length + 1).sum) [f] [] (by simp only [List.length_cons,List.length_nil]; omega) (fun g hg => by cases hg)
 exact ⟨a f (.inr List.mem_cons_self),b⟩
theorem closure_step {P : Program} {f g h : Nat} {fn : Func} (hg : g ∈ P.closure f) (hfn : P.funcs[g]? = some fn) (hh : (P.leadsTo fn).contains h = true) : h ∈ P.closure f :=
 (closure_all P f).2 g hg h (by unfold lead; rw [hfn]; simpa using hh)
theorem zip_of {P : Program} {q : Func → Nat → Bool} (h : (P.funcs.toList.zipIdx.all fun p => q p.1 p.2) = true) {g : Nat} {fn : Func} (hfn : P.funcs[g]? = some fn) : q fn g = true := by
 rw [List.all_eq_true] at h
 exact h (fn,g) (by rw [List.mem_zipIdx_iff_getElem?]; simpa using hfn)
def tameB (P : Program) (good : Nat → Bool) : Bool := P.funcs.toList.zipIdx.all fun p => (p.1.body.elim [] Code.globalsNamed).isEmpty && (!good p.2 || ((P.leadsTo p.1).all good && !(p.1.ours || p.1.body.isNone || p.1.name == "runtime.NumGoroutine")))
theorem closure_tame {P : Program} {good : Nat → Bool} {f : Nat} (h : tameB P good = true) (hf : good f = true) : P.inPlace f = [] ∧ P.varsNamed f = [] := by
 have hz := fun g fn hfn => zip_of (q := fun a b => (a.body.elim [] Code.globalsNamed).isEmpty && (!good b || ((P.leadsTo a).all good && !(a.ours || a.body.isNone || a.name == "runtime.NumGoroutine")))) h (g := g) (fn := fn) hfn
 have hg : ∀ g ∈ P.closure f,good g = true := by
  refine via_sub (P := P) (G := fun g => good g = true) (fun g hg x hx => ?_) _ _ _ (fun g hg => ?_) (fun g hg => by cases hg)
  ·unfold lead at hx
   cases hfn : P.funcs[g]? with
   | none => rw [hfn] at hx; cases hx
   | some fn =>
    rw [hfn] at hx
    have := hz g fn hfn
    simp only [hg,Bool.not_true,Bool.false_or,Bool.and_eq_true,List.all_eq_true] at this
    exact this.2.1 x hx
  ·rw [List.mem_singleton.1 hg]; exact hf
 have hodd : ∀ g ∈ P.closure f,∀ fn,P.funcs[g]? = some fn → (fn.ours || fn.body.isNone || fn.name == "runtime.NumGoroutine") = false := fun g h1 fn hfn => by
  have := hz g fn hfn
  simp only [hg g h1,Bool.not_true,Bool.false_or,Bool.and_eq_true] at this
  simpa using this.2.2
 constructor
 ·unfold Program.inPlace
  rw [List.filterMap_eq_nil_iff]
  intro g h1
  cases hfn : P.funcs[g]? with
  | none => rfl
  | some fn =>
   simp only [Option.bind_some]
   rw [hodd g h1 fn hfn]; rfl
 ·unfold Program.varsNamed
  have e1 : ((P.closure f).flatMap fun g => ((P.funcs[g]?).bind (·.body)).elim [] Code.globalsNamed) = [] := by
   rw [List.flatMap_eq_nil_iff]
   intro g h1
   cases hfn : P.funcs[g]? with
   | none => rfl
   | some fn =>
    have := hz g fn hfn
    simp only [Bool.and_eq_true,List.isEmpty_iff] at this
    simp only [Option.bind_some]
    exact this.1
  have e2 : ((P.closure f).filterMap fun g => (P.funcs[g]?).bind fun fn => if fn.body.isNone then entryReads.lookup fn.name else none) = [] := by
   rw [List.filterMap_eq_nil_iff]
   intro g h1
   cases hfn : P.funcs[g]? with
   | none => rfl
   | some fn =>
    have := hodd g h1 fn hfn
    simp only [Bool.or_eq_false_iff] at this
    simp only [Option.bind_some,this.1.2,Bool.false_eq_true,if_false]
  rw [e1,e2]; rfl
theorem unf_of {P : Program} {f g : Nat} {fn : Func} (hg : g ∈ P.closure f) (hfn : P.funcs[g]? = some fn) (h : (match fn.body with | some c => c.unfollowed | none => entryCalls fn) = true) : P.unfollowed f = true ∧ P.recurses f = true := by
 have : P.unfollowed f = true := by
  unfold Program.unfollowed
  rw [List.any_eq_true]
  exact ⟨g,hg,by rw [hfn]; exact h⟩
 exact ⟨this,by unfold Program.recurses; rw [this]; rfl⟩
end Go.Abs
