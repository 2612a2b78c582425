/- The interpreter of the translated code, and its proof: part D. -/
import Derived.Test.YtmnchlhngpdffaaGreatHxC
import Derived.RecoverIn
import Derived.KernelRfl
import Derived.ProofKit
import Derived.OpenShut
import Derived.JoinedOf
import Derived.Test.YtmnchlhngpdffaaGreatHxA
set_option linter.all false
namespace Go.Abs
open Go.RowKit (Below)
variable [Inhabited Glob]
theorem exec_fail {L : Prog} {n : Nat} {st : St} {x : Ex × St} (h : exec L n failC st = some x) : False := by
 cases n <;> simp [failC,exec,St.get] at h
theorem inl_ok {P : Program} {L : Prog} (hL : LowOk P L) {n : Nat} (hF : FnOk P L n) (ih : ExecOk P L n) : InlOk P (inlOf L (exec L n)) := ⟨inlN_fn hL hF,inl_yld ih⟩
theorem inl_fr {L : Prog} {ex : LCode → St → Option (Ex × St)} {f : Nat} {args : List Val} {st st' : St} {v : Val} (h : inlWith L ex f args st = some (v,st')) : st'.fr = st.fr := by
 simp only [inlWith] at h
 split at h
 ·cases h
 split at h
 case isFalse => cases h
 split at h
 ·obtain ⟨r,_,he⟩ := Option.map_eq_some_iff.1 h
  simp only [Prod.mk.injEq] at he
  rw [← he.2]
 split at h
 case h_2 => cases h
 split at h
 case isFalse => cases h
 obtain ⟨vs,_,he⟩ := Option.map_eq_some_iff.1 h
 simp only [Prod.mk.injEq] at he
 rw [← he.2]
theorem pin_fr {L : Prog} {ex : LCode → St → Option (Ex × St)} {f : Nat} {args : List Val} {st st' : St} {v : Val} (h : panIn L ex f args st = some (v,st')) : st'.fr = st.fr := by
 simp only [panIn] at h
 split at h
 ·cases h
 split at h
 case isFalse => cases h
 split at h
 case h_2 => cases h
 simp only [Option.some.injEq,Prod.mk.injEq] at h
 rw [← h.2]
theorem inlN_fr {L : Prog} {ex : LCode → St → Option (Ex × St)} {f : Nat} {args : List Val} {st st' : St} {v : Val} (h : inlN L ex f args st = some (v,st')) : st'.fr = st.fr := by
 simp only [inlN] at h
 split at h
 case h_2 => cases h
 rename_i hi
 split at h
 case h_2 => cases h
 split at h
 case h_2 => cases h
 simp only [Option.some.injEq,Prod.mk.injEq] at h
 have := inl_fr hi
 rw [← h.2]; exact this
theorem range_core {P : Program} {L : Prog} (hL : LowOk P L) {n : Nat} (hF : FnOk P L n) {I : Operand → Bool} {N : Nat} {ps : Array Tmp} {ca cb : Code} {st : St} {e : Ex} {st' : St} {Ξ : Env} {B : Nat} {S : Nat → Nat → Prop} {G : Gh} {a0 : Act} {w W0 : World}
  {Q : Exit → Act → World → Prop} {m : Nat} {f : Nat} {x y : List Val} {p q : Array Value} (hps : ps.toList.all (· < N) = true) (haN : (lower P I ca).dstOk N = true) (hbN : (lower P I cb).dstOk N = true) (hR : Rel P Ξ B S G st N a0 W0) (hB0 : Below B w W0)
  (hp : p.size = x.length) (hq : q.size = y.length) (hvp : ∀ i,i < x.length → VR (Stab B S G W0.heap.size) G W0 (x.getD i .dead) (p.getD i undef)) (hvq : ∀ i,i < y.length → VR (Stab B S G W0.heap.size) G W0 (y.getD i .dead) (q.getD i undef))
  (hcx : (∃ v st2,inlN L (exec L n) f (x ++ [.yld ⟨1,0,st.cnt 1 0⟩] ++ y) { fr := st.fr,en := st.en.set ⟨1,0,st.cnt 1 0⟩ (some (.loop st.fr ps.toList (lower P I ca) (lower P I cb) .ready)),cnt := setCnt st.cnt 1 0 (st.cnt 1 0 + 1) } = some (v,st2) ∧
   (match st2.en ⟨1,0,st.cnt 1 0⟩ with
   | some (.loop _ _ _ _ .ready) => some (.normal,{ st2 with en := st2.en.set ⟨1,0,st.cnt 1 0⟩ none })
   | some (.loop _ _ _ _ (.done e)) => some (e,{ st2 with en := st2.en.set ⟨1,0,st.cnt 1 0⟩ none })
   | _ => none : Option (Ex × St)) = some (e,st')) ∨
   ∃ v st2,panIn L (exec L n) f (x ++ [.yld ⟨1,0,st.cnt 1 0⟩] ++ y) { fr := st.fr,en := st.en.set ⟨1,0,st.cnt 1 0⟩ (some (.loop st.fr ps.toList (lower P I ca) (lower P I cb) .ready)),cnt := setCnt st.cnt 1 0 (st.cnt 1 0 + 1) } = some (v,st2) ∧
    e = .panic v ∧ st' = { st2 with en := st2.en.set ⟨1,0,st.cnt 1 0⟩ none }) (hQ : ∀ a' w' G' x,e.val x → RelE P Ξ B S G' st' N e a' w' → Below B w w' → Q (e.toExit x) a' w') (rec : Loop)
  (hrec : rec.state = .ready ∧ rec.pending = none ∧ rec.tmps = a0.tmps ∧ rec.params = ps ∧ rec.assign = ca ∧ rec.body = cb) (mm : Nat) :
  CallsIn (Fx Ξ.ro) mm P f (p ++ #[.func (.yield W0.heap.size) #[] #[]] ++ q) (W0.alloc (.loop rec)) (rangePost (Fx Ξ.ro) m P W0.heap.size Q a0) := by
 obtain ⟨rfl1,rfl2,rfl3,rfl4,rfl5,rfl6⟩ := hrec
 obtain ⟨k,hk⟩ : ∃ k : Key,k = ⟨1,0,st.cnt 1 0⟩ := ⟨_,rfl⟩
 have hf := hR.freshG ⟨1,0,st.cnt 1 0⟩ (Nat.le_refl _)
 have hg := Gh.le_addMp (b := W0.heap.size) hf.2.2
 have ho' : ∀ b,b ≠ W0.heap.size → (G.addMp ⟨1,0,st.cnt 1 0⟩ W0.heap.size).own b = G.own b := fun b hb => by simp [Gh.addMp,hb]
 have mm1 := mono_alloc (B := B) (S := S) (w := W0) (o := .loop rec) hg ho'
 have hnew : (W0.alloc (.loop rec)).heap[W0.heap.size]? = some (.loop rec) := heap_alloc_new _ _
 have hsz : N ≤ rec.tmps.size := by rw [rfl3]; exact hR.tmps
 have hfrm : ∀ i,VR (Stab B S (G.addMp ⟨1,0,st.cnt 1 0⟩ W0.heap.size) (W0.alloc (.loop rec)).heap.size) (G.addMp ⟨1,0,st.cnt 1 0⟩ W0.heap.size) (W0.alloc (.loop rec)) (st.fr i) (rec.tmps.getD i undef) := fun i => by rw [rfl3]; exact (hR.frame i).mono mm1
 have hmk : (G.addMp ⟨1,0,st.cnt 1 0⟩ W0.heap.size).mp ⟨1,0,st.cnt 1 0⟩ = some W0.heap.size := by simp [Gh.addMp]
 have how : (G.addMp ⟨1,0,st.cnt 1 0⟩ W0.heap.size).own W0.heap.size = some (⟨1,0,st.cnt 1 0⟩,0) := by simp [Gh.addMp]
 have hE : ER P B (Stab B S (G.addMp ⟨1,0,st.cnt 1 0⟩ W0.heap.size) (W0.alloc (.loop rec)).heap.size) (G.addMp ⟨1,0,st.cnt 1 0⟩ W0.heap.size) (W0.alloc (.loop rec)) ⟨1,0,st.cnt 1 0⟩ (.loop st.fr ps.toList (lower P I ca) (lower P I cb) .ready) :=
  ER.loop st.fr ps.toList (lower P I ca) (lower P I cb) .ready W0.heap.size rec I N hmk hR.size hnew (by rw [rfl4]) (by rw [rfl5]) (by rw [rfl6]) hsz hps haN hbN hfrm ⟨rfl1,rfl2⟩ how
 have hR1 := hR.allocN 1 0 (.loop rec) (.loop st.fr ps.toList (lower P I ca) (lower P I cb) .ready) (G.addMp ⟨1,0,st.cnt 1 0⟩ W0.heap.size) hg ho' (fun k' hk' => ⟨rfl,rfl,by simp [Gh.addMp,hk']⟩) (fun k' t h => by rw [how] at h; simp only [Option.some.injEq,Prod.mk.injEq] at h; exact h.1.symm) hE
 let Ξ2 : Env := { Ξ with prs := fun u z => Ξ.prs u z ∨ (u = .yld ⟨1,0,st.cnt 1 0⟩ ∧ z = .func (.yield W0.heap.size) #[] #[]) }
 have hyl : VR (Stab B S (G.addMp ⟨1,0,st.cnt 1 0⟩ W0.heap.size) (W0.alloc (.loop rec)).heap.size) (G.addMp ⟨1,0,st.cnt 1 0⟩ W0.heap.size) (W0.alloc (.loop rec)) (.yld ⟨1,0,st.cnt 1 0⟩) (.func (.yield W0.heap.size) #[] #[]) := .yld _ _ (by simp [Gh.addMp])
 have hR2 : Rel P Ξ2 B S (G.addMp ⟨1,0,st.cnt 1 0⟩ W0.heap.size) { fr := st.fr,en := st.en.set ⟨1,0,st.cnt 1 0⟩ (some (.loop st.fr ps.toList (lower P I ca) (lower P I cb) .ready)),cnt := setCnt st.cnt 1 0 (st.cnt 1 0 + 1) } N a0 (W0.alloc (.loop rec)) :=
  ⟨hR1.size,hR1.tmps,hR1.frame,hR1.marks,hR1.ents,hR1.freshEn,hR1.freshG,hR1.own,fun u z hu => hu.elim (fun hu => hu.elim (fun h => hR1.extra u z (.inl h)) fun h => by rw [h.1,h.2]; exact hyl) fun h => hR1.extra u z (.inr h),hR1.round,hR1.defs,hR1.virt⟩
 have hszv : (p ++ #[Value.func (.yield W0.heap.size) #[] #[]] ++ q).size = (x ++ [Val.yld ⟨1,0,st.cnt 1 0⟩] ++ y).length := by simp only [Array.size_append,List.length_append,hp,hq]; rfl
 have hvrs : ∀ i,i < (x ++ [Val.yld ⟨1,0,st.cnt 1 0⟩] ++ y).length → VR (Stab B S (G.addMp ⟨1,0,st.cnt 1 0⟩ W0.heap.size) (W0.alloc (.loop rec)).heap.size) (G.addMp ⟨1,0,st.cnt 1 0⟩ W0.heap.size) (W0.alloc (.loop rec))
   ((x ++ [Val.yld ⟨1,0,st.cnt 1 0⟩] ++ y).getD i .dead) ((p ++ #[Value.func (.yield W0.heap.size) #[] #[]] ++ q).getD i undef) := by
  intro i hi
  simp only [List.length_append,List.length_cons,List.length_nil] at hi
  simp only [List.getD_eq_getElem?_getD,Array.getD_eq_getD_getElem?,List.getElem?_append,Array.getElem?_append,List.length_append,Array.size_append,List.length_cons,List.length_nil,hp]
  rw [show (#[Value.func (.yield W0.heap.size) #[] #[]] : Array Value).size = 1 from rfl]
  split
  ·split
   ·rename_i h; have := (hvp i h).mono mm1; simpa [List.getD_eq_getElem?_getD,Array.getD_eq_getD_getElem?] using this
   ·have : i - x.length = 0 := by omega
    rw [this]; exact hyl
  ·have := (hvq (i - (x.length + (0 + 1))) (by omega)).mono mm1; simpa [List.getD_eq_getElem?_getD,Array.getD_eq_getD_getElem?] using this
 rcases hcx with ⟨v,st2,hcall,hx⟩ | ⟨v,st2,hcall,rfl,rfl⟩
 case inr =>
  obtain ⟨_,hcalls⟩ := pin_fn hL hF _ _ _ _ _ hcall
  have hc := hcalls Ξ2 B S _ _ N a0 _ _ hR2 rfl rfl hszv hvrs
  refine callsIn_any (ro := Ξ.ro) (m := mm) (Calls.mono hc ?_)
  rintro e1 w3 ⟨z,G3,rfl,hzv,hR3,hb3⟩
  have hb : Below B w w3 := (hB0.trans ((Below.refl B W0).alloc hR.size _)).trans hb3
  have hw' := hR3.drop ⟨1,0,st.cnt 1 0⟩
  have hfr := pin_fr hcall
  refine hQ a0 w3 G3 z hzv ?_ hb
  have hst : ({ st2 with en := st2.en.set ⟨1,0,st.cnt 1 0⟩ none } : St) = { fr := st.fr,en := st2.en.set ⟨1,0,st.cnt 1 0⟩ none,cnt := st2.cnt } := by rw [← hfr]
  rw [hst]
  refine Rel.e (Ξ := Ξ) ⟨hw'.size,hw'.tmps,hw'.frame,hw'.marks,hw'.ents,hw'.freshEn,hw'.freshG,hw'.own,fun u z hu => hw'.extra u z (hu.imp_left .inl),hw'.round,hw'.defs,hw'.virt⟩
 obtain ⟨_,hcalls⟩ := inlN_fn hL hF _ _ _ _ _ hcall
 have hc := hcalls Ξ2 B S _ _ N a0 _ _ hR2 rfl rfl hszv hvrs
 refine callsIn_any (ro := Ξ.ro) (m := mm) (Calls.mono hc ?_)
 ·rintro e1 w3 ⟨z,G3,rfl,hR3,_,hb3⟩
  have hb : Below B w w3 := (hB0.trans ((Below.refl B W0).alloc hR.size _)).trans hb3
  have hy3 := hR3.extra (.yld ⟨1,0,st.cnt 1 0⟩) (.func (.yield W0.heap.size) #[] #[]) (.inl (.inr ⟨rfl,rfl⟩))
  have hfr := inlN_fr hcall
  have done : ∀ {fr3 : Nat → Val} {ps3 : List Nat} {la3 lb3 : LCode} {q3 : LSt},st2.en ⟨1,0,st.cnt 1 0⟩ = some (.loop fr3 ps3 la3 lb3 q3) → q3 ≠ .busy → ∃ rec3,w3.heap[W0.heap.size]? = some (.loop rec3) ∧ LStR q3 rec3 ∧ (rec3.state ≠ .busy →
    Rel P Ξ B S G3 { fr := st.fr,en := st2.en.set ⟨1,0,st.cnt 1 0⟩ none,cnt := st2.cnt } N a0 (w3.putObj W0.heap.size (.loop { rec3 with state := .exhausted })) ∧ Below B w (w3.putObj W0.heap.size (.loop { rec3 with state := .exhausted }))) := by
   intro fr3 ps3 la3 lb3 q3 he3 _
   cases hy3 with
   | yld _ _ hmp3 =>
   have hE := hR3.ents _ _ he3 (Gh.knows_mp hmp3)
   cases hE with
   | loop _ _ _ _ _ l3 rec3 I3 N3 hl3 hB3 hh3 hps3 ha3 hb3' hN3 hpN3 haN3 hbN3 hf3 hst3 hown3 =>
   rw [hmp3] at hl3; simp only [Option.some.injEq] at hl3; subst hl3
   refine ⟨rec3,hh3,hst3,fun _ => ?_⟩
   have hw := (hR3.write (e' := .loop fr3 ps3 la3 lb3 .over) (o' := .loop { rec3 with state := .exhausted }) hown3 hh3 (fun _ _ => .inl (by simp)) (fun _ => by simp) (fun r _ => ⟨_,rfl⟩) (fun off h => by omega)
    (fun m => .loop fr3 ps3 la3 lb3 .over _ _ I3 N3 hmp3 hB3 (wput_same _ (heap_lt hh3)) hps3 ha3 hb3' hN3 hpN3 haN3 hbN3 (fun i => (hf3 i).mono m) rfl hown3)).drop ⟨1,0,st.cnt 1 0⟩
   rw [putObj_wput]
   refine ⟨?_,hb.trans (below_put hB3)⟩
   have hen : (st2.en.set ⟨1,0,st.cnt 1 0⟩ (some (.loop fr3 ps3 la3 lb3 .over))).set ⟨1,0,st.cnt 1 0⟩ none = st2.en.set ⟨1,0,st.cnt 1 0⟩ none := by
    funext k'; simp only [En.set]; split <;> rfl
   have hw' : Rel P Ξ2 B S G3 { fr := st.fr,en := st2.en.set ⟨1,0,st.cnt 1 0⟩ none,cnt := st2.cnt } N a0 (wput w3 W0.heap.size (.loop { rec3 with state := .exhausted })) := by
    rw [← hen]; exact hw
   exact ⟨hw'.size,hw'.tmps,hw'.frame,hw'.marks,hw'.ents,hw'.freshEn,hw'.freshG,hw'.own,fun u z hu => hw'.extra u z (hu.imp_left .inl),hw'.round,hw'.defs,hw'.virt⟩
  have hst : ({ fr := st2.fr,en := st2.en.set ⟨1,0,st.cnt 1 0⟩ none,cnt := st2.cnt } : St) = { fr := st.fr,en := st2.en.set ⟨1,0,st.cnt 1 0⟩ none,cnt := st2.cnt } := by rw [hfr]
  split at hx
  ·rename_i he3
   obtain ⟨rec3,hh3,hq3,hfin⟩ := done he3 (by simp)
   obtain ⟨r1,r2⟩ := hfin (by rw [hq3.1]; simp)
   simp only [Option.some.injEq,Prod.mk.injEq] at hx
   obtain ⟨rfl,rfl⟩ := hx
   refine ⟨_,_,run_endLoop hh3 (by rw [hq3.1]; simp),?_⟩
   have hq := hQ a0 _ G3 undef trivial (by rw [hst]; exact r1.e) r2
   split
   ·exact hq
   ·rename_i c hc; rw [hq3.2] at hc; cases hc
  ·rename_i e3 he3
   obtain ⟨rec3,hh3,hq3,hfin⟩ := done he3 (by simp)
   obtain ⟨r1,r2⟩ := hfin (by rw [hq3.1]; simp)
   simp only [Option.some.injEq,Prod.mk.injEq] at hx
   obtain ⟨rfl,rfl⟩ := hx
   refine ⟨_,_,run_endLoop hh3 (by rw [hq3.1]; simp),?_⟩
   have hq := hQ a0 _ G3 undef (by cases e3 <;> first | trivial | (have := hq3.2.2.2; cases this)) (by rw [hst]; exact r1.e) r2
   split
   ·rename_i hc; rw [hq3.2.1] at hc; cases hc
   rename_i c hc
   rw [hq3.2.1,Option.some.injEq] at hc
   subst hc
   cases e3 with
   | normal => exact absurd rfl hq3.2.2.1
   | panic v => have := hq3.2.2.2; cases this
   | exit id => exact wpIn_exit hq
   | ret => exact wpIn_ret hq
  ·cases hx
theorem exec_range {P : Program} {L : Prog} (hL : LowOk P L) {n : Nat} (hF : FnOk P L n) {I : Operand → Bool} {N : Nat} {g : Operand} {g' : Opd} {ps : Array Tmp} {ca cb : Code} {st : St} {e : Ex} {st' : St} {Ξ : Env} {B : Nat} {S : Nat → Nat → Prop} {G : Gh} {a : Act} {w : World}
  {Q : Exit → Act → World → Prop} {m : Nat} (hg : lowOpd g = some g') (hps : ps.toList.all (· < N) = true) (haN : (lower P I ca).dstOk N = true) (hbN : (lower P I cb).dstOk N = true) (hnm : Ξ.nm = false) (hR : Rel P Ξ B S G st N a w)
  (hx : rangeWith L (exec L n) (St.get st.fr g') ps.toList (lower P I ca) (lower P I cb) st = some (e,st')) (hQ : ∀ a' w' G' x,e.val x → RelE P Ξ B S G' st' N e a' w' → Below B w w' → Q (e.toExit x) a' w') :
  (Code.rangeFunc g ps ca cb).wpIn (Fx Ξ.ro) m P Q a w := by
 unfold rangeWith at hx
 split at hx
 case h_2 => cases hx
 rename_i f x y hgv
 have hG := opd_sound hR hg
 rw [hgv] at hG
 generalize hgF : a.eval g = uF at hG
 cases hG with
 | fn _ _ _ p q hp hq hvp hvq =>
 simp only at hx
 obtain ⟨⟨fn,hfn,hnm1,hbody⟩,hcx⟩ : (∃ fn,P.funcs[f]? = some fn ∧ (fn.name == "runtime.NumGoroutine") = false ∧ fn.body.isNone = false) ∧ ((∃ v st2,inlN L (exec L n) f (x ++ [.yld ⟨1,0,st.cnt 1 0⟩] ++ y) { fr := st.fr,en := st.en.set ⟨1,0,st.cnt 1 0⟩ (some (.loop st.fr ps.toList (lower P I ca) (lower P I cb) .ready)),cnt := setCnt st.cnt 1 0 (st.cnt 1 0 + 1) } = some (v,st2) ∧
   (match st2.en ⟨1,0,st.cnt 1 0⟩ with
   | some (.loop _ _ _ _ .ready) => some (.normal,{ st2 with en := st2.en.set ⟨1,0,st.cnt 1 0⟩ none })
   | some (.loop _ _ _ _ (.done e)) => some (e,{ st2 with en := st2.en.set ⟨1,0,st.cnt 1 0⟩ none })
   | _ => none : Option (Ex × St)) = some (e,st')) ∨
   ∃ v st2,panIn L (exec L n) f (x ++ [.yld ⟨1,0,st.cnt 1 0⟩] ++ y) { fr := st.fr,en := st.en.set ⟨1,0,st.cnt 1 0⟩ (some (.loop st.fr ps.toList (lower P I ca) (lower P I cb) .ready)),cnt := setCnt st.cnt 1 0 (st.cnt 1 0 + 1) } = some (v,st2) ∧
    e = .panic v ∧ st' = { st2 with en := st2.en.set ⟨1,0,st.cnt 1 0⟩ none }) := by
  split at hx
  ·rename_i v st2 hcall
   exact ⟨(inlN_fn hL hF _ _ _ _ _ hcall).1,.inl ⟨v,st2,hcall,hx⟩⟩
  ·split at hx
   case h_2 => cases hx
   rename_i v st2 hcall
   simp only [Option.some.injEq,Prod.mk.injEq] at hx
   exact ⟨(pin_fn hL hF _ _ _ _ _ hcall).1,.inr ⟨v,st2,hcall,hx.1.symm,hx.2.symm⟩⟩
 have hnm' : ¬ fn.name = "runtime.NumGoroutine" := by simpa using hnm1
 have hbody' : ¬ fn.body = none := by intro h; rw [h] at hbody; cases hbody
 have call : ∀ (l : Nat) (W : World),(resolve a.eval (rangeCall g l) 0).run P W = .ok { target := .fn (.func f) q,args := p ++ #[.func (.yield l) #[] #[]] } W ∧
   (invoke (.fn (.func f) q) (p ++ #[.func (.yield l) #[] #[]])).run P W = .ok (.enter f (p ++ #[.func (.yield l) #[] #[]] ++ q)) W := by
  intro l W
  constructor
  ·have hc : a.eval (.const (.func (.yield l) #[] #[])) = .func (.yield l) #[] #[] := rfl
   simp [resolve,rangeCall,hgF,Deferred.ofValue,hc]
  ·simp [invoke,callFunc,hfn,hnm',hbody']
 refine wpIn_rangeFunc fun fnid _ => ?_
 have below_vr : ∀ {W : World},Below w.heap.size w W → (∀ i,i < x.length → VR (Stab B S G W.heap.size) G W (x.getD i .dead) (p.getD i undef)) ∧ ∀ i,i < y.length → VR (Stab B S G W.heap.size) G W (y.getD i .dead) (q.getD i undef) :=
  fun hb => ⟨fun i hi => (hvp i hi).mono (mono_below hb),fun i hi => (hvq i hi).mono (mono_below hb)⟩
 cases hro : Ξ.ro with
 | none =>
  have hb0 : Below w.heap.size w (w.alloc (.deferred (some []))) := (Below.refl _ w).alloc (Nat.le_refl _) _
  have hR0 := hR.below hb0
  obtain ⟨Ds,d1,d2,d3⟩ := hR0.marks
  have hnew : (w.alloc (.deferred (some []))).heap[w.heap.size]? = some (.deferred (some [])) := heap_alloc_new _ _
  have hold : ∀ D ∈ Ds,D < w.heap.size := fun D hD => by
   obtain ⟨Ds',d1',d2',d3'⟩ := hR.marks
   have : Ds.map mark = Ds'.map mark := List.append_cancel_right (by rw [← d1,← d1'])
   have hm : mark D ∈ Ds'.map mark := by rw [← this]; exact List.mem_map.2 ⟨D,hD,rfl⟩
   obtain ⟨D',h1,h2⟩ := List.mem_map.1 hm
   have : D' = D := by simpa [mark] using h2
   subst this
   exact heap_lt (d3' _ h1).2.2
  have hR1 : Rel P Ξ B S G st N { a with defers := [mark w.heap.size] ++ a.defers } (w.alloc (.deferred (some []))) :=
   ⟨hR0.size,hR0.tmps,hR0.frame,⟨w.heap.size :: Ds,by simp [d1],⟨by rw [List.nodup_cons]; exact ⟨fun h => by have := hold _ h; omega,d2.1⟩,fun h => by rw [hnm] at h; cases h⟩,fun D hD => by
     rcases List.mem_cons.1 hD with rfl | hD
     ·exact ⟨hR.size,fun h => by have := heap_lt (hR.defs _ h); omega,hnew⟩
     ·exact d3 D hD⟩,hR0.ents,hR0.freshEn,hR0.freshG,hR0.own,hR0.extra,hR0.round,hR0.defs,hR0.virt⟩
  obtain ⟨v1,v2⟩ := below_vr hb0
  refine ⟨_,_,_,_,_,f,_,_,by rw [show (Fx none).round = none from rfl]; exact run_enterLoop_outer fnid a.tmps ps ca cb,(call _ _).1,fun _ _ => trivial,(call _ _).2,fun h => by simp [Fx,Fence.wide] at h,?_⟩
  have := range_core hL hF (Q := Q) (m := m) hps haN hbN hR1 (Below.mono hb0 hR.size) hp hq v1 v2 hcx hQ { state := .ready,pending := none,fn := fnid,tmps := a.tmps,params := ps,assign := ca,body := cb,defers := w.heap.size } ⟨rfl,rfl,rfl,rfl,rfl,rfl⟩ (m - 1)
  rw [hro,size_alloc] at this
  exact this
 | some l0 =>
  obtain ⟨r0,hr0⟩ := hR.round l0 (.inl hro)
  refine ⟨_,_,_,_,_,f,_,_,by rw [show (Fx (some l0)).round = some l0 from rfl]; exact run_enterLoop_inner hr0 fnid a.tmps ps ca cb,(call _ _).1,fun _ _ => trivial,(call _ _).2,fun h => by simp [Fx,Fence.wide] at h,?_⟩
  have := range_core hL hF (Q := Q) (m := m) hps haN hbN hR (Below.refl _ _) hp hq hvp hvq hcx hQ { state := .ready,pending := none,fn := fnid,tmps := a.tmps,params := ps,assign := ca,body := cb,defers := r0.defers } ⟨rfl,rfl,rfl,rfl,rfl,rfl⟩ (m - 1)
  rw [hro] at this
  exact this
section
variable {P : Program} {b : Frame} {a : Act} {k : List Item} {cs : List Frame} {w : World} {Q : Exit → Act → World → Prop} {F : Fence} {n : Nat}
theorem stepR_scope' {c : Code} : Go.step P (lone (b.atR a (.code (.scope c) :: k)) cs w) = .next (lone (b.atR a (.code c :: .inScope c :: k)) cs w) :=
 step_lone_go (by simp [stepG,stepG.exec,Frame.atR])
theorem stepR_inScope' {c : Code} : Go.step P (lone (b.atR a (.inScope c :: k)) cs w) = .next (lone (b.atR a k) cs w) :=
 step_lone_go (by simp [stepG,stepG.exec,Frame.atR])
theorem wpIn_scope' {c : Code} (h : c.wpIn F n P (Exit.noGoto Q) a w) : (Code.scope c).wpIn F n P Q a w := by
 intro b k cs hro hb hr
 have h0 : (lone (b.atR a (.code (.scope c) :: k)) cs w).fenced P F := fenced_calm hb hr rfl
 obtain ⟨e,a₁,w₁,hq,harr⟩ := h b (.inScope c :: k) cs hro hb hr
 cases e with
 | normal => exact ⟨.normal,a₁,w₁,hq,.head h0 stepR_scope' (StepsIn.trans harr (.one (fenced_calm hb hr rfl) stepR_inScope'))⟩
 | exit id' =>
  have hx : exitTo id' (.inScope c :: k) = exitTo id' k := by simp [exitTo]
  exact ⟨.exit id',a₁,w₁,hq,fun k' hk => .head h0 stepR_scope' (harr.1 k' (by rw [hx]; exact hk)),
   fun hr' hk => let ⟨k₁,h1,h2⟩ := harr.2 hr' (by rw [hx]; exact hk); ⟨k₁,h1,.head h0 stepR_scope' h2⟩⟩
 | goto l => exact hq.elim
 | ret => exact ⟨_,a₁,w₁,hq,.of_steps (.one h0 stepR_scope') harr⟩
 | panic ch => exact ⟨_,a₁,w₁,hq,.of_steps (.one h0 stepR_scope') harr⟩
 | outgrown => exact ⟨_,a₁,w₁,hq,.of_steps (.one h0 stepR_scope') harr⟩
end
theorem exec_step {P : Program} (hm : P.follows .mixedOrders = true) {L : Prog} (hL : LowOk P L) {n : Nat} (hc : CallOk P (callWith L 8 (exec L n))) (hF : FnOk P L n) (ihs : ∀ m,m ≤ n → ExecOk P L m) : ExecOk P L (n + 1) := by
 have ih := ihs n (Nat.le_refl _)
 have hio := inl_ok hL hF ih
 intro I N c
 induction c <;> intro st e st' Ξ B S G a w Q m hd hnr hR hx hQ
 case skip =>
  simp only [lower,exec,Option.some.injEq,Prod.mk.injEq] at hx
  obtain ⟨rfl,rfl⟩ := hx
  exact wpIn_skip (hQ a w G undef trivial hR.e (Below.refl _ _))
 case label l =>
  simp only [lower,exec,Option.some.injEq,Prod.mk.injEq] at hx
  obtain ⟨rfl,rfl⟩ := hx
  exact wpIn_label (hQ a w G undef trivial hR.e (Below.refl _ _))
 case region id ops dr =>
  cases dr with
  | false =>
   simp only [lower,Bool.false_eq_true,if_false] at hd hx
   cases hlow : mapO (lowOper P I ops) ops.toList with
   | none => rw [hlow] at hx; exact (exec_fail hx).elim
   | some l =>
    rw [hlow] at hx hd
    simp only [Option.map_some,Option.getD_some] at hx hd
    cases hX : l.any (panicky I) with
    | true =>
     simp only [hX,if_true] at hx hd
     rw [exec] at hx
     refine wpIn_region ?_
     rw [List.range_eq_range']
     exact opsP_sound hc hio (pan_fn hL hF) (pin_fn hL hF) hlow hd ops.size 0 st st' e G a w (by omega) hR (by simpa using hx) hQ
    | false =>
    simp only [hX,Bool.false_eq_true,if_false] at hx hd
    rw [exec] at hx
    obtain ⟨s1,hrun,he⟩ := Option.map_eq_some_iff.1 hx
    simp only [Prod.mk.injEq] at he
    obtain ⟨rfl,rfl⟩ := he
    refine wpIn_region ?_
    rw [List.range_eq_range']
    exact ops_sound hc hio hlow hd ops.size 0 st s1 G a w (by omega) hR (by simpa using hrun) fun a' w' G' h1 h2 => hQ a' w' G' undef trivial h1.e h2
  | true =>
   simp only [lower,if_true] at hd hx
   cases hld : lowDraw P I ops with
   | none => rw [hld] at hx; exact (exec_fail hx).elim
   | some c' =>
    rw [hld] at hx hd
    simp only [lowDraw,Option.bind_eq_bind,Option.bind_eq_some_iff,Option.pure_def,Option.some.injEq] at hld
    obtain ⟨l,hlow,an,han,ps,hps,rfl⟩ := hld
    have hb : Below w.heap.size w { w with drawn := w.drawn + 1 } := (Below.refl _ w).drew
    have hd' : l.all (fun o => o.dst.all (· < N)) = true := by
     cases hX : l.any (panicky I) with
     | false => simpa [hX,LCode.dstOk] using hd
     | true =>
      cases hlt : lateOf an l <;> simpa [hX,hlt,LCode.dstOk] using hd
    have drawOk : ∀ s1 rs,runRec 8 (callWith L 8 (exec L n)) (inlOf L (exec L n)) 0 l st = some (s1,rs) → pairsOk rs ps = true → e = .normal → st' = s1 → (Code.region id ops true).wpIn (Fx Ξ.ro) m P Q a w := by
     rintro s1 rs hrun hok rfl rfl
     refine wpIn_region_any hm (any_sound (Ξ := Ξ) (B := B) (S := S) hc hio hlow hd' han hps hrun hok ops.size (Array.replicate ops.size false) G a _ (by simp) ?_ ?_ ?_ ?_)
     ·refine Nat.le_trans List.countP_le_length (by simp)
     ·intro j o ho hL
      simp [Array.getElem?_replicate] at hL
      split at hL <;> simp at hL
     ·rw [foldE_congr (L' := fun _ => false) fun i _ => by simp [Array.getElem?_replicate]; split <;> simp]
      have : ∀ (k : Nat),foldE (fun k => effO (l.getD k default) (rs.getD k noRes)) (fun _ => false) st k = st := by
       intro k; induction k with
       | zero => rfl
       | succ k ih => simp only [foldE,Bool.false_eq_true,if_false]; exact ih
      rw [this]; exact hR.below hb
     ·exact fun a' w' G' h1 h2 => hQ a' w' G' undef trivial h1.e ⟨h2.os,h2.tape,h2.output,h2.size,h2.block⟩
    cases hX : l.any (panicky I) with
    | true =>
     simp only [hX,if_true,Option.getD_some] at hx
     cases hlt : lateOf an l with
     | some A =>
      simp only [hlt] at hx
      rw [exec] at hx
      have hlate := List.find?_some hlt
      have hA : A < l.length := List.mem_range.1 (List.mem_of_find?_eq_some hlt)
      simp only [lateAt,Bool.and_eq_true,List.isEmpty_iff,Option.isNone_iff_eq_none,Option.isSome_iff_exists] at hlate
      obtain ⟨⟨⟨⟨_,hg⟩,hop⟩,d,hdst⟩,_⟩ := hlate
      obtain ⟨z,hAo⟩ : ∃ z,l.getD A default = { dst := some d,op := .alloc z,guard := none } := by
       generalize l.getD A default = o at hg hop hdst
       obtain ⟨od,oo,og⟩ := o
       simp only at hg hop hdst
       subst hg hdst
       cases oo <;> first | exact ⟨_,rfl⟩ | cases hop
      have hkey : lateKey st (l.getD A default) = ⟨0,d,st.cnt 0 d⟩ := by rw [hAo]; rfl
      have hz : lateZ (l.getD A default).op = z := by rw [hAo]; rfl
      rw [hkey,hz] at hx
      have hvk : ¬ Ξ.virt ⟨0,d,st.cnt 0 d⟩ := fun hv => by have := (hR.virt _ hv).2; simp at this
      have hR' := (hR.below hb).reserve (k := ⟨0,d,st.cnt 0 d⟩) (z := z) rfl
      have hek : (lateS ⟨0,d,st.cnt 0 d⟩ z st).en ⟨0,d,st.cnt 0 d⟩ = some (.box z false) := by simp [lateS,En.set]
      unfold drawLate at hx
      split at hx
      ·rename_i j hj
       split at hx
       case h_2 => cases hx
       rename_i s1 rs hrun
       split at hx
       case isFalse => cases hx
       rename_i hck
       rw [Bool.and_eq_true] at hck
       split at hx
       case h_2 => cases hx
       rename_i v s2 hpj
       simp only [Option.some.injEq,Prod.mk.injEq] at hx
       obtain ⟨rfl,rfl⟩ := hx
       have hjl : j < l.length := by have := first_lt _ hj; rw [late_len] at this; omega
       have hjA : j ≠ A := by
        rintro rfl
        rw [late_get hA,if_pos rfl] at hpj
        simp [panStep,lateO,wanted] at hpj
       exact wpIn_region_any hm (anyP_late (Ξ := Ξ) (B := B) (S := S) hc hio (pan_fn hL hF) (pin_fn hL hF) hlow hd' han hps hA hAo hvk rfl hjl hjA hrun hck.1 hck.2 hek hpj hR'
        fun a' w' G' x h1 h2 h3 => hQ a' w' G' x h1 h2 ⟨h3.os,h3.tape,h3.output,h3.size,h3.block⟩)
      ·split at hx
       case h_2 => cases hx
       rename_i s1 rs hrun
       split at hx
       case isFalse => cases hx
       rename_i hck
       rw [Bool.and_eq_true] at hck
       simp only [Option.some.injEq,Prod.mk.injEq] at hx
       obtain ⟨rfl,rfl⟩ := hx
       refine wpIn_region_any hm (any_late (Ξ := Ξ) (B := B) (S := S) hc hio hlow hd' han hps hA hAo hvk hrun hck.1 hck.2 hek ops.size (Array.replicate ops.size false) G a _ (by simp) ?_ ?_ ?_ ?_)
       ·refine Nat.le_trans List.countP_le_length (by simp)
       ·intro j o ho hL
        simp [Array.getElem?_replicate] at hL
        split at hL <;> simp at hL
       ·rw [foldE_congr (L' := fun _ => false) fun i _ => by simp [Array.getElem?_replicate]; split <;> simp]
        have : ∀ (k : Nat),foldE (fun k => effO ((lateL A ⟨0,d,st.cnt 0 d⟩ l).getD k default) (rs.getD k noRes)) (fun _ => false) (lateS ⟨0,d,st.cnt 0 d⟩ z st) k = lateS ⟨0,d,st.cnt 0 d⟩ z st := by
         intro k; induction k with
         | zero => rfl
         | succ k ih => simp only [foldE,Bool.false_eq_true,if_false]; exact ih
        have hf : ¬ (Array.replicate ops.size false).getD A false = true := by
         rw [Array.getD_eq_getD_getElem?,Array.getElem?_replicate]
         split <;> simp
        rw [this,if_neg hf]; exact hR'
       ·exact fun a' w' G' h1 h2 => hQ a' w' G' undef trivial h1.e ⟨h2.os,h2.tape,h2.output,h2.size,h2.block⟩
     | none =>
     simp only [hlt] at hx
     rw [exec] at hx
     split at hx
     ·rename_i j hj
      exact wpIn_region_any hm (anyP_sound (Ξ := Ξ) (B := B) (S := S) hc hio (pan_fn hL hF) (pin_fn hL hF) hlow hd' han hps (by have := first_lt _ hj; omega) hx (hR.below hb)
       fun a' w' G' x h1 h2 h3 => hQ a' w' G' x h1 h2 ⟨h3.os,h3.tape,h3.output,h3.size,h3.block⟩)
     ·split at hx
      case h_2 => cases hx
      rename_i s1 rs hrun
      split at hx
      case isFalse => cases hx
      rename_i hok
      simp only [Option.some.injEq,Prod.mk.injEq] at hx
      exact drawOk s1 rs hrun hok hx.1.symm hx.2.symm
    | false =>
     simp only [hX,Bool.false_eq_true,if_false,Option.getD_some] at hx
     rw [exec] at hx
     split at hx
     case h_2 => cases hx
     rename_i s1 rs hrun
     split at hx
     case isFalse => cases hx
     rename_i hok
     simp only [Option.some.injEq,Prod.mk.injEq] at hx
     exact drawOk s1 rs hrun hok hx.1.symm hx.2.symm
 case seq x y _ _ =>
  simp only [lower,LCode.dstOk,Bool.and_eq_true] at hd
  simp only [lower,exec] at hx
  refine wpIn_seq ?_
  cases h1 : exec L n (lower P I x) st with
  | none => rw [h1] at hx; cases hx
  | some p =>
   obtain ⟨e1,s1⟩ := p
   rw [h1] at hx
   have hnr1 : Ξ.nm = true → (lower P I x).noRg = true ∧ (lower P I y).noRg = true := fun h => by simpa [lower,LCode.noRg] using hnr h
   refine ih I N x st e1 s1 Ξ B S G a w _ m hd.1 (fun h => (hnr1 h).1) hR h1 fun a1 w1 G1 x1 hx1 hR1 hb1 => ?_
   cases e1 with
   | panic v => simp only [Option.some.injEq,Prod.mk.injEq] at hx; obtain ⟨rfl,rfl⟩ := hx; exact hQ a1 w1 G1 x1 hx1 hR1 hb1
   | normal => exact ih I N y s1 e st' Ξ B S G1 a1 w1 _ m hd.2 (fun h => (hnr1 h).2) (hR1.rel rfl) hx fun a2 w2 G2 x2 hx2 hR2 hb2 => hQ a2 w2 G2 x2 hx2 hR2 (hb1.trans hb2)
   | exit id => simp only [Option.some.injEq,Prod.mk.injEq] at hx; obtain ⟨rfl,rfl⟩ := hx; exact hQ a1 w1 G1 x1 trivial hR1 hb1
   | ret => simp only [Option.some.injEq,Prod.mk.injEq] at hx; obtain ⟨rfl,rfl⟩ := hx; exact hQ a1 w1 G1 x1 trivial hR1 hb1
 case cond z x y _ _ =>
  simp only [lower] at hd hx
  cases hz' : lowOpd z with
  | none => rw [hz'] at hx; exact (exec_fail hx).elim
  | some z' =>
   rw [hz'] at hx hd
   simp only [LCode.dstOk,Bool.and_eq_true] at hd
   have hnr1 : Ξ.nm = true → (lower P I x).noRg = true ∧ (lower P I y).noRg = true := fun h => by simpa [lower,hz',LCode.noRg] using hnr h
   simp only [exec] at hx
   have hv := opd_sound hR hz'
   split at hx
   ·rename_i hz
    rw [hz] at hv
    have : a.eval z = .bool true := by generalize a.eval z = q at hv; cases hv; rfl
    exact wpIn_cond_true this (ih I N x st e st' Ξ B S G a w Q m hd.1 (fun h => (hnr1 h).1) hR hx hQ)
   ·rename_i hz
    rw [hz] at hv
    have : a.eval z = .bool false := by generalize a.eval z = q at hv; cases hv; rfl
    exact wpIn_cond_false this (ih I N y st e st' Ξ B S G a w Q m hd.2 (fun h => (hnr1 h).2) hR hx hQ)
   ·cases hx
 case block id x _ =>
  simp only [lower,LCode.dstOk] at hd
  simp only [lower,exec] at hx
  refine wpIn_block ?_
  cases h1 : exec L n (lower P I x) st with
  | none => rw [h1] at hx; cases hx
  | some p =>
   obtain ⟨e1,s1⟩ := p
   rw [h1] at hx
   refine ih I N x st e1 s1 Ξ B S G a w _ m hd (fun h => by simpa [lower,LCode.noRg] using hnr h) hR h1 fun a1 w1 G1 x1 hx1 hR1 hb1 => ?_
   cases e1 with
   | panic v => simp only [Option.some.injEq,Prod.mk.injEq] at hx; obtain ⟨rfl,rfl⟩ := hx; exact hQ a1 w1 G1 x1 hx1 hR1 hb1
   | normal => simp only [Option.some.injEq,Prod.mk.injEq] at hx; obtain ⟨rfl,rfl⟩ := hx; exact hQ a1 w1 G1 x1 trivial hR1 hb1
   | exit id' =>
    simp only at hx
    simp only [Ex.toExit,Exit.inBlock]
    split at hx
    ·rename_i he; rw [if_pos he]; simp only [Option.some.injEq,Prod.mk.injEq] at hx; obtain ⟨rfl,rfl⟩ := hx; exact hQ a1 w1 G1 x1 trivial hR1 hb1
    ·rename_i he; rw [if_neg he]; simp only [Option.some.injEq,Prod.mk.injEq] at hx; obtain ⟨rfl,rfl⟩ := hx; exact hQ a1 w1 G1 x1 trivial hR1 hb1
   | ret => simp only [Option.some.injEq,Prod.mk.injEq] at hx; obtain ⟨rfl,rfl⟩ := hx; exact hQ a1 w1 G1 x1 trivial hR1 hb1
 case loop x _ =>
  simp only [lower,LCode.dstOk] at hd
  simp only [lower] at hx
  have key : ∀ k s1 G1 a1 w1,k ≤ n + 1 → Rel P Ξ B S G1 s1 N a1 w1 → exec L k (.loop (lower P I x)) s1 = some (e,st') → Below B w w1 → Code.roundsIn (Fx Ξ.ro) m P x Q k a1 w1 := by
   intro k
   induction k with
   | zero => intro s1 G1 a1 w1 _ _ hx1 _; simp [exec] at hx1
   | succ k ihk =>
    intro s1 G1 a1 w1 hk hR1 hx1 hb1
    simp only [exec] at hx1
    rw [roundsIn_succ]
    cases h1 : exec L k (lower P I x) s1 with
    | none => rw [h1] at hx1; cases hx1
    | some p =>
     obtain ⟨e1,s2⟩ := p
     rw [h1] at hx1
     refine ihs k (by omega) I N x s1 e1 s2 Ξ B S G1 a1 w1 _ m hd (fun h => by simpa [lower,LCode.noRg] using hnr h) hR1 h1 fun a2 w2 G2 x2 hx2 hR2 hb2 => ?_
     cases e1 with
     | panic v => simp only [Option.some.injEq,Prod.mk.injEq] at hx1; obtain ⟨rfl,rfl⟩ := hx1; exact hQ a2 w2 G2 x2 hx2 hR2 (hb1.trans hb2)
     | normal => exact ihk s2 G2 a2 w2 (by omega) (hR2.rel rfl) hx1 (hb1.trans hb2)
     | exit id => simp only [Option.some.injEq,Prod.mk.injEq] at hx1; obtain ⟨rfl,rfl⟩ := hx1; exact hQ a2 w2 G2 x2 trivial hR2 (hb1.trans hb2)
     | ret => simp only [Option.some.injEq,Prod.mk.injEq] at hx1; obtain ⟨rfl,rfl⟩ := hx1; exact hQ a2 w2 G2 x2 trivial hR2 (hb1.trans hb2)
  exact wpIn_loop_rounds (n + 1) (key (n + 1) st G a w (Nat.le_refl _) hR hx (Below.refl _ _))
 case exit id =>
  simp only [lower,exec,Option.some.injEq,Prod.mk.injEq] at hx
  obtain ⟨rfl,rfl⟩ := hx
  exact wpIn_exit (hQ a w G undef trivial hR.e (Below.refl _ _))
 case ret =>
  simp only [lower,exec,Option.some.injEq,Prod.mk.injEq] at hx
  obtain ⟨rfl,rfl⟩ := hx
  exact wpIn_ret (hQ a w G undef trivial hR.e (Below.refl _ _))
 case rangeFunc g ps ca cb _ _ =>
  simp only [lower] at hd hx
  cases hg : lowOpd g with
  | none => rw [hg] at hx; exact (exec_fail hx).elim
  | some g' =>
   rw [hg] at hx hd
   simp only [LCode.dstOk,Bool.and_eq_true] at hd
   simp only [exec] at hx
   have hnm : Ξ.nm = false := by
    cases h : Ξ.nm with
    | false => rfl
    | true => have := hnr h; simp [lower,hg,LCode.noRg] at this
   exact exec_range hL hF hg hd.1.1 hd.1.2 hd.2 hnm hR hx hQ
 case scope x ihx =>
  refine wpIn_scope' (ihx st e st' Ξ B S G a w _ m hd hnr hR hx fun a1 w1 G1 x1 hx1 hR1 hb1 => ?_)
  have := hQ a1 w1 G1 x1 hx1 hR1 hb1
  cases e <;> exact this
 all_goals (simp only [lower] at hx; exact (exec_fail hx).elim)
end Go.Abs
namespace Go.Abs
open Go.RowKit (Below)
variable [Inhabited Glob]
def Ex.mode (x : Value) : Ex → FrameMode
 | .panic _ => .panicking (chainOf x)
 | _ => .returning
theorem Ex.mode_run {x : Value} {e : Ex} : e.mode x ≠ .run := by cases e <;> simp [Ex.mode]
theorem dfr_spec {P : Program} {I : Operand → Bool} {ts : List Nat} {ops : Array Oper} {k : Call} {y : Code} {lc : LCode} (h : lowDfr P I ts ops k y = some lc) :
  ∃ F f args l,k.callee = .value F ∧ lowOpd F = some f ∧ lowOpds k.args.toList = some args ∧ mapO (lowOper P I ops) ops.toList.dropLast = some l ∧ lc = .dfr ts l f args (lower P I y) := by
 simp only [lowDfr] at h
 split at h
 case h_2 => cases h
 rename_i F hF
 split at h
 case h_2 => cases h
 rename_i f args l h1 h2 h3
 simp only [Option.some.injEq] at h
 exact ⟨F,f,args,l,hF,h1,h2,h3,h.symm⟩
theorem tail_rcv {P : Program} {I : Operand → Bool} {ts : List Nat} {c : Code} {lc : LCode} (h : lowTail P I ts c = some lc) : lc.isRcv = false := by
 cases c <;> simp only [lowTail,reduceCtorEq] at h
 split at h
 ·obtain ⟨_,_,_,_,_,_,_,_,rfl⟩ := dfr_spec h; rfl
 ·split at h
  ·simp only [Option.some.injEq] at h; subst h; rfl
  ·cases h
theorem low_rcv {P : Program} {I : Operand → Bool} {ts : List Nat} {c : Code} {dst : Option Nat} {l : List LOper} {b : LCode} (h : lowBody P I ts c = some (.rcv dst l b)) :
  ∃ id ops c' o rest,c = .seq (.region id ops false) c' ∧ ops.toList = o :: rest ∧ isRecover o = true ∧ rest.all isMove = true ∧ mapO (lowOper P I ops) rest = some l ∧ dst = o.dst ∧ b = lower P I c' ∧ (lower P I c').noRg = true := by
 simp only [lowBody] at h
 split at h
 ·rename_i x hx
  simp only [Option.some.injEq] at h; subst h
  unfold lowRcv at hx
  split at hx
  case h_2 => cases hx
  rename_i id ops c'
  split at hx
  case h_2 => cases hx
  rename_i o rest ho
  split at hx
  case isFalse => cases hx
  rename_i hc
  simp only [Bool.and_eq_true] at hc
  obtain ⟨l',hl,he⟩ := Option.map_eq_some_iff.1 hx
  simp only [LCode.rcv.injEq] at he
  obtain ⟨rfl,rfl,rfl⟩ := he
  exact ⟨_,ops,c',o,rest,rfl,ho,hc.1.1,hc.1.2,hl,rfl,rfl,hc.2⟩
 ·split at h
  ·rename_i x hx
   simp only [Option.some.injEq] at h; subst h
   have := tail_rcv hx; cases this
  ·split at h
   ·cases h
   ·rename_i hn
    simp only [Option.some.injEq] at h
    rw [h] at hn; simp [LCode.isRcv] at hn
section
variable {P : Program} {Ξ : Env} {B : Nat} {S : Nat → Nat → Prop} {N : Nat} {ops : Array Oper} {n : Nat} {call : CallFn} {io : Inl} {I : Operand → Bool} {ro : Option Nat} {m : Nat}
theorem ops_pre (hcall : CallOk P call) (hio : InlOk P io) {l : List LOper} (hl : ∀ i (h : i < l.length),∃ h' : i < ops.size,lowOper P I ops ops[i] = some l[i]) (hd : l.all (fun o => o.dst.all (· < N)) = true) {Q : Exit → Act → World → Prop} {rest : List Nat} :
  ∀ (k i : Nat) (st st' : St) (G : Gh) (a : Act) (w : World),i + k = l.length → Rel P Ξ B S G st N a w → runOps n call io 0 (l.drop i) st = some st' →
   (∀ a' w' G',Rel P Ξ B S G' st' N a' w' → Below B w w' → wpOpsIn (Fx ro) m P ops Q rest a' w') → wpOpsIn (Fx ro) m P ops Q (List.range' i k ++ rest) a w := by
 intro k
 induction k with
 | zero =>
  intro i st st' G a w hik hR hrun hQ
  have : l.drop i = [] := List.drop_eq_nil_iff.2 (by omega)
  rw [this] at hrun
  simp only [runOps,Option.some.injEq] at hrun; subst hrun
  exact hQ a w G hR (Below.refl _ _)
 | succ k ih =>
  intro i st st' G a w hik hR hrun hQ
  have hil : i < l.length := by omega
  obtain ⟨hi,hlow⟩ := hl i hil
  rw [List.drop_eq_getElem_cons hil] at hrun
  simp only [runOps] at hrun
  split at hrun
  case h_2 => cases hrun
  rename_i st1 r hs
  rw [List.range'_succ,List.cons_append,wpOpsIn_cons]
  unfold wpOpIn
  rw [Array.getElem?_eq_getElem hi]
  exact step_sound hcall hio hR hlow (List.all_eq_true.1 hd _ (List.getElem_mem hil)) hs fun a' w' G' h1 h2 =>
   ih (i + 1) st1 st' G' a' w' (by omega) h1 hrun fun a'' w'' G'' h3 h4 => hQ a'' w'' G'' h3 (h2.trans h4)
theorem moves_sound {call : CallFn} {io : Inl} {l : List LOper} (hl : ∀ i (h : i < l.length),∃ h' : i + 1 < ops.size,isMove ops[i + 1] = true ∧ lowOper P I ops ops[i + 1] = some l[i]) (hd : l.all (fun o => o.dst.all (· < N)) = true) {Q : Exit → Act → List Frame → World → Prop} {cs : List Frame} {w : World} :
  ∀ (k i : Nat) (st st' : St) (G : Gh) (a : Act),i + k = l.length → Rel P Ξ B S G st N a w → runOps n call io 0 (l.drop i) st = some st' →
   (∀ a' G',Rel P Ξ B S G' st' N a' w → Q .normal a' cs w) → wpOpsSIn Fence.wide m P ops Q (List.range' (i + 1) k) a cs w := by
 intro k
 induction k with
 | zero =>
  intro i st st' G a hik hR hrun hQ
  have : l.drop i = [] := List.drop_eq_nil_iff.2 (by omega)
  rw [this] at hrun
  simp only [runOps,Option.some.injEq] at hrun; subst hrun
  exact hQ a G hR
 | succ k ih =>
  intro i st st' G a hik hR hrun hQ
  have hil : i < l.length := by omega
  obtain ⟨hi,hmv,hlow⟩ := hl i hil
  rw [List.drop_eq_getElem_cons hil] at hrun
  simp only [runOps] at hrun
  split at hrun
  case h_2 => cases hrun
  rename_i st1 r hs
  have hdi := List.all_eq_true.1 hd _ (List.getElem_mem hil)
  rw [List.range'_succ]
  simp only [wpOpsSIn,Array.getElem?_eq_getElem hi]
  refine ⟨fun _ _ => trivial,?_⟩
  simp only [lowOper,Option.bind_eq_bind,Option.bind_eq_some_iff,Option.pure_def,Option.some.injEq] at hlow
  obtain ⟨lop,hop,g,hg,he⟩ := hlow
  have hmv' : ∃ x,(ops[i + 1].op = .assign x ∨ ops[i + 1].op = .move x) ∧ ops[i + 1].guard = none := by
   unfold isMove at hmv
   split at hmv
   ·rename_i h1 h2; exact ⟨_,.inl h1,h2⟩
   ·rename_i h1 h2; exact ⟨_,.inr h1,h2⟩
   ·cases hmv
  obtain ⟨x,hx,hgd⟩ := hmv'
  have hw : Region.wanted ops[i + 1] (yielded ops a.tmps) = true := by simp [Region.wanted,hgd]
  have hrun1 : (execOp a.eval ops[i + 1]).run P w = .ok (.value (a.eval x)) w := by
   rcases hx with hx | hx <;> simp [execOp,hx]
  obtain ⟨y,hy,hlop⟩ : ∃ y,lowOpd x = some y ∧ lop = .mv y := by
   rcases hx with hx | hx <;> rw [hx] at hop <;> (obtain ⟨y,h1,h2⟩ := Option.map_eq_some_iff.1 hop; exact ⟨y,h1,h2.symm⟩)
  have hg' : g = none := by rw [hgd] at hg; simpa [guardTmp] using hg.symm
  rw [← he,hlop,hg'] at hs
  rw [← he] at hdi
  simp only [step,wanted,eval,Bool.false_and,Bool.false_eq_true,if_false,W.applyAll,List.foldl_nil,Option.some.injEq,Prod.mk.injEq] at hs
  obtain ⟨rfl,rfl⟩ := hs
  simp only [hw,if_true,hrun1]
  exact ih (i + 1) _ st' G _ (by omega) (hR.putO' ops[i + 1].dst (opd_sound hR hy) hdi) hrun hQ
end
theorem defer_sound {P : Program} {L : Prog} (hL : LowOk P L) {n : Nat} (hE : ExecOk P L n) (hcall : CallOk P (callWith L 8 (exec L n))) (hio : InlOk P (inlOf L (exec L n))) {g : Nat} {A args Z : List Val} {e : Ex} {st st' : St}
  (h : deferWith L (exec L n) (.fn g A Z) args e st = some st') : st'.fr = st.fr ∧ (∃ fn,P.funcs[g]? = some fn ∧ (fn.name == "runtime.NumGoroutine") = false ∧ fn.body.isNone = false) ∧
  ∀ (Ξ : Env) (B : Nat) (S : Nat → Nat → Prop) (G : Gh) (N : Nat) (a : Act) (w : World) (vals : Array Value) (x : Value) (m : Nat),e.val x → Rel P Ξ B S G st N a w → vals.size = (A ++ args ++ Z).length →
   (∀ i,i < (A ++ args ++ Z).length → VR (Stab B S G w.heap.size) G w ((A ++ args ++ Z).getD i .dead) (vals.getD i undef)) →
   CallsDIn Fence.wide m P g vals (e.mode x) w fun ed u' w' => ∃ G' y,ed = .returned y ∧ settle u' = .returning ∧ Rel P Ξ B S G' st' N a w' ∧ Below B w w' := by
 simp only [deferWith] at h
 split at h
 case h_2 => cases h
 rename_i lf hlf
 split at h
 case h_2 => cases h
 rename_i dst l cb v hbody hrv
 split at h
 case isFalse => cases h
 rename_i hc
 obtain ⟨hlen,hres0⟩ := hc
 split at h
 case h_2 => cases h
 rename_i st1 hmoves
 split at h
 case h_2 => cases h
 rename_i e' st2 hx
 split at h
 case isFalse => cases h
 rename_i hends
 simp only [Option.some.injEq] at h
 subst h
 obtain ⟨fn,I,keep,amb,hfn,hlow⟩ := hL g lf hlf
 obtain ⟨c,hb,hlb,hdst,hnp,hname,hres⟩ := low_spec hlow
 rw [hbody] at hlb hdst
 obtain ⟨id,ops,c',o,rest,rfl,hops,hrec,hmv,hl,rfl,rfl,hnr⟩ := low_rcv hlb
 refine ⟨rfl,⟨fn,hfn,hname,by rw [hb]; rfl⟩,fun Ξ B S G N a w vals x m hxv hR hvl hv => ?_⟩
 simp only [LCode.dstOk,Bool.and_eq_true] at hdst
 obtain ⟨⟨hd1,hd2⟩,hd3⟩ := hdst
 obtain ⟨Ds0,q1,q2,q3⟩ := hR.marks
 have hR1 := rel_enter (st0 := st) (fn := fn) (nm := true) hR q3 rfl rfl hvl (by omega) hv
 have hsz : ops.size = rest.length + 1 := by
  have := congrArg List.length hops
  simpa using this
 have h0 : ops[0]? = some o := by
  have : ops.toList[0]? = some o := by rw [hops]; rfl
  simpa using this
 have hro : ∃ cl,o.op = .call cl ∧ cl.callee = .builtin .recover ∧ o.guard = none := by
  unfold isRecover at hrec
  split at hrec
  ·rename_i cl h1 h2
   split at hrec
   ·rename_i h3; exact ⟨cl,h1,h3,h2⟩
   ·cases hrec
  ·cases hrec
 obtain ⟨cl,ho1,ho2,ho3⟩ := hro
 obtain ⟨m1,m2⟩ := mapO_some hl
 refine callsDIn_of_wpSIn hfn hb trivial fun c₀ cs hmode => ?_
 refine wpSIn_seq (wpSIn_region ?_)
 rw [hsz,List.range_eq_range',List.range'_succ]
 simp only [wpOpsSIn,h0]
 refine ⟨fun _ _ => trivial,?_⟩
 have hw : Region.wanted o (yielded ops (act0 fn vals).tmps) = true := by simp [Region.wanted,ho3]
 have hrunr : ∀ (ρ : Operand → Value) (w : World),(execOp ρ o).run P w = .ok .recover w := by
  intro ρ w
  simp [execOp,ho1,resolve,ho2,invoke,builtin]
 unfold act0 at hw
 simp only [hw,if_true,hrunr]
 have behindR : ∀ (y : Value) (u' : FrameMode) ,settle u' = .returning → FV v y →
   wpOpsSIn Fence.wide m P ops (Exit.thenS (Code.wpSIn Fence.wide m P c' (bodyPostS P fn c₀ cs fun ed u' w' => ∃ G' y,ed = .returned y ∧ settle u' = .returning ∧ Rel P Ξ B S G' { fr := st.fr,en := st2.en,cnt := st2.cnt } N a w' ∧ Below B w w'))
    (bodyPostS P fn c₀ cs fun ed u' w' => ∃ G' y,ed = .returned y ∧ settle u' = .returning ∧ Rel P Ξ B S G' { fr := st.fr,en := st2.en,cnt := st2.cnt } N a w' ∧ Below B w w')) (List.range' (0 + 1) rest.length) ((act0 fn vals).put o.dst y) ({ c₀ with mode := u' } :: cs) w := by
  intro y u' hu' hvy
  have hR2 := hR1.putO' o.dst (v := v) (x := y) (hvy _ _ _) hd1
  refine moves_sound (N := fn.ntmps) (st' := st1) (G := G) (n := 8) (call := callWith L 8 (exec L n)) (io := inlOf L (exec L n)) (l := l) (I := I) ?_ hd2 rest.length 0 _ _ (by rw [m1]; omega) hR2 (by simpa using hmoves) fun a4 G4 hR4 => ?_
  ·intro i hi
   have hi' : i < rest.length := by omega
   have hi2 : i + 1 < ops.size := by omega
   have he : ops[i + 1] = rest[i] := by
    have : ops.toList[i + 1]? = rest[i]? := by rw [hops]; rfl
    rw [List.getElem?_eq_getElem hi',Array.getElem?_toList,Array.getElem?_eq_getElem hi2] at this
    exact Option.some.inj this
   refine ⟨hi2,?_,?_⟩
   ·rw [he]; exact List.all_eq_true.1 hmv _ (List.getElem_mem hi')
   ·rw [he]; exact m2 i hi' hi
  ·refine wpSIn_of_wpIn rfl ?_
   refine hE I fn.ntmps c' st1 e' st2 _ B S G4 a4 w _ m hd3 (fun _ => hnr) hR4 hx fun a5 w5 G5 x5 _ hR5 hb5 => ?_
   have fin : e'.calm = true → a5.defers = [] ∧ ∃ u'',({ c₀ with mode := u' } :: cs : List Frame) = { c₀ with mode := u'' } :: cs ∧ ∃ v,(results fn a5.tmps).run P w5 = .ok v w5 ∧
     ∃ G' y,Ending.returned v = .returned y ∧ settle u'' = .returning ∧ Rel P Ξ B S G' { fr := st.fr,en := st2.en,cnt := st2.cnt } N a w5 ∧ Below B w w5 := by
    intro hcalm
    have hR6 := hR5.rel hcalm
    obtain ⟨Ds,r1,r2,r3⟩ := hR6.marks
    have hDs := r2.2 rfl
    subst hDs
    have hlr : lf.res = [] := by simpa using hres0
    rw [hlr] at hres
    obtain ⟨y5,hy5,_⟩ := results_sound hR6 hres (vs := []) rfl
    exact ⟨by simpa using r1,u',rfl,y5,hy5,G5,y5,rfl,hu',rel_leave (ste := st2) hR.tmps q1 q2 (fun D hD => ⟨(q3 D hD).1,(q3 D hD).2.1⟩) hR6,hb5⟩
   cases e' with
   | normal => exact fin rfl
   | ret => exact fin rfl
   | exit id => cases hends
   | panic v => cases hends
 cases e with
 | panic vp =>
  simp only [Ex.mode] at hmode
  simp only [Ex.rcvd,Option.some.injEq] at hrv
  subst hrv
  have hrc : recoverD (c₀ :: cs) = some (x,{ c₀ with mode := .panicking [{ v := x,recovered := true }] } :: cs) := by simp [recoverD,hmode,chainOf]
  simp only [hrc]
  exact behindR x _ (by simp [settle]) hxv
 | exit id => cases hrv
 | normal =>
  simp only [Ex.mode] at hmode
  simp only [Ex.rcvd,Option.some.injEq] at hrv
  subst hrv
  have hrc : recoverD (c₀ :: cs) = none := by simp [recoverD,hmode]
  simp only [hrc]
  have := behindR .nilIface .returning rfl (fun _ _ _ => .nili)
  have ec : ({ c₀ with mode := FrameMode.returning } : Frame) = c₀ := by rw [← hmode]
  rw [ec] at this
  exact this
 | ret =>
  simp only [Ex.mode] at hmode
  simp only [Ex.rcvd,Option.some.injEq] at hrv
  subst hrv
  have hrc : recoverD (c₀ :: cs) = none := by simp [recoverD,hmode]
  simp only [hrc]
  have := behindR .nilIface .returning rfl (fun _ _ _ => .nili)
  have ec : ({ c₀ with mode := FrameMode.returning } : Frame) = c₀ := by rw [← hmode]
  rw [ec] at this
  exact this
theorem mapM_same {α β : Type} {f g : α → Sem β} : ∀ {l : List α},(∀ x ∈ l,f x = g x) → l.mapM f = l.mapM g
 | [],_ => by simp
 | x :: l,h => by
  simp only [List.mapM_cons]
  rw [h x (by simp),mapM_same fun y hy => h y (by simp [hy])]
theorem results_same {fn : Func} {tm tm' : Array Value} (h : ∀ t ∈ resTmps fn.results.toList,tm.getD t undef = tm'.getD t undef) : results fn tm = results fn tm' := by
 have : (fn.results.mapM fun (rv : ResultVar) => (match rv with
   | .tmp t => (pure (tm.getD t undef) : Sem Value)
   | .cell c t => do loadVar t (← asAddr (tm.getD c undef)))) = (fn.results.mapM fun (rv : ResultVar) => (match rv with
   | .tmp t => (pure (tm'.getD t undef) : Sem Value)
   | .cell c t => do loadVar t (← asAddr (tm'.getD c undef)))) := by
  rw [Array.mapM_eq_mapM_toList,Array.mapM_eq_mapM_toList]
  congr 1
  refine mapM_same fun rv hrv => ?_
  have ht := h (match rv with | .tmp t => t | .cell c _ => c) (by simp only [resTmps,List.mem_map]; exact ⟨rv,hrv,by cases rv <;> rfl⟩)
  cases rv with
  | tmp t => simp only at ht ⊢; rw [ht]
  | cell c t => simp only at ht ⊢; rw [ht]
 simp only [results]
 exact congrArg (fun z => z >>= _) this
theorem tail_ok {P : Program} {L : Prog} (hL : LowOk P L) {fn : Func} {R : Ending → World → Prop} {I : Operand → Bool} {w0 : World} {e : Ex} {st' : St} {Ξ : Env} {B : Nat} {S : Nat → Nat → Prop} (hro : Ξ.ro = none) (ht : Ξ.tail = []) (hnm : Ξ.nm = false)
  (k : ∀ a1 w1 G1 x,e.val x → a1.defers = [] → Rel P Ξ B S G1 st' fn.ntmps a1 w1 → Below B w0 w1 → e.fin P fn a1 w1 R x) :
  ∀ (n : Nat),(∀ m,m < n → ExecOk P L m ∧ CallOk P (callWith L 8 (exec L m)) ∧ InlOk P (inlOf L (exec L m))) → ∀ (y : Code) (ly : LCode) (st : St) (G : Gh) (a : Act) (w : World),lowTail P I (resTmps fn.results.toList) y = some ly → ly.dstOk fn.ntmps = true →
   exec L n ly st = some (e,st') → Rel P Ξ B S G st fn.ntmps a w → Below B w0 w → y.wpIn (Fx none) 0 P (bodyPostM Fence.wide 0 P fn R) a w := by
 intro n
 induction n with
 | zero => intro _ y ly st G a w _ _ hx; simp [exec] at hx
 | succ n ih =>
  intro hall y ly st G a w hly hdst hx hR hB
  obtain ⟨hE,hcall,hio⟩ := hall n (by omega)
  have hplain : ∀ {ro : Option Nat},ro = none → Fx ro = Fx none := fun h => by rw [h]
  cases y <;> simp only [lowTail,reduceCtorEq] at hly
  rename_i x y
  split at hly
  ·-- the deferred call
   rename_i ops kc hdf
   obtain ⟨F,f,args,l,hcf,hf,hargs,hl,rfl⟩ := dfr_spec hly
   unfold deferR at hdf
   split at hdf
   case h_2 => cases hdf
   rename_i id ops'
   split at hdf
   case h_2 => cases hdf
   rename_i o hback
   split at hdf
   case h_2 => cases hdf
   rename_i kc' hop hgd hdo
   simp only [Option.some.injEq,Prod.mk.injEq] at hdf
   obtain ⟨rfl,rfl⟩ := hdf
   simp only [LCode.dstOk,Bool.and_eq_true] at hdst
   obtain ⟨hd1,hd2⟩ := hdst
   rw [exec] at hx
   split at hx
   case h_2 => cases hx
   rename_i st2 hpre
   split at hx
   case h_2 => cases hx
   rename_i eb st3 hbx
   split at hx
   ·cases hx
   rename_i hts
   obtain ⟨st4,hdfr,he⟩ := Option.map_eq_some_iff.1 hx
   simp only [Prod.mk.injEq] at he
   obtain ⟨rfl,rfl⟩ := he
   obtain ⟨m1,m2⟩ := mapO_some hl
   have hne : ops'.size ≠ 0 := by
    intro h0
    have : ops' = #[] := Array.eq_empty_of_size_eq_zero h0
    rw [this] at hback; simp at hback
   have hll : l.length = ops'.size - 1 := by rw [m1]; simp
   have hlast : ops'[l.length]? = some o := by rw [hll]; rw [Array.back?_eq_getElem?] at hback; exact hback
   refine wpIn_seq (wpIn_region ?_)
   rw [show ops'.size = l.length + 1 by omega,List.range_succ,List.range_eq_range']
   refine ops_pre (N := fn.ntmps) (Ξ := Ξ) (B := B) (S := S) hcall hio (l := l) (I := I) (fun i hi => ?_) hd1 l.length 0 st st2 G a w (by omega) hR (by simpa using hpre) fun a2 w2 G2 hR2 hb2 => ?_
   ·have hi' : i < ops'.size := by omega
    refine ⟨hi',?_⟩
    have := m2 i (by simp; omega) hi
    simpa [List.getElem_dropLast] using this
   have hfv := opd_sound hR2 hf
   obtain ⟨la,va⟩ := opds_sound hR2 hargs
   cases hfn0 : St.get st2.fr f with
   | fn g A Z => ?_
   | _ => rw [hfn0] at hdfr; simp [deferWith] at hdfr
   rw [hfn0] at hdfr hfv
   obtain ⟨hfr4,⟨gn,hgn,hgname,hgbody⟩,hdef⟩ := defer_sound hL hE hcall hio hdfr
   generalize hgF : a2.eval F = uF at hfv
   cases hfv with
   | fn _ _ _ p q hp hq hvp hvq =>
   let dd : Deferred := { target := .fn (.func g) q,args := p ++ kc'.args.map a2.eval }
   have hrun : (execOp a2.eval o).run P w2 = .ok (.defer dd) w2 := by
    simp [execOp,hop,resolve,hcf,hgF,Deferred.ofValue,dd]
   have hinv : ∀ W : World,(invoke (.fn (.func g) q) (p ++ kc'.args.map a2.eval)).run P W = .ok (.enter g (p ++ kc'.args.map a2.eval ++ q)) W := by
    intro W
    have hnm' : ¬ gn.name = "runtime.NumGoroutine" := by simpa using hgname
    have hbody' : ¬ gn.body = none := by intro h; rw [h] at hgbody; cases hgbody
    simp [invoke,callFunc,hgn,hnm',hbody']
   obtain ⟨Ds,r1,r2,r3⟩ := hR2.marks
   rw [ht,List.append_nil] at r1
   rw [wpOpsIn_cons]
   unfold wpOpIn
   simp only [hlast]
   have hw : Region.wanted o (yielded ops' a2.tmps) = true := by simp [Region.wanted,hgd]
   simp only [hw,if_true]
   refine ⟨fun _ _ => trivial,?_⟩
   rw [show (Fx none).round = none from rfl,Oper.semAt_none,hrun,Oper.uponIn_defer,hdo]
   show Code.wpIn (Fx none) 0 P y (bodyPostM Fence.wide 0 P fn R) { a2 with defers := dd :: a2.defers } w2
   let ΞB : Env := { prs := fun u z => Ξ.prs u z ∨ ∃ X x,lowOpd X = some x ∧ u = St.get st2.fr x ∧ z = a2.eval X,ro := Ξ.ro,rnd := Ξ.rnd,defs := fun D => Ξ.defs D ∨ D ∈ Ds,tail := dd :: Ds.map mark,virt := Ξ.virt }
   have hRB : Rel P ΞB B S G2 st2 fn.ntmps { a2 with defers := dd :: a2.defers } w2 :=
    ⟨hR2.size,hR2.tmps,hR2.frame,⟨[],by simp [ΞB,r1],⟨List.nodup_nil,fun _ => rfl⟩,fun D hD => by simp at hD⟩,hR2.ents,hR2.freshEn,hR2.freshG,hR2.own,fun u z hu => by
     rcases hu with (hu | ⟨X,x,h1,rfl,rfl⟩) | hu
     ·exact hR2.extra u z (.inl hu)
     ·exact opd_sound hR2 h1
     ·exact hR2.extra u z (.inr hu),fun l hl => hR2.round l hl,fun D hD => hD.elim (hR2.defs D) fun h => (r3 D h).2.2,hR2.virt⟩
   have hfx : Fx ΞB.ro = Fx none := by show Fx Ξ.ro = Fx none; rw [hro]
   have hBw2 : Below B w0 w2 := hB.trans hb2
   rw [← hfx]
   refine hE I fn.ntmps y st2 eb st3 ΞB B S G2 _ w2 _ 0 hd2 (fun h => nomatch h) hRB hbx fun a3 w3 G3 x3 hx3 hR3 hb3 => ?_
   obtain ⟨tm,hR3',htm,htu⟩ := hR3
   obtain ⟨Ds3,s1,s2,s3,s4,_,hR4⟩ := hR3'.shut
   replace s1 : a3.defers = Ds3.map mark ++ (dd :: Ds.map mark) := s1
   have hres : results fn tm = results fn a3.tmps := results_same fun t htt => htu t (by
    cases hu : (st3.fr t).isUndef with
    | false => rfl
    | true => exact absurd (List.any_eq_true.2 ⟨t,htt,hu⟩) (by simpa using hts))
   have hlv : LeavesInM Fence.wide 0 P fn a3.tmps R (Ds3.map mark ++ (dd :: Ds.map mark)) (eb.mode x3) w3 := by
    refine leaves_sound Ex.mode_run Ds3 w3 s2 s3 ⟨Ex.mode_run,.inr ⟨fun h => by simp [Fence.wide] at h,.func g,q,g,_,rfl,hinv _,fun _ _ => trivial,?_⟩⟩
    have hvals : ∀ i,i < (A ++ args.map (St.get st2.fr) ++ Z).length → VR (Stab B S G3 (shutAll w3 Ds3).heap.size) G3 (shutAll w3 Ds3) ((A ++ args.map (St.get st2.fr) ++ Z).getD i .dead) ((p ++ kc'.args.map a2.eval ++ q).getD i undef) := by
     have hfv4 := hR4.extra _ _ (.inl (.inr ⟨F,f,hf,rfl,rfl⟩))
     rw [hfn0,hgF] at hfv4
     cases hfv4 with
     | fn _ _ _ _ _ hp4 hq4 hvp4 hvq4 =>
     intro i hi
     simp only [List.getD_eq_getElem?_getD,Array.getD_eq_getD_getElem?,List.getElem?_append,Array.getElem?_append,List.length_append,Array.size_append,Array.size_map,List.length_map] at hi ⊢
     have e1 : p.size = A.length := hp
     have e2 : kc'.args.size = args.length := by simp [la]
     rw [e1,e2]
     split
     ·split
      ·rename_i h; have := hvp4 i h; simpa [List.getD_eq_getElem?_getD,Array.getD_eq_getD_getElem?] using this
      ·have hi' : i - A.length < args.length := by omega
       have hi2 : i - A.length < kc'.args.size := by omega
       obtain ⟨m3,m4⟩ := mapO_some hargs
       have hlo := m4 (i - A.length) (by simpa using hi2) hi'
       have := hR4.extra _ _ (.inl (.inr ⟨_,_,hlo,rfl,rfl⟩))
       simpa [List.getD_eq_getElem?_getD,Array.getD_eq_getD_getElem?,hi',hi2] using this
     ·have := hvq4 (i - (A.length + args.length)) (by omega); simpa [List.getD_eq_getElem?_getD,Array.getD_eq_getD_getElem?] using this
    refine CallsDIn.mono (hdef ΞB B S G3 fn.ntmps _ (shutAll w3 Ds3) _ x3 (0 - 1) hx3 hR4 (by simp [hp,hq,la]) hvals) ?_
    rintro ed u' w5 ⟨G5,y5,rfl,hset,hR5,hb5⟩
    simp only [hset]
    have hR6 : Rel P Ξ B S G5 st4 fn.ntmps { tmps := tm,defers := Ds.map mark } w5 :=
     ⟨hR5.size,hR5.tmps,hR5.frame,⟨Ds,by simp [ht],r2,fun D hD => ⟨(r3 D hD).1,(r3 D hD).2.1,hR5.defs D (.inr hD)⟩⟩,hR5.ents,hR5.freshEn,hR5.freshG,hR5.own,fun u z hu => hR5.extra u z (hu.imp_left .inl),fun l hl => hR5.round l hl,fun D hD => hR5.defs D (.inl hD),hR5.virt⟩
    obtain ⟨Ds6,v1,v2,v3,v4,_,hR7⟩ := hR6.shut
    replace v1 : Ds.map mark = Ds6.map mark ++ Ξ.tail := v1
    have hfin := k _ _ _ undef trivial ht hR7 ((((hBw2.trans hb3).trans (shut_below Ds3 w3 s4)).trans hb5).trans (shut_below Ds6 w5 v4))
    obtain ⟨yy,hyy,hRy⟩ := hfin
    rw [v1,ht]
    refine leaves_sound (by simp) Ds6 w5 v2 v3 ?_
    exact ⟨yy,by rw [← hres]; exact hyy,hRy⟩
   rw [← s1] at hlv
   cases eb with
   | normal => exact hlv
   | ret => exact hlv
   | panic v => exact hlv
   | exit id => simp [deferWith,Ex.rcvd] at hdfr; split at hdfr <;> (try split at hdfr) <;> simp at hdfr
  ·split at hly
   case h_2 => cases hly
   rename_i ly' hly'
   simp only [Option.some.injEq] at hly; subst hly
   simp only [LCode.dstOk,Bool.and_eq_true] at hdst
   rw [exec] at hx
   refine wpIn_seq ?_
   cases h1 : exec L n (lower P I x) st with
   | none => rw [h1] at hx; cases hx
   | some pr =>
    obtain ⟨e1,s1⟩ := pr
    rw [h1] at hx
    have hfx : Fx Ξ.ro = Fx none := by rw [hro]
    rw [← hfx]
    refine hE I fn.ntmps x st e1 s1 Ξ B S G a w _ 0 hdst.1 (fun h => by rw [hnm] at h; cases h) hR h1 fun a1 w1 G1 x1 hx1 hR1 hb1 => ?_
    cases e1 with
    | normal =>
     rw [hfx]
     exact ih (fun m hm => hall m (by omega)) y ly' s1 G1 a1 w1 hly' hdst.2 hx (hR1.rel rfl) (hB.trans hb1)
    | exit id => simp only [Option.some.injEq,Prod.mk.injEq] at hx; obtain ⟨rfl,rfl⟩ := hx; exact plain_end (m := 0) ht hx1 hR1 (hB.trans hb1) k
    | ret => simp only [Option.some.injEq,Prod.mk.injEq] at hx; obtain ⟨rfl,rfl⟩ := hx; exact plain_end (m := 0) ht hx1 hR1 (hB.trans hb1) k
    | panic v => simp only [Option.some.injEq,Prod.mk.injEq] at hx; obtain ⟨rfl,rfl⟩ := hx; exact plain_end (m := 0) ht hx1 hR1 (hB.trans hb1) k
theorem fn_ok {P : Program} {L : Prog} (hL : LowOk P L) {n : Nat} (hE : ExecOk P L n) (hall : ∀ m,m < n → ExecOk P L m ∧ CallOk P (callWith L 8 (exec L m)) ∧ InlOk P (inlOf L (exec L m))) : FnOk P L n := by
 intro f fn lf I keep amb e st0 st' Ξ B S G vals w R hfn hlow hx hro ht hnm hR0 k
 obtain ⟨c,hbody,hlb,hdst,hnp,hname,hres⟩ := low_spec hlow
 have hfx : Fx Ξ.ro = Fx none := by rw [hro]
 refine callsIn_wide.1 (callsIn_of_wp_marks (F := Fence.wide) (n := 0) hfn hbody trivial ?_)
 simp only [lowBody] at hlb
 split at hlb
 ·rename_i lc hrc
  simp only [Option.some.injEq] at hlb; subst hlb
  exfalso
  unfold lowRcv at hrc
  split at hrc
  case h_2 => cases hrc
  split at hrc
  case h_2 => cases hrc
  split at hrc
  case isFalse => cases hrc
  obtain ⟨l',_,he⟩ := Option.map_eq_some_iff.1 hrc
  rw [← he] at hx
  cases n <;> simp [exec] at hx
 ·split at hlb
  ·rename_i lc hlt
   simp only [Option.some.injEq] at hlb; subst hlb
   exact tail_ok hL hro ht hnm k n hall c _ st0 G _ w hlt hdst hx hR0 (Below.refl _ _)
  ·split at hlb
   ·cases hlb
   simp only [Option.some.injEq] at hlb
   rw [← hlb] at hx hdst
   have := hE I fn.ntmps c st0 e st' Ξ B S G _ w (bodyPostM Fence.wide 0 P fn R) 0 hdst (fun h => by rw [hnm] at h; cases h) hR0 hx fun a1 w1 G1 x hxv hR1 hb => plain_end ht hxv hR1 hb k
   rw [hfx] at this
   exact this
end Go.Abs
namespace Go.Abs
open Go.RowKit (Below)
variable [Inhabited Glob]
theorem call_step {P : Program} {L : Prog} (hL : LowOk P L) {n k : Nat} (ih : FnOk P L n) : CallOk P (callWith L k (exec L n)) := by
 intro f args r h
 simp only [callWith] at h
 split at h
 ·cases h
 rename_i lf hlf
 split at h
 case isFalse => cases h
 rename_i hlen
 split at h
 ·rename_i ha
  obtain ⟨e1,c1⟩ := amb_step hL ih hlf hlen ha h
  exact ⟨e1,fun S w vals hS hgl hvl hv => c1 _ _ S w vals hS hgl hvl hv⟩
 ·exact body_step hL ih hlf hlen h
theorem all_sound {P : Program} (hm : P.follows .mixedOrders = true) {L : Prog} (hL : LowOk P L) : ∀ n,ExecOk P L n ∧ FnOk P L n := by
 intro n
 induction n using Nat.strongRecOn with
 | ind n ih =>
  have hE : ExecOk P L n := by
   match n,ih with
   | 0,_ => intro I N c st e st' Ξ B S G a w Q m _ _ _ hx; simp [exec] at hx
   | n + 1,ih => exact exec_step hm hL (call_step hL (ih n (by omega)).2) (ih n (by omega)).2 fun m hm' => (ih m (by omega)).1
  exact ⟨hE,fn_ok hL hE fun m hm' => ⟨(ih m hm').1,call_step hL (ih m hm').2,inl_ok hL (ih m hm').2 (ih m hm').1⟩⟩
theorem pcall_sound {P : Program} (hm : P.follows .mixedOrders = true) {L : Prog} (hL : LowOk P L) (n : Nat) : CallOk P (pcall L n) := call_step hL (all_sound hm hL n).2
end Go.Abs
namespace Go.Abs
variable [Inhabited Glob]
@[reducible] def o (d : Nat) (op : LOp) : LOper := ⟨some d,op,none⟩
@[reducible] def og (d t : Nat) (b : Bool) (op : LOp) : LOper := ⟨some d,op,some (t,b)⟩
@[reducible] def on (op : LOp) : LOper := ⟨none,op,none⟩
@[reducible] def cI (n : Int) : Opd := .c (.int .i64 n)
@[reducible] def cB (b : Bool) : Opd := .c (.bool b)
@[reducible] def mT (d x : Nat) : LOper := ⟨some d,.mv (.t x),none⟩
@[reducible] def mC (d : Nat) (v : Val) : LOper := ⟨some d,.mv (.c v),none⟩
@[reducible] def fA (d k x : Nat) : LOper := ⟨some d,.fa k (.t x),none⟩
@[reducible] def l1 (d x : Nat) : LOper := ⟨some d,.load false 1 (.t x),none⟩
@[reducible] def lT (d n x : Nat) : LOper := ⟨some d,.load true n (.t x),none⟩
@[reducible] def bN (d : Nat) (op : BinOp) (x y : Opd) : LOper := ⟨some d,.bin op .num x y,none⟩
@[reducible] def pO (d c x : Nat) : LOper := ⟨some d,.pick (.t c) (.c (.bool true)) (.t x),none⟩
@[reducible] def pA (d c x : Nat) : LOper := ⟨some d,.pick (.t c) (.t x) (.c (.bool false)),none⟩
@[reducible] def cL (d f : Nat) (args : List Opd) : LOper := ⟨some d,.call (.f f) args,none⟩
@[reducible] def lN (d x : Nat) : LOper := ⟨some d,.len .slice (.t x),none⟩
@[reducible] def bX (d n x : Nat) : LOper := ⟨some d,.box n (.t x),none⟩
@[reducible] def iA (d s x i : Nat) : LOper := ⟨some d,.ia s (.t x) (.t i),none⟩
@[reducible] def nK (d x : Nat) : LOper := ⟨some d,.nilck (.t x),none⟩
@[reducible] def nT (d x : Nat) : LOper := ⟨some d,.un .not (.t x),none⟩
@[reducible] def sT (n a x : Nat) : LOper := ⟨none,.store n (.t a) (.t x),none⟩
@[reducible] def gM (d t : Nat) (b : Bool) (x : Nat) : LOper := ⟨some d,.mv (.t x),some (t,b)⟩
@[reducible] def gF (d t : Nat) (b : Bool) (k x : Nat) : LOper := ⟨some d,.fa k (.t x),some (t,b)⟩
@[reducible] def g1 (d t : Nat) (b : Bool) (x : Nat) : LOper := ⟨some d,.load false 1 (.t x),some (t,b)⟩
@[reducible] def gT (d t : Nat) (b : Bool) (n x : Nat) : LOper := ⟨some d,.load true n (.t x),some (t,b)⟩
@[reducible] def gN (d t : Nat) (b : Bool) (x : Nat) : LOper := ⟨some d,.len .slice (.t x),some (t,b)⟩
@[reducible] def gL (d t : Nat) (b : Bool) (f : Nat) (args : List Opd) : LOper := ⟨some d,.call (.f f) args,some (t,b)⟩
@[reducible] def gB (d t : Nat) (b : Bool) (op : BinOp) (x y : Opd) : LOper := ⟨some d,.bin op .num x y,some (t,b)⟩
def FnGood (P : Program) (p : Nat × LFunc) : Prop := ∃ fn I keep amb,P.funcs[p.1]? = some fn ∧ lowFunc P I keep amb fn = some p.2
theorem low_tbl {P : Program} {tbl : List (Nat × LFunc)} (h : ∀ p ∈ tbl,FnGood P p) : LowOk P (fun f => tbl.lookup f) := by
 intro f lf hf
 have mem : (f,lf) ∈ tbl := by
  clear h
  induction tbl with
  | nil => cases hf
  | cons x l ih =>
   obtain ⟨f',lf'⟩ := x
   simp only [List.lookup] at hf
   split at hf
   ·rename_i he; simp only [Option.some.injEq] at hf; subst hf; simp at he; subst he; simp
   ·exact List.mem_cons_of_mem _ (ih hf)
 exact h _ mem
structure Told where
 inl : List Nat := []
 pan : List Int := []
 dyn : Bool := false
 keep : Bool := false
 amb : Bool := false
end Go.Abs
namespace Go.Abs
open Go.RowKit Go.WideShapes Go.ChangeShapes Go.ChangeAt
variable [Inhabited Glob]
variable {H : Type} {enc : TypeId × Value → H} {P : Program}
theorem trodAll_stay (hl : laidOutB P = true) {W W' : World} (hb : Below W.heap.size W W') {sp : Nat → Bool} : ∀ {ts : List TypeId} {vs : List Value} {ds : List (DataW H)} {ps : List MemPlace},(∀ t ∈ ts,P.readableRec t = true ∧ t < P.types.size) →
  DataW.TrodAll enc P W 0 (fun _ => true) true ts vs ds ps → (∀ x ∈ ps,x.block < W.heap.size) → (∀ x ∈ ps,sp x.block = true) → DataW.TrodAll enc P W' 0 sp true ts vs ds ps
 | [],[],[],ps,_,h,_,_ => h
 | t :: ts,v :: vs,d :: ds,ps,hr,h,hlt,hsp => by
  obtain ⟨p,q,h1,h2,rfl⟩ := h
  refine ⟨p,q,WideElems.Trod_stays hl (hr t (by simp)).1 (hr t (by simp)).2 h1 (fun x hx => hb.same (hlt x (List.mem_append_left _ hx))) (fun x hx => hsp x (List.mem_append_left _ hx)),
   trodAll_stay hl hb (fun t ht => hr t (List.mem_cons_of_mem _ ht)) h2 (fun x hx => hlt x (List.mem_append_right _ hx)) (fun x hx => hsp x (List.mem_append_right _ hx)),rfl⟩
 | [],_ :: _,_,_,_,h,_,_ => h.elim
 | [],[],_ :: _,_,_,h,_,_ => h.elim
 | _ :: _,[],_,_,_,h,_,_ => h.elim
 | _ :: _,_ :: _,[],_,_,h,_,_ => h.elim
theorem law_post {f : Func} {s : ChangeSpec} {apart fresh handsOn again : Bool} {W W' : World} {args : Array Value} {ds gs : List (DataW H)} {before : List MemPlace} {bt : TypeId}
  (hW : DataW.Whole enc P f.params.toList s.vars apart W args.toList ds gs before) (hvars : s.vars = []) (hres : f.resultTypes = #[bt]) (hbt : P.underlying bt = some .bool)
  (hfn : s.fn H (ds ++ gs) = { results := [.lit (.bool true)],args := ds }) (hl : laidOutB P = true) (hr : ∀ t ∈ f.params.toList,P.readableRec t = true ∧ t < P.types.size) (hb : Below W.heap.size W W') :
  s.post enc P f apart fresh handsOn again W args (.bool true) W' := by
 have hlt : ∀ x ∈ before,x.block < W.heap.size := fun x hx => hW.lt x hx
 obtain ⟨p,q,hA,hV,hbq,hz,hn⟩ := hW
 rw [hvars] at hV
 obtain ⟨rfl,rfl⟩ := trodVars_none hV
 have hbp : before = p := by simpa using hbq
 subst hbp
 have harg : ∀ sp : Nat → Bool,(∀ x ∈ before,sp x.block = true) → DataW.TrodAll enc P W' 0 sp true f.params.toList args.toList ds before := fun sp hsp => trodAll_stay hl hb hr hA hlt hsp
 have hresult : ∀ (b : Nat) (sp : Nat → Bool) (hd : Bool),DataW.TrodAll enc P W' b sp hd f.resultTypes.toList ((Value.bool true).resultList f.resultTypes.size) [.lit (.bool true)] [] := by
  intro b sp hd
  rw [hres]
  exact trodAll_cons_mk (shut_bool hbt _) trodAll_mk0
 have hvar : ∀ sp : Nat → Bool,DataW.TrodVars enc P W' sp s.vars (s.fn H (ds ++ [])).vars [] := by
  intro sp; rw [hvars,hfn]; exact rfl
 refine ⟨ds,[],before,[],before,[],⟨before,[],hA,by rw [hvars]; exact hV,by simp,hz,hn⟩,by rw [hfn]; exact hresult _ _ _,by rw [hfn]; exact harg _ (fun x hx => by simpa using hlt x hx),hvar _,
  World.keptBut_mono (fun x hx => ⟨hx,.inr (by simpa using hx)⟩) (hb.frame (· ∈ before)),fun _ => ?_⟩
 refine ⟨ok_one hres rfl (okWide_bool_mk hbt _),_,_,([] ++ before) ++ [],⟨[] ++ before,[],trodAll_append (harg _ (fun _ _ => rfl)) (hresult _ _ _),hvar _,rfl,fun b off hx => ?_,fun ha => by simpa using hn ha⟩,fun x hx _ => by simpa using hx⟩
 have hin : MemPlace.cell b off ∈ before := by simpa using hx
 rw [hb.frozen (hlt _ hin)]
 exact hz b off hin
theorem calls_true {L : Prog} (hm : P.follows .mixedOrders = true) (hL : LowOk P L) {f n : Nat} {args : List Val} (h : pcall L n f args = some (.bool true)) {S : Nat → Nat → Prop} {w : World} {vals : Array Value} (hS : ∀ b o,S b o → b < w.heap.size) (hg : GlobOk S w)
  (hn : vals.size = args.length) (hv : ∀ i,i < args.length → VR S Gh.none w (args.getD i .dead) (vals.getD i undef)) : Calls P f vals w fun e w' => e = .returned (.bool true) ∧ Below w.heap.size w w' := by
 refine Calls.mono ((pcall_sound hm hL n f args _ h).2 S w vals hS hg hn hv) ?_
 rintro e w' ⟨v,rfl,hb,hr⟩
 have hr' : VR (Gone w S w') Gh.none w' (.bool true) v := hr
 cases hr'
 exact ⟨rfl,hb⟩
end Go.Abs
namespace Go.Abs
def grownQ (P : Program) : Nat → List TypeId → List TypeId
 | 0,s => s
 | d + 1,s => if P.grow s == s then s else grownQ P d (P.grow s)
theorem grown_fix {P : Program} {s : List TypeId} (h : P.grow s = s) : ∀ d,P.grown d s = s
 | 0 => rfl
 | d + 1 => by rw [Program.grown,h]; exact grown_fix h d
theorem grownQ_eq (P : Program) : ∀ (d : Nat) (s : List TypeId),P.grown d s = grownQ P d s
 | 0,s => rfl
 | d + 1,s => by
  rw [grownQ]
  by_cases h : (P.grow s == s) = true
  ·rw [if_pos h]; exact grown_fix (eq_of_beq h) _
  ·rw [if_neg h,Program.grown]; exact grownQ_eq P d _
theorem book_q (P : Program) (t : TypeId) : P.book t = grownQ P P.types.size [t] := grownQ_eq P _ _
end Go.Abs
namespace Go.Abs
def CLe (c c' : CallFn) : Prop := ∀ f a r,c f a = some r → c' f a = some r
def ILe (i j : Inl) : Prop := (∀ f a s r,i.fn f a s = some r → j.fn f a s = some r) ∧ ∀ k a s r,i.yld k a s = some r → j.yld k a s = some r
def XLe (x y : LCode → St → Option (Ex × St)) : Prop := ∀ c s r,x c s = some r → y c s = some r
theorem eval_mono {n : Nat} {c c' : CallFn} (h : CLe c c') {me d g : Nat} {en : En} {get : Opd → Val} {op : LOp} {r : Res} (he : eval n c me d g en get op = some r) : eval n c' me d g en get op = some r := by
 by_cases hc : ∃ f args,op = .call f args
 ·obtain ⟨f,args,rfl⟩ := hc
  simp only [eval] at he ⊢
  split at he
  case h_2 => cases he
  split at he
  case h_2 => cases he
  split at he
  case h_2 => cases he
  rename_i hv
  rw [h _ _ _ hv]; exact he
 ·cases op <;> first | exact absurd ⟨_,_,rfl⟩ hc | exact he
theorem inlcall_mono {i j : Inl} (h : ILe i j) {f : Val} {a : List Val} {s : St} {r : Val × St} (he : i.call f a s = some r) : j.call f a s = some r := by
 cases f <;> simp only [Inl.call,reduceCtorEq] at he ⊢
 ·exact h.1 _ _ _ _ he
 ·exact h.2 _ _ _ _ he
theorem step_mono {n : Nat} {c c' : CallFn} {i j : Inl} (hc : CLe c c') (hi : ILe i j) {st : St} {o : LOper} {r : St × Res} (h : step n c i 0 st o = some r) : step n c' j 0 st o = some r := by
 obtain ⟨dst,op,g⟩ := o
 simp only [step] at h ⊢
 split at h
 ·exact h
 ·cases op with
  | icall f args =>
   simp only at h ⊢
   split at h
   case h_2 => cases h
   rename_i hv
   rw [inlcall_mono hi hv]; exact h
  | _ =>
   simp only at h ⊢
   split at h
   case h_2 => cases h
   rename_i hv
   rw [eval_mono hc hv]; exact h
 ·cases h
theorem runOps_mono {n : Nat} {c c' : CallFn} {i j : Inl} (hc : CLe c c') (hi : ILe i j) : ∀ (l : List LOper) {st r : St},runOps n c i 0 l st = some r → runOps n c' j 0 l st = some r
 | [],_,_,h => h
 | o :: l,st,r,h => by
  simp only [runOps] at h ⊢
  split at h
  case h_2 => cases h
  rename_i hs
  rw [step_mono hc hi hs]; exact runOps_mono hc hi l h
theorem runRec_mono {n : Nat} {c c' : CallFn} {i j : Inl} (hc : CLe c c') (hi : ILe i j) : ∀ (l : List LOper) {st : St} {r : St × List Res},runRec n c i 0 l st = some r → runRec n c' j 0 l st = some r
 | [],_,_,h => h
 | o :: l,st,r,h => by
  simp only [runRec] at h ⊢
  split at h
  case h_2 => cases h
  rename_i hs
  rw [step_mono hc hi hs]
  split at h
  case h_2 => cases h
  rename_i hr
  simp only [runRec_mono hc hi l hr]; exact h
theorem body_mono {x y : LCode → St → Option (Ex × St)} (h : XLe x y) {lf : LFunc} {n : Nat} {a : List Val} {r : Val} (hb : callBody lf n x a = some r) : callBody lf n y a = some r := by
 simp only [callBody] at hb ⊢
 split at hb
 case h_2 => cases hb
 rename_i hx
 rw [h _ _ _ hx]; exact hb
theorem same_mono {a b a' b' : Option Val} {r : Val} (ha : ∀ r,a = some r → a' = some r) (hb : ∀ r,b = some r → b' = some r) (h : sameEmpty a b = some r) : sameEmpty a' b' = some r := by
 unfold sameEmpty at h
 split at h <;> first | (cases h; done) | (rw [ha _ rfl,hb _ rfl]; exact h)
theorem call_mono {L : Prog} {x y : LCode → St → Option (Ex × St)} (h : XLe x y) {n : Nat} : CLe (callWith L n x) (callWith L n y) := by
 intro f a r hc
 simp only [callWith] at hc ⊢
 split at hc
 ·cases hc
 split at hc
 case isFalse => cases hc
 rename_i hl
 rw [if_pos hl]
 split at hc
 ·rename_i ha
  rw [if_pos ha]
  exact same_mono (fun _ => body_mono h) (fun _ => body_mono h) hc
 ·rename_i ha
  rw [if_neg ha]; exact body_mono h hc
theorem inlW_mono {L : Prog} {x y : LCode → St → Option (Ex × St)} (h : XLe x y) {f : Nat} {a : List Val} {s : St} {r : Val × St} (hc : inlWith L x f a s = some r) : inlWith L y f a s = some r := by
 simp only [inlWith] at hc ⊢
 split at hc
 ·cases hc
 split at hc
 case isFalse => cases hc
 rename_i hl
 rw [if_pos hl]
 split at hc
 ·rename_i ha
  rw [if_pos ha]
  obtain ⟨v,hv,rfl⟩ := Option.map_eq_some_iff.1 hc
  rw [same_mono (fun _ => body_mono h) (fun _ => body_mono h) hv]; rfl
 ·rename_i ha
  rw [if_neg ha]
  split at hc
  case h_2 => cases hc
  rename_i hx
  rw [h _ _ _ hx]; exact hc
theorem inl_mono {L : Prog} {x y : LCode → St → Option (Ex × St)} (h : XLe x y) : ILe (inlOf L x) (inlOf L y) := by
 refine ⟨fun f a s r hc => ?_,fun k a s r hc => ?_⟩
 ·simp only [inlOf,inlN] at hc ⊢
  split at hc
  case h_2 => cases hc
  rename_i hx
  rw [inlW_mono h hx]; exact hc
 ·simp only [inlOf,yldWith] at hc ⊢
  split at hc
  case h_2 => cases hc
  split at hc
  case isFalse => cases hc
  rename_i hl
  rw [if_pos hl]
  split at hc
  case h_2 => cases hc
  rename_i hx
  rw [h _ _ _ hx]
  split at hc
  case h_2 => cases hc
  rename_i hk
  simp only [hk]
  split at hc
  case h_2 => cases hc
  rename_i hx2
  simp only [h _ _ _ hx2]; exact hc
theorem pan_mono {L : Prog} {x y : LCode → St → Option (Ex × St)} (h : XLe x y) : CLe (panWith L x) (panWith L y) := by
 intro f a r hc
 simp only [panWith] at hc ⊢
 split at hc
 ·cases hc
 split at hc
 case isFalse => cases hc
 rename_i hl
 rw [if_pos hl]
 split at hc
 case h_2 => cases hc
 rename_i hx
 simp only [h _ _ _ hx]; exact hc
theorem pin_mono {L : Prog} {x y : LCode → St → Option (Ex × St)} (h : XLe x y) {f : Nat} {a : List Val} {s : St} {r : Val × St} (hc : panIn L x f a s = some r) : panIn L y f a s = some r := by
 simp only [panIn] at hc ⊢
 split at hc
 ·cases hc
 split at hc
 case isFalse => cases hc
 rename_i hl
 rw [if_pos hl]
 split at hc
 case h_2 => cases hc
 rename_i hx
 simp only [h _ _ _ hx]; exact hc
theorem pan_call {L : Prog} {x : LCode → St → Option (Ex × St)} {f n : Nat} {a : List Val} {v : Val} (h : panWith L x f a = some v) : callWith L n x f a = none := by
 simp only [panWith] at h
 split at h
 ·cases h
 rename_i lf hlf
 split at h
 case isFalse => cases h
 rename_i hl
 split at h
 case h_2 => cases h
 rename_i hx
 simp only [callWith,hlf,hl.1,hl.2,if_true,Bool.false_eq_true,if_false,callBody,hx,Ex.ends]
theorem pin_inl {L : Prog} {x : LCode → St → Option (Ex × St)} {f : Nat} {a : List Val} {s : St} {r : Val × St} (h : panIn L x f a s = some r) : inlWith L x f a s = none := by
 simp only [panIn] at h
 split at h
 ·cases h
 rename_i lf hlf
 split at h
 case isFalse => cases h
 rename_i hl
 split at h
 case h_2 => cases h
 rename_i hx
 simp only [inlWith,hlf,hl.1,hl.2,if_true,Bool.false_eq_true,if_false,hx,Ex.ends]
theorem pin_inlN {L : Prog} {x : LCode → St → Option (Ex × St)} {f : Nat} {a : List Val} {s : St} {r : Val × St} (h : panIn L x f a s = some r) : inlN L x f a s = none := by
 simp only [inlN,pin_inl h]
theorem pan_step {L : Prog} {x : LCode → St → Option (Ex × St)} {n k : Nat} {st : St} {o : LOper} {r : Val × St} (h : panStep n (panWith L x) (panIn L x) st o = some r) : step n (callWith L k x) (inlOf L x) 0 st o = none := by
 obtain ⟨dst,op,g⟩ := o
 simp only [panStep] at h
 split at h
 case h_2 => cases h
 rename_i hw
 simp only [step,hw]
 cases op with
 | panic y => simp [eval]
 | call f args =>
  simp only at h ⊢
  split at h
  case h_2 => cases h
  rename_i hf
  split at h
  case h_2 => cases h
  rename_i hs
  obtain ⟨v,hv,rfl⟩ := Option.map_eq_some_iff.1 h
  simp only [eval,hf,hs,pan_call hv]
 | icall f args =>
  simp only at h ⊢
  split at h
  case h_2 => cases h
  rename_i hf
  split at h
  case h_2 => cases h
  rename_i hv
  simp only [hf,Inl.call,inlOf,inlN,pin_inl hv]
 | _ => simp at h
theorem panStep_mono {L : Prog} {x y : LCode → St → Option (Ex × St)} {p : CallFn} (hx : XLe x y) (hp : CLe p (panWith L y)) {n : Nat} {st : St} {o : LOper} {r : Val × St} (h : panStep n p (panIn L x) st o = some r) : panStep n (panWith L y) (panIn L y) st o = some r := by
 obtain ⟨dst,op,g⟩ := o
 simp only [panStep] at h ⊢
 split at h
 case h_2 => cases h
 rename_i hw
 cases op with
 | call f args =>
  simp only at h ⊢
  split at h
  case h_2 => cases h
  split at h
  case h_2 => cases h
  obtain ⟨v,hv,rfl⟩ := Option.map_eq_some_iff.1 h
  simp only [hp _ _ _ hv,Option.map_some]
 | icall f args =>
  simp only at h ⊢
  split at h
  case h_2 => cases h
  split at h
  case h_2 => cases h
  rename_i hv
  rw [pin_mono hx hv]; exact h
 | _ => exact h
theorem runP_mono {L : Prog} {x y : LCode → St → Option (Ex × St)} {c p : CallFn} {k : Nat} (hx : XLe x y) (hc : CLe c (callWith L k y)) (hp : CLe p (panWith L y)) {n : Nat} : ∀ (l : List LOper) {st : St} {r : Ex × St},
  runP n c (inlOf L x) p (panIn L x) l st = some r → runP n (callWith L k y) (inlOf L y) (panWith L y) (panIn L y) l st = some r
 | [],_,_,h => h
 | o :: l,st,r,h => by
  simp only [runP] at h ⊢
  split at h
  ·rename_i hq
   simp only [panStep_mono hx hp hq]; exact h
  ·split at h
   case h_2 => cases h
   rename_i hs
   have hs' := step_mono hc (inl_mono hx (L := L)) hs
   have hn : panStep n (panWith L y) (panIn L y) st o = none := by
    cases hq : panStep n (panWith L y) (panIn L y) st o with
    | none => rfl
    | some q => rw [pan_step hq] at hs'; cases hs'
   simp only [hn,hs']; exact runP_mono hx hc hp l h
theorem defer_mono {L : Prog} {x y : LCode → St → Option (Ex × St)} (hx : XLe x y) {f : Val} {args : List Val} {e : Ex} {st st' : St} (h : deferWith L x f args e st = some st') : deferWith L y f args e st = some st' := by
 unfold deferWith at h ⊢
 split at h
 case h_2 => cases h
 split at h
 case h_2 => cases h
 split at h
 case h_2 => cases h
 split at h
 case isFalse => cases h
 rename_i hc
 split at h
 case h_2 => cases h
 rename_i ho
 split at h
 case h_2 => cases h
 rename_i hb
 simp only [if_pos hc,runOps_mono (call_mono hx (L := L) (n := 8)) (inl_mono hx (L := L)) _ ho,hx _ _ _ hb]; exact h
theorem first_mono {L : Prog} {x y : LCode → St → Option (Ex × St)} {c p : CallFn} {k : Nat} (hx : XLe x y) (hc : CLe c (callWith L k y)) (hp : CLe p (panWith L y)) {n : Nat} : ∀ (l : List LOper) {i j : Nat} {st : St},
  firstP n c (inlOf L x) p (panIn L x) l i st = some j → firstP n (callWith L k y) (inlOf L y) (panWith L y) (panIn L y) l i st = some j
 | [],_,_,_,h => h
 | o :: l,i,j,st,h => by
  simp only [firstP] at h ⊢
  split at h
  ·rename_i hq
   simp only [panStep_mono hx hp hq]; exact h
  ·split at h
   case h_2 => cases h
   rename_i hs
   have hs' := step_mono hc (inl_mono hx (L := L)) hs
   have hn : panStep n (panWith L y) (panIn L y) st o = none := by
    cases hq : panStep n (panWith L y) (panIn L y) st o with
    | none => rfl
    | some q => rw [pan_step hq] at hs'; cases hs'
   simp only [hn,hs']; exact first_mono hx hc hp l h
theorem first_none {L : Prog} {x : LCode → St → Option (Ex × St)} {n k : Nat} : ∀ (l : List LOper) {i : Nat} {st : St} {r : St × List Res},
  runRec n (callWith L k x) (inlOf L x) 0 l st = some r → firstP n (callWith L k x) (inlOf L x) (panWith L x) (panIn L x) l i st = none
 | [],_,_,_,_ => rfl
 | o :: l,i,st,r,h => by
  simp only [runRec] at h
  split at h
  case h_2 => cases h
  rename_i hs
  split at h
  case h_2 => cases h
  rename_i hr
  have hn : panStep n (panWith L x) (panIn L x) st o = none := by
   cases hq : panStep n (panWith L x) (panIn L x) st o with
   | none => rfl
   | some q => rw [pan_step hq] at hs; cases hs
  simp only [firstP,hn,hs]
  exact first_none l hr
theorem drawPan_mono {L : Prog} {x y : LCode → St → Option (Ex × St)} {c p : CallFn} {k : Nat} (hx : XLe x y) (hc : CLe c (callWith L k y)) (hp : CLe p (panWith L y)) {n : Nat} {l : List LOper} {an : List (List Nat)} {ps : List (Nat × Nat)} {j : Nat} {st : St} {r : Ex × St}
  (h : drawPan n c (inlOf L x) p (panIn L x) l an ps j st = some r) : drawPan n (callWith L k y) (inlOf L y) (panWith L y) (panIn L y) l an ps j st = some r := by
 simp only [drawPan] at h ⊢
 split at h
 case h_2 => cases h
 rename_i hr
 rw [runRec_mono hc (inl_mono hx (L := L)) _ hr]
 simp only
 split at h
 case isFalse => cases h
 rename_i hk
 rw [if_pos hk]
 split at h
 case h_2 => cases h
 rename_i hq
 simp only [panStep_mono hx hp hq]; exact h
theorem range_mono {L : Prog} {x y : LCode → St → Option (Ex × St)} (h : XLe x y) {g : Val} {ps : List Nat} {a b : LCode} {st : St} {r : Ex × St} (hr : rangeWith L x g ps a b st = some r) : rangeWith L y g ps a b st = some r := by
 unfold rangeWith at hr ⊢
 split at hr
 case h_2 => cases hr
 simp only at hr ⊢
 split at hr
 ·rename_i hx
  have := (inl_mono h (L := L)).1 _ _ _ _ hx
  simp only [inlOf] at this
  rw [this]; exact hr
 ·split at hr
  case h_2 => cases hr
  rename_i hx
  have := pin_mono h (L := L) hx
  simp only [pin_inlN this,this]; exact hr
def stepX (L : Prog) (x : LCode → St → Option (Ex × St)) (ca p : CallFn) (c : LCode) (st : St) : Option (Ex × St) :=
 let i := inlOf L x
 match c with
 | .skip => some (.normal,st)
 | .ops l => (runOps 8 ca i 0 l st).map fun st => (.normal,st)
 | .draw l ps => match runRec 8 ca i 0 l st with
  | some (st',rs) => if pairsOk rs ps then some (.normal,st') else none
  | none => none
 | .seq a b => match x a st with
  | some (.normal,st') => x b st'
  | r => r
 | .cond z a b => match St.get st.fr z with
  | .bool true => x a st
  | .bool false => x b st
  | _ => none
 | .block id b => match x b st with
  | some (.exit id',st') => if id' = id then some (.normal,st') else some (.exit id',st')
  | r => r
 | .loop b => match x b st with
  | some (.normal,st') => x (.loop b) st'
  | r => r
 | .exit id => some (.exit id,st)
 | .ret => some (.ret,st)
 | .rangeF g ps a b => rangeWith L x (St.get st.fr g) ps a b st
 | .opsP l => runP 8 ca i p (panIn L x) l st
 | .dfr ts l f args b => match runOps 8 ca i 0 l st with
  | some st2 => match x b st2 with
   | some (e,st3) => if ts.any (fun t => (st3.fr t).isUndef) then none else (deferWith L x (St.get st2.fr f) (args.map (St.get st2.fr)) e st3).map fun st4 => (.ret,st4)
   | none => none
  | none => none
 | .rcv _ _ _ => none
 | .drawP l an ps => match firstP 8 ca i p (panIn L x) l 0 st with
  | some j => drawPan 8 ca i p (panIn L x) l an ps j st
  | none => match runRec 8 ca i 0 l st with
   | some (st',rs) => if pairsOk rs ps then some (.normal,st') else none
   | none => none
 | .drawL l an ps A => drawLate 8 ca i p (panIn L x) (lateL A (lateKey st (l.getD A default)) l) an ps A (lateKey st (l.getD A default)) (lateS (lateKey st (l.getD A default)) (lateZ (l.getD A default).op) st)
theorem exec_succ (L : Prog) (n : Nat) : exec L (n + 1) = stepX L (exec L n) (callWith L 8 (exec L n)) (panWith L (exec L n)) := by
 funext c st
 cases c <;> rfl
theorem step_le {L : Prog} {x y : LCode → St → Option (Ex × St)} {ca p : CallFn} (ih : XLe x y) (hc : CLe ca (callWith L 8 y)) (hp : CLe p (panWith L y)) : XLe (stepX L x ca p) (stepX L y (callWith L 8 y) (panWith L y)) := by
 intro c s r h
 have hi := inl_mono ih (L := L)
 cases c with
 | skip => exact h
 | ops l =>
  simp only [stepX] at h ⊢
  obtain ⟨st,hs,rfl⟩ := Option.map_eq_some_iff.1 h
  rw [runOps_mono hc hi l hs]; rfl
 | draw l ps =>
  simp only [stepX] at h ⊢
  split at h
  case h_2 => cases h
  rename_i hs
  rw [runRec_mono hc hi l hs]; exact h
 | seq a b =>
  simp only [stepX] at h ⊢
  cases hx : x a s with
  | none => rw [hx] at h; cases h
  | some p =>
   obtain ⟨e,st⟩ := p
   rw [hx] at h
   rw [ih _ _ _ hx]
   cases e with
   | normal => exact ih _ _ _ h
   | exit i => exact h
   | ret => exact h
   | panic v => exact h
 | cond z a b =>
  simp only [stepX] at h ⊢
  split at h
  ·exact ih _ _ _ h
  ·exact ih _ _ _ h
  ·cases h
 | block id b =>
  simp only [stepX] at h ⊢
  cases hx : x b s with
  | none => rw [hx] at h; cases h
  | some p =>
   obtain ⟨e,st⟩ := p
   rw [hx] at h
   rw [ih _ _ _ hx]; exact h
 | loop b =>
  simp only [stepX] at h ⊢
  cases hx : x b s with
  | none => rw [hx] at h; cases h
  | some p =>
   obtain ⟨e,st⟩ := p
   rw [hx] at h
   rw [ih _ _ _ hx]
   cases e with
   | normal => exact ih _ _ _ h
   | exit i => exact h
   | ret => exact h
   | panic v => exact h
 | exit i => exact h
 | ret => exact h
 | rangeF g ps a b =>
  simp only [stepX] at h ⊢
  exact range_mono ih h
 | opsP l =>
  simp only [stepX] at h ⊢
  exact runP_mono ih hc hp l h
 | rcv d l b => simp [stepX] at h
 | drawP l an ps =>
  simp only [stepX] at h ⊢
  split at h
  ·rename_i hf
   simp only [first_mono ih hc hp l hf]
   exact drawPan_mono ih hc hp h
  ·split at h
   case h_2 => cases h
   rename_i hr
   have hr' := runRec_mono hc hi l hr
   simp only [first_none (x := y) l hr',hr']; exact h
 | drawL l an ps A =>
  simp only [stepX] at h ⊢
  unfold drawLate at h ⊢
  split at h
  ·rename_i hf
   simp only [first_mono ih hc hp _ hf]
   split at h
   case h_2 => cases h
   rename_i hr
   rw [runRec_mono hc hi _ hr]
   simp only
   split at h
   case isFalse => cases h
   rename_i hck
   rw [if_pos hck]
   split at h
   case h_2 => cases h
   rename_i hq
   simp only [panStep_mono ih hp hq]; exact h
  ·split at h
   case h_2 => cases h
   rename_i hr
   have hr' := runRec_mono hc hi _ hr
   simp only [first_none (x := y) _ hr',hr']; exact h
 | dfr ts l f args b =>
  simp only [stepX] at h ⊢
  split at h
  case h_2 => cases h
  rename_i hr
  simp only [runOps_mono hc hi l hr]
  split at h
  case h_2 => cases h
  rename_i hb
  simp only [ih _ _ _ hb]
  split at h
  ·cases h
  rename_i hts
  rw [if_neg hts]
  obtain ⟨q,hq,rfl⟩ := Option.map_eq_some_iff.1 h
  rw [defer_mono ih hq]; rfl
theorem exec_mono (L : Prog) : ∀ n,XLe (exec L n) (exec L (n + 1)) := by
 intro n
 induction n with
 | zero => intro c s r h; simp [exec] at h
 | succ n ih => rw [exec_succ,exec_succ]; exact step_le ih (call_mono ih) (pan_mono ih)
theorem exec_le (L : Prog) {n m : Nat} (h : n ≤ m) : XLe (exec L n) (exec L m) := by
 induction h with
 | refl => intro c s r h; exact h
 | step _ ih => intro c s r h; exact exec_mono L _ _ _ _ (ih _ _ _ h)
theorem pcall_le {L : Prog} {n m : Nat} (h : n ≤ m) {f : Nat} {a : List Val} {r : Val} (hr : pcall L n f a = some r) : pcall L m f a = some r := call_mono (exec_le L h) _ _ _ hr
end Go.Abs
namespace Go.Abs
def PC (L : Prog) (f : Nat) (args : List Val) (r : Val) : Prop := ∃ n0,∀ n,n0 ≤ n → pcall L n f args = some r
def WIn (L : Prog) (f : Val) (args : List Val) (en : En) (cnt : Nat → Nat → Nat) (Q : Val → En → (Nat → Nat → Nat) → Prop) : Prop :=
 ∃ v en' cnt',(∃ n0,∀ n,n0 ≤ n → ∀ fr,(inlOf L (exec L n)).call f args ⟨fr,en,cnt⟩ = some (v,⟨fr,en',cnt'⟩)) ∧ Q v en' cnt'
theorem WIn.mono {L : Prog} {f : Val} {args : List Val} {en : En} {cnt : Nat → Nat → Nat} {Q R : Val → En → (Nat → Nat → Nat) → Prop}
  (h : WIn L f args en cnt Q) (k : ∀ v en' cnt',Q v en' cnt' → R v en' cnt') : WIn L f args en cnt R := by
 obtain ⟨v,en',cnt',h1,h2⟩ := h; exact ⟨v,en',cnt',h1,k _ _ _ h2⟩
def WPan (L : Prog) (f : Nat) (args : List Val) (en : En) (cnt : Nat → Nat → Nat) (Q : Val → En → (Nat → Nat → Nat) → Prop) : Prop :=
 ∃ v en' cnt',(∃ n0,∀ n,n0 ≤ n → ∀ fr,panIn L (exec L n) f args ⟨fr,en,cnt⟩ = some (v,⟨fr,en',cnt'⟩)) ∧ Q v en' cnt'
theorem WPan.mono {L : Prog} {f : Nat} {args : List Val} {en : En} {cnt : Nat → Nat → Nat} {Q R : Val → En → (Nat → Nat → Nat) → Prop}
  (h : WPan L f args en cnt Q) (k : ∀ v en' cnt',Q v en' cnt' → R v en' cnt') : WPan L f args en cnt R := by
 obtain ⟨v,en',cnt',h1,h2⟩ := h; exact ⟨v,en',cnt',h1,k _ _ _ h2⟩
theorem pc_run {L : Prog} {n f : Nat} {args : List Val} {r : Val} (h : pcall L n f args = some r) : PC L f args r := ⟨n,fun _ hm => pcall_le hm h⟩
end Go.Abs
namespace Go.Abs
def orC (m c : CallFn) : CallFn := fun f a => match m f a with
 | some r => some r
 | none => c f a
def unC (m c : CallFn) : CallFn := fun f a => match m f a with
 | some _ => none
 | none => c f a
def execM (L : Prog) (m : CallFn) : Nat → LCode → St → Option (Ex × St)
 | 0 => fun _ _ => none
 | n + 1 => stepX L (execM L m n) (orC m (callWith L 8 (execM L m n))) (unC m (panWith L (execM L m n)))
theorem execM_le {L : Prog} {m : CallFn} {N : Nat} (hm : CLe m (pcall L N)) : ∀ n,XLe (execM L m n) (exec L (N + n))
 | 0 => fun c s r h => by simp [execM] at h
 | n + 1 => by
  have ih := execM_le hm n
  rw [show N + (n + 1) = (N + n) + 1 from rfl,exec_succ]
  refine step_le ih (fun f a r h => ?_) (fun f a r h => ?_)
  ·unfold orC at h
   split at h
   ·rename_i hq
    cases h
    exact pcall_le (by omega) (hm _ _ _ hq)
   ·exact call_mono ih _ _ _ h
  ·unfold unC at h
   split at h
   ·cases h
   ·exact pan_mono ih _ _ _ h
structure Known1 where
 f : Nat
 a : List Val
 r : Val
def memo : List Known1 → CallFn
 | [],_,_ => none
 | e :: l,f,a => if e.f = f then (if sameL (sameV 50) e.a a = true then some e.r else memo l f a) else memo l f a
def Knows (L : Prog) (l : List Known1) : Prop := ∃ N,CLe (memo l) (pcall L N)
theorem Knows.nil {L : Prog} : Knows L [] := ⟨0,fun _ _ _ h => by simp [memo] at h⟩
theorem Knows.pc {L : Prog} {l : List Known1} (h : Knows L l) {n f : Nat} {a : List Val} {r : Val} (hr : callWith L 8 (execM L (memo l) n) f a = some r) : PC L f a r := by
 obtain ⟨N,hN⟩ := h
 exact pc_run (call_mono (execM_le hN n) _ _ _ hr)
theorem Knows.add {L : Prog} {l : List Known1} (h : Knows L l) {f : Nat} {a : List Val} {r : Val} (hr : PC L f a r) : Knows L (⟨f,a,r⟩ :: l) := by
 obtain ⟨N,hN⟩ := h
 obtain ⟨M,hM⟩ := hr
 refine ⟨N + M,fun g b q hq => ?_⟩
 simp only [memo] at hq
 split at hq
 ·rename_i e1
  split at hq
  ·rename_i e2
   cases hq
   subst e1
   cases sameL_eq (sameV_eq 50) e2
   exact hM _ (by omega)
  ·exact pcall_le (by omega) (hN _ _ _ hq)
 ·exact pcall_le (by omega) (hN _ _ _ hq)
theorem Knows.step {L : Prog} {e : Known1} {l : List Known1} (h : Knows L l) (hr : callWith L 8 (execM L (memo l) 1000) e.f e.a = some e.r) : Knows L (e :: l) := h.add (h.pc hr)
theorem Knows.one {L : Prog} {e : Known1} {l : List Known1} (h : Knows L (e :: l)) : Knows L [e] := by
 obtain ⟨N,hN⟩ := h
 refine ⟨N,fun f a r hr => hN f a r ?_⟩
 simp only [memo] at hr ⊢
 split at hr
 ·rename_i e1
  split at hr
  ·rename_i e2; rw [if_pos e1,if_pos e2]; exact hr
  ·cases hr
 ·cases hr
end Go.Abs
namespace Go.Abs
def lead (P : Program) (g : Nat) : List Nat := (P.funcs[g]?).elim [] P.leadsTo
theorem via_sub {P : Program} {G : Nat → Prop} (hc : ∀ g,G g → ∀ h ∈ lead P g,G h) : ∀ (n : Nat) (todo seen : List Nat),(∀ g ∈ todo,G g) → (∀ g ∈ seen,G g) → ∀ g ∈ P.closureVia n todo seen,G g
 | 0,_,seen,_,hs => fun g hg => hs g (by simpa [Program.closureVia] using hg)
 | n + 1,[],seen,_,hs => fun g hg => hs g (by simpa [Program.closureVia] using hg)
 | n + 1,f :: todo,seen,ht,hs => by
  rw [Program.closureVia]
  split
  ·exact via_sub hc n todo seen (fun g hg => ht g (List.mem_cons_of_mem _ hg)) hs
  ·refine via_sub hc n _ _ (fun g hg => ?_) (fun g hg => ?_)
   ·rcases List.mem_append.1 hg with h | h
    ·exact hc f (ht f List.mem_cons_self) g h
    ·exact ht g (List.mem_cons_of_mem _ h)
   ·rcases List.mem_cons.1 hg with rfl | h
    ·exact ht g List.mem_cons_self
    ·exact hs g h
def rest (P : Program) (seen : List Nat) : List Nat → Nat
 | [] => 0
 | g :: l => (if seen.contains g then 0 else (lead P g).length) + rest P seen l
theorem rest_le {P : Program} {seen : List Nat} (f : Nat) : ∀ l,rest P (f :: seen) l ≤ rest P seen l
 | [] => Nat.le_refl _
 | g :: l => by
  have := rest_le (P := P) (seen := seen) f l
  simp only [rest,List.contains_cons]
  by_cases h : (g == f) = true <;> by_cases h2 : seen.contains g = true <;> simp [h,h2] <;> omega
theorem rest_cons {P : Program} {seen : List Nat} {f : Nat} (hf : seen.contains f = false) : ∀ l,f ∈ l → rest P (f :: seen) l + (lead P f).length ≤ rest P seen l
 | [],h => by cases h
 | g :: l,h => by
  have h1 := rest_le (P := P) (seen := seen) f l
  simp only [rest,List.contains_cons]
  by_cases e : g = f
  ·subst e
   simp only [beq_self_eq_true,Bool.true_or,if_true,hf,Bool.false_eq_true,if_false]
   omega
  ·have hm : f ∈ l := by
    rcases List.mem_cons.1 h with h | h
    ·exact absurd h.symm e
    ·exact h
   have h2 := rest_cons (P := P) hf l hm
   have : (g == f) = false := by simpa using e
   simp only [this,Bool.false_or]
   omega
theorem via_all {P : Program} : ∀ (n : Nat) (todo seen : List Nat),todo.length + rest P seen (List.range P.funcs.size) ≤ n → (∀ g ∈ seen,∀ h ∈ lead P g,h ∈ seen ∨ h ∈ todo) →
  (∀ g,g ∈ seen ∨ g ∈ todo → g ∈ P.closureVia n todo seen) ∧ ∀ g ∈ P.closureVia n todo seen,∀ h ∈ lead P g,h ∈ P.closureVia n todo seen
 | 0,todo,seen,hn,hi => by
  have : todo = [] := List.length_eq_zero_iff.1 (by omega)
  subst this
  refine ⟨fun g hg => ?_,fun g hg h hh => ?_⟩
  ·rcases hg with h | h
   ·simpa [Program.closureVia] using h
   ·cases h
  ·have hg' : g ∈ seen := by simpa [Program.closureVia] using hg
   rcases hi g hg' h hh with h | h
   ·simpa [Program.closureVia] using h
   ·cases h
 | n + 1,[],seen,hn,hi => by
  refine ⟨fun g hg => ?_,fun g hg h hh => ?_⟩
  ·rcases hg with h | h
   ·simpa [Program.closureVia] using h
   ·cases h
  ·have hg' : g ∈ seen := by simpa [Program.closureVia] using hg
   rcases hi g hg' h hh with h | h
   ·simpa [Program.closureVia] using h
   ·cases h
 | n + 1,f :: todo,seen,hn,hi => by
  rw [Program.closureVia]
  by_cases hf : seen.contains f = true
  ·rw [if_pos hf]
   have hfs : f ∈ seen := by simpa using hf
   simp only [List.length_cons] at hn
   obtain ⟨a,b⟩ := via_all (P := P) n todo seen (by omega) (fun g hg h hh => by
    rcases hi g hg h hh with h1 | h1
    ·exact .inl h1
    ·rcases List.mem_cons.1 h1 with rfl | h1
     ·exact .inl hfs
     ·exact .inr h1)
   refine ⟨fun g hg => a g ?_,b⟩
   rcases hg with h | h
   ·exact .inl h
   ·rcases List.mem_cons.1 h with rfl | h
    ·exact .inl hfs
    ·exact .inr h
  ·rw [if_neg hf]
   have hf' : seen.contains f = false := by simpa using hf
   have hlen : (lead P f).length + rest P (f :: seen) (List.range P.funcs.size) ≤ rest P seen (List.range P.funcs.size) := by
    by_cases hs : f < P.funcs.size
    ·have := rest_cons (P := P) hf' _ (List.mem_range.2 hs)
     omega
    ·have : lead P f = [] := by unfold lead; rw [Array.getElem?_eq_none (by omega)]; rfl
     rw [this]
     have := rest_le (P := P) (seen := seen) f (List.range P.funcs.size)
     simpa using this
   simp only [List.length_cons] at hn
   obtain ⟨a,b⟩ := via_all (P := P) n (lead P f ++ todo) (f :: seen) (by simp only [List.length_append]; omega) (fun g hg h hh => by
    rcases List.mem_cons.1 hg with rfl | hg
    ·exact .inr (List.mem_append_left _ hh)
    ·rcases hi g hg h hh with h1 | h1
     ·exact .inl (List.mem_cons_of_mem _ h1)
     ·rcases List.mem_cons.1 h1 with rfl | h1
      ·exact .inl List.mem_cons_self
      ·exact .inr (List.mem_append_right _ h1))
   refine ⟨fun g hg => a g ?_,b⟩
   rcases hg with h | h
   ·exact .inl (List.mem_cons_of_mem _ h)
   ·rcases List.mem_cons.1 h with rfl | h
    ·exact .inl List.mem_cons_self
    ·exact .inr (List.mem_append_right _ h)
theorem rest_all {P : Program} : ∀ (l : List Func) (k : Nat),(∀ i,i < l.length → P.funcs[k + i]? = l[i]?) → rest P [] (List.range' k l.length) ≤ (l.map fun g => (P.leadsTo g).length + 1).sum
 | [],_,_ => Nat.zero_le _
 | g :: l,k,h => by
  have h0 := h 0 (by simp)
  have ih := rest_all (P := P) l (k + 1) (fun i hi => by
   have := h (i + 1) (by simp; omega)
   rw [show k + 1 + i = k + (i + 1) by omega,this]; rfl)
  simp only [Nat.add_zero,List.getElem?_cons_zero] at h0
  have e : lead P k = P.leadsTo g := by unfold lead; rw [h0]; rfl
  simp only [List.length_cons,List.range'_succ,rest,e,List.map_cons,List.sum_cons]
  have : ([] : List Nat).contains k = false := rfl
  rw [this]
  simp only [Bool.false_eq_true,if_false]
  omega
theorem closure_all (P : Program) (f : Nat) : f ∈ P.closure f ∧ ∀ g ∈ P.closure f,∀ h ∈ lead P g,h ∈ P.closure f := by
 have hr := rest_all (P := P) P.funcs.toList 0 (fun i _ => by simp)
 rw [← List.range_eq_range',Array.length_toList] at hr
 obtain ⟨a,b⟩ := via_all (P := P) (1 + (P.funcs.toList.map fun g => (P.leadsTo g).length + 1).sum) [f] [] (by simp only [List.length_cons,List.length_nil]; omega) (fun g hg => by cases hg)
 exact ⟨a f (.inr List.mem_cons_self),b⟩
theorem closure_step {P : Program} {f g h : Nat} {fn : Func} (hg : g ∈ P.closure f) (hfn : P.funcs[g]? = some fn) (hh : (P.leadsTo fn).contains h = true) : h ∈ P.closure f :=
 (closure_all P f).2 g hg h (by unfold lead; rw [hfn]; simpa using hh)
theorem zip_of {P : Program} {q : Func → Nat → Bool} (h : (P.funcs.toList.zipIdx.all fun p => q p.1 p.2) = true) {g : Nat} {fn : Func} (hfn : P.funcs[g]? = some fn) : q fn g = true := by
 rw [List.all_eq_true] at h
 exact h (fn,g) (by rw [List.mem_zipIdx_iff_getElem?]; simpa using hfn)
def tameB (P : Program) (good : Nat → Bool) : Bool := P.funcs.toList.zipIdx.all fun p => (p.1.body.elim [] Code.globalsNamed).isEmpty && (!good p.2 || ((P.leadsTo p.1).all good && !(p.1.ours || p.1.body.isNone || p.1.name == "runtime.NumGoroutine")))
theorem closure_tame {P : Program} {good : Nat → Bool} {f : Nat} (h : tameB P good = true) (hf : good f = true) : P.inPlace f = [] ∧ P.varsNamed f = [] := by
 have hz := fun g fn hfn => zip_of (q := fun a b => (a.body.elim [] Code.globalsNamed).isEmpty && (!good b || ((P.leadsTo a).all good && !(a.ours || a.body.isNone || a.name == "runtime.NumGoroutine")))) h (g := g) (fn := fn) hfn
 have hg : ∀ g ∈ P.closure f,good g = true := by
  refine via_sub (P := P) (G := fun g => good g = true) (fun g hg x hx => ?_) _ _ _ (fun g hg => ?_) (fun g hg => by cases hg)
  ·unfold lead at hx
   cases hfn : P.funcs[g]? with
   | none => rw [hfn] at hx; cases hx
   | some fn =>
    rw [hfn] at hx
    have := hz g fn hfn
    simp only [hg,Bool.not_true,Bool.false_or,Bool.and_eq_true,List.all_eq_true] at this
    exact this.2.1 x hx
  ·rw [List.mem_singleton.1 hg]; exact hf
 have hodd : ∀ g ∈ P.closure f,∀ fn,P.funcs[g]? = some fn → (fn.ours || fn.body.isNone || fn.name == "runtime.NumGoroutine") = false := fun g h1 fn hfn => by
  have := hz g fn hfn
  simp only [hg g h1,Bool.not_true,Bool.false_or,Bool.and_eq_true] at this
  simpa using this.2.2
 constructor
 ·unfold Program.inPlace
  rw [List.filterMap_eq_nil_iff]
  intro g h1
  cases hfn : P.funcs[g]? with
  | none => rfl
  | some fn =>
   simp only [Option.bind_some]
   rw [hodd g h1 fn hfn]; rfl
 ·unfold Program.varsNamed
  have e1 : ((P.closure f).flatMap fun g => ((P.funcs[g]?).bind (·.body)).elim [] Code.globalsNamed) = [] := by
   rw [List.flatMap_eq_nil_iff]
   intro g h1
   cases hfn : P.funcs[g]? with
   | none => rfl
   | some fn =>
    have := hz g fn hfn
    simp only [Bool.and_eq_true,List.isEmpty_iff] at this
    simp only [Option.bind_some]
    exact this.1
  have e2 : ((P.closure f).filterMap fun g => (P.funcs[g]?).bind fun fn => if fn.body.isNone then entryReads.lookup fn.name else none) = [] := by
   rw [List.filterMap_eq_nil_iff]
   intro g h1
   cases hfn : P.funcs[g]? with
   | none => rfl
   | some fn =>
    have := hodd g h1 fn hfn
    simp only [Bool.or_eq_false_iff] at this
    simp only [Option.bind_some,this.1.2,Bool.false_eq_true,if_false]
  rw [e1,e2]; rfl
theorem unf_of {P : Program} {f g : Nat} {fn : Func} (hg : g ∈ P.closure f) (hfn : P.funcs[g]? = some fn) (h : (match fn.body with | some c => c.unfollowed | none => entryCalls fn) = true) : P.unfollowed f = true ∧ P.recurses f = true := by
 have : P.unfollowed f = true := by
  unfold Program.unfollowed
  rw [List.any_eq_true]
  exact ⟨g,hg,by rw [hfn]; exact h⟩
 exact ⟨this,by unfold Program.recurses; rw [this]; rfl⟩
end Go.Abs
