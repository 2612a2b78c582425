import Derived.Calls
import Derived.Below
import Derived.WalkKit
import Derived.ChangeKeysEq
import Derived.WalkLawsBesides
import Derived.WalkSpells
import Derived.OrdersIn
import Derived.RangeFuncRecord
import Derived.Deep.Upon
set_option linter.all false
open Array renaming getD_eq_getD_getElem? -> bQy, getElem?_eq_getElem -> bQ4, getElem?_eq_some_iff -> bSd, getElem?_setIfInBounds -> bTa, length_toList -> bSt, mapM_eq_mapM_toList -> bT5, size_append -> bTl
open Bool renaming and_eq_false_iff -> bTj, and_eq_true -> bQj, false_eq_true -> bQm, false_or -> bRf, not_true -> bQ0
open Int renaming eq_ofNat_of_zero_le -> bRn, toNat_natCast -> bRh, toNat_of_nonneg -> bT0
open List renaming all_cons -> bSs, cons_append -> bS2, drop_eq_getElem_cons -> bRt, drop_eq_nil_iff -> bTs, drop_zero -> bSm, flatMap_nil -> bSn, foldl_cons -> bSv, foldl_nil -> bS4, getD_cons_zero -> bTi, getD_eq_getElem?_getD -> bQn, getElem?_append -> bTc, getElem?_append_left -> bSq, getElem?_cons_succ -> bTz, getElem?_drop -> bTq, getElem?_eq_getElem -> bRq, getElem?_eq_some_iff -> bT4, getElem?_set -> bTb, getElem_mem -> bQr, isEmpty_iff -> bTn, length_append -> bQ2, length_cons -> bQu, length_drop -> bS3, length_map -> bQl, length_nil -> bQz, length_pos_iff -> bTm, length_set -> bSb, length_take -> bR2, map_cons -> bRj, map_nil -> bQ1, mem_append_left -> bSu, mem_append_right -> bSe, mem_cons -> bRm, mem_cons_of_mem -> bSo, mem_flatMap -> bRx, range'_succ -> bTk, range_eq_range' -> bTr, replicate_succ -> bR0, replicate_zero -> bRz, take_length -> bR1, take_of_length_le -> bQ3, take_succ_cons -> bQs, take_zero -> bQq
open Nat renaming add_assoc -> bSp, add_mul -> bR8, add_zero -> bR5, le_refl -> bQk, le_trans -> bQv, lt_irrefl -> bS1, lt_of_lt_of_le -> bRa, lt_or_ge -> bRs, mul_le_mul_right -> bRv, succ_mul -> bR9, zero_add -> bRg, zero_le -> bQt
open Option renaming bind_eq_bind -> bQ6, bind_eq_some_iff -> bQx, getD_some -> bRc, isSome_iff_exists -> bSa, map_eq_some_iff -> bQw, map_some -> bRd, pure_def -> bQ8
open Option.some renaming injEq -> bQi
open Prod.mk renaming injEq -> bQo
namespace Go.Abs
variable {p:Prop}
theorem D_t[Decidable p](h:p):decide p=true:=decide_eq_true h
theorem D_f[Decidable p](h:¬p):decide p=false:=decide_eq_false h
theorem D_o[Decidable p](h:decide p=true):p:=of_decide_eq_true h
theorem bT8 [Decidable p]:(decide p=true)=p:=decide_eq_true_eq
theorem bT9 [Decidable p]:decide p=false↔ ¬p:=decide_eq_false_iff_not
structure Key where
 n:Nat
 t:Nat
 g:Nat
 deriving DecidableEq
def Key.deep (k:Key):Bool:=decide (k.n=3)
inductive Val where
 |dead
 |bool (b:Bool)
 |int (k:IntKind) (n:Int)
 |str (s:ByteArray)
 |nilp
 |fp (cs:List Val) (off:Nat)
 |ptr (k:Key) (off:Nat)
 |ep (k:Key) (i off:Nat)
 |fz (xs:List Val)
 |cl (xs:List Val)
 |bl (k:Key) (off len:Nat)
 |nilm
 |fm (ks vs:List Val)
 |mp (k:Key)
 |nilf
 |fn (f:Nat) (first cap:List Val)
 |yld (k:Key)
 |nili
 |es (nil:Bool)
 |it (k:Key)
 |own (sz:Nat) (xs:List Val)
 |ifc (t:Nat) (v:Val)
 |agg (cs:List Val)
 |tup (vs:List Val)
 deriving Inhabited
namespace Val
def cells :Val->List Val
 |agg cs=>cs
 |v=>[v]
def one :Val->Bool
 |tup _=>false
 |_=>true
def wk0 :Val->Val
 |cl xs=>fz xs
 |v=>v
def wk1 :Val->Val
 |agg cs=>agg (cs.map wk0)
 |v=>wk0 v
def wk :Val->Val
 |tup vs=>tup (vs.map wk1)
 |v=>wk1 v
def flat0 :Val->Bool
 |bool _|int _ _|str _|nilp|nilm|nilf|nili|fn _ [] []=>true
 |_=>false
def flat1 :Val->Bool
 |agg cs=>cs.all flat0
 |ifc _ (agg cs)=>cs.all flat0
 |ifc _ v=>flat0 v
 |v=>flat0 v
def flat :Val->Bool
 |tup vs=>vs.all flat1
 |v=>flat1 v
end Val
inductive Opd where
 |t (i:Nat)
 |c (v:Val)
 |f (i:Nat)
 |m (tbl:List (Nat×Nat)) (i:Nat)
 deriving Inhabited
inductive CT where
 |num|str|bool
 deriving DecidableEq,Inhabited
inductive EqT where
 |num|str|bool|agg (l:List CT)|map|slice|func|iface|ptr
 deriving DecidableEq,Inhabited
inductive LOp where
 |mv (x:Opd)
 |pick (c a b:Opd)
 |alloc (z:List Val)
 |box (n:Nat) (x:Opd)
 |build (z:List Val) (parts:List (Nat×Nat×Opd))
 |bslice (len size:Nat) (z:List Val) (parts:List (Nat×Opd))
 |bsliceK (len size:Nat) (z:List Val) (parts:List (Nat×Opd))
 |load (agg:Bool) (n:Nat) (a:Opd)
 |store (n:Nat) (a v:Opd)
 |nilck (x:Opd)
 |bin (op:BinOp) (t:EqT) (x y:Opd)
 |un (op:UnOp) (x:Opd)
 |wrap (k:IntKind) (x:Opd)
 |iface (t:Nat) (x:Opd)
 |assert (t:Nat) (z:Val) (ok:Bool) (x:Opd)
 |mkfn (f:Nat) (first cap:List Opd)
 |mkmap
 |mput (t:EqT) (m k v:Opd)
 |mget (t:EqT) (z:Val) (ok:Bool) (m k:Opd)
 |mklen (size:Nat) (z:List Val) (len cap:Opd)
 |slice (str:Bool) (size:Nat) (x:Opd) (lo hi mx:Option Opd)
 |fa (off:Nat) (x:Opd)
 |fld (agg:Bool) (off n:Nat) (x:Opd)
 |ia (size:Nat) (x i:Opd)
 |ixs (x i:Opd)
 |ixa (agg:Bool) (len size:Nat) (x i:Opd)
 |ext (i:Nat) (x:Opd)
 |call (f:Opd) (args:List Opd)
 |icall (f:Opd) (args:List Opd)
 |len (t:EqT) (x:Opd)
 |append (size:Nat) (x y:Opd)
 |appendD (size:Nat) (x y:Opd)
 |minmax (max:Bool) (xs:List Opd)
 |rng (x:Opd)
 |nxt (x:Opd)
 |panic (x:Opd)
 deriving Inhabited
def LOp.opds :LOp->List Opd
 | .panic x| .rng x| .nxt x| .mv x| .box _ x| .load _ _ x| .nilck x| .un _ x| .wrap _ x| .iface _ x| .assert _ _ _ x| .fa _ x| .fld _ _ _ x| .ext _ x| .len _ x=>[x]
 | .pick a b c| .mput _ a b c=>[a,b,c]
 | .alloc _| .mkmap=>[]
 | .build _ ps=>ps.map fun p=>p.2.2
 | .bslice _ _ _ ps| .bsliceK _ _ _ ps=>ps.map fun p=>p.2
 | .store _ x y| .bin _ _ x y| .mget _ _ _ x y| .mklen _ _ x y| .ia _ x y| .ixs x y| .ixa _ _ _ x y| .append _ x y| .appendD _ x y=>[x,y]
 | .mkfn _ a b=>a++b
 | .slice _ _ x lo hi mx=>x::(lo.toList++hi.toList++mx.toList)
 | .call f l| .icall f l=>f::l
 | .minmax _ l=>l
def LOp.writesMem :LOp->Bool
 | .panic _| .rng _| .nxt _| .alloc _| .box .. | .store .. | .mput .. | .mkmap| .mklen .. | .bslice .. | .bsliceK .. | .call .. | .icall .. | .append .. | .appendD .. =>true
 |_=>false
def LOp.readsMem :LOp->Bool
 | .panic _| .nxt _| .load .. | .mget .. | .bslice .. | .bsliceK .. | .store .. | .mput .. | .ia .. | .call .. | .icall .. | .append .. | .appendD .. | .slice .. | .len .. =>true
 |_=>false
def LOp.me (me:Nat):LOp->Nat
 | .appendD .. =>3
 |_=>me
structure aL where
 dst:Option Nat
 op:LOp
 guard:Option (Nat×Bool)
 deriving Inhabited
def Opd.tmp :Opd->List Nat
 | .t i=>[i]
 | .m _ i=>[i]
 |_=>[]
def aL.uses (o:aL):List Nat:=
 o.op.opds.flatMap Opd.tmp++(match o.guard with|some (t,_)=>[t]|none=>[])
inductive aY where
 |skip
 |ops (l:List aL)
 |draw (l:List aL) (pairs:List (Nat×Nat))
 |seq (a b:aY)
 |cond (c:Opd) (x y:aY)
 |block (id:Nat) (b:aY)
 |loop (b:aY)
 |exit (id:Nat)
 |ret
 |rangeF (g:Opd) (ps:List Nat) (assign body:aY)
 |opsP (l:List aL)
 |dfr (ts:List Nat) (l:List aL) (f:Opd) (args:List Opd) (b:aY)
 |rcv (dst:Option Nat) (l:List aL) (b:aY)
 |drawP (l:List aL) (an:List (List Nat)) (pairs:List (Nat×Nat))
 |drawL (l:List aL) (an:List (List Nat)) (pairs:List (Nat×Nat)) (at':Nat)
 deriving Inhabited
inductive aW5 where
 |tmp (t:Nat)
 |cell (t:Nat) (agg:Bool) (n:Nat)
 deriving Inhabited
structure jC where
 np:Nat
 res:List aW5
 keep:Bool
 amb:Bool:=false
 nrm:List (List Nat):=[]
 body:aY
 deriving Inhabited
abbrev bG :=Nat->Option jC
inductive Ex where
 |normal
 |exit (id:Nat)
 |ret
 |panic (v:Val)
instance (e :Ex):Decidable (e= .normal):=match e with
 | .normal=>isTrue rfl
 | .exit _=>isFalse (by simp)
 | .ret=>isFalse (by simp)
 | .panic _=>isFalse (by simp)
def Ex.calm :Ex->Bool
 | .panic _=>false
 |_=>true
inductive LSt where
 |ready
 |busy
 |done (e:Ex)
 |over
inductive Ent where
 |box (cs:List Val) (frz:Bool)
 |blk (sz:Nat) (xs:List Val) (frz:Bool)
 |map (ks vs:List Val) (frz:Bool)
 |loop (fr:Nat->Val) (ps:List Nat) (assign body:aY) (s:LSt)
 |iter (s:ByteArray) (pos:Nat)
 deriving Inhabited
abbrev En :=Key->Option Ent
def En.set (en:En)(k:Key)(e:Option Ent):En:=fun k'=>if k'=k then e else en k'
structure St where
 fr:Nat->Val
 en:En
 cnt:Nat->Nat->Nat
def jD (fr:Nat->Val)(d:Nat)(v:Val):Nat->Val:=fun i=>if i=d then v else fr i
def aC (c:Nat->Nat->Nat)(n t x:Nat):Nat->Nat->Nat:=fun n' t'=>if n'=n/\ t'=t then x else c n' t'
def cP {α β:Type}(f:α->Option β):List α->Option (List β)
 |[]=>some []
 |x::xs=>match f x with
  |some y=>match cP f xs with
   |some ys=>some (y::ys)
   |none=>none
  |none=>none
def snap :Nat->En->Val->Option (Val×List Key)
 |0,_,v=>match v with
  | .agg _| .tup _| .yld _| .it _=>none
  |_=>some (.dead,[])
 |n+1,en,v=>
  let l (vs:List Val):Option (List Val×List Key):=(cP (snap n en) vs).map fun rs=>(rs.map (·.1),rs.flatMap (·.2))
  match v with
  | .ptr k off=>match en k with
   |some (.box cs _)=>(l cs).map fun r=>(.fp r.1 off,k::r.2)
   |_=>none
  | .ep k i off=>match en k with
   |some (.blk _ xs _)=>if k.deep then none else match xs[i]? with
    |some x=>some (.fp x.cells off,[k])
    |none=>none
   |_=>none
  | .bl k off len=>match en k with
   |some (.blk _ xs _)=>if off+len<=xs.length then(if k.deep then(l ((xs.drop off).take len)).map fun r=>(.fz (r.1.map Val.wk1),k::r.2)else some (.fz ((xs.drop off).take len),[k]))else none
   |_=>none
  | .mp k=>match en k with
   |some (.map ks vs _)=>some (.fm ks vs,[k])
   |_=>none
  | .yld _| .it _=>none
  | .fn f a b=>match l a,l b with
   |some x,some y=>some (.fn f x.1 y.1,x.2++y.2)
   |_,_=>none
  | .ifc t v=>(snap n en v).map fun r=>(.ifc t r.1,r.2)
  | .agg cs=>(l cs).map fun r=>(.agg r.1,r.2)
  | .tup vs=>(l vs).map fun r=>(.tup r.1,r.2)
  |v=>some (v,[])
def qV (f:Val->Val->Bool):List Val->List Val->Bool
 |[],[]=>true
 |x::xs,y::ys=>f x y&&qV f xs ys
 |_,_=>false
def rN :Nat->Val->Val->Bool
 |0,_,_=>false
 |n+1,x,y=>match x,y with
  | .dead,.dead| .nilp,.nilp| .nilm,.nilm| .nilf,.nilf| .nili,.nili=>true
  | .bool a,.bool b| .es a,.es b=>a==b
  | .int j a,.int k b=>decide (j=k)&&decide (a=b)
  | .str a,.str b=>decide (a.data.toList=b.data.toList)
  | .fp a i,.fp b j=>decide (i=j)&&qV (rN n) a b
  | .ptr k i,.ptr l j=>decide (k=l)&&decide (i=j)
  | .ep k a i,.ep l b j=>decide (k=l)&&decide (a=b)&&decide (i=j)
  | .fz a,.fz b| .cl a,.cl b| .agg a,.agg b=>qV (rN n) a b
  | .bl k a i,.bl l b j=>decide (k=l)&&decide (a=b)&&decide (i=j)
  | .fm a b,.fm c d=>qV (rN n) a c&&qV (rN n) b d
  | .mp k,.mp l| .yld k,.yld l| .it k,.it l=>decide (k=l)
  | .fn f a b,.fn g c d=>decide (f=g)&&qV (rN n) a c&&qV (rN n) b d
  | .ifc t a,.ifc u b=>decide (t=u)&&rN n a b
  |_,_=>false
def aQi :Option Ent->Option Ent->Bool
 |none,none=>true
 |some (.box a f),some (.box b g)=>decide (f=g)&&qV (rN 8) a b
 |some (.blk n a f),some (.blk m b g)=>decide (n=m)&&decide (f=g)&&qV (rN 8) a b
 |some (.map a b f),some (.map c d g)=>decide (f=g)&&qV (rN 8) a c&&qV (rN 8) b d
 |_,_=>false
theorem aDr {f:Val->Val->Bool}(h: ∀x y,f x y=true->x=y): ∀{a b:List Val},qV f a b=true->a=b
 |[],[],_=>rfl
 |x::xs,y::ys,e=>by
  simp only[qV,bQj]at e;rw[h _ _ e.1,aDr h e.2]
 |[],_::_,e=>by simp[qV]at e
 |_::_,[],e=>by simp[qV]at e
theorem aDs : ∀(n:Nat) (x y:Val),rN n x y=true->x=y
 |0,_,_,h=>by simp[rN]at h
 |n+1,x,y,h=>by
  have ih: ∀{a b:List Val},qV (rN n) a b=true->a=b:=aDr (aDs n)
  simp only[rN]at h
  split at h<;>first
   |(cases h;done)
   |rfl
   |(rw[ih h];done)
   |(simp only[bQj,bT8,beq_iff_eq,and_assoc]at h
     first
     |(obtain⟨rfl,h2,h3⟩:=h;rw[ih h2,ih h3])
     |(obtain⟨rfl,rfl,rfl⟩:=h;rfl)
     |(obtain⟨rfl,rfl⟩:=h;rfl)
     |(obtain⟨h1,h2⟩:=h;rw[ih h1,ih h2])
     |(obtain⟨rfl,h2⟩:=h;rw[ih h2])
     |(obtain⟨rfl,h2⟩:=h;rw[aDs n _ _ h2])
     |(subst h;rfl)
     |(rw[ih h])
     |(rename_i a b;obtain⟨⟨a⟩⟩:=a;obtain⟨⟨b⟩⟩:=b;simp only at h;subst h;rfl))
theorem aQj {x y:Option Ent}(h:aQi x y=true):x=y:=by
 have ih: ∀{a b:List Val},qV (rN 8) a b=true->a=b:=aDr (aDs 8)
 unfold aQi at h
 split at h<;>first
  |(cases h;done)
  |rfl
  |(simp only[bQj,bT8,and_assoc]at h
    first
    |(obtain⟨rfl,h2⟩:=h;rw[ih h2];done)
    |(obtain⟨rfl,rfl,h2⟩:=h;rw[ih h2];done)
    |(obtain⟨rfl,h2,h3⟩:=h;rw[ih h2,ih h3];done))
def wS (tbl:List (Nat×Nat)):Val->Val
 | .ifc t v=>match tbl.lookup t with
  |some f=> .fn f [v] []
  |none=> .dead
 |_=> .dead
def St.get (fr:Nat->Val):Opd->Val
 | .t i=>fr i
 | .m tbl i=>wS tbl (fr i)
 | .c v=>v
 | .f i=> .fn i [] []
inductive W where
 |ent (k:Key) (e:Option Ent)
 |cells (k:Key) (off:Nat) (vs:List Val)
 |elem (k:Key) (i off:Nat) (vs:List Val)
 |frz (k:Key)
inductive R where
 |val (k:Key)
 |cells (k:Key) (off n:Nat)
 |flag (k:Key)
def setCells :List Val->Nat->List Val->List Val
 |cs,_,[]=>cs
 |cs,off,v::vs=>setCells (cs.set off v) (off+1) vs
def iL (agg:Bool)(cs:List Val):Option Val:=
 if agg then some (.agg cs)else match cs with|[v]=>some v|_=>none
def eP (x:Val)(off:Nat)(vs:List Val):Val:=
 match x with
 | .agg cs=> .agg (setCells cs off vs)
 |x=>if off=0 then(match vs with|[v]=>v|_=>x)else x
def Ent.freeze :Ent->Ent
 | .box cs _=> .box cs true
 | .blk sz xs _=> .blk sz xs true
 | .map ks vs _=> .map ks vs true
 | .loop fr ps a b s=> .loop fr ps a b s
 | .iter s pos=> .iter s pos
def W.apply (en:En):W->En
 | .ent k e=>en.set k e
 | .cells k off vs=>match en k with
  |some (.box cs f)=>en.set k (some (.box (setCells cs off vs) f))
  |_=>en
 | .elem k i off vs=>match en k with
  |some (.blk sz xs f)=>match xs[i]? with
   |some x=>en.set k (some (.blk sz (xs.set i (eP x off vs)) f))
   |none=>en
  |_=>en
 | .frz k=>match en k with
  |some e=>en.set k (some e.freeze)
  |none=>en
def W.applyAll (en:En)(ws:List W):En:=ws.foldl W.apply en
structure Res where
 v:Val
 ws:List W:=[]
 rs:List R:=[]
 bump:Bool:=false
 mem:Option (En×(Nat->Nat->Nat)):=none
 unch:Key->Bool:=fun _=>false
def qZ (en:En)(a:Val)(n:Nat):Option (List Val×List R):=
 match a with
 | .ptr k off=>match en k with
  |some (.box cs _)=>if off+n<=cs.length then some ((cs.drop off).take n,[.cells k off n])else none
  |_=>none
 | .ep k i off=>match en k with
  |some (.blk _ xs _)=>match xs[i]? with
   |some x=>if off+n<=x.cells.length then some ((x.cells.drop off).take n,[.val k])else none
   |none=>none
  |_=>none
 | .fp cs off=>if off+n<=cs.length then some ((cs.drop off).take n,[])else none
 |_=>none
def iN (en:En)(x:Val):Option (List Val×List R):=
 match x with
 | .fz xs| .cl xs=>some (xs,[])
 | .es _=>some ([],[])
 | .bl k off len=>match en k with
  |some (.blk _ xs _)=>if off+len<=xs.length/\ k.deep=false then some ((xs.drop off).take len,[.val k])else none
  |_=>none
 |_=>none
def cT (size:Nat):List Val->Bool
 |[]=>true
 |y::_=>y.cells.length==size
def tP :Val->Option Nat
 | .fz xs| .cl xs=>some xs.length
 | .bl _ _ len=>some len
 | .es _=>some 0
 |_=>none
def yB :CT->Val->Val->Option Bool
 | .bool,.bool a,.bool b=>some (a==b)
 | .num,.int j a,.int k b=>if j=k then some (a==b)else none
 | .str,.str a,.str b=>some (a.toList==b.toList)
 |_,_,_=>none
def jJ :List CT->List Val->List Val->Option Bool
 |[],[],[]=>some true
 |t::ts,x::xs,y::ys=>match yB t x y with
  |some true=>jJ ts xs ys
  |some false=>some false
  |none=>none
 |_,_,_=>none
def pE (t:EqT)(x y:Val):Option Bool:=
 match t,x,y with
 | .num,.int j a,.int k b=>if j=k then some (a==b)else none
 | .bool,.bool a,.bool b=>some (a==b)
 | .str,.str a,.str b=>some (a.toList==b.toList)
 | .agg l,.agg xs,.agg ys=>if xs.length=l.length/\ ys.length=l.length then jJ l xs ys else none
 | .map,.nilm,.nilm=>some true
 | .map,.fm _ _,.nilm| .map,.mp _,.nilm| .map,.nilm,.fm _ _| .map,.nilm,.mp _=>some false
 | .func,.nilf,.nilf=>some true
 | .func,.fn _ _ _,.nilf| .func,.nilf,.fn _ _ _=>some false
 | .ptr,.nilp,.nilp=>some true
 | .ptr,.fp _ _,.nilp| .ptr,.ptr _ _,.nilp| .ptr,.ep _ _ _,.nilp=>some false
 | .iface,.ifc _ _,.nili| .iface,.nili,.ifc _ _=>some false
 | .iface,.nili,.nili=>some true
 | .slice,.es b,.es true=>some b
 | .slice,.fz (_::_),.es true| .slice,.cl (_::_),.es true| .slice,.bl _ _ (_+1),.es true=>some false
 |_,_,_=>none
def small (n:Int):Bool:=decide (0<=n/\ n<=16777216)
def tQ (op:BinOp)(k:IntKind)(a b:Int):Option Val:=
 match op with
 | .add=>some (.int k (k.wrap (a+b)))
 | .sub=>some (.int k (k.wrap (a-b)))
 | .mul=>some (.int k (k.wrap (a*b)))
 | .quo=>if b=0 then none else some (.int k (k.wrap (a.tdiv b)))
 | .rem=>if b=0 then none else some (.int k (a.tmod b))
 | .lss=>some (.bool (decide (a<b)))
 | .leq=>some (.bool (decide (a<=b)))
 | .gtr=>some (.bool (decide (a>b)))
 | .geq=>some (.bool (decide (a≥b)))
 | .and=>some (.int k (k.wrap (BitVec.ofInt k.bits a&&&BitVec.ofInt k.bits b).toNat))
 | .or=>some (.int k (k.wrap (BitVec.ofInt k.bits a|||BitVec.ofInt k.bits b).toNat))
 | .xor=>some (.int k (k.wrap (BitVec.ofInt k.bits a^^^BitVec.ofInt k.bits b).toNat))
 | .andNot=>some (.int k (k.wrap (BitVec.ofInt k.bits a&&& ~~~(BitVec.ofInt k.bits b)).toNat))
 |_=>none
def aQk (op:BinOp)(k:IntKind)(a b:Int):Option Val:=
 if b<0 then none else match op with
 | .shl=>some (.int k (k.wrap (a*2^(min b.toNat k.bits))))
 | .shr=>some (.int k (a.fdiv (2^(min b.toNat k.bits))))
 |_=>none
def aZn (op:BinOp)(a b:ByteArray):Option Val:=
 match op with
 | .lss=>some (.bool (Op.bytesLess a.toList b.toList))
 | .leq=>some (.bool (Op.bytesLess a.toList b.toList||a.toList==b.toList))
 | .gtr=>some (.bool !(Op.bytesLess a.toList b.toList||a.toList==b.toList))
 | .geq=>some (.bool !(Op.bytesLess a.toList b.toList))
 | .add=>if((a.size+b.size:Nat):Int)>IntKind.i64.max then none else some (.str (a++b))
 |_=>none
def cX (op:BinOp)(t:EqT)(x y:Val):Option Val:=
 match op with
 | .eql=>(pE t x y).map .bool
 | .neq=>(pE t x y).map fun b=> .bool !b
 |op=>match t,x,y with
  | .num,.int j a,.int k b=>if op= .shl \/op= .shr then aQk op j a b else if j=k then tQ op j a b else none
  | .str,.str a,.str b=>aZn op a b
  |_,_,_=>none
def sF :List Val->List (Nat×Nat×Val)->Option (List Val)
 |cs,[]=>some cs
 |cs,(off,size,v)::rest=>
  if v.one=true/\ v.cells.length=size/\ off+size<=cs.length then sF (setCells cs off v.cells) rest else none
def gL :List Val->Nat->List (Nat×Val)->Option (List Val)
 |xs,_,[]=>some xs
 |xs,size,(i,v)::rest=>if v.one=true/\ v.cells.length=size/\ i<xs.length then gL (xs.set i v) size rest else none
def mL (size:Nat)(z:List Val)(agg:Bool):Val:=if agg then .agg z else if size=1 then z.getD 0 .dead else .agg z
def iR (v:Option Val)(d top:Nat):Option Nat:=
 match v with
 |none=>some d
 |some (.int _ i)=>if 0<=i/\ i<=top then some i.toNat else none
 |_=>none
def aIt (size:Nat)(xs:List Val)(lo hi:Option Val)(mx:Val):Option Res:=
 match iR (some mx) 0 xs.length with
 |some m=>match hi with
  |none=>none
  |some _=>match iR hi 0 m with
   |some h=>match iR lo 0 h with
    |some l=>if l=0 \/cT size xs=true then some {v:=if m=h then .cl ((xs.take h).drop l)else .fz ((xs.take h).drop l)}else none
    |none=>none
   |none=>none
 |none=>none
def findKey (t:EqT)(k:Val):List Val->Option (Option Nat)
 |[]=>some none
 |x::xs=>match pE t k x with
  |some true=>some (some 0)
  |some false=>match findKey t k xs with
   |some (some i)=>some (some (i+1))
   |some none=>some none
   |none=>none
  |none=>none
def tR (t:EqT):Val->Bool
 | .int _ _=>decide (t= .num)
 | .bool _=>decide (t= .bool)
 | .str _=>decide (t= .str)
 |_=>false
abbrev bD :=Nat->List Val->Option Val
def gV (me d g:Nat)(v:Val)(ks:List Key):Res:=
 match v with
 | .own sz xs=>{v:= .bl ⟨me,d,g⟩ 0 xs.length,ws:=(if xs.all Val.flat1 then []else ks.map .frz)++[.ent ⟨me,d,g⟩ (some (.blk sz xs false))],rs:=ks.map .val,bump:=true}
 |v=>{v,ws:=if v.flat then []else ks.map .frz,rs:=ks.map .val}
def fL (me d g:Nat)(en:En)(size:Nat)(x:Val)(y:Option (List Val×List R)):Option Res:=
 match y with
 |some (ys,rs)=>if cT size ys=true then
   match x with
   | .cl xs=>if ys.isEmpty then some {v:= .cl xs,rs}else if xs.length+ys.length<=16777216/\ cT size xs=true then
     some {v:= .bl ⟨me,d,g⟩ 0 (xs.length+ys.length),ws:=[.ent ⟨me,d,g⟩ (some (.blk size (xs++ys) (!xs.isEmpty)))],rs,bump:=true}else none
   | .bl k off len=>match en k with
    |some (.blk sz xs f)=>if(off+len=xs.length \/f=false/\ off+len<=xs.length)/\ len+ys.length<=16777216/\ sz=size/\ (k.deep=true->me=3)then
      some {v:= .bl ⟨me,d,g⟩ 0 (len+ys.length),ws:=[.ent k none,.ent ⟨me,d,g⟩ (some (.blk size ((xs.take (off+len)).drop off++ys) f))],rs:= .val k:: .flag k::rs,bump:=true}else none
    |_=>none
   |_=>none
   else none
 |none=>none
def eval (n:Nat)(call:bD)(me d g:Nat)(en:En)(get:Opd->Val):LOp->Option Res
 | .mv x=>some {v:=get x}
 | .pick c a b=>match get c with
  | .bool b'=>some {v:=if b' then get a else get b}
  |_=>none
 | .alloc z=>some {v:= .ptr ⟨me,d,g⟩ 0,ws:=[.ent ⟨me,d,g⟩ (some (.box z false))],bump:=true}
 | .box m x=>if(get x).one=true/\ (get x).cells.length=m then some {v:= .ptr ⟨me,d,g⟩ 0,ws:=[.ent ⟨me,d,g⟩ (some (.box (get x).cells false))],bump:=true}else none
 | .build z parts=>(sF z (parts.map fun p=>(p.1,p.2.1,get p.2.2))).map fun cs=>{v:= .agg cs}
 | .bslice len size z parts=>
  if len*size<=16777216 then
   match cP (fun p=>(snap n en (get p.2)).map fun r=>((p.1,r.1.wk1),r.2)) parts with
   |some ps=>match gL (List.replicate len (mL size z false)) size (ps.map (·.1))with
    |some xs=>some {v:= .cl xs,ws:=(ps.flatMap (·.2)).map .frz,rs:=(ps.flatMap (·.2)).map .val}
    |none=>none
   |none=>none
  else none
 | .bsliceK len size z parts=>
  if len*size<=16777216 then
   match cP (fun p=>(snap n en (get p.2)).map fun r=>((p.1,r.1),r.2)) parts with
   |some ps=>match gL (List.replicate len (mL size z false)) size (ps.map (·.1))with
    |some xs=>some {v:= .cl xs,ws:=(ps.flatMap (·.2)).map .frz,rs:=(ps.flatMap (·.2)).map .val}
    |none=>none
   |none=>none
  else none
 | .load agg m a=>match qZ en (get a) m with
  |some (cs,rs)=>(iL agg cs).map fun v=>{v,rs}
  |none=>none
 | .store m a x=>
  let v:=get x
  if v.one=true/\ v.cells.length=m then
   match get a with
   | .ptr k off=>match en k with
    |some (.box cs false)=>if off+m<=cs.length then some {v:= .tup [],ws:=[.cells k off v.cells],rs:=[.flag k]}else none
    |_=>none
   | .ep k i off=>match en k with
    |some (.blk _ xs false)=>match xs[i]? with
     |some y=>if off+m<=y.cells.length then
       if k.deep then some {v:= .tup [],ws:=[.elem k i off v.cells],rs:=[.val k,.flag k]}else
       match snap n en v with
       |some (v',ks)=>if v'.one=true/\ v'.cells.length=m/\ ks.all (fun k'=>decide (k'≠k))=true then some {v:= .tup [],ws:=ks.map .frz++[.elem k i off v'.wk1.cells],rs:= .val k:: .flag k::ks.map .val}else none
       |none=>none
      else none
     |none=>none
    |_=>none
   |_=>none
  else none
 | .nilck x=>match get x with
  | .fp cs off=>some {v:= .fp cs off}
  | .ptr k off=>some {v:= .ptr k off}
  | .ep k i off=>some {v:= .ep k i off}
  | .fn f a b=>some {v:= .fn f a b}
  | .ifc t v=>some {v:= .ifc t v}
  |_=>none
 | .bin op t x y=>(cX op t (get x) (get y)).map fun v=>{v}
 | .un op x=>match op,get x with
  | .not,.bool b=>some {v:= .bool !b}
  | .neg,.int k a=>some {v:= .int k (k.wrap (0-a))}
  |_,_=>none
 | .wrap k x=>match get x with
  | .int _ a=>some {v:= .int k (k.wrap a)}
  |_=>none
 | .iface t x=>if(get x).one=true then some {v:= .ifc t (get x)}else none
 | .assert t z ok x=>match get x with
  | .ifc t' v=>if t'=t then some {v:=if ok then .tup [v,.bool true]else v}else if ok then some {v:= .tup [z,.bool false]}else none
  | .nili=>if ok then some {v:= .tup [z,.bool false]}else none
  |_=>none
 | .mkfn f a b=>some {v:= .fn f (a.map get) (b.map get)}
 | .mkmap=>some {v:= .mp ⟨me,d,g⟩,ws:=[.ent ⟨me,d,g⟩ (some (.map [] [] false))],bump:=true}
 | .mput t m k x=>match get m with
  | .mp key=>match en key with
   |some (.map ks vs false)=>
    if tR t (get k)&&(get x).flat1 then
     match findKey t (get k) ks with
     |some (some i)=>some {v:= .tup [],ws:=[.ent key (some (.map (ks.set i (get k)) (vs.set i (get x)) false))],rs:=[.val key,.flag key]}
     |some none=>some {v:= .tup [],ws:=[.ent key (some (.map (ks++[get k]) (vs++[get x]) false))],rs:=[.val key,.flag key]}
     |none=>none
    else none
   |_=>none
  |_=>none
 | .mget t z ok m k=>
  if tR t (get k)then
   let look (ks vs:List Val):Option Val:=match findKey t (get k) ks with
    |some (some i)=>some (if ok then .tup [vs.getD i .dead,.bool true]else vs.getD i .dead)
    |some none=>some (if ok then .tup [z,.bool false]else z)
    |none=>none
   match get m with
   | .mp key=>match en key with
    |some (.map ks vs _)=>(look ks vs).map fun v=>{v,rs:=[.val key]}
    |_=>none
   | .fm ks vs=>(look ks vs).map fun v=>{v}
   | .nilm=>(look [] []).map fun v=>{v}
   |_=>none
  else none
 | .mklen size z len cap=>match get len,get cap with
  | .int .i64 a,.int .i64 b=>if a=b/\ small a=true then
    some {v:= .bl ⟨me,d,g⟩ 0 a.toNat,ws:=[.ent ⟨me,d,g⟩ (some (.blk size (List.replicate a.toNat (mL size z false)) false))],bump:=true}else none
  |_,_=>none
 | .slice str size x lo hi mx=>
  let lo:=lo.map get;let hi:=hi.map get
  if str then
   match get x,mx with
   | .str s,none=>match iR hi s.size s.size with
    |some h=>(iR lo 0 h).map fun l=>{v:= .str (s.extract l h)}
    |none=>none
   |_,_=>none
  else match get x with
   | .fz xs=>match mx with
    |none=>match iR hi xs.length xs.length with
     |some h=>match iR lo 0 h with
      |some l=>if l=0 \/cT size xs=true then some {v:= .fz ((xs.take h).drop l)}else none
      |none=>none
     |none=>none
    |some m=>aIt size xs lo hi (get m)
   | .cl xs=>match mx with
    |none=>match iR hi xs.length xs.length with
     |some h=>match iR lo 0 h with
      |some l=>if l=0 \/cT size xs=true then some {v:=if h=xs.length then .cl (xs.drop l)else .fz ((xs.take h).drop l)}else none
      |none=>none
     |none=>none
    |some m=>aIt size xs lo hi (get m)
   | .bl k off len=>match mx with
    |none=>match iR hi len len with
     |some h=>match iR lo 0 h with
      |some l=>match en k with
       |some (.blk sz _ _)=>if l=0 \/sz=size then some {v:= .bl k (off+l) (h-l),rs:=[.val k]}else none
       |_=>none
      |none=>none
     |none=>none
    |some _=>none
   |_=>none
 | .fa off x=>match get x with
  | .fp cs o=>some {v:= .fp cs (o+off)}
  | .ptr k o=>some {v:= .ptr k (o+off)}
  | .ep k i o=>some {v:= .ep k i (o+off)}
  |_=>none
 | .fld agg off m x=>match get x with
  | .agg cs=>if off+m<=cs.length then(iL agg ((cs.drop off).take m)).map fun v=>{v}else none
  |_=>none
 | .ia size x i=>match get i with
  | .int _ j=>
   match get x with
   | .fz xs| .cl xs=>if 0<=j then match xs[j.toNat]? with
     |some y=>if y.cells.length=size then some {v:= .fp y.cells 0}else none
     |none=>none else none
   | .bl k off len=>match en k with
    |some (.blk sz _ _)=>if 0<=j/\ j<len/\ sz=size then some {v:= .ep k (off+j.toNat) 0,rs:=[.val k]}else none
    |_=>none
   |_=>none
  |_=>none
 | .ixs x i=>match get x,get i with
  | .str s,.int _ j=>if 0<=j then(s[j.toNat]?).map fun b=>{v:= .int .u8 b.toNat}else none
  |_,_=>none
 | .ixa agg len size x i=>match get x,get i with
  | .agg cs,.int _ j=>if 0<=j/\ j<len/\ j.toNat*size+size<=cs.length then(iL agg ((cs.drop (j.toNat*size)).take size)).map fun v=>{v}else none
  |_,_=>none
 | .ext i x=>match get x with
  | .tup vs=>(vs[i]?).map fun v=>{v}
  |_=>none
 | .call f args=>match get f with
  | .fn f a b=>match cP (fun x=>snap n en x) (a++args.map get++b)with
   |some rs=>
    let ks:=rs.flatMap (·.2)
    match call f (rs.map (·.1.wk1))with
    |some r=>some (gV me d g r ks)
    |none=>none
   |none=>none
  |_=>none
 | .icall _ _=>none
 | .len t x=>match t with
  | .map=>match get x with
   | .mp key=>match en key with
    |some (.map ks _ _)=>some {v:= .int .i64 ks.length,rs:=[.val key]}
    |_=>none
   | .fm ks _=>some {v:= .int .i64 ks.length}
   | .nilm=>some {v:= .int .i64 0}
   |_=>none
  | .str=>match get x with
   | .str s=>some {v:= .int .i64 s.size}
   |_=>none
  | .slice=>(tP (get x)).map fun m=>{v:= .int .i64 m}
  |_=>none
 | .append size x y=>fL me d g en size (get x) (iN en (get y))
 | .appendD size x y=>fL 3 d g en size (get x) (iN en (get y))
 | .rng x=>match get x with
  | .str s=>some {v:= .it ⟨me,d,g⟩,ws:=[.ent ⟨me,d,g⟩ (some (.iter s 0))],bump:=true}
  |_=>none
 | .nxt x=>match get x with
  | .it k=>match en k with
   |some (.iter s pos)=>
    if pos<s.size then some {v:= .tup [.bool true,.int .i64 pos,.int .i32 (Utf8.decode s pos).1],ws:=[.ent k (some (.iter s (pos+(Utf8.decode s pos).2)))],rs:=[.val k,.flag k]}
    else some {v:= .tup [.bool false],rs:=[.val k]}
   |_=>none
  |_=>none
 | .panic _=>none
 | .minmax mx xs=>match xs.map get with
  |[.int j a,.int k b]=>if j=k then some {v:= .int j (if mx then(if b>a then b else a)else(if b<a then b else a))}else none
  |_=>none
def wanted (fr:Nat->Val):Option (Nat×Bool)->Option Bool
 |none=>some true
 |some (t,b)=>match fr t with
  | .bool b'=>some (b'==b)
  | .tup []=>some false
  |_=>none
structure Inl where
 fn:Nat->List Val->St->Option (Val×St)
 yld:Key->List Val->St->Option (Val×St)
def Inl.call (io:Inl)(f:Val)(args:List Val)(st:St):Option (Val×St):=
 match f with
 | .fn f a b=>io.fn f (a++args++b) st
 | .yld k=>io.yld k args st
 |_=>Option.none
def gZ (fr:Nat->Val)(dst:Option Nat)(v:Val):Nat->Val:=
 match dst with
 |some d=>jD fr d v
 |none=>fr
def step (n:Nat)(call:bD)(io:Inl)(me:Nat)(st:St)(o:aL):Option (St×Res):=
 match wanted st.fr o.guard with
 |some false=>some ({st with fr:=gZ st.fr o.dst (.tup [])},{v:= .tup []})
 |some true=>
  match o.op with
  | .icall f args=>match io.call (St.get st.fr f) (args.map (St.get st.fr)) {st with fr:=fun _=> .dead}with
   |some (v,st')=>some ({fr:=gZ st.fr o.dst v,en:=st'.en,cnt:=st'.cnt},{v,mem:=some (st'.en,st'.cnt),unch:=fun k=>aQi (st.en k) (st'.en k)})
   |none=>none
  |op=>
   let d:=o.dst.getD 0;let me':=op.me me
   match eval n call me' d (st.cnt me' d) st.en (St.get st.fr) op with
   |some r=>
    if r.bump&&o.dst.isNone then none else
    some ({fr:=gZ st.fr o.dst r.v,en:=W.applyAll st.en r.ws,cnt:=if r.bump then aC st.cnt me' d (st.cnt me' d+1)else st.cnt},r)
   |none=>none
 |none=>none
def gE (n:Nat)(call:bD)(io:Inl)(me:Nat):List aL->St->Option St
 |[],st=>some st
 |o::l,st=>match step n call io me st o with
  |some (st',_)=>gE n call io me l st'
  |none=>none
def iU (n:Nat)(call:bD)(io:Inl)(me:Nat):List aL->St->Option (St×List Res)
 |[],st=>some (st,[])
 |o::l,st=>match step n call io me st o with
  |some (st',r)=>match iU n call io me l st' with
   |some (st'',rs)=>some (st'',r::rs)
   |none=>none
  |none=>none
def W.key :W->Key
 | .ent k _| .cells k _ _| .elem k _ _ _| .frz k=>k
def R.key :R->Key
 | .val k| .cells k _ _| .flag k=>k
def jU :W->R->Bool
 | .cells k off vs,.cells k' off' n=>k≠k'||off+vs.length<=off'||off'+n<=off
 | .cells ..,.flag _| .elem ..,.flag _| .frz _,.val _| .frz _,.cells .. =>true
 |w,r=>w.key≠r.key
def mY :W->W->Bool
 | .cells k off vs,.cells k' off' vs'=>k≠k'||off+vs.length<=off'||off'+vs'.length<=off
 | .frz _,.frz _=>true
 |w,w'=>w.key≠w'.key
def Res.still (r:Res):Bool:=r.ws.isEmpty&&!r.bump&&r.mem.isNone
def aDt (a b:Res):Bool:=
 if a.mem.isSome then a.ws.isEmpty&&b.still&&b.rs.all (fun r=>a.unch r.key)
 else if b.mem.isSome then b.ws.isEmpty&&a.still&&a.rs.all (fun r=>b.unch r.key)
 else a.ws.all (fun w=>b.rs.all (jU w)&&b.ws.all (mY w))&&b.ws.all (fun w=>a.rs.all (jU w))
def dP (rs:List Res)(pairs:List (Nat×Nat)):Bool:=
 pairs.all fun p=>match rs[p.1]?,rs[p.2]? with
  |some a,some b=>aDt a b
  |_,_=>false
def start (args:List Val):St:={fr:=fun i=>args.getD i (.tup []),en:=fun _=>none,cnt:=fun _ _=>0}
def oP (st:St):aW5->Option Val
 | .tmp t=>some (st.fr t)
 | .cell t agg m=>match qZ st.en (st.fr t) m with
  |some (cs,_)=>iL agg cs
  |none=>none
def zI :List Val->Val
 |[v]=>v
 |vs=> .tup vs
def aVu (en:En):Val->Option Val
 | .bl k 0 n=>match en k with
  |some (.blk sz xs false)=>if n=xs.length/\ k.deep=false then some (.own sz xs)else none
  |_=>none
 |_=>none
def aDu (st:St)(lf:jC)(n:Nat):Option Val:=
 match cP (oP st) lf.res with
 |some vs=>match(if lf.keep then aVu st.en (zI vs)else none)with
  |some r=>some r
  |none=>match snap n st.en (zI vs)with
   |some (v,_)=>some (if lf.keep then v else v.wk)
   |none=>none
 |none=>none
def Ex.ends :Ex->Bool
 | .exit _=>false
 | .panic _=>false
 |_=>true
def wT :Val->Bool
 | .fz []| .cl []| .bl _ _ 0| .es _=>true
 |_=>false
def rO (lf:jC)(args:List Val):Bool:=lf.amb&&(match args with|[x]=>wT x|_=>false)
def iS (lf:jC)(n:Nat)(ex:aY->St->Option (Ex×St))(args:List Val):Option Val:=
 match ex lf.body (start args)with
 |some (e,st)=>if e.ends then aDu st lf n else none
 |none=>none
def jS (a b:Option Val):Option Val:=
 match a,b with
 |some (.cl []),some (.cl [])=>some (.cl [])
 |some (.fz []),some (.fz [])=>some (.fz [])
 |_,_=>none
def bI (L:bG)(n:Nat)(ex:aY->St->Option (Ex×St)):bD:=fun f args=>
 match L f with
 |none=>none
 |some lf=>
  if args.length=lf.np then
   if rO lf args then jS (iS lf n ex [.es true]) (iS lf n ex [.es false])else iS lf n ex args
  else none
def kQ (L:bG)(ex:aY->St->Option (Ex×St))(f:Nat)(args:List Val)(st:St):Option (Val×St):=
 match L f with
 |none=>none
 |some lf=>
  if args.length=lf.np then
   if rO lf args then(jS (iS lf 8 ex [.es true]) (iS lf 8 ex [.es false])).map fun v=>(v,st)else
   match ex lf.body {st with fr:=fun i=>args.getD i (.tup [])}with
   |some (e,st')=>if e.ends then(cP (oP st') lf.res).map fun vs=>(zI vs,{st' with fr:=st.fr})else none
   |none=>none
  else none
def zX (fr:Nat->Val):List Nat->List Val->Nat->Val
 |p::ps,v::vs=>zX (jD fr p v) ps vs
 |_,_=>fr
def aDv (ex:aY->St->Option (Ex×St))(k:Key)(args:List Val)(st:St):Option (Val×St):=
 match st.en k with
 |some (.loop fr ps a b .ready)=>
  if args.length=ps.length then
   match ex a {fr:=zX fr ps args,en:=st.en,cnt:=st.cnt}with
   |some (.normal,st1)=>match st1.en k with
    |some (.loop fr1 ps1 a1 b1 .ready)=>match ex b {st1 with en:=st1.en.set k (some (.loop fr1 ps1 a1 b1 .busy))}with
     |some (e,st2)=>match e.calm,st2.en k with
      |true,some (.loop fr2 ps2 a2 b2 .busy)=>
       some (.bool (decide (e= .normal)),{fr:=st.fr,en:=st2.en.set k (some (.loop fr2 ps2 a2 b2 (if e= .normal then .ready else .done e))),cnt:=st2.cnt})
      |_,_=>none
     |none=>none
    |_=>none
   |_=>none
  else none
 |_=>none
def cM (L:bG)(ex:aY->St->Option (Ex×St)):bD:=fun f args=>
 match L f with
 |none=>none
 |some lf=>
  if args.length=lf.np/\ rO lf args=false then
   match ex lf.body (start args)with
   |some (.panic v,_)=>some v
   |_=>none
  else none
def dZ (L:bG)(ex:aY->St->Option (Ex×St))(f:Nat)(args:List Val)(st:St):Option (Val×St):=
 match L f with
 |none=>none
 |some lf=>
  if args.length=lf.np/\ rO lf args=false then
   match ex lf.body {st with fr:=fun i=>args.getD i (.tup [])}with
   |some (.panic v,st')=>some (v,{st' with fr:=st.fr})
   |_=>none
  else none
def Opd.noM :Opd->Bool
 | .m _ _=>false
 |_=>true
def dQ (n:Nat)(pan:bD)(pin:Nat->List Val->St->Option (Val×St))(st:St)(o:aL):Option (Val×St):=
 match wanted st.fr o.guard with
 |some true=>
  match o.op with
  | .panic x=>match St.get st.fr x with
   | .ifc t u=>if(Val.ifc t u).flat=true then some (.ifc t u,st)else none
   |_=>none
  | .call f args=>match f.noM,St.get st.fr f with
   |true,.fn f a b=>match cP (fun x=>snap n st.en x) (a++args.map (St.get st.fr)++b)with
    |some rs=>(pan f (rs.map (·.1.wk1))).map fun v=>(v,st)
    |none=>none
   |_,_=>none
  | .icall f args=>match St.get st.fr f with
   | .fn f a b=>match pin f (a++args.map (St.get st.fr)++b) {st with fr:=fun _=> .dead}with
    |some (v,st')=>some (v,{fr:=st.fr,en:=st'.en,cnt:=st'.cnt})
    |none=>none
   |_=>none
  |_=>none
 |_=>none
def aDw (n:Nat)(call:bD)(io:Inl)(pan:bD)(pin:Nat->List Val->St->Option (Val×St)):List aL->St->Option (Ex×St)
 |[],st=>some (.normal,st)
 |o::l,st=>match dQ n pan pin st o with
  |some (v,st')=>some (.panic v,st')
  |none=>match step n call io 0 st o with
   |some (st',_)=>aDw n call io pan pin l st'
   |none=>none
def aDx (en:En):Val->Option (Val×List Key)
 | .ptr k off=>some (.ptr k off,[])
 |v=>match snap 8 en v with
  |some r=>some (r.1.wk0,r.2)
  |none=>none
def aDy (en:En)(k:Key):Option En:=
 match en k with
 |some (.box cs false)=>match cP (aDx en) cs with
  |some rs=>if(rs.flatMap (·.2)).contains k then none else some ((W.applyAll en ((rs.flatMap (·.2)).map .frz)).set k (some (.box (rs.map (·.1)) false)))
  |none=>none
 |_=>none
def aQl (en:En):List Nat->Val->Option Key
 |[],.ptr k 0=>some k
 |c::p,.ptr k 0=>match en k with
  |some (.box cs _)=>aQl en p (cs.getD c .dead)
  |_=>none
 |_,_=>none
def norms (x:Val):List (List Nat)->En->Option En
 |[],en=>some en
 |p::ps,en=>match aQl en p x with
  |some k=>match aDy en k with
   |some en'=>norms x ps en'
   |none=>none
  |none=>none
def zY (L:bG)(ex:aY->St->Option (Ex×St))(f:Nat)(args:List Val)(st:St):Option (Val×St):=
 match kQ L ex f args st with
 |some (v,st')=>match L f with
  |some lf=>match norms (args.getD 0 .dead) lf.nrm st'.en with
   |some en'=>some (v,{fr:=st'.fr,en:=en',cnt:=st'.cnt})
   |none=>none
  |none=>none
 |none=>none
def eQ (L:bG)(ex:aY->St->Option (Ex×St)):Inl:={fn:=zY L ex,yld:=aDv ex}
def Val.isUndef :Val->Bool
 | .tup []=>true
 |_=>false
def Ex.rcvd :Ex->Option Val
 | .panic v=>some v
 | .exit _=>none
 |_=>some .nili
def iC (L:bG)(ex:aY->St->Option (Ex×St))(f:Val)(args:List Val)(e:Ex)(st:St):Option St:=
 match f with
 | .fn g a b=>match L g with
  |some lf=>match lf.body,e.rcvd with
   | .rcv dst l c,some v=>
    if(a++args++b).length=lf.np/\ lf.res.isEmpty=true then
     match gE 8 (bI L 8 ex) (eQ L ex) 0 l {fr:=gZ (fun i=>(a++args++b).getD i (.tup [])) dst v,en:=st.en,cnt:=st.cnt}with
     |some st1=>match ex c st1 with
      |some (e',st')=>if e'.ends then some {fr:=st.fr,en:=st'.en,cnt:=st'.cnt}else none
      |none=>none
     |none=>none
    else none
   |_,_=>none
  |none=>none
 |_=>none
def pP (n:Nat)(call:bD)(io:Inl)(pan:bD)(pin:Nat->List Val->St->Option (Val×St)):List aL->Nat->St->Option Nat
 |[],_,_=>none
 |o::l,i,st=>match dQ n pan pin st o with
  |some _=>some i
  |none=>match step n call io 0 st o with
   |some (st',_)=>pP n call io pan pin l (i+1) st'
   |none=>none
def aIu :aL:={dst:=none,op:= .mv (.c .nilp),guard:=none}
def behind (an:List (List Nat))(j i:Nat):Bool:=i==j||(an.getD i []).contains j
def zJ (an:List (List Nat))(j:Nat)(l:List aL)(i:Nat):Bool:=
 !(an.getD j []).contains i&&(l.getD i default).guard.isNone&&(match(l.getD i default).op with| .alloc _=>true|_=>false)
def aGw (o:aL):aL:={dst:=o.dst,op:= .mv (.c .dead),guard:=none}
def dB (an:List (List Nat))(j:Nat)(l:List aL):List aL:=
 (List.range l.length).map fun i=>if behind an j i then aIu else if zJ an j l i then aGw (l.getD i default)else l.getD i default
def mZ (l:List aL)(t:Nat):Bool:=l.any fun o=>o.dst==some t
def jV (an:List (List Nat))(j:Nat)(l:List aL)(rs:List Res):Bool:=
 (List.range l.length).all (fun i=>behind an j i||(an.getD j []).contains i||(match rs[i]? with|some r=>r.still|none=>false))
def vG (n:Nat)(call:bD)(io:Inl)(pan:bD)(pin:Nat->List Val->St->Option (Val×St))(l:List aL)(an:List (List Nat))(pairs:List (Nat×Nat))(j:Nat)(st:St):Option (Ex×St):=
 match iU n call io 0 (dB an j l) st with
 |some (st1,rs)=>
  if dP rs pairs&&jV an j l rs then
   match dQ n pan pin st1 (l.getD j default)with
   |some (v,st2)=>some (.panic v,{fr:=fun t=>if mZ l t then .tup []else st2.fr t,en:=st2.en,cnt:=st2.cnt})
   |none=>none
  else none
 |none=>none
def iG (st:St)(o:aL):Key:=⟨0,o.dst.getD 0,st.cnt 0 (o.dst.getD 0)⟩
def aMp :LOp->List Val
 | .alloc z=>z
 |_=>[]
def zK (k:Key)(o:aL):aL:={dst:=o.dst,op:= .mv (.c (.ptr k 0)),guard:=none}
def iX (A:Nat)(k:Key)(l:List aL):List aL:=l.set A (zK k (l.getD A default))
def vH (k:Key)(z:List Val)(st:St):St:={fr:=st.fr,en:=st.en.set k (some (.box z false)),cnt:=aC st.cnt k.n k.t (st.cnt k.n k.t+1)}
def aOc (k:Key)(r:Res):Bool:=match r.mem with
 |some _=>r.unch k
 |none=>r.ws.all fun w=>decide (w.key≠k)
def oR (an:List (List Nat))(A:Nat)(k:Key)(rs:List Res):Bool:=
 (List.range rs.length).all fun i=>i==A||(an.getD i []).contains A||(match rs[i]? with|some r=>aOc k r|none=>false)
def wU (n:Nat)(call:bD)(io:Inl)(pan:bD)(pin:Nat->List Val->St->Option (Val×St))(l:List aL)(an:List (List Nat))(pairs:List (Nat×Nat))(A:Nat)(k:Key)(st:St):Option (Ex×St):=
 match pP n call io pan pin l 0 st with
 |some j=>match iU n call io 0 (dB an j l) st with
  |some (st1,rs)=>
   if(dP rs pairs&&jV an j l rs)&&oR an A k rs then
    match dQ n pan pin st1 (l.getD j default)with
    |some (v,st2)=>some (.panic v,{fr:=fun t=>if mZ l t then .tup []else st2.fr t,en:=st2.en,cnt:=st2.cnt})
    |none=>none
   else none
  |none=>none
 |none=>match iU n call io 0 l st with
  |some (st',rs)=>if dP rs pairs&&oR an A k rs then some (.normal,st')else none
  |none=>none
def nQ (L:bG)(ex:aY->St->Option (Ex×St))(g:Val)(ps:List Nat)(a b:aY)(st:St):Option (Ex×St):=
 match g with
 | .fn f x y=>
  let k:Key:=⟨1,0,st.cnt 1 0⟩
  match zY L ex f (x++[.yld k]++y) {fr:=st.fr,en:=st.en.set k (some (.loop st.fr ps a b .ready)),cnt:=aC st.cnt 1 0 (st.cnt 1 0+1)}with
  |some (_,st')=>match st'.en k with
   |some (.loop _ _ _ _ .ready)=>some (.normal,{st' with en:=st'.en.set k none})
   |some (.loop _ _ _ _ (.done e))=>some (e,{st' with en:=st'.en.set k none})
   |_=>none
  |none=>match dZ L ex f (x++[.yld k]++y) {fr:=st.fr,en:=st.en.set k (some (.loop st.fr ps a b .ready)),cnt:=aC st.cnt 1 0 (st.cnt 1 0+1)}with
   |some (v,st')=>some (.panic v,{st' with en:=st'.en.set k none})
   |none=>none
 |_=>none
def exec (L:bG):Nat->aY->St->Option (Ex×St)
 |0,_,_=>none
 |n+1,c,st=>
  match c with
  | .skip=>some (.normal,st)
  | .ops l=>(gE 8 (bI L 8 (exec L n)) (eQ L (exec L n)) 0 l st).map fun st=>(.normal,st)
  | .draw l pairs=>match iU 8 (bI L 8 (exec L n)) (eQ L (exec L n)) 0 l st with
   |some (st',rs)=>if dP rs pairs then some (.normal,st')else none
   |none=>none
  | .seq a b=>match exec L n a st with
   |some (.normal,st')=>exec L n b st'
   |r=>r
  | .cond x a b=>match St.get st.fr x with
   | .bool true=>exec L n a st
   | .bool false=>exec L n b st
   |_=>none
  | .block id b=>match exec L n b st with
   |some (.exit id',st')=>if id'=id then some (.normal,st')else some (.exit id',st')
   |r=>r
  | .loop b=>match exec L n b st with
   |some (.normal,st')=>exec L n (.loop b) st'
   |r=>r
  | .exit id=>some (.exit id,st)
  | .ret=>some (.ret,st)
  | .rangeF g ps a b=>nQ L (exec L n) (St.get st.fr g) ps a b st
  | .opsP l=>aDw 8 (bI L 8 (exec L n)) (eQ L (exec L n)) (cM L (exec L n)) (dZ L (exec L n)) l st
  | .dfr ts l f args b=>match gE 8 (bI L 8 (exec L n)) (eQ L (exec L n)) 0 l st with
   |some st2=>match exec L n b st2 with
    |some (e,st3)=>if ts.any (fun t=>(st3.fr t).isUndef)then none else(iC L (exec L n) (St.get st2.fr f) (args.map (St.get st2.fr)) e st3).map fun st4=>(.ret,st4)
    |none=>none
   |none=>none
  | .rcv _ _ _=>none
  | .drawP l an pairs=>match pP 8 (bI L 8 (exec L n)) (eQ L (exec L n)) (cM L (exec L n)) (dZ L (exec L n)) l 0 st with
   |some j=>vG 8 (bI L 8 (exec L n)) (eQ L (exec L n)) (cM L (exec L n)) (dZ L (exec L n)) l an pairs j st
   |none=>match iU 8 (bI L 8 (exec L n)) (eQ L (exec L n)) 0 l st with
    |some (st',rs)=>if dP rs pairs then some (.normal,st')else none
    |none=>none
  | .drawL l an pairs A=>
   wU 8 (bI L 8 (exec L n)) (eQ L (exec L n)) (cM L (exec L n)) (dZ L (exec L n)) (iX A (iG st (l.getD A default)) l) an pairs A (iG st (l.getD A default))
    (vH (iG st (l.getD A default)) (aMp (l.getD A default).op) st)
def bGl (L:bG)(n:Nat):bD:=cM L (exec L n)
def lH (L:bG)(n:Nat):bD:=bI L 8 (exec L n)
end Go.Abs
namespace Go.Abs
def zZ :Value->Option Val
 | .bool b=>some (.bool b)
 | .int k n=>some (.int k n)
 | .string s=>some (.str s)
 | .pointer none=>some .nilp
 | .slice none 0 0=>some (.cl [])
 | .map none=>some .nilm
 | .nilFunc=>some .nilf
 | .nilIface=>some .nili
 |_=>none
def iV (P:Program)(t:TypeId):Option (List Val):=
 match(P.info? t).bind (·.zero)with
 |some v=>cP zZ v.cells.toList
 |none=>none
def cY (P:Program)(t:TypeId):Bool:=
 match P.underlying t with
 |some (.struct _)|some (.array _ _)=>true
 |_=>false
def tS (P:Program)(t:TypeId):Option Val:=
 match(P.info? t).bind (·.zero)with
 |some (.agg cs)=>if cY P t then(cP zZ cs.toList).map .agg else none
 |some v=>if cY P t then none else zZ v
 |none=>none
structure mN where
 tbl:Nat->Option (List Val)
instance : Inhabited mN:=⟨⟨fun _=>none⟩⟩
variable [Inhabited mN]
def aO :Operand->Option Opd
 | .tmp t=>some (.t t)
 | .const v=>(zZ v).map .c
 | .func f=>some (.f f)
 | .global g=>((default:mN).tbl g).map fun cs=> .c (.fp cs 0)
def jK (l:List Operand):Option (List Opd):=cP aO l
def rK (gC:TypeId->Option (List CT)):List Field->List CT->Option (List CT)
 |[],l=>some l
 |f::fs,l=>
  if f.name≠ "_" ∧f.offset=l.length then
   match gC f.type with
   |some m=>rK gC fs (l++m)
   |none=>none
  else none
def aTp (P:Program)(a t:TypeId):Bool:=
 a !=t&&match((P.info? a).map (·.desc):Option TypeDesc),((P.info? t).map (·.desc):Option TypeDesc)with
 |some (.struct fs),some (.struct gs)=>fs.size !=gs.size||(match fs.toList,gs.toList with|f::_,g::_=>f.name !=g.name|_,_=>false)
 |some _,some (.struct _)=>true
 |_,_=>false
def aZo (P:Program)(t:TypeId):Bool:=P.cutTypes.toList.any fun c=>!aTp P (P.underlyingId c.2) (P.underlyingId t)
def gC (P:Program):Nat->TypeId->Option (List CT)
 |0,_=>none
 |d+1,t=>
  match P.underlying t with
  |some (.int _)=>if P.cellsOf t=1 then some [.num]else none
  |some .bool=>if P.cellsOf t=1 then some [.bool]else none
  |some .string=>if P.cellsOf t=1 then some [.str]else none
  |some (.struct fs)=>
   if aZo P t then none else
   match rK (gC P d) fs.toList []with
   |some l=>if P.cellsOf t=l.length then some l else none
   |none=>none
  |some (.array n e)=>
   match gC P d e with
   |some m=>if P.cellsOf t=n*m.length then some (List.replicate n m).flatten else none
   |none=>none
  |_=>none
def pQ (P:Program)(t:TypeId):Option EqT:=
 match P.underlying t with
 |some (.int _)=>some .num
 |some .string=>some .str
 |some .bool=>some .bool
 |some (.struct _)|some (.array _ _)=>if P.types.size<2 then none else(gC P 6 t).map .agg
 |some (.map _ _)=>some .map
 |some (.slice _)=>some .slice
 |some (.func _ _ _)=>some .func
 |some (.interface _)=>some .iface
 |some (.pointer _)=>some .ptr
 |_=>none
def aFt (P:Program)(t:TypeId):Option EqT:=
 match P.underlying t with
 |some (.int _)=>some .num
 |some .string=>some .str
 |some .bool=>some .bool
 |_=>none
def oS (x:Option Operand):Option (Option Opd):=
 match x with
 |none=>some none
 |some o=>(aO o).map some
def aIv (P:Program)(name:String)(t:TypeId):Option Nat:=
 match P.info? t with
 |some i=>match i.methods.find? (·.name==name)with
  |some m=>match m.path.toList,m.func with
   |[],some (f,pr)=>match P.underlying t with
    |some (.pointer _)=>if pr then some f else none
    |some _=>if pr then none else some f
    |none=>none
   |_,_=>none
  |none=>none
 |none=>none
def aBj (P:Program)(name:String):List (Nat×Nat):=
 (List.range P.types.size).filterMap fun t=>(aIv P name t).map fun f=>(t,f)
def nA :Operand->Bool
 | .const _=>true
 |_=>false
def dO (P:Program)(I:Operand->Bool):Op->Option LOp
 | .move x| .assign x=>(aO x).map .mv
 | .pick c a b=>do pure (.pick (<-aO c) (<-aO a) (<-aO b))
 | .alloc t=>do pure (.alloc (<-iV P t))
 | .box t x=>do pure (.box (P.cellsOf t) (<-aO x))
 | .build t parts=>
  match P.underlying t with
  |some (.struct fs)=>if fs.toList.all (fun f=>(P.info? f.type).isSome)then do
   let z<-iV P t;let ps<-cP (fun(p:Nat×Operand)=>do
    let f<-fs[p.1]?
    pure (f.offset,P.cellsOf f.type,<-aO p.2)) parts.toList
   pure (.build z ps)else none
  |some (.array _ e)=>if(P.info? e).isSome then do
   let z<-iV P t;let ps<-cP (fun(p:Nat×Operand)=>do pure (p.1*P.cellsOf e,P.cellsOf e,<-aO p.2)) parts.toList
   pure (.build z ps)else none
  |_=>none
 | .buildSlice t len parts=>
  match P.underlying t with
  |some (.slice e)=>do
   let z<-iV P e
   if z.length=P.cellsOf e then
    let ps<-cP (fun(p:Nat×Operand)=>do pure (p.1,<-aO p.2)) parts.toList
    pure (if I (.const (.bool true))then .bsliceK len (P.cellsOf e) z ps else .bslice len (P.cellsOf e) z ps)
   else none
  |_=>none
 | .load t a=>if(P.underlying t).isSome then(aO a).map (.load (cY P t) (P.cellsOf t))else none
 | .store t a v=>if(P.info? t).isSome then do pure (.store (P.cellsOf t) (<-aO a) (<-aO v))else none
 | .nilCheck x=>(aO x).map .nilck
 | .binOp op t x y _=>do
  let e<-pQ P t
  if e= .slice then
   match y with
   | .const (.slice none 0 0)=>pure (.bin op .slice (<-aO x) (.c (.es true)))
   |_=>none
  else if e= .iface/\ nA x=false/\ nA y=false then none
  else pure (.bin op e (<-aO x) (<-aO y))
 | .unOp op _ x=>(aO x).map (.un op)
 | .convert s d x=>
  match P.underlying s,P.underlying d with
  |some (.int _),some (.int k)=>(aO x).map (.wrap k)
  |_,_=>none
 | .makeInterface t x=>
  match P.underlying t with
  |some (.interface _)|none=>none
  |_=>(aO x).map (.iface t)
 | .makeFunc (.func f) a b=>do pure (.mkfn f (<-jK a.toList) (<-jK b.toList))
 | .makeSlice t l c=>
  match P.underlying t with
  |some (.slice e)=>do
   let z<-iV P e
   if z.length=P.cellsOf e/\ P.bytesOf e<=1048576 then pure (.mklen (P.cellsOf e) z (<-aO l) (<-aO c))else none
  |_=>none
 | .slice t x lo hi mx=>
  match P.underlying t with
  |some (.slice e)=>if(P.info? e).isSome=false then none else do pure (.slice false (P.cellsOf e) (<-aO x) (<-oS lo) (<-oS hi) (<-oS mx))
  |some .string=>if mx.isSome then none else do pure (.slice true 1 (<-aO x) (<-oS lo) (<-oS hi) none)
  |_=>none
 | .range t x=>
  match P.underlying t with
  |some .string=>(aO x).map .rng
  |_=>none
 | .next x true=>(aO x).map .nxt
 | .panic x=>(aO x).map .panic
 | .makeMap _ none=>some .mkmap
 | .lookup t x i ok=>
  match P.underlying t with
  |some (.map k e)=>do pure (.mget (<-aFt P k) (<-tS P e) ok (<-aO x) (<-aO i))
  |_=>none
 | .mapUpdate t m k v| .insert t m k v=>
  match P.underlying t with
  |some (.map kt _)=>do pure (.mput (<-aFt P kt) (<-aO m) (<-aO k) (<-aO v))
  |_=>none
 | .fieldAddr s x i=>
  match P.underlying s with
  |some (.struct fs)=>do
   let f<-fs[i]?
   if P.cellsOf f.type=0 then none else pure (.fa f.offset (<-aO x))
  |_=>none
 | .field s x i=>
  match P.underlying s with
  |some (.struct fs)=>do
   let f<-fs[i]?
   if(P.underlying f.type).isSome then pure (.fld (cY P f.type) f.offset (P.cellsOf f.type) (<-aO x))else none
  |_=>none
 | .indexAddr t x i=>
  match P.underlying t with
  |some (.slice e)=>if(P.info? e).isSome=false then none else do pure (.ia (P.cellsOf e) (<-aO x) (<-aO i))
  |_=>none
 | .index t x i=>
  match P.underlying t with
  |some .string=>do pure (.ixs (<-aO x) (<-aO i))
  |some (.array n e)=>if(P.underlying e).isSome=false then none else do pure (.ixa (cY P e) n (P.cellsOf e) (<-aO x) (<-aO i))
  |_=>none
 | .extract t i=>(aO t).map (.ext i)
 | .typeAssert x _ t ok=>
  match P.underlying t with
  |some (.interface _)|none=>none
  |_=>do
   let z<-tS P t
   pure (.assert t z ok (<-aO x))
 | .call c=>
  match c.callee with
  | .value f=>if I f then do pure (.icall (<-aO f) (<-jK c.args.toList))else do pure (.call (<-aO f) (<-jK c.args.toList))
  | .invoke (.tmp t) name=>do pure (.call (.m (aBj P name) t) (<-jK c.args.toList))
  | .builtin .len=>match c.args.toList with
   |[x]=>match c.argTypes[0]?.bind P.underlying with
    |some (.slice _)=>(aO x).map (.len .slice)
    |some .string=>(aO x).map (.len .str)
    |some (.map _ _)=>(aO x).map (.len .map)
    |_=>none
   |_=>none
  | .builtin .append=>match c.argTypes.toList,c.args.toList with
   |[t,t'],[x,y]=>match P.underlying t with
    |some (.slice e)=>
     if t=t'/\ (iV P e).map List.length=some (P.cellsOf e)/\ P.bytesOf e<=1048576 then do
      let x<-aO x;let y<-aO y
      pure (if I (.const (.bool true))then .appendD (P.cellsOf e) x y else .append (P.cellsOf e) x y)
     else none
    |_=>none
   |_,_=>none
  | .builtin .max=>(jK c.args.toList).map (.minmax true)
  | .builtin .min=>(jK c.args.toList).map (.minmax false)
  |_=>none
 |_=>none
def aAa (ops:Array Oper):Option (Nat×Bool)->Option (Option (Nat×Bool))
 |none=>some none
 |some (j,b)=>match(ops[j]?).bind (·.dst)with
  |some t=>some (some (t,b))
  |none=>none
def fE (P:Program)(I:Operand->Bool)(ops:Array Oper)(o:Oper):Option aL:=do
 pure {dst:=o.dst,op:= <-dO P I o.op,guard:= <-aAa ops o.guard}
def aIw :List Oper->List (List Nat)->Option (List (List Nat))
 |[],acc=>some acc
 |o::l,acc=>
  let lL:=(o.after.toList.filter (Region.binds .any)).map (·.on)
  if lL.all (· <acc.length)then aIw l (acc++[(lL++lL.flatMap fun j=>acc.getD j []).eraseDups])else none
def aQm (ops:Array Oper):Option (List (List Nat)):=aIw ops.toList []
def fS (an:List (List Nat))(l:List aL):Option (List (Nat×Nat)):=
 let r:=List.range l.length;let ordered (i j:Nat):Bool:=(an.getD j []).contains i||(an.getD i []).contains j
 let o (i:Nat):aL:=l.getD i default
 if r.all fun j=>r.all fun i=>
   i==j||
   (match(o i).dst with
    |some d=>(o j).dst !=some d&&(!(o j).uses.contains d||ordered i j)
    |none=>true)
 then some (r.flatMap fun j=>((List.range j).filter fun i=>!ordered i j&&
   (((o i).op.writesMem&&((o j).op.readsMem||(o j).op.writesMem))||((o j).op.writesMem&&(o i).op.readsMem))).map fun i=>(i,j))
 else none
def aIx :aY:= .cond (.c .dead) .skip .skip
def aDz (I:Operand->Bool)(o:aL):Bool:=
 match o.op with
 | .panic _=>true
 | .call (.f f) _| .icall (.f f) _=>I (.const (.int .i64 f))
 | .call (.t _) _| .icall (.t _) _=>I (.const .nilIface)
 |_=>false
def aZp (an:List (List Nat))(l:List aL)(i:Nat):Bool:=
 (an.getD i []).isEmpty&&(l.getD i default).guard.isNone&&(match(l.getD i default).op with| .alloc _=>true|_=>false)&&(l.getD i default).dst.isSome&&
  (List.range l.length).any fun j=>(match(l.getD j default).op with| .icall _ _=>true|_=>false)&&!(an.getD j []).contains i
def aTq (an:List (List Nat))(l:List aL):Option Nat:=(List.range l.length).find? (aZp an l)
def aOd (P:Program)(I:Operand->Bool)(ops:Array Oper):Option aY:=do
 let l<-cP (fE P I ops) ops.toList;let an<-aQm ops;let ps<-fS an l
 pure (if l.any (aDz I)then(match aTq an l with|some A=> .drawL l an ps A|none=> .drawP l an ps)else .draw l ps)
def cB (P:Program)(I:Operand->Bool):Code->aY
 | .skip=> .skip
 | .region _ ops dr=>if dr then(aOd P I ops).getD aIx else((cP (fE P I ops) ops.toList).map fun l=>if l.any (aDz I)then .opsP l else .ops l).getD aIx
 | .seq a b=> .seq (cB P I a) (cB P I b)
 | .cond c a b=>match aO c with
  |some x=> .cond x (cB P I a) (cB P I b)
  |none=>aIx
 | .block id b=> .block id (cB P I b)
 | .loop b=> .loop (cB P I b)
 | .scope b=>cB P I b
 | .label _=> .skip
 | .exit id=> .exit id
 | .ret=> .ret
 | .rangeFunc g ps a b=>match aO g with
  |some x=> .rangeF x ps.toList (cB P I a) (cB P I b)
  |none=>aIx
 |_=>aIx
def aY.dstOk (n:Nat):aY->Bool
 | .ops l| .draw l _| .opsP l| .drawP l _ _| .drawL l _ _ _=>l.all fun o=>o.dst.all (· <n)
 | .seq a b| .cond _ a b=>a.dstOk n&&b.dstOk n
 | .block _ b| .loop b=>b.dstOk n
 | .rangeF _ ps a b=>ps.all (· <n)&&a.dstOk n&&b.dstOk n
 | .dfr _ l _ _ b=>(l.all fun o=>o.dst.all (· <n))&&b.dstOk n
 | .rcv d l b=>d.all (· <n)&&(l.all fun o=>o.dst.all (· <n))&&b.dstOk n
 |_=>true
def aY.noRg :aY->Bool
 | .rangeF .. =>false
 | .seq a b| .cond _ a b=>a.noRg&&b.noRg
 | .block _ b| .loop b=>b.noRg
 |_=>true
def aZq :Code->Option (Array Oper×Call)
 | .region _ ops false=>match ops.back? with
  |some o=>match o.op,o.guard,o.dst with
   | .defer k,none,none=>some (ops,k)
   |_,_,_=>none
  |none=>none
 |_=>none
def aTr (P:Program)(I:Operand->Bool)(ts:List Nat)(ops:Array Oper)(k:Call)(b:Code):Option aY:=
 match k.callee with
 | .value F=>match aO F,jK k.args.toList,cP (fE P I ops) ops.toList.dropLast with
  |some f,some args,some l=>some (.dfr ts l f args (cB P I b))
  |_,_,_=>none
 |_=>none
def aBk (P:Program)(I:Operand->Bool)(ts:List Nat):Code->Option aY
 | .seq x y=>match aZq x with
  |some (ops,k)=>aTr P I ts ops k y
  |none=>match aBk P I ts y with
   |some ly=>some (.seq (cB P I x) ly)
   |none=>none
 |_=>none
def aFu (o:Oper):Bool:=match o.op,o.guard with
 | .call c,none=>match c.callee with
  | .builtin .recover=>true
  |_=>false
 |_,_=>false
def aOe (o:Oper):Bool:=match o.op,o.guard with
 | .assign _,none| .move _,none=>true
 |_,_=>false
def aY.isRcv :aY->Bool
 | .rcv .. =>true
 |_=>false
def aTs (P:Program)(I:Operand->Bool):Code->Option aY
 | .seq (.region _ ops false) b=>match ops.toList with
  |o::l=>if aFu o&&l.all aOe&&(cB P I b).noRg then(cP (fE P I ops) l).map fun l'=> .rcv o.dst l' (cB P I b)else none
  |[]=>none
 |_=>none
def aD0 (l:List ResultVar):List Nat:=l.map fun| .tmp t=>t| .cell c _=>c
def aD1 (P:Program)(I:Operand->Bool)(ts:List Nat)(c:Code):Option aY:=
 match aTs P I c with
 |some x=>some x
 |none=>match aBk P I ts c with
  |some x=>some x
  |none=>if(cB P I c).isRcv then none else some (cB P I c)
def aCy (P:Program):ResultVar->Option aW5
 | .tmp t=>some (.tmp t)
 | .cell a t=>if(P.underlying t).isSome then some (.cell a (cY P t) (P.cellsOf t))else none
def bI8 (I:Operand->Bool):List (List Nat):=(if I (.const .nilFunc)then [[]]else [])++(if I (.const (.map none))then [[0]]else [])
def nR (P:Program)(I:Operand->Bool)(keep amb:Bool)(f:Func):Option jC:=
 match f.body with
 |none=>none
 |some c=>match aD1 P I (aD0 f.results.toList) c with
  |none=>none
  |some lc=>
  if lc.dstOk f.ntmps&&decide (f.params.size+f.nfree≤f.ntmps)&&(f.name != "runtime.NumGoroutine")then
   (cP (aCy P) f.results.toList).map fun res=>{np:=f.params.size+f.nfree,res,keep,amb,nrm:=bI8 I,body:=lc}else none
end Go.Abs
namespace Go.Abs
open Go.RowKit (Below)
structure Gh where
 box:Key->Option Nat
 blk:Key->Option (Option (Nat×Nat×Nat×Nat))
 mp:Key->Option Nat
 own:Nat->Option (Key×Nat)
def Gh.knows (G:Gh)(k:Key):Prop:=G.box k≠ .none \/G.blk k≠ .none \/G.mp k≠ .none
variable {G:Gh}{b:Nat}{k:Key}
theorem Gh.knows_box (h:G.box k=some b):G.knows k:= .inl (by rw[h];simp)
theorem Gh.knows_blk {b:Option (Nat×Nat×Nat×Nat)}(h:G.blk k=some b):G.knows k:= .inr (.inl (by rw[h];simp))
theorem Gh.knows_mp (h:G.mp k=some b):G.knows k:= .inr (.inr (by rw[h];simp))
theorem Gh.knows_not (h:G.box k= .none/\ G.blk k= .none/\ G.mp k= .none): ¬G.knows k:=fun hk=>by
 obtain⟨h1,h2,h3⟩:=h;rcases hk with hk|hk|hk
 ·exact hk h1
 ·exact hk h2
 ·exact hk h3
theorem Gh.not_knows (h: ¬G.knows k):G.box k= .none/\ G.blk k= .none/\ G.mp k= .none:=by
 refine⟨?_,?_,?_⟩
 ·cases h1:G.box k with
  |none=>rfl
  |some b=>exact absurd (Gh.knows_box h1) h
 ·cases h1:G.blk k with
  |none=>rfl
  |some b=>exact absurd (Gh.knows_blk h1) h
 ·cases h1:G.mp k with
  |none=>rfl
  |some b=>exact absurd (Gh.knows_mp h1) h
def Gh.none :Gh:={box:=fun _=>Option.none,blk:=fun _=>Option.none,mp:=fun _=>Option.none,own:=fun _=>Option.none}
def Gh.atq (G:Gh)(q:Nat):Gh:=if q=3 then G else Gh.none
abbrev Gh.at (G:Gh)(k:Key):Gh:=G.atq k.n
theorem Gh.at_none (h:k.deep=false):G.at k=Gh.none:=by
 simp only[Key.deep,bT9]at h;simp[Gh.at,Gh.atq,h]
structure Gh.le (G H:Gh):Prop where
 box: ∀k b,G.box k=some b->H.box k=some b
 blk: ∀k b,G.blk k=some b->H.blk k=some b
 mp: ∀k b,G.mp k=some b->H.mp k=some b
theorem Gh.le_refl (G:Gh):G.le G:=⟨fun _ _ h=>h,fun _ _ h=>h,fun _ _ h=>h⟩
theorem Gh.le_trans {A B C:Gh}(h:A.le B)(k:B.le C):A.le C:=
 ⟨fun x b e=>k.box x b (h.box x b e),fun x b e=>k.blk x b (h.blk x b e),fun x b e=>k.mp x b (h.mp x b e)⟩
theorem Gh.none_le (G:Gh):Gh.none.le G:=⟨fun _ _ h=>by simp[Gh.none]at h,fun _ _ h=>by simp[Gh.none]at h,fun _ _ h=>by simp[Gh.none]at h⟩
def fM :Value->Bool
 | .agg _| .tuple _=>false
 |_=>true
inductive VR (T:Nat->Nat->Prop):Gh->World->Val->Value->Prop
 |dead {G:Gh} {w:World} (x:Value) (h:fM x=true):VR T G w .dead x
 |bool {G:Gh} {w:World} (b:Bool):VR T G w (.bool b) (.bool b)
 |int {G:Gh} {w:World} (k:IntKind) (n:Int):VR T G w (.int k n) (.int k n)
 |str {G:Gh} {w:World} (s:ByteArray):VR T G w (.str s) (.string s)
 |nilp {G:Gh} {w:World}:VR T G w .nilp (.pointer .none)
 |fp {G:Gh} {w:World} (cs:List Val) (off b base:Nat) (c:Nat->Value) (h: ∀j,j<cs.length->w.cell? ⟨b,base+j,.none⟩=some (c j))
   (ht: ∀j,j<cs.length->T b (base+j)) (ho: ∀j,j<cs.length->fM (c j)=true) (hv: ∀j,j<cs.length->VR T Gh.none w (cs.getD j .dead) (c j)):
   VR T G w (.fp cs off) (.pointer (some ⟨b,base+off,.none⟩))
 |ptr {G:Gh} {w:World} (k:Key) (off b:Nat) (h:G.box k=some b):VR T G w (.ptr k off) (.pointer (some ⟨b,off,.none⟩))
 |ep {G:Gh} {w:World} (k:Key) (i off b base sz C:Nat) (h:G.blk k=some (some (b,base,sz,C))) (hi:i<C):VR T G w (.ep k i off) (.pointer (some ⟨b,base+i*sz+off,.none⟩))
 |fz0 {G:Gh} {w:World} (a:Option Addr) (cap:Nat):VR T G w (.fz []) (.slice a 0 cap)
 |fz {G:Gh} {w:World} (xs:List Val) (b off sz cap:Nat) (c:Nat->Nat->Value) (hc:xs.length<=cap)
   (hs: ∀i,i<xs.length->(xs.getD i .dead).cells.length=sz)
   (h: ∀i j,i<xs.length->j<sz->w.cell? ⟨b,off+i*sz+j,.none⟩=some (c i j))
   (ht: ∀i j,i<xs.length->j<sz->T b (off+i*sz+j)) (ho: ∀i j,i<xs.length->j<sz->fM (c i j)=true)
   (hv: ∀i j,i<xs.length->j<sz->VR T Gh.none w ((xs.getD i .dead).cells.getD j .dead) (c i j)):
   VR T G w (.fz xs) (.slice (some ⟨b,off,.none⟩) xs.length cap)
 |cl0 {G:Gh} {w:World} (a:Option Addr):VR T G w (.cl []) (.slice a 0 0)
 |cl {G:Gh} {w:World} (xs:List Val) (b off sz:Nat) (c:Nat->Nat->Value)
   (hs: ∀i,i<xs.length->(xs.getD i .dead).cells.length=sz)
   (h: ∀i j,i<xs.length->j<sz->w.cell? ⟨b,off+i*sz+j,.none⟩=some (c i j))
   (ht: ∀i j,i<xs.length->j<sz->T b (off+i*sz+j)) (ho: ∀i j,i<xs.length->j<sz->fM (c i j)=true)
   (hv: ∀i j,i<xs.length->j<sz->VR T Gh.none w ((xs.getD i .dead).cells.getD j .dead) (c i j)):
   VR T G w (.cl xs) (.slice (some ⟨b,off,.none⟩) xs.length xs.length)
 |bl0 {G:Gh} {w:World} (k:Key) (a:Option Addr) (h:G.blk k=some .none):VR T G w (.bl k 0 0) (.slice a 0 0)
 |bl {G:Gh} {w:World} (k:Key) (off len b base sz C:Nat) (h:G.blk k=some (some (b,base,sz,C))) (hl:off+len<=C):
   VR T G w (.bl k off len) (.slice (some ⟨b,base+off*sz,.none⟩) len (C-off))
 |ble {G:Gh} {w:World} (k:Key) (a:Option Addr) (b base sz C:Nat) (h:G.blk k=some (some (b,base,sz,C))):VR T G w (.bl k C 0) (.slice a 0 0)
 |nilm {G:Gh} {w:World}:VR T G w .nilm (.map .none)
 |fm {G:Gh} {w:World} (ks vs:List Val) (r:Nat) (es:Array MapEntry) (clock:Nat) (h:w.heap[r]?=some (.map es clock)) (ht:T r 0)
   (hk:es.size=ks.length) (hl:vs.length=ks.length)
   (hkv: ∀i,i<ks.length->VR T Gh.none w (ks.getD i .dead) (es.getD i default).key) (hvv: ∀i,i<ks.length->VR T Gh.none w (vs.getD i .dead) (es.getD i default).val):
   VR T G w (.fm ks vs) (.map (some r))
 |mp {G:Gh} {w:World} (k:Key) (r:Nat) (h:G.mp k=some r):VR T G w (.mp k) (.map (some r))
 |nilf {G:Gh} {w:World}:VR T G w .nilf .nilFunc
 |fn {G:Gh} {w:World} (f:Nat) (a b:List Val) (x y:Array Value) (ha:x.size=a.length) (hb:y.size=b.length)
   (hx: ∀i,i<a.length->VR T G w (a.getD i .dead) (x.getD i undef)) (hy: ∀i,i<b.length->VR T G w (b.getD i .dead) (y.getD i undef)):
   VR T G w (.fn f a b) (.func (.func f) x y)
 |yld {G:Gh} {w:World} (k:Key) (l:Nat) (h:G.mp k=some l):VR T G w (.yld k) (.func (.yield l) #[] #[])
 |nili {G:Gh} {w:World}:VR T G w .nili .nilIface
 |it {G:Gh} {w:World} (k:Key) (r:Nat) (h:G.mp k=some r):VR T G w (.it k) (.pointer (some ⟨r,0,none⟩))
 |es {G:Gh} {w:World} (a:Option Addr) (cap:Nat):VR T G w (.es a.isNone) (.slice a 0 cap)
 |ifc {G:Gh} {w:World} (t:Nat) (v:Val) (x:Value) (h:VR T G w v x):VR T G w (.ifc t v) (.iface t x)
 |agg {G:Gh} {w:World} (cs:List Val) (x:Array Value) (h:x.size=cs.length) (ho: ∀i,i<cs.length->fM (x.getD i undef)=true)
   (hv: ∀i,i<cs.length->VR T G w (cs.getD i .dead) (x.getD i undef)):VR T G w (.agg cs) (.agg x)
 |tup {G:Gh} {w:World} (vs:List Val) (x:Array Value) (h:x.size=vs.length) (hv: ∀i,i<vs.length->VR T G w (vs.getD i .dead) (x.getD i undef)):VR T G w (.tup vs) (.tuple x)
structure zL (T:Nat->Nat->Prop) (G:Gh) (w:World) (T':Nat->Nat->Prop) (G':Gh) (w':World):Prop where
 t: ∀b o,T b o->T' b o
 g:G.le G'
 cell: ∀b o c,T b o->w.cell? ⟨b,o,.none⟩=some c->w'.cell? ⟨b,o,.none⟩=some c
 map: ∀r es clock,T r 0->w.heap[r]?=some (.map es clock)->w'.heap[r]?=some (.map es clock)
variable {G':Gh}{T T':Nat->Nat->Prop}{w w':World}
theorem zL.none (m:zL T G w T' G' w'):zL T Gh.none w T' Gh.none w':=
 ⟨m.t,Gh.le_refl _,m.cell,m.map⟩
theorem zL.at (m:zL T G w T' G' w')(k:Key):zL T (G.at k) w T' (G'.at k) w':=by
 unfold Gh.at Gh.atq;split
 ·exact m
 ·exact m.none
structure jN (T:Nat->Nat->Prop) (G:Gh) (w:World) (T':Nat->Nat->Prop) (G':Gh) (w':World):Prop where
 t: ∀b o,T b o->T' b o
 g:G.le G'
 cell: ∀b o c,T b o->w.cell? ⟨b,o,.none⟩=some c->w'.cell? ⟨b,o,.none⟩=some c
 map: ∀r es clock,T r 0->w.heap[r]?=some (.map es clock)->w'.heap[r]?=some (.map es clock)
 defer: ∀(b:Nat) ds,w.heap[b]?=some (Obj.deferred ds)->w'.heap[b]?=some (Obj.deferred ds)
 loop: ∀(l:Nat) r,w.heap[l]?=some (Obj.loop r)-> ∃r',w'.heap[l]?=some (Obj.loop r')
theorem jN.four (m:jN T G w T' G' w'):zL T G w T' G' w':=⟨m.t,m.g,m.cell,m.map⟩
theorem jN.refl (T:Nat->Nat->Prop)(G:Gh)(w:World):jN T G w T G w:=⟨fun _ _ h=>h,G.le_refl,fun _ _ _ _ h=>h,fun _ _ _ _ h=>h,fun _ _ h=>h,fun _ r h=>⟨r,h⟩⟩
theorem jN.none (m:jN T G w T' G' w'):jN T Gh.none w T' Gh.none w':=
 ⟨m.t,Gh.le_refl _,m.cell,m.map,m.defer,m.loop⟩
theorem jN.atq (m:jN T G w T' G' w')(q:Nat):jN T (G.atq q) w T' (G'.atq q) w':=by
 unfold Gh.atq;split
 ·exact m
 ·exact m.none
theorem jN.trans {T1 T2 T3:Nat->Nat->Prop}{G1 G2 G3:Gh}{w1 w2 w3:World}(m:jN T1 G1 w1 T2 G2 w2)(k:jN T2 G2 w2 T3 G3 w3):jN T1 G1 w1 T3 G3 w3:=
 ⟨fun b o h=>k.t _ _ (m.t _ _ h),Gh.le_trans m.g k.g,fun b o c ht h=>k.cell _ _ _ (m.t _ _ ht) (m.cell _ _ _ ht h),fun r es cl ht h=>k.map _ _ _ (m.t _ _ ht) (m.map _ _ _ ht h),fun b ds h=>k.defer b ds (m.defer b ds h),fun l r h=>let ⟨r1,h1⟩:=m.loop l r h;k.loop l r1 h1⟩
variable {v:Val}{x:Value}
theorem VR.mono' (h:VR T G w v x):
  ∀{T':Nat->Nat->Prop} {G':Gh} {w':World},zL T G w T' G' w'->VR T' G' w' v x:=by
 induction h with
 |dead x h=>intro T' G' w' m;exact .dead x h
 |bool b=>intro T' G' w' m;exact .bool b
 |int k n=>intro T' G' w' m;exact .int k n
 |str s=>intro T' G' w' m;exact .str s
 |nilp=>intro T' G' w' m;exact .nilp
 |fp cs off b base c h ht ho hv ih=>intro T' G' w' m;exact .fp cs off b base c (fun j hj=>m.cell _ _ _ (ht j hj) (h j hj)) (fun j hj=>m.t _ _ (ht j hj)) ho (fun j hj=>ih j hj m.none)
 |ptr k off b h=>intro T' G' w' m;exact .ptr k off b (m.g.box _ _ h)
 |ep k i off b base sz C h hi=>intro T' G' w' m;exact .ep k i off b base sz C (m.g.blk _ _ h) hi
 |fz0 a cap=>intro T' G' w' m;exact .fz0 a cap
 |fz xs b off sz cap c hc hs h ht ho hv ih=>intro T' G' w' m;exact .fz xs b off sz cap c hc hs (fun i j hi hj=>m.cell _ _ _ (ht i j hi hj) (h i j hi hj)) (fun i j hi hj=>m.t _ _ (ht i j hi hj)) ho (fun i j hi hj=>ih i j hi hj m.none)
 |cl0 a=>intro T' G' w' m;exact .cl0 a
 |cl xs b off sz c hs h ht ho hv ih=>intro T' G' w' m;exact .cl xs b off sz c hs (fun i j hi hj=>m.cell _ _ _ (ht i j hi hj) (h i j hi hj)) (fun i j hi hj=>m.t _ _ (ht i j hi hj)) ho (fun i j hi hj=>ih i j hi hj m.none)
 |bl0 k a h=>intro T' G' w' m;exact .bl0 k a (m.g.blk _ _ h)
 |bl k off len b base sz C h hl=>intro T' G' w' m;exact .bl k off len b base sz C (m.g.blk _ _ h) hl
 |ble k a b base sz C h=>intro T' G' w' m;exact .ble k a b base sz C (m.g.blk _ _ h)
 |nilm=>intro T' G' w' m;exact .nilm
 |fm ks vs r es clock h ht hk hl hkv hvv ih1 ih2=>intro T' G' w' m;exact .fm ks vs r es clock (m.map _ _ _ ht h) (m.t _ _ ht) hk hl (fun i hi=>ih1 i hi m.none) (fun i hi=>ih2 i hi m.none)
 |mp k r h=>intro T' G' w' m;exact .mp k r (m.g.mp _ _ h)
 |nilf=>intro T' G' w' m;exact .nilf
 |fn f a b x y ha hb hx hy ih1 ih2=>intro T' G' w' m;exact .fn f a b x y ha hb (fun i hi=>ih1 i hi m) (fun i hi=>ih2 i hi m)
 |yld k l h=>intro T' G' w' m;exact .yld k l (m.g.mp _ _ h)
 |nili=>intro T' G' w' m;exact .nili
 |it k r h=>intro T' G' w' m;exact .it k r (m.g.mp _ _ h)
 |es a cap=>intro T' G' w' m;exact .es a cap
 |ifc t v x h ih=>intro T' G' w' m;exact .ifc t v x (ih m)
 |agg cs x h ho hv ih=>intro T' G' w' m;exact .agg cs x h ho (fun i hi=>ih i hi m)
 |tup vs x h hv ih=>intro T' G' w' m;exact .tup vs x h (fun i hi=>ih i hi m)
theorem VR.mono (m:jN T G w T' G' w')
  (h:VR T G w v x):VR T' G' w' v x:=h.mono' m.four
theorem Gh.at_le (G:Gh)(k:Key):(G.at k).le G:=by
 unfold Gh.at Gh.atq;split
 ·exact G.le_refl
 ·exact Gh.none_le G
theorem VR.out (h:VR T (G.at k) w v x):VR T G w v x:=
 h.mono' ⟨fun _ _ h=>h,Gh.at_le G k,fun _ _ _ _ h=>h,fun _ _ _ _ h=>h⟩
theorem VR.into (h:VR T Gh.none w v x)(G':Gh):VR T G' w v x:=
 h.mono' ⟨fun _ _ h=>h,Gh.none_le G',fun _ _ _ _ h=>h,fun _ _ _ _ h=>h⟩
theorem VR.shift {q:Nat}(hq:k.deep=true->q=3)(h:VR T (G.at k) w v x):VR T (G.atq q) w v x:=by
 cases hk:k.deep with
 |true=>
  have:G.at k=G.atq q:=by
   simp only[Key.deep,bT8]at hk;simp[Gh.at,Gh.atq,hk,hq (by simp[Key.deep,hk])]
  rw[<-this];exact h
 |false=>rw[Gh.at_none hk]at h;exact h.into _
theorem VR.cells (h:VR T G w v x)(hx: ∀vs,v≠ .tup vs):
  x.cells.size=v.cells.length/\ (∀i,i<v.cells.length->fM (x.cells.getD i undef)=true)/\ ∀i,i<v.cells.length->VR T G w (v.cells.getD i .dead) (x.cells.getD i undef):=by
 have one: ∀{v:Val} {x:Value},VR T G w v x->v.cells=[v]->x.cells= #[x]->fM x=true->
   x.cells.size=v.cells.length/\ (∀i,i<v.cells.length->fM (x.cells.getD i undef)=true)/\ ∀i,i<v.cells.length->VR T G w (v.cells.getD i .dead) (x.cells.getD i undef):=by
  intro v x h hv hx ho;rw[hv,hx]
  refine⟨rfl,fun i hi=>?_,fun i hi=>?_⟩<;>(simp at hi;subst hi)
  ·exact ho
  ·exact h
 cases h with
 |agg cs y h ho hv=>exact⟨h,ho,hv⟩
 |tup vs y h hv=>exact absurd rfl (hx vs)
 |dead x h=>exact one (.dead x h) rfl (by cases x<;>first|rfl|simp[fM]at h) h
 |bool b=>exact one (.bool b) rfl rfl rfl
 |int k n=>exact one (.int k n) rfl rfl rfl
 |str s=>exact one (.str s) rfl rfl rfl
 |nilp=>exact one .nilp rfl rfl rfl
 |fp cs off b base c h ht ho hv=>exact one (.fp cs off b base c h ht ho hv) rfl rfl rfl
 |ptr k off b h=>exact one (.ptr k off b h) rfl rfl rfl
 |ep k i off b base sz C h hi=>exact one (.ep k i off b base sz C h hi) rfl rfl rfl
 |fz0 a cap=>exact one (.fz0 a cap) rfl rfl rfl
 |fz xs b off sz cap c hc hs h ht ho hv=>exact one (.fz xs b off sz cap c hc hs h ht ho hv) rfl rfl rfl
 |cl0 a=>exact one (.cl0 a) rfl rfl rfl
 |cl xs b off sz c hs h ht ho hv=>exact one (.cl xs b off sz c hs h ht ho hv) rfl rfl rfl
 |bl0 k a h=>exact one (.bl0 k a h) rfl rfl rfl
 |bl k off len b base sz C h hl=>exact one (.bl k off len b base sz C h hl) rfl rfl rfl
 |ble k a b base sz C h=>exact one (.ble k a b base sz C h) rfl rfl rfl
 |nilm=>exact one .nilm rfl rfl rfl
 |fm ks vs r es clock h ht hk hl hkv hvv=>exact one (.fm ks vs r es clock h ht hk hl hkv hvv) rfl rfl rfl
 |mp k r h=>exact one (.mp k r h) rfl rfl rfl
 |nilf=>exact one .nilf rfl rfl rfl
 |fn f a b x y ha hb hx' hy=>exact one (.fn f a b x y ha hb hx' hy) rfl rfl rfl
 |yld k l h=>exact one (.yld k l h) rfl rfl rfl
 |nili=>exact one .nili rfl rfl rfl
 |it k r h=>exact one (.it k r h) rfl rfl rfl
 |es a cap=>exact one (.es a cap) rfl rfl rfl
 |ifc t v x h=>exact one (.ifc t v x h) rfl rfl rfl
def aX (B:Nat)(S:Nat->Nat->Prop)(G:Gh)(n b o:Nat):Prop:=
 b<n/\ ((b<B/\ S b o) \/(B<=b/\ match G.own b with| .none=>True|some (_,t)=>o<t))
def Ex.code :Ex->Code
 | .normal=> .skip
 | .exit id=> .exit id
 | .ret=> .ret
 | .panic _=> .skip
def aZr (s:LSt)(rec:Loop):Prop:=
 match s with
 | .ready=>rec.state= .ready/\ rec.pending=none
 | .busy=>rec.state= .busy/\ rec.pending=none
 | .done e=>rec.state= .done/\ rec.pending=some e.code/\ e≠ .normal/\ e.calm=true
 | .over=>rec.state= .exhausted
variable [Inhabited mN]
inductive ER (P:Program) (B:Nat) (T:Nat->Nat->Prop) (G:Gh) (w:World) (k:Key):Ent->Prop
 |box (cs:List Val) (frz:Bool) (b:Nat) (c:Array Value) (t:TypeId) (hb:G.box k=some b) (hB:B<=b) (h:w.heap[b]?=some (.cells c t (0,0)))
   (hs:c.size=cs.length) (ho: ∀j,j<cs.length->fM (c.getD j undef)=true) (hv: ∀j,j<cs.length->VR T G w (cs.getD j .dead) (c.getD j undef))
   (hown:G.own b=if frz then .none else some (k,0)):ER P B T G w k (.box cs frz)
 |nul (sz:Nat) (frz:Bool) (h:G.blk k=some .none):ER P B T G w k (.blk sz [] frz)
 |blk (xs:List Val) (frz:Bool) (b base sz C thr:Nat) (c:Array Value) (t:TypeId) (hb:G.blk k=some (some (b,base,sz,C))) (hB:B<=b)
   (h:w.heap[b]?=some (.cells c t (0,0))) (hC:xs.length<=C) (hC':base+C*sz<=c.size)
   (hs: ∀i,i<xs.length->(xs.getD i .dead).cells.length=sz)
   (ho: ∀i j,i<xs.length->j<sz->fM (c.getD (base+i*sz+j) undef)=true)
   (hv: ∀i j,i<xs.length->j<sz->VR T (G.at k) w ((xs.getD i .dead).cells.getD j .dead) (c.getD (base+i*sz+j) undef))
   (hown:G.own b=some (k,thr)) (hthr:thr=if frz then base+xs.length*sz else base):ER P B T G w k (.blk sz xs frz)
 |full (xs:List Val) (b base sz:Nat) (c:Nat->Nat->Value) (hb:G.blk k=some (some (b,base,sz,xs.length)))
   (hs: ∀i,i<xs.length->(xs.getD i .dead).cells.length=sz)
   (h: ∀i j,i<xs.length->j<sz->w.cell? ⟨b,base+i*sz+j,.none⟩=some (c i j))
   (ht: ∀i j,i<xs.length->j<sz->T b (base+i*sz+j)) (ho: ∀i j,i<xs.length->j<sz->fM (c i j)=true)
   (hv: ∀i j,i<xs.length->j<sz->VR T Gh.none w ((xs.getD i .dead).cells.getD j .dead) (c i j)):ER P B T G w k (.blk sz xs true)
 |map (ks vs:List Val) (frz:Bool) (r:Nat) (es:Array MapEntry) (clock:Nat) (hr:G.mp k=some r) (hB:B<=r) (h:w.heap[r]?=some (.map es clock))
   (hk:es.size=ks.length) (hl:vs.length=ks.length)
   (hkv: ∀i,i<ks.length->VR T Gh.none w (ks.getD i .dead) (es.getD i default).key) (hvv: ∀i,i<ks.length->VR T Gh.none w (vs.getD i .dead) (es.getD i default).val)
   (hown:G.own r=if frz then .none else some (k,0)):ER P B T G w k (.map ks vs frz)
 |loop (fr:Nat->Val) (ps:List Nat) (la lb:aY) (st:LSt) (l:Nat) (rec:Loop) (I:Operand->Bool) (N:Nat) (hl:G.mp k=some l) (hB:B<=l) (h:w.heap[l]?=some (.loop rec))
   (hps:rec.params.toList=ps) (ha:cB P I rec.assign=la) (hb:cB P I rec.body=lb) (hN:N<=rec.tmps.size) (hpN:ps.all (· <N)=true) (haN:la.dstOk N=true) (hbN:lb.dstOk N=true)
   (hf: ∀i,VR T G w (fr i) (rec.tmps.getD i undef)) (hst:aZr st rec) (hown:G.own l=some (k,0)):ER P B T G w k (.loop fr ps la lb st)
 |iter (s:ByteArray) (pos r:Nat) (hr:G.mp k=some r) (hB:B<=r) (h:w.heap[r]?=some (.stringIter s pos)) (hown:G.own r=some (k,0)):ER P B T G w k (.iter s pos)
structure Env where
 prs:Val->Value->Prop
 ro:Option Nat
 rnd:Nat->Prop
 defs:Nat->Prop
 tail:List Deferred:=[]
 nm:Bool:=false
 virt:Key->Prop:=fun _=>False
def Env.isRnd (Ξ:Env)(l:Nat):Prop:=Ξ.ro=some l \/Ξ.rnd l
def mark (D:Nat):Deferred:={target:= .collected D,args:= #[]}
def aQn (B:Nat)(Ξ:Env)(ds:List Deferred)(w:World):Prop:=
 ∃Ds:List Nat,ds=Ds.map mark++Ξ.tail/\ (Ds.Nodup/\ (Ξ.nm=true->Ds=[]))/\ ∀D∈Ds,B<=D/\ ¬Ξ.defs D/\ w.heap[D]?=some (.deferred (some []))
def bFm (v:Val)(x:Value):Prop:= ∃g cs,(default:mN).tbl g=some cs/\ v= .fp cs 0/\ x= .pointer (some ⟨g,0,.none⟩)
def tT (T:Nat->Nat->Prop)(w:World):Prop:= ∀v x,bFm v x->VR T Gh.none w v x
structure Rel (P:Program) (Ξ:Env) (B:Nat) (S:Nat->Nat->Prop) (G:Gh) (st:St) (N:Nat) (a:Act) (w:World):Prop where
 size:B<=w.heap.size
 tmps:N<=a.tmps.size
 frame: ∀i,VR (aX B S G w.heap.size) G w (st.fr i) (a.tmps.getD i undef)
 marks:aQn B Ξ a.defers w
 ents: ∀k e,st.en k=some e->G.knows k->ER P B (aX B S G w.heap.size) G w k e
 freshEn: ∀k,st.cnt k.n k.t<=k.g->st.en k=none
 freshG: ∀k,st.cnt k.n k.t<=k.g->G.box k= .none/\ G.blk k= .none/\ G.mp k= .none
 own: ∀b k t,G.own b=some (k,t)->B<=b/\ b<w.heap.size/\ k.g<st.cnt k.n k.t
 extra: ∀v x,Ξ.prs v x \/bFm v x->VR (aX B S G w.heap.size) G w v x
 round: ∀l,Ξ.isRnd l-> ∃r,w.heap[l]?=some (.loop r)
 defs: ∀D,Ξ.defs D->w.heap[D]?=some (.deferred (some []))
 virt: ∀k,Ξ.virt k-> ¬G.knows k/\ k.g<st.cnt k.n k.t
theorem bDb {cs:List Val}{n:Nat}(h:VR T G w (.fp cs n) x):VR T Gh.none w (.fp cs n) x:=by
 cases h with
 |fp cs _ b base c h ht ho hv=>exact .fp cs _ b base c h ht ho hv
variable {B:Nat}{P:Program}{Ξ:Env}
theorem Rel.glob {S:Nat->Nat->Prop}{st:St}{N:Nat}{a:Act}(h:Rel P Ξ B S G st N a w):tT (aX B S G w.heap.size) w:=by
 rintro v x ⟨g,cs,h1,rfl,rfl⟩
 exact bDb (h.extra _ _ (.inr ⟨g,cs,h1,rfl,rfl⟩))
theorem tT.mono (h:tT T w)(ht: ∀b o,T b o->T' b o):tT T' w:=
 fun v x hx=>(h v x hx).mono' ⟨ht,Gh.le_refl _,fun _ _ _ _ h=>h,fun _ _ _ _ h=>h⟩
theorem aQn.mono {ds:List Deferred}(h:aQn B Ξ ds w)(m:jN T G w T' G' w'):aQn B Ξ ds w':=
 let ⟨Ds,h1,h2,h3⟩:=h
 ⟨Ds,h1,h2,fun D hD=>let ⟨e1,e2,e3⟩:=h3 D hD;⟨e1,e2,m.defer _ _ e3⟩⟩
theorem VR.mono4 (m:zL T G w T' G' w')(h:VR T G w v x):VR T' G' w' v x:=h.mono' m
theorem ER.mono (m:zL T G w T' G' w'){e:Ent}(h:ER P B T G w k e)
  (hm: ∀b,B<=b->(∃t,G.own b=some (k,t)) \/(G.own b= .none/\ ∃o,w.heap[b]?=some o)->w'.heap[b]?=w.heap[b]?/\ G'.own b=G.own b):ER P B T' G' w' k e:=by
 cases h with
 |box cs frz b c t hb hB h hs ho hv hown=>
  have h2:=hm b hB (by cases frz<;>simp at hown;exact .inl ⟨0,hown⟩;exact .inr ⟨hown,_,h⟩)
  exact .box cs frz b c t (m.g.box _ _ hb) hB (by rw[h2.1];exact h) hs ho (fun j hj=>(hv j hj).mono4 m) (by rw[h2.2];exact hown)
 |nul sz frz h=>exact .nul sz frz (m.g.blk _ _ h)
 |blk xs frz b base sz C thr c t hb hB h hC hC' hs ho hv hown hthr=>
  have h2:=hm b hB (.inl ⟨thr,hown⟩);exact .blk xs frz b base sz C thr c t (m.g.blk _ _ hb) hB (by rw[h2.1];exact h) hC hC' hs ho (fun i j hi hj=>(hv i j hi hj).mono4 (m.at k)) (by rw[h2.2];exact hown) hthr
 |full xs b base sz c hb hs h ht ho hv=>
  exact .full xs b base sz c (m.g.blk _ _ hb) hs (fun i j hi hj=>m.cell _ _ _ (ht i j hi hj) (h i j hi hj)) (fun i j hi hj=>m.t _ _ (ht i j hi hj)) ho (fun i j hi hj=>(hv i j hi hj).mono4 m.none)
 |map ks vs frz r es clock hr hB h hk hl hkv hvv hown=>
  have h2:=hm r hB (by cases frz<;>simp at hown;exact .inl ⟨0,hown⟩;exact .inr ⟨hown,_,h⟩)
  exact .map ks vs frz r es clock (m.g.mp _ _ hr) hB (by rw[h2.1];exact h) hk hl (fun i hi=>(hkv i hi).mono4 m.none) (fun i hi=>(hvv i hi).mono4 m.none) (by rw[h2.2];exact hown)
 |loop fr ps la lb st l rec I N hl hB h hps ha hb hN hpN haN hbN hf hst hown=>
  have h2:=hm l hB (.inl ⟨0,hown⟩);exact .loop fr ps la lb st l rec I N (m.g.mp _ _ hl) hB (by rw[h2.1];exact h) hps ha hb hN hpN haN hbN (fun i=>(hf i).mono4 m) hst (by rw[h2.2];exact hown)
 |iter s pos r hr hB h hown=>
  have h2:=hm r hB (.inl ⟨0,hown⟩);exact .iter s pos r (m.g.mp _ _ hr) hB (by rw[h2.1];exact h) (by rw[h2.2];exact hown)
end Go.Abs
namespace Go.Abs
open Go.RowKit (Below)
variable [Inhabited mN]
variable {G:Gh}{T:Nat->Nat->Prop}{v:Val}{w:World}{x:Value}
theorem VR.one (h:VR T G w v x)(h1: ∀cs,v≠ .agg cs)(h2: ∀cs,v≠ .tup cs):fM x=true:=by
 cases h<;>first|rfl|assumption|exact absurd rfl (h1 _)|exact absurd rfl (h2 _)
variable {a:Act}{d i:Nat}
theorem aZs (hd:d<a.tmps.size):
  ((a.put (some d) x).tmps.getD i undef)=if i=d then x else a.tmps.getD i undef:=by
 simp only[Act.put,bQy,bTa]
 by_cases h:d=i
 ·subst h;simp[hd]
 ·have h': ¬i=d:=fun e=>h e.symm
  simp[h,h']
variable {B N:Nat}{P:Program}{S:Nat->Nat->Prop}{st:St}{Ξ:Env}
theorem Rel.put (h:Rel P Ξ B S G st N a w)(hd:d<N)
  (hv:VR (aX B S G w.heap.size) G w v x):Rel P Ξ B S G {st with fr:=jD st.fr d v} N (a.put (some d) x) w:=by
 refine⟨h.size,by simpa[Act.put]using h.tmps,fun i=>?_,h.marks,h.ents,h.freshEn,h.freshG,h.own,h.extra,h.round,h.defs,h.virt⟩
 rw[aZs (bRa hd h.tmps)]
 by_cases hi:i=d
 ·simp[hi,jD];exact hv
 ·simp only[hi,jD,if_false];exact h.frame i
variable {b:Nat}
theorem aOf {o:Nat}{c:Value}(h:w.cell? ⟨b,o,.none⟩=some c):b<w.heap.size:=by
 simp only[World.cell?]at h
 split at h
 ·rename_i hb;exact(bSd.1 hb).1
 ·cases h
theorem dX {o:Obj}(h:w.heap[b]?=some o):b<w.heap.size:=(bSd.1 h).1
variable {w':World}
theorem pR (h:w'.heap[b]?=w.heap[b]?)(o:Nat):w'.cell? ⟨b,o,.none⟩=w.cell? ⟨b,o,.none⟩:=by
 simp only[World.cell?,h]
variable {c:Array Value}{t:TypeId}
theorem lZ {f:Nat×Nat}(h:w.heap[b]?=some (.cells c t f))(o:Nat):w.cell? ⟨b,o,.none⟩=c[o]?:=by
 simp only[World.cell?,h];simp
theorem rA (hb:Below w.heap.size w w'):
  jN (aX B S G w.heap.size) G w (aX B S G w'.heap.size) G w':=
 ⟨fun b o h=>⟨bRa h.1 hb.size,h.2⟩,G.le_refl,fun b o c _ h=>by rw[pR (hb.block b (aOf h))];exact h,
  fun r es cl _ h=>by rw[hb.block r (dX h)];exact h,fun b ds h=>by rw[hb.block b (dX h)];exact h,fun l r h=>⟨r,by rw[hb.block l (dX h)];exact h⟩⟩
variable {k:Key}
theorem aOg (hown: ∀b k t,G.own b=some (k,t)->b<w.heap.size)
  (h:(∃t,G.own b=some (k,t)) \/(G.own b= .none/\ ∃o,w.heap[b]?=some o)):b<w.heap.size:=by
 rcases h with⟨t,h⟩|⟨_,o,h⟩
 ·exact hown _ _ _ h
 ·exact dX h
theorem Rel.below (h:Rel P Ξ B S G st N a w)(hb:Below w.heap.size w w'):Rel P Ξ B S G st N a w':=by
 have m:=rA (B:=B) (S:=S) (G:=G) hb
 refine⟨bQv h.size hb.size,h.tmps,fun i=>(h.frame i).mono m,h.marks.mono m,fun k e he hkn=>(h.ents k e he hkn).mono m.four fun b _ hb'=>?_,h.freshEn,h.freshG,
  fun b k t ho=>let ⟨x,y,z⟩:=h.own b k t ho;⟨x,bRa y hb.size,z⟩,fun v x h'=>(h.extra v x h').mono m,fun l hl=>let ⟨r,hr⟩:=h.round l hl;m.loop l r hr,fun D hD=>m.defer _ _ (h.defs D hD),h.virt⟩
 exact⟨hb.block b (aOg (fun b k t ho=>(h.own b k t ho).2.1) hb'),rfl⟩
def Gh.addBox (G:Gh)(k:Key)(b:Nat):Gh:={G with box:=fun k'=>if k'=k then some b else G.box k',own:=fun b'=>if b'=b then some (k,0)else G.own b'}
def Gh.addBlk (G:Gh)(k:Key)(b base sz C thr:Nat):Gh:=
 {G with blk:=fun k'=>if k'=k then some (some (b,base,sz,C))else G.blk k',own:=fun b'=>if b'=b then some (k,thr)else G.own b'}
def Gh.addMp (G:Gh)(k:Key)(b:Nat):Gh:={G with mp:=fun k'=>if k'=k then some b else G.mp k',own:=fun b'=>if b'=b then some (k,0)else G.own b'}
def Gh.addNul (G:Gh)(k:Key):Gh:={G with blk:=fun k'=>if k'=k then some .none else G.blk k'}
def Gh.addFull (G:Gh)(k:Key)(b base sz C:Nat):Gh:={G with blk:=fun k'=>if k'=k then some (some (b,base,sz,C))else G.blk k'}
theorem Gh.le_addBox (h:G.box k= .none):G.le (G.addBox k b):=
 ⟨fun k' b' e=>by
  simp only[Gh.addBox];split
  ·rename_i hk;subst hk;rw[h]at e;cases e
  ·exact e,fun _ _ e=>e,fun _ _ e=>e⟩
variable {C base sz thr:Nat}
theorem Gh.le_addBlk (h:G.blk k= .none):G.le (G.addBlk k b base sz C thr):=
 ⟨fun _ _ e=>e,fun k' b' e=>by
  simp only[Gh.addBlk];split
  ·rename_i hk;subst hk;rw[h]at e;cases e
  ·exact e,fun _ _ e=>e⟩
theorem Gh.le_addFull (h:G.blk k= .none):G.le (G.addFull k b base sz C):=
 ⟨fun _ _ e=>e,fun k' b' e=>by
  simp only[Gh.addFull];split
  ·rename_i hk;subst hk;rw[h]at e;cases e
  ·exact e,fun _ _ e=>e⟩
theorem Gh.le_addMp (h:G.mp k= .none):G.le (G.addMp k b):=
 ⟨fun _ _ e=>e,fun _ _ e=>e,fun k' b' e=>by
  simp only[Gh.addMp];split
  ·rename_i hk;subst hk;rw[h]at e;cases e
  ·exact e⟩
theorem Gh.le_addNul (h:G.blk k= .none):G.le (G.addNul k):=
 ⟨fun _ _ e=>e,fun k' b' e=>by
  simp only[Gh.addNul];split
  ·rename_i hk;subst hk;rw[h]at e;cases e
  ·exact e,fun _ _ e=>e⟩
variable {G':Gh}{cnt':Nat->Nat->Nat}{en':En}
theorem Rel.change4 (h:Rel P Ξ B S G st N a w){Ξ':Env}{a':Act}
  (ht:a'.tmps=a.tmps) (m:zL (aX B S G w.heap.size) G w (aX B S G' w'.heap.size) G' w') (hs:w.heap.size<=w'.heap.size)
  (he: ∀k e,en' k=some e->G'.knows k->ER P B (aX B S G' w'.heap.size) G' w' k e)
  (hf: ∀k,cnt' k.n k.t<=k.g->en' k=none/\ G'.box k= .none/\ G'.blk k= .none/\ G'.mp k= .none)
  (ho: ∀b k t,G'.own b=some (k,t)->B<=b/\ b<w'.heap.size/\ k.g<cnt' k.n k.t)
  (hp: ∀v x,Ξ'.prs v x->Ξ.prs v x) (hmk:aQn B Ξ' a'.defers w') (hrd: ∀l,Ξ'.isRnd l-> ∃r,w'.heap[l]?=some (.loop r)) (hdf: ∀D,Ξ'.defs D->w'.heap[D]?=some (.deferred (some []))) (hvt: ∀k,Ξ'.virt k-> ¬G'.knows k/\ k.g<cnt' k.n k.t):
  Rel P Ξ' B S G' {fr:=st.fr,en:=en',cnt:=cnt'} N a' w':=
 ⟨bQv h.size hs,by rw[ht];exact h.tmps,fun i=>by rw[ht];exact(h.frame i).mono4 m,hmk,he,fun k hk=>(hf k hk).1,fun k hk=>(hf k hk).2,ho,fun v x h'=>(h.extra v x (h'.imp_left (hp v x))).mono4 m,hrd,hdf,hvt⟩
theorem Rel.change (h:Rel P Ξ B S G st N a w)
  (m:jN (aX B S G w.heap.size) G w (aX B S G' w'.heap.size) G' w') (hs:w.heap.size<=w'.heap.size)
  (he: ∀k e,en' k=some e->G'.knows k->ER P B (aX B S G' w'.heap.size) G' w' k e)
  (hf: ∀k,cnt' k.n k.t<=k.g->en' k=none/\ G'.box k= .none/\ G'.blk k= .none/\ G'.mp k= .none)
  (ho: ∀b k t,G'.own b=some (k,t)->B<=b/\ b<w'.heap.size/\ k.g<cnt' k.n k.t) (hvt: ∀k,Ξ.virt k-> ¬G'.knows k/\ k.g<cnt' k.n k.t):Rel P Ξ B S G' {fr:=st.fr,en:=en',cnt:=cnt'} N a w':=
 ⟨bQv h.size hs,h.tmps,fun i=>(h.frame i).mono m,h.marks.mono m,he,fun k hk=>(hf k hk).1,fun k hk=>(hf k hk).2,ho,fun v x h'=>(h.extra v x h').mono m,fun l hl=>let ⟨r,hr⟩:=h.round l hl;m.loop l r hr,fun D hD=>m.defer _ _ (h.defs D hD),hvt⟩
theorem size_alloc (w:World)(o:Obj):(w.alloc o).heap.size=w.heap.size+1:=World.size_alloc w o
theorem kU (w:World)(o:Obj)(h:b<w.heap.size):(w.alloc o).heap[b]?=w.heap[b]?:=Below.heap_alloc w o b h
theorem gF (w:World)(o:Obj):(w.alloc o).heap[w.heap.size]?=some o:=by
 show(w.heap.push o)[w.heap.size]?=_;simp
theorem rB {o:Obj}(hg:G.le G')(ho: ∀b,b≠w.heap.size->G'.own b=G.own b):
  jN (aX B S G w.heap.size) G w (aX B S G' (w.alloc o).heap.size) G' (w.alloc o):=by
 refine⟨fun b o' h=>?_,hg,fun b o' c _ h=>?_,fun r es cl _ h=>?_,fun b ds h=>by rw[kU w o (dX h)];exact h,fun l r h=>⟨r,by rw[kU w o (dX h)];exact h⟩⟩
 ·refine⟨by rw[size_alloc];exact Nat.lt_succ_of_lt h.1,?_⟩
  rw[ho b (Nat.ne_of_lt h.1)];exact h.2
 ·rw[pR (kU w o (aOf h))];exact h
 ·rw[kU w o (dX h)];exact h
variable {cnt:Nat->Nat->Nat}{n:Nat}
theorem oG {t:Nat}(n' t':Nat):cnt n' t'<=aC cnt n t (cnt n t+1) n' t':=by
 unfold aC;split
 ·rename_i h;obtain⟨rfl,rfl⟩:=h;omega
 ·exact bQk _
theorem mK {t:Nat}:aC cnt n t (cnt n t+1) n t=cnt n t+1:=by simp[aC]
theorem Gh.knows_of {nk:Key}(hk: ∀k,k≠nk->G'.box k=G.box k/\ G'.blk k=G.blk k/\ G'.mp k=G.mp k)(hne:k≠nk)(h:G'.knows k):G.knows k:=by
 obtain⟨j1,j2,j3⟩:=hk k hne;unfold Gh.knows at h⊢;rwa [j1,j2,j3]at h
theorem Rel.virtAt (h:Rel P Ξ B S G st N a w){q:Nat}(hk: ∀k,k≠⟨q,d,st.cnt q d⟩->G'.box k=G.box k/\ G'.blk k=G.blk k/\ G'.mp k=G.mp k):
  ∀k,Ξ.virt k-> ¬G'.knows k/\ k.g<aC st.cnt q d (st.cnt q d+1) k.n k.t:=fun k hv=>by
 obtain⟨v1,v2⟩:=h.virt k hv;have hne:k≠⟨q,d,st.cnt q d⟩:=by rintro rfl;exact bS1 _ v2
 exact⟨fun hkn=>v1 (Gh.knows_of hk hne hkn),bRa v2 (oG _ _)⟩
theorem VR.knows_bl {o l:Nat}(h:VR T G w (.bl k o l) x):G.knows k:=by
 cases h with
 |bl0 _ _ h=>exact Gh.knows_blk h
 |bl _ _ _ _ _ _ _ h=>exact Gh.knows_blk h
 |ble _ _ _ _ _ _ h=>exact Gh.knows_blk h
theorem Rel.allocN (h:Rel P Ξ B S G st N a w)(q d:Nat)(o:Obj)(e:Ent)(G':Gh)
  (hg:G.le G') (ho: ∀b,b≠w.heap.size->G'.own b=G.own b)
  (hk: ∀k,k≠⟨q,d,st.cnt q d⟩->G'.box k=G.box k/\ G'.blk k=G.blk k/\ G'.mp k=G.mp k)
  (hn: ∀k t,G'.own w.heap.size=some (k,t)->k=⟨q,d,st.cnt q d⟩)
  (he:ER P B (aX B S G' (w.alloc o).heap.size) G' (w.alloc o) ⟨q,d,st.cnt q d⟩ e):
  Rel P Ξ B S G' {fr:=st.fr,en:=st.en.set ⟨q,d,st.cnt q d⟩ (some e),cnt:=aC st.cnt q d (st.cnt q d+1)} N a (w.alloc o):=by
 have m:=rB (B:=B) (S:=S) (w:=w) (o:=o) hg ho
 refine h.change m (by rw[size_alloc];omega) (fun k e' hk' hkn=>?_) (fun k hk'=>?_) (fun b k t hb=>?_) (fun k hv=>?_)
 ·simp only[En.set]at hk'
  split at hk'
  ·rename_i heq;subst heq;simp only[bQi]at hk';subst hk';exact he
  ·rename_i hne;obtain⟨j1,j2,j3⟩:=hk k hne
   refine(h.ents k e' hk' (by unfold Gh.knows at hkn⊢;rwa [j1,j2,j3]at hkn)).mono m.four fun b _ hb=>?_
   have hlt:=aOg (fun b k t ho=>(h.own b k t ho).2.1) hb
   exact⟨kU w o hlt,ho b (Nat.ne_of_lt hlt)⟩
 ·have hne:k≠⟨q,d,st.cnt q d⟩:=by
   rintro rfl
   simp only[mK]at hk';omega
  have hle:st.cnt k.n k.t<=k.g:=bQv (oG _ _) hk';obtain⟨h1,h2,h3⟩:=hk k hne;obtain⟨f1,f2,f3⟩:=h.freshG k hle
  refine⟨?_,by rw[h1];exact f1,by rw[h2];exact f2,by rw[h3];exact f3⟩
  simp only[En.set,if_neg hne];exact h.freshEn k hle
 ·by_cases hb':b=w.heap.size
  ·subst hb';have:=hn k t hb;subst this;exact⟨h.size,by rw[size_alloc];omega,by simp only[mK];omega⟩
  ·rw[ho b hb']at hb;obtain⟨h1,h2,h3⟩:=h.own b k t hb;exact⟨h1,by rw[size_alloc];omega,bRa h3 (oG _ _)⟩
 ·obtain⟨v1,v2⟩:=h.virt k hv;have hne:k≠⟨q,d,st.cnt q d⟩:=by rintro rfl;exact bS1 _ v2
  obtain⟨j1,j2,j3⟩:=hk k hne;exact⟨fun hkn=>v1 (by unfold Gh.knows at hkn⊢;rwa [j1,j2,j3]at hkn),bRa v2 (oG _ _)⟩
theorem Rel.alloc (h:Rel P Ξ B S G st N a w)(d:Nat)(o:Obj)(e:Ent)(G':Gh)
  (hg:G.le G') (ho: ∀b,b≠w.heap.size->G'.own b=G.own b)
  (hk: ∀k,k≠⟨0,d,st.cnt 0 d⟩->G'.box k=G.box k/\ G'.blk k=G.blk k/\ G'.mp k=G.mp k)
  (hn: ∀k t,G'.own w.heap.size=some (k,t)->k=⟨0,d,st.cnt 0 d⟩)
  (he:ER P B (aX B S G' (w.alloc o).heap.size) G' (w.alloc o) ⟨0,d,st.cnt 0 d⟩ e):
  Rel P Ξ B S G' {fr:=st.fr,en:=st.en.set ⟨0,d,st.cnt 0 d⟩ (some e),cnt:=aC st.cnt 0 d (st.cnt 0 d+1)} N a (w.alloc o):=h.allocN 0 d o e G' hg ho hk hn he
def kJ (w:World)(b:Nat)(o:Obj):World:={w with heap:=w.heap.setIfInBounds b o}
theorem nS (w:World)(b:Nat)(o:Obj):(kJ w b o).heap.size=w.heap.size:=by simp[kJ]
theorem kV (o:Obj)(h:b<w.heap.size):(kJ w b o).heap[b]?=some o:=by simp[kJ,bTa,h]
variable {b':Nat}
theorem fB (o:Obj)(h:b'≠b):(kJ w b o).heap[b']?=w.heap[b']?:=by
 have hb: ¬b=b':=fun e=>h e.symm
 simp[kJ,bTa,hb]
variable {o':Obj}
theorem aW6 {o:Obj}(hB:B<=b)(hown:G.own b=some (k,thr))(ho:w.heap[b]?=some o)
  (hm: ∀es cl,o≠ .map es cl \/0≥thr) (hnd: ∀ds,o≠ .deferred ds) (hnl: ∀r,o= .loop r-> ∃r',o'= .loop r')
  (hc: ∀off,off<thr->(kJ w b o').cell? ⟨b,off,.none⟩=w.cell? ⟨b,off,.none⟩):
  jN (aX B S G w.heap.size) G w (aX B S G (kJ w b o').heap.size) G (kJ w b o'):=by
 have hs: ∀b' o'',aX B S G w.heap.size b' o''->b'=b->o''<thr:=by
  rintro b' o'' ⟨_,h⟩ rfl
  rcases h with⟨h,_⟩|⟨_,h⟩
  ·omega
  ·rw[hown]at h;exact h
 refine⟨fun b' o'' h=>by rw[nS];exact h,G.le_refl,fun b' o'' c h hc'=>?_,fun r es cl h hr=>?_,fun b' ds h=>?_,fun b' r h=>?_⟩
 ·by_cases hb:b'=b
  ·subst hb;rw[hc _ (hs _ _ h rfl)];exact hc'
  ·rw[pR (fB o' hb)];exact hc'
 ·by_cases hb:r=b
  ·subst hb;have h0:=hs _ _ h rfl;rw[ho]at hr;simp only[bQi]at hr;rcases hm es cl with h1|h1
   ·exact absurd hr h1
   ·omega
  ·rw[fB o' hb];exact hr
 ·by_cases hb:b'=b
  ·subst hb;rw[ho]at h;exact absurd (Option.some.inj h) (hnd ds)
  ·rw[fB o' hb];exact h
 ·by_cases hb:b'=b
  ·subst hb;rw[ho]at h;obtain⟨r',e1⟩:=hnl r (Option.some.inj h);exact⟨r',by rw[kV _ (dX ho),e1]⟩
  ·exact⟨r,by rw[fB o' hb];exact h⟩
theorem Rel.write (h:Rel P Ξ B S G st N a w){o:Obj}{e':Ent}
  (hown:G.own b=some (k,thr)) (ho:w.heap[b]?=some o) (hm: ∀es cl,o≠ .map es cl \/0≥thr) (hnd: ∀ds,o≠ .deferred ds) (hnl: ∀r,o= .loop r-> ∃r',o'= .loop r')
  (hc: ∀off,off<thr->(kJ w b o').cell? ⟨b,off,.none⟩=w.cell? ⟨b,off,.none⟩)
  (he:jN (aX B S G w.heap.size) G w (aX B S G (kJ w b o').heap.size) G (kJ w b o')->ER P B (aX B S G (kJ w b o').heap.size) G (kJ w b o') k e'):
  Rel P Ξ B S G {st with en:=st.en.set k (some e')} N a (kJ w b o'):=by
 obtain⟨hB,hlt,hk⟩:=h.own b k thr hown;have m:=aW6 (S:=S) (o':=o') hB hown ho hm hnd hnl hc
 refine h.change m (by rw[nS];exact bQk _) (fun k' e hk' hkn=>?_) (fun k' hk'=>?_) (fun b' k' t hb'=>by rw[nS];exact h.own b' k' t hb') h.virt
 ·simp only[En.set]at hk'
  split at hk'
  ·rename_i heq;subst heq;simp only[bQi]at hk';subst hk';exact he m
  ·rename_i hne
   refine(h.ents k' e hk' hkn).mono m.four fun b' _ hb'=>?_
   have hb:b'≠b:=by
    rintro rfl
    rcases hb' with⟨t,hb'⟩|⟨hb',_⟩
    ·rw[hown]at hb';simp only[bQi,bQo]at hb';exact hne hb'.1.symm
    ·rw[hown]at hb';cases hb'
   exact⟨fB o' hb,rfl⟩
 ·refine⟨?_,h.freshG k' hk'⟩
  have hne:k'≠k:=by rintro rfl;omega
  simp only[En.set,if_neg hne];exact h.freshEn k' hk'
def wr (c:Array Value)(o:Nat):List Value->Array Value
 |[]=>c
 |v::vs=>wr (c.setIfInBounds o v) (o+1) vs
theorem aD2 : ∀(vs:List Value) (c:Array Value) (o:Nat),(wr c o vs).size=c.size
 |[],_,_=>rfl
 |v::vs,c,o=>by rw[wr,aD2];simp
theorem aCz : ∀(vs:List Value) (c:Array Value) (o i:Nat),o+vs.length<=c.size->(wr c o vs)[i]?=if o<=i/\ i<o+vs.length then vs[i-o]? else c[i]?
 |[],c,o,i,_=>by simp[wr];omega
 |v::vs,c,o,i,h=>by
  simp only[bQu]at h;rw[wr,aCz vs _ _ _ (by simp;omega)]
  by_cases h1:o+1<=i/\ i<o+1+vs.length
  ·rw[if_pos h1,if_pos (by simp;omega),show i-o=(i-(o+1))+1 by omega,bTz]
  ·rw[if_neg h1]
   by_cases h2:i=o
   ·subst h2;rw[if_pos (by simp)];simp[bTa];omega
   ·have h3: ¬o=i:=fun e=>h2 e.symm
    rw[if_neg (by simp;omega)];simp[bTa,h3]
theorem aGx {o:Nat}(v:Value)(h:w.heap[b]?=some (.cells c t (0,0))):
  w.setCell ⟨b,o,.none⟩ v=kJ w b (.cells (c.setIfInBounds o v) t (0,0)):=by
 unfold World.setCell kJ
 congr 1
 apply Array.ext_getElem?;intro i;rw[Array.getElem?_modify,bTa];have hb:=(bSd.1 h).1
 by_cases hi:b=i
 ·subst hi;have h2:=(bSd.1 h).2;simp[hb,h2]
 ·simp[hi]
theorem aMq (w:World)(b:Nat)(o o':Obj):kJ (kJ w b o) b o'=kJ w b o':=by
 simp[kJ]
theorem aVv {o:Obj}(h:w.heap[b]?=some o):kJ w b o=w:=by
 obtain⟨hb,h2⟩:=bSd.1 h;have:w.heap.setIfInBounds b o=w.heap:=by
  apply Array.ext_getElem?;intro i;rw[bTa]
  by_cases hi:b=i
  ·subst hi;simp[hb,h2]
  ·simp[hi]
 unfold kJ;rw[this]
theorem aIy {v:Value}(h:fM v=true):v.oneCell'=true:=by cases v<;>first|rfl|cases h
theorem aAb (P:Program): ∀(vs:List Value) (w:World) (b o i:Nat) (c:Array Value) (t:TypeId),w.heap[b]?=some (.cells c t (0,0))->(∀v∈vs,fM v=true)->
  o+i+vs.length<=c.size->(storeCells ⟨b,o,.none⟩ vs i).run P w= .ok () (kJ w b (.cells (wr c (o+i) vs) t (0,0)))
 |[],w,b,o,i,c,t,h,_,_=>by simp[storeCells,wr,aVv h]
 |v::vs,w,b,o,i,c,t,h,hv,hl=>by
  simp only[bQu]at hl;have hadd:(⟨b,o,.none⟩:Addr).add i=⟨b,o+i,.none⟩:=by
   by_cases hi:i=0
   ·subst hi;simp[Addr.add]
   ·simp[Addr.add,hi]
  have hcell:w.cell? ⟨b,o+i,.none⟩=some (c[o+i]'(by omega)):=by rw[lZ h];simp
  have hfr:w.frozen? ⟨b,o+i,.none⟩=false:=by simp[World.frozen?,h]
  have hs:=aGx (o:=o+i) v h;have hb:=dX h;simp only[storeCells,hadd,Sem.run_bind,run_store P w _ v .plain (aIy (hv v (by simp))),hcell,hfr,hs,bQm,if_false,Result.andThen_ok]
  rw[aAb P vs _ b o (i+1) (c.setIfInBounds (o+i) v) t (by rw[kV _ hb]) (fun x hx=>hv x (by simp[hx])) (by simp;omega),aMq]
  rfl
theorem aD3 {ty:TypeId}{o:Nat}(h:w.heap[b]?=some (.cells c ty (0,0)))
  (hi: ∃i,P.info? t=some i) (hn:x.cells.size=P.cellsOf t) (ho: ∀i,i<x.cells.size->fM (x.cells.getD i undef)=true) (hl:o+x.cells.size<=c.size):
  (storeVar t ⟨b,o,.none⟩ x).run P w= .ok () (kJ w b (.cells (wr c o x.cells.toList) ty (0,0))):=by
 obtain⟨i,hi⟩:=hi;have hsz:(sizeOf t).run P w= .ok (P.cellsOf t) w:=by simp[sizeOf,typeInfo,hi,Program.cellsOf]
 simp only[storeVar,Sem.run_bind,hsz,Result.andThen_ok,hn,ne_eq,not_true,if_false]
 refine(aAb P _ _ _ _ _ _ _ h (fun v hv=>?_) (by simpa using hl)).trans (by simp)
 obtain⟨j,hj,rfl⟩:=List.mem_iff_getElem.1 hv;have:=ho j (by simpa using hj)
 simpa[bQy,show j<x.cells.size by simpa using hj]using this
def Gh.disown (G:Gh)(b:Nat):Gh:={G with own:=fun b'=>if b'=b then .none else G.own b'}
def Gh.raise (G:Gh)(b:Nat)(k:Key)(thr:Nat):Gh:={G with own:=fun b'=>if b'=b then some (k,thr)else G.own b'}
def Cov (T:Nat->Nat->Prop)(G:Gh)(k:Key):Ent->Prop
 | .box cs _=> ∀b,G.box k=some b-> ∀j,j<cs.length->T b j
 | .blk _ xs _=> ∀b base sz C,G.blk k=some (some (b,base,sz,C))-> ∀i j,i<xs.length->j<sz->T b (base+i*sz+j)
 | .map _ _ _=> ∀r,G.mp k=some r->T r 0
 | .loop _ _ _ _ _=>True
 | .iter _ _=>True
theorem aGy {o:Nat}(h:aX B S G n b' o):aX B S (G.disown b) n b' o:=by
 refine⟨h.1,h.2.imp id fun⟨h1,h2⟩=>⟨h1,?_⟩⟩
 simp only[Gh.disown]
 by_cases hb:b'=b
 ·simp[hb]
 ·simpa[hb]using h2
theorem aTt {o thr':Nat}(hk:G.own b=some (k,thr))(ht:thr<=thr')(h:aX B S G n b' o):
  aX B S (G.raise b k thr') n b' o:=by
 refine⟨h.1,h.2.imp id fun⟨h1,h2⟩=>⟨h1,?_⟩⟩
 simp only[Gh.raise]
 by_cases hb:b'=b
 ·subst hb;rw[hk]at h2;simp at h2⊢;omega
 ·simpa[hb]using h2
variable {e:Ent}
theorem Rel.freeze1 (h:Rel P Ξ B S G st N a w)(he:st.en k=some e):
  ∃G',Rel P Ξ B S G' {st with en:=st.en.set k (some e.freeze)} N a w/\ jN (aX B S G w.heap.size) G w (aX B S G' w.heap.size) G' w/\ G'.box=G.box/\ G'.blk=G.blk/\ G'.mp=G.mp/\
   Cov (aX B S G' w.heap.size) G' k e:=by
 have hk:k.g<st.cnt k.n k.t:=by
  rcases bRs k.g (st.cnt k.n k.t)with h1|h1
  ·exact h1
  ·rw[h.freshEn k h1]at he;cases he
 have fin: ∀(G':Gh),jN (aX B S G w.heap.size) G w (aX B S G' w.heap.size) G' w->G'.box=G.box->G'.blk=G.blk->G'.mp=G.mp->
   (∀b,(¬ ∃t,G.own b=some (k,t))->G'.own b=G.own b)->(∀b k' t,G'.own b=some (k',t)-> ∃t',G.own b=some (k',t'))->
   (G.knows k->ER P B (aX B S G' w.heap.size) G' w k e.freeze)->Rel P Ξ B S G' {st with en:=st.en.set k (some e.freeze)} N a w:=by
  intro G' m e1 e2 e3 ho ho' hE;have ekn: ∀k,G'.knows k↔G.knows k:=fun k=>by unfold Gh.knows;rw[e1,e2,e3]
  refine h.change m (bQk _) (fun k' e' hk' hkn=>?_) (fun k' hk'=>?_) (fun b k' t hb=>let ⟨t',hb'⟩:=ho' b k' t hb;h.own b k' t' hb') (fun k hv=>⟨fun hkn=>(h.virt k hv).1 ((ekn k).1 hkn),(h.virt k hv).2⟩)
  ·simp only[En.set]at hk'
   split at hk'
   ·rename_i heq;subst heq;simp only[bQi]at hk';subst hk';exact hE ((ekn _).1 hkn)
   ·rename_i hne
    refine(h.ents k' e' hk' ((ekn _).1 hkn)).mono m.four fun b' _ hb'=>⟨rfl,ho b' ?_⟩
    rintro⟨t,ht⟩
    rcases hb' with⟨t',hb'⟩|⟨hb',_⟩
    ·rw[ht]at hb';simp only[bQi,bQo]at hb';exact hne hb'.1.symm
    ·rw[ht]at hb';cases hb'
  ·obtain⟨f1,f2,f3⟩:=h.freshG k' hk'
   refine⟨?_,by rw[e1];exact f1,by rw[e2];exact f2,by rw[e3];exact f3⟩
   have hne:k'≠k:=by rintro rfl;omega
   simp only[En.set,if_neg hne];exact h.freshEn k' hk'
 by_cases hkn:G.knows k
 case neg=>
  have m:=jN.refl (aX B S G w.heap.size) G w;obtain⟨u1,u2,u3⟩:=Gh.not_knows hkn
  refine⟨G,fin G m rfl rfl rfl (fun _ _=>rfl) (fun b k' t hb=>⟨t,hb⟩) (fun h=>absurd h hkn),m,rfl,rfl,rfl,?_⟩
  cases e with
  |box cs f=>intro b hb;rw[u1]at hb;cases hb
  |blk sz xs f=>intro b base sz C hb;rw[u2]at hb;cases hb
  |map ks vs f=>intro r hr;rw[u3]at hr;cases hr
  |loop=>trivial
  |iter=>trivial
 have hE:=h.ents k e he hkn;cases hE with
 |box cs frz b c t hb hB hh hs ho hv hown=>
  have m:jN (aX B S G w.heap.size) G w (aX B S (G.disown b) w.heap.size) (G.disown b) w:=⟨fun _ _=>aGy,⟨fun _ _ e=>e,fun _ _ e=>e,fun _ _ e=>e⟩,fun _ _ _ _ e=>e,fun _ _ _ _ e=>e,fun _ _ e=>e,fun _ r e=>⟨r,e⟩⟩
  refine⟨G.disown b,fin _ m rfl rfl rfl (fun b' hb'=>?_) (fun b' k' t' hb'=>?_) ?_,m,rfl,rfl,rfl,?_⟩
  ·simp only[Gh.disown];split
   ·rename_i e;subst e;cases frz
    ·exact absurd ⟨0,hown⟩ hb'
    ·exact hown.symm
   ·rfl
  ·simp only[Gh.disown]at hb';split at hb'
   ·cases hb'
   ·exact⟨t',hb'⟩
  ·exact fun _=> .box cs true b c t hb hB hh hs ho (fun j hj=>(hv j hj).mono m) (by simp[Gh.disown])
  ·intro b' hb' j hj;have:b'=b:=by rw[show(G.disown b).box k=G.box k from rfl,hb]at hb';exact(Option.some.inj hb').symm
   subst this;exact⟨dX hh,.inr ⟨hB,by simp[Gh.disown]⟩⟩
 |nul sz frz hn=>
  have m:=jN.refl (aX B S G w.heap.size) G w
  refine⟨G,fin G m rfl rfl rfl (fun _ _=>rfl) (fun b k' t hb=>⟨t,hb⟩) (fun _=> .nul sz true hn),m,rfl,rfl,rfl,?_⟩
  intro b base sz C _ i j hi;simp at hi
 |blk xs frz b base sz C thr c t hb hB hh hC hC' hs ho hv hown hthr=>
  have hle:thr<=base+xs.length*sz:=by subst hthr;split<;>omega
  have m:jN (aX B S G w.heap.size) G w (aX B S (G.raise b k (base+xs.length*sz)) w.heap.size) (G.raise b k (base+xs.length*sz)) w:=
   ⟨fun _ _=>aTt hown hle,⟨fun _ _ e=>e,fun _ _ e=>e,fun _ _ e=>e⟩,fun _ _ _ _ e=>e,fun _ _ _ _ e=>e,fun _ _ e=>e,fun _ r e=>⟨r,e⟩⟩
  refine⟨G.raise b k (base+xs.length*sz),fin _ m rfl rfl rfl (fun b' hb'=>?_) (fun b' k' t' hb'=>?_) ?_,m,rfl,rfl,rfl,?_⟩
  ·simp only[Gh.raise];split
   ·rename_i e;subst e;exact absurd ⟨thr,hown⟩ hb'
   ·rfl
  ·simp only[Gh.raise]at hb';split at hb'
   ·rename_i e;subst e;simp only[bQi,bQo]at hb';rw[<-hb'.1];exact⟨thr,hown⟩
   ·exact⟨t',hb'⟩
  ·exact fun _=> .blk xs true b base sz C (base+xs.length*sz) c t hb hB hh hC hC' hs ho (fun i j hi hj=>(hv i j hi hj).mono (m.atq k.n)) (by simp[Gh.raise]) rfl
  ·intro b' base' sz' C' hb' i j hi hj;have:(b',base',sz',C')=(b,base,sz,C):=by rw[show(G.raise b k (base+xs.length*sz)).blk k=G.blk k from rfl,hb]at hb';exact(Option.some.inj (Option.some.inj hb')).symm
   simp only[bQo]at this;obtain⟨rfl,rfl,rfl,rfl⟩:=this
   refine⟨dX hh,.inr ⟨hB,?_⟩⟩
   simp only[Gh.raise,if_true];have:i*sz'+sz'<=xs.length*sz':=by rw[<-bR9];exact bRv _ hi
   omega
 |loop fr ps la lb s l rec I N' hl hB hh hps ha hb hN hpN haN hbN hf hst hown=>
  have m:=jN.refl (aX B S G w.heap.size) G w;exact⟨G,fin G m rfl rfl rfl (fun _ _=>rfl) (fun b k' t hb=>⟨t,hb⟩) (fun _=> .loop fr ps la lb s l rec I N' hl hB hh hps ha hb hN hpN haN hbN hf hst hown),m,rfl,rfl,rfl,trivial⟩
 |iter s pos r hr hB hh hown=>
  have m:=jN.refl (aX B S G w.heap.size) G w;exact⟨G,fin G m rfl rfl rfl (fun _ _=>rfl) (fun b k' t hb=>⟨t,hb⟩) (fun _=> .iter s pos r hr hB hh hown),m,rfl,rfl,rfl,trivial⟩
 |full xs b base sz c hb hs hh ht ho hv=>
  have m:=jN.refl (aX B S G w.heap.size) G w
  refine⟨G,fin G m rfl rfl rfl (fun _ _=>rfl) (fun b k' t hb=>⟨t,hb⟩) (fun _=> .full xs b base sz c hb hs hh ht ho hv),m,rfl,rfl,rfl,?_⟩
  intro b' base' sz' C' hb' i j hi hj;have:(b',base',sz',C')=(b,base,sz,xs.length):=by rw[hb]at hb';exact(Option.some.inj (Option.some.inj hb')).symm
  simp only[bQo]at this;obtain⟨rfl,rfl,rfl,rfl⟩:=this;exact ht i j hi hj
 |map ks vs frz r es clock hr hB hh hkk hl hkv hvv hown=>
  have m:jN (aX B S G w.heap.size) G w (aX B S (G.disown r) w.heap.size) (G.disown r) w:=⟨fun _ _=>aGy,⟨fun _ _ e=>e,fun _ _ e=>e,fun _ _ e=>e⟩,fun _ _ _ _ e=>e,fun _ _ _ _ e=>e,fun _ _ e=>e,fun _ r e=>⟨r,e⟩⟩
  refine⟨G.disown r,fin _ m rfl rfl rfl (fun b' hb'=>?_) (fun b' k' t' hb'=>?_) ?_,m,rfl,rfl,rfl,?_⟩
  ·simp only[Gh.disown];split
   ·rename_i e;subst e;cases frz
    ·exact absurd ⟨0,hown⟩ hb'
    ·exact hown.symm
   ·rfl
  ·simp only[Gh.disown]at hb';split at hb'
   ·cases hb'
   ·exact⟨t',hb'⟩
  ·exact fun _=> .map ks vs true r es clock hr hB hh hkk hl (fun i hi=>(hkv i hi).mono m.none) (fun i hi=>(hvv i hi).mono m.none) (by simp[Gh.disown])
  ·intro b' hb';have:b'=r:=by rw[show(G.disown r).mp k=G.mp k from rfl,hr]at hb';exact(Option.some.inj hb').symm
   subst this;exact⟨dX hh,.inr ⟨hB,by simp[Gh.disown]⟩⟩
variable {T':Nat->Nat->Prop}
theorem Cov.mono (ht: ∀b o,T b o->T' b o)(hb:G'.box=G.box)(hk:G'.blk=G.blk)(hm:G'.mp=G.mp)(h:Cov T G k e):Cov T' G' k e:=by
 cases e with
 |box cs f=>intro b hb' j hj;rw[hb]at hb';exact ht _ _ (h b hb' j hj)
 |blk sz0 xs f=>intro b base sz C hb' i j hi hj;rw[hk]at hb';exact ht _ _ (h b base sz C hb' i j hi hj)
 |map ks vs f=>intro r hr;rw[hm]at hr;exact ht _ _ (h r hr)
 |loop=>trivial
 |iter=>trivial
theorem Rel.freezeAll (ks:List Key): ∀{G:Gh} {st:St},Rel P Ξ B S G st N a w->
  ∃G',Rel P Ξ B S G' {st with en:=W.applyAll st.en (ks.map .frz)} N a w/\ jN (aX B S G w.heap.size) G w (aX B S G' w.heap.size) G' w/\ G'.box=G.box/\ G'.blk=G.blk/\ G'.mp=G.mp/\
   ∀k∈ks,∀e,st.en k=some e->Cov (aX B S G' w.heap.size) G' k e:=by
 induction ks with
 |nil=>intro G st h;exact⟨G,h,jN.refl _ _ _,rfl,rfl,rfl,fun k hk=>by cases hk⟩
 |cons k ks ih=>
  intro G st h;have step: ∃G1,Rel P Ξ B S G1 {st with en:=W.apply st.en (.frz k)} N a w/\ jN (aX B S G w.heap.size) G w (aX B S G1 w.heap.size) G1 w/\ G1.box=G.box/\ G1.blk=G.blk/\ G1.mp=G.mp/\
    (∀e,st.en k=some e->Cov (aX B S G1 w.heap.size) G1 k e):=by
   cases he:st.en k with
   |none=>refine⟨G,?_,jN.refl _ _ _,rfl,rfl,rfl,fun e h=>by cases h⟩;simp only[W.apply,he];exact h
   |some e=>
    obtain⟨G1,h1,m1,e1,e2,e3,c1⟩:=h.freeze1 he
    refine⟨G1,?_,m1,e1,e2,e3,fun e' h=>by cases h;exact c1⟩
    simp only[W.apply,he];exact h1
  obtain⟨G1,h1,m1,e1,e2,e3,c1⟩:=step;obtain⟨G2,h2,m2,f1,f2,f3,c2⟩:=ih h1
  refine⟨G2,h2,m1.trans m2,f1.trans e1,f2.trans e2,f3.trans e3,fun k' hk' e he=>?_⟩
  rcases bRm.1 hk' with rfl|hk'
  ·exact(c1 e he).mono m2.t f1 f2 f3
  ·by_cases hkk:k'=k
   ·subst hkk;exact(c1 e he).mono m2.t f1 f2 f3
   ·refine c2 k' hk' e ?_
    simp only[W.apply];cases hk0:st.en k with
    |none=>exact he
    |some e0=>simp only[En.set,if_neg hkk];exact he
theorem fH {α β:Type}{f:α->Option β}: ∀{l:List α} {r:List β},cP f l=some r->r.length=l.length/\ ∀(i:Nat) (h:i<l.length) (h':i<r.length),f l[i]=some r[i]
 |[],r,h=>by simp only[cP,bQi]at h;subst h;exact⟨rfl,fun i h=>by simp at h⟩
 |x::xs,r,h=>by
  simp only[cP]at h
  split at h
  ·rename_i y hy
   split at h
   ·rename_i ys hys;simp only[bQi]at h;subst h;obtain⟨h1,h2⟩:=fH hys
    refine⟨by simp[h1],fun i hi hi'=>?_⟩
    cases i with
    |zero=>simpa using hy
    |succ i=>simpa using h2 i (by simpa using hi) (by simpa using hi')
   ·cases h
  ·cases h
variable {en:En}
theorem tU {vs:List Val}{rs:List (Val×List Key)}(h:cP (snap n en) vs=some rs):
  (rs.map (·.1)).length=vs.length/\ ∀i,i<vs.length-> ∃ks,snap n en (vs.getD i .dead)=some ((rs.map (·.1)).getD i .dead,ks)/\ ∀k∈ks,k∈rs.flatMap (·.2):=by
 obtain⟨h1,h2⟩:=fH h
 refine⟨by simp[h1],fun i hi=>?_⟩
 have hi':i<rs.length:=by omega
 refine⟨rs[i].2,?_,fun k hk=>bRx.2 ⟨rs[i],bQr hi',hk⟩⟩
 have:=h2 i hi hi';simp[bQn,hi,hi',this]
variable {xs:List Val}
theorem aD4 {x:Val}(h:xs[i]?=some x):i<xs.length/\ xs.getD i .dead=x:=by
 obtain⟨h1,h2⟩:=bT4.1 h;exact⟨h1,by simp[bQn,h1,h2]⟩
variable {len off:Nat}
theorem kW (hi:i<len)(h:off+len<=xs.length):((xs.drop off).take len).getD i .dead=xs.getD (off+i) .dead:=by
 simp only[bQn,List.getElem?_take,bTq,hi,if_true]
structure aW7 (T:Nat->Nat->Prop) (w:World) (xs:List Val) (b base sz:Nat):Prop where
 hs: ∀i,i<xs.length->(xs.getD i .dead).cells.length=sz
 h: ∀i j,i<xs.length->j<sz-> ∃c,w.cell? ⟨b,base+i*sz+j,.none⟩=some c/\ T b (base+i*sz+j)/\ fM c=true/\ VR T Gh.none w ((xs.getD i .dead).cells.getD j .dead) c
variable {frz:Bool}{sz0:Nat}
theorem ER.held (h:ER P B T G w k (.blk sz0 xs frz))(m:jN T G w T' G' w)
  (hb:G.blk k=some (some (b,base,sz,C))) (hc:Cov T' G k (.blk sz0 xs frz)) (hd:k.deep=false):aW7 T' w xs b base sz:=by
 cases h with
 |nul _ frz h=>exact⟨fun i hi=>by simp at hi,fun i j hi=>by simp at hi⟩
 |blk xs frz b1 base1 sz0 C1 thr c t hb1 hB hh hC hC' hs ho hv hown hthr=>
  rw[hb1]at hb;simp only[bQi,bQo]at hb;obtain⟨rfl,rfl,rfl,rfl⟩:=hb
  refine⟨hs,fun i j hi hj=>?_⟩
  have hlt:base1+i*sz0+j<c.size:=by
   have:i*sz0+sz0<=C1*sz0:=by rw[<-bR9];exact bRv _ (by omega)
   omega
  rw[Gh.at_none hd]at hv
  refine⟨c.getD (base1+i*sz0+j) undef,?_,hc _ _ _ _ hb1 i j hi hj,ho i j hi hj,(hv i j hi hj).mono m.none⟩
  rw[lZ hh];simp[bQy,hlt]
 |full xs b1 base1 sz0 c hb1 hs hh ht ho hv=>
  rw[hb1]at hb;simp only[bQi,bQo]at hb;obtain⟨rfl,rfl,rfl,rfl⟩:=hb;exact⟨hs,fun i j hi hj=>⟨c i j,hh i j hi hj,hc _ _ _ _ hb1 i j hi hj,ho i j hi hj,(hv i j hi hj).mono m.none⟩⟩
variable {cap:Nat}
theorem aW7.slice (h:aW7 T w xs b base sz)(hl:off+len<=xs.length)(hc:len<=cap):
  VR T G w (.fz ((xs.drop off).take len)) (.slice (some ⟨b,base+off*sz,.none⟩) len cap):=by
 have hlen:((xs.drop off).take len).length=len:=by simp;omega
 have hget: ∀i j,i<len->j<sz-> ∃c,w.cell? ⟨b,base+off*sz+i*sz+j,.none⟩=some c/\ T b (base+off*sz+i*sz+j)/\ fM c=true/\ VR T Gh.none w ((((xs.drop off).take len).getD i .dead).cells.getD j .dead) c:=by
  intro i j hi hj;have:=h.h (off+i) j (by omega) hj
  rw[kW hi hl];rw[show base+off*sz+i*sz+j=base+(off+i)*sz+j by rw[bR8];omega]
  exact this
 have h1: ∀i j,∃c,i<len->j<sz->w.cell? ⟨b,base+off*sz+i*sz+j,.none⟩=some c/\ T b (base+off*sz+i*sz+j)/\ fM c=true/\ VR T Gh.none w ((((xs.drop off).take len).getD i .dead).cells.getD j .dead) c:=by
  intro i j
  by_cases hi:i<len
  ·by_cases hj:j<sz
   ·obtain⟨c,hc⟩:=hget i j hi hj;exact⟨c,fun _ _=>hc⟩
   ·exact⟨undef,fun _ hj'=>absurd hj' hj⟩
  ·exact⟨undef,fun hi'=>absurd hi' hi⟩
 have h2:=fun i=>Classical.axiomOfChoice (h1 i)
 obtain⟨c,hc'⟩:=Classical.axiomOfChoice h2;have:=VR.fz (T:=T) (G:=G) (w:=w) ((xs.drop off).take len) b (base+off*sz) sz cap c (by rw[hlen];exact hc)
  (fun i hi=>by rw[hlen]at hi;rw[kW hi hl];exact h.hs _ (by omega))
  (fun i j hi hj=>by rw[hlen]at hi;exact(hc' i j hi hj).1) (fun i j hi hj=>by rw[hlen]at hi;exact(hc' i j hi hj).2.1)
  (fun i j hi hj=>by rw[hlen]at hi;exact(hc' i j hi hj).2.2.1) (fun i j hi hj=>by rw[hlen]at hi;exact(hc' i j hi hj).2.2.2)
 rwa [hlen]at this
theorem aW7.elem (h:aW7 T w xs b base sz){x:Val}(hx:xs[i]?=some x):
  VR T G w (.fp x.cells off) (.pointer (some ⟨b,base+i*sz+off,.none⟩)):=by
 obtain⟨hi,hx'⟩:=aD4 hx;have hl:=h.hs i hi;rw[hx']at hl;have h1: ∀j,∃c,j<sz->w.cell? ⟨b,base+i*sz+j,.none⟩=some c/\ T b (base+i*sz+j)/\ fM c=true/\ VR T Gh.none w (x.cells.getD j .dead) c:=by
  intro j
  by_cases hj:j<sz
  ·obtain⟨c,hc⟩:=h.h i j hi hj;rw[hx']at hc;exact⟨c,fun _=>hc⟩
  ·exact⟨undef,fun hj'=>absurd hj' hj⟩
 obtain⟨c,hc⟩:=Classical.axiomOfChoice h1;exact .fp x.cells off b (base+i*sz) c (fun j hj=>(hc j (by omega)).1) (fun j hj=>(hc j (by omega)).2.1) (fun j hj=>(hc j (by omega)).2.2.1) (fun j hj=>(hc j (by omega)).2.2.2)
theorem ER.deep_cell (h:ER P B T G w k (.blk sz0 xs frz))
  (hb:G.blk k=some (some (b,base,sz,C))) (hc:Cov T' G k (.blk sz0 xs frz))  (hi:i<xs.length):
  (xs.getD i .dead).cells.length=sz/\ ∀j,j<sz-> ∃c,w.cell? ⟨b,base+i*sz+j,.none⟩=some c/\ T' b (base+i*sz+j)/\ fM c=true/\ VR T G w ((xs.getD i .dead).cells.getD j .dead) c:=by
 cases h with
 |nul _ frz h=>simp at hi
 |blk xs frz b1 base1 sz0 C1 thr c t hb1 hB hh hC hC' hs ho hv hown hthr=>
  rw[hb1]at hb;simp only[bQi,bQo]at hb;obtain⟨rfl,rfl,rfl,rfl⟩:=hb
  refine⟨hs i hi,fun j hj=>?_⟩
  have hlt:base1+i*sz0+j<c.size:=by
   have:i*sz0+sz0<=C1*sz0:=by rw[<-bR9];exact bRv _ (by omega)
   omega
  refine⟨c.getD (base1+i*sz0+j) undef,?_,hc _ _ _ _ hb1 i j hi hj,ho i j hi hj,(hv i j hi hj).out⟩
  rw[lZ hh];simp[bQy,hlt]
 |full xs b1 base1 sz0 c hb1 hs hh ht ho hv=>
  rw[hb1]at hb;simp only[bQi,bQo]at hb;obtain⟨rfl,rfl,rfl,rfl⟩:=hb;exact⟨hs i hi,fun j hj=>⟨c i j,hh i j hi hj,hc _ _ _ _ hb1 i j hi hj,ho i j hi hj,(hv i j hi hj).into _⟩⟩
theorem aZt {x:Val}{o:Nat}(hl:x.cells.length=sz)(h: ∀j,j<sz-> ∃c,w.cell? ⟨b,o+j,.none⟩=some c/\ fM c=true/\ VR T G w (x.cells.getD j .dead) c):
  ∃u:Value,u.cells.size=sz/\ (∀j,j<sz->w.cell? ⟨b,o+j,.none⟩=some (u.cells.getD j undef))/\ VR T G w x u/\ ∀y,u≠ .tuple y:=by
 by_cases hx: ∃cs,x= .agg cs
 ·obtain⟨cs,rfl⟩:=hx;simp only[Val.cells]at hl h;have h1: ∀j,∃c,j<sz->w.cell? ⟨b,o+j,.none⟩=some c/\ fM c=true/\ VR T G w (cs.getD j .dead) c:=fun j=>by
   by_cases hj:j<sz
   ·obtain⟨c,hc⟩:=h j hj;exact⟨c,fun _=>hc⟩
   ·exact⟨undef,fun h=>absurd h hj⟩
  obtain⟨c,hc⟩:=Classical.axiomOfChoice h1;have hg: ∀j,j<sz->((Array.range sz).map c).getD j undef=c j:=fun j hj=>by simp[bQy,hj]
  refine⟨.agg ((Array.range sz).map c),by simp[Value.cells],fun j hj=>?_,.agg cs _ (by simp[hl]) (fun j hj=>?_) (fun j hj=>?_),fun y=>by simp⟩
  ·simp only[Value.cells];rw[hg j hj];exact(hc j hj).1
  ·rw[hg j (by omega)];exact(hc j (by omega)).2.1
  ·rw[hg j (by omega)];exact(hc j (by omega)).2.2
 ·have hx1:x.cells=[x]:=by cases x<;>first|rfl|exact absurd ⟨_,rfl⟩ hx
  rw[hx1]at hl h;simp only[bQu,bQz,bRg]at hl;subst hl;obtain⟨c,h1,h2,h3⟩:=h 0 (by omega)
  simp only[bTi]at h3;have hc:c.cells= #[c]:=by cases c<;>first|rfl|simp[fM]at h2
  refine⟨c,by rw[hc];rfl,fun j hj=>?_,h3,fun y hy=>by subst hy;simp[fM]at h2⟩
  obtain rfl:j=0:=by omega
  rw[hc];exact h1
theorem VR.wk0 (h:VR T G w v x):VR T G w v.wk0 x:=by
 cases h with
 |cl0 p=>exact .fz0 p 0
 |cl xs b off sz c hs h ht ho hv=>exact .fz xs b off sz _ c (bQk _) hs h ht ho hv
 |_=>first|assumption|(constructor<;>assumption)
theorem aZu (cs:List Val)(i:Nat):(cs.map Val.wk0).getD i .dead=(cs.getD i .dead).wk0:=by
 simp only[bQn,List.getElem?_map];cases cs[i]?<;>rfl
theorem aD5 (cs:List Val)(i:Nat):(cs.map Val.wk1).getD i .dead=(cs.getD i .dead).wk1:=by
 simp only[bQn,List.getElem?_map];cases cs[i]?<;>rfl
theorem VR.wk1 (h:VR T G w v x):VR T G w v.wk1 x:=by
 cases v with
 |agg cs=>
  cases h with
  |agg _ us h ho hv=>exact .agg _ us (by simpa using h) (fun i hi=>ho i (by simpa using hi)) (fun i hi=>by rw[aZu];exact(hv i (by simpa using hi)).wk0)
 |_=>exact h.wk0
theorem ER.deep_held {ys:List Val}(h:ER P B T G w k (.blk sz0 xs frz))
  (hb:G.blk k=some (some (b,base,sz,C))) (hc:Cov T' G k (.blk sz0 xs frz)) (hle:off+len<=xs.length) (hy:ys.length=len)
  (he: ∀i,i<len-> ∀u,VR T G w (xs.getD (off+i) .dead) u->VR T' Gh.none w (ys.getD i .dead) u) (hcap:len<=cap):
  VR T' Gh.none w (.fz ys) (.slice (some ⟨b,base+off*sz,.none⟩) len cap):=by
 have key: ∀i,i<len-> ∃u:Value,u.cells.size=sz/\ (∀j,j<sz->w.cell? ⟨b,base+off*sz+i*sz+j,.none⟩=some (u.cells.getD j undef)/\ T' b (base+off*sz+i*sz+j))/\ VR T' Gh.none w (ys.getD i .dead) u/\ ∀y,u≠ .tuple y:=by
  intro i hi;obtain⟨h1,h2⟩:=h.deep_cell hb hc (i:=off+i) (by omega)
  have e0: ∀j,base+off*sz+i*sz+j=base+(off+i)*sz+j:=fun j=>by rw[bR8];omega
  obtain⟨u,u1,u2,u3,u4⟩:=aZt (b:=b) (o:=base+(off+i)*sz) h1 fun j hj=>let ⟨c,c1,_,c3,c4⟩:=h2 j hj;⟨c,c1,c3,c4⟩
  refine⟨u,u1,fun j hj=>?_,he i hi u u3,u4⟩
  rw[e0];exact⟨u2 j hj,let ⟨_,_,c2,_⟩:=h2 j hj;c2⟩
 have hH:aW7 T' w ys b (base+off*sz) sz:=by
  refine⟨fun i hi=>?_,fun i j hi hj=>?_⟩<;>rw[hy]at hi<;>obtain⟨u,u1,u2,u3,u4⟩:=key i hi
  ·have ht: ∀vs,ys.getD i .dead≠ .tup vs:=by
    intro vs hvs;rw[hvs]at u3;cases u3 with
    |tup _ y=>exact u4 _ rfl
   rw[<-(u3.cells ht).1,u1]
  ·have ht: ∀vs,ys.getD i .dead≠ .tup vs:=by
    intro vs hvs;rw[hvs]at u3;cases u3 with
    |tup _ y=>exact u4 _ rfl
   obtain⟨c1,c2,c3⟩:=u3.cells ht;rw[u1]at c1;exact⟨_,(u2 j hj).1,(u2 j hj).2,c2 j (by omega),c3 j (by omega)⟩
 have:=hH.slice (G:=Gh.none) (off:=0) (len:=len) (cap:=cap) (by omega) hcap
 rw[Nat.zero_mul,bR5,bSm,bQ3 (by omega)]at this
 exact this
theorem yC (hents: ∀k e,en k=some e->G.knows k->ER P B T G w k e)(m:jN T G w T' G w)(n:Nat):
  ∀{v:Val} {x:Value} {v':Val} {ks:List Key},VR T G w v x->snap n en v=some (v',ks)->(∀k∈ks,∀e,en k=some e->Cov T' G k e)->VR T' Gh.none w v' x:=by
 have m0:jN T Gh.none w T' Gh.none w:=m.none
 induction n with
 |zero=>
  intro v x v' ks hv hs hc;have key:(∀cs,v≠ .agg cs)/\ (∀cs,v≠ .tup cs)/\ v'= .dead:=by
   cases v<;>simp only[snap,bQi,bQo,reduceCtorEq]at hs<;>exact⟨fun _=>by simp,fun _=>by simp,hs.1.symm⟩
  rw[key.2.2];exact .dead x (hv.one key.1 key.2.1)
 |succ n ih=>
  intro v x v' ks hv hs hc;have lists: ∀{vs:List Val} {rs:List (Val×List Key)} {xs:Nat->Value},cP (snap n en) vs=some rs->(∀i,i<vs.length->VR T G w (vs.getD i .dead) (xs i))->
    (∀k∈rs.flatMap (·.2),∀e,en k=some e->Cov T' G k e)->(rs.map (·.1)).length=vs.length/\ ∀i,i<vs.length->VR T' Gh.none w ((rs.map (·.1)).getD i .dead) (xs i):=by
   intro vs rs xs h1 h2 h3;obtain⟨h4,h5⟩:=tU h1
   refine⟨h4,fun i hi=>?_⟩
   obtain⟨ks',h6,h7⟩:=h5 i hi;exact ih (h2 i hi) h6 fun k hk=>h3 k (h7 k hk)
  cases hv with
  |yld k l h=>simp only[snap]at hs;cases hs
  |it k r h=>simp only[snap]at hs;cases hs
  |ptr k off b h=>
   simp only[snap]at hs
   split at hs
   ·rename_i cs f he;simp only[Option.map_map,bQw,Function.comp]at hs;obtain⟨rs,hrs,hh⟩:=hs;simp only[bQo]at hh;obtain⟨rfl,rfl⟩:=hh;have hE:=hents k _ he (Gh.knows_box h);have hcov:=hc k (by simp) _ he
    cases hE with
    |box cs frz b' c t hb hB hh' hsz ho hv hown=>
     rw[h]at hb;simp only[bQi]at hb;subst hb;obtain⟨l1,l2⟩:=lists (xs:=fun j=>c.getD j undef) hrs hv fun k' hk'=>hc k' (by simp at hk'⊢;exact .inr hk')
     have:=VR.fp (T:=T') (G:=Gh.none) (w:=w) (rs.map (·.1)) off b 0 (fun j=>c.getD j undef)
      (fun j hj=>by rw[l1]at hj;rw[lZ hh',bRg];simp[show j<c.size by omega])
      (fun j hj=>by rw[l1]at hj;rw[bRg];exact hcov b h j hj) (fun j hj=>by rw[l1]at hj;exact ho j hj) (fun j hj=>by rw[l1]at hj;exact l2 j hj)
     rwa [bRg]at this
   ·cases hs
  |ep k i off b base sz C h hi=>
   simp only[snap]at hs
   split at hs
   ·rename_i sz0 xs f he
    split at hs
    ·cases hs
    rename_i hd
    split at hs
    ·rename_i y hy;simp only[bQi,bQo]at hs;obtain⟨rfl,rfl⟩:=hs;exact((hents k _ he (Gh.knows_blk h)).held m h (hc k (by simp) _ he) (by simpa using hd)).elem hy
    ·cases hs
   ·cases hs
  |bl0 k a h=>
   simp only[snap]at hs
   split at hs
   ·split at hs
    ·split at hs
     ·simp only[bQq,cP,bRd,bQ1,bSn,bQi,bQo]at hs;obtain⟨rfl,rfl⟩:=hs;exact .fz0 a 0
     simp only[bQi,bQo]at hs;obtain⟨rfl,rfl⟩:=hs;simp only[bQq];exact .fz0 a 0
    ·cases hs
   ·cases hs
  |bl k off len b base sz C h hl=>
   simp only[snap]at hs
   split at hs
   ·rename_i sz0 xs f he
    split at hs
    ·rename_i hle
     split at hs
     ·simp only[Option.map_map,bQw,Function.comp]at hs;obtain⟨rs,hrs,hh⟩:=hs;simp only[bQo]at hh;obtain⟨rfl,rfl⟩:=hh;have hlen:((xs.drop off).take len).length=len:=by simp;omega
      obtain⟨q1,q2⟩:=tU hrs;rw[hlen]at q1 q2;exact(hents k _ he (Gh.knows_blk h)).deep_held h (hc k (by simp) _ he) hle (by rw[bQl];exact q1) (fun i hi u hu=>by
       obtain⟨ks',q3,q4⟩:=q2 i hi;rw[kW hi hle]at q3;rw[aD5];exact(ih hu q3 fun k' hk'=>hc k' (bSo _ (q4 k' hk'))).wk1) (by omega)
     ·rename_i hd;simp only[bQi,bQo]at hs;obtain⟨rfl,rfl⟩:=hs;exact((hents k _ he (Gh.knows_blk h)).held m h (hc k (by simp) _ he) (by simpa using hd)).slice hle (by omega)
    ·cases hs
   ·cases hs
  |ble k a b base sz C h=>
   simp only[snap]at hs
   split at hs
   ·split at hs
    ·split at hs
     ·simp only[bQq,cP,bRd,bQ1,bSn,bQi,bQo]at hs;obtain⟨rfl,rfl⟩:=hs;exact .fz0 a 0
     simp only[bQi,bQo]at hs;obtain⟨rfl,rfl⟩:=hs;simp only[bQq];exact .fz0 a 0
    ·cases hs
   ·cases hs
  |mp k r h=>
   simp only[snap]at hs
   split at hs
   ·rename_i ks' vs' f he;simp only[bQi,bQo]at hs;obtain⟨rfl,rfl⟩:=hs;have hcov:=hc k (by simp) _ he
    have hE:=hents k _ he (Gh.knows_mp h);cases hE with
    |map ks vs frz r' es clock hr hB hh hk hl hkv hvv hown=>
     rw[h]at hr;simp only[bQi]at hr;subst hr;exact .fm _ _ r es clock hh (hcov r h) hk hl (fun i hi=>(hkv i hi).mono m0) (fun i hi=>(hvv i hi).mono m0)
   ·cases hs
  |fn f a b x y ha hb hx hy=>
   simp only[snap]at hs
   split at hs
   ·rename_i r1 r2 h1 h2;simp only[bQw]at h1 h2;obtain⟨rs1,hr1,rfl⟩:=h1;obtain⟨rs2,hr2,rfl⟩:=h2;simp only[bQi,bQo]at hs;obtain⟨rfl,rfl⟩:=hs;obtain⟨l1,l2⟩:=lists (xs:=fun j=>x.getD j undef) hr1 hx fun k' hk'=>hc k' (bSu _ hk')
    obtain⟨l3,l4⟩:=lists (xs:=fun j=>y.getD j undef) hr2 hy fun k' hk'=>hc k' (bSe _ hk')
    exact .fn f _ _ x y (ha.trans l1.symm) (hb.trans l3.symm) (fun i hi=>l2 i (by omega)) (fun i hi=>l4 i (by omega))
   ·cases hs
  |ifc t u x h=>
   simp only[snap,bQw]at hs;obtain⟨r,hr,hh⟩:=hs;simp only[bQo]at hh;obtain⟨rfl,rfl⟩:=hh;exact .ifc t _ x (ih h hr hc)
  |agg cs x h ho hv=>
   simp only[snap,Option.map_map,bQw,Function.comp]at hs;obtain⟨rs,hr,hh⟩:=hs;simp only[bQo]at hh;obtain⟨rfl,rfl⟩:=hh;obtain⟨l1,l2⟩:=lists (xs:=fun j=>x.getD j undef) hr hv hc
   exact .agg _ x (h.trans l1.symm) (fun i hi=>ho i (by omega)) (fun i hi=>l2 i (by omega))
  |tup vs x h hv=>
   simp only[snap,Option.map_map,bQw,Function.comp]at hs;obtain⟨rs,hr,hh⟩:=hs;simp only[bQo]at hh;obtain⟨rfl,rfl⟩:=hh;obtain⟨l1,l2⟩:=lists (xs:=fun j=>x.getD j undef) hr hv hc
   exact .tup _ x (h.trans l1.symm) (fun i hi=>l2 i (by omega))
  |dead x h=>simp only[snap,bQi,bQo]at hs;obtain⟨rfl,rfl⟩:=hs;exact .dead x h
  |bool b=>simp only[snap,bQi,bQo]at hs;obtain⟨rfl,rfl⟩:=hs;exact .bool b
  |int k n=>simp only[snap,bQi,bQo]at hs;obtain⟨rfl,rfl⟩:=hs;exact .int k n
  |str s=>simp only[snap,bQi,bQo]at hs;obtain⟨rfl,rfl⟩:=hs;exact .str s
  |nilp=>simp only[snap,bQi,bQo]at hs;obtain⟨rfl,rfl⟩:=hs;exact .nilp
  |fp cs off b base c h ht ho hv=>simp only[snap,bQi,bQo]at hs;obtain⟨rfl,rfl⟩:=hs;exact(VR.fp cs off b base c h ht ho hv).mono m0
  |fz0 a cap=>simp only[snap,bQi,bQo]at hs;obtain⟨rfl,rfl⟩:=hs;exact .fz0 a cap
  |fz xs b off sz cap c hc' hs' h ht ho hv=>simp only[snap,bQi,bQo]at hs;obtain⟨rfl,rfl⟩:=hs;exact(VR.fz xs b off sz cap c hc' hs' h ht ho hv).mono m0
  |cl0 a=>simp only[snap,bQi,bQo]at hs;obtain⟨rfl,rfl⟩:=hs;exact .cl0 a
  |cl xs b off sz c hs' h ht ho hv=>simp only[snap,bQi,bQo]at hs;obtain⟨rfl,rfl⟩:=hs;exact(VR.cl xs b off sz c hs' h ht ho hv).mono m0
  |nilm=>simp only[snap,bQi,bQo]at hs;obtain⟨rfl,rfl⟩:=hs;exact .nilm
  |fm ks vs r es clock h ht hk hl hkv hvv=>simp only[snap,bQi,bQo]at hs;obtain⟨rfl,rfl⟩:=hs;exact(VR.fm ks vs r es clock h ht hk hl hkv hvv).mono m0
  |nilf=>simp only[snap,bQi,bQo]at hs;obtain⟨rfl,rfl⟩:=hs;exact .nilf
  |nili=>simp only[snap,bQi,bQo]at hs;obtain⟨rfl,rfl⟩:=hs;exact .nili
  |es a cap=>simp only[snap,bQi,bQo]at hs;obtain⟨rfl,rfl⟩:=hs;exact .es a cap
end Go.Abs
namespace Go.Abs
open Go.RowKit (Below)
theorem tV : ∀{s:List CT} {a c:List Val} (s':List CT) (b d:List Val),a.length=s.length->c.length=s.length->
  jJ (s++s') (a++b) (c++d)=(match jJ s a c with|some true=>jJ s' b d|r=>r)
 |[],[],[],s',b,d,_,_=>by simp[jJ]
 |t::s,x::a,y::c,s',b,d,h,h'=>by
  simp only[bS2,jJ];cases yB t x y with
  |none=>rfl
  |some t=>cases t with
   |false=>rfl
   |true=>exact tV s' b d (by simpa using h) (by simpa using h')
 |[],_::_,_,_,_,_,h,_=>by simp at h
 |[],[],_::_,_,_,_,_,h=>by simp at h
 |_::_,[],_,_,_,_,h,_=>by simp at h
 |_::_,_::_,[],_,_,_,_,h=>by simp at h
variable {G:Gh}{T:Nat->Nat->Prop}{v:Val}{w:World}{x:Value}
theorem VR.not_agg (h:VR T G w v x)(ho:fM x=true): ∀cs,v≠ .agg cs:=by
 rintro cs rfl;cases h;cases ho
variable {P:Program}{t:TypeId}
theorem aBl (h:P.underlying t≠none):(isAgg t).run P w= .ok (cY P t) w:=by
 obtain⟨d,hd⟩:=Option.ne_none_iff_exists'.1 h;simp only[isAgg,Sem.run_bind,run_underlying hd,Result.andThen_ok,cY,hd];cases d<;>rfl
theorem aFv (h:P.cellsOf t≠0): ∃i,P.info? t=some i:=by
 simp only[Program.cellsOf]at h;cases hi:P.info? t with
 |none=>simp[hi]at h
 |some i=>exact⟨i,rfl⟩
theorem fC {i:TypeInfo}(h:P.info? t=some i):(sizeOf t).run P w= .ok (P.cellsOf t) w:=by
 simp[sizeOf,typeInfo,h,Program.cellsOf]
theorem lJ {d:TypeDesc}(h:P.underlying t=some d): ∃i,P.info? t=some i:=by
 cases hi:P.info? t with
 |none=>simp[Program.underlying,hi]at h
 |some i=>exact⟨i,rfl⟩
theorem aQo (h:cY P t=true): ∃d,P.underlying t=some d:=by
 unfold cY at h;split at h
 ·exact⟨_,by assumption⟩
 ·exact⟨_,by assumption⟩
 ·cases h
variable {n off:Nat}{us:Array Value}
theorem aIz {zs:List Val}(ha:cY P t=true)(hn:P.cellsOf t=n)(hl:off+n<=zs.length)
  (hus:us.size=zs.length) (hon: ∀i,i<zs.length->fM (us.getD i undef)=true) (hvs: ∀i,i<zs.length->VR T G w (zs.getD i .dead) (us.getD i undef)):
  ∃u,(part t us off).run P w= .ok u w/\ VR T G w (.agg ((zs.drop off).take n)) u:=by
 obtain⟨d,hd⟩:=aQo ha;obtain⟨i,hi⟩:=lJ hd
 refine⟨.agg (us.extract off (off+n)),?_,?_⟩
 ·simp only[part,Sem.run_bind,aBl (P:=P) (t:=t) (w:=w) (by rw[hd];simp),ha,Result.andThen_ok,if_true,fC hi,hn,Sem.run_pure]
 ·have hlen:((zs.drop off).take n).length=n:=by simp;omega
  have hget: ∀i,i<n->(us.extract off (off+n)).getD i undef=us.getD (off+i) undef:=by
   intro i hi;simp only[bQy,Array.getElem?_extract];rw[if_pos (by omega)]
  refine .agg _ _ (by simp;omega) (fun i hi=>?_) (fun i hi=>?_)
  ·rw[hlen]at hi;rw[hget i hi];exact hon _ (by omega)
  ·rw[hlen]at hi;rw[hget i hi,kW hi hl];exact hvs _ (by omega)
theorem aI0 (ha:cY P t=false)(hl:off<us.size)(hu:P.underlying t≠none:=by assumption):
  (part t us off).run P w= .ok (us.getD off undef) w:=by
 simp only[part,Sem.run_bind,aBl hu,ha,Result.andThen_ok,bQm,if_false];simp[hl]
variable {k:Nat}{m:List CT}
theorem aGz (hm:gC P k t=some m):P.cellsOf t=m.length:=by
 cases k with
 |zero=>simp[gC]at hm
 |succ k=>
  simp only[gC]at hm
  split at hm
  ·split at hm<;>simp only[bQi,reduceCtorEq]at hm;subst hm;assumption
  ·split at hm<;>simp only[bQi,reduceCtorEq]at hm;subst hm;assumption
  ·split at hm<;>simp only[bQi,reduceCtorEq]at hm;subst hm;assumption
  ·split at hm
   ·cases hm
   ·split at hm
    ·split at hm
     ·simp only[bQi]at hm;subst hm;assumption
     ·cases hm
    ·cases hm
  ·split at hm
   ·split at hm
    ·rename_i h;simp only[bQi]at hm;subst hm;rw[h];simp
    ·cases hm
   ·cases hm
  ·cases hm
theorem aI1 (hm:gC P k t=some m):P.underlying t≠none:=by
 intro h0;cases k with
 |zero=>simp[gC]at hm
 |succ k=>simp[gC,h0]at hm
theorem aW8 (hm:gC P k t=some m)(ha:cY P t=false):m.length=1:=by
 cases k with
 |zero=>simp[gC]at hm
 |succ k=>
  simp only[gC]at hm
  split at hm
  ·split at hm<;>simp only[bQi,reduceCtorEq]at hm;subst hm;rfl
  ·split at hm<;>simp only[bQi,reduceCtorEq]at hm;subst hm;rfl
  ·split at hm<;>simp only[bQi,reduceCtorEq]at hm;subst hm;rfl
  ·rename_i hs';simp[cY,hs']at ha
  ·rename_i hs';simp[cY,hs']at ha
  ·cases hm
theorem aC0 (hm:gC P k t=some m)(zs:List Val)(us:Array Value)(hcount:off+m.length<=zs.length)
  (hus:us.size=zs.length) (hon: ∀i,i<zs.length->fM (us.getD i undef)=true) (hvs: ∀i,i<zs.length->VR T G w (zs.getD i .dead) (us.getD i undef)):
  ∃z u,(part t us off).run P w= .ok u w/\ VR T G w z u/\ z.cells=(zs.drop off).take m.length/\ (cY P t=true-> ∃cs,z= .agg cs)/\ (cY P t=false-> ∀cs,z≠ .agg cs):=by
 cases ha:cY P t with
 |true=>
  obtain⟨u,pu,vu⟩:=aIz (w:=w) (off:=off) ha (aGz hm) hcount hus hon hvs;exact⟨_,u,pu,vu,rfl,fun _=>⟨_,rfl⟩,fun h=>by cases h⟩
 |false=>
  have hm1:=aW8 hm ha;have hlt:off<zs.length:=by omega
  have hna: ∀cs,zs.getD off .dead≠ .agg cs:=VR.not_agg (hvs _ hlt) (hon _ hlt)
  refine⟨zs.getD off .dead,us.getD off undef,aI0 ha (by omega) (aI1 hm),hvs _ hlt,?_,(fun h=>by cases h),fun _=>hna⟩
  have:(zs.drop off).take m.length=[zs.getD off .dead]:=by
   rw[hm1,bRt hlt,bQs,bQq];simp[bQn,hlt]
  rw[this];generalize zs.getD off .dead=z at hna;cases z<;>first|rfl|exact absurd rfl (hna _)
theorem aW9 {a:TypeId}(h:aTp P a t=true):P.alikeButTags (n+1) a t=false:=by
 simp only[aTp,bQj,bne_iff_ne,ne_eq]at h;obtain⟨h1,h2⟩:=h;have h1':(a==t)=false:=by simpa using h1
 split at h2
 ·rename_i fs gs e1 e2;simp only[Program.alikeButTags,h1',e1,e2,bRf]
  by_cases hz:fs.size=gs.size
  ·simp only[hz,bne_self_eq_false,bRf]at h2
   split at h2
   ·rename_i f fl g gl e3 e4;rw[bTj];right;rw[<-Array.all_toList,Array.toList_zip,e3,e4];simp only[List.zip_cons_cons,bSs];have:(f.name==g.name)=false:=by simpa using h2
    simp[this]
   ·cases h2
  ·simp[hz]
 ·rename_i x gs hx e1 e2;simp only[Program.alikeButTags,h1',e1,e2,bRf]
  split<;>first|rfl|(simp_all;done)
 ·cases h2
theorem aZv (h:aZo P t=false):P.stoodInHeld t=false:=by
 have h0: ∀c∈P.cutTypes.toList,P.alikeButTags P.depth (P.underlyingId c.2) (P.underlyingId t)=false:=by
  intro c hc;have:=(List.any_eq_false.1 h) c hc;exact aW9 (n:=2*(P.types.size+Made.depth)+1) (by simpa using this)
 unfold Program.stoodInHeld Program.stoodInAs;split
 ·rw[List.filter_eq_nil_iff.2 (fun c hc=>by simp[h0 c hc])];rfl
 ·rfl
theorem aD6 {f:TypeId->Option (List CT)}: ∀{l:List Field} {a b:List CT},rK f l a=some b-> ∀x∈l,∃m,f x.type=some m
 |[],_,_,_,x,hx=>by cases hx
 |y::l,a,b,h,x,hx=>by
  simp only[rK]at h
  split at h
  ·split at h
   ·rename_i m hm;rcases bRm.1 hx with rfl|hx
    ·exact⟨m,hm⟩
    ·exact aD6 h x hx
   ·cases h
  ·cases h
theorem aAc {P:Program}: ∀(k:Nat) {t:TypeId} {l:List CT},gC P k t=some l-> ∀{d:Nat},k<=d->P.eqGuardType d t=false
 |0,t,l,h,_,_=>by simp[gC]at h
 |k+1,t,l,h,d,hd=>by
  obtain⟨d,rfl⟩: ∃m,d=m+1:=⟨d-1,by omega⟩
  simp only[gC]at h;unfold Program.eqGuardType
  split at h
  all_goals first|(cases h;done)|skip
  all_goals rename_i hu
  all_goals simp only[hu]
  ·split at h
   ·cases h
   ·split at h
    ·rename_i hf;rw[<-Array.any_toList,List.any_eq_false];intro x hx;obtain⟨m,hm⟩:=aD6 hf x hx;simp[aAc k hm (d:=d) (by omega)]
    ·cases h
  ·split at h
   ·rename_i hm;exact aAc k hm (by omega)
   ·cases h
theorem aZw (k:Nat): ∀(t:TypeId) (l:List CT),gC P k t=some l-> ∀(d:Nat),k<=d-> ∀{x y:Val} {u v:Value} {r:Bool},
  VR T G w x u->VR T G w y v->x.cells.length=l.length->y.cells.length=l.length->(cY P t=true->(∃cs,x= .agg cs)/\ ∃ds,y= .agg ds)->(cY P t=false->(∀cs,x≠ .agg cs)/\ (∀ds,y≠ .agg ds))->
  jJ l x.cells y.cells=some r->(Op.equalIn d t u v).run P w= .ok r w:=by
 induction k with
 |zero=>intro t l h;simp[gC]at h
 |succ k ih=>
  intro t l h d hd x y u v r hx hy hlx hly hagg hnagg he;obtain⟨d,rfl⟩: ∃m,d=m+1:=⟨d-1,by omega⟩
  have scalar: ∀{ct:CT},l=[ct]->cY P t=false-> ∃r',yB ct x y=some r'/\ r'=r:=by
   intro ct hl ha;have hx1:=hnagg ha;have hcx:x.cells=[x]:=by cases x<;>first|rfl|exact absurd rfl (hx1.1 _)
   have hcy:y.cells=[y]:=by cases y<;>first|rfl|exact absurd rfl (hx1.2 _)
   rw[hl,hcx,hcy]at he;simp only[jJ]at he
   split at he
   ·rename_i h1;exact⟨true,h1,by simpa using he⟩
   ·rename_i h1;exact⟨false,h1,by simpa using he⟩
   ·cases he
  simp only[gC]at h
  split at h
  ·rename_i kk hu
   split at h
   ·simp only[bQi]at h;obtain⟨r',h1,rfl⟩:=scalar h.symm (by simp[cY,hu])
    cases hx<;>cases hy<;>simp only[yB,reduceCtorEq]at h1
    rename_i k1 n1 k2 n2
    split at h1
    ·rename_i e;subst e;simp only[bQi]at h1;subst h1;exact run_equalIn_int w d t _ _ _ _ hu
    ·cases h1
   ·cases h
  ·rename_i hu
   split at h
   ·simp only[bQi]at h;obtain⟨r',h1,rfl⟩:=scalar h.symm (by simp[cY,hu])
    cases hx<;>cases hy<;>simp only[yB,reduceCtorEq]at h1
    simp only[bQi]at h1;subst h1;exact run_equalIn_bool' w d t _ _ hu
   ·cases h
  ·rename_i hu
   split at h
   ·simp only[bQi]at h;obtain⟨r',h1,rfl⟩:=scalar h.symm (by simp[cY,hu])
    cases hx<;>cases hy<;>simp only[yB,reduceCtorEq]at h1
    simp only[bQi]at h1;subst h1;exact run_equalIn_string w d t _ _ hu
   ·cases h
  ·rename_i fs hu
   split at h
   ·cases h
   ·rename_i hst
    split at h
    ·rename_i l' hl'
     split at h
     ·rename_i hcells;simp only[bQi]at h;subst h;obtain⟨⟨cs,rfl⟩,⟨ds,rfl⟩⟩:=hagg (by simp[cY,hu])
      cases hx with
      |agg _ xs hxs hox hvx=>
      cases hy with
      |agg _ ys hys hoy hvy=>
      simp only[Val.cells]at hlx hly he;have hfo:P.fieldsOf t=fs:=by simp[Program.fieldsOf,hu]
      rw[run_equalIn_agg w d t xs ys (by rw[hfo];exact hu) (aZv (by simpa using hst)),hfo]
      have key: ∀(fl:List Field) (done:List CT),rK (gC P k) fl done=some l'-> ∀r,jJ (l'.drop done.length) (cs.drop done.length) (ds.drop done.length)=some r->
        (Op.eqFields d xs ys fl).run P w= .ok r w:=by
       intro fl
       induction fl with
       |nil=>
        intro done h1 r h2;simp only[rK,bQi]at h1;subst h1;have e1:cs.drop done.length=[]:=by simp;omega
        have e2:ds.drop done.length=[]:=by simp;omega
        have e3:done.drop done.length=[]:=by simp
        rw[e1,e2,e3]at h2;simp only[jJ,bQi]at h2;subst h2;simp[Op.eqFields]
       |cons f fl ihf=>
        intro done h1 r h2;simp only[rK]at h1
        split at h1
        ·rename_i hf
         split at h1
         ·rename_i m hm;have hpre: ∃rest,l'=done++m++rest:=by
           have: ∀(fl:List Field) (a b:List CT),rK (gC P k) fl a=some b-> ∃r,b=a++r:=by
            intro fl
            induction fl with
            |nil=>intro a b h;simp only[rK,bQi]at h;exact⟨[],by simp[h]⟩
            |cons g fl ig=>
             intro a b h;simp only[rK]at h
             split at h
             ·split at h
              ·obtain⟨r,hr⟩:=ig _ _ h;exact⟨_,by rw[hr,List.append_assoc]⟩
              ·cases h
             ·cases h
           exact this _ _ _ h1
          obtain⟨rest,hrest⟩:=hpre;have hml:done.length+m.length<=l'.length:=by rw[hrest];simp
          have d1:l'.drop done.length=m++l'.drop (done++m).length:=by rw[hrest];simp
          have d2: ∀(zs:List Val),zs.length=l'.length->zs.drop done.length=(zs.drop done.length).take m.length++zs.drop (done++m).length:=by
           intro zs hz;rw[bQ2,<-List.drop_drop,List.take_append_drop]
          rw[d1,d2 cs hlx,d2 ds hly,tV _ _ _ (by simp;omega) (by simp;omega)]at h2
          have hval: ∀(zs:List Val) (us:Array Value),us.size=zs.length->zs.length=l'.length->(∀i,i<zs.length->fM (us.getD i undef)=true)->(∀i,i<zs.length->VR T G w (zs.getD i .dead) (us.getD i undef))->
            ∃z u,(part f.type us f.offset).run P w= .ok u w/\ VR T G w z u/\ z.cells=(zs.drop done.length).take m.length/\ (cY P f.type=true-> ∃cs,z= .agg cs)/\ (cY P f.type=false-> ∀cs,z≠ .agg cs):=by
           intro zs us hus hzs hon hvs;rw[hf.2];exact aC0 hm zs us (by omega) hus hon hvs
          obtain⟨zx,ux,px,vx,cx,ax,nx⟩:=hval cs xs hxs hlx hox hvx;obtain⟨zy,uy,py,vy,cy,ay,ny⟩:=hval ds ys hys hly hoy hvy;simp only[Op.eqFields,hf.1,ne_eq,not_false_iff,if_true,Sem.run_bind,px,py,Result.andThen_ok];have hstep: ∀r',jJ m zx.cells zy.cells=some r'->(Op.equalIn d f.type ux uy).run P w= .ok r' w:=fun r' hr'=>
           ih f.type m hm d (by omega) vx vy (by rw[cx];simp;omega) (by rw[cy];simp;omega) (fun h=>⟨ax h,ay h⟩) (fun h=>⟨nx h,ny h⟩) hr'
          rw[<-cx,<-cy]at h2
          split at h2
          ·rename_i he1;rw[hstep true he1];simp only[Result.andThen_ok,bQ0,bQm,if_false];exact ihf (done++m) h1 r h2
          ·rename_i hne;rw[hstep r h2];cases r with
           |true=>exact absurd h2 hne
           |false=>simp
         ·cases h1
        ·cases h1
      exact key fs.toList [] hl' r (by simpa using he)
     ·cases h
    ·cases h
  ·rename_i n e hu
   split at h
   ·rename_i m hm
    split at h
    ·rename_i hcells;simp only[bQi]at h;subst h;obtain⟨⟨cs,rfl⟩,⟨ds,rfl⟩⟩:=hagg (by simp[cY,hu])
     cases hx with
     |agg _ xs hxs hox hvx=>
     cases hy with
     |agg _ ys hys hoy hvy=>
     have hlen:(List.replicate n m).flatten.length=n*m.length:=by simp
     simp only[Val.cells]at hlx hly he;rw[hlen]at hlx hly;obtain⟨dd,hdd⟩:=Option.ne_none_iff_exists'.1 (aI1 hm);obtain⟨i,hi⟩:=lJ hdd;rw[run_equalIn_array w d xs ys hu hi,aGz hm];have key: ∀(j a:Nat),a+j=n-> ∀r,jJ (List.replicate j m).flatten (cs.drop (a*m.length)) (ds.drop (a*m.length))=some r->
       (Op.eqItems d e m.length xs ys (List.range' a j)).run P w= .ok r w:=by
      intro j
      induction j with
      |zero=>
       intro a ha r h2;have ha':a=n:=by omega
       subst ha';have e1:cs.drop (a*m.length)=[]:=by simp;omega
       have e2:ds.drop (a*m.length)=[]:=by simp;omega
       rw[e1,e2]at h2;simp only[bRz,List.flatten_nil,jJ,bQi]at h2;subst h2;simp[Op.eqItems]
      |succ j ihj=>
       intro a ha r h2;have hb:a*m.length+m.length<=n*m.length:=by rw[<-bR9];exact bRv _ (by omega)
       obtain⟨zx,ux,px,vx,cx,ax,nx⟩:=aC0 (P:=P) (T:=T) (G:=G) (w:=w) hm cs xs (off:=a*m.length) (by omega) hxs hox hvx
       obtain⟨zy,uy,py,vy,cy,ay,ny⟩:=aC0 (P:=P) (T:=T) (G:=G) (w:=w) hm ds ys (off:=a*m.length) (by omega) hys hoy hvy
       have d2: ∀(zs:List Val),zs.drop (a*m.length)=(zs.drop (a*m.length)).take m.length++zs.drop ((a+1)*m.length):=by
        intro zs;rw[bR9,<-List.drop_drop,List.take_append_drop]
       rw[bR0,List.flatten_cons,d2 cs,d2 ds,tV _ _ _ (by simp;omega) (by simp;omega),<-cx,<-cy]at h2
       simp only[bTk,Op.eqItems,Sem.run_bind,px,py,Result.andThen_ok];have hstep: ∀r',jJ m zx.cells zy.cells=some r'->(Op.equalIn d e ux uy).run P w= .ok r' w:=fun r' hr'=>
        ih e m hm d (by omega) vx vy (by rw[cx];simp;omega) (by rw[cy];simp;omega) (fun h=>⟨ax h,ay h⟩) (fun h=>⟨nx h,ny h⟩) hr'
       split at h2
       ·rename_i he1;rw[hstep true he1];simp only[Result.andThen_ok,bQ0,bQm,if_false];exact ihj (a+1) (by omega) r h2
       ·rename_i hne;rw[hstep r h2];cases r with
        |true=>exact absurd h2 hne
        |false=>simp
     rw[bTr];exact key n 0 (by simp) r (by simpa using he)
    ·cases h
   ·cases h
  ·cases h
theorem aZx (h:pQ P t=some .bool):P.underlying t=some .bool:=by
 unfold pQ at h;split at h<;>first|assumption|(simp at h;done)|(split at h<;>simp at h)
theorem aD7 (h:pQ P t=some .map): ∃k e,P.underlying t=some (.map k e):=by
 unfold pQ at h;split at h<;>first|exact⟨_,_,by assumption⟩|(simp at h;done)|(split at h<;>simp at h)
theorem aI2 (h:pQ P t=some .func): ∃a b c,P.underlying t=some (.func a b c):=by
 unfold pQ at h;split at h<;>first|exact⟨_,_,_,by assumption⟩|(simp at h;done)|(split at h<;>simp at h)
theorem aId (h:pQ P t=some .ptr): ∃e,P.underlying t=some (.pointer e):=by
 unfold pQ at h;split at h<;>first|exact⟨_,by assumption⟩|(simp at h;done)|(split at h<;>simp at h)
theorem aFw (h:pQ P t=some .iface): ∃e,P.underlying t=some (.interface e):=by
 unfold pQ at h;split at h<;>first|exact⟨_,by assumption⟩|(simp at h;done)|(split at h<;>simp at h)
theorem bDc {l:List CT}(h:pQ P t=some (.agg l)):P.eqGuardType P.depth t=false/\ gC P 6 t=some l/\ cY P t=true:=by
 unfold pQ at h
 split at h<;>first|(simp at h;done)|skip
 all_goals
  rename_i hu
  split at h
  ·cases h
  ·rename_i hg;simp only[bQw,EqT.agg.injEq,exists_eq_right]at h;exact⟨aAc 6 h (by unfold Program.depth;omega),h,by simp[cY,hu]⟩
variable {r:Bool}{y:Value}
theorem dY (h:(Op.equalIn 10000 t x y).run P w= .ok r w):(Op.equal t x y).run P w= .ok r w:=h
variable {ox oy:Operand}
theorem bGm (hg:(eqGuard .eql t ox oy x y).run P w= .ok () w)(h:(binOp .eql t x y).run P w= .ok (.bool r) w):
  (do eqGuard .eql t ox oy x y;binOp .eql t x y:Sem Value).run P w= .ok (.bool r) w:=by
 simp only[Sem.run_bind,hg,Result.andThen_ok,h]
theorem bGn (hg:(eqGuard .neq t ox oy x y).run P w= .ok () w)(h:(binOp .neq t x y).run P w= .ok (.bool r) w):
  (do eqGuard .neq t ox oy x y;binOp .neq t x y:Sem Value).run P w= .ok (.bool r) w:=by
 simp only[Sem.run_bind,hg,Result.andThen_ok,h]
variable {e:TypeId}{a b:Array TypeId}{c:Bool}{ms:Array (String×TypeId)}
section
variable (d:Nat)
theorem aI3 {k:TypeId}(h:P.underlying t=some (.map k e))(r:Option Nat):(Op.equalIn (d+1) t (.map .none) (.map r)).run P w= .ok r.isNone w:=by simp[Op.equalIn,run_underlying h]
theorem aQp {k:TypeId}(h:P.underlying t=some (.map k e))(r:Nat):(Op.equalIn (d+1) t (.map (some r)) (.map .none)).run P w= .ok false w:=by simp[Op.equalIn,run_underlying h]
theorem aXa (h:P.underlying t=some (.func a b c)):(Op.equalIn (d+1) t .nilFunc .nilFunc).run P w= .ok true w:=by simp[Op.equalIn,run_underlying h]
theorem aXb (h:P.underlying t=some (.func a b c))(f:Fn)(x y:Array Value):(Op.equalIn (d+1) t (.func f x y) .nilFunc).run P w= .ok false w:=by simp[Op.equalIn,run_underlying h]
theorem aXc (h:P.underlying t=some (.func a b c))(f:Fn)(x y:Array Value):(Op.equalIn (d+1) t .nilFunc (.func f x y)).run P w= .ok false w:=by simp[Op.equalIn,run_underlying h]
theorem aZy (h:P.underlying t=some (.pointer e)):(Op.equalIn (d+1) t (.pointer .none) (.pointer .none)).run P w= .ok true w:=by simp[Op.equalIn,run_underlying h]
theorem aI4 (h:P.underlying t=some (.pointer e))(a:Addr):(Op.equalIn (d+1) t (.pointer (some a)) (.pointer .none)).run P w= .ok false w:=by simp[Op.equalIn,run_underlying h]
theorem bDd (h:P.underlying t=some (.interface ms)):(Op.equalIn (d+1) t .nilIface .nilIface).run P w= .ok true w:=by simp[Op.equalIn,run_underlying h]
theorem bDe (h:P.underlying t=some (.interface ms))(u:TypeId)(x:Value):(Op.equalIn (d+1) t (.iface u x) .nilIface).run P w= .ok false w:=by simp[Op.equalIn,run_underlying h]
theorem bDf (h:P.underlying t=some (.interface ms))(u:TypeId)(x:Value):(Op.equalIn (d+1) t .nilIface (.iface u x)).run P w= .ok false w:=by simp[Op.equalIn,run_underlying h]
end
theorem aBm (d:Nat)(h:P.underlying t=some (.slice e))(a:Option Addr)(n c n' c':Nat):(Op.equalIn (d+1) t (.slice a n c) (.slice none n' c')).run P w= .ok a.isNone w:=by
 cases a<;>simp[Op.equalIn,run_underlying h]
theorem aBn (h:pQ P t=some .slice): ∃e,P.underlying t=some (.slice e):=by
 unfold pQ at h
 split at h<;>simp at h
 exact⟨_,by assumption⟩
variable {op:BinOp}
theorem nV {x y:Operand}{a b:Option Addr}{c n' c':Nat}:eqGuard op t x y (.slice a n c) (.slice b n' c')=pure ():=by
 cases op<;>rfl
theorem aOh {x y:Operand}(h:nA x=true \/nA y=true):(eqGuard op t x y .nilIface .nilIface).run P w= .ok () w:=by
 unfold eqGuard;cases op<;>first
  |rfl
  |(rcases h with h|h
    ·cases x<;>simp[nA]at h;rfl
    ·cases y<;>simp[nA]at h;cases x<;>rfl)
variable {X Y:Val}{ty:TypeId}
theorem aG0 {t:EqT}(ht:pQ P ty=some t)(hk:t= .iface->nA ox=true \/nA oy=true)
  (hx:VR T G w X x) (hy:VR T G w Y y) (h:pE t X Y=some r):
  (do eqGuard .eql ty ox oy x y;binOp .eql ty x y:Sem Value).run P w= .ok (.bool r) w/\ (do eqGuard .neq ty ox oy x y;binOp .neq ty x y:Sem Value).run P w= .ok (.bool !r) w:=by
 have fin:(∀op,(eqGuard op ty ox oy x y).run P w= .ok () w)->(binOp .eql ty x y).run P w= .ok (.bool r) w->(binOp .neq ty x y).run P w= .ok (.bool !r) w->
   (do eqGuard .eql ty ox oy x y;binOp .eql ty x y:Sem Value).run P w= .ok (.bool r) w/\ (do eqGuard .neq ty ox oy x y;binOp .neq ty x y:Sem Value).run P w= .ok (.bool !r) w:=
  fun hg h1 h2=>⟨bGm (hg _) h1,bGn (hg _) h2⟩
 have deep:(∀op,(eqGuard op ty ox oy x y).run P w= .ok () w)->(∀op,op= .eql \/op= .neq->(binOp op ty x y)=(if op= .eql then do pure (.bool (<-Op.equal ty x y))else do pure (.bool (!(<-Op.equal ty x y)))))->
   (Op.equal ty x y).run P w= .ok r w->(do eqGuard .eql ty ox oy x y;binOp .eql ty x y:Sem Value).run P w= .ok (.bool r) w/\ (do eqGuard .neq ty ox oy x y;binOp .neq ty x y:Sem Value).run P w= .ok (.bool !r) w:=by
  intro hg hb he
  refine fin hg ?_ ?_
  ·rw[hb _ (.inl rfl)];simp[he]
  ·rw[hb _ (.inr rfl)];simp[he]
 unfold pE at h
 split at h
 ·rename_i j a k b
  split at h
  ·rename_i e;subst e;simp only[bQi]at h;subst h;cases hx;cases hy;exact fin (fun op=>by simp[eqGuard_at_int]) (by simp[binOp_eql]) (by simp[binOp_neq,bne])
  ·cases h
 ·simp only[bQi]at h;subst h;cases hx;cases hy
  refine deep (fun op=>by simp[eqGuard_at_bool]) (fun op ho=>by rcases ho with rfl|rfl<;>rfl) ?_
  exact dY (run_equalIn_bool' w 9999 ty _ _ (aZx ht))
 ·simp only[bQi]at h;subst h;cases hx;cases hy;exact fin (fun op=>by simp[eqGuard_at_string]) (by simp[binOp,Op.stringOp]) (by simp[binOp,Op.stringOp])
 ·rename_i l xs ys
  split at h
  ·rename_i hlen;obtain⟨h1,h2,h3⟩:=bDc ht;cases hx with
   |agg _ us hus hou hvu=>
   cases hy with
   |agg _ vs hvs hov hvv=>
   refine deep (fun op=>run_eqGuard_agg w op ty ox oy us vs h1) (fun op ho=>by rcases ho with rfl|rfl<;>rfl) ?_
   exact dY (aZw 6 ty l h2 10000 (by omega) (.agg xs us hus hou hvu) (.agg ys vs hvs hov hvv) hlen.1 hlen.2 (fun _=>⟨⟨_,rfl⟩,⟨_,rfl⟩⟩) (fun h=>by rw[h3]at h;cases h) h)
  ·cases h
 ·simp only[bQi]at h;subst h;obtain⟨k,e,hu⟩:=aD7 ht;cases hx;cases hy
  refine deep (fun op=>by simp[eqGuard_at_map]) (fun op ho=>by rcases ho with rfl|rfl<;>rfl) (dY (aI3 9999 hu none))
 ·simp only[bQi]at h;subst h;obtain⟨k,e,hu⟩:=aD7 ht;cases hx;cases hy
  refine deep (fun op=>by simp[eqGuard_at_map]) (fun op ho=>by rcases ho with rfl|rfl<;>rfl) (dY (aQp 9999 hu _))
 ·simp only[bQi]at h;subst h;obtain⟨k,e,hu⟩:=aD7 ht;cases hx;cases hy
  refine deep (fun op=>by simp[eqGuard_at_map]) (fun op ho=>by rcases ho with rfl|rfl<;>rfl) (dY (aQp 9999 hu _))
 ·simp only[bQi]at h;subst h;obtain⟨k,e,hu⟩:=aD7 ht;cases hx;cases hy
  refine deep (fun op=>by simp[eqGuard_at_map]) (fun op ho=>by rcases ho with rfl|rfl<;>rfl) (dY (aI3 9999 hu (some _)))
 ·simp only[bQi]at h;subst h;obtain⟨k,e,hu⟩:=aD7 ht;cases hx;cases hy
  refine deep (fun op=>by simp[eqGuard_at_map]) (fun op ho=>by rcases ho with rfl|rfl<;>rfl) (dY (aI3 9999 hu (some _)))
 ·simp only[bQi]at h;subst h;obtain⟨k,e,f,hu⟩:=aI2 ht;cases hx;cases hy
  refine deep (fun op=>by simp[eqGuard_at_nilFunc]) (fun op ho=>by rcases ho with rfl|rfl<;>rfl) (dY (aXa 9999 hu))
 ·simp only[bQi]at h;subst h;obtain⟨k,e,f,hu⟩:=aI2 ht;cases hx;cases hy
  refine deep (fun op=>by simp[eqGuard_at_func]) (fun op ho=>by rcases ho with rfl|rfl<;>rfl) (dY (aXb 9999 hu _ _ _))
 ·simp only[bQi]at h;subst h;obtain⟨k,e,f,hu⟩:=aI2 ht;cases hx;cases hy
  refine deep (fun op=>by simp[eqGuard_at_nilFunc]) (fun op ho=>by rcases ho with rfl|rfl<;>rfl) (dY (aXc 9999 hu _ _ _))
 ·simp only[bQi]at h;subst h;obtain⟨e,hu⟩:=aId ht;cases hx;cases hy
  refine deep (fun op=>by simp[eqGuard_at_pointer]) (fun op ho=>by rcases ho with rfl|rfl<;>rfl) (dY (aZy 9999 hu))
 ·simp only[bQi]at h;subst h;obtain⟨e,hu⟩:=aId ht;cases hx;cases hy
  refine deep (fun op=>by simp[eqGuard_at_pointer]) (fun op ho=>by rcases ho with rfl|rfl<;>rfl) (dY (aI4 9999 hu _))
 ·simp only[bQi]at h;subst h;obtain⟨e,hu⟩:=aId ht;cases hx;cases hy
  refine deep (fun op=>by simp[eqGuard_at_pointer]) (fun op ho=>by rcases ho with rfl|rfl<;>rfl) (dY (aI4 9999 hu _))
 ·simp only[bQi]at h;subst h;obtain⟨e,hu⟩:=aId ht;cases hx;cases hy
  refine deep (fun op=>by simp[eqGuard_at_pointer]) (fun op ho=>by rcases ho with rfl|rfl<;>rfl) (dY (aI4 9999 hu _))
 ·simp only[bQi]at h;subst h;obtain⟨e,hu⟩:=aFw ht;cases hx;cases hy
  refine deep (fun op=>by simp[eqGuard_at_iface]) (fun op ho=>by rcases ho with rfl|rfl<;>rfl) (dY (bDe 9999 hu _ _))
 ·simp only[bQi]at h;subst h;obtain⟨e,hu⟩:=aFw ht;cases hx;cases hy
  refine deep (fun op=>by simp[eqGuard_nil_iface]) (fun op ho=>by rcases ho with rfl|rfl<;>rfl) (dY (bDf 9999 hu _ _))
 ·simp only[bQi]at h;subst h;obtain⟨e,hu⟩:=aFw ht;cases hx;cases hy
  refine deep (fun op=>aOh (hk rfl)) (fun op ho=>by rcases ho with rfl|rfl<;>rfl) (dY (bDd 9999 hu))
 ·simp only[bQi]at h;subst h;obtain⟨e,hu⟩:=aBn ht;generalize hb:true=b at hy;cases hx with
  |es p cap=>
   cases hy with
   |es q cap'=>cases q<;>simp at hb;exact deep (fun op=>by simp[nV]) (fun op ho=>by rcases ho with rfl|rfl<;>rfl) (dY (aBm 9999 hu _ _ _ _ _))
 ·simp only[bQi]at h;subst h;obtain⟨e,hu⟩:=aBn ht;generalize hb:true=b at hy;cases hx with
  |fz=>
   cases hy with
   |es q cap'=>cases q<;>simp at hb;exact deep (fun op=>by simp[nV]) (fun op ho=>by rcases ho with rfl|rfl<;>rfl) (dY (aBm 9999 hu _ _ _ _ _))
 ·simp only[bQi]at h;subst h;obtain⟨e,hu⟩:=aBn ht;generalize hb:true=b at hy;cases hx with
  |cl=>
   cases hy with
   |es q cap'=>cases q<;>simp at hb;exact deep (fun op=>by simp[nV]) (fun op ho=>by rcases ho with rfl|rfl<;>rfl) (dY (aBm 9999 hu _ _ _ _ _))
 ·simp only[bQi]at h;subst h;obtain⟨e,hu⟩:=aBn ht;generalize hb:true=b at hy;cases hx with
  |bl=>
   cases hy with
   |es q cap'=>cases q<;>simp at hb;exact deep (fun op=>by simp[nV]) (fun op ho=>by rcases ho with rfl|rfl<;>rfl) (dY (aBm 9999 hu _ _ _ _ _))
 ·cases h
theorem aMr {t:EqT}(ht:pQ P ty=some t)(hk:t= .iface->nA ox=true \/nA oy=true)
  (hx:VR T G w X x) (hy:VR T G w Y y) (h:cX op t X Y=some v):
  ∃z,(do eqGuard op ty ox oy x y;binOp op ty x y:Sem Value).run P w= .ok z w/\ VR T G w v z:=by
 have pass: ∀{z:Value},op≠ .eql->op≠ .neq->(binOp op ty x y).run P w= .ok z w->(do eqGuard op ty ox oy x y;binOp op ty x y:Sem Value).run P w= .ok z w:=by
  intro z h1 h2 h3;have:eqGuard op ty ox oy x y=pure ():=by cases op<;>first|rfl|exact absurd rfl h1|exact absurd rfl h2
  rw[this];simpa using h3
 unfold cX at h
 split at h
 ·simp only[bQw]at h;obtain⟨r,hr,rfl⟩:=h;exact⟨_,(aG0 ht hk hx hy hr).1,.bool r⟩
 ·simp only[bQw]at h;obtain⟨r,hr,rfl⟩:=h;exact⟨_,(aG0 ht hk hx hy hr).2,.bool _⟩
 ·rename_i h1 h2
  split at h
  ·rename_i j a k b
   split at h
   ·rename_i hsh;cases hx;cases hy;unfold aQk at h
    split at h
    ·cases h
    ·rename_i hb
     split at h
     ·simp only[bQi]at h;subst h;exact⟨_,pass (by simp) (by simp) (by simp[binOp,Op.shift,hb]),.int _ _⟩
     ·simp only[bQi]at h;subst h;exact⟨_,pass (by simp) (by simp) (by simp[binOp,Op.shift,hb]),.int _ _⟩
     ·cases h
   rename_i hns
   split at h
   ·rename_i e;subst e;cases hx;cases hy;unfold tQ at h
    split at h
    ·simp only[bQi]at h;subst h;exact⟨_,pass (by simp) (by simp) (by simp[binOp_add,Op.intArith]),.int _ _⟩
    ·simp only[bQi]at h;subst h;exact⟨_,pass (by simp) (by simp) (by simp[binOp_sub,Op.intArith]),.int _ _⟩
    ·simp only[bQi]at h;subst h;exact⟨_,pass (by simp) (by simp) (by simp[binOp_mul,Op.intArith]),.int _ _⟩
    ·split at h
     ·cases h
     ·rename_i hb;simp only[bQi]at h;subst h;exact⟨_,pass (by simp) (by simp) (by simp[binOp_quo,Op.intDiv,hb]),.int _ _⟩
    ·split at h
     ·cases h
     ·rename_i hb;simp only[bQi]at h;subst h;exact⟨_,pass (by simp) (by simp) (by simp[binOp_rem,Op.intDiv,hb]),.int _ _⟩
    ·simp only[bQi]at h;subst h;exact⟨_,pass (by simp) (by simp) (by simp[binOp_lss]),.bool _⟩
    ·simp only[bQi]at h;subst h;exact⟨_,pass (by simp) (by simp) (by simp[binOp_leq]),.bool _⟩
    ·simp only[bQi]at h;subst h;exact⟨_,pass (by simp) (by simp) (by simp[binOp_gtr]),.bool _⟩
    ·simp only[bQi]at h;subst h;exact⟨_,pass (by simp) (by simp) (by simp[binOp_geq]),.bool _⟩
    ·simp only[bQi]at h;subst h;exact⟨_,pass (by simp) (by simp) (by simp[binOp,Op.intBits]),.int _ _⟩
    ·simp only[bQi]at h;subst h;exact⟨_,pass (by simp) (by simp) (by simp[binOp,Op.intBits]),.int _ _⟩
    ·simp only[bQi]at h;subst h;exact⟨_,pass (by simp) (by simp) (by simp[binOp,Op.intBits]),.int _ _⟩
    ·simp only[bQi]at h;subst h;exact⟨_,pass (by simp) (by simp) (by simp[binOp,Op.intBits]),.int _ _⟩
    ·cases h
   ·cases h
  ·cases hx;cases hy;unfold aZn at h
   split at h
   ·simp only[bQi]at h;subst h;exact⟨_,pass (by simp) (by simp) (by simp[binOp,Op.stringOp]),.bool _⟩
   ·simp only[bQi]at h;subst h;exact⟨_,pass (by simp) (by simp) (by simp[binOp,Op.stringOp]),.bool _⟩
   ·simp only[bQi]at h;subst h;exact⟨_,pass (by simp) (by simp) (by simp[binOp,Op.stringOp]),.bool _⟩
   ·simp only[bQi]at h;subst h;exact⟨_,pass (by simp) (by simp) (by simp[binOp,Op.stringOp]),.bool _⟩
   ·split at h
    ·cases h
    ·rename_i hsz;simp only[bQi]at h;subst h;exact⟨_,pass (by simp) (by simp) (by simp only[binOp,Op.stringOp,if_neg hsz];rfl),.str _⟩
   ·cases h
  ·cases h
end Go.Abs
namespace Go.Abs
open Go.RowKit (Below)
variable [Inhabited mN]
def St.mem (st:St)(d:Nat)(r:Res)(q:Nat:=0):St:=
 {fr:=st.fr,en:=W.applyAll st.en r.ws,cnt:=if r.bump then aC st.cnt q d (st.cnt q d+1)else st.cnt}
def Fx (ro:Option Nat):Fence:={Fence.wide with round:=ro}
def eR (P:Program)(Ξ:Env)(B:Nat)(S:Nat->Nat->Prop)(st:St)(N:Nat)(a:Act)(w:World)(o:Oper)(d:Nat)(r:Res)(q:Nat:=0):Prop:=
 ∀(ro:Option Nat) (m:Nat) (next:Act->World->Prop) (Q:Exit->Act->World->Prop),
  (∀x w' G',Rel P Ξ B S G' (st.mem d r q) N a w'->VR (aX B S G' w'.heap.size) G' w' r.v x->Below B w w'->next (a.put o.dst x) w')->o.wpIn (Fx ro) m P a w next Q
variable {P:Program}{w w':World}
theorem pS {ρ:Operand->Value}{o:Oper}{x:Next}(h:(execOp ρ o).run P w= .ok x w')(hx: ∀d,x≠ .defer d)(ro:Option Nat):(o.semAt ro ρ).run P w= .ok x w':=by
 rw[Oper.semAt_eq]
 ·exact h
 ·intro c hc;simp only[execOp,hc,Sem.run_bind]at h;cases hr:(resolve ρ c o.type).run P w with
  |ok d w1=>rw[hr]at h;simp at h;exact hx d h.1.symm
  |halt y w1=>rw[hr]at h;simp[Result.andThen]at h
variable {G' G:Gh}{q b sz n off len h l B N d:Nat}{rs:List R}{v X:Val}{T S:Nat->Nat->Prop}{x i:Operand}{y x' y' i':Opd}{t t' s e:TypeId}{z cs vs xs:List Val}{op:BinOp}{k:IntKind}{f:Field}{fs:Array Field}{j:Int}{ts:Array TypeId}{mx:Option Value}{call:bD}{hi lo:Option Operand}{hi' lo':Option Opd}{r:Res}{Ξ:Env}{st:St}{a:Act}
section
variable {o:Oper}
theorem jW {x:Value}(h:(execOp a.eval o).run P w= .ok (.value x) w')(hR:Rel P Ξ B S G' (st.mem d r q) N a w')(hv:VR (aX B S G' w'.heap.size) G' w' r.v x)(hb:Below B w w'):
  eR P Ξ B S st N a w o d r q:=fun ro m next Q k=>by
 refine⟨fun _ _=>trivial,?_⟩
 rw[pS h (by simp)]
 exact k x w' G' hR hv hb
theorem aOi (h:(execOp a.eval o).run P w= .ok .skip w')(hR:Rel P Ξ B S G' (st.mem d r) N a w')(hv:r.v= .tup [])(hb:Below B w w'):
  eR P Ξ B S st N a w o d r:=fun ro m next Q k=>by
 refine⟨fun _ _=>trivial,?_⟩
 rw[pS h (by simp)]
 exact k undef w' G' hR (by rw[hv];exact .tup [] #[] rfl (fun i hi=>by simp at hi)) hb
theorem cF {x:Value}(hR:Rel P Ξ B S G st N a w)(h:(execOp a.eval o).run P w= .ok (.value x) w)(hv:VR (aX B S G w.heap.size) G w v x):
  eR P Ξ B S st N a w o d {v:=v,rs:=rs} q:=jW h hR hv (Below.refl _ _)
theorem nW {x:Value}(h:zZ x=some v):VR T G w v x/\ fM x=true:=by
 unfold zZ at h
 split at h<;>simp only[bQi,reduceCtorEq]at h<;>subst h
 ·exact⟨.bool _,rfl⟩
 ·exact⟨.int _ _,rfl⟩
 ·exact⟨.str _,rfl⟩
 ·exact⟨.nilp,rfl⟩
 ·exact⟨.cl0 _,rfl⟩
 ·exact⟨.nilm,rfl⟩
 ·exact⟨.nilf,rfl⟩
 ·exact⟨.nili,rfl⟩
theorem aU (hR:Rel P Ξ B S G st N a w)(h:aO x=some y):VR (aX B S G w.heap.size) G w (St.get st.fr y) (a.eval x):=by
 cases x with
 |tmp t=>simp only[aO,bQi]at h;subst h;exact hR.frame t
 |const v=>simp only[aO,bQw]at h;obtain⟨u,hu,rfl⟩:=h;exact(nW hu).1
 |func f=>simp only[aO,bQi]at h;subst h;exact .fn f [] [] #[] #[] rfl rfl (fun i hi=>by simp at hi) (fun i hi=>by simp at hi)
 |global g=>simp only[aO,bQw]at h;obtain⟨cs,hc,rfl⟩:=h;exact hR.extra _ _ (.inr ⟨g,cs,hc,rfl,rfl⟩)
theorem oT (hR:Rel P Ξ B S G st N a w){xs:List Operand}{ys:List Opd}(h:jK xs=some ys):
  ys.length=xs.length/\ ∀i,i<ys.length->VR (aX B S G w.heap.size) G w ((ys.map (St.get st.fr)).getD i .dead) ((xs.map a.eval).getD i undef):=by
 obtain⟨h1,h2⟩:=fH h
 refine⟨h1,fun i hi=>?_⟩
 have:=aU hR (h2 i (by omega) hi)
 simpa[bQn,hi,show i<xs.length by omega]using this
theorem tW (h:iV P t=some z):
  ∃i v,P.info? t=some i/\ i.zero=some v/\ v.cells.size=z.length/\ (∀j,j<z.length->fM (v.cells.getD j undef)=true)/\ ∀j,j<z.length->VR T G w (z.getD j .dead) (v.cells.getD j undef):=by
 unfold iV at h
 split at h
 ·rename_i v hv;obtain⟨i,hi,hz⟩:=bQx.1 hv;obtain⟨h1,h2⟩:=fH h;simp only[bSt]at h1;have h3: ∀j (hj:j<z.length),zZ (v.cells.getD j undef)=some (z.getD j .dead):=fun j hj=>by
   have:=h2 j (by simpa using(by omega:j<v.cells.size)) hj
   simpa[bQn,bQy,hj,show j<v.cells.size by omega]using this
  exact⟨i,v,hi,hz,h1.symm,fun j hj=>(nW (G:=G) (w:=w) (T:=T) (h3 j hj)).2,fun j hj=>(nW (h3 j hj)).1⟩
 ·cases h
theorem iH {i:TypeInfo}{v:Value}(hi:P.info? t=some i)(hz:i.zero=some v):(zeroValue t).run P w= .ok v w:=by
 simp[zeroValue,typeInfo,hi,hz]
theorem aVw (hR:Rel P Ξ B S G st N a w){c:Array Value}(hs:c.size=cs.length)(ho: ∀j,j<cs.length->fM (c.getD j undef)=true)
  (hv: ∀j,j<cs.length->VR (aX B S G w.heap.size) G w (cs.getD j .dead) (c.getD j undef)):
  ∃G',Rel P Ξ B S G' {fr:=st.fr,en:=st.en.set ⟨0,d,st.cnt 0 d⟩ (some (.box cs false)),cnt:=aC st.cnt 0 d (st.cnt 0 d+1)} N a (w.alloc (.cells c t))/\
   G'.box ⟨0,d,st.cnt 0 d⟩=some w.heap.size:=by
 have hf:=hR.freshG ⟨0,d,st.cnt 0 d⟩ (bQk _)
 refine⟨G.addBox ⟨0,d,st.cnt 0 d⟩ w.heap.size,hR.alloc d _ _ _ (Gh.le_addBox hf.1) (fun b hb=>by simp[Gh.addBox,hb]) (fun k hk=>?_) (fun k t h=>?_) ?_,by simp[Gh.addBox]⟩
 ·simp[Gh.addBox,hk]
 ·simp[Gh.addBox]at h;exact h.1.symm
 ·have m:=rB (B:=B) (S:=S) (w:=w) (o:= .cells c t) (Gh.le_addBox (b:=w.heap.size) hf.1) (fun b hb=>by simp[Gh.addBox,hb])
  exact .box cs false w.heap.size c t (by simp[Gh.addBox]) hR.size (gF _ _) hs ho (fun j hj=>(hv j hj).mono m) (by simp[Gh.addBox])
theorem pF (hR:Rel P Ξ B S G st N a w)(o:Obj):Below B w (w.alloc o):=(Below.refl B w).alloc hR.size o
theorem bFn (hR:Rel P Ξ B S G st N a w)(ho:o.op= .move x \/o.op= .assign x)(h:aO x=some y):eR P Ξ B S st N a w o d {v:=St.get st.fr y}:=by
 refine cF hR ?_ (aU hR h)
 rcases ho with ho|ho<;>simp[execOp,ho]
theorem bDg (hR:Rel P Ξ B S G st N a w){c y:Operand}{c':Opd}{b:Bool}(ho:o.op= .pick c x y)(h1:aO c=some c')(h2:aO x=some x')(h3:aO y=some y')(hb:St.get st.fr c'= .bool b):
  eR P Ξ B S st N a w o d {v:=if b then St.get st.fr x' else St.get st.fr y'}:=by
 have hc:=aU hR h1;rw[hb]at hc;have hc':a.eval c= .bool b:=by generalize a.eval c=u at hc;cases hc;rfl
 refine cF (x:=if b then a.eval x else a.eval y) hR ?_ ?_
 ·simp[execOp,ho,hc',asBool]
 ·cases b
  ·exact aU hR h3
  ·exact aU hR h2
theorem aZz (hR:Rel P Ξ B S G st N a w)(ho:o.op= .alloc t)(h:iV P t=some z):
  eR P Ξ B S st N a w o d {v:= .ptr ⟨0,d,st.cnt 0 d⟩ 0,ws:=[.ent ⟨0,d,st.cnt 0 d⟩ (some (.box z false))],bump:=true}:=by
 obtain⟨i,v,hi,hz,hs,ho1,hv⟩:=tW (P:=P) (G:=G) (w:=w) (T:=aX B S G w.heap.size) h;obtain⟨G',hR',hb⟩:=aVw (t:=t) (d:=d) hR hs ho1 hv
 refine jW (x:= .pointer (some ⟨w.heap.size,0,none⟩)) (G':=G') ?_ hR' (.ptr _ _ _ hb) (pF hR _)
 simp[execOp,ho,Instr.alloc,iH hi hz,newVar,newRow]
theorem bGo (hR:Rel P Ξ B S G st N a w)(ho:o.op= .box t x)(h:aO x=some y)(h1:(St.get st.fr y).one=true):
  eR P Ξ B S st N a w o d {v:= .ptr ⟨0,d,st.cnt 0 d⟩ 0,ws:=[.ent ⟨0,d,st.cnt 0 d⟩ (some (.box (St.get st.fr y).cells false))],bump:=true}:=by
 obtain⟨hs,ho1,hv⟩:=(aU hR h).cells (fun vs e=>by rw[e]at h1;cases h1)
 obtain⟨G',hR',hb⟩:=aVw (t:=t) (d:=d) hR hs ho1 hv
 refine jW (x:= .pointer (some ⟨w.heap.size,0,none⟩)) (G':=G') ?_ hR' (.ptr _ _ _ hb) (pF hR _)
 simp[execOp,ho,Instr.box,newVar,newRow]
theorem aZ0 (hR:Rel P Ξ B S G st N a w)(ho:o.op= .nilCheck x)(h:aO x=some y)
  (hv:(match St.get st.fr y with
   | .fp cs off=>some {v:= .fp cs off}
   | .ptr k off=>some {v:= .ptr k off}
   | .ep k i off=>some {v:= .ep k i off}
   | .fn f a b=>some {v:= .fn f a b}
   | .ifc t v=>some {v:= .ifc t v}
   |_=>none)=some ({v:=v}:Res)):eR P Ξ B S st N a w o d {v:=v}:=by
 have hx:=aU hR h;have key: ∀u,VR (aX B S G w.heap.size) G w v u->a.eval x=u->(u≠ .pointer none/\ u≠ .nilIface/\ u≠ .nilFunc/\ ∀n p q,u≠ .func (.method n) p q)->eR P Ξ B S st N a w o d {v:=v}:=by
  intro u hu he ⟨n1,n2,n3,n4⟩
  refine cF (x:=u) hR ?_ hu
  simp only[execOp,ho,he];cases u with
  |pointer p=>cases p with
   |none=>exact absurd rfl n1
   |some p=>rfl
  |nilIface=>exact absurd rfl n2
  |nilFunc=>exact absurd rfl n3
  |func f p q=>cases f with
   |method n=>exact absurd rfl (n4 n p q)
   |_=>rfl
  |_=>rfl
 generalize hg:a.eval x=u at hx
 split at hv<;>simp only[bQi,Res.mk.injEq,reduceCtorEq,and_true]at hv<;>subst hv<;>rename_i he<;>rw[he]at hx
 ·exact key u hx hg (by cases hx;exact⟨by simp,by simp,by simp,by simp⟩)
 ·exact key u hx hg (by cases hx;exact⟨by simp,by simp,by simp,by simp⟩)
 ·exact key u hx hg (by cases hx;exact⟨by simp,by simp,by simp,by simp⟩)
 ·exact key u hx hg (by cases hx;exact⟨by simp,by simp,by simp,by simp⟩)
 ·exact key u hx hg (by cases hx;exact⟨by simp,by simp,by simp,by simp⟩)
theorem bGp (hR:Rel P Ξ B S G st N a w){y:Operand}{e:EqT}(ho:o.op= .binOp op t x y t')(ht:pQ P t=some e)(hk:e= .iface->nA x=true \/nA y=true)(h1:aO x=some x')(h2:aO y=some y')
  (hv:cX op e (St.get st.fr x') (St.get st.fr y')=some v):eR P Ξ B S st N a w o d {v:=v}:=by
 obtain⟨z,hz,hzv⟩:=aMr (ox:=x) (oy:=y) ht hk (aU hR h1) (aU hR h2) hv
 refine cF (x:=z) hR ?_ hzv
 simp only[Sem.run_bind]at hz;simp only[execOp,ho,Sem.run_bind,hz,Result.andThen_ok,Sem.run_pure]
theorem aTu (hR:Rel P Ξ B S G st N a w)(ho:o.op= .binOp op t x (.const (.slice none 0 0)) t')(ht:pQ P t=some .slice)(h1:aO x=some x')
  (hv:cX op .slice (St.get st.fr x') (.es true)=some v):eR P Ξ B S st N a w o d {v:=v}:=by
 obtain⟨z,hz,hzv⟩:=aMr (ox:=x) (oy:= .const (.slice none 0 0)) (y:= .slice none 0 0) ht (fun h=>by cases h) (aU hR h1) (.es none 0) hv
 refine cF (x:=z) hR ?_ hzv
 simp only[Sem.run_bind]at hz;have hc:a.eval (.const (.slice none 0 0))= .slice none 0 0:=rfl;simp only[execOp,ho,Sem.run_bind,hc,hz,Result.andThen_ok,Sem.run_pure]
theorem bI9 (hR:Rel P Ξ B S G st N a w){op:UnOp}(ho:o.op= .unOp op t x)(h1:aO x=some x')
  (hv:(match op,St.get st.fr x' with
  | .not,.bool b=>some {v:= .bool !b}
  | .neg,.int k a=>some {v:= .int k (k.wrap (0-a))}
  |_,_=>none)=some ({v:=v}:Res)):eR P Ξ B S st N a w o d {v:=v}:=by
 have hx:=aU hR h1;have key:(op= .not/\ ∃b,St.get st.fr x'= .bool b/\ v= .bool !b) \/(op= .neg/\ ∃k n,St.get st.fr x'= .int k n/\ v= .int k (k.wrap (0-n))):=by
  split at hv<;>simp only[bQi,Res.mk.injEq,reduceCtorEq,and_true]at hv
  ·exact .inl ⟨rfl,_,by assumption,hv.symm⟩
  ·exact .inr ⟨rfl,_,_,by assumption,hv.symm⟩
 generalize hg:a.eval x=u at hx;rcases key with⟨rfl,b,he,rfl⟩|⟨rfl,k,n,he,rfl⟩<;>rw[he]at hx<;>cases hx
 ·refine cF (x:= .bool !b) hR ?_ (.bool _)
  simp[execOp,ho,hg,Op.unary]
 ·refine cF (x:= .int k (k.wrap (0-n))) hR ?_ (.int _ _)
  simp[execOp,ho,hg,Op.unary,Op.intArith]
theorem bDh (hR:Rel P Ξ B S G st N a w){j j':IntKind}{n:Int}(ho:o.op= .convert s t x)(hs:P.underlying s=some (.int j'))(ht:P.underlying t=some (.int k))(h1:aO x=some x')
  (hv:St.get st.fr x'= .int j n):eR P Ξ B S st N a w o d {v:= .int k (k.wrap n)}:=by
 have hx:=aU hR h1;generalize hg:a.eval x=u at hx;rw[hv]at hx;cases hx
 refine cF (x:= .int k (k.wrap n)) hR ?_ (.int _ _)
 simp[execOp,ho,hg,convert,run_underlying hs,run_underlying ht,Conv.intToInt]
theorem aZ1 (hR:Rel P Ξ B S G st N a w)(ho:o.op= .makeInterface t x)(ht: ∀ms,P.underlying t≠some (.interface ms))(ht':P.underlying t≠none)(h1:aO x=some x'):
  eR P Ξ B S st N a w o d {v:= .ifc t (St.get st.fr x')}:=by
 obtain⟨e,he⟩:=Option.ne_none_iff_exists'.1 ht'
 refine cF (x:= .iface t (a.eval x)) hR ?_ (.ifc _ _ _ (aU hR h1))
 simp only[execOp,ho,Instr.makeInterface,Sem.run_bind,run_underlying he,Result.andThen_ok];cases e<;>first|(simp;done)|exact absurd he (ht _)
theorem bGq (hR:Rel P Ξ B S G st N a w){i:Nat}(ho:o.op= .extract x i)(h1:aO x=some x')(hv:St.get st.fr x'= .tup vs)(hi:vs[i]?=some v):
  eR P Ξ B S st N a w o d {v:=v}:=by
 have hx:=aU hR h1;generalize hg:a.eval x=u at hx;rw[hv]at hx;cases hx with
 |tup _ us hs hu=>
  obtain⟨hlt,hget⟩:=aD4 hi;have:=hu i hlt;rw[hget]at this
  refine cF (x:=us.getD i undef) hR ?_ this
  simp[execOp,ho,hg,Instr.extract,show i<us.size by omega]
theorem bDi (hR:Rel P Ξ B S G st N a w){f:Nat}{x y:Array Operand}{x' y':List Opd}(ho:o.op= .makeFunc (.func f) x y)(h1:jK x.toList=some x')(h2:jK y.toList=some y'):
  eR P Ξ B S st N a w o d {v:= .fn f (x'.map (St.get st.fr)) (y'.map (St.get st.fr))}:=by
 obtain⟨l1,v1⟩:=oT hR h1;obtain⟨l2,v2⟩:=oT hR h2;have conv: ∀(z:Array Operand) (i:Nat),(z.map a.eval).getD i undef=(z.toList.map a.eval).getD i undef:=by
  intro z i;simp[bQn,bQy]
 refine cF (x:= .func (.func f) (x.map a.eval) (y.map a.eval)) hR ?_ (.fn f _ _ _ _ (by simp[l1]) (by simp[l2]) (fun i hi=>?_) (fun i hi=>?_))
 ·simp[execOp,ho,Instr.makeFunc]
 ·rw[conv];exact v1 i (by simpa using hi)
 ·rw[conv];exact v2 i (by simpa using hi)
theorem aXd (h:G.le G'):jN T G w T G' w:=⟨fun _ _ h=>h,h,fun _ _ _ _ h=>h,fun _ _ _ _ h=>h,fun _ _ h=>h,fun _ r h=>⟨r,h⟩⟩
theorem ER.elem {k:Key}{frz:Bool}{base sz0 C:Nat}(h:ER P B T G w k (.blk sz0 xs frz))(hb:G.blk k=some (some (b,base,sz,C))){i:Nat}(hi:i<xs.length):
  (xs.getD i .dead).cells.length=sz/\ ∀j,j<sz-> ∃c,w.cell? ⟨b,base+i*sz+j,.none⟩=some c/\ fM c=true/\ VR T (G.at k) w ((xs.getD i .dead).cells.getD j .dead) c:=by
 cases h with
 |nul _ frz h=>simp at hi
 |blk xs frz b1 base1 sz0 C1 thr c t hb1 hB hh hC hC' hs ho hv hown hthr=>
  rw[hb1]at hb;simp only[bQi,bQo]at hb;obtain⟨rfl,rfl,rfl,rfl⟩:=hb
  refine⟨hs i hi,fun j hj=>⟨c.getD (base1+i*sz0+j) undef,?_,ho i j hi hj,hv i j hi hj⟩⟩
  have hlt:base1+i*sz0+j<c.size:=by
   have:i*sz0+sz0<=C1*sz0:=by rw[<-bR9];exact bRv _ (by omega)
   omega
  rw[lZ hh];simp[bQy,hlt]
 |full xs b1 base1 sz0 c hb1 hs hh ht ho hv=>
  rw[hb1]at hb;simp only[bQi,bQo]at hb;obtain⟨rfl,rfl,rfl,rfl⟩:=hb;exact⟨hs i hi,fun j hj=>⟨c i j,hh i j hi hj,ho i j hi hj,(hv i j hi hj).into _⟩⟩
theorem rP {j:Nat}(hj:j<n)(h:off+n<=cs.length):((cs.drop off).take n).getD j .dead=cs.getD (off+j) .dead:=kW hj h
theorem aI5 {x:Value}(hR:Rel P Ξ B S G st N a w)(hx:VR (aX B S G w.heap.size) G w X x)(h:qZ st.en X n=some (cs,rs)):
  ∃b off,x= .pointer (some ⟨b,off,.none⟩)/\ cs.length=n/\ ∀j,j<n-> ∃c,w.cell? ⟨b,off+j,.none⟩=some c/\ fM c=true/\ VR (aX B S G w.heap.size) G w (cs.getD j .dead) c:=by
 unfold qZ at h
 split at h
 ·rename_i k off
  split at h
  ·rename_i ds f he
   split at h
   ·rename_i hl;simp only[bQi,bQo]at h;obtain⟨rfl,_⟩:=h;cases hx with
    |ptr _ _ b hb=>
    have hE:=hR.ents k _ he (Gh.knows_box hb);cases hE with
    |box _ _ b' c t hb' hB hh hs ho hv hown=>
     rw[hb]at hb';simp only[bQi]at hb';subst hb'
     refine⟨b,off,rfl,by simp;omega,fun j hj=>⟨c.getD (off+j) undef,?_,ho _ (by omega),?_⟩⟩
     ·rw[lZ hh];simp[show off+j<c.size by omega]
     ·rw[rP hj hl];exact hv _ (by omega)
   ·cases h
  ·cases h
 ·rename_i k i off
  split at h
  ·rename_i sz0 xs f he
   split at h
   ·rename_i x' hx'
    split at h
    ·rename_i hl;simp only[bQi,bQo]at h;obtain⟨rfl,_⟩:=h;cases hx with
     |ep _ _ _ b base sz C hb hi=>
     obtain⟨hi',hg⟩:=aD4 hx';obtain⟨h1,h2⟩:=(hR.ents k _ he (Gh.knows_blk hb)).elem hb hi';rw[hg]at h1 h2
     refine⟨b,base+i*sz+off,rfl,by simp;omega,fun j hj=>?_⟩
     obtain⟨c,c1,c2,c3⟩:=h2 (off+j) (by omega)
     refine⟨c,by rw[bSp];exact c1,c2,?_⟩
     rw[rP hj hl];exact c3.out
    ·cases h
   ·cases h
  ·cases h
 ·split at h
  ·rename_i ds off hl;simp only[bQi,bQo]at h;obtain⟨rfl,_⟩:=h;cases hx with
   |fp _ _ b base c hh ht ho hv=>
   refine⟨b,base+off,rfl,by simp;omega,fun j hj=>⟨c (off+j),?_,ho _ (by omega),?_⟩⟩
   ·rw[bSp];exact hh _ (by omega)
   ·rw[rP hj hl];exact(hv _ (by omega)).mono (aXd (Gh.none_le G))
  ·cases h
 ·cases h
theorem tX (b off j:Nat):(⟨b,off,.none⟩:Addr).add j=⟨b,off+j,.none⟩:=by
 unfold Addr.add;split
 ·rename_i h;subst h;rfl
 ·rfl
theorem aAd (hu:(P.underlying t).isSome=true)(hn:P.cellsOf t=n)(hl:cs.length=n)
  (hc: ∀j,j<n-> ∃c,w.cell? ⟨b,off+j,.none⟩=some c/\ fM c=true/\ VR T G w (cs.getD j .dead) c) (hv:iL (cY P t) cs=some v):
  ∃x,(loadVar t ⟨b,off,.none⟩).run P w= .ok x w/\ VR T G w v x:=by
 obtain⟨e,he⟩:=bSa.1 hu;obtain⟨i,hi⟩:=lJ he;have h1: ∀j,∃c,j<n->w.cell? ⟨b,off+j,.none⟩=some c/\ fM c=true/\ VR T G w (cs.getD j .dead) c:=fun j=>by
  by_cases hj:j<n
  ·obtain⟨c,hc⟩:=hc j hj;exact⟨c,fun _=>hc⟩
  ·exact⟨undef,fun h=>absurd h hj⟩
 obtain⟨c,hc⟩:=Classical.axiomOfChoice h1;cases ha:cY P t with
 |true=>
  rw[ha]at hv;simp only[iL,if_true,bQi]at hv;subst hv;have hget: ∀j,j<n->((List.range n).map c).toArray.getD j undef=c j:=fun j hj=>by
   simp[bQy,List.getElem?_range hj]
  refine⟨.agg ((List.range n).map c).toArray,?_,?_⟩
  ·simp only[loadVar,Sem.run_bind,aBl (P:=P) (t:=t) (w:=w) (by rw[he];simp),ha,Result.andThen_ok,if_true,fC hi,hn]
   rw[run_loadCells w _ n c (fun j hj=>by rw[tX];exact(hc j hj).1)]
   simp
  ·refine .agg cs _ (by simp[hl]) (fun j hj=>?_) (fun j hj=>?_)<;>rw[hget j (by omega)]
   ·exact(hc j (by omega)).2.1
   ·exact(hc j (by omega)).2.2
 |false=>
  rw[ha]at hv;simp only[iL,bQm,if_false]at hv
  split at hv
  ·simp only[bQi]at hv;subst hv
   simp at hl;subst hl
   have:=hc 0 (by omega)
   refine⟨c 0,?_,by simpa using this.2.2⟩
   simp only[loadVar,Sem.run_bind,aBl (P:=P) (t:=t) (w:=w) (by rw[he];simp),ha,Result.andThen_ok,bQm,if_false]
   have h0:=this.1;rw[bR5]at h0;simp[run_load,h0]
  ·cases hv
theorem bDj (hR:Rel P Ξ B S G st N a w)(ho:o.op= .load t x)(hu:(P.underlying t).isSome=true)(h:aO x=some y)
  (hr:qZ st.en (St.get st.fr y) (P.cellsOf t)=some (cs,rs)) (hv:iL (cY P t) cs=some v):eR P Ξ B S st N a w o d {v:=v,rs:=rs}:=by
 obtain⟨b,off,hx,hl,hc⟩:=aI5 hR (aU hR h) hr;obtain⟨u,hu',hvu⟩:=aAd hu rfl hl hc hv
 refine cF (x:=u) hR ?_ hvu
 simp[execOp,ho,hx,Instr.loadAt,Instr.sureAddr,hu']
theorem bJa (hR:Rel P Ξ B S G st N a w){i:Nat}(ho:o.op= .fieldAddr s x i)(hs:P.underlying s=some (.struct fs))(hf:fs[i]?=some f)
  (hz:P.cellsOf f.type≠0) (h:aO x=some y) (hv:(match St.get st.fr y with
   | .fp cs o=>some {v:= .fp cs (o+f.offset)}
   | .ptr k o=>some {v:= .ptr k (o+f.offset)}
   | .ep k i o=>some {v:= .ep k i (o+f.offset)}
   |_=>none)=some ({v:=v}:Res)):eR P Ξ B S st N a w o d {v:=v}:=by
 have hx:=aU hR h;obtain⟨ti,hti⟩:=aFv hz;have run: ∀b off,a.eval x= .pointer (some ⟨b,off,.none⟩)->(execOp a.eval o).run P w= .ok (.value (.pointer (some ⟨b,off+f.offset,.none⟩))) w:=by
  intro b off he;simp[execOp,ho,he,Instr.fieldAt,run_underlying hs,hf,Instr.sureAddr,fieldPlace,fC hti,hz,tX]
 split at hv<;>simp only[bQi,Res.mk.injEq,reduceCtorEq,and_true]at hv<;>subst hv<;>rename_i he<;>rw[he]at hx
 ·generalize hg:a.eval x=u at hx;cases hx with
  |fp _ _ b base c hh ht ho' hv=>exact cF hR (run _ _ hg) (by rw[bSp];exact .fp _ _ b base c hh ht ho' hv)
 ·generalize hg:a.eval x=u at hx;cases hx with
  |ptr _ _ b hb=>exact cF hR (run _ _ hg) (.ptr _ _ b hb)
 ·generalize hg:a.eval x=u at hx;cases hx with
  |ep _ _ _ b base sz C hb hi=>exact cF hR (run _ _ hg) (by rw[bSp];exact .ep _ _ _ b base sz C hb hi)
theorem bGr (hR:Rel P Ξ B S G st N a w){i:Nat}(ho:o.op= .field s x i)(hs:P.underlying s=some (.struct fs))(hf:fs[i]?=some f)
  (hu:(P.underlying f.type).isSome=true) (h:aO x=some y) (hg:St.get st.fr y= .agg cs) (hl:f.offset+P.cellsOf f.type<=cs.length) (hv:iL (cY P f.type) ((cs.drop f.offset).take (P.cellsOf f.type))=some v):
  eR P Ξ B S st N a w o d {v:=v}:=by
 have hx:=aU hR h;rw[hg]at hx;generalize hgx:a.eval x=u at hx;cases hx with
 |agg _ us hus hou hvu=>
 obtain⟨e,he⟩:=bSa.1 hu;have fin: ∀u,(part f.type us f.offset).run P w= .ok u w->VR (aX B S G w.heap.size) G w v u->eR P Ξ B S st N a w o d {v:=v}:=fun u h1 h2=>
  cF hR (by simp[execOp,ho,hgx,Instr.field,run_underlying hs,hf,asAgg,h1]) h2
 cases ha:cY P f.type with
 |true=>
  rw[ha]at hv;simp only[iL,if_true,bQi]at hv;subst hv;obtain⟨u,h1,h2⟩:=aIz (w:=w) (off:=f.offset) ha rfl hl hus hou hvu;exact fin u h1 h2
 |false=>
  rw[ha]at hv;simp only[iL,bQm,if_false]at hv
  split at hv
  ·rename_i v' hv';simp only[bQi]at hv;subst hv;have hlen:((cs.drop f.offset).take (P.cellsOf f.type)).length=1:=by rw[hv'];rfl
   have hlt:f.offset<cs.length:=by simp at hlen;omega
   have h0:=rP (cs:=cs) (off:=f.offset) (n:=P.cellsOf f.type) (j:=0) (by simp at hlen;omega) hl
   rw[hv']at h0;simp only[bR5,bTi]at h0;exact fin _ (aI0 ha (by omega) (by rw[he];simp)) (by rw[h0];exact hvu _ hlt)
  ·cases hv
theorem yD {n:Int}{u:Value}(h:VR T G w (.int k n) u):u= .int k n:=by cases h;rfl
theorem aQq {x:Value}(hx:VR T G w X x)(h:tP X=some n): ∃a c,x= .slice a n c/\ n<=c:=by
 cases hx<;>simp only[tP,bQi,reduceCtorEq]at h
 ·simp at h;subst h;exact⟨_,_,rfl,bQt _⟩
 ·subst h;exact⟨_,_,rfl,by assumption⟩
 ·simp at h;subst h;exact⟨_,_,rfl,bQt _⟩
 ·subst h;exact⟨_,_,rfl,bQk _⟩
 ·subst h;exact⟨_,_,rfl,bQt _⟩
 ·subst h;exact⟨_,_,rfl,by omega⟩
 ·subst h;exact⟨_,_,rfl,bQt _⟩
 ·subst h;exact⟨_,_,rfl,bQt _⟩
theorem aZ2 (hR:Rel P Ξ B S G st N a w){y:Val}(ho:o.op= .indexAddr t x i)(ht:P.underlying t=some (.slice e))(he:(P.info? e).isSome=true)
  (h1:aO x=some x') (h2:aO i=some i') (hi:St.get st.fr i'= .int k j) (hj:0<=j) (hX:St.get st.fr x'= .fz xs \/St.get st.fr x'= .cl xs) (hy:xs[j.toNat]?=some y) (hsz:y.cells.length=P.cellsOf e):
  eR P Ξ B S st N a w o d {v:= .fp y.cells 0}:=by
 have hx:=aU hR h1;have hi':=aU hR h2;rw[hi]at hi';have hi'':=yD hi';obtain⟨ti,hti⟩:=bSa.1 he;obtain⟨hlt,hget⟩:=aD4 hy;have core: ∀b off sz cap (c:Nat->Nat->Value),a.eval x= .slice (some ⟨b,off,.none⟩) xs.length cap->(∀i,i<xs.length->(xs.getD i .dead).cells.length=sz)->
   (∀i j,i<xs.length->j<sz->w.cell? ⟨b,off+i*sz+j,.none⟩=some (c i j))->(∀i j,i<xs.length->j<sz->aX B S G w.heap.size b (off+i*sz+j))->
   (∀i j,i<xs.length->j<sz->fM (c i j)=true)->(∀i j,i<xs.length->j<sz->VR (aX B S G w.heap.size) Gh.none w ((xs.getD i .dead).cells.getD j .dead) (c i j))->
   eR P Ξ B S st N a w o d {v:= .fp y.cells 0}:=by
  intro b off sz cap c hx hs hc hT ho' hv;have hsz':sz=P.cellsOf e:=by rw[<-hsz,<-hget,hs _ hlt]
  have hl:(j:Int)<xs.length:=by omega
  refine cF (x:= .pointer (some ⟨b,off+j.toNat*sz+0,.none⟩)) hR ?_ (.fp y.cells 0 b (off+j.toNat*sz) (c j.toNat) ?_ ?_ ?_ ?_)
  ·simp[execOp,ho,hx,hi'',Instr.indexAt,asIntOf,run_underlying ht,hj,hl,fC hti,tX,hsz']
  ·intro i hi;exact hc _ i hlt (by omega)
  ·intro i hi;exact hT _ i hlt (by omega)
  ·intro i hi;exact ho' _ i hlt (by omega)
  ·intro i hi;rw[<-hget];exact hv _ i hlt (by omega)
 generalize hg:a.eval x=u at hx;rcases hX with hX|hX<;>rw[hX]at hx<;>cases hx
 ·simp at hy
 ·exact core _ _ _ _ _ hg (by assumption) (by assumption) (by assumption) (by assumption) (by assumption)
 ·simp at hy
 ·exact core _ _ _ _ _ hg (by assumption) (by assumption) (by assumption) (by assumption) (by assumption)
theorem aZ3 (hR:Rel P Ξ B S G st N a w){key:Key}(ho:o.op= .indexAddr t x i)(ht:P.underlying t=some (.slice e))(he:(P.info? e).isSome=true)
  (h1:aO x=some x') (h2:aO i=some i') (hi:St.get st.fr i'= .int k j) (hj:0<=j/\ j<len) (hX:St.get st.fr x'= .bl key off len)
  {ys:List Val} {f:Bool} (hen:st.en key=some (.blk (P.cellsOf e) ys f)) :
  eR P Ξ B S st N a w o d {v:= .ep key (off+j.toNat) 0,rs:=rs}:=by
 have hx:=aU hR h1;have hi':=aU hR h2;rw[hi]at hi';have hi'':=yD hi';obtain⟨ti,hti⟩:=bSa.1 he;generalize hg:a.eval x=u at hx;rw[hX]at hx;cases hx with
 |bl0 _ a h=>omega
 |ble=>omega
 |bl _ _ _ b base sz C hb hl=>
  have hsz':sz=P.cellsOf e:=by
   have hE:=hR.ents _ _ hen (Gh.knows_blk hb);cases hE with
   |nul _ _ hb'=>rw[hb]at hb';cases hb'
   |blk _ _ _ _ _ _ _ _ _ hb'=>rw[hb]at hb';simp only[bQi,bQo]at hb';exact hb'.2.2.1
   |full _ _ _ _ _ hb'=>rw[hb]at hb';simp only[bQi,bQo]at hb';exact hb'.2.2.1
  refine cF (x:= .pointer (some ⟨b,base+(off+j.toNat)*sz+0,.none⟩)) hR ?_ (.ep _ _ _ b base sz C hb (by omega))
  rw[bR8];simp[execOp,ho,hg,hi'',Instr.indexAt,asIntOf,run_underlying ht,hj.1,hj.2,fC hti,tX,hsz',bSp]
theorem bGs (hR:Rel P Ξ B S G st N a w){s:ByteArray}{b:UInt8}(ho:o.op= .index t x i)(ht:P.underlying t=some .string)
  (h1:aO x=some x') (h2:aO i=some i') (hi:St.get st.fr i'= .int k j) (hX:St.get st.fr x'= .str s) (hj:0<=j) (hb:s[j.toNat]?=some b):
  eR P Ξ B S st N a w o d {v:= .int .u8 b.toNat}:=by
 have hx:=aU hR h1;have hi':=aU hR h2;rw[hi]at hi';rw[hX]at hx;have hi'':=yD hi';have hx':a.eval x= .string s:=by generalize a.eval x=u at hx;cases hx;rfl
 refine cF (x:= .int .u8 b.toNat) hR ?_ (.int _ _)
 simp[execOp,ho,hx',hi'',Instr.index,asIntOf,run_underlying ht,hj,hb]
theorem bGt (hR:Rel P Ξ B S G st N a w)(ho:o.op= .index t x i)(ht:P.underlying t=some (.array n e))(hu:(P.underlying e).isSome=true)
  (h1:aO x=some x') (h2:aO i=some i') (hi:St.get st.fr i'= .int k j) (hX:St.get st.fr x'= .agg cs) (hj:0<=j/\ j<n/\ j.toNat*P.cellsOf e+P.cellsOf e<=cs.length)
  (hv:iL (cY P e) ((cs.drop (j.toNat*P.cellsOf e)).take (P.cellsOf e))=some v):eR P Ξ B S st N a w o d {v:=v}:=by
 have hx:=aU hR h1;have hi':=aU hR h2;rw[hi]at hi';rw[hX]at hx;have hi'':=yD hi';generalize hgx:a.eval x=u at hx;cases hx with
 |agg _ us hus hou hvu=>
 obtain⟨e',he'⟩:=bSa.1 hu;obtain⟨ti,hti⟩:=lJ he';have fin: ∀u,(part e us (j.toNat*P.cellsOf e)).run P w= .ok u w->VR (aX B S G w.heap.size) G w v u->eR P Ξ B S st N a w o d {v:=v}:=fun u h1 h2=>
  cF hR (by simp[execOp,ho,hgx,hi'',Instr.index,asIntOf,run_underlying ht,hj.1,hj.2.1,fC hti,h1]) h2
 cases ha:cY P e with
 |true=>
  rw[ha]at hv;simp only[iL,if_true,bQi]at hv;subst hv;obtain⟨u,h1,h2⟩:=aIz (w:=w) (off:=j.toNat*P.cellsOf e) ha rfl hj.2.2 hus hou hvu;exact fin u h1 h2
 |false=>
  rw[ha]at hv;simp only[iL,bQm,if_false]at hv
  split at hv
  ·rename_i v' hv';simp only[bQi]at hv;subst hv;have hlen:((cs.drop (j.toNat*P.cellsOf e)).take (P.cellsOf e)).length=1:=by rw[hv'];rfl
   have hlt:j.toNat*P.cellsOf e<cs.length:=by simp at hlen;omega
   have h0:=rP (cs:=cs) (off:=j.toNat*P.cellsOf e) (n:=P.cellsOf e) (j:=0) (by simp at hlen;omega) hj.2.2
   rw[hv']at h0;simp only[bR5,bTi]at h0;exact fin _ (aI0 ha (by omega) (by rw[he'];simp)) (by rw[h0];exact hvu _ hlt)
  ·cases hv
theorem aMs (hR:Rel P Ξ B S G st N a w){mx:Bool}{y:Operand}{m n:Int}(ho:o.op= .call {callee:= .builtin (if mx then .max else .min),args:= #[x,y],argTypes:=ts})
  (h1:aO x=some x') (h2:aO y=some y') (hX:St.get st.fr x'= .int k m) (hY:St.get st.fr y'= .int k n):
  eR P Ξ B S st N a w o d {v:= .int k (if mx then(if n>m then n else m)else(if n<m then n else m))}:=by
 have hx:=aU hR h1;have hy:=aU hR h2;rw[hX]at hx;rw[hY]at hy;have hx':=yD hx;have hy':=yD hy
 refine cF (x:= .int k (if mx then(if n>m then n else m)else(if n<m then n else m))) hR ?_ (.int _ _)
 cases mx
 ·simp[execOp,ho,resolve,invoke,builtin,Builtin.min_,Builtin.min2,hx',hy']
 ·simp[execOp,ho,resolve,invoke,builtin,Builtin.max_,Builtin.max2,hx',hy']
theorem aG1 {z:Val}(h:tS P t=some z): ∃i v,P.info? t=some i/\ i.zero=some v/\ VR T G w z v:=by
 unfold tS at h
 split at h
 ·rename_i cs hz;obtain⟨i,hi,hz⟩:=bQx.1 hz
  split at h
  ·simp only[bQw]at h;obtain⟨zs,hzs,rfl⟩:=h;obtain⟨h1,h2⟩:=fH hzs;simp only[bSt]at h1;have h3: ∀j (hj:j<zs.length),zZ (cs.getD j undef)=some (zs.getD j .dead):=fun j hj=>by
    have:=h2 j (by simpa using(by omega:j<cs.size)) hj
    simpa[bQn,bQy,hj,show j<cs.size by omega]using this
   exact⟨i,_,hi,hz,.agg zs cs h1.symm (fun j hj=>(nW (G:=G) (w:=w) (T:=T) (h3 j hj)).2) (fun j hj=>(nW (h3 j hj)).1)⟩
  ·cases h
 ·rename_i v _ hz;obtain⟨i,hi,hz⟩:=bQx.1 hz
  split at h
  ·cases h
  ·exact⟨i,v,hi,hz,(nW h).1⟩
 ·cases h
theorem VR.tup2 {u:Val}{x y:Value}(hu:VR T G w u x)(hv:VR T G w v y):VR T G w (.tup [u,v]) (.tuple #[x,y]):=by
 refine .tup _ _ rfl (fun i hi=>?_)
 match i,hi with
 |0,_=>exact hu
 |1,_=>exact hv
theorem aXe (hR:Rel P Ξ B S G st N a w){xt:TypeId}{ok:Bool}{z:Val}(ho:o.op= .typeAssert x xt t ok)(hu:(P.underlying t).isSome=true)(hu': ∀ms,P.underlying t≠some (.interface ms))(hz:tS P t=some z)
  (h1:aO x=some x') (hv:(match St.get st.fr x' with
   | .ifc t' v=>if t'=t then some {v:=if ok then .tup [v,.bool true]else v}else if ok then some {v:= .tup [z,.bool false]}else none
   | .nili=>if ok then some {v:= .tup [z,.bool false]}else none
   |_=>none)=some ({v:=v}:Res)):eR P Ξ B S st N a w o d {v:=v}:=by
 have hx:=aU hR h1;obtain⟨e,he⟩:=bSa.1 hu;obtain⟨i,zv,hi,hzv,hvz⟩:=aG1 (P:=P) (G:=G) (w:=w) (T:=aX B S G w.heap.size) hz;generalize hg:a.eval x=u at hx;have nil:ok=true->u= .nilIface->eR P Ξ B S st N a w o d {v:= .tup [z,.bool false]}:=by
  rintro rfl rfl
  refine cF (x:= .tuple #[zv,.bool false]) hR ?_ (hvz.tup2 (.bool _))
  simp only[execOp,ho,hg,Instr.typeAssert,Sem.run_bind,run_underlying he,Result.andThen_ok];cases e<;>first|exact absurd he (hu' _)|simp[iH hi hzv]
 split at hv
 ·rename_i t' v' he';rw[he']at hx;cases hx with
  |ifc _ _ y hy=>
  split at hv
  ·rename_i ht;subst ht;simp only[bQi,Res.mk.injEq,and_true]at hv;subst hv
   refine cF (x:=if ok then .tuple #[y,.bool true]else y) hR ?_ (by cases ok;exact hy;exact hy.tup2 (.bool _))
   simp only[execOp,ho,hg,Instr.typeAssert,Sem.run_bind,run_underlying he,Result.andThen_ok];cases e<;>first|exact absurd he (hu' _)|(cases ok<;>simp)
  ·rename_i ht
   split at hv
   ·rename_i hok;simp only[bQi,Res.mk.injEq,and_true]at hv;subst hv;subst hok
    refine cF (x:= .tuple #[zv,.bool false]) hR ?_ (hvz.tup2 (.bool _))
    simp only[execOp,ho,hg,Instr.typeAssert,Sem.run_bind,run_underlying he,Result.andThen_ok];cases e<;>first|exact absurd he (hu' _)|simp[ht,iH hi hzv]
   ·cases hv
 ·rename_i he';rw[he']at hx
  split at hv
  ·rename_i hok;simp only[bQi,Res.mk.injEq,and_true]at hv;subst hv;exact nil hok (by cases hx;rfl)
  ·cases hv
 ·cases hv
theorem aOj (hR:Rel P Ξ B S G st N a w)(ho:o.op= .call {callee:= .builtin .len,args:= #[x],argTypes:=ts})(ht:ts[0]?=some t)
  (hu:P.underlying t=some (.slice e)) (h1:aO x=some x') (hl:tP (St.get st.fr x')=some n):eR P Ξ B S st N a w o d {v:= .int .i64 n}:=by
 obtain⟨p,c,hp,_⟩:=aQq (aU hR h1) hl
 refine cF (x:= .int .i64 n) hR ?_ (.int _ _)
 simp[execOp,ho,resolve,invoke,builtin,Builtin.len_,ht,run_underlying hu,hp,goInt]
theorem aTv (hR:Rel P Ξ B S G st N a w){s:ByteArray}(ho:o.op= .call {callee:= .builtin .len,args:= #[x],argTypes:=ts})(ht:ts[0]?=some t)
  (hu:P.underlying t=some .string) (h1:aO x=some x') (hl:St.get st.fr x'= .str s):eR P Ξ B S st N a w o d {v:= .int .i64 s.size}:=by
 have hx:=aU hR h1;rw[hl]at hx;have:a.eval x= .string s:=by generalize a.eval x=u at hx;cases hx;rfl
 refine cF (x:= .int .i64 s.size) hR ?_ (.int _ _)
 simp[execOp,ho,resolve,invoke,builtin,Builtin.len_,ht,run_underlying hu,this,goInt]
def gW (v:Option Value)(dflt n:Nat):Prop:=
 match v with
 |none=>n=dflt
 |some x=> ∃k,x= .int k n
theorem aAe {v:Option Val}{x:Option Value}{dflt top:Nat}(h:iR v dflt top=some n)(hv: ∀u,v=some u-> ∃y,x=some y/\ VR T G w u y)(hn:v=none->x=none):
  gW x dflt n/\ (n<=top \/x=none):=by
 unfold iR at h
 split at h
 ·rw[hn rfl];simp only[bQi]at h;exact⟨h.symm,.inr rfl⟩
 ·rename_i k i
  split at h
  ·rename_i hi;simp only[bQi]at h;subst h;obtain⟨y,hy,hv⟩:=hv _ rfl;rw[hy,yD hv];exact⟨⟨k,by rw[bT0 hi.1]⟩,.inl (by omega)⟩
  ·cases h
 ·cases h
theorem wV {p:Option Addr}{cap:Nat}{lo hi:Option Value}{m:Nat}(ht:P.underlying t=some (.slice e))(he:(P.info? e).isSome=true)
  (hm:gW mx cap m) (hm':m<=cap) (hh:gW hi len h) (hh':h<=m) (hmh:mx≠none->hi≠none) (hl:gW lo 0 l) (hl':l<=h):
  (Instr.sliceAt t (.slice p len cap) lo hi mx).run P w= .ok (.slice (if m=l then p else p.map (·.add (l*P.cellsOf e))) (h-l) (m-l)) w:=by
 obtain⟨ti,hti⟩:=bSa.1 he;have sb: ∀{k:IntKind} {n top:Nat} {c:BoundsCode},n<=top->(Instr.sliceBound (.int k n) top c).run P w= .ok n w:=by
  intro k n top c hle;simp[Instr.sliceBound,asIntOf,hle]
 simp only[Instr.sliceAt,Sem.run_bind,run_underlying ht,Result.andThen_ok,Instr.slice,Instr.sliceBounds];cases mx with
 |none=>
  simp only[gW]at hm;subst hm;cases hi with
  |none=>
   simp only[gW]at hh;subst hh;cases lo with
   |none=>simp only[gW]at hl;subst hl;simp[fC hti]
   |some lv=>obtain⟨k,rfl⟩:=hl;simp[fC hti,sb hl']
  |some hv=>
   obtain⟨kh,rfl⟩:=hh;cases lo with
   |none=>simp only[gW]at hl;subst hl;simp[fC hti,sb hh']
   |some lv=>obtain⟨k,rfl⟩:=hl;simp[fC hti,sb hl',sb hh']
 |some mv=>
  obtain⟨km,rfl⟩:=hm;cases hi with
  |none=>exact absurd rfl (hmh (by simp))
  |some hv=>
   obtain⟨kh,rfl⟩:=hh;cases lo with
   |none=>simp only[gW]at hl;subst hl;simp[fC hti,sb hh',sb hm']
   |some lv=>obtain⟨k,rfl⟩:=hl;simp[fC hti,sb hl',sb hh',sb hm']
theorem VR.part {c:Nat->Nat->Value}(hs: ∀i,i<xs.length->(xs.getD i .dead).cells.length=sz)
  (hc: ∀i j,i<xs.length->j<sz->w.cell? ⟨b,off+i*sz+j,.none⟩=some (c i j)) (ht: ∀i j,i<xs.length->j<sz->T b (off+i*sz+j)) (ho: ∀i j,i<xs.length->j<sz->fM (c i j)=true)
  (hv: ∀i j,i<xs.length->j<sz->VR T Gh.none w ((xs.getD i .dead).cells.getD j .dead) (c i j))  (hl:l<=h) (hh:h<=xs.length):
  (∀cap,h-l<=cap->VR T G w (.fz ((xs.take h).drop l)) (.slice (some ⟨b,off+l*sz,.none⟩) (h-l) cap))/\ VR T G w (.cl ((xs.take h).drop l)) (.slice (some ⟨b,off+l*sz,.none⟩) (h-l) (h-l)):=by
 have hlen:((xs.take h).drop l).length=h-l:=by simp;omega
 have hget: ∀i,i<h-l->((xs.take h).drop l).getD i .dead=xs.getD (l+i) .dead:=by
  intro i hi;simp only[bQn,bTq,List.getElem?_take,show l+i<h by omega,if_true]
 have hoff: ∀i j,off+l*sz+i*sz+j=off+(l+i)*sz+j:=fun i j=>by rw[bR8];omega
 have s1: ∀i,i<((xs.take h).drop l).length->(((xs.take h).drop l).getD i .dead).cells.length=sz:=fun i hi=>by rw[hlen]at hi;rw[hget i hi];exact hs _ (by omega)
 have s2: ∀i j,i<((xs.take h).drop l).length->j<sz->w.cell? ⟨b,off+l*sz+i*sz+j,.none⟩=some (c (l+i) j):=fun i j hi hj=>by rw[hlen]at hi;rw[hoff];exact hc _ _ (by omega) hj
 have s3: ∀i j,i<((xs.take h).drop l).length->j<sz->T b (off+l*sz+i*sz+j):=fun i j hi hj=>by rw[hlen]at hi;rw[hoff];exact ht _ _ (by omega) hj
 have s4: ∀i j,i<((xs.take h).drop l).length->j<sz->fM (c (l+i) j)=true:=fun i j hi hj=>by rw[hlen]at hi;exact ho _ _ (by omega) hj
 have s5: ∀i j,i<((xs.take h).drop l).length->j<sz->VR T Gh.none w ((((xs.take h).drop l).getD i .dead).cells.getD j .dead) (c (l+i) j):=fun i j hi hj=>by rw[hlen]at hi;rw[hget i hi];exact hv _ _ (by omega) hj
 refine⟨fun cap hcap=>?_,?_⟩
 ·have:=VR.fz (G:=G) ((xs.take h).drop l) b (off+l*sz) sz cap (fun i j=>c (l+i) j) (by rw[hlen];exact hcap) s1 s2 s3 s4 s5
  rwa [hlen]at this
 ·have:=VR.cl (G:=G) ((xs.take h).drop l) b (off+l*sz) sz (fun i j=>c (l+i) j) s1 s2 s3 s4 s5
  rwa [hlen]at this
theorem yE {size:Nat}(hs: ∀i,i<xs.length->(xs.getD i .dead).cells.length=sz)(h:cT size xs=true):xs=[] \/sz=size:=by
 cases xs with
 |nil=>exact .inl rfl
 |cons y ys=>
  have:=hs 0 (by simp)
  simp[cT]at h
  simp at this
  exact .inr (this.symm.trans h)
theorem wW {x:Option Operand}{y:Option Opd}(h:oS x=some y):y.map (St.get st.fr)=none->x.map a.eval=none:=by
 cases x<;>simp[oS]at h<;>intro hn
 ·rfl
 ·obtain⟨z,_,rfl⟩:=h;simp at hn
theorem wX (hR:Rel P Ξ B S G st N a w){x:Option Operand}{y:Option Opd}(h:oS x=some y): ∀u,y.map (St.get st.fr)=some u-> ∃z,x.map a.eval=some z/\ VR (aX B S G w.heap.size) G w u z:=by
 intro u hu;cases x with
 |none=>simp[oS]at h;subst h;simp at hu
 |some x=>
  simp only[oS,bQw]at h;obtain⟨z,hz,rfl⟩:=h
  simp at hu;subst hu
  exact⟨_,rfl,aU hR hz⟩
inductive Fro (T:Nat->Nat->Prop) (w:World) (xs:List Val) (clip:Bool):Value->Prop
 |nil (p:Option Addr) (cap:Nat) (h:xs=[]) (hc:clip=true->cap=0):Fro T w xs clip (.slice p 0 cap)
 |some (b off sz cap:Nat) (c:Nat->Nat->Value) (hc:xs.length<=cap) (hcl:clip=true->cap=xs.length) (hs: ∀i,i<xs.length->(xs.getD i .dead).cells.length=sz)
   (h: ∀i j,i<xs.length->j<sz->w.cell? ⟨b,off+i*sz+j,.none⟩= .some (c i j)) (ht: ∀i j,i<xs.length->j<sz->T b (off+i*sz+j)) (ho: ∀i j,i<xs.length->j<sz->fM (c i j)=true)
   (hv: ∀i j,i<xs.length->j<sz->VR T Gh.none w ((xs.getD i .dead).cells.getD j .dead) (c i j)):Fro T w xs clip (.slice (.some ⟨b,off,.none⟩) xs.length cap)
theorem aTw {x:Value}(h:VR T G w (.fz xs) x):Fro T w xs false x:=by
 cases h with
 |fz0 p cap=>exact .nil p cap rfl (by simp)
 |fz _ b off sz cap c hc hs h ht ho hv=>exact .some b off sz cap c hc (by simp) hs h ht ho hv
theorem aI6 {x:Value}(h:VR T G w (.cl xs) x):Fro T w xs true x:=by
 cases h with
 |cl0 p=>exact .nil p 0 rfl (by simp)
 |cl _ b off sz c hs h ht ho hv=>exact .some b off sz _ c (bQk _) (by simp) hs h ht ho hv
theorem aMt {clip:Bool}{x:Value}{lo hi:Option Value}(ht:P.underlying t=some (.slice e))(he:(P.info? e).isSome=true)(hx:Fro T w xs clip x)
  (hh:gW hi xs.length h) (hh':h<=xs.length) (hl:gW lo 0 l) (hl':l<=h) (hsz:l=0 \/cT (P.cellsOf e) xs=true):
  (mx=none-> ∃y,(Instr.sliceAt t x lo hi mx).run P w= .ok y w/\ VR T G w (.fz ((xs.take h).drop l)) y/\ (clip=true->h=xs.length->VR T G w (.cl ((xs.take h).drop l)) y))/\
  (∀m,m<=xs.length->h<=m->gW mx 0 m->mx≠none->hi≠none-> ∃y,(Instr.sliceAt t x lo hi mx).run P w= .ok y w/\ VR T G w (.fz ((xs.take h).drop l)) y/\ (m=h->VR T G w (.cl ((xs.take h).drop l)) y)):=by
 cases hx with
 |nil p cap hn hc=>
  subst hn
  simp at hh';subst hh';simp at hl';subst hl'
  refine⟨fun hmx=>?_,fun m hm hm' hmb hmx hhi=>?_⟩
  ·subst hmx
   refine⟨_,wV ht he (m:=cap) rfl (bQk _) hh (bQt _) (by simp) hl (bQk _),?_,fun hcl _=>?_⟩
   ·simp only[bQq,List.drop_nil,Nat.sub_zero];exact .fz0 _ _
   ·rw[hc hcl];simp only[bQq,List.drop_nil,if_true];exact .cl0 _
  ·simp at hm;subst hm
   have hmb':gW mx cap 0:=by
    cases mx with
    |none=>exact absurd rfl hmx
    |some mv=>exact hmb
   refine⟨_,wV ht he hmb' (bQt _) hh (bQk _) (fun _=>hhi) hl (bQk _),?_,fun _=>?_⟩
   ·simp only[bQq,List.drop_nil,if_true];exact .fz0 _ _
   ·simp only[bQq,List.drop_nil,if_true];exact .cl0 _
 |some b off sz cap c hc hcl hs hcell hT ho hv=>
  have hmul:l*P.cellsOf e=l*sz \/xs=[]:=by
   rcases hsz with rfl|hsz
   ·simp
   ·rcases yE hs hsz with h0|h0
    ·exact .inr h0
    ·subst h0;exact .inl rfl
  obtain⟨p1,p2⟩:=VR.part (G:=G) hs hcell hT ho hv hl' hh';have hempty: ∀m,m=l->h<=m->(xs.take h).drop l=[]:=fun m hm hm'=>by
   apply List.drop_eq_nil_of_le;simp;omega
  have fin: ∀m,h<=m->(VR T G w (.fz ((xs.take h).drop l)) (.slice (if m=l then some ⟨b,off,.none⟩else(some (⟨b,off,.none⟩:Addr)).map (·.add (l*P.cellsOf e))) (h-l) (m-l)))/\
    (m=h->VR T G w (.cl ((xs.take h).drop l)) (.slice (if m=l then some ⟨b,off,.none⟩else(some (⟨b,off,.none⟩:Addr)).map (·.add (l*P.cellsOf e))) (h-l) (m-l))):=by
   intro m hm
   by_cases hml:m=l
   ·have h0:h-l=0:=by omega
    rw[hempty m hml hm,h0];exact⟨.fz0 _ _,fun e=>by rw[show m-l=0 by omega];exact .cl0 _⟩
   ·rw[if_neg hml,bRd,tX];rcases hmul with hmul|hnil
    ·rw[hmul];exact⟨p1 _ (by omega),fun e=>by subst e;exact p2⟩
    ·subst hnil
     simp at hh';subst hh';simp at hl';subst hl'
     simp only[bQq,List.drop_nil,Nat.sub_zero];exact⟨.fz0 _ _,fun e=>by subst e;exact .cl0 _⟩
  refine⟨fun hmx=>?_,fun m hm hm' hmb hmx hhi=>?_⟩
  ·subst hmx;obtain⟨f1,f2⟩:=fin cap (by omega)
   exact⟨_,wV ht he (m:=cap) rfl (bQk _) hh (by omega) (by simp) hl hl',f1,fun hcl' hlen=>f2 (by rw[hcl hcl',hlen])⟩
  ·have hmb':gW mx cap m:=by
    cases mx with
    |none=>exact absurd rfl hmx
    |some mv=>exact hmb
   obtain⟨f1,f2⟩:=fin m hm';exact⟨_,wV ht he hmb' (by omega) hh hm' (fun _=>hhi) hl hl',f1,f2⟩
theorem aZ4 (hR:Rel P Ξ B S G st N a w){mx:Option Operand}{mx':Option Opd}(ho:o.op= .slice t x lo hi mx)(ht:P.underlying t=some (.slice e))(he:(P.info? e).isSome=true)
  (h1:aO x=some x') (h2:oS lo=some lo') (h3:oS hi=some hi') (h4:oS mx=some mx')  
  (hv:eval n call 0 d (st.cnt 0 d) st.en (St.get st.fr) (.slice false (P.cellsOf e) x' lo' hi' mx')=some r):eR P Ξ B S st N a w o d r:=by
 have hx:=aU hR h1;have bl: ∀{dflt top n:Nat},iR (lo'.map (St.get st.fr)) dflt top=some n->gW (lo.map a.eval) dflt n:=fun h=>(aAe h (wX hR h2) (wW h2)).1
 have bh: ∀{dflt top n:Nat},iR (hi'.map (St.get st.fr)) dflt top=some n->gW (hi.map a.eval) dflt n:=fun h=>(aAe h (wX hR h3) (wW h3)).1
 have le_of: ∀{v:Option Val} {dflt top n:Nat},iR v dflt top=some n->dflt<=top->n<=top:=by
  intro v dflt top n h hd;unfold iR at h
  split at h
  ·simp at h;omega
  ·split at h
   ·simp at h;omega
   ·cases h
  ·cases h
 have run: ∀{y:Value},(Instr.sliceAt t (a.eval x) (lo.map a.eval) (hi.map a.eval) (mx.map a.eval)).run P w= .ok y w->(execOp a.eval o).run P w= .ok (.value y) w:=fun h=>by
  simp only[execOp,ho,Sem.run_bind,h,Result.andThen_ok,Sem.run_pure]
 have two: ∀{xs:List Val} {clip:Bool} {l h:Nat},Fro (aX B S G w.heap.size) w xs clip (a.eval x)->mx'=none->iR (hi'.map (St.get st.fr)) xs.length xs.length=some h->iR (lo'.map (St.get st.fr)) 0 h=some l->
   (l=0 \/cT (P.cellsOf e) xs=true)->eR P Ξ B S st N a w o d {v:= .fz ((xs.take h).drop l)}/\ (clip=true->h=xs.length->eR P Ξ B S st N a w o d {v:= .cl ((xs.take h).drop l)}):=by
  intro xs clip l h hf hm hb1 hb2 hsz;obtain⟨y,hy,v1,v2⟩:=(aMt (G:=G) ht he hf (bh hb1) (le_of hb1 (bQk _)) (bl hb2) (le_of hb2 (bQt _)) hsz).1 (wW (st:=st) h4 (by rw[hm];rfl))
  exact⟨cF hR (run hy) v1,fun hc hl=>cF hR (run hy) (v2 hc hl)⟩
 have three: ∀{xs:List Val} {clip:Bool} {u:Opd} {r:Res},Fro (aX B S G w.heap.size) w xs clip (a.eval x)->mx'=some u->
   aIt (P.cellsOf e) xs (lo'.map (St.get st.fr)) (hi'.map (St.get st.fr)) (St.get st.fr u)=some r->eR P Ξ B S st N a w o d r:=by
  intro xs clip u r hf hm h;unfold aIt at h
  split at h
  ·rename_i m hbm
   split at h
   ·cases h
   ·rename_i hi0 hhi
    split at h
    ·rename_i hh hb1
     split at h
     ·rename_i l hb2
      split at h
      ·rename_i hsz;simp only[bQi]at h;subst h;have hm2:=wX hR h4 (St.get st.fr u) (by rw[hm];rfl)
       obtain⟨mv,hmv,hvr⟩:=hm2;obtain⟨hmb,_⟩:=aAe (x:=mx.map a.eval) hbm (fun z hz=>by simp at hz;subst hz;exact⟨mv,hmv,hvr⟩) (by simp)
       have hi1:=wX hR h3 hi0 hhi;obtain⟨hiv,hiv',_⟩:=hi1;have hbh:gW (hi.map a.eval) xs.length hh:=by
        have:=bh hb1;rw[hiv']at this⊢;exact this
       obtain⟨y,hy,v1,v2⟩:=(aMt (G:=G) ht he hf hbh (by have:=le_of hb1 (bQt _);have:=le_of hbm (bQt _);omega) (bl hb2) (le_of hb2 (bQt _)) hsz).2 m (le_of hbm (bQt _)) (le_of hb1 (bQt _)) hmb (by rw[hmv];simp) (by rw[hiv'];simp)
       by_cases hmh:m=hh
       ·rw[if_pos hmh];exact cF hR (run hy) (v2 hmh)
       ·rw[if_neg hmh];exact cF hR (run hy) v1
      ·cases h
     ·cases h
    ·cases h
  ·cases h
 simp only[eval,bQm,if_false]at hv
 split at hv
 ·rename_i xs hX;rw[hX]at hx
  split at hv
  ·split at hv
   ·rename_i h hb1
    split at hv
    ·rename_i l hb2
     split at hv
     ·rename_i hsz;simp only[bQi]at hv;subst hv;exact(two (aTw hx) rfl hb1 hb2 hsz).1
     ·cases hv
    ·cases hv
   ·cases hv
  ·exact three (aTw hx) rfl hv
 ·rename_i xs hX;rw[hX]at hx
  split at hv
  ·split at hv
   ·rename_i h hb1
    split at hv
    ·rename_i l hb2
     split at hv
     ·rename_i hsz;simp only[bQi]at hv;subst hv;obtain⟨t1,t2⟩:=two (aI6 hx) rfl hb1 hb2 hsz
      by_cases hlen:h=xs.length
      ·rw[if_pos hlen];have:=t2 rfl hlen
       rwa [hlen,bR1]at this
      ·rw[if_neg hlen];exact t1
     ·cases hv
    ·cases hv
   ·cases hv
  ·exact three (aI6 hx) rfl hv
 ·rename_i k off len hX;rw[hX]at hx
  split at hv
  ·split at hv
   ·rename_i h hb1
    split at hv
    ·rename_i l hb2
     split at hv
     ·rename_i sz ys f hen
      split at hv
      ·rename_i hsz;simp only[bQi]at hv;subst hv;have hh:=le_of hb1 (bQk _);have hl:=le_of hb2 (bQt _);have hmx:mx.map a.eval=none:=wW (st:=st) h4 rfl;generalize hg:a.eval x=u at hx;have run': ∀{p:Option Addr} {cap:Nat},u= .slice p len cap->len<=cap->(execOp a.eval o).run P w= .ok (.value (.slice (if cap=l then p else p.map (·.add (l*P.cellsOf e))) (h-l) (cap-l))) w:=by
        intro p cap hu hc
        refine run ?_
        rw[hg,hu];exact wV ht he (m:=cap) (by rw[hmx];rfl) (bQk _) (bh hb1) (by omega) (by rw[hmx];simp) (bl hb2) hl
       cases hx with
       |bl0 _ p hb=>
        simp at hh;subst hh;simp at hl;subst hl
        exact cF hR (run' rfl (bQk _)) (by simp only[Nat.sub_zero,bR5];exact .bl0 _ _ hb)
       |ble _ p b base sz' C hb=>
        simp at hh;subst hh;simp at hl;subst hl
        exact cF hR (run' rfl (bQk _)) (by simp only[Nat.sub_zero,bR5];exact .ble _ _ _ _ _ _ hb)
       |bl _ _ _ b base sz' C hb hC=>
        have hsz':sz'=sz:=by
         have hE:=hR.ents _ _ hen (Gh.knows_blk hb);cases hE with
         |nul _ _ hb'=>rw[hb]at hb';cases hb'
         |blk _ _ _ _ _ _ _ _ _ hb'=>rw[hb]at hb';simp only[bQi,bQo]at hb';exact hb'.2.2.1
         |full _ _ _ _ _ hb'=>rw[hb]at hb';simp only[bQi,bQo]at hb';exact hb'.2.2.1
        subst hsz'
        refine cF hR (run' rfl (by omega)) ?_
        by_cases hcl:C-off=l
        ·rw[if_pos hcl,show h-l=0 by omega,show C-off-l=0 by omega,show off+l=C by omega]
         exact .ble _ _ b base _ C hb
        ·rw[if_neg hcl,bRd,tX];have hadr:base+off*sz'+l*P.cellsOf e=base+(off+l)*sz':=by
          rcases hsz with rfl|rfl
          ·simp
          ·rw[bR8];omega
         rw[hadr,show C-off-l=C-(off+l)by omega]
         exact .bl _ _ _ b base _ C hb (by omega)
      ·cases hv
     ·cases hv
    ·cases hv
   ·cases hv
  ·cases hv
 ·cases hv
theorem aOk (hR:Rel P Ξ B S G st N a w)(ho:o.op= .slice t x lo hi none)(ht:P.underlying t=some .string)
  (h1:aO x=some x') (h2:oS lo=some lo') (h3:oS hi=some hi')  
  (hv:eval n call 0 d (st.cnt 0 d) st.en (St.get st.fr) (.slice true 1 x' lo' hi' none)=some r):eR P Ξ B S st N a w o d r:=by
 have hx:=aU hR h1;simp only[eval,if_true,Option.map_none]at hv;generalize hg:a.eval x=u at hx
 split at hv
 case h_2=>cases hv
 rename_i s hX _;rw[hX]at hx;cases hx with
 |str=>
 split at hv
 case h_2=>cases hv
 rename_i h hb1;obtain⟨l,hb2,rfl⟩:=bQw.1 hv;obtain⟨bh,lh⟩:=aAe hb1 (wX hR h3) (wW h3);obtain⟨bl,ll⟩:=aAe hb2 (wX hR h2) (wW h2);have sb: ∀{k:IntKind} {n top:Nat} {c:BoundsCode},n<=top->(Instr.sliceBound (.int k n) top c).run P w= .ok n w:=by
  intro k n top c hle;simp[Instr.sliceBound,asIntOf,hle]
 have hh:h<=s.size:=by
  rcases lh with h0|h0
  ·exact h0
  ·rw[h0]at bh;simp only[gW]at bh;omega
 have hl:l<=h:=by
  rcases ll with h0|h0
  ·exact h0
  ·rw[h0]at bl;simp only[gW]at bl;omega
 refine cF (x:= .string (s.extract l h)) hR ?_ (.str _)
 have run:(Instr.sliceAt t (.string s) (lo.map a.eval) (hi.map a.eval) none).run P w= .ok (.string (s.extract l h)) w:=by
  simp only[Instr.sliceAt,Sem.run_bind,run_underlying ht,Result.andThen_ok,Instr.slice,Instr.sliceBounds];generalize hi.map a.eval=hiv at bh;generalize lo.map a.eval=lov at bl;cases hiv with
  |none=>
   simp only[gW]at bh;subst bh;cases lov with
   |none=>simp only[gW]at bl;subst bl;simp
   |some lv=>obtain⟨k,rfl⟩:=bl;simp[sb hl]
  |some hv=>
   obtain⟨kh,rfl⟩:=bh;cases lov with
   |none=>simp only[gW]at bl;subst bl;simp[sb hh]
   |some lv=>obtain⟨k,rfl⟩:=bl;simp[sb hl,sb hh]
 simp[execOp,ho,hg,run]
end
structure CR (T:Nat->Nat->Prop) (G:Gh) (w:World) (cs:List Val) (us:Array Value):Prop where
 size:us.size=cs.length
 one: ∀i,i<cs.length->fM (us.getD i undef)=true
 vr: ∀i,i<cs.length->VR T G w (cs.getD i .dead) (us.getD i undef)
theorem oQ : ∀(vs:List Val) (cs:List Val) (off:Nat),(setCells cs off vs).length=cs.length
 |[],_,_=>rfl
 |v::vs,cs,off=>by rw[setCells,oQ];simp
theorem yF : ∀(vs:List Val) (cs:List Val) (off i:Nat),off+vs.length<=cs.length->(setCells cs off vs)[i]?=if off<=i/\ i<off+vs.length then vs[i-off]? else cs[i]?
 |[],cs,off,i,_=>by simp[setCells];omega
 |v::vs,cs,off,i,h=>by
  simp only[bQu]at h;rw[setCells,yF vs _ _ _ (by simp;omega)]
  by_cases h1:off+1<=i/\ i<off+1+vs.length
  ·rw[if_pos h1,if_pos (by simp;omega),show i-off=(i-(off+1))+1 by omega,bTz]
  ·rw[if_neg h1]
   by_cases h2:i=off
   ·subst h2;rw[if_pos (by simp)];simp[bTb,show i<cs.length by omega]
   ·have h3: ¬off=i:=fun e=>h2 e.symm
    rw[if_neg (by simp;omega)];simp[bTb,h3]
theorem CR.set {us xs:Array Value}(h:CR T G w cs us)(hv:CR T G w vs xs)(hl:off+vs.length<=cs.length):
  CR T G w (setCells cs off vs) (wr us off xs.toList):=by
 have e1: ∀i,i<cs.length->(setCells cs off vs).getD i .dead=if off<=i/\ i<off+vs.length then vs.getD (i-off) .dead else cs.getD i .dead:=by
  intro i hi;simp only[bQn,yF vs cs off i hl]
  split<;>rfl
 have e2: ∀i,i<cs.length->(wr us off xs.toList).getD i undef=if off<=i/\ i<off+vs.length then xs.getD (i-off) undef else us.getD i undef:=by
  intro i hi;have hx:xs.toList.length=vs.length:=by simp[hv.size]
  simp only[bQy,aCz xs.toList us off i (by rw[hx,h.size];exact hl),hx]
  split<;>simp
 refine⟨by rw[aD2,oQ,h.size],fun i hi=>?_,fun i hi=>?_⟩<;>rw[oQ]at hi
 ·rw[e2 i hi];split
  ·exact hv.one _ (by omega)
  ·exact h.one _ hi
 ·rw[e1 i hi,e2 i hi];split
  ·exact hv.vr _ (by omega)
  ·exact h.vr _ hi
theorem aOl : ∀(l:List Value) (k off:Nat) (c:Array Value),(l.zipIdx k).foldl (fun(cs:Array Value) (p:Value×Nat)=>cs.setIfInBounds (off+p.2) p.1) c=wr c (off+k) l
 |[],_,_,_=>rfl
 |v::l,k,off,c=>by
  simp only[List.zipIdx_cons,bSv,wr];rw[aOl l (k+1) off];rfl
variable {parts:Array (Nat×Operand)}{ps:List (Nat×Nat×Opd)}
section
variable {o:Oper}
theorem VR.cr {x:Value}(h:VR T G w v x)(h1:v.one=true):CR T G w v.cells x.cells:=
 let ⟨a,b,c⟩:=h.cells (fun vs e=>by rw[e]at h1;cases h1)
 ⟨a,b,c⟩
theorem aC1 {T:Nat->Nat->Prop}{place:Nat->Option (Nat×Nat)}: ∀(ps:List (Nat×Value)) (qs:List (Nat×Nat×Val)) (cs:List Val) (us:Array Value) (r:List Val),qs.length=ps.length->
  (∀i (h:i<ps.length) (h':i<qs.length),place ps[i].1=some (qs[i].1,qs[i].2.1)/\ VR T G w qs[i].2.2 ps[i].2)->CR T G w cs us->sF cs qs=some r-> ∃us',Instr.fill place us ps=some us'/\ CR T G w r us'
 |[],[],cs,us,r,_,_,hc,h=>by simp only[sF,bQi]at h;subst h;exact⟨us,rfl,hc⟩
 |[],_::_,_,_,_,h,_,_,_=>by simp at h
 |_::_,[],_,_,_,h,_,_,_=>by simp at h
 |(i,x)::ps,(off,size,v)::qs,cs,us,r,hl,hp,hc,h=>by
  simp only[sF]at h
  split at h
  ·rename_i hcond;obtain⟨hp0,hv0⟩:=hp 0 (by simp) (by simp)
   simp only[List.getElem_cons_zero]at hp0 hv0;have hcr:=hv0.cr hcond.1;have hsz:x.cells.size=size:=by rw[hcr.size];exact hcond.2.1
   have hfold:(x.cells.zipIdx.foldl (fun cs (c,j)=>cs.setIfInBounds (off+j) c) us)=wr us off x.cells.toList:=by
    rw[<-Array.foldl_toList,Array.toList_zipIdx];exact aOl x.cells.toList 0 off us
   obtain⟨us',h1,h2⟩:=aC1 ps qs _ (wr us off x.cells.toList) r (by simpa using hl) (fun j hj hj'=>hp (j+1) (by simp;omega) (by simp;omega)) (hc.set hcr (by rw[hcond.2.1];exact hcond.2.2)) h
   refine⟨us',?_,h2⟩
   simp only[Instr.fill,hp0,hsz];rw[if_neg (by simp[hc.size];exact hcond.2.2),hfold]
   exact h1
  ·cases h
theorem aTx {fs:List Field}(h:fs.all (fun f=>(P.info? f.type).isSome)=true):(fs.mapM (fun f=>do pure (f.offset,<-sizeOf f.type):Field->Sem (Nat×Nat))).run P w= .ok (fs.map fun f=>(f.offset,P.cellsOf f.type)) w:=by
 induction fs with
 |nil=>rfl
 |cons f fs ih=>
  simp only[bSs,bQj]at h;obtain⟨ti,hti⟩:=bSa.1 h.1;simp only[List.mapM_cons,Sem.run_bind,fC hti,Result.andThen_ok,ih h.2,Sem.run_pure,bRj]
theorem aOm (h:iV P t=some z): ∃i v,P.info? t=some i/\ i.zero=some v/\ CR T G w z v.cells:=
 let ⟨i,v,a,b,c,e,f⟩:=tW (P:=P) (G:=G) (w:=w) (T:=T) h
 ⟨i,v,a,b,c,e,f⟩
theorem aAf {α:Type}(hR:Rel P Ξ B S G st N a w){f:Nat×Operand->Option α}{get:α->Opd}{ps:List (Nat×Operand)}{qs:List α}(h:cP f ps=some qs)(hg: ∀p q,f p=some q->aO p.2=some (get q)):
  qs.length=ps.length/\ ∀i (h:i<ps.length) (h':i<qs.length),f ps[i]=some qs[i]/\ VR (aX B S G w.heap.size) G w (St.get st.fr (get qs[i])) (a.eval ps[i].2):=by
 obtain⟨h1,h2⟩:=fH h;exact⟨h1,fun i hi hi'=>⟨h2 i hi hi',aU hR (hg _ _ (h2 i hi hi'))⟩⟩
theorem aH0 (hR:Rel P Ξ B S G st N a w)(ho:o.op= .build t parts)(ht:P.underlying t=some (.struct fs))
  (hfs:fs.toList.all (fun f=>(P.info? f.type).isSome)=true) (hz:iV P t=some z)
  (hp:cP (fun(p:Nat×Operand)=>(do let f<-fs[p.1]?;pure (f.offset,P.cellsOf f.type,<-aO p.2):Option (Nat×Nat×Opd))) parts.toList=some ps)
  (hv:sF z (ps.map fun p=>(p.1,p.2.1,St.get st.fr p.2.2))=some cs):eR P Ξ B S st N a w o d {v:= .agg cs}:=by
 obtain⟨ti,zv,hti,hzv,hcr⟩:=aOm (P:=P) (G:=G) (w:=w) (T:=aX B S G w.heap.size) hz;have hpp: ∀(p:Nat×Operand) (q:Nat×Nat×Opd),(do let f<-fs[p.1]?;pure (f.offset,P.cellsOf f.type,<-aO p.2):Option (Nat×Nat×Opd))=some q-> ∃f,fs[p.1]?=some f/\ q.1=f.offset/\ q.2.1=P.cellsOf f.type/\ aO p.2=some q.2.2:=by
  intro p q h;simp only[bQ6,bQx,bQ8,bQi]at h;obtain⟨f,hf,y,hy,rfl⟩:=h;exact⟨f,hf,rfl,rfl,hy⟩
 obtain⟨l1,l2⟩:=aAf (get:=fun q=>q.2.2) hR hp (fun p q h=>let ⟨_,_,_,_,e⟩:=hpp p q h;e)
 obtain⟨us,h1,h2⟩:=aC1 (G:=G) (w:=w) (place:=fun i=>(fs.toList.map fun f=>(f.offset,P.cellsOf f.type)).toArray[i]?) (parts.toList.map fun(p:Nat×Operand)=>(p.1,a.eval p.2)) (ps.map fun p=>(p.1,p.2.1,St.get st.fr p.2.2)) z zv.cells cs
  (by simp[l1]) (fun i hi hi'=>by
   simp only[bQl]at hi hi';obtain⟨e1,e2⟩:=l2 i hi hi';obtain⟨f,g1,g2,g3,g4⟩:=hpp _ _ e1;simp only[List.getElem_map]
   refine⟨?_,e2⟩
   rw[g2,g3];simp only[List.getElem?_toArray,List.getElem?_map,Array.getElem?_toList,g1,bRd]) hcr hv
 refine cF (x:= .agg us) hR ?_ (.agg cs us h2.size h2.one h2.vr)
 have hpl:(fs.mapM (fun f=>do pure (f.offset,<-sizeOf f.type):Field->Sem (Nat×Nat))).run P w= .ok (fs.toList.map fun f=>(f.offset,P.cellsOf f.type)).toArray w:=by
  rw[bT5];simp only[Sem.run_map,aTx hfs,Result.andThen_ok]
 simp only[execOp,ho,Instr.build,Sem.run_bind,iH hti hzv,Result.andThen_ok,run_underlying ht,hpl];rw[show(parts.map fun(i,x)=>(i,a.eval x)).toList=parts.toList.map fun(p:Nat×Operand)=>(p.1,a.eval p.2)by simp,h1]
 simp
theorem aI7 (hR:Rel P Ξ B S G st N a w)(ho:o.op= .build t parts)(ht:P.underlying t=some (.array n e))
  (he:(P.info? e).isSome=true) (hz:iV P t=some z)
  (hp:cP (fun(p:Nat×Operand)=>(do pure (p.1*P.cellsOf e,P.cellsOf e,<-aO p.2):Option (Nat×Nat×Opd))) parts.toList=some ps)
  (hv:sF z (ps.map fun p=>(p.1,p.2.1,St.get st.fr p.2.2))=some cs):eR P Ξ B S st N a w o d {v:= .agg cs}:=by
 obtain⟨te,hte⟩:=bSa.1 he;obtain⟨ti,zv,hti,hzv,hcr⟩:=aOm (P:=P) (G:=G) (w:=w) (T:=aX B S G w.heap.size) hz;have hpp: ∀(p:Nat×Operand) (q:Nat×Nat×Opd),(do pure (p.1*P.cellsOf e,P.cellsOf e,<-aO p.2):Option (Nat×Nat×Opd))=some q->q.1=p.1*P.cellsOf e/\ q.2.1=P.cellsOf e/\ aO p.2=some q.2.2:=by
  intro p q h;simp only[bQ6,bQx,bQ8,bQi]at h;obtain⟨y,hy,rfl⟩:=h;exact⟨rfl,rfl,hy⟩
 obtain⟨l1,l2⟩:=aAf (get:=fun q=>q.2.2) hR hp (fun p q h=>(hpp p q h).2.2)
 obtain⟨us,h1,h2⟩:=aC1 (G:=G) (w:=w) (place:=fun i=>some (i*P.cellsOf e,P.cellsOf e)) (parts.toList.map fun(p:Nat×Operand)=>(p.1,a.eval p.2)) (ps.map fun p=>(p.1,p.2.1,St.get st.fr p.2.2)) z zv.cells cs
  (by simp[l1]) (fun i hi hi'=>by
   simp only[bQl]at hi hi';obtain⟨e1,e2⟩:=l2 i hi hi';obtain⟨g2,g3,g4⟩:=hpp _ _ e1;simp only[List.getElem_map];exact⟨by rw[g2,g3],e2⟩) hcr hv
 refine cF (x:= .agg us) hR ?_ (.agg cs us h2.size h2.one h2.vr)
 simp only[execOp,ho,Instr.build,Sem.run_bind,iH hti hzv,Result.andThen_ok,run_underlying ht,fC hte];rw[show(parts.map fun(i,x)=>(i,a.eval x)).toList=parts.toList.map fun(p:Nat×Operand)=>(p.1,a.eval p.2)by simp,h1]
 simp
theorem aOn (hR:Rel P Ξ B S G st N a w){y:Operand}{k:Key}(ho:o.op= .store t x y)(hi:(P.info? t).isSome=true)(h1:aO x=some x')(h2:aO y=some y')
  (h3:(St.get st.fr y').one=true) (h4:(St.get st.fr y').cells.length=P.cellsOf t) (hX:St.get st.fr x'= .ptr k off) (he:st.en k=some (.box cs false)) (hl:off+P.cellsOf t<=cs.length):
  eR P Ξ B S st N a w o d {v:= .tup [],ws:=[.cells k off (St.get st.fr y').cells],rs:=rs}:=by
 have hx:=aU hR h1;have hy:=(aU hR h2).cr h3;generalize St.get st.fr y'=Y at*;generalize hgx:a.eval x=u at hx;rw[hX]at hx;cases hx with
 |ptr _ _ b hb=>
 have hE:=hR.ents k _ he (Gh.knows_box hb);cases hE with
 |box _ _ b' c ty hb' hB hh hs ho1 hv hown=>
  rw[hb]at hb';simp only[bQi]at hb';subst hb';simp only[bQm,if_false]at hown;have hcr:CR (aX B S G w.heap.size) G w cs c:=⟨hs,ho1,hv⟩;have hset:=hcr.set hy (by rw[h4];exact hl)
  have hrel:=hR.write (e':= .box (setCells cs off Y.cells) false) (o':= .cells (wr c off (a.eval y).cells.toList) ty (0,0)) hown hh (fun _ _=> .inl (by simp)) (fun _=>by simp) (fun _ h=>by cases h) (fun off h=>by omega)
   (fun m=> .box _ false b _ ty hb hB (by rw[kV _ (dX hh)]) hset.size hset.one (fun j hj=>(hset.vr j hj).mono m) (by simpa using hown))
  refine aOi ?_ (G':=G) (w':=kJ w b (.cells (wr c off (a.eval y).cells.toList) ty (0,0))) ?_ rfl ?_
  ·have hrun:=aD3 (P:=P) (t:=t) (o:=off) (x:=a.eval y) hh (bSa.1 hi) (by rw[hy.size,h4]) (fun i hi=>hy.one i (by rw[<-hy.size];exact hi)) (by rw[hy.size,h4,hs];exact hl)
   simp[execOp,ho,hgx,Instr.storeAt,Instr.sureAddr,hrun]
  ·have:W.applyAll st.en [.cells k off Y.cells]=st.en.set k (some (.box (setCells cs off Y.cells) false)):=by
    simp[W.applyAll,W.apply,he]
   simp only[St.mem,this];exact hrel
  ·refine⟨rfl,rfl,rfl,by rw[nS];exact bQk _,fun k hk=>fB _ (by omega)⟩
end
end Go.Abs
namespace Go.Abs
open Go.RowKit (Below)
structure FR (T:Nat->Nat->Prop) (G:Gh) (w:World) (sz:Nat) (xs:List Val) (us:Array Value):Prop where
 size:us.size=xs.length*sz
 len: ∀i,i<xs.length->(xs.getD i .dead).cells.length=sz
 one: ∀i j,i<xs.length->j<sz->fM (us.getD (i*sz+j) undef)=true
 vr: ∀i j,i<xs.length->j<sz->VR T G w ((xs.getD i .dead).cells.getD j .dead) (us.getD (i*sz+j) undef)
variable {i sz:Nat}
theorem yG {j n:Nat}(hi:i<n)(hj:j<sz):i*sz+j<n*sz:=by
 have:i*sz+sz<=n*sz:=by rw[<-bR9];exact bRv _ hi
 omega
variable {v:Val}{xs:List Val}
theorem aI8 {k:Nat}(hk:k<xs.length):(xs.set i v).getD k .dead=if i=k then v else xs.getD k .dead:=by
 simp only[bQn,bTb];split
 ·rename_i h;subst h;simp[hk]
 ·rfl
variable {G:Gh}{T:Nat->Nat->Prop}{us:Array Value}{w:World}
theorem FR.set {vs:Array Value}(h:FR T G w sz xs us)(hv:CR T G w v.cells vs)(hl:v.cells.length=sz)(hi:i<xs.length):
  FR T G w sz (xs.set i v) (wr us (i*sz) vs.toList):=by
 have hvs:vs.toList.length=sz:=by simp[hv.size,hl]
 have hend:i*sz+vs.toList.length<=us.size:=by
  rw[hvs,h.size,<-bR9];exact bRv _ hi
 have hget: ∀k j,k<xs.length->j<sz->(wr us (i*sz) vs.toList).getD (k*sz+j) undef=if i=k then vs.getD j undef else us.getD (k*sz+j) undef:=by
  intro k j hk hj;simp only[bQy,aCz vs.toList us (i*sz) _ hend,hvs]
  by_cases hik:i=k
  ·subst hik;rw[if_pos (by omega),if_pos rfl,show i*sz+j-i*sz=j by omega]
   simp
  ·rw[if_neg hik,if_neg]
   rintro⟨h1,h2⟩
   rcases Nat.lt_or_gt_of_ne hik with h3|h3
   ·have:i*sz+sz<=k*sz:=by rw[<-bR9];exact bRv _ h3
    omega
   ·have:k*sz+sz<=i*sz:=by rw[<-bR9];exact bRv _ h3
    omega
 refine⟨by rw[aD2,h.size];simp,fun k hk=>?_,fun k j hk hj=>?_,fun k j hk hj=>?_⟩<;>simp only[bSb]at hk
 ·rw[aI8 hk];split
  ·exact hl
  ·exact h.len k hk
 ·rw[hget k j hk hj];split
  ·exact hv.one j (by omega)
  ·exact h.one k j hk hj
 ·rw[aI8 hk,hget k j hk hj]
  by_cases hik:i=k
  ·rw[if_pos hik,if_pos hik];exact hv.vr j (by omega)
  ·rw[if_neg hik,if_neg hik];exact h.vr k j hk hj
variable {z:List Val}
theorem aOo (hz:z.length=sz)(h1: ∀i,i<z.length->(z.getD i .dead).cells=[z.getD i .dead]):(mL sz z false).cells=z:=by
 unfold mL;simp only[bQm,if_false];split
 ·rename_i h;rw[h]at hz
  match z,hz with
  |[x],_=>simpa using h1 0 (by simp)
 ·rfl
theorem FR.mono {T':Nat->Nat->Prop}{G':Gh}{w':World}(m:jN T G w T' G' w')(h:FR T G w sz xs us):FR T' G' w' sz xs us:=
 ⟨h.size,h.len,h.one,fun i j hi hj=>(h.vr i j hi hj).mono m⟩
section
variable {P :Program}{Ξ:Env}{B:Nat}{S:Nat->Nat->Prop}{st:St}{N:Nat}{a:Act}{o:Oper}{d:Nat}{r:Res}
theorem aVx {e:TypeId}{len:Nat}(hz:iV P e=some z)(hl:z.length=sz):
  ∃i v,P.info? e=some i/\ i.zero=some v/\ v.cells.size=sz/\ FR T Gh.none w sz (List.replicate len (mL sz z false)) ((Array.range (len*sz)).map (v.cells[· %v.cells.size]!)):=by
 obtain⟨i,v,hi,hzv,hs,ho,hv⟩:=tW (P:=P) (G:=Gh.none) (w:=w) (T:=T) hz
 refine⟨i,v,hi,hzv,by omega,?_⟩
 have hc1:(mL sz z false).cells=z:=aOo hl fun k hk=>by
  have h1:=(hv k hk).not_agg (ho k hk);generalize z.getD k .dead=u at h1;cases u<;>first|rfl|exact absurd rfl (h1 _)
 have hget: ∀k,k<len->(List.replicate len (mL sz z false)).getD k .dead=mL sz z false:=fun k hk=>by
  simp[bQn,List.getElem?_replicate,hk]
 have hgu: ∀k j,k<len->j<sz->((Array.range (len*sz)).map (v.cells[· %v.cells.size]!)).getD (k*sz+j) undef=v.cells.getD j undef:=by
  intro k j hk hj;have hlt:=yG hk hj;have hmod:(k*sz+j)%v.cells.size=j:=by
   rw[show v.cells.size=sz by omega,Nat.mul_comm,Nat.mul_add_mod,Nat.mod_eq_of_lt hj]
  simp only[bQy,Array.getElem?_map,Array.getElem?_range,hlt,if_true,bRd,bRc,hmod];simp[show j<v.cells.size by omega]
 refine⟨by simp,fun k hk=>?_,fun k j hk hj=>?_,fun k j hk hj=>?_⟩<;>simp only[List.length_replicate]at hk
 ·rw[hget k hk,hc1];exact hl
 ·rw[hgu k j hk hj];exact ho j (by omega)
 ·rw[hget k hk,hc1,hgu k j hk hj];exact hv j (by omega)
theorem aG2 {T:Nat->Nat->Prop}{sz:Nat}: ∀(ps:List (Nat×Value)) (qs:List (Nat×Val)) (xs:List Val) (us:Array Value) (r:List Val),qs.length=ps.length->
  (∀i (h:i<ps.length) (h':i<qs.length),qs[i].1=ps[i].1/\ VR T G w qs[i].2 ps[i].2)->FR T G w sz xs us->gL xs sz qs=some r->
  ∃us',Instr.fill (fun i=>some (i*sz,sz)) us ps=some us'/\ FR T G w sz r us'
 |[],[],xs,us,r,_,_,hc,h=>by simp only[gL,bQi]at h;subst h;exact⟨us,rfl,hc⟩
 |[],_::_,_,_,_,h,_,_,_=>by simp at h
 |_::_,[],_,_,_,h,_,_,_=>by simp at h
 |(i,x)::ps,(i',v)::qs,xs,us,r,hl,hp,hc,h=>by
  simp only[gL]at h
  split at h
  ·rename_i hcond;obtain⟨hp0,hv0⟩:=hp 0 (by simp) (by simp)
   simp only[List.getElem_cons_zero]at hp0 hv0;subst hp0;have hcr:=hv0.cr hcond.1;have hsz:x.cells.size=sz:=by rw[hcr.size];exact hcond.2.1
   have hfold:(x.cells.zipIdx.foldl (fun cs (c,j)=>cs.setIfInBounds (i'*sz+j) c) us)=wr us (i'*sz) x.cells.toList:=by
    rw[<-Array.foldl_toList,Array.toList_zipIdx];exact aOl x.cells.toList 0 (i'*sz) us
   obtain⟨us',h1,h2⟩:=aG2 ps qs _ (wr us (i'*sz) x.cells.toList) r (by simpa using hl) (fun j hj hj'=>hp (j+1) (by simp;omega) (by simp;omega)) (hc.set hcr hcond.2.1 hcond.2.2) h
   refine⟨us',?_,h2⟩
   simp only[Instr.fill,hsz];rw[if_neg (by
    have:i'*sz+sz<=xs.length*sz:=by rw[<-bR9];exact bRv _ hcond.2.2
    simp[hc.size];omega),hfold]
   exact h1
  ·cases h
theorem VR.wk {x:Value}(h:VR T G w v x):VR T G w v.wk x:=by
 cases v with
 |tup vs=>
  cases h with
  |tup _ us h hv=>exact .tup _ us (by simpa using h) (fun i hi=>by rw[aD5];exact(hv i (by simpa using hi)).wk1)
 |_=>exact h.wk1
end
end Go.Abs
namespace Go.Abs
open Go.RowKit (Below)
variable [Inhabited mN]
variable {T S:Nat->Nat->Prop}{b sz len n B N d:Nat}{ty e t:TypeId}{xs z:List Val}{rs:List R}{x y:Operand}{x' y':Opd}{w:World}{G:Gh}{P:Program}{Ξ:Env}{st:St}{a:Act}{r:Res}
section
variable {o:Oper}
theorem aCe (hR:Rel P Ξ B S G st N a w)(ks:List Key): ∃G',Rel P Ξ B S G' {st with en:=W.applyAll st.en (ks.map .frz)} N a w/\ G.le G'/\ (∀b o,aX B S G w.heap.size b o->aX B S G' w.heap.size b o)/\
  (∀(n:Nat) (v v':Val) (x:Value) (ks':List Key),VR (aX B S G w.heap.size) G w v x->snap n st.en v=some (v',ks')->(∀k∈ks',k∈ks)->VR (aX B S G' w.heap.size) Gh.none w v' x)/\ ∀k,G'.knows k->G.knows k:=by
 obtain⟨G',h1,m,e1,e2,e3,hc⟩:=hR.freezeAll ks
 refine⟨G',h1,m.g,m.t,fun n v v' x ks' hv hs hk=>?_,fun k hk=>by unfold Gh.knows at hk⊢;rwa [e1,e2,e3]at hk⟩
 exact yC hR.ents ⟨m.t,G.le_refl,m.cell,m.map,m.defer,m.loop⟩ n hv hs fun k hk' e he=>(hc k (hk k hk') e he).mono (fun _ _ h=>h) e1.symm e2.symm e3.symm
theorem yH (hR:Rel P Ξ B S G st N a w)(ks:List Key): ∃G',Rel P Ξ B S G' {st with en:=W.applyAll st.en (ks.map .frz)} N a w/\ G.le G'/\ (∀b o,aX B S G w.heap.size b o->aX B S G' w.heap.size b o)/\
  ∀(n:Nat) (v v':Val) (x:Value) (ks':List Key),VR (aX B S G w.heap.size) G w v x->snap n st.en v=some (v',ks')->(∀k∈ks',k∈ks)->VR (aX B S G' w.heap.size) Gh.none w v' x:=by
 obtain⟨G',h1,h2,h3,h4,_⟩:=aCe hR ks;exact⟨G',h1,h2,h3,h4⟩
theorem bJb {us:Array Value}(h:FR T Gh.none w sz xs us)(hb:w.heap[b]?=some (.cells us ty (0,0)))(ht: ∀o,o<us.size->T b o):
  VR T G w (.cl xs) (.slice (some ⟨b,0,none⟩) xs.length xs.length):=by
 refine .cl xs b 0 sz (fun i j=>us.getD (i*sz+j) undef) h.len (fun i j hi hj=>?_) (fun i j hi hj=>?_) h.one h.vr
 ·have:=yG hi hj;rw[bRg,lZ hb];simp[show i*sz+j<us.size by rw[h.size];exact this]
 ·rw[bRg];exact ht _ (by rw[h.size];exact yG hi hj)
theorem aI9 {F:Val->Val}(hF: ∀{T:Nat->Nat->Prop} {w:World} {v:Val} {x:Value},VR T Gh.none w v x->VR T Gh.none w (F v) x)(hR:Rel P Ξ B S G st N a w){parts:Array (Nat×Operand)}{qs:List (Nat×Opd)}{ps:List ((Nat×Val)×List Key)}(ho:o.op= .buildSlice t len parts)(ht:P.underlying t=some (.slice e))
  (hz:iV P e=some z) (hzl:z.length=P.cellsOf e) (hp:cP (fun(p:Nat×Operand)=>(do pure (p.1,<-aO p.2):Option (Nat×Opd))) parts.toList=some qs)
  (hl:len*P.cellsOf e<=16777216) (hs:cP (fun p=>(snap n st.en (St.get st.fr p.2)).map fun r=>((p.1,F r.1),r.2)) qs=some ps)
  (hf:gL (List.replicate len (mL (P.cellsOf e) z false)) (P.cellsOf e) (ps.map (·.1))=some xs) :
  eR P Ξ B S st N a w o d {v:= .cl xs,ws:=(ps.flatMap (·.2)).map .frz,rs:=rs}:=by
 obtain⟨G',hR',hg,hT,hsnap⟩:=yH hR (ps.flatMap (·.2));obtain⟨l1,l2⟩:=aAf (get:=fun q=>q.2) hR hp (fun p q h=>by
  simp only[bQ6,bQx,bQ8,bQi]at h;obtain⟨y,hy,rfl⟩:=h;exact hy)
 obtain⟨m1,m2⟩:=fH hs;obtain⟨i,v,hi,hzv,hvs,hfr⟩:=aVx (P:=P) (w:=w) (T:=aX B S G' w.heap.size) (len:=len) hz hzl;obtain⟨us,h1,h2⟩:=aG2 (G:=Gh.none) (w:=w) (T:=aX B S G' w.heap.size) (parts.toList.map fun(p:Nat×Operand)=>(p.1,a.eval p.2)) (ps.map (·.1)) _ _ xs (by simp[m1,l1]) (fun i hi hi'=>by
  simp only[bQl]at hi hi';have hiq:i<qs.length:=by omega
  obtain⟨e1,e2⟩:=l2 i hi hiq;have e3:=m2 i hiq hi';simp only[bQw]at e3;obtain⟨⟨v',ks'⟩,e4,e5⟩:=e3;simp only[bQ6,bQx,bQ8,bQi]at e1;obtain⟨y,_,e6⟩:=e1;simp only[List.getElem_map,<-e5]
  refine⟨by rw[<-e6],hF (hsnap n _ v' _ ks' e2 e4 fun k hk=>bRx.2 ⟨ps[i],bQr hi',by rw[<-e5];exact hk⟩)⟩) hfr hf
 have hxl:xs.length=len:=by
  have: ∀(qs:List (Nat×Val)) (ys r:List Val) (s:Nat),gL ys s qs=some r->r.length=ys.length:=by
   intro qs
   induction qs with
   |nil=>intro ys r s h;simp only[gL,bQi]at h;subst h;rfl
   |cons q qs ih=>
    intro ys r s h;simp only[gL]at h
    split at h
    ·have:=ih _ _ _ h;simpa using this
    ·cases h
  simpa using this _ _ _ _ hf
 have hb:=pF hR (.cells us e);have hRf:=hR'.below ((Below.refl w.heap.size w).alloc (bQk _) (.cells us e));have hnew:=gF w (.cells us e);have hm:jN (aX B S G' w.heap.size) Gh.none w (aX B S G' (w.alloc (.cells us e)).heap.size) Gh.none (w.alloc (.cells us e)):=
  (rA (B:=B) (S:=S) (G:=G') ((Below.refl w.heap.size w).alloc (bQk _) (.cells us e))).none
 have hval:=bJb (G:=G') (h2.mono hm) hnew (fun o ho=>⟨dX hnew,.inr ⟨hR.size,by
  cases hown:G'.own w.heap.size with
  |none=>trivial
  |some q=>obtain⟨q1,q2⟩:=q;have:=(hR'.own _ _ _ hown).2.1;omega⟩⟩)
 rw[hxl]at hval
 refine jW (G':=G') (x:= .slice (some ⟨w.heap.size,0,none⟩) len len) ?_ ?_ hval hb
 ·have hpre: ∀zero:Array Value,zero= #[]->len*P.cellsOf e=0->(Array.range (len*P.cellsOf e)).map (zero[· %zero.size]!)=(Array.range (len*P.cellsOf e)).map (v.cells[· %v.cells.size]!):=by
   intro zero _ h0;rw[h0,Array.range_zero',Array.map_empty,Array.map_empty]
  simp only[execOp,ho,Instr.buildSlice,Sem.run_bind,run_underlying ht,Result.andThen_ok,fC hi];rw[if_neg (by omega)]
  rw[show(parts.map fun(i,x)=>(i,a.eval x)).toList=parts.toList.map fun(p:Nat×Operand)=>(p.1,a.eval p.2)by simp]
  by_cases h0:len*P.cellsOf e=0
  ·simp only[if_pos h0,Sem.run_bind,Sem.run_pure,Result.andThen_ok];rw[hpre _ rfl h0,h1];simp[newRow]
  ·simp only[if_neg h0,Sem.run_bind,iH hi hzv,Sem.run_pure,Result.andThen_ok];rw[h1];simp[newRow]
 ·exact hRf
theorem aZ5 (hR:Rel P Ξ B S G st N a w){m:Int}(ho:o.op= .makeSlice t x y)(ht:P.underlying t=some (.slice e))
  (hz:iV P e=some z) (hzl:z.length=P.cellsOf e) (hby:P.bytesOf e<=1048576) (h1:aO x=some x') (h2:aO y=some y') (hx:St.get st.fr x'= .int .i64 m) (hy:St.get st.fr y'= .int .i64 m) (hm:0<=m/\ m<=16777216):
  eR P Ξ B S st N a w o d {v:= .bl ⟨0,d,st.cnt 0 d⟩ 0 m.toNat,ws:=[.ent ⟨0,d,st.cnt 0 d⟩ (some (.blk (P.cellsOf e) (List.replicate m.toNat (mL (P.cellsOf e) z false)) false))],bump:=true}:=by
 have vx:=aU hR h1;have vy:=aU hR h2;rw[hx]at vx;rw[hy]at vy;have ex:=yD vx;have ey:=yD vy;obtain⟨k,rfl⟩:=bRn hm.1;obtain⟨i,v,hi,hzv,hvs,hfr⟩:=aVx (P:=P) (w:=w) (T:=aX B S G w.heap.size) (len:=k) hz hzl;have hf:=hR.freshG ⟨0,d,st.cnt 0 d⟩ (bQk _);have hg:=Gh.le_addBlk (b:=w.heap.size) (base:=0) (sz:=P.cellsOf e) (C:=k) (thr:=0) hf.2.1;have ho': ∀b,b≠w.heap.size->(G.addBlk ⟨0,d,st.cnt 0 d⟩ w.heap.size 0 (P.cellsOf e) k 0).own b=G.own b:=fun b hb=>by simp[Gh.addBlk,hb]
 have mm:=rB (B:=B) (S:=S) (w:=w) (o:= .cells ((Array.range (k*P.cellsOf e)).map (v.cells[· %v.cells.size]!)) e) hg ho';have hrel:=hR.alloc d (.cells ((Array.range (k*P.cellsOf e)).map (v.cells[· %v.cells.size]!)) e) (.blk (P.cellsOf e) (List.replicate k (mL (P.cellsOf e) z false)) false) _ hg ho'
  (fun k' hk'=>by simp[Gh.addBlk,hk']) (fun k' t h=>by simp[Gh.addBlk]at h;exact h.1.symm)
  (.blk _ false w.heap.size 0 _ k 0 _ e (by simp[Gh.addBlk]) hR.size (gF _ _) (by simp) (by rw[hfr.size];simp) hfr.len
   (fun i j hi hj=>by rw[bRg];exact hfr.one i j hi hj) (fun i j hi hj=>by rw[bRg];exact((hfr.vr i j hi hj).mono mm.none).into _) (by simp[Gh.addBlk]) (by simp))
 refine jW (x:= .slice (some ⟨w.heap.size,0,none⟩) k k) ?_ (by simpa[St.mem,W.applyAll,W.apply]using hrel) ?_ (pF hR _)
 ·have hb:P.bytesOf e=i.bytes:=by simp[Program.bytesOf,hi]
  have hbig: ¬(281474976710656<(i.bytes:Int)*k):=by
   rw[hb]at hby;have:i.bytes*k<=1048576*16777216:=Nat.mul_le_mul hby (by omega)
   have:((i.bytes*k:Nat):Int)<=17592186044416:=by omega
   rw[Int.natCast_mul]at this;omega
  have hw:IntKind.i64.wrap (k:Int)=k:=IntWalk.i64_in _ (by omega)
  have hpre: ∀zero:Array Value,zero= #[]->k*P.cellsOf e=0->(Array.range (k*P.cellsOf e)).map (zero[· %zero.size]!)=(Array.range (k*P.cellsOf e)).map (v.cells[· %v.cells.size]!):=by
   intro zero _ h0;rw[h0,Array.range_zero',Array.map_empty,Array.map_empty]
  have hti:(typeInfo e).run P w= .ok i w:=by simp[typeInfo,hi]
  simp only[execOp,ho,ex,ey,Instr.makeSlice,Sem.run_bind,run_underlying ht,Result.andThen_ok,asInt,asIntOf,Sem.run_pure,hti,hw];rw[if_neg (by simp[hbig])]
  simp only[Sem.run_bind,run_askRoom,Result.andThen_ok,fC hi,bRh]
  by_cases h0:k*P.cellsOf e=0
  ·simp only[if_pos h0,Sem.run_bind,Sem.run_pure,Result.andThen_ok];rw[hpre _ rfl h0];simp[newRow]
  ·simp only[if_neg h0,Sem.run_bind,iH hi hzv,Sem.run_pure,Result.andThen_ok];simp[newRow]
 ·have:=VR.bl (T:=aX B S (G.addBlk ⟨0,d,st.cnt 0 d⟩ w.heap.size 0 (P.cellsOf e) k 0) (w.alloc (.cells ((Array.range (k*P.cellsOf e)).map (v.cells[· %v.cells.size]!)) e)).heap.size)
   (G:=G.addBlk ⟨0,d,st.cnt 0 d⟩ w.heap.size 0 (P.cellsOf e) k 0) (w:=w.alloc (.cells ((Array.range (k*P.cellsOf e)).map (v.cells[· %v.cells.size]!)) e)) ⟨0,d,st.cnt 0 d⟩ 0 k w.heap.size 0 (P.cellsOf e) k (by simp[Gh.addBlk]) (by omega)
  simpa using this
end
structure Rd (T:Nat->Nat->Prop) (G0:Gh) (w:World) (sz:Nat) (xs:List Val) (b off:Nat):Prop where
 len: ∀i,i<xs.length->(xs.getD i .dead).cells.length=sz
 cell: ∀i j,i<xs.length->j<sz-> ∃c,w.cell? ⟨b,off+i*sz+j,.none⟩=some c/\ fM c=true/\ VR T G0 w ((xs.getD i .dead).cells.getD j .dead) c
def rdl (w:World)(b off n:Nat):List Value:=(List.range n).map fun k=>(w.cell? ⟨b,off+k,.none⟩).getD undef
theorem aD8 (w:World)(b off n:Nat):(rdl w b off n).length=n:=by simp[rdl]
variable {off:Nat}
theorem aVy {k:Nat}(hk:k<n):(rdl w b off n)[k]?=some ((w.cell? ⟨b,off+k,.none⟩).getD undef):=by
 simp[rdl,List.getElem?_range hk]
theorem aZ6 {k:Nat}(h:k<n*sz):k/sz<n/\ k%sz<sz/\ k=k/sz*sz+k%sz:=by
 have hsz:0<sz:=by
  rcases Nat.eq_zero_or_pos sz with h0|h0
  ·subst h0;simp at h
  ·exact h0
 exact⟨(Nat.div_lt_iff_lt_mul hsz).2 h,Nat.mod_lt _ hsz,by rw[Nat.mul_comm];exact(Nat.div_add_mod k sz).symm⟩
variable {G0:Gh}
theorem Rd.news (h:Rd T G0 w sz xs b off):
  ∀j v,(rdl w b off (xs.length*sz))[j]?=some v->w.cell? ((⟨b,off,.none⟩:Addr).add j)=some v:=by
 intro j v hv;have hj:j<xs.length*sz:=by
  have:=(bT4.1 hv).1;rwa [aD8]at this
 rw[aVy hj]at hv;obtain⟨h1,h2,h3⟩:=aZ6 hj;obtain⟨c,hc,_⟩:=h.cell _ _ h1 h2;rw[bSp,<-h3]at hc;rw[hc]at hv;rw[tX,hc];exact hv
theorem Rd.at (h:Rd T G0 w sz xs b off){i j:Nat}(hi:i<xs.length)(hj:j<sz):
  ∃c,(rdl w b off (xs.length*sz))[i*sz+j]?=some c/\ fM c=true/\ VR T G0 w ((xs.getD i .dead).cells.getD j .dead) c:=by
 obtain⟨c,h1,h2,h3⟩:=h.cell i j hi hj
 refine⟨c,?_,h2,h3⟩
 rw[aVy (yG hi hj),<-bSp,h1];rfl
variable {ys:List Val}
theorem vJ {i:Nat}:(xs++ys).getD i .dead=if i<xs.length then xs.getD i .dead else ys.getD (i-xs.length) .dead:=by
 simp only[bQn,bTc]
 split<;>rfl
variable {Y:Val}{c:Array Value}{cap q base:Nat}{frz:Bool}
section
variable {o:Oper}
theorem aXf (hR:Rel P Ξ B S G st N a w){y:Value}(hy:VR (aX B S G w.heap.size) G w Y y)(h:iN st.en Y=some (ys,rs)):
  ∃q cap,y= .slice q ys.length cap/\ (ys=[] \/ ∃b off sz,q=some ⟨b,off,.none⟩/\ Rd (aX B S G w.heap.size) Gh.none w sz ys b off):=by
 have fro: ∀{xs:List Val} {clip:Bool},Fro (aX B S G w.heap.size) w xs clip y-> ∃q cap,y= .slice q xs.length cap/\ (xs=[] \/ ∃b off sz,q=some ⟨b,off,.none⟩/\ Rd (aX B S G w.heap.size) Gh.none w sz xs b off):=by
  intro xs clip hf;cases hf with
  |nil p cap h hc=>subst h;exact⟨p,cap,rfl,.inl rfl⟩
  |some b off sz cap c hc hcl hs h ht ho hv=>exact⟨_,_,rfl,.inr ⟨b,off,sz,rfl,hs,fun i j hi hj=>⟨c i j,h i j hi hj,ho i j hi hj,hv i j hi hj⟩⟩⟩
 unfold iN at h
 split at h
 ·simp only[bQi,bQo]at h;obtain⟨rfl,_⟩:=h;exact fro (aTw hy)
 ·simp only[bQi,bQo]at h;obtain⟨rfl,_⟩:=h;exact fro (aI6 hy)
 ·simp only[bQi,bQo]at h;obtain⟨rfl,_⟩:=h;cases hy with
  |es p cap=>exact⟨p,cap,rfl,.inl rfl⟩
 ·rename_i k off len
  split at h
  ·rename_i sz xs f he
   split at h
   ·rename_i hle;obtain⟨hle,hdp⟩:=hle;simp only[bQi,bQo]at h;obtain⟨rfl,_⟩:=h;have hlen:((xs.drop off).take len).length=len:=by simp;omega
    cases hy with
    |bl0 _ p hb=>exact⟨p,0,by rw[hlen],.inl (by simp)⟩
    |ble _ p b base sz C hb=>exact⟨p,0,by rw[hlen],.inl (by simp)⟩
    |bl _ _ _ b base sz' C hb hC=>
     refine⟨_,_,by rw[hlen],.inr ⟨b,base+off*sz',sz',rfl,fun i hi=>?_,fun i j hi hj=>?_⟩⟩<;>rw[hlen]at hi<;>rw[kW hi hle]
     ·exact((hR.ents k _ he (Gh.knows_blk hb)).elem hb (i:=off+i) (by omega)).1
     ·obtain⟨c,h1,h2,h3⟩:=((hR.ents k _ he (Gh.knows_blk hb)).elem hb (i:=off+i) (by omega)).2 j hj
      rw[Gh.at_none hdp]at h3;exact⟨c,by rw[show base+off*sz'+i*sz'+j=base+(off+i)*sz'+j by rw[bR8];omega];exact h1,h2,h3⟩
   ·cases h
  ·cases h
 ·cases h
theorem Rel.drop (hR:Rel P Ξ B S G st N a w)(k:Key):Rel P Ξ B S G {st with en:=st.en.set k none} N a w:=
 ⟨hR.size,hR.tmps,hR.frame,hR.marks,fun k' e he hkn=>by
  simp only[En.set]at he;split at he
  ·cases he
  ·exact hR.ents k' e he hkn,fun k' hk'=>by
  simp only[En.set];split
  ·rfl
  ·exact hR.freshEn k' hk',hR.freshG,hR.own,hR.extra,hR.round,hR.defs,hR.virt⟩
theorem aZ7 (hR:Rel P Ξ B S G st N a w){zs:List Val}(hlen: ∀i,i<zs.length->(zs.getD i .dead).cells.length=sz)
  (hcell: ∀i j,i<zs.length->j<sz-> ∃u,c[i*sz+j]?=some u/\ fM u=true/\ VR (aX B S G w.heap.size) (G.atq q) w ((zs.getD i .dead).cells.getD j .dead) u) (hcap:zs.length<=cap) (hsize:cap*sz<=c.size):
  ∃G',Rel P Ξ B S G' {fr:=st.fr,en:=st.en.set ⟨q,d,st.cnt q d⟩ (some (.blk sz zs frz)),cnt:=aC st.cnt q d (st.cnt q d+1)} N a (w.alloc (.cells c e))/\
   VR (aX B S G' (w.alloc (.cells c e)).heap.size) G' (w.alloc (.cells c e)) (.bl ⟨q,d,st.cnt q d⟩ 0 zs.length) (.slice (some ⟨w.heap.size,0,none⟩) zs.length cap):=by
 have hf:=hR.freshG ⟨q,d,st.cnt q d⟩ (bQk _);let thr:=if frz then zs.length*sz else 0
 have hg:=Gh.le_addBlk (b:=w.heap.size) (base:=0) (sz:=sz) (C:=cap) (thr:=thr) hf.2.1;have ho': ∀b,b≠w.heap.size->(G.addBlk ⟨q,d,st.cnt q d⟩ w.heap.size 0 sz cap thr).own b=G.own b:=fun b hb=>by simp[Gh.addBlk,hb]
 have mm:=rB (B:=B) (S:=S) (w:=w) (o:= .cells c e) hg ho';have hget: ∀i j,i<zs.length->j<sz->fM (c.getD (i*sz+j) undef)=true/\ VR (aX B S G w.heap.size) (G.atq q) w ((zs.getD i .dead).cells.getD j .dead) (c.getD (i*sz+j) undef):=fun i j hi hj=>by
  obtain⟨u,h1,h2,h3⟩:=hcell i j hi hj;simp only[bQy,h1,bRc];exact⟨h2,h3⟩
 refine⟨_,hR.allocN q d (.cells c e) (.blk sz zs frz) _ hg ho' (fun k' hk'=>by simp[Gh.addBlk,hk']) (fun k' t h=>by simp[Gh.addBlk]at h;exact h.1.symm)
  (.blk zs frz w.heap.size 0 sz cap thr c e (by simp[Gh.addBlk]) hR.size (gF _ _) hcap (by omega) hlen
   (fun i j hi hj=>by rw[bRg];exact(hget i j hi hj).1) (fun i j hi hj=>by rw[bRg];exact(hget i j hi hj).2.mono (mm.atq q)) (by simp[Gh.addBlk]) (by simp[thr])),?_⟩
 have:=VR.bl (T:=aX B S (G.addBlk ⟨q,d,st.cnt q d⟩ w.heap.size 0 sz cap thr) (w.alloc (.cells c e)).heap.size) (G:=G.addBlk ⟨q,d,st.cnt q d⟩ w.heap.size 0 sz cap thr) (w:=w.alloc (.cells c e)) ⟨q,d,st.cnt q d⟩ 0 zs.length w.heap.size 0 sz cap (by simp[Gh.addBlk]) (by omega)
 simpa using this
theorem aVz (hR:Rel P Ξ B S G st N a w)(sz:Nat)(frz:Bool): ∃G',Rel P Ξ B S G' {fr:=st.fr,en:=st.en.set ⟨q,d,st.cnt q d⟩ (some (.blk sz [] frz)),cnt:=aC st.cnt q d (st.cnt q d+1)} N a w/\
   ∀p,VR (aX B S G' w.heap.size) G' w (.bl ⟨q,d,st.cnt q d⟩ 0 0) (.slice p 0 0):=by
 have hf:=hR.freshG ⟨q,d,st.cnt q d⟩ (bQk _);have hg:=Gh.le_addNul hf.2.1;have m:jN (aX B S G w.heap.size) G w (aX B S (G.addNul ⟨q,d,st.cnt q d⟩) w.heap.size) (G.addNul ⟨q,d,st.cnt q d⟩) w:=⟨fun _ _ h=>h,hg,fun _ _ _ _ h=>h,fun _ _ _ _ h=>h,fun _ _ h=>h,fun _ r h=>⟨r,h⟩⟩
 refine⟨G.addNul ⟨q,d,st.cnt q d⟩,hR.change m (bQk _) (fun k e hk hkn=>?_) (fun k hk=>?_) (fun b k t hb=>?_) (hR.virtAt fun k hk=>by simp[Gh.addNul,hk]),fun p=> .bl0 _ p (by simp[Gh.addNul])⟩
 ·simp only[En.set]at hk;split at hk
  ·rename_i hke;subst hke;simp only[bQi]at hk;subst hk;exact .nul sz frz (by simp[Gh.addNul])
  ·rename_i hne;exact(hR.ents k e hk (Gh.knows_of (fun k hk=>by simp[Gh.addNul,hk]) hne hkn)).mono m.four fun b _ _=>⟨rfl,rfl⟩
 ·have hne:k≠⟨q,d,st.cnt q d⟩:=by rintro rfl;simp only[mK]at hk;omega
  have hle:st.cnt k.n k.t<=k.g:=bQv (oG _ _) hk;obtain⟨f1,f2,f3⟩:=hR.freshG k hle;exact⟨by simp only[En.set,if_neg hne];exact hR.freshEn k hle,f1,by simp only[Gh.addNul,if_neg hne];exact f2,f3⟩
 ·obtain⟨h1,h2,h3⟩:=hR.own b k t hb;exact⟨h1,h2,bRa h3 (oG _ _)⟩
theorem aZ8 (hR:Rel P Ξ B S G st N a w)(hs: ∀i,i<xs.length->(xs.getD i .dead).cells.length=sz)
  (h: ∀i j,i<xs.length->j<sz-> ∃c,w.cell? ⟨b,base+i*sz+j,.none⟩=some c/\ aX B S G w.heap.size b (base+i*sz+j)/\ fM c=true/\ VR (aX B S G w.heap.size) Gh.none w ((xs.getD i .dead).cells.getD j .dead) c):
  ∃G',Rel P Ξ B S G' {fr:=st.fr,en:=st.en.set ⟨q,d,st.cnt q d⟩ (some (.blk sz xs true)),cnt:=aC st.cnt q d (st.cnt q d+1)} N a w/\
   VR (aX B S G' w.heap.size) G' w (.bl ⟨q,d,st.cnt q d⟩ 0 xs.length) (.slice (some ⟨b,base,none⟩) xs.length xs.length):=by
 have hf:=hR.freshG ⟨q,d,st.cnt q d⟩ (bQk _);have hg:=Gh.le_addFull (b:=b) (base:=base) (sz:=sz) (C:=xs.length) hf.2.1;have m:jN (aX B S G w.heap.size) G w (aX B S (G.addFull ⟨q,d,st.cnt q d⟩ b base sz xs.length) w.heap.size) (G.addFull ⟨q,d,st.cnt q d⟩ b base sz xs.length) w:=⟨fun _ _ h=>h,hg,fun _ _ _ _ h=>h,fun _ _ _ _ h=>h,fun _ _ h=>h,fun _ r h=>⟨r,h⟩⟩
 have h1: ∀i j,∃c,i<xs.length->j<sz->w.cell? ⟨b,base+i*sz+j,.none⟩=some c/\ aX B S G w.heap.size b (base+i*sz+j)/\ fM c=true/\ VR (aX B S G w.heap.size) Gh.none w ((xs.getD i .dead).cells.getD j .dead) c:=by
  intro i j
  by_cases hi:i<xs.length
  ·by_cases hj:j<sz
   ·obtain⟨c,hc⟩:=h i j hi hj;exact⟨c,fun _ _=>hc⟩
   ·exact⟨undef,fun _ h=>absurd h hj⟩
  ·exact⟨undef,fun h=>absurd h hi⟩
 obtain⟨c,hc⟩:=Classical.axiomOfChoice fun i=>Classical.axiomOfChoice (h1 i)
 refine⟨_,hR.change m (bQk _) (fun k e hk hkn=>?_) (fun k hk=>?_) (fun b k t hb=>?_) (hR.virtAt fun k hk=>by simp[Gh.addFull,hk]),?_⟩
 ·simp only[En.set]at hk;split at hk
  ·rename_i hke;subst hke;simp only[bQi]at hk;subst hk;exact .full xs b base sz c (by simp[Gh.addFull]) hs (fun i j hi hj=>(hc i j hi hj).1) (fun i j hi hj=>(hc i j hi hj).2.1) (fun i j hi hj=>(hc i j hi hj).2.2.1) (fun i j hi hj=>(hc i j hi hj).2.2.2)
  ·rename_i hne;exact(hR.ents k e hk (Gh.knows_of (fun k hk=>by simp[Gh.addFull,hk]) hne hkn)).mono m.four fun b _ _=>⟨rfl,rfl⟩
 ·have hne:k≠⟨q,d,st.cnt q d⟩:=by rintro rfl;simp only[mK]at hk;omega
  have hle:st.cnt k.n k.t<=k.g:=bQv (oG _ _) hk;obtain⟨f1,f2,f3⟩:=hR.freshG k hle;exact⟨by simp only[En.set,if_neg hne];exact hR.freshEn k hle,f1,by simp only[Gh.addFull,if_neg hne];exact f2,f3⟩
 ·obtain⟨h1,h2,h3⟩:=hR.own b k t hb;exact⟨h1,h2,bRa h3 (oG _ _)⟩
 ·have:=VR.bl (T:=aX B S (G.addFull ⟨q,d,st.cnt q d⟩ b base sz xs.length) w.heap.size) (G:=G.addFull ⟨q,d,st.cnt q d⟩ b base sz xs.length) (w:=w) ⟨q,d,st.cnt q d⟩ 0 xs.length b base sz xs.length (by simp[Gh.addFull]) (by omega)
  simpa using this
end
theorem aG3 {b:Nat}{t:TypeId}: ∀(vs:List Value) (c:Array Value) (o:Nat) (w:World),w.heap[b]?=some (.cells c t (0,0))->w.setCells b o vs=kJ w b (.cells (wr c o vs) t (0,0))
 |[],c,o,w,h=>by rw[World.setCells,wr,aVv h]
 |v::vs,c,o,w,h=>by
  rw[World.setCells,aGx v h,aG3 vs (c.setIfInBounds o v) (o+1) _ (kV _ (dX h)),aMq,wr]
structure Cs (T:Nat->Nat->Prop) (G0:Gh) (w:World) (sz:Nat) (xs:List Val) (us:List Value):Prop where
 len: ∀i,i<xs.length->(xs.getD i .dead).cells.length=sz
 size:us.length=xs.length*sz
 at': ∀i j,i<xs.length->j<sz-> ∃c,us[i*sz+j]?=some c/\ fM c=true/\ VR T G0 w ((xs.getD i .dead).cells.getD j .dead) c
theorem Cs.nil :Cs T G0 w sz [] []:=⟨fun i hi=>by simp at hi,by simp,fun i j hi=>by simp at hi⟩
variable {us:List Value}
theorem Cs.one (h:Cs T G0 w sz xs us): ∀u∈us,fM u=true:=by
 intro u hu;obtain⟨k,hk,rfl⟩:=List.getElem_of_mem hu;have hk':=hk;rw[h.size]at hk';obtain⟨h1,h2,h3⟩:=aZ6 hk';obtain⟨c,hc,ho,_⟩:=h.at' _ _ h1 h2;rw[<-h3,bRq hk,bQi]at hc;rw[hc];exact ho
variable {w':World}
theorem Cs.mono {T':Nat->Nat->Prop}{G':Gh}(m:jN T G w T' G' w')(h:Cs T (G.atq q) w sz xs us):Cs T' (G'.atq q) w' sz xs us:=
 ⟨h.len,h.size,fun i j hi hj=>by
  obtain⟨c,h1,h2,h3⟩:=h.at' i j hi hj;exact⟨c,h1,h2,h3.mono (m.atq q)⟩⟩
theorem Cs.into (h:Cs T Gh.none w sz xs us)(G0:Gh):Cs T G0 w sz xs us:=
 ⟨h.len,h.size,fun i j hi hj=>let ⟨c,h1,h2,h3⟩:=h.at' i j hi hj;⟨c,h1,h2,h3.into _⟩⟩
theorem Cs.append {vs:List Value}(h:Cs T G0 w sz xs us)(k:Cs T G0 w sz ys vs):Cs T G0 w sz (xs++ys) (us++vs):=by
 refine⟨fun i hi=>?_,by simp[h.size,k.size,bR8],fun i j hi hj=>?_⟩
 ·rw[vJ];split
  ·exact h.len i (by assumption)
  ·simp at hi;exact k.len _ (by omega)
 ·rw[vJ];split
  ·rename_i hlt;obtain⟨c,h1,h2⟩:=h.at' i j hlt hj;exact⟨c,by rw[bSq (by rw[h.size];exact yG hlt hj)];exact h1,h2⟩
  ·rename_i hge
   simp at hi
   obtain⟨c,h1,h2⟩:=k.at' (i-xs.length) j (by omega) hj
   refine⟨c,?_,h2⟩
   have he:i*sz+j-us.length=(i-xs.length)*sz+j:=by
    rw[h.size,Nat.sub_mul];have:xs.length*sz<=i*sz:=bRv _ (by omega)
    omega
   rw[List.getElem?_append_right (by rw[h.size];have:xs.length*sz<=i*sz:=bRv _ (by omega);omega),he];exact h1
theorem Rd.cs (h:Rd T G0 w sz xs b off):Cs T G0 w sz xs (rdl w b off (xs.length*sz)):=
 ⟨h.len,aD8 _ _ _ _,fun _ _ hi hj=>h.at hi hj⟩
theorem aH1 (z:Array Value)(n:Nat):(Builtin.zeroCells z n).size=n*z.size:=by simp[Builtin.zeroCells]
theorem dbl {bytes:Nat}(hc:cap<n)(hn:n<=16777216+16777216)(hb:bytes<=1048576):Builtin.nextslicecap n cap*bytes<=281474976710656:=by
 refine growslice_fits hc ?_
 have:=Nat.mul_le_mul hn hb;omega
variable {i:TypeInfo}{p:Option Addr}{f:Bool}{k:Key}
section
variable {o:Oper}
theorem bGu (hR:Rel P Ξ B S G st N a w)(ht:P.underlying t=some (.slice e)){y:Value}(hy:VR (aX B S G w.heap.size) G w Y y)
  (h:iN st.en Y=some (ys,rs)) (hh:cT i.size ys=true): ∃news,Src P i.size t y ys.length news w/\ Cs (aX B S G w.heap.size) Gh.none w i.size ys news:=by
 obtain⟨q,cap,rfl,h0⟩:=aXf hR hy h;have nil:ys=[]-> ∃news,Src P i.size t (.slice q ys.length cap) ys.length news w/\ Cs (aX B S G w.heap.size) Gh.none w i.size ys news:=by
  rintro rfl
  refine⟨[],?_,Cs.nil⟩
  cases q with
  |none=>exact Src.ofNil w ht cap
  |some q=>exact Src.ofSlice w ht q 0 cap [] (by simp) (by simp) (by simp)
 rcases h0 with h0|⟨b,off,sz,rfl,hrd⟩
 ·exact nil h0
 ·rcases yE hrd.len hh with h0|rfl
  ·exact nil h0
  ·exact⟨_,Src.ofSlice w ht _ _ _ _ (aD8 _ _ _ _) hrd.news (fun u hu=>aIy (hrd.cs.one u hu)),hrd.cs⟩
theorem aC2 (hR:Rel P Ξ B S G st N a w){z:Value}(ht:P.underlying t=some (.slice e))(hi:P.info? e=some i)(hz:i.zero=some z)(hzs:z.cells.size=i.size)(hby:i.bytes<=1048576)
     {olds news:List Value} {y:Value}  (hold:(Builtin.firstCells i.size xs.length (.slice p xs.length cap)).run P w.drew= .ok olds.toArray w.drew)
  (hx:Cs (aX B S G w.heap.size) (G.atq q) w i.size xs olds) (hs:Src P i.size t y ys.length news w) (hy:Cs (aX B S G w.heap.size) Gh.none w i.size ys news) (hg:cap<xs.length+ys.length) (hsm:xs.length+ys.length<=16777216):
  ∃G' x w',(Builtin.append_ #[t,t] ty #[.slice p xs.length cap,y]).run P w= .ok x w'/\
   Rel P Ξ B S G' {fr:=st.fr,en:=st.en.set ⟨q,d,st.cnt q d⟩ (some (.blk i.size (xs++ys) frz)),cnt:=aC st.cnt q d (st.cnt q d+1)} N a w'/\
   VR (aX B S G' w'.heap.size) G' w' (.bl ⟨q,d,st.cnt q d⟩ 0 (xs.length+ys.length)) x/\ Below B w w':=by
 have hrun:=run_append_grow_src w t t ty e i z ht hi hz p xs.length cap olds hold y ys.length news hs hg (by omega) (dbl hg (by omega) hby)
 have hbd:Below w.heap.size w w.drew:=(Below.refl _ _).drew;have hcs:=(hx.append (hy.into _)).mono (rA (B:=B) (S:=S) (G:=G) hbd);have hR':=hR.below hbd;have hge:=grownCap_ge w (xs.length+ys.length) cap e;obtain⟨G',h1,h2⟩:=aZ7 (q:=q) (d:=d) (frz:=frz) (e:=e) hR' (zs:=xs++ys) (c:=(olds++news).toArray++Builtin.zeroCells z.cells (grownCap w (xs.length+ys.length) cap e-(xs.length+ys.length))) (cap:=grownCap w (xs.length+ys.length) cap e)
  hcs.len (fun i' j hi' hj=>by
   obtain⟨c,h1,h2,h3⟩:=hcs.at' i' j hi' hj
   refine⟨c,?_,h2,h3⟩
   rw[Array.getElem?_append_left (by rw[List.size_toArray,hcs.size];exact yG hi' hj)];simpa using h1) (by simp;omega) (by
   rw[bTl,List.size_toArray,hcs.size,aH1,hzs,bQ2,<-bR8];exact bRv _ (by omega))
 refine⟨G',_,_,hrun,h1,by simpa using h2,(Below.refl B w).drew.alloc hR.size _⟩
theorem aFx {size:Nat}(w:World):(Builtin.firstCells size 0 (.slice p 0 cap)).run P w= .ok ([]:List Value).toArray w:=by
 cases p with
 |none=>exact run_firstCells_none w size 0 0 cap
 |some q=>exact run_firstCells_some w size 0 q 0 cap [] (by simp) (by simp)
theorem aZ9 (hR:Rel P Ξ B S G st N a w){news:List Value}{C thr:Nat}(he:st.en k=some (.blk sz xs f))
  (hown:G.own b=some (k,thr)) (h:w.heap[b]?=some (.cells c ty (0,0))) (hC':base+C*sz<=c.size) (hthr:thr=if f then base+xs.length*sz else base)
  (hs: ∀i,i<xs.length->(xs.getD i .dead).cells.length=sz)
  (ho: ∀i j,i<xs.length->j<sz->fM (c.getD (base+i*sz+j) undef)=true)
  (hkq:k.deep=true->q=3) (hv: ∀i j,i<xs.length->j<sz->VR (aX B S G w.heap.size) (G.at k) w ((xs.getD i .dead).cells.getD j .dead) (c.getD (base+i*sz+j) undef))
  (hy:Cs (aX B S G w.heap.size) Gh.none w sz ys news) (hoff:off<=xs.length) (hroom:xs.length+ys.length<=C):
  ∃G',Rel P Ξ B S G' {fr:=st.fr,en:=(st.en.set k none).set ⟨q,d,st.cnt q d⟩ (some (.blk sz (xs.drop off++ys) f)),cnt:=aC st.cnt q d (st.cnt q d+1)} N a (kJ w b (.cells (wr c (base+xs.length*sz) news) ty (0,0)))/\
   VR (aX B S G' (kJ w b (.cells (wr c (base+xs.length*sz) news) ty (0,0))).heap.size) G' (kJ w b (.cells (wr c (base+xs.length*sz) news) ty (0,0))) (.bl ⟨q,d,st.cnt q d⟩ 0 (xs.length-off+ys.length))
    (.slice (some ⟨b,base+off*sz,none⟩) (xs.length-off+ys.length) (C-off)):=by
 obtain⟨hB,hlt,hk⟩:=hR.own b k thr hown;have hf:=hR.freshG ⟨q,d,st.cnt q d⟩ (bQk _);let nk:Key:=⟨q,d,st.cnt q d⟩;have hne:k≠nk:=by rintro rfl;simp only[nk]at hk;omega
 have hmul:base+off*sz<=base+xs.length*sz:=by have:=bRv sz hoff;omega
 have hfit:base+xs.length*sz+news.length<=c.size:=by
  rw[hy.size];have:=bRv sz hroom;rw[bR8]at this;omega
 let thr':=if f then base+off*sz+(xs.length-off+ys.length)*sz else base+off*sz
 have htt:thr<=thr':=by
  simp only[hthr,thr'];cases f with
  |false=>simp
  |true=>
   simp only[if_true];rw[bR8,Nat.sub_mul];have:=bRv sz hoff;omega
 let G':Gh:={G.addFull nk b (base+off*sz) sz (C-off)with own:=fun b'=>if b'=b then some (nk,thr')else G.own b'}
 let w':=kJ w b (.cells (wr c (base+xs.length*sz) news) ty (0,0));have hsz:w'.heap.size=w.heap.size:=nS _ _ _;have hg:G.le G':=⟨fun k' b' h=>h,(Gh.le_addFull hf.2.1).blk,fun k' b' h=>h⟩
 have hnew:w'.heap[b]?=some (.cells (wr c (base+xs.length*sz) news) ty (0,0)):=kV _ hlt;have hle:thr<=base+xs.length*sz:=by
  rw[hthr];split
  ·exact bQk _
  ·omega
 have m:jN (aX B S G w.heap.size) G w (aX B S G' w'.heap.size) G' w':=by
  refine⟨fun b' o' hst=>?_,hg,fun b' o' u hst hu=>?_,fun r es cl hst hr=>?_,fun b' ds h'=>by
   by_cases hb:b'=b
   ·subst hb;rw[h]at h';cases h'
   ·rw[fB _ hb];exact h',fun b' r h'=>by
   by_cases hb:b'=b
   ·subst hb;rw[h]at h';cases h'
   ·exact⟨r,by rw[fB _ hb];exact h'⟩⟩
  ·rw[hsz];obtain⟨h1,h2⟩:=hst
   refine⟨h1,h2.imp id fun h2=>⟨h2.1,?_⟩⟩
   by_cases hb:b'=b
   ·subst hb;have h3:=h2.2;rw[hown]at h3;have h4:G'.own b'=some (nk,thr'):=by simp[G']
    rw[h4];exact bRa h3 htt
   ·simp only[G',if_neg hb];exact h2.2
  ·by_cases hb:b'=b
   ·subst hb;have ho':o'<thr:=by
     rcases hst with⟨_,⟨h,_⟩|⟨_,h⟩⟩
     ·omega
     ·rw[hown]at h;exact h
    rw[lZ hnew,aCz _ _ _ _ hfit,if_neg (by omega)]
    rw[lZ h]at hu;exact hu
   ·rw[pR (fB _ hb)];exact hu
  ·by_cases hb:r=b
   ·subst hb;rw[h]at hr;cases hr
   ·rw[fB _ hb];exact hr
 have hlen:(xs.drop off++ys).length=xs.length-off+ys.length:=by simp
 refine⟨G',hR.change m (by rw[hsz];exact bQk _) (fun k' e hk' hkn=>?_) (fun k' hk'=>?_) (fun b' k' t hb'=>?_) (hR.virtAt fun k hk=>by simp[G',Gh.addFull,nk,hk]),?_⟩
 ·simp only[En.set]at hk'
  split at hk'
  ·rename_i hke;simp only[bQi]at hk';subst hk';rw[hke];have hget: ∀i j,i<(xs.drop off++ys).length->j<sz-> ∃u,(wr c (base+xs.length*sz) news)[base+off*sz+i*sz+j]?=some u/\ fM u=true/\ VR (aX B S G w.heap.size) (G.atq q) w (((xs.drop off++ys).getD i .dead).cells.getD j .dead) u:=by
    intro i j hi hj;rw[hlen]at hi;have e0:base+off*sz+i*sz+j=base+(off+i)*sz+j:=by rw[bR8];omega
    rw[vJ,aCz _ _ _ _ hfit,e0]
    by_cases hl:i<(xs.drop off).length
    ·simp only[bS3]at hl;have h3:off+i<xs.length:=by omega
     have h4:=yG h3 hj;rw[if_pos (show i<(xs.drop off).length by simpa using hl),if_neg (by omega)]
     have h5:base+(off+i)*sz+j<c.size:=by have:=hy.size;omega
     refine⟨c.getD (base+(off+i)*sz+j) undef,by simp[bQ4 h5,bQy],ho _ _ h3 hj,?_⟩
     have e1:(xs.drop off).getD i .dead=xs.getD (off+i) .dead:=by simp[bQn,bTq]
     rw[e1];exact(hv _ _ h3 hj).shift hkq
    ·rw[if_neg hl];simp only[bS3]at hl⊢;have hi':i-(xs.length-off)<ys.length:=by omega
     obtain⟨u,h1,h2,h3⟩:=hy.at' _ j hi' hj;have e1:(off+i)*sz=xs.length*sz+(i-(xs.length-off))*sz:=by rw[<-bR8];congr 1;omega
     have h4:=yG hi' hj;rw[if_pos ⟨by omega,by rw[hy.size];omega⟩,show base+(off+i)*sz+j-(base+xs.length*sz)=(i-(xs.length-off))*sz+j by omega]
     exact⟨u,h1,h2,h3.into _⟩
   have hget': ∀i j,i<(xs.drop off++ys).length->j<sz->fM ((wr c (base+xs.length*sz) news).getD (base+off*sz+i*sz+j) undef)=true/\
     VR (aX B S G w.heap.size) (G.atq q) w (((xs.drop off++ys).getD i .dead).cells.getD j .dead) ((wr c (base+xs.length*sz) news).getD (base+off*sz+i*sz+j) undef):=fun i j hi hj=>by
    obtain⟨u,h1,h2,h3⟩:=hget i j hi hj;simp only[bQy,h1,bRc];exact⟨h2,h3⟩
   refine .blk _ f b (base+off*sz) sz (C-off) thr' _ ty (by simp[G',Gh.addFull,nk]) hB hnew (by rw[hlen];omega) (by
     rw[aD2,Nat.sub_mul];have:=bRv sz (show off<=C by omega);omega) (fun i hi=>?_)
    (fun i j hi hj=>(hget' i j hi hj).1) (fun i j hi hj=>(hget' i j hi hj).2.mono (m.atq q)) (by simp[G',nk]) (by simp only[thr',hlen])
   rw[vJ];split
   ·rename_i hl;simp at hl;have e1:(xs.drop off).getD i .dead=xs.getD (off+i) .dead:=by simp[bQn,bTq]
    rw[e1];exact hs _ (by omega)
   ·rename_i hl;rw[hlen]at hi;simp at hl;exact hy.len _ (by simp;omega)
  ·rename_i hn1
   split at hk'
   ·cases hk'
   ·rename_i hn2
    refine(hR.ents k' e hk' (Gh.knows_of (nk:=nk) (fun k hk=>by simp[G',Gh.addFull,hk]) hn1 hkn)).mono m.four fun b' _ hb'=>?_
    have hb:b'≠b:=by
     rintro rfl
     rcases hb' with⟨t,hb'⟩|⟨hb',_⟩
     ·rw[hown]at hb';simp only[bQi,bQo]at hb';exact hn2 hb'.1.symm
     ·rw[hown]at hb';cases hb'
    exact⟨fB _ hb,by simp only[G',if_neg hb]⟩
 ·have hne':k'≠nk:=by rintro rfl;simp only[nk,mK]at hk';omega
  have hle':st.cnt k'.n k'.t<=k'.g:=bQv (oG _ _) hk';obtain⟨f1,f2,f3⟩:=hR.freshG k' hle'
  refine⟨?_,f1,by simp only[G',Gh.addFull,if_neg hne'];exact f2,f3⟩
  simp only[En.set];rw[if_neg hne'];split
  ·rfl
  ·exact hR.freshEn k' hle'
 ·simp only[G']at hb';rw[hsz]
  split at hb'
  ·rename_i hbb;simp only[bQi,bQo]at hb';obtain⟨rfl,_⟩:=hb';subst hbb;exact⟨hB,hlt,by simp only[nk,mK];omega⟩
  ·obtain⟨h1,h2,h3⟩:=hR.own b' k' t hb';exact⟨h1,h2,bRa h3 (oG _ _)⟩
 ·have:=VR.bl (T:=aX B S G' w'.heap.size) (G:=G') (w:=w') nk 0 (xs.length-off+ys.length) b (base+off*sz) sz (C-off) (by simp[G',Gh.addFull,nk]) (by omega)
  simpa using this
theorem tA {o':Obj}(hB:B<=b):Below B w (kJ w b o'):=
 ⟨rfl,rfl,rfl,by rw[nS];exact bQk _,fun k hk=>fB _ (by omega)⟩
theorem yI {ts:Array TypeId}{v:Value}(ho:o.op= .call {callee:= .builtin .append,args:= #[x,y],argTypes:=ts})
  (h:(Builtin.append_ ts o.type #[a.eval x,a.eval y]).run P w= .ok v w'):(execOp a.eval o).run P w= .ok (.value v) w':=by
 simp[execOp,ho,resolve,invoke,builtin,h]
theorem aFy {i:Nat}:(xs.drop off).getD i .dead=xs.getD (off+i) .dead:=by simp[bQn,bTq]
theorem aOp (hR:Rel P Ξ B S G st N a w){zv:Value}{news:List Value}
  (ho:o.op= .call {callee:= .builtin .append,args:= #[x,y],argTypes:= #[t,t]}) (ht:P.underlying t=some (.slice e)) (hi:P.info? e=some i) (hzv:i.zero=some zv) (hzs:zv.cells.size=i.size) (hbe:i.bytes<=1048576)
  (hs:Src P i.size t (a.eval y) ys.length news w) (hcy:Cs (aX B S G w.heap.size) Gh.none w i.size ys news)
  (hle: ∀{p:Option Addr} {m c:Nat},m<=c->ys=[]->(Builtin.append_ #[t,t] o.type #[.slice p m c,a.eval y]).run P w= .ok (.slice p m c) w)
  (vx:VR (aX B S G w.heap.size) G w (.bl k off len) (a.eval x)) (hk:st.en k=some (.blk i.size xs f)) (hkq:k.deep=true->q=3) (hc1:off+len=xs.length) (hc2:len+ys.length<=16777216):
  eR P Ξ B S st N a w o d {v:= .bl ⟨q,d,st.cnt q d⟩ 0 (len+ys.length),ws:=[.ent k none,.ent ⟨q,d,st.cnt q d⟩ (some (.blk i.size (xs.drop off++ys) f))],rs:= .val k:: .flag k::rs,bump:=true} q:=by
 have hE:=hR.ents k _ hk vx.knows_bl;have hRd:=hR.drop k;have hlen:(xs.drop off).length=len:=by simp;omega
 have empty: ∀p,a.eval x= .slice p 0 0->xs.drop off=[]->eR P Ξ B S st N a w o d
   {v:= .bl ⟨q,d,st.cnt q d⟩ 0 (len+ys.length),ws:=[.ent k none,.ent ⟨q,d,st.cnt q d⟩ (some (.blk i.size (xs.drop off++ys) f))],rs:= .val k:: .flag k::rs,bump:=true} q:=by
  intro p hp h0;rw[h0]at hlen⊢;simp only[bQz]at hlen;subst hlen
  by_cases hn:ys=[]
  ·subst hn;obtain⟨G',g1,g2⟩:=aVz (q:=q) (d:=d) hRd i.size f;exact jW (x:= .slice p 0 0) (yI ho (by rw[hp];exact hle (bQk 0) rfl)) (by simpa[St.mem,W.applyAll,W.apply]using g1) (by simpa using g2 p) (Below.refl _ _)
  ·have hpos:0<ys.length:=bTm.2 hn;obtain⟨G',xv,w',hrun,g1,g2,g3⟩:=aC2 (q:=q) (d:=d) (ty:=o.type) (frz:=f) (p:=p) (cap:=0) (xs:=[]) (olds:=[]) hRd ht hi hzv hzs hbe (aFx w.drew) Cs.nil hs hcy (by simpa using hpos) (by simpa using hc2)
   exact jW (yI ho (hp▸hrun)) (by simpa[St.mem,W.applyAll,W.apply]using g1) (by simpa using g2) g3
 have anew: ∀b base C,G.blk k=some (some (b,base,i.size,C))->a.eval x= .slice (some ⟨b,base+off*i.size,.none⟩) len (C-off)->C-off<len+ys.length->eR P Ξ B S st N a w o d
   {v:= .bl ⟨q,d,st.cnt q d⟩ 0 (len+ys.length),ws:=[.ent k none,.ent ⟨q,d,st.cnt q d⟩ (some (.blk i.size (xs.drop off++ys) f))],rs:= .val k:: .flag k::rs,bump:=true} q:=by
  intro b base C hb hp hgt;have hrd:Rd (aX B S G w.heap.size) (G.atq q) w i.size (xs.drop off) b (base+off*i.size):=by
   refine⟨fun i' hi'=>?_,fun i' j hi' hj=>?_⟩<;>rw[aFy]<;>rw[hlen]at hi'
   ·exact(hE.elem hb (i:=off+i') (by omega)).1
   ·obtain⟨c,e1,e2,e3⟩:=(hE.elem hb (i:=off+i') (by omega)).2 j hj
    exact⟨c,by rw[show base+off*i.size+i'*i.size+j=base+(off+i')*i.size+j by rw[bR8];omega];exact e1,e2,e3.shift hkq⟩
  rw[<-hlen]at hp hgt hc2⊢;obtain⟨G',xv,w',hrun,g1,g2,g3⟩:=aC2 (q:=q) (d:=d) (ty:=o.type) (frz:=f) hRd ht hi hzv hzs hbe (run_firstCells_some w.drew i.size _ ⟨b,base+off*i.size,.none⟩ (xs.drop off).length (C-off) _ (aD8 _ _ _ _) (by simpa using hrd.news)) hrd.cs hs hcy hgt hc2
  exact jW (yI ho (hp▸hrun)) (by simpa[St.mem,W.applyAll,W.apply]using g1) g2 g3
 generalize hxv:a.eval x=xv at vx;cases vx with
 |bl0 _ p hb=>
  refine empty p hxv ?_
  cases hE with
  |nul _ _ _=>simp
  |blk _ _ b base sz C thr c t' hb1=>rw[hb]at hb1;cases hb1
  |full _ b base sz c hb1=>rw[hb]at hb1;cases hb1
 |ble _ p b base sz C hb=>
  refine empty p hxv ?_
  cases hE with
  |nul _ _ hb1=>rw[hb]at hb1;cases hb1
  |blk _ _ b base sz C' thr c t' hb1 _ _ hC=>rw[hb]at hb1;simp only[bQi,bQo]at hb1;rw[bTs];omega
  |full _ b base sz c hb1=>rw[hb]at hb1;simp only[bQi,bQo]at hb1;rw[bTs];omega
 |bl _ _ _ b base sz C hb hl=>
  cases hE with
  |nul _ _ hb1=>rw[hb]at hb1;cases hb1
  |blk _ _ b1 base1 _ C1 thr c t1 hb1 hB hh1 hC hC' hs1 ho1 hv1 hown hthr=>
   have hbb:=hb1;rw[hb]at hb1;simp only[bQi,bQo]at hb1;obtain⟨rfl,rfl,rfl,rfl⟩:=hb1
   by_cases hroom:xs.length+ys.length<=C
   ·obtain⟨G',g1,g2⟩:=aZ9 (q:=q) (d:=d) (off:=off) hR hk hown hh1 hC' hthr hs1 ho1 hkq hv1 hcy (by omega) hroom
    have hxl:base+off*i.size+len*i.size=base+xs.length*i.size:=by rw[bSp,<-bR8,hc1]
    have hfit:base+xs.length*i.size+news.length<=c.size:=by
     rw[hcy.size];have:=bRv i.size hroom;rw[bR8]at this;omega
    have hrun:=run_append_room_src (P:=P) w t t o.type e i ht hi b (base+off*i.size) len (C-off) (a.eval y) ys.length news hs (by omega)
     (fun j hj=>by rw[hxl,lZ hh1];simp;omega)
     (fun j hj=>by simp[World.frozen?,hh1])
    rw[hxl,aG3 _ _ _ _ hh1]at hrun;rw[show xs.length-off=len by omega]at g2
    exact jW (yI ho (hxv▸hrun)) (by simpa[St.mem,W.applyAll,W.apply]using g1) g2 (tA hB)
   ·exact anew b base C hbb hxv (by omega)
  |full _ b1 base1 _ c hb1 hs1 hcell hst ho1 hv1=>
   have hbb:=hb1;rw[hb]at hb1;simp only[bQi,bQo]at hb1;obtain⟨rfl,rfl,rfl,rfl⟩:=hb1
   by_cases hn:ys=[]
   ·subst hn
    by_cases h0:i.size=0/\ False
    ·exact absurd h0.2 id
    ·obtain⟨G',g1,g2⟩:=aZ8 (q:=q) (d:=d) (b:=b) (base:=base+off*i.size) (xs:=xs.drop off) (sz:=i.size) hRd (fun i' hi'=>by rw[aFy];rw[hlen]at hi';exact hs1 _ (by omega)) (fun i' j hi' hj=>by
      rw[hlen]at hi';have e0:base+off*i.size+i'*i.size+j=base+(off+i')*i.size+j:=by rw[bR8];omega
      rw[aFy,e0];exact⟨c (off+i') j,hcell _ _ (by omega) hj,hst _ _ (by omega) hj,ho1 _ _ (by omega) hj,hv1 _ _ (by omega) hj⟩)
     have hrun:(execOp a.eval o).run P w= .ok (.value (.slice (some ⟨b,base+off*i.size,.none⟩) len (xs.length-off))) w:=yI ho (by rw[hxv];exact hle (by omega) rfl)
     rw[show xs.length-off=len by omega]at hrun
     rw[hlen]at g2;exact jW hrun (by simpa[St.mem,W.applyAll,W.apply]using g1) (by simpa using g2) (Below.refl _ _)
   ·have hpos:0<ys.length:=bTm.2 hn;exact anew b base xs.length hbb hxv (by omega)
theorem Rel.trunc (hR:Rel P Ξ B S G st N a w)(hk:st.en k=some (.blk sz xs f)){m:Nat}(hm:m=xs.length \/f=false/\ m<=xs.length):
  Rel P Ξ B S G {st with en:=st.en.set k (some (.blk sz (xs.take m) f))} N a w:=by
 refine⟨hR.size,hR.tmps,hR.frame,hR.marks,fun k' e he hkn=>?_,fun k' hk'=>?_,hR.freshG,hR.own,hR.extra,hR.round,hR.defs,hR.virt⟩
 ·simp only[En.set]at he
  split at he
  ·rename_i hkk;subst hkk;simp only[bQi]at he;subst he;have hE:=hR.ents k' _ hk hkn;rcases hm with rfl|⟨rfl,hm⟩
   ·rw[bR1];exact hE
   ·have hgd: ∀i,i<m->(xs.take m).getD i .dead=xs.getD i .dead:=fun i hi=>by simp[bQn,List.getElem?_take,hi]
    cases hE with
    |nul _ _ h=>rw[List.take_nil];exact .nul _ _ h
    |blk _ _ b base _ C thr c t hb hB h hC hC' hs ho hv hown hthr=>
     have hl:(xs.take m).length=m:=by simp;omega
     refine .blk _ false b base _ C thr c t hb hB h (by omega) hC' (fun i hi=>?_) (fun i j hi hj=>?_) (fun i j hi hj=>?_) hown hthr<;>rw[hl]at hi
     ·rw[hgd i hi];exact hs i (by omega)
     ·exact ho i j (by omega) hj
     ·rw[hgd i hi];exact hv i j (by omega) hj
  ·exact hR.ents k' e he hkn
 ·simp only[En.set];split
  ·rename_i hkk;subst hkk;have:=hR.freshEn k' hk';rw[this]at hk;cases hk
  ·exact hR.freshEn k' hk'
theorem aJa (hR:Rel P Ξ B S G st N a w)(ho:o.op= .call {callee:= .builtin .append,args:= #[x,y],argTypes:= #[t,t]})(ht:P.underlying t=some (.slice e))
  (hz:(iV P e).map List.length=some (P.cellsOf e)) (hby:P.bytesOf e<=1048576) (h1:aO x=some x') (h2:aO y=some y')
  (hev:fL q d (st.cnt q d) st.en (P.cellsOf e) (St.get st.fr x') (iN st.en (St.get st.fr y'))=some r):eR P Ξ B S st N a w o d r q:=by
 obtain⟨z,hz1,hz2⟩:=bQw.1 hz;obtain⟨i,zv,hi,hzv,hzc⟩:=aOm (P:=P) (w:=w) (T:=aX B S G w.heap.size) (G:=G) hz1;have hsz:P.cellsOf e=i.size:=by simp[Program.cellsOf,hi]
 have hbe:i.bytes<=1048576:=by simpa[Program.bytesOf,hi]using hby
 have hzs:zv.cells.size=i.size:=by rw[hzc.size,hz2,hsz]
 rw[hsz]at hev;have vx:=aU hR h1;have vy:=aU hR h2;simp only[fL]at hev
 split at hev
 case h_2=>cases hev
 rename_i ys rs hel
 split at hev
 case isFalse=>cases hev
 rename_i hh;obtain⟨news,hs,hcy⟩:=bGu (i:=i) hR ht vy hel hh;have hle: ∀{p:Option Addr} {m c:Nat},m<=c->ys=[]->(Builtin.append_ #[t,t] o.type #[.slice p m c,a.eval y]).run P w= .ok (.slice p m c) w:=by
  rintro p m c hm rfl
  have:news=[]:=by have:=hcy.size;simpa using this
  subst this;exact run_append_nothing w t t o.type e i ht hi p m c hm _ hs
 split at hev
 ·-- a slice without room
  rename_i xs hX;rw[hX]at vx
  split at hev
  ·rename_i hye;simp only[bQi]at hev;subst hev;have hn:ys=[]:=bTn.1 hye;have hfro:=aI6 vx;obtain⟨p,hp⟩: ∃p,a.eval x= .slice p xs.length xs.length:=by
    generalize a.eval x=xv at hfro;cases hfro with
    |nil p cap h hcap=>subst h;exact⟨p,by rw[hcap rfl];rfl⟩
    |some b off sz cap c hcc hcl hsx hcell hst ho1 hv1=>exact⟨_,by rw[hcl rfl]⟩
   exact cF (x:= .slice p xs.length xs.length) hR (yI ho (by rw[hp];exact hle (bQk xs.length) hn)) (hp▸vx)
  rename_i hne
  split at hev
  case isFalse=>cases hev
  rename_i hc;simp only[bQi]at hev;subst hev;have hfro:=aI6 vx;have key: ∃p,a.eval x= .slice p xs.length xs.length/\ ∃olds,(Builtin.firstCells i.size xs.length (.slice p xs.length xs.length)).run P w.drew= .ok olds.toArray w.drew/\ Cs (aX B S G w.heap.size) Gh.none w i.size xs olds/\
    (xs=[] \/ ∃b off,p=some ⟨b,off,none⟩/\ ∀i' j,i'<xs.length->j<i.size-> ∃c,w.cell? ⟨b,off+i'*i.size+j,.none⟩=some c/\ aX B S G w.heap.size b (off+i'*i.size+j)/\ fM c=true/\ VR (aX B S G w.heap.size) Gh.none w ((xs.getD i' .dead).cells.getD j .dead) c):=by
   generalize a.eval x=xv at hfro;cases hfro with
   |nil p cap h hcap=>subst h;exact⟨p,by rw[hcap rfl];rfl,[],aFx w.drew,Cs.nil,.inl rfl⟩
   |some b off sz cap c hcc hcl hsx hcell hst ho1 hv1=>
    rcases yE hsx hc.2 with h0|rfl
    ·subst h0;exact⟨_,by rw[hcl rfl],[],aFx w.drew,Cs.nil,.inl rfl⟩
    ·have hrd:Rd (aX B S G w.heap.size) Gh.none w i.size xs b off:=⟨hsx,fun i' j hi' hj=>⟨c i' j,hcell i' j hi' hj,ho1 i' j hi' hj,hv1 i' j hi' hj⟩⟩
     exact⟨_,by rw[hcl rfl],_,run_firstCells_some w.drew i.size xs.length _ _ _ _ (aD8 _ _ _ _) (by simpa using hrd.news),hrd.cs,
      .inr ⟨b,off,rfl,fun i' j hi' hj=>⟨c i' j,hcell i' j hi' hj,hst i' j hi' hj,ho1 i' j hi' hj,hv1 i' j hi' hj⟩⟩⟩
  obtain⟨p,hp,olds,hold,hcx,hpl⟩:=key;have hn:ys≠[]:=fun h=>hne (by rw[h];rfl)
  have hpos:0<ys.length:=bTm.2 hn;obtain⟨G',xv,w',hrun,g1,g2,g3⟩:=aC2 (q:=q) (d:=d) (ty:=o.type) (frz:=!xs.isEmpty) hR ht hi hzv hzs hbe hold (hcx.into _) hs hcy (by omega) hc.1
  exact jW (yI ho (hp▸hrun)) (by simpa[St.mem,W.applyAll,W.apply]using g1) g2 g3
 ·-- an own slice
  rename_i k off len hX;rw[hX]at vx
  split at hev
  case h_2=>cases hev
  rename_i sz xs f hk
  split at hev
  case isFalse=>cases hev
  rename_i hc;obtain⟨hc1,hc2,rfl,hkq⟩:=hc;simp only[bQi]at hev;subst hev;have hR':=hR.trunc hk hc1;have hl:off+len=(xs.take (off+len)).length:=by
   rw[bR2];rcases hc1 with h|⟨_,h⟩<;>omega
  have hok:=aOp (q:=q) (d:=d) (rs:=rs) (f:=f) (k:=k) hR' ho ht hi hzv hzs hbe hs hcy hle vx (by simp[En.set]) hkq hl hc2
  have hen: ∀(u v:Option Ent),W.applyAll (st.en.set k u) [.ent k none,.ent ⟨q,d,st.cnt q d⟩ v]=W.applyAll st.en [.ent k none,.ent ⟨q,d,st.cnt q d⟩ v]:=by
   intro u v;simp only[W.applyAll,bSv,bS4,W.apply]
   funext k';simp only[En.set];split
   ·rfl
   ·split<;>rfl
  intro ro m next Q kk
  refine hok ro m next Q fun x w' G' h1 h2 h3=>kk x w' G' ?_ h2 h3
  simp only[St.mem,hen]at h1⊢;exact h1
 ·cases hev
theorem aXg (hR:Rel P Ξ B S G st N a w){call:bD}(ho:o.op= .call {callee:= .builtin .append,args:= #[x,y],argTypes:= #[t,t]})(ht:P.underlying t=some (.slice e))
  (hz:(iV P e).map List.length=some (P.cellsOf e)) (hby:P.bytesOf e<=1048576) (h1:aO x=some x') (h2:aO y=some y')
  (hev:eval n call 0 d (st.cnt 0 d) st.en (St.get st.fr) (.append (P.cellsOf e) x' y')=some r):eR P Ξ B S st N a w o d r:=
 aJa hR ho ht hz hby h1 h2 hev
end
end Go.Abs
