/- The interpreter of the translated code, and its proof: part A. -/
import Derived.Calls
import Derived.Below
import Derived.WalkKit
import Derived.ChangeKeysEq
import Derived.WalkLawsBesides
import Derived.WalkSpells
import Derived.OrdersIn
import Derived.RangeFuncRecord
set_option linter.all false
open Array renaming getD_eq_getD_getElem? → bPc, getElem?_eq_some_iff → bQn, getElem?_setIfInBounds → bRk, length_toList → bQ4
open Bool renaming and_eq_true → bOx, false_eq_true → bO0, not_true → bPd
open List renaming cons_append → bRa, drop_eq_getElem_cons → bPy, drop_zero → bQ6, flatMap_nil → bQy, getD_cons_zero → bRt, getD_eq_getElem?_getD → bO2, getElem?_cons_succ → bR9, getElem?_drop → bR1, getElem?_eq_some_iff → bSe, getElem_mem → bO6, length_append → bPg, length_cons → bO7, length_map → bOz, length_nil → bPe, map_nil → bPf, mem_append_left → bQ9, mem_append_right → bQ0, mem_cons → bP0, mem_cons_of_mem → bQz, mem_flatMap → bQa, range'_succ → bRu, range_eq_range' → bR2, replicate_succ → bP9, replicate_zero → bP8, take_of_length_le → bPi, take_succ_cons → bO5, take_zero → bO3
open Nat renaming add_assoc → bQo, add_mul → bQj, add_zero → bQh, le_refl → bOy, le_trans → bPb, lt_of_lt_of_le → bPo, lt_or_ge → bP4, mul_le_mul_right → bP5, succ_mul → bQl, zero_add → bPs
open Option renaming bind_eq_some_iff → bO9, isSome_iff_exists → bQk, map_eq_some_iff → bPa, map_some → bPq
open Option.some renaming injEq → bOw
open Prod.mk renaming injEq → bO1
namespace Go.Abs
variable {p:Prop}
theorem bSi [Decidable p]:(decide p=true)=p:=decide_eq_true_eq
theorem bSj [Decidable p]:decide p=false↔ ¬p:=decide_eq_false_iff_not
structure Key where
 n:Nat
 t:Nat
 g:Nat
 deriving DecidableEq
def Key.deep (k:Key):Bool:=decide (k.n=3)
inductive Val where
 |dead
 |bool (b:Bool)
 |int (k:IntKind) (n:Int)
 |str (s:ByteArray)
 |nilp
 |fp (cs:List Val) (off:Nat)
 |ptr (k:Key) (off:Nat)
 |ep (k:Key) (i off:Nat)
 |fz (xs:List Val)
 |cl (xs:List Val)
 |bl (k:Key) (off len:Nat)
 |nilm
 |fm (ks vs:List Val)
 |mp (k:Key)
 |nilf
 |fn (f:Nat) (first cap:List Val)
 |yld (k:Key)
 |nili
 |es (nil:Bool)
 |it (k:Key)
 |own (sz:Nat) (xs:List Val)
 |ifc (t:Nat) (v:Val)
 |agg (cs:List Val)
 |tup (vs:List Val)
 deriving Inhabited
namespace Val
def cells :Val->List Val
 |agg cs=>cs
 |v=>[v]
def one :Val->Bool
 |tup _=>false
 |_=>true
def wk0 :Val->Val
 |cl xs=>fz xs
 |v=>v
def wk1 :Val->Val
 |agg cs=>agg (cs.map wk0)
 |v=>wk0 v
def wk :Val->Val
 |tup vs=>tup (vs.map wk1)
 |v=>wk1 v
def flat0 :Val->Bool
 |bool _|int _ _|str _|nilp|nilm|nilf|nili|fn _ [] []=>true
 |_=>false
def flat1 :Val->Bool
 |agg cs=>cs.all flat0
 |ifc _ (agg cs)=>cs.all flat0
 |ifc _ v=>flat0 v
 |v=>flat0 v
def flat :Val->Bool
 |tup vs=>vs.all flat1
 |v=>flat1 v
end Val
inductive Opd where
 |t (i:Nat)
 |c (v:Val)
 |f (i:Nat)
 |m (tbl:List (Nat×Nat)) (i:Nat)
 deriving Inhabited
inductive CT where
 |num|str|bool
 deriving DecidableEq,Inhabited
inductive EqT where
 |num|str|bool|agg (l:List CT)|map|slice|func|iface|ptr
 deriving DecidableEq,Inhabited
inductive LOp where
 |mv (x:Opd)
 |pick (c a b:Opd)
 |alloc (z:List Val)
 |box (n:Nat) (x:Opd)
 |build (z:List Val) (parts:List (Nat×Nat×Opd))
 |bslice (len size:Nat) (z:List Val) (parts:List (Nat×Opd))
 |bsliceK (len size:Nat) (z:List Val) (parts:List (Nat×Opd))
 |bsliceO (len size:Nat) (z:List Val) (parts:List (Nat×Opd))
 |load (agg:Bool) (n:Nat) (a:Opd)
 |store (n:Nat) (a v:Opd)
 |nilck (x:Opd)
 |bin (op:BinOp) (t:EqT) (x y:Opd)
 |un (op:UnOp) (x:Opd)
 |wrap (k:IntKind) (x:Opd)
 |iface (t:Nat) (x:Opd)
 |assert (t:Nat) (z:Val) (ok:Bool) (x:Opd)
 |mkfn (f:Nat) (first cap:List Opd)
 |mkmap
 |mput (t:EqT) (m k v:Opd)
 |mget (t:EqT) (z:Val) (ok:Bool) (m k:Opd)
 |mklen (size:Nat) (z:List Val) (len cap:Opd)
 |slice (str:Bool) (size:Nat) (x:Opd) (lo hi mx:Option Opd)
 |fa (off:Nat) (x:Opd)
 |fld (agg:Bool) (off n:Nat) (x:Opd)
 |ia (size:Nat) (x i:Opd)
 |iaa (len size:Nat) (x i:Opd)
 |ixs (x i:Opd)
 |ixa (agg:Bool) (len size:Nat) (x i:Opd)
 |ext (i:Nat) (x:Opd)
 |call (f:Opd) (args:List Opd)
 |icall (f:Opd) (args:List Opd)
 |len (t:EqT) (x:Opd)
 |append (size:Nat) (x y:Opd)
 |appendD (size:Nat) (x y:Opd)
 |appendZ (size:Nat) (z:List Val) (x y:Opd)
 |copy (size:Nat) (x y:Opd)
 |minmax (max:Bool) (xs:List Opd)
 |rng (x:Opd)
 |nxt (x:Opd)
 |panic (x:Opd)
 deriving Inhabited
def LOp.opds :LOp->List Opd
 | .panic x| .rng x| .nxt x| .mv x| .box _ x| .load _ _ x| .nilck x| .un _ x| .wrap _ x| .iface _ x| .assert _ _ _ x| .fa _ x| .fld _ _ _ x| .ext _ x| .len _ x=>[x]
 | .pick a b c| .mput _ a b c=>[a,b,c]
 | .alloc _| .mkmap=>[]
 | .build _ ps=>ps.map fun p=>p.2.2
 | .bslice _ _ _ ps| .bsliceK _ _ _ ps| .bsliceO _ _ _ ps=>ps.map fun p=>p.2
 | .store _ x y| .bin _ _ x y| .mget _ _ _ x y| .mklen _ _ x y| .ia _ x y| .iaa _ _ x y| .ixs x y| .ixa _ _ _ x y| .append _ x y| .appendD _ x y| .appendZ _ _ x y| .copy _ x y=>[x,y]
 | .mkfn _ a b=>a++b
 | .slice _ _ x lo hi mx=>x::(lo.toList++hi.toList++mx.toList)
 | .call f l| .icall f l=>f::l
 | .minmax _ l=>l
def LOp.writesMem :LOp->Bool
 | .panic _| .rng _| .nxt _| .alloc _| .box .. | .store .. | .mput .. | .mkmap| .mklen .. | .bslice .. | .bsliceK .. | .bsliceO .. | .call .. | .icall .. | .append .. | .appendD .. | .appendZ .. | .copy .. =>true
 |_=>false
def LOp.readsMem :LOp->Bool
 | .panic _| .nxt _| .load .. | .mget .. | .bslice .. | .bsliceK .. | .store .. | .mput .. | .ia .. | .call .. | .icall .. | .append .. | .appendD .. | .copy .. | .slice .. | .len .. =>true
 |_=>false
def LOp.me (me:Nat):LOp->Nat
 | .appendD .. =>3
 |_=>me
structure aM where
 dst:Option Nat
 op:LOp
 guard:Option (Nat×Bool)
 deriving Inhabited
def Opd.tmp :Opd->List Nat
 | .t i=>[i]
 | .m _ i=>[i]
 |_=>[]
def aM.uses (o:aM):List Nat:=
 o.op.opds.flatMap Opd.tmp++(match o.guard with|some (t,_)=>[t]|none=>[])
inductive bB where
 |skip
 |ops (l:List aM)
 |draw (l:List aM) (pairs:List (Nat×Nat))
 |seq (a b:bB)
 |cond (c:Opd) (x y:bB)
 |block (id:Nat) (b:bB)
 |loop (b:bB)
 |exit (id:Nat)
 |ret
 |rangeF (g:Opd) (ps:List Nat) (assign body:bB)
 |opsP (l:List aM)
 |dfr (ts:List Nat) (l:List aM) (f:Opd) (args:List Opd) (b:bB)
 |rcv (dst:Option Nat) (l:List aM) (b:bB)
 |drawP (l:List aM) (an:List (List Nat)) (pairs:List (Nat×Nat))
 |drawL (l:List aM) (an:List (List Nat)) (pairs:List (Nat×Nat)) (at':Nat)
 deriving Inhabited
inductive aWv where
 |tmp (t:Nat)
 |cell (t:Nat) (agg:Bool) (n:Nat)
 deriving Inhabited
structure jB where
 np:Nat
 res:List aWv
 keep:Bool
 amb:Bool:=false
 nrm:List (List Nat):=[]
 body:bB
 deriving Inhabited
abbrev bJ :=Nat->Option jB
inductive Ex where
 |normal
 |exit (id:Nat)
 |ret
 |panic (v:Val)
instance (e :Ex):Decidable (e= .normal):=match e with
 | .normal=>isTrue rfl
 | .exit _=>isFalse (by simp)
 | .ret=>isFalse (by simp)
 | .panic _=>isFalse (by simp)
def Ex.calm :Ex->Bool
 | .panic _=>false
 |_=>true
inductive LSt where
 |ready
 |busy
 |done (e:Ex)
 |over
inductive Ent where
 |box (cs:List Val) (frz:Bool)
 |blk (sz:Nat) (xs:List Val) (frz:Bool)
 |map (ks vs:List Val) (frz:Bool)
 |loop (fr:Nat->Val) (ps:List Nat) (assign body:bB) (s:LSt)
 |iter (s:ByteArray) (pos:Nat)
 deriving Inhabited
abbrev En :=Key->Option Ent
def En.set (en:En)(k:Key)(e:Option Ent):En:=fun k'=>if k'=k then e else en k'
structure St where
 fr:Nat->Val
 en:En
 cnt:Nat->Nat->Nat
def iR (fr:Nat->Val)(d:Nat)(v:Val):Nat->Val:=fun i=>if i=d then v else fr i
def aC (c:Nat->Nat->Nat)(n t x:Nat):Nat->Nat->Nat:=fun n' t'=>if n'=n/\ t'=t then x else c n' t'
def cU {α β:Type}(f:α->Option β):List α->Option (List β)
 |[]=>some []
 |x::xs=>match f x with
  |some y=>match cU f xs with
   |some ys=>some (y::ys)
   |none=>none
  |none=>none
def snap :Nat->En->Val->Option (Val×List Key)
 |0,_,v=>match v with
  | .agg _| .tup _| .yld _| .it _=>none
  |_=>some (.dead,[])
 |n+1,en,v=>
  let l (vs:List Val):Option (List Val×List Key):=(cU (snap n en) vs).map fun rs=>(rs.map (·.1),rs.flatMap (·.2))
  match v with
  | .ptr k off=>match en k with
   |some (.box cs _)=>(l cs).map fun r=>(.fp r.1 off,k::r.2)
   |_=>none
  | .ep k i off=>match en k with
   |some (.blk _ xs _)=>if k.deep then none else match xs[i]? with
    |some x=>some (.fp x.cells off,[k])
    |none=>none
   |_=>none
  | .bl k off len=>match en k with
   |some (.blk _ xs _)=>if off+len<=xs.length then(if k.deep then(l ((xs.drop off).take len)).map fun r=>(.fz (r.1.map Val.wk1),k::r.2)else some (.fz ((xs.drop off).take len),[k]))else none
   |_=>none
  | .mp k=>match en k with
   |some (.map ks vs _)=>some (.fm ks vs,[k])
   |_=>none
  | .yld _| .it _=>none
  | .fn f a b=>match l a,l b with
   |some x,some y=>some (.fn f x.1 y.1,x.2++y.2)
   |_,_=>none
  | .ifc t v=>(snap n en v).map fun r=>(.ifc t r.1,r.2)
  | .agg cs=>(l cs).map fun r=>(.agg r.1,r.2)
  | .tup vs=>(l vs).map fun r=>(.tup r.1,r.2)
  |v=>some (v,[])
def qR (f:Val->Val->Bool):List Val->List Val->Bool
 |[],[]=>true
 |x::xs,y::ys=>f x y&&qR f xs ys
 |_,_=>false
def rI :Nat->Val->Val->Bool
 |0,_,_=>false
 |n+1,x,y=>match x,y with
  | .dead,.dead| .nilp,.nilp| .nilm,.nilm| .nilf,.nilf| .nili,.nili=>true
  | .bool a,.bool b| .es a,.es b=>a==b
  | .int j a,.int k b=>decide (j=k)&&decide (a=b)
  | .str a,.str b=>decide (a.data.toList=b.data.toList)
  | .fp a i,.fp b j=>decide (i=j)&&qR (rI n) a b
  | .ptr k i,.ptr l j=>decide (k=l)&&decide (i=j)
  | .ep k a i,.ep l b j=>decide (k=l)&&decide (a=b)&&decide (i=j)
  | .fz a,.fz b| .cl a,.cl b| .agg a,.agg b=>qR (rI n) a b
  | .bl k a i,.bl l b j=>decide (k=l)&&decide (a=b)&&decide (i=j)
  | .fm a b,.fm c d=>qR (rI n) a c&&qR (rI n) b d
  | .mp k,.mp l| .yld k,.yld l| .it k,.it l=>decide (k=l)
  | .fn f a b,.fn g c d=>decide (f=g)&&qR (rI n) a c&&qR (rI n) b d
  | .ifc t a,.ifc u b=>decide (t=u)&&rI n a b
  |_,_=>false
def aQf :Option Ent->Option Ent->Bool
 |none,none=>true
 |some (.box a f),some (.box b g)=>decide (f=g)&&qR (rI 8) a b
 |some (.blk n a f),some (.blk m b g)=>decide (n=m)&&decide (f=g)&&qR (rI 8) a b
 |some (.map a b f),some (.map c d g)=>decide (f=g)&&qR (rI 8) a c&&qR (rI 8) b d
 |_,_=>false
theorem aDw {f:Val->Val->Bool}(h: ∀x y,f x y=true->x=y): ∀{a b:List Val},qR f a b=true->a=b
 |[],[],_=>rfl
 |x::xs,y::ys,e=>by
  simp only[qR,bOx]at e;rw[h _ _ e.1,aDw h e.2]
 |[],_::_,e=>by simp[qR]at e
 |_::_,[],e=>by simp[qR]at e
theorem aDx : ∀(n:Nat) (x y:Val),rI n x y=true->x=y
 |0,_,_,h=>by simp[rI]at h
 |n+1,x,y,h=>by
  have ih: ∀{a b:List Val},qR (rI n) a b=true->a=b:=aDw (aDx n)
  simp only[rI]at h
  split at h<;>first
   |(cases h;done)
   |rfl
   |(rw[ih h];done)
   |(simp only[bOx,bSi,beq_iff_eq,and_assoc]at h
     first
     |(obtain⟨rfl,h2,h3⟩:=h;rw[ih h2,ih h3])
     |(obtain⟨rfl,rfl,rfl⟩:=h;rfl)
     |(obtain⟨rfl,rfl⟩:=h;rfl)
     |(obtain⟨h1,h2⟩:=h;rw[ih h1,ih h2])
     |(obtain⟨rfl,h2⟩:=h;rw[ih h2])
     |(obtain⟨rfl,h2⟩:=h;rw[aDx n _ _ h2])
     |(subst h;rfl)
     |(rw[ih h])
     |(rename_i a b;obtain⟨⟨a⟩⟩:=a;obtain⟨⟨b⟩⟩:=b;simp only at h;subst h;rfl))
theorem aQg {x y:Option Ent}(h:aQf x y=true):x=y:=by
 have ih: ∀{a b:List Val},qR (rI 8) a b=true->a=b:=aDw (aDx 8)
 unfold aQf at h
 split at h<;>first
  |(cases h;done)
  |rfl
  |(simp only[bOx,bSi,and_assoc]at h
    first
    |(obtain⟨rfl,h2⟩:=h;rw[ih h2];done)
    |(obtain⟨rfl,rfl,h2⟩:=h;rw[ih h2];done)
    |(obtain⟨rfl,h2,h3⟩:=h;rw[ih h2,ih h3];done))
def wP (tbl:List (Nat×Nat)):Val->Val
 | .ifc t v=>match tbl.lookup t with
  |some f=> .fn f [v] []
  |none=> .dead
 |_=> .dead
def St.get (fr:Nat->Val):Opd->Val
 | .t i=>fr i
 | .m tbl i=>wP tbl (fr i)
 | .c v=>v
 | .f i=> .fn i [] []
inductive W where
 |ent (k:Key) (e:Option Ent)
 |cells (k:Key) (off:Nat) (vs:List Val)
 |elem (k:Key) (i off:Nat) (vs:List Val)
 |frz (k:Key)
inductive R where
 |val (k:Key)
 |cells (k:Key) (off n:Nat)
 |flag (k:Key)
def setCells :List Val->Nat->List Val->List Val
 |cs,_,[]=>cs
 |cs,off,v::vs=>setCells (cs.set off v) (off+1) vs
def iM (agg:Bool)(cs:List Val):Option Val:=
 if agg then some (.agg cs)else match cs with|[v]=>some v|_=>none
def eV (x:Val)(off:Nat)(vs:List Val):Val:=
 match x with
 | .agg cs=> .agg (setCells cs off vs)
 |x=>if off=0 then(match vs with|[v]=>v|_=>x)else x
def Ent.freeze :Ent->Ent
 | .box cs _=> .box cs true
 | .blk sz xs _=> .blk sz xs true
 | .map ks vs _=> .map ks vs true
 | .loop fr ps a b s=> .loop fr ps a b s
 | .iter s pos=> .iter s pos
def W.apply (en:En):W->En
 | .ent k e=>en.set k e
 | .cells k off vs=>match en k with
  |some (.box cs f)=>en.set k (some (.box (setCells cs off vs) f))
  |_=>en
 | .elem k i off vs=>match en k with
  |some (.blk sz xs f)=>match xs[i]? with
   |some x=>en.set k (some (.blk sz (xs.set i (eV x off vs)) f))
   |none=>en
  |_=>en
 | .frz k=>match en k with
  |some e=>en.set k (some e.freeze)
  |none=>en
def W.applyAll (en:En)(ws:List W):En:=ws.foldl W.apply en
structure Res where
 v:Val
 ws:List W:=[]
 rs:List R:=[]
 bump:Bool:=false
 mem:Option (En×(Nat->Nat->Nat)):=none
 unch:Key->Bool:=fun _=>false
def sB (en:En)(a:Val)(n:Nat):Option (List Val×List R):=
 match a with
 | .ptr k off=>match en k with
  |some (.box cs _)=>if off+n<=cs.length then some ((cs.drop off).take n,[.cells k off n])else none
  |_=>none
 | .ep k i off=>match en k with
  |some (.blk _ xs _)=>match xs[i]? with
   |some x=>if off+n<=x.cells.length then some ((x.cells.drop off).take n,[.val k])else none
   |none=>none
  |_=>none
 | .fp cs off=>if off+n<=cs.length then some ((cs.drop off).take n,[])else none
 |_=>none
def iN (en:En)(x:Val):Option (List Val×List R):=
 match x with
 | .fz xs| .cl xs=>some (xs,[])
 | .es _=>some ([],[])
 | .bl k off len=>match en k with
  |some (.blk _ xs _)=>if off+len<=xs.length/\ k.deep=false then some ((xs.drop off).take len,[.val k])else none
  |_=>none
 |_=>none
def cY (size:Nat):List Val->Bool
 |[]=>true
 |y::_=>y.cells.length==size
def sI :Val->Option Nat
 | .fz xs| .cl xs=>some xs.length
 | .bl _ _ len=>some len
 | .es _=>some 0
 |_=>none
def zR :CT->Val->Val->Option Bool
 | .bool,.bool a,.bool b=>some (a==b)
 | .num,.int j a,.int k b=>if j=k then some (a==b)else none
 | .str,.str a,.str b=>some (a.toList==b.toList)
 |_,_,_=>none
def jR :List CT->List Val->List Val->Option Bool
 |[],[],[]=>some true
 |t::ts,x::xs,y::ys=>match zR t x y with
  |some true=>jR ts xs ys
  |some false=>some false
  |none=>none
 |_,_,_=>none
def pP (t:EqT)(x y:Val):Option Bool:=
 match t,x,y with
 | .num,.int j a,.int k b=>if j=k then some (a==b)else none
 | .bool,.bool a,.bool b=>some (a==b)
 | .str,.str a,.str b=>some (a.toList==b.toList)
 | .agg l,.agg xs,.agg ys=>if xs.length=l.length/\ ys.length=l.length then jR l xs ys else none
 | .map,.nilm,.nilm=>some true
 | .map,.fm _ _,.nilm| .map,.mp _,.nilm| .map,.nilm,.fm _ _| .map,.nilm,.mp _=>some false
 | .func,.nilf,.nilf=>some true
 | .func,.fn _ _ _,.nilf| .func,.nilf,.fn _ _ _=>some false
 | .ptr,.nilp,.nilp=>some true
 | .ptr,.fp _ _,.nilp| .ptr,.ptr _ _,.nilp| .ptr,.ep _ _ _,.nilp=>some false
 | .iface,.ifc _ _,.nili| .iface,.nili,.ifc _ _=>some false
 | .iface,.nili,.nili=>some true
 | .slice,.es b,.es true=>some b
 | .slice,.fz (_::_),.es true| .slice,.cl (_::_),.es true| .slice,.bl _ _ (_+1),.es true=>some false
 |_,_,_=>none
def aQh (n:Int):Bool:=decide (0<=n/\ n<=16777216)
def tJ (op:BinOp)(k:IntKind)(a b:Int):Option Val:=
 match op with
 | .add=>some (.int k (k.wrap (a+b)))
 | .sub=>some (.int k (k.wrap (a-b)))
 | .mul=>some (.int k (k.wrap (a*b)))
 | .quo=>if b=0 then none else some (.int k (k.wrap (a.tdiv b)))
 | .rem=>if b=0 then none else some (.int k (a.tmod b))
 | .lss=>some (.bool (decide (a<b)))
 | .leq=>some (.bool (decide (a<=b)))
 | .gtr=>some (.bool (decide (a>b)))
 | .geq=>some (.bool (decide (a≥b)))
 | .and=>some (.int k (k.wrap (BitVec.ofInt k.bits a&&&BitVec.ofInt k.bits b).toNat))
 | .or=>some (.int k (k.wrap (BitVec.ofInt k.bits a|||BitVec.ofInt k.bits b).toNat))
 | .xor=>some (.int k (k.wrap (BitVec.ofInt k.bits a^^^BitVec.ofInt k.bits b).toNat))
 | .andNot=>some (.int k (k.wrap (BitVec.ofInt k.bits a&&& ~~~(BitVec.ofInt k.bits b)).toNat))
 |_=>none
def aQi (op:BinOp)(k:IntKind)(a b:Int):Option Val:=
 if b<0 then none else match op with
 | .shl=>some (.int k (k.wrap (a*2^(min b.toNat k.bits))))
 | .shr=>some (.int k (a.fdiv (2^(min b.toNat k.bits))))
 |_=>none
def aY8 (op:BinOp)(a b:ByteArray):Option Val:=
 match op with
 | .lss=>some (.bool (Op.bytesLess a.toList b.toList))
 | .leq=>some (.bool (Op.bytesLess a.toList b.toList||a.toList==b.toList))
 | .gtr=>some (.bool !(Op.bytesLess a.toList b.toList||a.toList==b.toList))
 | .geq=>some (.bool !(Op.bytesLess a.toList b.toList))
 | .add=>if((a.size+b.size:Nat):Int)>IntKind.i64.max then none else some (.str (a++b))
 |_=>none
def dN (op:BinOp)(t:EqT)(x y:Val):Option Val:=
 match op with
 | .eql=>(pP t x y).map .bool
 | .neq=>(pP t x y).map fun b=> .bool !b
 |op=>match t,x,y with
  | .num,.int j a,.int k b=>if op= .shl \/op= .shr then aQi op j a b else if j=k then tJ op j a b else none
  | .str,.str a,.str b=>aY8 op a b
  |_,_,_=>none
def sC :List Val->List (Nat×Nat×Val)->Option (List Val)
 |cs,[]=>some cs
 |cs,(off,size,v)::jE=>
  if v.one=true/\ v.cells.length=size/\ off+size<=cs.length then sC (setCells cs off v.cells) jE else none
def dZ :List Val->Nat->List (Nat×Val)->Option (List Val)
 |xs,_,[]=>some xs
 |xs,size,(i,v)::jE=>if v.one=true/\ v.cells.length=size/\ i<xs.length then dZ (xs.set i v) size jE else none
def jM (size:Nat)(z:List Val)(agg:Bool):Val:=if agg then .agg z else if size=1 then z.getD 0 .dead else .agg z
def iS (v:Option Val)(d top:Nat):Option Nat:=
 match v with
 |none=>some d
 |some (.int _ i)=>if 0<=i/\ i<=top then some i.toNat else none
 |_=>none
def aIw (size:Nat)(xs:List Val)(lo hi:Option Val)(mx:Val):Option Res:=
 match iS (some mx) 0 xs.length with
 |some m=>match hi with
  |none=>none
  |some _=>match iS hi 0 m with
   |some h=>match iS lo 0 h with
    |some l=>if l=0 \/cY size xs=true then some {v:=if m=h then .cl ((xs.take h).drop l)else .fz ((xs.take h).drop l)}else none
    |none=>none
   |none=>none
 |none=>none
def findKey (t:EqT)(k:Val):List Val->Option (Option Nat)
 |[]=>some none
 |x::xs=>match pP t k x with
  |some true=>some (some 0)
  |some false=>match findKey t k xs with
   |some (some i)=>some (some (i+1))
   |some none=>some none
   |none=>none
  |none=>none
def tK (t:EqT):Val->Bool
 | .int _ _=>decide (t= .num)
 | .bool _=>decide (t= .bool)
 | .str _=>decide (t= .str)
 |_=>false
abbrev bH :=Nat->List Val->Option Val
def gS (me d g:Nat)(v:Val)(ks:List Key):Res:=
 match v with
 | .own sz xs=>{v:= .bl ⟨me,d,g⟩ 0 xs.length,ws:=(if xs.all Val.flat1 then []else ks.map .frz)++[.ent ⟨me,d,g⟩ (some (.blk sz xs false))],rs:=ks.map .val,bump:=true}
 |v=>{v,ws:=if v.flat then []else ks.map .frz,rs:=ks.map .val}
def fJ (me d g:Nat)(en:En)(size:Nat)(x:Val)(y:Option (List Val×List R)):Option Res:=
 match y with
 |some (ys,rs)=>if cY size ys=true then
   match x with
   | .cl xs=>if ys.isEmpty then some {v:= .cl xs,rs}else if xs.length+ys.length<=16777216/\ cY size xs=true then
     some {v:= .bl ⟨me,d,g⟩ 0 (xs.length+ys.length),ws:=[.ent ⟨me,d,g⟩ (some (.blk size (xs++ys) (!xs.isEmpty)))],rs,bump:=true}else none
   | .bl k off len=>match en k with
    |some (.blk sz xs f)=>if(off+len=xs.length \/f=false/\ off+len<=xs.length)/\ len+ys.length<=16777216/\ sz=size/\ (k.deep=true->me=3)then
      some {v:= .bl ⟨me,d,g⟩ 0 (len+ys.length),ws:=[.ent k none,.ent ⟨me,d,g⟩ (some (.blk size ((xs.take (off+len)).drop off++ys) f))],rs:= .val k:: .flag k::rs,bump:=true}else none
    |_=>none
   |_=>none
   else none
 |none=>none
def eval (n:Nat)(call:bH)(me d g:Nat)(en:En)(get:Opd->Val):LOp->Option Res
 | .mv x=>some {v:=get x}
 | .pick c a b=>match get c with
  | .bool b'=>some {v:=if b' then get a else get b}
  |_=>none
 | .alloc z=>some {v:= .ptr ⟨me,d,g⟩ 0,ws:=[.ent ⟨me,d,g⟩ (some (.box z false))],bump:=true}
 | .box m x=>if(get x).one=true/\ (get x).cells.length=m then some {v:= .ptr ⟨me,d,g⟩ 0,ws:=[.ent ⟨me,d,g⟩ (some (.box (get x).cells false))],bump:=true}else none
 | .build z parts=>(sC z (parts.map fun p=>(p.1,p.2.1,get p.2.2))).map fun cs=>{v:= .agg cs}
 | .bslice len size z parts=>
  if len*size<=16777216 then
   match cU (fun p=>(snap n en (get p.2)).map fun r=>((p.1,r.1.wk1),r.2)) parts with
   |some ps=>match dZ (List.replicate len (jM size z false)) size (ps.map (·.1))with
    |some xs=>some {v:= .cl xs,ws:=(ps.flatMap (·.2)).map .frz,rs:=(ps.flatMap (·.2)).map .val}
    |none=>none
   |none=>none
  else none
 | .bsliceK len size z parts=>
  if len*size<=16777216 then
   match cU (fun p=>(snap n en (get p.2)).map fun r=>((p.1,r.1),r.2)) parts with
   |some ps=>match dZ (List.replicate len (jM size z false)) size (ps.map (·.1))with
    |some xs=>some {v:= .cl xs,ws:=(ps.flatMap (·.2)).map .frz,rs:=(ps.flatMap (·.2)).map .val}
    |none=>none
   |none=>none
  else none
 | .bsliceO len size z parts=>
  if len*size<=16777216/\ parts.all (fun p=>(get p.2).flat1)=true then
   match dZ (List.replicate len (jM size z false)) size (parts.map fun p=>(p.1,get p.2))with
   |some xs=>some {v:= .bl ⟨me,d,g⟩ 0 len,ws:=[.ent ⟨me,d,g⟩ (some (.blk size xs false))],bump:=true}
   |none=>none
  else none
 | .load agg m a=>match sB en (get a) m with
  |some (cs,rs)=>(iM agg cs).map fun v=>{v,rs}
  |none=>none
 | .store m a x=>
  let v:=get x
  if v.one=true/\ v.cells.length=m then
   match get a with
   | .ptr k off=>match en k with
    |some (.box cs false)=>if off+m<=cs.length then some {v:= .tup [],ws:=[.cells k off v.cells],rs:=[.flag k]}else none
    |_=>none
   | .ep k i off=>match en k with
    |some (.blk _ xs false)=>match xs[i]? with
     |some y=>if off+m<=y.cells.length then
       if k.deep then some {v:= .tup [],ws:=[.elem k i off v.cells],rs:=[.val k,.flag k]}else
       match snap n en v with
       |some (v',ks)=>if v'.one=true/\ v'.cells.length=m/\ ks.all (fun k'=>decide (k'≠k))=true then some {v:= .tup [],ws:=ks.map .frz++[.elem k i off v'.wk1.cells],rs:= .val k:: .flag k::ks.map .val}else none
       |none=>none
      else none
     |none=>none
    |_=>none
   |_=>none
  else none
 | .nilck x=>match get x with
  | .fp cs off=>some {v:= .fp cs off}
  | .ptr k off=>some {v:= .ptr k off}
  | .ep k i off=>some {v:= .ep k i off}
  | .fn f a b=>some {v:= .fn f a b}
  | .ifc t v=>some {v:= .ifc t v}
  |_=>none
 | .bin op t x y=>(dN op t (get x) (get y)).map fun v=>{v}
 | .un op x=>match op,get x with
  | .not,.bool b=>some {v:= .bool !b}
  | .neg,.int k a=>some {v:= .int k (k.wrap (0-a))}
  |_,_=>none
 | .wrap k x=>match get x with
  | .int _ a=>some {v:= .int k (k.wrap a)}
  |_=>none
 | .iface t x=>if(get x).one=true then some {v:= .ifc t (get x)}else none
 | .assert t z ok x=>match get x with
  | .ifc t' v=>if t'=t then some {v:=if ok then .tup [v,.bool true]else v}else if ok then some {v:= .tup [z,.bool false]}else none
  | .nili=>if ok then some {v:= .tup [z,.bool false]}else none
  |_=>none
 | .mkfn f a b=>some {v:= .fn f (a.map get) (b.map get)}
 | .mkmap=>some {v:= .mp ⟨me,d,g⟩,ws:=[.ent ⟨me,d,g⟩ (some (.map [] [] false))],bump:=true}
 | .mput t m k x=>match get m with
  | .mp key=>match en key with
   |some (.map ks vs false)=>
    if tK t (get k)&&(get x).flat1 then
     match findKey t (get k) ks with
     |some (some i)=>some {v:= .tup [],ws:=[.ent key (some (.map (ks.set i (get k)) (vs.set i (get x)) false))],rs:=[.val key,.flag key]}
     |some none=>some {v:= .tup [],ws:=[.ent key (some (.map (ks++[get k]) (vs++[get x]) false))],rs:=[.val key,.flag key]}
     |none=>none
    else none
   |_=>none
  |_=>none
 | .mget t z ok m k=>
  if tK t (get k)then
   let look (ks vs:List Val):Option Val:=match findKey t (get k) ks with
    |some (some i)=>some (if ok then .tup [vs.getD i .dead,.bool true]else vs.getD i .dead)
    |some none=>some (if ok then .tup [z,.bool false]else z)
    |none=>none
   match get m with
   | .mp key=>match en key with
    |some (.map ks vs _)=>(look ks vs).map fun v=>{v,rs:=[.val key]}
    |_=>none
   | .fm ks vs=>(look ks vs).map fun v=>{v}
   | .nilm=>(look [] []).map fun v=>{v}
   |_=>none
  else none
 | .mklen size z len cap=>match get len,get cap with
  | .int .i64 a,.int .i64 b=>if a=b/\ aQh a=true then
    some {v:= .bl ⟨me,d,g⟩ 0 a.toNat,ws:=[.ent ⟨me,d,g⟩ (some (.blk size (List.replicate a.toNat (jM size z false)) false))],bump:=true}else none
  |_,_=>none
 | .slice str size x lo hi mx=>
  let lo:=lo.map get;let hi:=hi.map get
  if str then
   match get x,mx with
   | .str s,none=>match iS hi s.size s.size with
    |some h=>(iS lo 0 h).map fun l=>{v:= .str (s.extract l h)}
    |none=>none
   |_,_=>none
  else match get x with
   | .fz xs=>match mx with
    |none=>match iS hi xs.length xs.length with
     |some h=>match iS lo 0 h with
      |some l=>if l=0 \/cY size xs=true then some {v:= .fz ((xs.take h).drop l)}else none
      |none=>none
     |none=>none
    |some m=>aIw size xs lo hi (get m)
   | .cl xs=>match mx with
    |none=>match iS hi xs.length xs.length with
     |some h=>match iS lo 0 h with
      |some l=>if l=0 \/cY size xs=true then some {v:=if h=xs.length then .cl (xs.drop l)else .fz ((xs.take h).drop l)}else none
      |none=>none
     |none=>none
    |some m=>aIw size xs lo hi (get m)
   | .bl k off len=>match mx with
    |none=>match iS hi len len with
     |some h=>match iS lo 0 h with
      |some l=>match en k with
       |some (.blk sz _ _)=>if l=0 \/sz=size then some {v:= .bl k (off+l) (h-l),rs:=[.val k]}else none
       |_=>none
      |none=>none
     |none=>none
    |some _=>none
   |_=>none
 | .fa off x=>match get x with
  | .fp cs o=>some {v:= .fp cs (o+off)}
  | .ptr k o=>some {v:= .ptr k (o+off)}
  | .ep k i o=>some {v:= .ep k i (o+off)}
  |_=>none
 | .fld agg off m x=>match get x with
  | .agg cs=>if off+m<=cs.length then(iM agg ((cs.drop off).take m)).map fun v=>{v}else none
  |_=>none
 | .ia size x i=>match get i with
  | .int _ j=>
   match get x with
   | .fz xs| .cl xs=>if 0<=j then match xs[j.toNat]? with
     |some y=>if y.cells.length=size then some {v:= .fp y.cells 0}else none
     |none=>none else none
   | .bl k off len=>match en k with
    |some (.blk sz _ _)=>if 0<=j/\ j<len/\ sz=size then some {v:= .ep k (off+j.toNat) 0,rs:=[.val k]}else none
    |_=>none
   |_=>none
  |_=>none
 | .iaa len size x i=>match get i with
  | .int _ j=>if 0<=j/\ j<len then
    match get x with
    | .fp cs o=>some {v:= .fp cs (o+j.toNat*size)}
    | .ptr k o=>some {v:= .ptr k (o+j.toNat*size)}
    | .ep k i o=>some {v:= .ep k i (o+j.toNat*size)}
    |_=>none
   else none
  |_=>none
 | .ixs x i=>match get x,get i with
  | .str s,.int _ j=>if 0<=j then(s[j.toNat]?).map fun b=>{v:= .int .u8 b.toNat}else none
  |_,_=>none
 | .ixa agg len size x i=>match get x,get i with
  | .agg cs,.int _ j=>if 0<=j/\ j<len/\ j.toNat*size+size<=cs.length then(iM agg ((cs.drop (j.toNat*size)).take size)).map fun v=>{v}else none
  |_,_=>none
 | .ext i x=>match get x with
  | .tup vs=>(vs[i]?).map fun v=>{v}
  |_=>none
 | .call f args=>match get f with
  | .fn f a b=>match cU (fun x=>snap n en x) (a++args.map get++b)with
   |some rs=>
    let ks:=rs.flatMap (·.2)
    match call f (rs.map (·.1.wk1))with
    |some r=>some (gS me d g r ks)
    |none=>none
   |none=>none
  |_=>none
 | .icall _ _=>none
 | .len t x=>match t with
  | .map=>match get x with
   | .mp key=>match en key with
    |some (.map ks _ _)=>some {v:= .int .i64 ks.length,rs:=[.val key]}
    |_=>none
   | .fm ks _=>some {v:= .int .i64 ks.length}
   | .nilm=>some {v:= .int .i64 0}
   |_=>none
  | .str=>match get x with
   | .str s=>some {v:= .int .i64 s.size}
   |_=>none
  | .slice=>(sI (get x)).map fun m=>{v:= .int .i64 m}
  | .func=>match get x with
   | .cl xs=>some {v:= .int .i64 xs.length}
   |_=>none
  |_=>none
 | .append size x y=>fJ me d g en size (get x) (iN en (get y))
 | .appendD size x y=>fJ 3 d g en size (get x) (iN en (get y))
 | .appendZ size z x y=>match get x,get y with
  | .cl [],.int .i64 m=>if 0<m/\ m<=16777216 then
    some {v:= .bl ⟨me,d,g⟩ 0 m.toNat,ws:=[.ent ⟨me,d,g⟩ (some (.blk size (List.replicate m.toNat (jM size z false)) false))],bump:=true}else none
  |_,_=>none
 | .copy _ _ _=>none
 | .rng x=>match get x with
  | .str s=>some {v:= .it ⟨me,d,g⟩,ws:=[.ent ⟨me,d,g⟩ (some (.iter s 0))],bump:=true}
  |_=>none
 | .nxt x=>match get x with
  | .it k=>match en k with
   |some (.iter s pos)=>
    if pos<s.size then some {v:= .tup [.bool true,.int .i64 pos,.int .i32 (Utf8.decode s pos).1],ws:=[.ent k (some (.iter s (pos+(Utf8.decode s pos).2)))],rs:=[.val k,.flag k]}
    else some {v:= .tup [.bool false],rs:=[.val k]}
   |_=>none
  |_=>none
 | .panic _=>none
 | .minmax mx xs=>match xs.map get with
  |[.int j a,.int k b]=>if j=k then some {v:= .int j (if mx then(if b>a then b else a)else(if b<a then b else a))}else none
  |_=>none
def wanted (fr:Nat->Val):Option (Nat×Bool)->Option Bool
 |none=>some true
 |some (t,b)=>match fr t with
  | .bool b'=>some (b'==b)
  | .tup []=>some false
  |_=>none
structure Inl where
 fn:Nat->List Val->St->Option (Val×St)
 yld:Key->List Val->St->Option (Val×St)
def Inl.none :Inl:={fn:=fun _ _ _=>Option.none,yld:=fun _ _ _=>Option.none}
def Inl.call (io:Inl)(f:Val)(args:List Val)(st:St):Option (Val×St):=
 match f with
 | .fn f a b=>io.fn f (a++args++b) st
 | .yld k=>io.yld k args st
 |_=>Option.none
def hZ (fr:Nat->Val)(dst:Option Nat)(v:Val):Nat->Val:=
 match dst with
 |some d=>iR fr d v
 |none=>fr
def step (n:Nat)(call:bH)(io:Inl)(me:Nat)(st:St)(o:aM):Option (St×Res):=
 match wanted st.fr o.guard with
 |some false=>some ({st with fr:=hZ st.fr o.dst (.tup [])},{v:= .tup []})
 |some true=>
  match o.op with
  | .icall f args=>match io.call (St.get st.fr f) (args.map (St.get st.fr)) {st with fr:=fun _=> .dead}with
   |some (v,st')=>some ({fr:=hZ st.fr o.dst v,en:=st'.en,cnt:=st'.cnt},{v,mem:=some (st'.en,st'.cnt),unch:=fun k=>aQf (st.en k) (st'.en k)})
   |none=>none
  |op=>
   let d:=o.dst.getD 0;let me':=op.me me
   match eval n call me' d (st.cnt me' d) st.en (St.get st.fr) op with
   |some r=>
    if r.bump&&o.dst.isNone then none else
    some ({fr:=hZ st.fr o.dst r.v,en:=W.applyAll st.en r.ws,cnt:=if r.bump then aC st.cnt me' d (st.cnt me' d+1)else st.cnt},r)
   |none=>none
 |none=>none
def gJ (n:Nat)(call:bH)(io:Inl)(me:Nat):List aM->St->Option St
 |[],st=>some st
 |o::l,st=>match step n call io me st o with
  |some (st',_)=>gJ n call io me l st'
  |none=>none
def iV (n:Nat)(call:bH)(io:Inl)(me:Nat):List aM->St->Option (St×List Res)
 |[],st=>some (st,[])
 |o::l,st=>match step n call io me st o with
  |some (st',r)=>match iV n call io me l st' with
   |some (st'',rs)=>some (st'',r::rs)
   |none=>none
  |none=>none
def W.key :W->Key
 | .ent k _| .cells k _ _| .elem k _ _ _| .frz k=>k
def R.key :R->Key
 | .val k| .cells k _ _| .flag k=>k
def jS :W->R->Bool
 | .cells k off vs,.cells k' off' n=>k≠k'||off+vs.length<=off'||off'+n<=off
 | .cells ..,.flag _| .elem ..,.flag _| .frz _,.val _| .frz _,.cells .. =>true
 |w,r=>w.key≠r.key
def mM :W->W->Bool
 | .cells k off vs,.cells k' off' vs'=>k≠k'||off+vs.length<=off'||off'+vs'.length<=off
 | .frz _,.frz _=>true
 |w,w'=>w.key≠w'.key
def Res.still (r:Res):Bool:=r.ws.isEmpty&&!r.bump&&r.mem.isNone
def aDy (a b:Res):Bool:=
 if a.mem.isSome then a.ws.isEmpty&&b.still&&b.rs.all (fun r=>a.unch r.key)
 else if b.mem.isSome then b.ws.isEmpty&&a.still&&a.rs.all (fun r=>b.unch r.key)
 else a.ws.all (fun w=>b.rs.all (jS w)&&b.ws.all (mM w))&&b.ws.all (fun w=>a.rs.all (jS w))
def dS (rs:List Res)(pairs:List (Nat×Nat)):Bool:=
 pairs.all fun p=>match rs[p.1]?,rs[p.2]? with
  |some a,some b=>aDy a b
  |_,_=>false
def start (args:List Val):St:={fr:=fun i=>args.getD i (.tup []),en:=fun _=>none,cnt:=fun _ _=>0}
def pQ (st:St):aWv->Option Val
 | .tmp t=>some (st.fr t)
 | .cell t agg m=>match sB st.en (st.fr t) m with
  |some (cs,_)=>iM agg cs
  |none=>none
def zS :List Val->Val
 |[v]=>v
 |vs=> .tup vs
def aVu (en:En):Val->Option Val
 | .bl k 0 n=>match en k with
  |some (.blk sz xs false)=>if n=xs.length/\ k.deep=false then some (.own sz xs)else none
  |_=>none
 |_=>none
def aDz (st:St)(lf:jB)(n:Nat):Option Val:=
 match cU (pQ st) lf.res with
 |some vs=>match(if lf.keep then aVu st.en (zS vs)else none)with
  |some r=>some r
  |none=>match snap n st.en (zS vs)with
   |some (v,_)=>some (if lf.keep then v else v.wk)
   |none=>none
 |none=>none
def Ex.ends :Ex->Bool
 | .exit _=>false
 | .panic _=>false
 |_=>true
def wQ :Val->Bool
 | .fz []| .cl []| .bl _ _ 0| .es _=>true
 |_=>false
def wR (lf:jB)(args:List Val):Bool:=lf.amb&&(match args with|[x]=>wQ x|_=>false)
def iT (lf:jB)(n:Nat)(ex:bB->St->Option (Ex×St))(args:List Val):Option Val:=
 match ex lf.body (start args)with
 |some (e,st)=>if e.ends then aDz st lf n else none
 |none=>none
def jP (a b:Option Val):Option Val:=
 match a,b with
 |some (.cl []),some (.cl [])=>some (.cl [])
 |some (.fz []),some (.fz [])=>some (.fz [])
 |_,_=>none
def bM (L:bJ)(n:Nat)(ex:bB->St->Option (Ex×St)):bH:=fun f args=>
 match L f with
 |none=>none
 |some lf=>
  if args.length=lf.np then
   if wR lf args then jP (iT lf n ex [.es true]) (iT lf n ex [.es false])else iT lf n ex args
  else none
def kP (L:bJ)(ex:bB->St->Option (Ex×St))(f:Nat)(args:List Val)(st:St):Option (Val×St):=
 match L f with
 |none=>none
 |some lf=>
  if args.length=lf.np then
   if wR lf args then(jP (iT lf 8 ex [.es true]) (iT lf 8 ex [.es false])).map fun v=>(v,st)else
   match ex lf.body {st with fr:=fun i=>args.getD i (.tup [])}with
   |some (e,st')=>if e.ends then(cU (pQ st') lf.res).map fun vs=>(zS vs,{st' with fr:=st.fr})else none
   |none=>none
  else none
def zT (fr:Nat->Val):List Nat->List Val->Nat->Val
 |p::ps,v::vs=>zT (iR fr p v) ps vs
 |_,_=>fr
def aD0 (ex:bB->St->Option (Ex×St))(k:Key)(args:List Val)(st:St):Option (Val×St):=
 match st.en k with
 |some (.loop fr ps a b .ready)=>
  if args.length=ps.length then
   match ex a {fr:=zT fr ps args,en:=st.en,cnt:=st.cnt}with
   |some (.normal,st1)=>match st1.en k with
    |some (.loop fr1 ps1 a1 b1 .ready)=>match ex b {st1 with en:=st1.en.set k (some (.loop fr1 ps1 a1 b1 .busy))}with
     |some (e,st2)=>match e.calm,st2.en k with
      |true,some (.loop fr2 ps2 a2 b2 .busy)=>
       some (.bool (decide (e= .normal)),{fr:=st.fr,en:=st2.en.set k (some (.loop fr2 ps2 a2 b2 (if e= .normal then .ready else .done e))),cnt:=st2.cnt})
      |_,_=>none
     |none=>none
    |_=>none
   |_=>none
  else none
 |_=>none
def cR (L:bJ)(ex:bB->St->Option (Ex×St)):bH:=fun f args=>
 match L f with
 |none=>none
 |some lf=>
  if args.length=lf.np/\ wR lf args=false then
   match ex lf.body (start args)with
   |some (.panic v,_)=>some v
   |_=>none
  else none
def eD (L:bJ)(ex:bB->St->Option (Ex×St))(f:Nat)(args:List Val)(st:St):Option (Val×St):=
 match L f with
 |none=>none
 |some lf=>
  if args.length=lf.np/\ wR lf args=false then
   match ex lf.body {st with fr:=fun i=>args.getD i (.tup [])}with
   |some (.panic v,st')=>some (v,{st' with fr:=st.fr})
   |_=>none
  else none
def Opd.noM :Opd->Bool
 | .m _ _=>false
 |_=>true
def dT (n:Nat)(pan:bH)(pin:Nat->List Val->St->Option (Val×St))(st:St)(o:aM):Option (Val×St):=
 match wanted st.fr o.guard with
 |some true=>
  match o.op with
  | .panic x=>match St.get st.fr x with
   | .ifc t u=>if(Val.ifc t u).flat=true then some (.ifc t u,st)else none
   |_=>none
  | .call f args=>match f.noM,St.get st.fr f with
   |true,.fn f a b=>match cU (fun x=>snap n st.en x) (a++args.map (St.get st.fr)++b)with
    |some rs=>(pan f (rs.map (·.1.wk1))).map fun v=>(v,st)
    |none=>none
   |_,_=>none
  | .icall f args=>match St.get st.fr f with
   | .fn f a b=>match pin f (a++args.map (St.get st.fr)++b) {st with fr:=fun _=> .dead}with
    |some (v,st')=>some (v,{fr:=st.fr,en:=st'.en,cnt:=st'.cnt})
    |none=>none
   |_=>none
  |_=>none
 |_=>none
def aD1 (n:Nat)(call:bH)(io:Inl)(pan:bH)(pin:Nat->List Val->St->Option (Val×St)):List aM->St->Option (Ex×St)
 |[],st=>some (.normal,st)
 |o::l,st=>match dT n pan pin st o with
  |some (v,st')=>some (.panic v,st')
  |none=>match step n call io 0 st o with
   |some (st',_)=>aD1 n call io pan pin l st'
   |none=>none
def aD2 (en:En):Val->Option (Val×List Key)
 | .ptr k off=>some (.ptr k off,[])
 |v=>match snap 8 en v with
  |some r=>some (r.1.wk0,r.2)
  |none=>none
def aD3 (en:En)(k:Key):Option En:=
 match en k with
 |some (.box cs false)=>match cU (aD2 en) cs with
  |some rs=>if(rs.flatMap (·.2)).contains k then none else some ((W.applyAll en ((rs.flatMap (·.2)).map .frz)).set k (some (.box (rs.map (·.1)) false)))
  |none=>none
 |_=>none
def aQj (en:En):List Nat->Val->Option Key
 |[],.ptr k 0=>some k
 |c::p,.ptr k 0=>match en k with
  |some (.box cs _)=>aQj en p (cs.getD c .dead)
  |_=>none
 |_,_=>none
def norms (x:Val):List (List Nat)->En->Option En
 |[],en=>some en
 |p::ps,en=>match aQj en p x with
  |some k=>match aD3 en k with
   |some en'=>norms x ps en'
   |none=>none
  |none=>none
def zU (L:bJ)(ex:bB->St->Option (Ex×St))(f:Nat)(args:List Val)(st:St):Option (Val×St):=
 match kP L ex f args st with
 |some (v,st')=>match L f with
  |some lf=>match norms (args.getD 0 .dead) lf.nrm st'.en with
   |some en'=>some (v,{fr:=st'.fr,en:=en',cnt:=st'.cnt})
   |none=>none
  |none=>none
 |none=>none
def eW (L:bJ)(ex:bB->St->Option (Ex×St)):Inl:={fn:=zU L ex,yld:=aD0 ex}
def Val.isUndef :Val->Bool
 | .tup []=>true
 |_=>false
def Ex.rcvd :Ex->Option Val
 | .panic v=>some v
 | .exit _=>none
 |_=>some .nili
def iB (L:bJ)(ex:bB->St->Option (Ex×St))(f:Val)(args:List Val)(e:Ex)(st:St):Option St:=
 match f with
 | .fn g a b=>match L g with
  |some lf=>match lf.body,e.rcvd with
   | .rcv dst l c,some v=>
    if(a++args++b).length=lf.np/\ lf.res.isEmpty=true then
     match gJ 8 (bM L 8 ex) (eW L ex) 0 l {fr:=hZ (fun i=>(a++args++b).getD i (.tup [])) dst v,en:=st.en,cnt:=st.cnt}with
     |some st1=>match ex c st1 with
      |some (e',st')=>if e'.ends then some {fr:=st.fr,en:=st'.en,cnt:=st'.cnt}else none
      |none=>none
     |none=>none
    else none
   |_,_=>none
  |none=>none
 |_=>none
def pR (n:Nat)(call:bH)(io:Inl)(pan:bH)(pin:Nat->List Val->St->Option (Val×St)):List aM->Nat->St->Option Nat
 |[],_,_=>none
 |o::l,i,st=>match dT n pan pin st o with
  |some _=>some i
  |none=>match step n call io 0 st o with
   |some (st',_)=>pR n call io pan pin l (i+1) st'
   |none=>none
def aIx :aM:={dst:=none,op:= .mv (.c .nilp),guard:=none}
def behind (an:List (List Nat))(j i:Nat):Bool:=i==j||(an.getD i []).contains j
def zF (an:List (List Nat))(j:Nat)(l:List aM)(i:Nat):Bool:=
 !(an.getD j []).contains i&&(l.getD i default).guard.isNone&&(match(l.getD i default).op with| .alloc _=>true|_=>false)
def aGz (o:aM):aM:={dst:=o.dst,op:= .mv (.c .dead),guard:=none}
def dD (an:List (List Nat))(j:Nat)(l:List aM):List aM:=
 (List.range l.length).map fun i=>if behind an j i then aIx else if zF an j l i then aGz (l.getD i default)else l.getD i default
def mN (l:List aM)(t:Nat):Bool:=l.any fun o=>o.dst==some t
def jT (an:List (List Nat))(j:Nat)(l:List aM)(rs:List Res):Bool:=
 (List.range l.length).all (fun i=>behind an j i||(an.getD j []).contains i||(match rs[i]? with|some r=>r.still|none=>false))
def vF (n:Nat)(call:bH)(io:Inl)(pan:bH)(pin:Nat->List Val->St->Option (Val×St))(l:List aM)(an:List (List Nat))(pairs:List (Nat×Nat))(j:Nat)(st:St):Option (Ex×St):=
 match iV n call io 0 (dD an j l) st with
 |some (st1,rs)=>
  if dS rs pairs&&jT an j l rs then
   match dT n pan pin st1 (l.getD j default)with
   |some (v,st2)=>some (.panic v,{fr:=fun t=>if mN l t then .tup []else st2.fr t,en:=st2.en,cnt:=st2.cnt})
   |none=>none
  else none
 |none=>none
def iH (st:St)(o:aM):Key:=⟨0,o.dst.getD 0,st.cnt 0 (o.dst.getD 0)⟩
def aMo :LOp->List Val
 | .alloc z=>z
 |_=>[]
def zG (k:Key)(o:aM):aM:={dst:=o.dst,op:= .mv (.c (.ptr k 0)),guard:=none}
def iY (A:Nat)(k:Key)(l:List aM):List aM:=l.set A (zG k (l.getD A default))
def vG (k:Key)(z:List Val)(st:St):St:={fr:=st.fr,en:=st.en.set k (some (.box z false)),cnt:=aC st.cnt k.n k.t (st.cnt k.n k.t+1)}
def aN9 (k:Key)(r:Res):Bool:=match r.mem with
 |some _=>r.unch k
 |none=>r.ws.all fun w=>decide (w.key≠k)
def oS (an:List (List Nat))(A:Nat)(k:Key)(rs:List Res):Bool:=
 (List.range rs.length).all fun i=>i==A||(an.getD i []).contains A||(match rs[i]? with|some r=>aN9 k r|none=>false)
def wS (n:Nat)(call:bH)(io:Inl)(pan:bH)(pin:Nat->List Val->St->Option (Val×St))(l:List aM)(an:List (List Nat))(pairs:List (Nat×Nat))(A:Nat)(k:Key)(st:St):Option (Ex×St):=
 match pR n call io pan pin l 0 st with
 |some j=>match iV n call io 0 (dD an j l) st with
  |some (st1,rs)=>
   if(dS rs pairs&&jT an j l rs)&&oS an A k rs then
    match dT n pan pin st1 (l.getD j default)with
    |some (v,st2)=>some (.panic v,{fr:=fun t=>if mN l t then .tup []else st2.fr t,en:=st2.en,cnt:=st2.cnt})
    |none=>none
   else none
  |none=>none
 |none=>match iV n call io 0 l st with
  |some (st',rs)=>if dS rs pairs&&oS an A k rs then some (.normal,st')else none
  |none=>none
def nG (L:bJ)(ex:bB->St->Option (Ex×St))(g:Val)(ps:List Nat)(a b:bB)(st:St):Option (Ex×St):=
 match g with
 | .fn f x y=>
  let k:Key:=⟨1,0,st.cnt 1 0⟩
  match zU L ex f (x++[.yld k]++y) {fr:=st.fr,en:=st.en.set k (some (.loop st.fr ps a b .ready)),cnt:=aC st.cnt 1 0 (st.cnt 1 0+1)}with
  |some (_,st')=>match st'.en k with
   |some (.loop _ _ _ _ .ready)=>some (.normal,{st' with en:=st'.en.set k none})
   |some (.loop _ _ _ _ (.done e))=>some (e,{st' with en:=st'.en.set k none})
   |_=>none
  |none=>match eD L ex f (x++[.yld k]++y) {fr:=st.fr,en:=st.en.set k (some (.loop st.fr ps a b .ready)),cnt:=aC st.cnt 1 0 (st.cnt 1 0+1)}with
   |some (v,st')=>some (.panic v,{st' with en:=st'.en.set k none})
   |none=>none
 |_=>none
def exec (L:bJ):Nat->bB->St->Option (Ex×St)
 |0,_,_=>none
 |n+1,c,st=>
  match c with
  | .skip=>some (.normal,st)
  | .ops l=>(gJ 8 (bM L 8 (exec L n)) (eW L (exec L n)) 0 l st).map fun st=>(.normal,st)
  | .draw l pairs=>match iV 8 (bM L 8 (exec L n)) (eW L (exec L n)) 0 l st with
   |some (st',rs)=>if dS rs pairs then some (.normal,st')else none
   |none=>none
  | .seq a b=>match exec L n a st with
   |some (.normal,st')=>exec L n b st'
   |r=>r
  | .cond x a b=>match St.get st.fr x with
   | .bool true=>exec L n a st
   | .bool false=>exec L n b st
   |_=>none
  | .block id b=>match exec L n b st with
   |some (.exit id',st')=>if id'=id then some (.normal,st')else some (.exit id',st')
   |r=>r
  | .loop b=>match exec L n b st with
   |some (.normal,st')=>exec L n (.loop b) st'
   |r=>r
  | .exit id=>some (.exit id,st)
  | .ret=>some (.ret,st)
  | .rangeF g ps a b=>nG L (exec L n) (St.get st.fr g) ps a b st
  | .opsP l=>aD1 8 (bM L 8 (exec L n)) (eW L (exec L n)) (cR L (exec L n)) (eD L (exec L n)) l st
  | .dfr ts l f args b=>match gJ 8 (bM L 8 (exec L n)) (eW L (exec L n)) 0 l st with
   |some st2=>match exec L n b st2 with
    |some (e,st3)=>if ts.any (fun t=>(st3.fr t).isUndef)then none else(iB L (exec L n) (St.get st2.fr f) (args.map (St.get st2.fr)) e st3).map fun st4=>(.ret,st4)
    |none=>none
   |none=>none
  | .rcv _ _ _=>none
  | .drawP l an pairs=>match pR 8 (bM L 8 (exec L n)) (eW L (exec L n)) (cR L (exec L n)) (eD L (exec L n)) l 0 st with
   |some j=>vF 8 (bM L 8 (exec L n)) (eW L (exec L n)) (cR L (exec L n)) (eD L (exec L n)) l an pairs j st
   |none=>match iV 8 (bM L 8 (exec L n)) (eW L (exec L n)) 0 l st with
    |some (st',rs)=>if dS rs pairs then some (.normal,st')else none
    |none=>none
  | .drawL l an pairs A=>
   wS 8 (bM L 8 (exec L n)) (eW L (exec L n)) (cR L (exec L n)) (eD L (exec L n)) (iY A (iH st (l.getD A default)) l) an pairs A (iH st (l.getD A default))
    (vG (iH st (l.getD A default)) (aMo (l.getD A default).op) st)
def bFs (L:bJ)(n:Nat):bH:=cR L (exec L n)
def lC (L:bJ)(n:Nat):bH:=bM L 8 (exec L n)
end Go.Abs
namespace Go.Abs
def zV :Value->Option Val
 | .bool b=>some (.bool b)
 | .int k n=>some (.int k n)
 | .string s=>some (.str s)
 | .pointer none=>some .nilp
 | .slice none 0 0=>some (.cl [])
 | .map none=>some .nilm
 | .nilFunc=>some .nilf
 | .nilIface=>some .nili
 |_=>none
def gK (P:Program)(t:TypeId):Option (List Val):=
 match(P.info? t).bind (·.zero)with
 |some v=>cU zV v.cells.toList
 |none=>none
def cZ (P:Program)(t:TypeId):Bool:=
 match P.underlying t with
 |some (.struct _)|some (.array _ _)=>true
 |_=>false
def tL (P:Program)(t:TypeId):Option Val:=
 match(P.info? t).bind (·.zero)with
 |some (.agg cs)=>if cZ P t then(cU zV cs.toList).map .agg else none
 |some v=>if cZ P t then none else zV v
 |none=>none
structure lX where
 tbl:Nat->Option (List Val)
instance : Inhabited lX:=⟨⟨fun _=>none⟩⟩
variable [Inhabited lX]
def aO :Operand->Option Opd
 | .tmp t=>some (.t t)
 | .const v=>(zV v).map .c
 | .func f=>some (.f f)
 | .global g=>((default:lX).tbl g).map fun cs=> .c (.fp cs 0)
def jH (l:List Operand):Option (List Opd):=cU aO l
def vH (iJ:TypeId->Option (List CT)):List Field->List CT->Option (List CT)
 |[],l=>some l
 |f::fs,l=>
  if f.name≠ "_" ∧f.offset=l.length then
   match iJ f.type with
   |some m=>vH iJ fs (l++m)
   |none=>none
  else none
def iJ (P:Program):Nat->TypeId->Option (List CT)
 |0,_=>none
 |d+1,t=>
  match P.underlying t with
  |some (.int _)=>if P.cellsOf t=1 then some [.num]else none
  |some .bool=>if P.cellsOf t=1 then some [.bool]else none
  |some .string=>if P.cellsOf t=1 then some [.str]else none
  |some (.struct fs)=>
   if P.stoodInHeld t then none else
   match vH (iJ P d) fs.toList []with
   |some l=>if P.cellsOf t=l.length then some l else none
   |none=>none
  |some (.array n e)=>
   match iJ P d e with
   |some m=>if P.cellsOf t=n*m.length then some (List.replicate n m).flatten else none
   |none=>none
  |_=>none
def pS (P:Program)(t:TypeId):Option EqT:=
 match P.underlying t with
 |some (.int _)=>some .num
 |some .string=>some .str
 |some .bool=>some .bool
 |some (.struct _)|some (.array _ _)=>if P.eqGuardType P.depth t then none else(iJ P 6 t).map .agg
 |some (.map _ _)=>some .map
 |some (.slice _)=>some .slice
 |some (.func _ _ _)=>some .func
 |some (.interface _)=>some .iface
 |some (.pointer _)=>some .ptr
 |_=>none
def aFy (P:Program)(t:TypeId):Option EqT:=
 match P.underlying t with
 |some (.int _)=>some .num
 |some .string=>some .str
 |some .bool=>some .bool
 |_=>none
def oT (x:Option Operand):Option (Option Opd):=
 match x with
 |none=>some none
 |some o=>(aO o).map some
def aIy (P:Program)(name:String)(t:TypeId):Option Nat:=
 match P.info? t with
 |some i=>match i.methods.find? (·.name==name)with
  |some m=>match m.path.toList,m.func with
   |[],some (f,pr)=>match P.underlying t with
    |some (.pointer _)=>if pr then some f else none
    |some _=>if pr then none else some f
    |none=>none
   |_,_=>none
  |none=>none
 |none=>none
def aBm (P:Program)(name:String):List (Nat×Nat):=
 (List.range P.types.size).filterMap fun t=>(aIy P name t).map fun f=>(t,f)
def mP :Operand->Bool
 | .const _=>true
 |_=>false
def bFt (P:Program)(e t:TypeId)(x y:Operand):Option LOp:=
 match P.underlying t,gK P e,aO x,aO y with
 |some (.int _),some z,some x,some y=>if z.length=P.cellsOf e/\ 0<P.cellsOf e/\ P.bytesOf e<=1048576 then some (.appendZ (P.cellsOf e) z x y)else none
 |_,_,_,_=>none
theorem kS {P:Program}{e t:TypeId}{x y:Operand}{l:LOp}(h:bFt P e t x y=some l): ∃z x' y' k,P.underlying t=some (.int k)/\ gK P e=some z/\ aO x=some x'/\ aO y=some y'/\ z.length=P.cellsOf e/\ 0<P.cellsOf e/\ P.bytesOf e<=1048576/\ l= .appendZ (P.cellsOf e) z x' y':=by
 unfold bFt at h
 split at h
 ·rename_i k z x' y' h1 h2 h3 h4
  split at h
  ·rename_i hc;simp only[bOw]at h;exact⟨z,x',y',k,h1,h2,h3,h4,hc.1,hc.2.1,hc.2.2,h.symm⟩
  ·cases h
 ·cases h
def dP (P:Program)(I:Operand->Bool):Op->Option LOp
 | .move x| .assign x=>(aO x).map .mv
 | .pick c a b=>do pure (.pick (<-aO c) (<-aO a) (<-aO b))
 | .alloc t=>do pure (.alloc (<-gK P t))
 | .box t x=>do pure (.box (P.cellsOf t) (<-aO x))
 | .build t parts=>
  match P.underlying t with
  |some (.struct fs)=>if fs.toList.all (fun f=>(P.info? f.type).isSome)then do
   let z<-gK P t;let ps<-cU (fun(p:Nat×Operand)=>do
    let f<-fs[p.1]?
    pure (f.offset,P.cellsOf f.type,<-aO p.2)) parts.toList
   pure (.build z ps)else none
  |some (.array _ e)=>if(P.info? e).isSome then do
   let z<-gK P t;let ps<-cU (fun(p:Nat×Operand)=>do pure (p.1*P.cellsOf e,P.cellsOf e,<-aO p.2)) parts.toList
   pure (.build z ps)else none
  |_=>none
 | .buildSlice t len parts=>
  match P.underlying t with
  |some (.slice e)=>do
   let z<-gK P e
   if z.length=P.cellsOf e then
    let ps<-cU (fun(p:Nat×Operand)=>do pure (p.1,<-aO p.2)) parts.toList
    pure (if I (.const (.bool true))then .bsliceK len (P.cellsOf e) z ps else if I (.const (.bool false))then .bsliceO len (P.cellsOf e) z ps else .bslice len (P.cellsOf e) z ps)
   else none
  |_=>none
 | .load t a=>if(P.underlying t).isSome then(aO a).map (.load (cZ P t) (P.cellsOf t))else none
 | .store t a v=>if(P.info? t).isSome then do pure (.store (P.cellsOf t) (<-aO a) (<-aO v))else none
 | .nilCheck x=>(aO x).map .nilck
 | .binOp op t x y _=>do
  let e<-pS P t
  if e= .slice then
   match y with
   | .const (.slice none 0 0)=>pure (.bin op .slice (<-aO x) (.c (.es true)))
   |_=>none
  else if e= .iface/\ mP x=false/\ mP y=false then none
  else pure (.bin op e (<-aO x) (<-aO y))
 | .unOp op _ x=>(aO x).map (.un op)
 | .convert s d x=>
  match P.underlying s,P.underlying d with
  |some (.int _),some (.int k)=>(aO x).map (.wrap k)
  |_,_=>none
 | .makeInterface t x=>
  match P.underlying t with
  |some (.interface _)|none=>none
  |_=>(aO x).map (.iface t)
 | .makeFunc (.func f) a b=>do pure (.mkfn f (<-jH a.toList) (<-jH b.toList))
 | .makeSlice t l c=>
  match P.underlying t with
  |some (.slice e)=>do
   let z<-gK P e
   if z.length=P.cellsOf e/\ P.bytesOf e<=1048576 then pure (.mklen (P.cellsOf e) z (<-aO l) (<-aO c))else none
  |_=>none
 | .slice t x lo hi mx=>
  match P.underlying t with
  |some (.slice e)=>if(P.info? e).isSome=false then none else do pure (.slice false (P.cellsOf e) (<-aO x) (<-oT lo) (<-oT hi) (<-oT mx))
  |some .string=>if mx.isSome then none else do pure (.slice true 1 (<-aO x) (<-oT lo) (<-oT hi) none)
  |_=>none
 | .range t x=>
  match P.underlying t with
  |some .string=>(aO x).map .rng
  |_=>none
 | .next x true=>(aO x).map .nxt
 | .panic x=>(aO x).map .panic
 | .makeMap _ none=>some .mkmap
 | .lookup t x i ok=>
  match P.underlying t with
  |some (.map k e)=>do pure (.mget (<-aFy P k) (<-tL P e) ok (<-aO x) (<-aO i))
  |_=>none
 | .mapUpdate t m k v| .insert t m k v=>
  match P.underlying t with
  |some (.map kt _)=>do pure (.mput (<-aFy P kt) (<-aO m) (<-aO k) (<-aO v))
  |_=>none
 | .fieldAddr s x i=>
  match P.underlying s with
  |some (.struct fs)=>do
   let f<-fs[i]?
   if P.cellsOf f.type=0 then none else pure (.fa f.offset (<-aO x))
  |_=>none
 | .field s x i=>
  match P.underlying s with
  |some (.struct fs)=>do
   let f<-fs[i]?
   if(P.underlying f.type).isSome then pure (.fld (cZ P f.type) f.offset (P.cellsOf f.type) (<-aO x))else none
  |_=>none
 | .indexAddr t x i=>
  match P.underlying t with
  |some (.slice e)=>if(P.info? e).isSome=false then none else do pure (.ia (P.cellsOf e) (<-aO x) (<-aO i))
  |some (.array n e)=>if(P.info? e).isSome=false then none else do pure (.iaa n (P.cellsOf e) (<-aO x) (<-aO i))
  |_=>none
 | .index t x i=>
  match P.underlying t with
  |some .string=>do pure (.ixs (<-aO x) (<-aO i))
  |some (.array n e)=>if(P.underlying e).isSome=false then none else do pure (.ixa (cZ P e) n (P.cellsOf e) (<-aO x) (<-aO i))
  |_=>none
 | .extract t i=>(aO t).map (.ext i)
 | .typeAssert x _ t ok=>
  match P.underlying t with
  |some (.interface _)|none=>none
  |_=>do
   let z<-tL P t
   pure (.assert t z ok (<-aO x))
 | .call c=>
  match c.callee with
  | .value f=>if I f then do pure (.icall (<-aO f) (<-jH c.args.toList))else do pure (.call (<-aO f) (<-jH c.args.toList))
  | .invoke (.tmp t) name=>do pure (.call (.m (aBm P name) t) (<-jH c.args.toList))
  | .builtin .len=>match c.args.toList with
   |[x]=>match c.argTypes[0]?.bind P.underlying with
    |some (.slice _)=>(aO x).map (.len .slice)
    |some .string=>(aO x).map (.len .str)
    |some (.map _ _)=>(aO x).map (.len .map)
    |_=>none
   |_=>none
  | .builtin .append=>match c.argTypes.toList,c.args.toList with
   |[t,t'],[x,y]=>match P.underlying t with
    |some (.slice e)=>
     if t=t'/\ (gK P e).map List.length=some (P.cellsOf e)/\ P.bytesOf e<=1048576 then do
      let x<-aO x;let y<-aO y
      pure (if I (.const (.bool true))then .appendD (P.cellsOf e) x y else .append (P.cellsOf e) x y)
     else bFt P e t' x y
    |_=>none
   |_,_=>none
  | .builtin .cap=>match c.args.toList with
   |[x]=>match c.argTypes[0]?.bind P.underlying with
    |some (.slice _)=>(aO x).map (.len .func)
    |_=>none
   |_=>none
  | .builtin .max=>(jH c.args.toList).map (.minmax true)
  | .builtin .min=>(jH c.args.toList).map (.minmax false)
  |_=>none
 |_=>none
def zW (ops:Array Oper):Option (Nat×Bool)->Option (Option (Nat×Bool))
 |none=>some none
 |some (j,b)=>match(ops[j]?).bind (·.dst)with
  |some t=>some (some (t,b))
  |none=>none
def fD (P:Program)(I:Operand->Bool)(ops:Array Oper)(o:Oper):Option aM:=do
 pure {dst:=o.dst,op:= <-dP P I o.op,guard:= <-zW ops o.guard}
def aIz :List Oper->List (List Nat)->Option (List (List Nat))
 |[],acc=>some acc
 |o::l,acc=>
  let lK:=(o.after.toList.filter (Region.binds .any)).map (·.on)
  if lK.all (· <acc.length)then aIz l (acc++[(lK++lK.flatMap fun j=>acc.getD j []).eraseDups])else none
def aQk (ops:Array Oper):Option (List (List Nat)):=aIz ops.toList []
def fP (an:List (List Nat))(l:List aM):Option (List (Nat×Nat)):=
 let r:=List.range l.length;let ordered (i j:Nat):Bool:=(an.getD j []).contains i||(an.getD i []).contains j
 let o (i:Nat):aM:=l.getD i default
 if r.all fun j=>r.all fun i=>
   i==j||
   (match(o i).dst with
    |some d=>(o j).dst !=some d&&(!(o j).uses.contains d||ordered i j)
    |none=>true)
 then some (r.flatMap fun j=>((List.range j).filter fun i=>!ordered i j&&
   (((o i).op.writesMem&&((o j).op.readsMem||(o j).op.writesMem))||((o j).op.writesMem&&(o i).op.readsMem))).map fun i=>(i,j))
 else none
def aI0 :bB:= .cond (.c .dead) .skip .skip
def aD4 (I:Operand->Bool)(o:aM):Bool:=
 match o.op with
 | .panic _=>true
 | .call (.f f) _| .icall (.f f) _=>I (.const (.int .i64 f))
 | .call (.t _) _| .icall (.t _) _=>I (.const .nilIface)
 |_=>false
def aY9 (an:List (List Nat))(l:List aM)(i:Nat):Bool:=
 (an.getD i []).isEmpty&&(l.getD i default).guard.isNone&&(match(l.getD i default).op with| .alloc _=>true|_=>false)&&(l.getD i default).dst.isSome&&
  (List.range l.length).any fun j=>(match(l.getD j default).op with| .icall _ _=>true|_=>false)&&!(an.getD j []).contains i
def aTu (an:List (List Nat))(l:List aM):Option Nat:=(List.range l.length).find? (aY9 an l)
def aOa (P:Program)(I:Operand->Bool)(ops:Array Oper):Option bB:=do
 let l<-cU (fD P I ops) ops.toList;let an<-aQk ops;let ps<-fP an l
 pure (if l.any (aD4 I)then(match aTu an l with|some A=> .drawL l an ps A|none=> .drawP l an ps)else .draw l ps)
def cG (P:Program)(I:Operand->Bool):Code->bB
 | .skip=> .skip
 | .region _ ops dr=>if dr then(aOa P I ops).getD aI0 else((cU (fD P I ops) ops.toList).map fun l=>if l.any (aD4 I)then .opsP l else .ops l).getD aI0
 | .seq a b=> .seq (cG P I a) (cG P I b)
 | .cond c a b=>match aO c with
  |some x=> .cond x (cG P I a) (cG P I b)
  |none=>aI0
 | .block id b=> .block id (cG P I b)
 | .loop b=> .loop (cG P I b)
 | .scope b=>cG P I b
 | .label _=> .skip
 | .exit id=> .exit id
 | .ret=> .ret
 | .rangeFunc g ps a b=>match aO g with
  |some x=> .rangeF x ps.toList (cG P I a) (cG P I b)
  |none=>aI0
 |_=>aI0
def bB.dstOk (n:Nat):bB->Bool
 | .ops l| .draw l _| .opsP l| .drawP l _ _| .drawL l _ _ _=>l.all fun o=>o.dst.all (· <n)
 | .seq a b| .cond _ a b=>a.dstOk n&&b.dstOk n
 | .block _ b| .loop b=>b.dstOk n
 | .rangeF _ ps a b=>ps.all (· <n)&&a.dstOk n&&b.dstOk n
 | .dfr _ l _ _ b=>(l.all fun o=>o.dst.all (· <n))&&b.dstOk n
 | .rcv d l b=>d.all (· <n)&&(l.all fun o=>o.dst.all (· <n))&&b.dstOk n
 |_=>true
def bB.noRg :bB->Bool
 | .rangeF .. =>false
 | .seq a b| .cond _ a b=>a.noRg&&b.noRg
 | .block _ b| .loop b=>b.noRg
 |_=>true
def aZa :Code->Option (Array Oper×Call)
 | .region _ ops false=>match ops.back? with
  |some o=>match o.op,o.guard,o.dst with
   | .defer k,none,none=>some (ops,k)
   |_,_,_=>none
  |none=>none
 |_=>none
def aTv (P:Program)(I:Operand->Bool)(ts:List Nat)(ops:Array Oper)(k:Call)(b:Code):Option bB:=
 match k.callee with
 | .value F=>match aO F,jH k.args.toList,cU (fD P I ops) ops.toList.dropLast with
  |some f,some args,some l=>some (.dfr ts l f args (cG P I b))
  |_,_,_=>none
 |_=>none
def aBn (P:Program)(I:Operand->Bool)(ts:List Nat):Code->Option bB
 | .seq x y=>match aZa x with
  |some (ops,k)=>aTv P I ts ops k y
  |none=>match aBn P I ts y with
   |some ly=>some (.seq (cG P I x) ly)
   |none=>none
 |_=>none
def aFz (o:Oper):Bool:=match o.op,o.guard with
 | .call c,none=>match c.callee with
  | .builtin .recover=>true
  |_=>false
 |_,_=>false
def aOb (o:Oper):Bool:=match o.op,o.guard with
 | .assign _,none| .move _,none=>true
 |_,_=>false
def bB.isRcv :bB->Bool
 | .rcv .. =>true
 |_=>false
def aTw (P:Program)(I:Operand->Bool):Code->Option bB
 | .seq (.region _ ops false) b=>match ops.toList with
  |o::l=>if aFz o&&l.all aOb&&(cG P I b).noRg then(cU (fD P I ops) l).map fun l'=> .rcv o.dst l' (cG P I b)else none
  |[]=>none
 |_=>none
def aD5 (l:List ResultVar):List Nat:=l.map fun| .tmp t=>t| .cell c _=>c
def aD6 (P:Program)(I:Operand->Bool)(ts:List Nat)(c:Code):Option bB:=
 match aTw P I c with
 |some x=>some x
 |none=>match aBn P I ts c with
  |some x=>some x
  |none=>if(cG P I c).isRcv then none else some (cG P I c)
def aC2 (P:Program):ResultVar->Option aWv
 | .tmp t=>some (.tmp t)
 | .cell a t=>if(P.underlying t).isSome then some (.cell a (cZ P t) (P.cellsOf t))else none
def bH7 (I:Operand->Bool):List (List Nat):=(if I (.const .nilFunc)then [[]]else [])++(if I (.const (.map none))then [[0]]else [])
def xT (P:Program)(I:Operand->Bool)(keep amb:Bool)(f:Func):Option jB:=
 match f.body with
 |none=>none
 |some c=>match aD6 P I (aD5 f.results.toList) c with
  |none=>none
  |some lc=>
  if lc.dstOk f.ntmps&&decide (f.params.size+f.nfree≤f.ntmps)&&(f.name != "runtime.NumGoroutine")then
   (cU (aC2 P) f.results.toList).map fun res=>{np:=f.params.size+f.nfree,res,keep,amb,nrm:=bH7 I,body:=lc}else none
end Go.Abs
namespace Go.Abs
open Go.RowKit (Below)
structure Gh where
 box:Key->Option Nat
 blk:Key->Option (Option (Nat×Nat×Nat×Nat))
 mp:Key->Option Nat
 own:Nat->Option (Key×Nat)
def Gh.knows (G:Gh)(k:Key):Prop:=G.box k≠ .none \/G.blk k≠ .none \/G.mp k≠ .none
variable {G:Gh}{b:Nat}{k:Key}
theorem Gh.knows_box (h:G.box k=some b):G.knows k:= .inl (by rw[h];simp)
theorem Gh.knows_blk {b:Option (Nat×Nat×Nat×Nat)}(h:G.blk k=some b):G.knows k:= .inr (.inl (by rw[h];simp))
theorem Gh.knows_mp (h:G.mp k=some b):G.knows k:= .inr (.inr (by rw[h];simp))
theorem Gh.knows_not (h:G.box k= .none/\ G.blk k= .none/\ G.mp k= .none): ¬G.knows k:=fun hk=>by
 obtain⟨h1,h2,h3⟩:=h;rcases hk with hk|hk|hk
 ·exact hk h1
 ·exact hk h2
 ·exact hk h3
theorem Gh.not_knows (h: ¬G.knows k):G.box k= .none/\ G.blk k= .none/\ G.mp k= .none:=by
 refine⟨?_,?_,?_⟩
 ·cases h1:G.box k with
  |none=>rfl
  |some b=>exact absurd (Gh.knows_box h1) h
 ·cases h1:G.blk k with
  |none=>rfl
  |some b=>exact absurd (Gh.knows_blk h1) h
 ·cases h1:G.mp k with
  |none=>rfl
  |some b=>exact absurd (Gh.knows_mp h1) h
def Gh.none :Gh:={box:=fun _=>Option.none,blk:=fun _=>Option.none,mp:=fun _=>Option.none,own:=fun _=>Option.none}
def Gh.atq (G:Gh)(q:Nat):Gh:=if q=3 then G else Gh.none
abbrev Gh.at (G:Gh)(k:Key):Gh:=G.atq k.n
theorem Gh.at_none (h:k.deep=false):G.at k=Gh.none:=by
 simp only[Key.deep,bSj]at h;simp[Gh.at,Gh.atq,h]
structure Gh.le (G H:Gh):Prop where
 box: ∀k b,G.box k=some b->H.box k=some b
 blk: ∀k b,G.blk k=some b->H.blk k=some b
 mp: ∀k b,G.mp k=some b->H.mp k=some b
theorem Gh.le_refl (G:Gh):G.le G:=⟨fun _ _ h=>h,fun _ _ h=>h,fun _ _ h=>h⟩
theorem Gh.le_trans {A B C:Gh}(h:A.le B)(k:B.le C):A.le C:=
 ⟨fun x b e=>k.box x b (h.box x b e),fun x b e=>k.blk x b (h.blk x b e),fun x b e=>k.mp x b (h.mp x b e)⟩
theorem Gh.none_le (G:Gh):Gh.none.le G:=⟨fun _ _ h=>by simp[Gh.none]at h,fun _ _ h=>by simp[Gh.none]at h,fun _ _ h=>by simp[Gh.none]at h⟩
def fK :Value->Bool
 | .agg _| .tuple _=>false
 |_=>true
inductive VR (T:Nat->Nat->Prop):Gh->World->Val->Value->Prop
 |dead {G:Gh} {w:World} (x:Value) (h:fK x=true):VR T G w .dead x
 |bool {G:Gh} {w:World} (b:Bool):VR T G w (.bool b) (.bool b)
 |int {G:Gh} {w:World} (k:IntKind) (n:Int):VR T G w (.int k n) (.int k n)
 |str {G:Gh} {w:World} (s:ByteArray):VR T G w (.str s) (.string s)
 |nilp {G:Gh} {w:World}:VR T G w .nilp (.pointer .none)
 |fp {G:Gh} {w:World} (cs:List Val) (off b base:Nat) (c:Nat->Value) (h: ∀j,j<cs.length->w.cell? ⟨b,base+j,.none⟩=some (c j))
   (ht: ∀j,j<cs.length->T b (base+j)) (ho: ∀j,j<cs.length->fK (c j)=true) (hv: ∀j,j<cs.length->VR T Gh.none w (cs.getD j .dead) (c j)):
   VR T G w (.fp cs off) (.pointer (some ⟨b,base+off,.none⟩))
 |ptr {G:Gh} {w:World} (k:Key) (off b:Nat) (h:G.box k=some b):VR T G w (.ptr k off) (.pointer (some ⟨b,off,.none⟩))
 |ep {G:Gh} {w:World} (k:Key) (i off b base sz C:Nat) (h:G.blk k=some (some (b,base,sz,C))) (hi:i<C):VR T G w (.ep k i off) (.pointer (some ⟨b,base+i*sz+off,.none⟩))
 |fz0 {G:Gh} {w:World} (a:Option Addr) (cap:Nat):VR T G w (.fz []) (.slice a 0 cap)
 |fz {G:Gh} {w:World} (xs:List Val) (b off sz cap:Nat) (c:Nat->Nat->Value) (hc:xs.length<=cap)
   (hs: ∀i,i<xs.length->(xs.getD i .dead).cells.length=sz)
   (h: ∀i j,i<xs.length->j<sz->w.cell? ⟨b,off+i*sz+j,.none⟩=some (c i j))
   (ht: ∀i j,i<xs.length->j<sz->T b (off+i*sz+j)) (ho: ∀i j,i<xs.length->j<sz->fK (c i j)=true)
   (hv: ∀i j,i<xs.length->j<sz->VR T Gh.none w ((xs.getD i .dead).cells.getD j .dead) (c i j)):
   VR T G w (.fz xs) (.slice (some ⟨b,off,.none⟩) xs.length cap)
 |cl0 {G:Gh} {w:World} (a:Option Addr):VR T G w (.cl []) (.slice a 0 0)
 |cl {G:Gh} {w:World} (xs:List Val) (b off sz:Nat) (c:Nat->Nat->Value)
   (hs: ∀i,i<xs.length->(xs.getD i .dead).cells.length=sz)
   (h: ∀i j,i<xs.length->j<sz->w.cell? ⟨b,off+i*sz+j,.none⟩=some (c i j))
   (ht: ∀i j,i<xs.length->j<sz->T b (off+i*sz+j)) (ho: ∀i j,i<xs.length->j<sz->fK (c i j)=true)
   (hv: ∀i j,i<xs.length->j<sz->VR T Gh.none w ((xs.getD i .dead).cells.getD j .dead) (c i j)):
   VR T G w (.cl xs) (.slice (some ⟨b,off,.none⟩) xs.length xs.length)
 |bl0 {G:Gh} {w:World} (k:Key) (a:Option Addr) (h:G.blk k=some .none):VR T G w (.bl k 0 0) (.slice a 0 0)
 |bl {G:Gh} {w:World} (k:Key) (off len b base sz C:Nat) (h:G.blk k=some (some (b,base,sz,C))) (hl:off+len<=C):
   VR T G w (.bl k off len) (.slice (some ⟨b,base+off*sz,.none⟩) len (C-off))
 |ble {G:Gh} {w:World} (k:Key) (a:Option Addr) (b base sz C:Nat) (h:G.blk k=some (some (b,base,sz,C))):VR T G w (.bl k C 0) (.slice a 0 0)
 |nilm {G:Gh} {w:World}:VR T G w .nilm (.map .none)
 |fm {G:Gh} {w:World} (ks vs:List Val) (r:Nat) (es:Array MapEntry) (clock:Nat) (h:w.heap[r]?=some (.map es clock)) (ht:T r 0)
   (hk:es.size=ks.length) (hl:vs.length=ks.length)
   (hkv: ∀i,i<ks.length->VR T Gh.none w (ks.getD i .dead) (es.getD i default).key) (hvv: ∀i,i<ks.length->VR T Gh.none w (vs.getD i .dead) (es.getD i default).val):
   VR T G w (.fm ks vs) (.map (some r))
 |mp {G:Gh} {w:World} (k:Key) (r:Nat) (h:G.mp k=some r):VR T G w (.mp k) (.map (some r))
 |nilf {G:Gh} {w:World}:VR T G w .nilf .nilFunc
 |fn {G:Gh} {w:World} (f:Nat) (a b:List Val) (x y:Array Value) (ha:x.size=a.length) (hb:y.size=b.length)
   (hx: ∀i,i<a.length->VR T G w (a.getD i .dead) (x.getD i undef)) (hy: ∀i,i<b.length->VR T G w (b.getD i .dead) (y.getD i undef)):
   VR T G w (.fn f a b) (.func (.func f) x y)
 |yld {G:Gh} {w:World} (k:Key) (l:Nat) (h:G.mp k=some l):VR T G w (.yld k) (.func (.yield l) #[] #[])
 |nili {G:Gh} {w:World}:VR T G w .nili .nilIface
 |it {G:Gh} {w:World} (k:Key) (r:Nat) (h:G.mp k=some r):VR T G w (.it k) (.pointer (some ⟨r,0,none⟩))
 |es {G:Gh} {w:World} (a:Option Addr) (cap:Nat):VR T G w (.es a.isNone) (.slice a 0 cap)
 |ifc {G:Gh} {w:World} (t:Nat) (v:Val) (x:Value) (h:VR T G w v x):VR T G w (.ifc t v) (.iface t x)
 |agg {G:Gh} {w:World} (cs:List Val) (x:Array Value) (h:x.size=cs.length) (ho: ∀i,i<cs.length->fK (x.getD i undef)=true)
   (hv: ∀i,i<cs.length->VR T G w (cs.getD i .dead) (x.getD i undef)):VR T G w (.agg cs) (.agg x)
 |tup {G:Gh} {w:World} (vs:List Val) (x:Array Value) (h:x.size=vs.length) (hv: ∀i,i<vs.length->VR T G w (vs.getD i .dead) (x.getD i undef)):VR T G w (.tup vs) (.tuple x)
structure zH (T:Nat->Nat->Prop) (G:Gh) (w:World) (T':Nat->Nat->Prop) (G':Gh) (w':World):Prop where
 t: ∀b o,T b o->T' b o
 g:G.le G'
 cell: ∀b o c,T b o->w.cell? ⟨b,o,.none⟩=some c->w'.cell? ⟨b,o,.none⟩=some c
 map: ∀r es clock,T r 0->w.heap[r]?=some (.map es clock)->w'.heap[r]?=some (.map es clock)
variable {G':Gh}{T T':Nat->Nat->Prop}{w w':World}
theorem zH.none (m:zH T G w T' G' w'):zH T Gh.none w T' Gh.none w':=
 ⟨m.t,Gh.le_refl _,m.cell,m.map⟩
theorem zH.at (m:zH T G w T' G' w')(k:Key):zH T (G.at k) w T' (G'.at k) w':=by
 unfold Gh.at Gh.atq;split
 ·exact m
 ·exact m.none
structure jJ (T:Nat->Nat->Prop) (G:Gh) (w:World) (T':Nat->Nat->Prop) (G':Gh) (w':World):Prop where
 t: ∀b o,T b o->T' b o
 g:G.le G'
 cell: ∀b o c,T b o->w.cell? ⟨b,o,.none⟩=some c->w'.cell? ⟨b,o,.none⟩=some c
 map: ∀r es clock,T r 0->w.heap[r]?=some (.map es clock)->w'.heap[r]?=some (.map es clock)
 defer: ∀(b:Nat) ds,w.heap[b]?=some (Obj.deferred ds)->w'.heap[b]?=some (Obj.deferred ds)
 loop: ∀(l:Nat) r,w.heap[l]?=some (Obj.loop r)-> ∃r',w'.heap[l]?=some (Obj.loop r')
theorem jJ.four (m:jJ T G w T' G' w'):zH T G w T' G' w':=⟨m.t,m.g,m.cell,m.map⟩
theorem jJ.refl (T:Nat->Nat->Prop)(G:Gh)(w:World):jJ T G w T G w:=⟨fun _ _ h=>h,G.le_refl,fun _ _ _ _ h=>h,fun _ _ _ _ h=>h,fun _ _ h=>h,fun _ r h=>⟨r,h⟩⟩
theorem jJ.none (m:jJ T G w T' G' w'):jJ T Gh.none w T' Gh.none w':=
 ⟨m.t,Gh.le_refl _,m.cell,m.map,m.defer,m.loop⟩
theorem jJ.atq (m:jJ T G w T' G' w')(q:Nat):jJ T (G.atq q) w T' (G'.atq q) w':=by
 unfold Gh.atq;split
 ·exact m
 ·exact m.none
theorem jJ.trans {T1 T2 T3:Nat->Nat->Prop}{G1 G2 G3:Gh}{w1 w2 w3:World}(m:jJ T1 G1 w1 T2 G2 w2)(k:jJ T2 G2 w2 T3 G3 w3):jJ T1 G1 w1 T3 G3 w3:=
 ⟨fun b o h=>k.t _ _ (m.t _ _ h),Gh.le_trans m.g k.g,fun b o c ht h=>k.cell _ _ _ (m.t _ _ ht) (m.cell _ _ _ ht h),fun r es cl ht h=>k.map _ _ _ (m.t _ _ ht) (m.map _ _ _ ht h),fun b ds h=>k.defer b ds (m.defer b ds h),fun l r h=>let ⟨r1,h1⟩:=m.loop l r h;k.loop l r1 h1⟩
variable {v:Val}{x:Value}
theorem VR.mono' (h:VR T G w v x):
  ∀{T':Nat->Nat->Prop} {G':Gh} {w':World},zH T G w T' G' w'->VR T' G' w' v x:=by
 induction h with
 |dead x h=>intro T' G' w' m;exact .dead x h
 |bool b=>intro T' G' w' m;exact .bool b
 |int k n=>intro T' G' w' m;exact .int k n
 |str s=>intro T' G' w' m;exact .str s
 |nilp=>intro T' G' w' m;exact .nilp
 |fp cs off b base c h ht ho hv ih=>intro T' G' w' m;exact .fp cs off b base c (fun j hj=>m.cell _ _ _ (ht j hj) (h j hj)) (fun j hj=>m.t _ _ (ht j hj)) ho (fun j hj=>ih j hj m.none)
 |ptr k off b h=>intro T' G' w' m;exact .ptr k off b (m.g.box _ _ h)
 |ep k i off b base sz C h hi=>intro T' G' w' m;exact .ep k i off b base sz C (m.g.blk _ _ h) hi
 |fz0 a cap=>intro T' G' w' m;exact .fz0 a cap
 |fz xs b off sz cap c hc hs h ht ho hv ih=>intro T' G' w' m;exact .fz xs b off sz cap c hc hs (fun i j hi hj=>m.cell _ _ _ (ht i j hi hj) (h i j hi hj)) (fun i j hi hj=>m.t _ _ (ht i j hi hj)) ho (fun i j hi hj=>ih i j hi hj m.none)
 |cl0 a=>intro T' G' w' m;exact .cl0 a
 |cl xs b off sz c hs h ht ho hv ih=>intro T' G' w' m;exact .cl xs b off sz c hs (fun i j hi hj=>m.cell _ _ _ (ht i j hi hj) (h i j hi hj)) (fun i j hi hj=>m.t _ _ (ht i j hi hj)) ho (fun i j hi hj=>ih i j hi hj m.none)
 |bl0 k a h=>intro T' G' w' m;exact .bl0 k a (m.g.blk _ _ h)
 |bl k off len b base sz C h hl=>intro T' G' w' m;exact .bl k off len b base sz C (m.g.blk _ _ h) hl
 |ble k a b base sz C h=>intro T' G' w' m;exact .ble k a b base sz C (m.g.blk _ _ h)
 |nilm=>intro T' G' w' m;exact .nilm
 |fm ks vs r es clock h ht hk hl hkv hvv ih1 ih2=>intro T' G' w' m;exact .fm ks vs r es clock (m.map _ _ _ ht h) (m.t _ _ ht) hk hl (fun i hi=>ih1 i hi m.none) (fun i hi=>ih2 i hi m.none)
 |mp k r h=>intro T' G' w' m;exact .mp k r (m.g.mp _ _ h)
 |nilf=>intro T' G' w' m;exact .nilf
 |fn f a b x y ha hb hx hy ih1 ih2=>intro T' G' w' m;exact .fn f a b x y ha hb (fun i hi=>ih1 i hi m) (fun i hi=>ih2 i hi m)
 |yld k l h=>intro T' G' w' m;exact .yld k l (m.g.mp _ _ h)
 |nili=>intro T' G' w' m;exact .nili
 |it k r h=>intro T' G' w' m;exact .it k r (m.g.mp _ _ h)
 |es a cap=>intro T' G' w' m;exact .es a cap
 |ifc t v x h ih=>intro T' G' w' m;exact .ifc t v x (ih m)
 |agg cs x h ho hv ih=>intro T' G' w' m;exact .agg cs x h ho (fun i hi=>ih i hi m)
 |tup vs x h hv ih=>intro T' G' w' m;exact .tup vs x h (fun i hi=>ih i hi m)
theorem VR.mono (m:jJ T G w T' G' w')
  (h:VR T G w v x):VR T' G' w' v x:=h.mono' m.four
theorem Gh.at_le (G:Gh)(k:Key):(G.at k).le G:=by
 unfold Gh.at Gh.atq;split
 ·exact G.le_refl
 ·exact Gh.none_le G
theorem VR.out (h:VR T (G.at k) w v x):VR T G w v x:=
 h.mono' ⟨fun _ _ h=>h,Gh.at_le G k,fun _ _ _ _ h=>h,fun _ _ _ _ h=>h⟩
theorem VR.into (h:VR T Gh.none w v x)(G':Gh):VR T G' w v x:=
 h.mono' ⟨fun _ _ h=>h,Gh.none_le G',fun _ _ _ _ h=>h,fun _ _ _ _ h=>h⟩
theorem VR.shift {q:Nat}(hq:k.deep=true->q=3)(h:VR T (G.at k) w v x):VR T (G.atq q) w v x:=by
 cases hk:k.deep with
 |true=>
  have:G.at k=G.atq q:=by
   simp only[Key.deep,bSi]at hk;simp[Gh.at,Gh.atq,hk,hq (by simp[Key.deep,hk])]
  rw[<-this];exact h
 |false=>rw[Gh.at_none hk]at h;exact h.into _
theorem VR.cells (h:VR T G w v x)(hx: ∀vs,v≠ .tup vs):
  x.cells.size=v.cells.length/\ (∀i,i<v.cells.length->fK (x.cells.getD i undef)=true)/\ ∀i,i<v.cells.length->VR T G w (v.cells.getD i .dead) (x.cells.getD i undef):=by
 have one: ∀{v:Val} {x:Value},VR T G w v x->v.cells=[v]->x.cells= #[x]->fK x=true->
   x.cells.size=v.cells.length/\ (∀i,i<v.cells.length->fK (x.cells.getD i undef)=true)/\ ∀i,i<v.cells.length->VR T G w (v.cells.getD i .dead) (x.cells.getD i undef):=by
  intro v x h hv hx ho;rw[hv,hx]
  refine⟨rfl,fun i hi=>?_,fun i hi=>?_⟩<;>(simp at hi;subst hi)
  ·exact ho
  ·exact h
 cases h with
 |agg cs y h ho hv=>exact⟨h,ho,hv⟩
 |tup vs y h hv=>exact absurd rfl (hx vs)
 |dead x h=>exact one (.dead x h) rfl (by cases x<;>first|rfl|simp[fK]at h) h
 |bool b=>exact one (.bool b) rfl rfl rfl
 |int k n=>exact one (.int k n) rfl rfl rfl
 |str s=>exact one (.str s) rfl rfl rfl
 |nilp=>exact one .nilp rfl rfl rfl
 |fp cs off b base c h ht ho hv=>exact one (.fp cs off b base c h ht ho hv) rfl rfl rfl
 |ptr k off b h=>exact one (.ptr k off b h) rfl rfl rfl
 |ep k i off b base sz C h hi=>exact one (.ep k i off b base sz C h hi) rfl rfl rfl
 |fz0 a cap=>exact one (.fz0 a cap) rfl rfl rfl
 |fz xs b off sz cap c hc hs h ht ho hv=>exact one (.fz xs b off sz cap c hc hs h ht ho hv) rfl rfl rfl
 |cl0 a=>exact one (.cl0 a) rfl rfl rfl
 |cl xs b off sz c hs h ht ho hv=>exact one (.cl xs b off sz c hs h ht ho hv) rfl rfl rfl
 |bl0 k a h=>exact one (.bl0 k a h) rfl rfl rfl
 |bl k off len b base sz C h hl=>exact one (.bl k off len b base sz C h hl) rfl rfl rfl
 |ble k a b base sz C h=>exact one (.ble k a b base sz C h) rfl rfl rfl
 |nilm=>exact one .nilm rfl rfl rfl
 |fm ks vs r es clock h ht hk hl hkv hvv=>exact one (.fm ks vs r es clock h ht hk hl hkv hvv) rfl rfl rfl
 |mp k r h=>exact one (.mp k r h) rfl rfl rfl
 |nilf=>exact one .nilf rfl rfl rfl
 |fn f a b x y ha hb hx' hy=>exact one (.fn f a b x y ha hb hx' hy) rfl rfl rfl
 |yld k l h=>exact one (.yld k l h) rfl rfl rfl
 |nili=>exact one .nili rfl rfl rfl
 |it k r h=>exact one (.it k r h) rfl rfl rfl
 |es a cap=>exact one (.es a cap) rfl rfl rfl
 |ifc t v x h=>exact one (.ifc t v x h) rfl rfl rfl
def aX (B:Nat)(S:Nat->Nat->Prop)(G:Gh)(n b o:Nat):Prop:=
 b<n/\ ((b<B/\ S b o) \/(B<=b/\ match G.own b with| .none=>True|some (_,t)=>o<t))
def Ex.code :Ex->Code
 | .normal=> .skip
 | .exit id=> .exit id
 | .ret=> .ret
 | .panic _=> .skip
def aZb (s:LSt)(rec:Loop):Prop:=
 match s with
 | .ready=>rec.state= .ready/\ rec.pending=none
 | .busy=>rec.state= .busy/\ rec.pending=none
 | .done e=>rec.state= .done/\ rec.pending=some e.code/\ e≠ .normal/\ e.calm=true
 | .over=>rec.state= .exhausted
variable [Inhabited lX]
inductive ER (P:Program) (B:Nat) (T:Nat->Nat->Prop) (G:Gh) (w:World) (k:Key):Ent->Prop
 |box (cs:List Val) (frz:Bool) (b:Nat) (c:Array Value) (t:TypeId) (hb:G.box k=some b) (hB:B<=b) (h:w.heap[b]?=some (.cells c t (0,0)))
   (hs:c.size=cs.length) (ho: ∀j,j<cs.length->fK (c.getD j undef)=true) (hv: ∀j,j<cs.length->VR T G w (cs.getD j .dead) (c.getD j undef))
   (hown:G.own b=if frz then .none else some (k,0)):ER P B T G w k (.box cs frz)
 |nul (sz:Nat) (frz:Bool) (h:G.blk k=some .none):ER P B T G w k (.blk sz [] frz)
 |blk (xs:List Val) (frz:Bool) (b base sz C thr:Nat) (c:Array Value) (t:TypeId) (hb:G.blk k=some (some (b,base,sz,C))) (hB:B<=b)
   (h:w.heap[b]?=some (.cells c t (0,0))) (hC:xs.length<=C) (hC':base+C*sz<=c.size)
   (hs: ∀i,i<xs.length->(xs.getD i .dead).cells.length=sz)
   (ho: ∀i j,i<xs.length->j<sz->fK (c.getD (base+i*sz+j) undef)=true)
   (hv: ∀i j,i<xs.length->j<sz->VR T (G.at k) w ((xs.getD i .dead).cells.getD j .dead) (c.getD (base+i*sz+j) undef))
   (hown:G.own b=some (k,thr)) (hthr:thr=if frz then base+xs.length*sz else base):ER P B T G w k (.blk sz xs frz)
 |full (xs:List Val) (b base sz:Nat) (c:Nat->Nat->Value) (hb:G.blk k=some (some (b,base,sz,xs.length)))
   (hs: ∀i,i<xs.length->(xs.getD i .dead).cells.length=sz)
   (h: ∀i j,i<xs.length->j<sz->w.cell? ⟨b,base+i*sz+j,.none⟩=some (c i j))
   (ht: ∀i j,i<xs.length->j<sz->T b (base+i*sz+j)) (ho: ∀i j,i<xs.length->j<sz->fK (c i j)=true)
   (hv: ∀i j,i<xs.length->j<sz->VR T Gh.none w ((xs.getD i .dead).cells.getD j .dead) (c i j)):ER P B T G w k (.blk sz xs true)
 |map (ks vs:List Val) (frz:Bool) (r:Nat) (es:Array MapEntry) (clock:Nat) (hr:G.mp k=some r) (hB:B<=r) (h:w.heap[r]?=some (.map es clock))
   (hk:es.size=ks.length) (hl:vs.length=ks.length)
   (hkv: ∀i,i<ks.length->VR T Gh.none w (ks.getD i .dead) (es.getD i default).key) (hvv: ∀i,i<ks.length->VR T Gh.none w (vs.getD i .dead) (es.getD i default).val)
   (hown:G.own r=if frz then .none else some (k,0)):ER P B T G w k (.map ks vs frz)
 |loop (fr:Nat->Val) (ps:List Nat) (la lb:bB) (st:LSt) (l:Nat) (rec:Loop) (I:Operand->Bool) (N:Nat) (hl:G.mp k=some l) (hB:B<=l) (h:w.heap[l]?=some (.loop rec))
   (hps:rec.params.toList=ps) (ha:cG P I rec.assign=la) (hb:cG P I rec.body=lb) (hN:N<=rec.tmps.size) (hpN:ps.all (· <N)=true) (haN:la.dstOk N=true) (hbN:lb.dstOk N=true)
   (hf: ∀i,VR T G w (fr i) (rec.tmps.getD i undef)) (hst:aZb st rec) (hown:G.own l=some (k,0)):ER P B T G w k (.loop fr ps la lb st)
 |iter (s:ByteArray) (pos r:Nat) (hr:G.mp k=some r) (hB:B<=r) (h:w.heap[r]?=some (.stringIter s pos)) (hown:G.own r=some (k,0)):ER P B T G w k (.iter s pos)
structure Env where
 prs:Val->Value->Prop
 ro:Option Nat
 rnd:Nat->Prop
 defs:Nat->Prop
 tail:List Deferred:=[]
 nm:Bool:=false
 virt:Key->Prop:=fun _=>False
def Env.isRnd (Ξ:Env)(l:Nat):Prop:=Ξ.ro=some l \/Ξ.rnd l
def xU (D:Nat):Deferred:={target:= .collected D,args:= #[]}
def aQl (B:Nat)(Ξ:Env)(ds:List Deferred)(w:World):Prop:=
 ∃Ds:List Nat,ds=Ds.map xU++Ξ.tail/\ (Ds.Nodup/\ (Ξ.nm=true->Ds=[]))/\ ∀D∈Ds,B<=D/\ ¬Ξ.defs D/\ w.heap[D]?=some (.deferred (some []))
def bEw (v:Val)(x:Value):Prop:= ∃g cs,(default:lX).tbl g=some cs/\ v= .fp cs 0/\ x= .pointer (some ⟨g,0,.none⟩)
def tM (T:Nat->Nat->Prop)(w:World):Prop:= ∀v x,bEw v x->VR T Gh.none w v x
structure Rel (P:Program) (Ξ:Env) (B:Nat) (S:Nat->Nat->Prop) (G:Gh) (st:St) (N:Nat) (a:Act) (w:World):Prop where
 size:B<=w.heap.size
 tmps:N<=a.tmps.size
 frame: ∀i,VR (aX B S G w.heap.size) G w (st.fr i) (a.tmps.getD i undef)
 marks:aQl B Ξ a.defers w
 ents: ∀k e,st.en k=some e->G.knows k->ER P B (aX B S G w.heap.size) G w k e
 freshEn: ∀k,st.cnt k.n k.t<=k.g->st.en k=none
 freshG: ∀k,st.cnt k.n k.t<=k.g->G.box k= .none/\ G.blk k= .none/\ G.mp k= .none
 own: ∀b k t,G.own b=some (k,t)->B<=b/\ b<w.heap.size/\ k.g<st.cnt k.n k.t
 extra: ∀v x,Ξ.prs v x \/bEw v x->VR (aX B S G w.heap.size) G w v x
 round: ∀l,Ξ.isRnd l-> ∃r,w.heap[l]?=some (.loop r)
 defs: ∀D,Ξ.defs D->w.heap[D]?=some (.deferred (some []))
 virt: ∀k,Ξ.virt k-> ¬G.knows k/\ k.g<st.cnt k.n k.t
theorem bCl {cs:List Val}{n:Nat}(h:VR T G w (.fp cs n) x):VR T Gh.none w (.fp cs n) x:=by
 cases h with
 |fp cs _ b base c h ht ho hv=>exact .fp cs _ b base c h ht ho hv
variable {B:Nat}{P:Program}{Ξ:Env}
theorem Rel.glob {S:Nat->Nat->Prop}{st:St}{N:Nat}{a:Act}(h:Rel P Ξ B S G st N a w):tM (aX B S G w.heap.size) w:=by
 rintro v x ⟨g,cs,h1,rfl,rfl⟩
 exact bCl (h.extra _ _ (.inr ⟨g,cs,h1,rfl,rfl⟩))
theorem tM.mono (h:tM T w)(ht: ∀b o,T b o->T' b o):tM T' w:=
 fun v x hx=>(h v x hx).mono' ⟨ht,Gh.le_refl _,fun _ _ _ _ h=>h,fun _ _ _ _ h=>h⟩
theorem aQl.mono {ds:List Deferred}(h:aQl B Ξ ds w)(m:jJ T G w T' G' w'):aQl B Ξ ds w':=
 let ⟨Ds,h1,h2,h3⟩:=h
 ⟨Ds,h1,h2,fun D hD=>let ⟨e1,e2,e3⟩:=h3 D hD;⟨e1,e2,m.defer _ _ e3⟩⟩
theorem VR.mono4 (m:zH T G w T' G' w')(h:VR T G w v x):VR T' G' w' v x:=h.mono' m
variable {e:Ent}
theorem ER.mono (m:zH T G w T' G' w')(h:ER P B T G w k e)
  (hm: ∀b,B<=b->(∃t,G.own b=some (k,t)) \/(G.own b= .none/\ ∃o,w.heap[b]?=some o)->w'.heap[b]?=w.heap[b]?/\ G'.own b=G.own b):ER P B T' G' w' k e:=by
 cases h with
 |box cs frz b c t hb hB h hs ho hv hown=>
  have h2:=hm b hB (by cases frz<;>simp at hown;exact .inl ⟨0,hown⟩;exact .inr ⟨hown,_,h⟩)
  exact .box cs frz b c t (m.g.box _ _ hb) hB (by rw[h2.1];exact h) hs ho (fun j hj=>(hv j hj).mono4 m) (by rw[h2.2];exact hown)
 |nul sz frz h=>exact .nul sz frz (m.g.blk _ _ h)
 |blk xs frz b base sz C thr c t hb hB h hC hC' hs ho hv hown hthr=>
  have h2:=hm b hB (.inl ⟨thr,hown⟩);exact .blk xs frz b base sz C thr c t (m.g.blk _ _ hb) hB (by rw[h2.1];exact h) hC hC' hs ho (fun i j hi hj=>(hv i j hi hj).mono4 (m.at k)) (by rw[h2.2];exact hown) hthr
 |full xs b base sz c hb hs h ht ho hv=>
  exact .full xs b base sz c (m.g.blk _ _ hb) hs (fun i j hi hj=>m.cell _ _ _ (ht i j hi hj) (h i j hi hj)) (fun i j hi hj=>m.t _ _ (ht i j hi hj)) ho (fun i j hi hj=>(hv i j hi hj).mono4 m.none)
 |map ks vs frz r es clock hr hB h hk hl hkv hvv hown=>
  have h2:=hm r hB (by cases frz<;>simp at hown;exact .inl ⟨0,hown⟩;exact .inr ⟨hown,_,h⟩)
  exact .map ks vs frz r es clock (m.g.mp _ _ hr) hB (by rw[h2.1];exact h) hk hl (fun i hi=>(hkv i hi).mono4 m.none) (fun i hi=>(hvv i hi).mono4 m.none) (by rw[h2.2];exact hown)
 |loop fr ps la lb st l rec I N hl hB h hps ha hb hN hpN haN hbN hf hst hown=>
  have h2:=hm l hB (.inl ⟨0,hown⟩);exact .loop fr ps la lb st l rec I N (m.g.mp _ _ hl) hB (by rw[h2.1];exact h) hps ha hb hN hpN haN hbN (fun i=>(hf i).mono4 m) hst (by rw[h2.2];exact hown)
 |iter s pos r hr hB h hown=>
  have h2:=hm r hB (.inl ⟨0,hown⟩);exact .iter s pos r (m.g.mp _ _ hr) hB (by rw[h2.1];exact h) (by rw[h2.2];exact hown)
theorem ER.knows (h:ER P B T G w k e):G.knows k:=by
 cases h with
 |box _ _ _ _ _ hb=>exact Gh.knows_box hb
 |nul _ _ h=>exact Gh.knows_blk h
 |blk _ _ _ _ _ _ _ _ _ hb=>exact Gh.knows_blk hb
 |full _ _ _ _ _ hb=>exact Gh.knows_blk hb
 |map _ _ _ _ _ _ hr=>exact Gh.knows_mp hr
 |loop _ _ _ _ _ _ _ _ _ hl=>exact Gh.knows_mp hl
 |iter _ _ _ hr=>exact Gh.knows_mp hr
end Go.Abs
namespace Go.Abs
open Go.RowKit (Below)
variable [Inhabited lX]
variable {G:Gh}{T:Nat->Nat->Prop}{v:Val}{w:World}{x:Value}
theorem VR.one (h:VR T G w v x)(h1: ∀cs,v≠ .agg cs)(h2: ∀cs,v≠ .tup cs):fK x=true:=by
 cases h<;>first|rfl|assumption|exact absurd rfl (h1 _)|exact absurd rfl (h2 _)
variable {a:Act}{d i:Nat}
theorem aZc (hd:d<a.tmps.size):
  ((a.put (some d) x).tmps.getD i undef)=if i=d then x else a.tmps.getD i undef:=by
 simp only[Act.put,bPc,bRk]
 by_cases h:d=i
 ·subst h;simp[hd]
 ·have h': ¬i=d:=fun e=>h e.symm
  simp[h,h']
variable {B N:Nat}{P:Program}{S:Nat->Nat->Prop}{st:St}{Ξ:Env}
theorem Rel.put (h:Rel P Ξ B S G st N a w)(hd:d<N)
  (hv:VR (aX B S G w.heap.size) G w v x):Rel P Ξ B S G {st with fr:=iR st.fr d v} N (a.put (some d) x) w:=by
 refine⟨h.size,by simpa[Act.put]using h.tmps,fun i=>?_,h.marks,h.ents,h.freshEn,h.freshG,h.own,h.extra,h.round,h.defs,h.virt⟩
 rw[aZc (bPo hd h.tmps)]
 by_cases hi:i=d
 ·simp[hi,iR];exact hv
 ·simp only[hi,iR,if_false];exact h.frame i
variable {b:Nat}
theorem aOc {o:Nat}{c:Value}(h:w.cell? ⟨b,o,.none⟩=some c):b<w.heap.size:=by
 simp only[World.cell?]at h
 split at h
 ·rename_i hb;exact(bQn.1 hb).1
 ·cases h
theorem dY {o:Obj}(h:w.heap[b]?=some o):b<w.heap.size:=(bQn.1 h).1
variable {w':World}
theorem pT (h:w'.heap[b]?=w.heap[b]?)(o:Nat):w'.cell? ⟨b,o,.none⟩=w.cell? ⟨b,o,.none⟩:=by
 simp only[World.cell?,h]
variable {c:Array Value}{t:TypeId}
theorem lY {f:Nat×Nat}(h:w.heap[b]?=some (.cells c t f))(o:Nat):w.cell? ⟨b,o,.none⟩=c[o]?:=by
 simp only[World.cell?,h];simp
theorem qX (hb:Below w.heap.size w w'):
  jJ (aX B S G w.heap.size) G w (aX B S G w'.heap.size) G w':=
 ⟨fun b o h=>⟨bPo h.1 hb.size,h.2⟩,G.le_refl,fun b o c _ h=>by rw[pT (hb.block b (aOc h))];exact h,
  fun r es cl _ h=>by rw[hb.block r (dY h)];exact h,fun b ds h=>by rw[hb.block b (dY h)];exact h,fun l r h=>⟨r,by rw[hb.block l (dY h)];exact h⟩⟩
variable {k:Key}
theorem aOd (hown: ∀b k t,G.own b=some (k,t)->b<w.heap.size)
  (h:(∃t,G.own b=some (k,t)) \/(G.own b= .none/\ ∃o,w.heap[b]?=some o)):b<w.heap.size:=by
 rcases h with⟨t,h⟩|⟨_,o,h⟩
 ·exact hown _ _ _ h
 ·exact dY h
theorem Rel.below (h:Rel P Ξ B S G st N a w)(hb:Below w.heap.size w w'):Rel P Ξ B S G st N a w':=by
 have m:=qX (B:=B) (S:=S) (G:=G) hb
 refine⟨bPb h.size hb.size,h.tmps,fun i=>(h.frame i).mono m,h.marks.mono m,fun k e he hkn=>(h.ents k e he hkn).mono m.four fun b _ hb'=>?_,h.freshEn,h.freshG,
  fun b k t ho=>let ⟨x,y,z⟩:=h.own b k t ho;⟨x,bPo y hb.size,z⟩,fun v x h'=>(h.extra v x h').mono m,fun l hl=>let ⟨r,hr⟩:=h.round l hl;m.loop l r hr,fun D hD=>m.defer _ _ (h.defs D hD),h.virt⟩
 exact⟨hb.block b (aOd (fun b k t ho=>(h.own b k t ho).2.1) hb'),rfl⟩
def Gh.addBox (G:Gh)(k:Key)(b:Nat):Gh:={G with box:=fun k'=>if k'=k then some b else G.box k',own:=fun b'=>if b'=b then some (k,0)else G.own b'}
def Gh.addBlk (G:Gh)(k:Key)(b base sz C thr:Nat):Gh:=
 {G with blk:=fun k'=>if k'=k then some (some (b,base,sz,C))else G.blk k',own:=fun b'=>if b'=b then some (k,thr)else G.own b'}
def Gh.addMp (G:Gh)(k:Key)(b:Nat):Gh:={G with mp:=fun k'=>if k'=k then some b else G.mp k',own:=fun b'=>if b'=b then some (k,0)else G.own b'}
def Gh.addNul (G:Gh)(k:Key):Gh:={G with blk:=fun k'=>if k'=k then some .none else G.blk k'}
def Gh.addFull (G:Gh)(k:Key)(b base sz C:Nat):Gh:={G with blk:=fun k'=>if k'=k then some (some (b,base,sz,C))else G.blk k'}
theorem Gh.le_addBox (h:G.box k= .none):G.le (G.addBox k b):=
 ⟨fun k' b' e=>by
  simp only[Gh.addBox];split
  ·rename_i hk;subst hk;rw[h]at e;cases e
  ·exact e,fun _ _ e=>e,fun _ _ e=>e⟩
variable {C base sz thr:Nat}
theorem Gh.le_addBlk (h:G.blk k= .none):G.le (G.addBlk k b base sz C thr):=
 ⟨fun _ _ e=>e,fun k' b' e=>by
  simp only[Gh.addBlk];split
  ·rename_i hk;subst hk;rw[h]at e;cases e
  ·exact e,fun _ _ e=>e⟩
theorem Gh.le_addFull (h:G.blk k= .none):G.le (G.addFull k b base sz C):=
 ⟨fun _ _ e=>e,fun k' b' e=>by
  simp only[Gh.addFull];split
  ·rename_i hk;subst hk;rw[h]at e;cases e
  ·exact e,fun _ _ e=>e⟩
theorem Gh.le_addMp (h:G.mp k= .none):G.le (G.addMp k b):=
 ⟨fun _ _ e=>e,fun _ _ e=>e,fun k' b' e=>by
  simp only[Gh.addMp];split
  ·rename_i hk;subst hk;rw[h]at e;cases e
  ·exact e⟩
theorem Gh.le_addNul (h:G.blk k= .none):G.le (G.addNul k):=
 ⟨fun _ _ e=>e,fun k' b' e=>by
  simp only[Gh.addNul];split
  ·rename_i hk;subst hk;rw[h]at e;cases e
  ·exact e,fun _ _ e=>e⟩
variable {G':Gh}{cnt':Nat->Nat->Nat}{en':En}
theorem Rel.change4 (h:Rel P Ξ B S G st N a w){Ξ':Env}{a':Act}
  (ht:a'.tmps=a.tmps) (m:zH (aX B S G w.heap.size) G w (aX B S G' w'.heap.size) G' w') (hs:w.heap.size<=w'.heap.size)
  (he: ∀k e,en' k=some e->G'.knows k->ER P B (aX B S G' w'.heap.size) G' w' k e)
  (hf: ∀k,cnt' k.n k.t<=k.g->en' k=none/\ G'.box k= .none/\ G'.blk k= .none/\ G'.mp k= .none)
  (ho: ∀b k t,G'.own b=some (k,t)->B<=b/\ b<w'.heap.size/\ k.g<cnt' k.n k.t)
  (hp: ∀v x,Ξ'.prs v x->Ξ.prs v x) (hmk:aQl B Ξ' a'.defers w') (hrd: ∀l,Ξ'.isRnd l-> ∃r,w'.heap[l]?=some (.loop r)) (hdf: ∀D,Ξ'.defs D->w'.heap[D]?=some (.deferred (some []))) (hvt: ∀k,Ξ'.virt k-> ¬G'.knows k/\ k.g<cnt' k.n k.t):
  Rel P Ξ' B S G' {fr:=st.fr,en:=en',cnt:=cnt'} N a' w':=
 ⟨bPb h.size hs,by rw[ht];exact h.tmps,fun i=>by rw[ht];exact(h.frame i).mono4 m,hmk,he,fun k hk=>(hf k hk).1,fun k hk=>(hf k hk).2,ho,fun v x h'=>(h.extra v x (h'.imp_left (hp v x))).mono4 m,hrd,hdf,hvt⟩
theorem Rel.change (h:Rel P Ξ B S G st N a w)
  (m:jJ (aX B S G w.heap.size) G w (aX B S G' w'.heap.size) G' w') (hs:w.heap.size<=w'.heap.size)
  (he: ∀k e,en' k=some e->G'.knows k->ER P B (aX B S G' w'.heap.size) G' w' k e)
  (hf: ∀k,cnt' k.n k.t<=k.g->en' k=none/\ G'.box k= .none/\ G'.blk k= .none/\ G'.mp k= .none)
  (ho: ∀b k t,G'.own b=some (k,t)->B<=b/\ b<w'.heap.size/\ k.g<cnt' k.n k.t) (hvt: ∀k,Ξ.virt k-> ¬G'.knows k/\ k.g<cnt' k.n k.t):Rel P Ξ B S G' {fr:=st.fr,en:=en',cnt:=cnt'} N a w':=
 ⟨bPb h.size hs,h.tmps,fun i=>(h.frame i).mono m,h.marks.mono m,he,fun k hk=>(hf k hk).1,fun k hk=>(hf k hk).2,ho,fun v x h'=>(h.extra v x h').mono m,fun l hl=>let ⟨r,hr⟩:=h.round l hl;m.loop l r hr,fun D hD=>m.defer _ _ (h.defs D hD),hvt⟩
theorem size_alloc (w:World)(o:Obj):(w.alloc o).heap.size=w.heap.size+1:=World.size_alloc w o
theorem kT (w:World)(o:Obj)(h:b<w.heap.size):(w.alloc o).heap[b]?=w.heap[b]?:=Below.heap_alloc w o b h
theorem fF (w:World)(o:Obj):(w.alloc o).heap[w.heap.size]?=some o:=by
 show(w.heap.push o)[w.heap.size]?=_;simp
theorem oU {o:Obj}(hg:G.le G')(ho: ∀b,b≠w.heap.size->G'.own b=G.own b):
  jJ (aX B S G w.heap.size) G w (aX B S G' (w.alloc o).heap.size) G' (w.alloc o):=by
 refine⟨fun b o' h=>?_,hg,fun b o' c _ h=>?_,fun r es cl _ h=>?_,fun b ds h=>by rw[kT w o (dY h)];exact h,fun l r h=>⟨r,by rw[kT w o (dY h)];exact h⟩⟩
 ·refine⟨by rw[size_alloc];exact Nat.lt_succ_of_lt h.1,?_⟩
  rw[ho b (Nat.ne_of_lt h.1)];exact h.2
 ·rw[pT (kT w o (aOc h))];exact h
 ·rw[kT w o (dY h)];exact h
variable {cnt:Nat->Nat->Nat}{n:Nat}
theorem nZ {t:Nat}(n' t':Nat):cnt n' t'<=aC cnt n t (cnt n t+1) n' t':=by
 unfold aC;split
 ·rename_i h;obtain⟨rfl,rfl⟩:=h;omega
 ·exact bOy _
theorem mG {t:Nat}:aC cnt n t (cnt n t+1) n t=cnt n t+1:=by simp[aC]
theorem Gh.knows_of {nk:Key}(hk: ∀k,k≠nk->G'.box k=G.box k/\ G'.blk k=G.blk k/\ G'.mp k=G.mp k)(hne:k≠nk)(h:G'.knows k):G.knows k:=by
 obtain⟨j1,j2,j3⟩:=hk k hne;unfold Gh.knows at h⊢;rwa [j1,j2,j3]at h
theorem Rel.virtAt (h:Rel P Ξ B S G st N a w){q:Nat}(hk: ∀k,k≠⟨q,d,st.cnt q d⟩->G'.box k=G.box k/\ G'.blk k=G.blk k/\ G'.mp k=G.mp k):
  ∀k,Ξ.virt k-> ¬G'.knows k/\ k.g<aC st.cnt q d (st.cnt q d+1) k.n k.t:=fun k hv=>by
 obtain⟨v1,v2⟩:=h.virt k hv;have hne:k≠⟨q,d,st.cnt q d⟩:=by rintro rfl;exact Nat.lt_irrefl _ v2
 exact⟨fun hkn=>v1 (Gh.knows_of hk hne hkn),bPo v2 (nZ _ _)⟩
theorem VR.knows_bl {o l:Nat}(h:VR T G w (.bl k o l) x):G.knows k:=by
 cases h with
 |bl0 _ _ h=>exact Gh.knows_blk h
 |bl _ _ _ _ _ _ _ h=>exact Gh.knows_blk h
 |ble _ _ _ _ _ _ h=>exact Gh.knows_blk h
theorem Rel.allocN (h:Rel P Ξ B S G st N a w)(q d:Nat)(o:Obj)(e:Ent)(G':Gh)
  (hg:G.le G') (ho: ∀b,b≠w.heap.size->G'.own b=G.own b)
  (hk: ∀k,k≠⟨q,d,st.cnt q d⟩->G'.box k=G.box k/\ G'.blk k=G.blk k/\ G'.mp k=G.mp k)
  (hn: ∀k t,G'.own w.heap.size=some (k,t)->k=⟨q,d,st.cnt q d⟩)
  (he:ER P B (aX B S G' (w.alloc o).heap.size) G' (w.alloc o) ⟨q,d,st.cnt q d⟩ e):
  Rel P Ξ B S G' {fr:=st.fr,en:=st.en.set ⟨q,d,st.cnt q d⟩ (some e),cnt:=aC st.cnt q d (st.cnt q d+1)} N a (w.alloc o):=by
 have m:=oU (B:=B) (S:=S) (w:=w) (o:=o) hg ho
 refine h.change m (by rw[size_alloc];omega) (fun k e' hk' hkn=>?_) (fun k hk'=>?_) (fun b k t hb=>?_) (fun k hv=>?_)
 ·simp only[En.set]at hk'
  split at hk'
  ·rename_i heq;subst heq;simp only[bOw]at hk';subst hk';exact he
  ·rename_i hne;obtain⟨j1,j2,j3⟩:=hk k hne
   refine(h.ents k e' hk' (by unfold Gh.knows at hkn⊢;rwa [j1,j2,j3]at hkn)).mono m.four fun b _ hb=>?_
   have hlt:=aOd (fun b k t ho=>(h.own b k t ho).2.1) hb
   exact⟨kT w o hlt,ho b (Nat.ne_of_lt hlt)⟩
 ·have hne:k≠⟨q,d,st.cnt q d⟩:=by
   rintro rfl
   simp only[mG]at hk';omega
  have hle:st.cnt k.n k.t<=k.g:=bPb (nZ _ _) hk';obtain⟨h1,h2,h3⟩:=hk k hne;obtain⟨f1,f2,f3⟩:=h.freshG k hle
  refine⟨?_,by rw[h1];exact f1,by rw[h2];exact f2,by rw[h3];exact f3⟩
  simp only[En.set,if_neg hne];exact h.freshEn k hle
 ·by_cases hb':b=w.heap.size
  ·subst hb';have:=hn k t hb;subst this;exact⟨h.size,by rw[size_alloc];omega,by simp only[mG];omega⟩
  ·rw[ho b hb']at hb;obtain⟨h1,h2,h3⟩:=h.own b k t hb;exact⟨h1,by rw[size_alloc];omega,bPo h3 (nZ _ _)⟩
 ·obtain⟨v1,v2⟩:=h.virt k hv;have hne:k≠⟨q,d,st.cnt q d⟩:=by rintro rfl;exact Nat.lt_irrefl _ v2
  obtain⟨j1,j2,j3⟩:=hk k hne;exact⟨fun hkn=>v1 (by unfold Gh.knows at hkn⊢;rwa [j1,j2,j3]at hkn),bPo v2 (nZ _ _)⟩
theorem Rel.alloc (h:Rel P Ξ B S G st N a w)(d:Nat)(o:Obj)(e:Ent)(G':Gh)
  (hg:G.le G') (ho: ∀b,b≠w.heap.size->G'.own b=G.own b)
  (hk: ∀k,k≠⟨0,d,st.cnt 0 d⟩->G'.box k=G.box k/\ G'.blk k=G.blk k/\ G'.mp k=G.mp k)
  (hn: ∀k t,G'.own w.heap.size=some (k,t)->k=⟨0,d,st.cnt 0 d⟩)
  (he:ER P B (aX B S G' (w.alloc o).heap.size) G' (w.alloc o) ⟨0,d,st.cnt 0 d⟩ e):
  Rel P Ξ B S G' {fr:=st.fr,en:=st.en.set ⟨0,d,st.cnt 0 d⟩ (some e),cnt:=aC st.cnt 0 d (st.cnt 0 d+1)} N a (w.alloc o):=h.allocN 0 d o e G' hg ho hk hn he
def kG (w:World)(b:Nat)(o:Obj):World:={w with heap:=w.heap.setIfInBounds b o}
theorem nH (w:World)(b:Nat)(o:Obj):(kG w b o).heap.size=w.heap.size:=by simp[kG]
theorem kU (o:Obj)(h:b<w.heap.size):(kG w b o).heap[b]?=some o:=by simp[kG,bRk,h]
variable {b':Nat}
theorem fB (o:Obj)(h:b'≠b):(kG w b o).heap[b']?=w.heap[b']?:=by
 have hb: ¬b=b':=fun e=>h e.symm
 simp[kG,bRk,hb]
variable {o':Obj}
theorem aWw {o:Obj}(hB:B<=b)(hown:G.own b=some (k,thr))(ho:w.heap[b]?=some o)
  (hm: ∀es cl,o≠ .map es cl \/0≥thr) (hnd: ∀ds,o≠ .deferred ds) (hnl: ∀r,o= .loop r-> ∃r',o'= .loop r')
  (hc: ∀off,off<thr->(kG w b o').cell? ⟨b,off,.none⟩=w.cell? ⟨b,off,.none⟩):
  jJ (aX B S G w.heap.size) G w (aX B S G (kG w b o').heap.size) G (kG w b o'):=by
 have hs: ∀b' o'',aX B S G w.heap.size b' o''->b'=b->o''<thr:=by
  rintro b' o'' ⟨_,h⟩ rfl
  rcases h with⟨h,_⟩|⟨_,h⟩
  ·omega
  ·rw[hown]at h;exact h
 refine⟨fun b' o'' h=>by rw[nH];exact h,G.le_refl,fun b' o'' c h hc'=>?_,fun r es cl h hr=>?_,fun b' ds h=>?_,fun b' r h=>?_⟩
 ·by_cases hb:b'=b
  ·subst hb;rw[hc _ (hs _ _ h rfl)];exact hc'
  ·rw[pT (fB o' hb)];exact hc'
 ·by_cases hb:r=b
  ·subst hb;have h0:=hs _ _ h rfl;rw[ho]at hr;simp only[bOw]at hr;rcases hm es cl with h1|h1
   ·exact absurd hr h1
   ·omega
  ·rw[fB o' hb];exact hr
 ·by_cases hb:b'=b
  ·subst hb;rw[ho]at h;exact absurd (Option.some.inj h) (hnd ds)
  ·rw[fB o' hb];exact h
 ·by_cases hb:b'=b
  ·subst hb;rw[ho]at h;obtain⟨r',e1⟩:=hnl r (Option.some.inj h);exact⟨r',by rw[kU _ (dY ho),e1]⟩
  ·exact⟨r,by rw[fB o' hb];exact h⟩
theorem Rel.write (h:Rel P Ξ B S G st N a w){o:Obj}{e':Ent}
  (hown:G.own b=some (k,thr)) (ho:w.heap[b]?=some o) (hm: ∀es cl,o≠ .map es cl \/0≥thr) (hnd: ∀ds,o≠ .deferred ds) (hnl: ∀r,o= .loop r-> ∃r',o'= .loop r')
  (hc: ∀off,off<thr->(kG w b o').cell? ⟨b,off,.none⟩=w.cell? ⟨b,off,.none⟩)
  (he:jJ (aX B S G w.heap.size) G w (aX B S G (kG w b o').heap.size) G (kG w b o')->ER P B (aX B S G (kG w b o').heap.size) G (kG w b o') k e'):
  Rel P Ξ B S G {st with en:=st.en.set k (some e')} N a (kG w b o'):=by
 obtain⟨hB,hlt,hk⟩:=h.own b k thr hown;have m:=aWw (S:=S) (o':=o') hB hown ho hm hnd hnl hc
 refine h.change m (by rw[nH];exact bOy _) (fun k' e hk' hkn=>?_) (fun k' hk'=>?_) (fun b' k' t hb'=>by rw[nH];exact h.own b' k' t hb') h.virt
 ·simp only[En.set]at hk'
  split at hk'
  ·rename_i heq;subst heq;simp only[bOw]at hk';subst hk';exact he m
  ·rename_i hne
   refine(h.ents k' e hk' hkn).mono m.four fun b' _ hb'=>?_
   have hb:b'≠b:=by
    rintro rfl
    rcases hb' with⟨t,hb'⟩|⟨hb',_⟩
    ·rw[hown]at hb';simp only[bOw,bO1]at hb';exact hne hb'.1.symm
    ·rw[hown]at hb';cases hb'
   exact⟨fB o' hb,rfl⟩
 ·refine⟨?_,h.freshG k' hk'⟩
  have hne:k'≠k:=by rintro rfl;omega
  simp only[En.set,if_neg hne];exact h.freshEn k' hk'
def wr (c:Array Value)(o:Nat):List Value->Array Value
 |[]=>c
 |v::vs=>wr (c.setIfInBounds o v) (o+1) vs
theorem aD7 : ∀(vs:List Value) (c:Array Value) (o:Nat),(wr c o vs).size=c.size
 |[],_,_=>rfl
 |v::vs,c,o=>by rw[wr,aD7];simp
theorem aC3 : ∀(vs:List Value) (c:Array Value) (o i:Nat),o+vs.length<=c.size->(wr c o vs)[i]?=if o<=i/\ i<o+vs.length then vs[i-o]? else c[i]?
 |[],c,o,i,_=>by simp[wr];omega
 |v::vs,c,o,i,h=>by
  simp only[bO7]at h;rw[wr,aC3 vs _ _ _ (by simp;omega)]
  by_cases h1:o+1<=i/\ i<o+1+vs.length
  ·rw[if_pos h1,if_pos (by simp;omega),show i-o=(i-(o+1))+1 by omega,bR9]
  ·rw[if_neg h1]
   by_cases h2:i=o
   ·subst h2;rw[if_pos (by simp)];simp[bRk];omega
   ·have h3: ¬o=i:=fun e=>h2 e.symm
    rw[if_neg (by simp;omega)];simp[bRk,h3]
theorem aG0 {o:Nat}(v:Value)(h:w.heap[b]?=some (.cells c t (0,0))):
  w.setCell ⟨b,o,.none⟩ v=kG w b (.cells (c.setIfInBounds o v) t (0,0)):=by
 unfold World.setCell kG
 congr 1
 apply Array.ext_getElem?;intro i;rw[Array.getElem?_modify,bRk];have hb:=(bQn.1 h).1
 by_cases hi:b=i
 ·subst hi;have h2:=(bQn.1 h).2;simp[hb,h2]
 ·simp[hi]
theorem aMp (w:World)(b:Nat)(o o':Obj):kG (kG w b o) b o'=kG w b o':=by
 simp[kG]
theorem aVv {o:Obj}(h:w.heap[b]?=some o):kG w b o=w:=by
 obtain⟨hb,h2⟩:=bQn.1 h;have:w.heap.setIfInBounds b o=w.heap:=by
  apply Array.ext_getElem?;intro i;rw[bRk]
  by_cases hi:b=i
  ·subst hi;simp[hb,h2]
  ·simp[hi]
 unfold kG;rw[this]
theorem aI1 {v:Value}(h:fK v=true):v.oneCell'=true:=by cases v<;>first|rfl|cases h
theorem zX (P:Program): ∀(vs:List Value) (w:World) (b o i:Nat) (c:Array Value) (t:TypeId),w.heap[b]?=some (.cells c t (0,0))->(∀v∈vs,fK v=true)->
  o+i+vs.length<=c.size->(storeCells ⟨b,o,.none⟩ vs i).run P w= .ok () (kG w b (.cells (wr c (o+i) vs) t (0,0)))
 |[],w,b,o,i,c,t,h,_,_=>by simp[storeCells,wr,aVv h]
 |v::vs,w,b,o,i,c,t,h,hv,hl=>by
  simp only[bO7]at hl;have hadd:(⟨b,o,.none⟩:Addr).add i=⟨b,o+i,.none⟩:=by
   by_cases hi:i=0
   ·subst hi;simp[Addr.add]
   ·simp[Addr.add,hi]
  have hcell:w.cell? ⟨b,o+i,.none⟩=some (c[o+i]'(by omega)):=by rw[lY h];simp
  have hfr:w.frozen? ⟨b,o+i,.none⟩=false:=by simp[World.frozen?,h]
  have hs:=aG0 (o:=o+i) v h;have hb:=dY h;simp only[storeCells,hadd,Sem.run_bind,run_store P w _ v .plain (aI1 (hv v (by simp))),hcell,hfr,hs,bO0,if_false,Result.andThen_ok]
  rw[zX P vs _ b o (i+1) (c.setIfInBounds (o+i) v) t (by rw[kU _ hb]) (fun x hx=>hv x (by simp[hx])) (by simp;omega),aMp]
  rfl
theorem aD8 {ty:TypeId}{o:Nat}(h:w.heap[b]?=some (.cells c ty (0,0)))
  (hi: ∃i,P.info? t=some i) (hn:x.cells.size=P.cellsOf t) (ho: ∀i,i<x.cells.size->fK (x.cells.getD i undef)=true) (hl:o+x.cells.size<=c.size):
  (storeVar t ⟨b,o,.none⟩ x).run P w= .ok () (kG w b (.cells (wr c o x.cells.toList) ty (0,0))):=by
 obtain⟨i,hi⟩:=hi;have hsz:(sizeOf t).run P w= .ok (P.cellsOf t) w:=by simp[sizeOf,typeInfo,hi,Program.cellsOf]
 simp only[storeVar,Sem.run_bind,hsz,Result.andThen_ok,hn,ne_eq,not_true,if_false]
 refine(zX P _ _ _ _ _ _ _ h (fun v hv=>?_) (by simpa using hl)).trans (by simp)
 obtain⟨j,hj,rfl⟩:=List.mem_iff_getElem.1 hv;have:=ho j (by simpa using hj)
 simpa[bPc,show j<x.cells.size by simpa using hj]using this
def Gh.disown (G:Gh)(b:Nat):Gh:={G with own:=fun b'=>if b'=b then .none else G.own b'}
def Gh.raise (G:Gh)(b:Nat)(k:Key)(thr:Nat):Gh:={G with own:=fun b'=>if b'=b then some (k,thr)else G.own b'}
def Cov (T:Nat->Nat->Prop)(G:Gh)(k:Key):Ent->Prop
 | .box cs _=> ∀b,G.box k=some b-> ∀j,j<cs.length->T b j
 | .blk _ xs _=> ∀b base sz C,G.blk k=some (some (b,base,sz,C))-> ∀i j,i<xs.length->j<sz->T b (base+i*sz+j)
 | .map _ _ _=> ∀r,G.mp k=some r->T r 0
 | .loop _ _ _ _ _=>True
 | .iter _ _=>True
variable {e:Ent}
theorem Cov.freeze (h:Cov T G k e):Cov T G k e.freeze:=by cases e<;>exact h
theorem aG1 {o:Nat}(h:aX B S G n b' o):aX B S (G.disown b) n b' o:=by
 refine⟨h.1,h.2.imp id fun⟨h1,h2⟩=>⟨h1,?_⟩⟩
 simp only[Gh.disown]
 by_cases hb:b'=b
 ·simp[hb]
 ·simpa[hb]using h2
theorem aTx {o thr':Nat}(hk:G.own b=some (k,thr))(ht:thr<=thr')(h:aX B S G n b' o):
  aX B S (G.raise b k thr') n b' o:=by
 refine⟨h.1,h.2.imp id fun⟨h1,h2⟩=>⟨h1,?_⟩⟩
 simp only[Gh.raise]
 by_cases hb:b'=b
 ·subst hb;rw[hk]at h2;simp at h2⊢;omega
 ·simpa[hb]using h2
theorem Rel.freeze1 (h:Rel P Ξ B S G st N a w)(he:st.en k=some e):
  ∃G',Rel P Ξ B S G' {st with en:=st.en.set k (some e.freeze)} N a w/\ jJ (aX B S G w.heap.size) G w (aX B S G' w.heap.size) G' w/\ G'.box=G.box/\ G'.blk=G.blk/\ G'.mp=G.mp/\
   Cov (aX B S G' w.heap.size) G' k e:=by
 have hk:k.g<st.cnt k.n k.t:=by
  rcases bP4 k.g (st.cnt k.n k.t)with h1|h1
  ·exact h1
  ·rw[h.freshEn k h1]at he;cases he
 have fin: ∀(G':Gh),jJ (aX B S G w.heap.size) G w (aX B S G' w.heap.size) G' w->G'.box=G.box->G'.blk=G.blk->G'.mp=G.mp->
   (∀b,(¬ ∃t,G.own b=some (k,t))->G'.own b=G.own b)->(∀b k' t,G'.own b=some (k',t)-> ∃t',G.own b=some (k',t'))->
   (G.knows k->ER P B (aX B S G' w.heap.size) G' w k e.freeze)->Rel P Ξ B S G' {st with en:=st.en.set k (some e.freeze)} N a w:=by
  intro G' m e1 e2 e3 ho ho' hE;have ekn: ∀k,G'.knows k↔G.knows k:=fun k=>by unfold Gh.knows;rw[e1,e2,e3]
  refine h.change m (bOy _) (fun k' e' hk' hkn=>?_) (fun k' hk'=>?_) (fun b k' t hb=>let ⟨t',hb'⟩:=ho' b k' t hb;h.own b k' t' hb') (fun k hv=>⟨fun hkn=>(h.virt k hv).1 ((ekn k).1 hkn),(h.virt k hv).2⟩)
  ·simp only[En.set]at hk'
   split at hk'
   ·rename_i heq;subst heq;simp only[bOw]at hk';subst hk';exact hE ((ekn _).1 hkn)
   ·rename_i hne
    refine(h.ents k' e' hk' ((ekn _).1 hkn)).mono m.four fun b' _ hb'=>⟨rfl,ho b' ?_⟩
    rintro⟨t,ht⟩
    rcases hb' with⟨t',hb'⟩|⟨hb',_⟩
    ·rw[ht]at hb';simp only[bOw,bO1]at hb';exact hne hb'.1.symm
    ·rw[ht]at hb';cases hb'
  ·obtain⟨f1,f2,f3⟩:=h.freshG k' hk'
   refine⟨?_,by rw[e1];exact f1,by rw[e2];exact f2,by rw[e3];exact f3⟩
   have hne:k'≠k:=by rintro rfl;omega
   simp only[En.set,if_neg hne];exact h.freshEn k' hk'
 by_cases hkn:G.knows k
 case neg=>
  have m:=jJ.refl (aX B S G w.heap.size) G w;obtain⟨u1,u2,u3⟩:=Gh.not_knows hkn
  refine⟨G,fin G m rfl rfl rfl (fun _ _=>rfl) (fun b k' t hb=>⟨t,hb⟩) (fun h=>absurd h hkn),m,rfl,rfl,rfl,?_⟩
  cases e with
  |box cs f=>intro b hb;rw[u1]at hb;cases hb
  |blk sz xs f=>intro b base sz C hb;rw[u2]at hb;cases hb
  |map ks vs f=>intro r hr;rw[u3]at hr;cases hr
  |loop=>trivial
  |iter=>trivial
 have hE:=h.ents k e he hkn;cases hE with
 |box cs frz b c t hb hB hh hs ho hv hown=>
  have m:jJ (aX B S G w.heap.size) G w (aX B S (G.disown b) w.heap.size) (G.disown b) w:=⟨fun _ _=>aG1,⟨fun _ _ e=>e,fun _ _ e=>e,fun _ _ e=>e⟩,fun _ _ _ _ e=>e,fun _ _ _ _ e=>e,fun _ _ e=>e,fun _ r e=>⟨r,e⟩⟩
  refine⟨G.disown b,fin _ m rfl rfl rfl (fun b' hb'=>?_) (fun b' k' t' hb'=>?_) ?_,m,rfl,rfl,rfl,?_⟩
  ·simp only[Gh.disown];split
   ·rename_i e;subst e;cases frz
    ·exact absurd ⟨0,hown⟩ hb'
    ·exact hown.symm
   ·rfl
  ·simp only[Gh.disown]at hb';split at hb'
   ·cases hb'
   ·exact⟨t',hb'⟩
  ·exact fun _=> .box cs true b c t hb hB hh hs ho (fun j hj=>(hv j hj).mono m) (by simp[Gh.disown])
  ·intro b' hb' j hj;have:b'=b:=by rw[show(G.disown b).box k=G.box k from rfl,hb]at hb';exact(Option.some.inj hb').symm
   subst this;exact⟨dY hh,.inr ⟨hB,by simp[Gh.disown]⟩⟩
 |nul sz frz hn=>
  have m:=jJ.refl (aX B S G w.heap.size) G w
  refine⟨G,fin G m rfl rfl rfl (fun _ _=>rfl) (fun b k' t hb=>⟨t,hb⟩) (fun _=> .nul sz true hn),m,rfl,rfl,rfl,?_⟩
  intro b base sz C _ i j hi;simp at hi
 |blk xs frz b base sz C thr c t hb hB hh hC hC' hs ho hv hown hthr=>
  have hle:thr<=base+xs.length*sz:=by subst hthr;split<;>omega
  have m:jJ (aX B S G w.heap.size) G w (aX B S (G.raise b k (base+xs.length*sz)) w.heap.size) (G.raise b k (base+xs.length*sz)) w:=
   ⟨fun _ _=>aTx hown hle,⟨fun _ _ e=>e,fun _ _ e=>e,fun _ _ e=>e⟩,fun _ _ _ _ e=>e,fun _ _ _ _ e=>e,fun _ _ e=>e,fun _ r e=>⟨r,e⟩⟩
  refine⟨G.raise b k (base+xs.length*sz),fin _ m rfl rfl rfl (fun b' hb'=>?_) (fun b' k' t' hb'=>?_) ?_,m,rfl,rfl,rfl,?_⟩
  ·simp only[Gh.raise];split
   ·rename_i e;subst e;exact absurd ⟨thr,hown⟩ hb'
   ·rfl
  ·simp only[Gh.raise]at hb';split at hb'
   ·rename_i e;subst e;simp only[bOw,bO1]at hb';rw[<-hb'.1];exact⟨thr,hown⟩
   ·exact⟨t',hb'⟩
  ·exact fun _=> .blk xs true b base sz C (base+xs.length*sz) c t hb hB hh hC hC' hs ho (fun i j hi hj=>(hv i j hi hj).mono (m.atq k.n)) (by simp[Gh.raise]) rfl
  ·intro b' base' sz' C' hb' i j hi hj;have:(b',base',sz',C')=(b,base,sz,C):=by rw[show(G.raise b k (base+xs.length*sz)).blk k=G.blk k from rfl,hb]at hb';exact(Option.some.inj (Option.some.inj hb')).symm
   simp only[bO1]at this;obtain⟨rfl,rfl,rfl,rfl⟩:=this
   refine⟨dY hh,.inr ⟨hB,?_⟩⟩
   simp only[Gh.raise,if_true];have:i*sz'+sz'<=xs.length*sz':=by rw[<-bQl];exact bP5 _ hi
   omega
 |loop fr ps la lb s l rec I N' hl hB hh hps ha hb hN hpN haN hbN hf hst hown=>
  have m:=jJ.refl (aX B S G w.heap.size) G w;exact⟨G,fin G m rfl rfl rfl (fun _ _=>rfl) (fun b k' t hb=>⟨t,hb⟩) (fun _=> .loop fr ps la lb s l rec I N' hl hB hh hps ha hb hN hpN haN hbN hf hst hown),m,rfl,rfl,rfl,trivial⟩
 |iter s pos r hr hB hh hown=>
  have m:=jJ.refl (aX B S G w.heap.size) G w;exact⟨G,fin G m rfl rfl rfl (fun _ _=>rfl) (fun b k' t hb=>⟨t,hb⟩) (fun _=> .iter s pos r hr hB hh hown),m,rfl,rfl,rfl,trivial⟩
 |full xs b base sz c hb hs hh ht ho hv=>
  have m:=jJ.refl (aX B S G w.heap.size) G w
  refine⟨G,fin G m rfl rfl rfl (fun _ _=>rfl) (fun b k' t hb=>⟨t,hb⟩) (fun _=> .full xs b base sz c hb hs hh ht ho hv),m,rfl,rfl,rfl,?_⟩
  intro b' base' sz' C' hb' i j hi hj;have:(b',base',sz',C')=(b,base,sz,xs.length):=by rw[hb]at hb';exact(Option.some.inj (Option.some.inj hb')).symm
  simp only[bO1]at this;obtain⟨rfl,rfl,rfl,rfl⟩:=this;exact ht i j hi hj
 |map ks vs frz r es clock hr hB hh hkk hl hkv hvv hown=>
  have m:jJ (aX B S G w.heap.size) G w (aX B S (G.disown r) w.heap.size) (G.disown r) w:=⟨fun _ _=>aG1,⟨fun _ _ e=>e,fun _ _ e=>e,fun _ _ e=>e⟩,fun _ _ _ _ e=>e,fun _ _ _ _ e=>e,fun _ _ e=>e,fun _ r e=>⟨r,e⟩⟩
  refine⟨G.disown r,fin _ m rfl rfl rfl (fun b' hb'=>?_) (fun b' k' t' hb'=>?_) ?_,m,rfl,rfl,rfl,?_⟩
  ·simp only[Gh.disown];split
   ·rename_i e;subst e;cases frz
    ·exact absurd ⟨0,hown⟩ hb'
    ·exact hown.symm
   ·rfl
  ·simp only[Gh.disown]at hb';split at hb'
   ·cases hb'
   ·exact⟨t',hb'⟩
  ·exact fun _=> .map ks vs true r es clock hr hB hh hkk hl (fun i hi=>(hkv i hi).mono m.none) (fun i hi=>(hvv i hi).mono m.none) (by simp[Gh.disown])
  ·intro b' hb';have:b'=r:=by rw[show(G.disown r).mp k=G.mp k from rfl,hr]at hb';exact(Option.some.inj hb').symm
   subst this;exact⟨dY hh,.inr ⟨hB,by simp[Gh.disown]⟩⟩
variable {T':Nat->Nat->Prop}
theorem Cov.mono (ht: ∀b o,T b o->T' b o)(hb:G'.box=G.box)(hk:G'.blk=G.blk)(hm:G'.mp=G.mp)(h:Cov T G k e):Cov T' G' k e:=by
 cases e with
 |box cs f=>intro b hb' j hj;rw[hb]at hb';exact ht _ _ (h b hb' j hj)
 |blk sz0 xs f=>intro b base sz C hb' i j hi hj;rw[hk]at hb';exact ht _ _ (h b base sz C hb' i j hi hj)
 |map ks vs f=>intro r hr;rw[hm]at hr;exact ht _ _ (h r hr)
 |loop=>trivial
 |iter=>trivial
theorem Rel.freezeAll (ks:List Key): ∀{G:Gh} {st:St},Rel P Ξ B S G st N a w->
  ∃G',Rel P Ξ B S G' {st with en:=W.applyAll st.en (ks.map .frz)} N a w/\ jJ (aX B S G w.heap.size) G w (aX B S G' w.heap.size) G' w/\ G'.box=G.box/\ G'.blk=G.blk/\ G'.mp=G.mp/\
   ∀k∈ks,∀e,st.en k=some e->Cov (aX B S G' w.heap.size) G' k e:=by
 induction ks with
 |nil=>intro G st h;exact⟨G,h,jJ.refl _ _ _,rfl,rfl,rfl,fun k hk=>by cases hk⟩
 |cons k ks ih=>
  intro G st h;have step: ∃G1,Rel P Ξ B S G1 {st with en:=W.apply st.en (.frz k)} N a w/\ jJ (aX B S G w.heap.size) G w (aX B S G1 w.heap.size) G1 w/\ G1.box=G.box/\ G1.blk=G.blk/\ G1.mp=G.mp/\
    (∀e,st.en k=some e->Cov (aX B S G1 w.heap.size) G1 k e):=by
   cases he:st.en k with
   |none=>refine⟨G,?_,jJ.refl _ _ _,rfl,rfl,rfl,fun e h=>by cases h⟩;simp only[W.apply,he];exact h
   |some e=>
    obtain⟨G1,h1,m1,e1,e2,e3,c1⟩:=h.freeze1 he
    refine⟨G1,?_,m1,e1,e2,e3,fun e' h=>by cases h;exact c1⟩
    simp only[W.apply,he];exact h1
  obtain⟨G1,h1,m1,e1,e2,e3,c1⟩:=step;obtain⟨G2,h2,m2,f1,f2,f3,c2⟩:=ih h1
  refine⟨G2,h2,m1.trans m2,f1.trans e1,f2.trans e2,f3.trans e3,fun k' hk' e he=>?_⟩
  rcases bP0.1 hk' with rfl|hk'
  ·exact(c1 e he).mono m2.t f1 f2 f3
  ·by_cases hkk:k'=k
   ·subst hkk;exact(c1 e he).mono m2.t f1 f2 f3
   ·refine c2 k' hk' e ?_
    simp only[W.apply];cases hk0:st.en k with
    |none=>exact he
    |some e0=>simp only[En.set,if_neg hkk];exact he
theorem eR {α β:Type}{f:α->Option β}: ∀{l:List α} {r:List β},cU f l=some r->r.length=l.length/\ ∀(i:Nat) (h:i<l.length) (h':i<r.length),f l[i]=some r[i]
 |[],r,h=>by simp only[cU,bOw]at h;subst h;exact⟨rfl,fun i h=>by simp at h⟩
 |x::xs,r,h=>by
  simp only[cU]at h
  split at h
  ·rename_i y hy
   split at h
   ·rename_i ys hys;simp only[bOw]at h;subst h;obtain⟨h1,h2⟩:=eR hys
    refine⟨by simp[h1],fun i hi hi'=>?_⟩
    cases i with
    |zero=>simpa using hy
    |succ i=>simpa using h2 i (by simpa using hi) (by simpa using hi')
   ·cases h
  ·cases h
variable {en:En}
theorem tN {vs:List Val}{rs:List (Val×List Key)}(h:cU (snap n en) vs=some rs):
  (rs.map (·.1)).length=vs.length/\ ∀i,i<vs.length-> ∃ks,snap n en (vs.getD i .dead)=some ((rs.map (·.1)).getD i .dead,ks)/\ ∀k∈ks,k∈rs.flatMap (·.2):=by
 obtain⟨h1,h2⟩:=eR h
 refine⟨by simp[h1],fun i hi=>?_⟩
 have hi':i<rs.length:=by omega
 refine⟨rs[i].2,?_,fun k hk=>bQa.2 ⟨rs[i],bO6 hi',hk⟩⟩
 have:=h2 i hi hi';simp[bO2,hi,hi',this]
variable {xs:List Val}
theorem aD9 {x:Val}(h:xs[i]?=some x):i<xs.length/\ xs.getD i .dead=x:=by
 obtain⟨h1,h2⟩:=bSe.1 h;exact⟨h1,by simp[bO2,h1,h2]⟩
variable {len off:Nat}
theorem kV (hi:i<len)(h:off+len<=xs.length):((xs.drop off).take len).getD i .dead=xs.getD (off+i) .dead:=by
 simp only[bO2,List.getElem?_take,bR1,hi,if_true]
structure aWx (T:Nat->Nat->Prop) (w:World) (xs:List Val) (b base sz:Nat):Prop where
 hs: ∀i,i<xs.length->(xs.getD i .dead).cells.length=sz
 h: ∀i j,i<xs.length->j<sz-> ∃c,w.cell? ⟨b,base+i*sz+j,.none⟩=some c/\ T b (base+i*sz+j)/\ fK c=true/\ VR T Gh.none w ((xs.getD i .dead).cells.getD j .dead) c
variable {frz:Bool}{sz0:Nat}
theorem ER.held (h:ER P B T G w k (.blk sz0 xs frz))(m:jJ T G w T' G' w)
  (hb:G.blk k=some (some (b,base,sz,C))) (hc:Cov T' G k (.blk sz0 xs frz)) (hd:k.deep=false):aWx T' w xs b base sz:=by
 cases h with
 |nul _ frz h=>exact⟨fun i hi=>by simp at hi,fun i j hi=>by simp at hi⟩
 |blk xs frz b1 base1 sz0 C1 thr c t hb1 hB hh hC hC' hs ho hv hown hthr=>
  rw[hb1]at hb;simp only[bOw,bO1]at hb;obtain⟨rfl,rfl,rfl,rfl⟩:=hb
  refine⟨hs,fun i j hi hj=>?_⟩
  have hlt:base1+i*sz0+j<c.size:=by
   have:i*sz0+sz0<=C1*sz0:=by rw[<-bQl];exact bP5 _ (by omega)
   omega
  rw[Gh.at_none hd]at hv
  refine⟨c.getD (base1+i*sz0+j) undef,?_,hc _ _ _ _ hb1 i j hi hj,ho i j hi hj,(hv i j hi hj).mono m.none⟩
  rw[lY hh];simp[bPc,hlt]
 |full xs b1 base1 sz0 c hb1 hs hh ht ho hv=>
  rw[hb1]at hb;simp only[bOw,bO1]at hb;obtain⟨rfl,rfl,rfl,rfl⟩:=hb;exact⟨hs,fun i j hi hj=>⟨c i j,hh i j hi hj,hc _ _ _ _ hb1 i j hi hj,ho i j hi hj,(hv i j hi hj).mono m.none⟩⟩
variable {cap:Nat}
theorem aWx.slice (h:aWx T w xs b base sz)(hl:off+len<=xs.length)(hc:len<=cap):
  VR T G w (.fz ((xs.drop off).take len)) (.slice (some ⟨b,base+off*sz,.none⟩) len cap):=by
 have hlen:((xs.drop off).take len).length=len:=by simp;omega
 have hget: ∀i j,i<len->j<sz-> ∃c,w.cell? ⟨b,base+off*sz+i*sz+j,.none⟩=some c/\ T b (base+off*sz+i*sz+j)/\ fK c=true/\ VR T Gh.none w ((((xs.drop off).take len).getD i .dead).cells.getD j .dead) c:=by
  intro i j hi hj;have:=h.h (off+i) j (by omega) hj
  rw[kV hi hl];rw[show base+off*sz+i*sz+j=base+(off+i)*sz+j by rw[bQj];omega]
  exact this
 have h1: ∀i j,∃c,i<len->j<sz->w.cell? ⟨b,base+off*sz+i*sz+j,.none⟩=some c/\ T b (base+off*sz+i*sz+j)/\ fK c=true/\ VR T Gh.none w ((((xs.drop off).take len).getD i .dead).cells.getD j .dead) c:=by
  intro i j
  by_cases hi:i<len
  ·by_cases hj:j<sz
   ·obtain⟨c,hc⟩:=hget i j hi hj;exact⟨c,fun _ _=>hc⟩
   ·exact⟨undef,fun _ hj'=>absurd hj' hj⟩
  ·exact⟨undef,fun hi'=>absurd hi' hi⟩
 have h2:=fun i=>Classical.axiomOfChoice (h1 i)
 obtain⟨c,hc'⟩:=Classical.axiomOfChoice h2;have:=VR.fz (T:=T) (G:=G) (w:=w) ((xs.drop off).take len) b (base+off*sz) sz cap c (by rw[hlen];exact hc)
  (fun i hi=>by rw[hlen]at hi;rw[kV hi hl];exact h.hs _ (by omega))
  (fun i j hi hj=>by rw[hlen]at hi;exact(hc' i j hi hj).1) (fun i j hi hj=>by rw[hlen]at hi;exact(hc' i j hi hj).2.1)
  (fun i j hi hj=>by rw[hlen]at hi;exact(hc' i j hi hj).2.2.1) (fun i j hi hj=>by rw[hlen]at hi;exact(hc' i j hi hj).2.2.2)
 rwa [hlen]at this
theorem aWx.elem (h:aWx T w xs b base sz){x:Val}(hx:xs[i]?=some x):
  VR T G w (.fp x.cells off) (.pointer (some ⟨b,base+i*sz+off,.none⟩)):=by
 obtain⟨hi,hx'⟩:=aD9 hx;have hl:=h.hs i hi;rw[hx']at hl;have h1: ∀j,∃c,j<sz->w.cell? ⟨b,base+i*sz+j,.none⟩=some c/\ T b (base+i*sz+j)/\ fK c=true/\ VR T Gh.none w (x.cells.getD j .dead) c:=by
  intro j
  by_cases hj:j<sz
  ·obtain⟨c,hc⟩:=h.h i j hi hj;rw[hx']at hc;exact⟨c,fun _=>hc⟩
  ·exact⟨undef,fun hj'=>absurd hj' hj⟩
 obtain⟨c,hc⟩:=Classical.axiomOfChoice h1;exact .fp x.cells off b (base+i*sz) c (fun j hj=>(hc j (by omega)).1) (fun j hj=>(hc j (by omega)).2.1) (fun j hj=>(hc j (by omega)).2.2.1) (fun j hj=>(hc j (by omega)).2.2.2)
theorem ER.deep_cell (h:ER P B T G w k (.blk sz0 xs frz))
  (hb:G.blk k=some (some (b,base,sz,C))) (hc:Cov T' G k (.blk sz0 xs frz))  (hi:i<xs.length):
  (xs.getD i .dead).cells.length=sz/\ ∀j,j<sz-> ∃c,w.cell? ⟨b,base+i*sz+j,.none⟩=some c/\ T' b (base+i*sz+j)/\ fK c=true/\ VR T G w ((xs.getD i .dead).cells.getD j .dead) c:=by
 cases h with
 |nul _ frz h=>simp at hi
 |blk xs frz b1 base1 sz0 C1 thr c t hb1 hB hh hC hC' hs ho hv hown hthr=>
  rw[hb1]at hb;simp only[bOw,bO1]at hb;obtain⟨rfl,rfl,rfl,rfl⟩:=hb
  refine⟨hs i hi,fun j hj=>?_⟩
  have hlt:base1+i*sz0+j<c.size:=by
   have:i*sz0+sz0<=C1*sz0:=by rw[<-bQl];exact bP5 _ (by omega)
   omega
  refine⟨c.getD (base1+i*sz0+j) undef,?_,hc _ _ _ _ hb1 i j hi hj,ho i j hi hj,(hv i j hi hj).out⟩
  rw[lY hh];simp[bPc,hlt]
 |full xs b1 base1 sz0 c hb1 hs hh ht ho hv=>
  rw[hb1]at hb;simp only[bOw,bO1]at hb;obtain⟨rfl,rfl,rfl,rfl⟩:=hb;exact⟨hs i hi,fun j hj=>⟨c i j,hh i j hi hj,hc _ _ _ _ hb1 i j hi hj,ho i j hi hj,(hv i j hi hj).into _⟩⟩
theorem aZd {x:Val}{o:Nat}(hl:x.cells.length=sz)(h: ∀j,j<sz-> ∃c,w.cell? ⟨b,o+j,.none⟩=some c/\ fK c=true/\ VR T G w (x.cells.getD j .dead) c):
  ∃u:Value,u.cells.size=sz/\ (∀j,j<sz->w.cell? ⟨b,o+j,.none⟩=some (u.cells.getD j undef))/\ VR T G w x u/\ ∀y,u≠ .tuple y:=by
 by_cases hx: ∃cs,x= .agg cs
 ·obtain⟨cs,rfl⟩:=hx;simp only[Val.cells]at hl h;have h1: ∀j,∃c,j<sz->w.cell? ⟨b,o+j,.none⟩=some c/\ fK c=true/\ VR T G w (cs.getD j .dead) c:=fun j=>by
   by_cases hj:j<sz
   ·obtain⟨c,hc⟩:=h j hj;exact⟨c,fun _=>hc⟩
   ·exact⟨undef,fun h=>absurd h hj⟩
  obtain⟨c,hc⟩:=Classical.axiomOfChoice h1;have hg: ∀j,j<sz->((Array.range sz).map c).getD j undef=c j:=fun j hj=>by simp[bPc,hj]
  refine⟨.agg ((Array.range sz).map c),by simp[Value.cells],fun j hj=>?_,.agg cs _ (by simp[hl]) (fun j hj=>?_) (fun j hj=>?_),fun y=>by simp⟩
  ·simp only[Value.cells];rw[hg j hj];exact(hc j hj).1
  ·rw[hg j (by omega)];exact(hc j (by omega)).2.1
  ·rw[hg j (by omega)];exact(hc j (by omega)).2.2
 ·have hx1:x.cells=[x]:=by cases x<;>first|rfl|exact absurd ⟨_,rfl⟩ hx
  rw[hx1]at hl h;simp only[bO7,bPe,bPs]at hl;subst hl;obtain⟨c,h1,h2,h3⟩:=h 0 (by omega)
  simp only[bRt]at h3;have hc:c.cells= #[c]:=by cases c<;>first|rfl|simp[fK]at h2
  refine⟨c,by rw[hc];rfl,fun j hj=>?_,h3,fun y hy=>by subst hy;simp[fK]at h2⟩
  obtain rfl:j=0:=by omega
  rw[hc];exact h1
theorem VR.wk0 (h:VR T G w v x):VR T G w v.wk0 x:=by
 cases h with
 |cl0 p=>exact .fz0 p 0
 |cl xs b off sz c hs h ht ho hv=>exact .fz xs b off sz _ c (bOy _) hs h ht ho hv
 |_=>first|assumption|(constructor<;>assumption)
theorem aZe (cs:List Val)(i:Nat):(cs.map Val.wk0).getD i .dead=(cs.getD i .dead).wk0:=by
 simp only[bO2,List.getElem?_map];cases cs[i]?<;>rfl
theorem aEa (cs:List Val)(i:Nat):(cs.map Val.wk1).getD i .dead=(cs.getD i .dead).wk1:=by
 simp only[bO2,List.getElem?_map];cases cs[i]?<;>rfl
theorem VR.wk1 (h:VR T G w v x):VR T G w v.wk1 x:=by
 cases v with
 |agg cs=>
  cases h with
  |agg _ us h ho hv=>exact .agg _ us (by simpa using h) (fun i hi=>ho i (by simpa using hi)) (fun i hi=>by rw[aZe];exact(hv i (by simpa using hi)).wk0)
 |_=>exact h.wk0
theorem ER.deep_held {ys:List Val}(h:ER P B T G w k (.blk sz0 xs frz))
  (hb:G.blk k=some (some (b,base,sz,C))) (hc:Cov T' G k (.blk sz0 xs frz)) (hle:off+len<=xs.length) (hy:ys.length=len)
  (he: ∀i,i<len-> ∀u,VR T G w (xs.getD (off+i) .dead) u->VR T' Gh.none w (ys.getD i .dead) u) (hcap:len<=cap):
  VR T' Gh.none w (.fz ys) (.slice (some ⟨b,base+off*sz,.none⟩) len cap):=by
 have key: ∀i,i<len-> ∃u:Value,u.cells.size=sz/\ (∀j,j<sz->w.cell? ⟨b,base+off*sz+i*sz+j,.none⟩=some (u.cells.getD j undef)/\ T' b (base+off*sz+i*sz+j))/\ VR T' Gh.none w (ys.getD i .dead) u/\ ∀y,u≠ .tuple y:=by
  intro i hi;obtain⟨h1,h2⟩:=h.deep_cell hb hc (i:=off+i) (by omega)
  have e0: ∀j,base+off*sz+i*sz+j=base+(off+i)*sz+j:=fun j=>by rw[bQj];omega
  obtain⟨u,u1,u2,u3,u4⟩:=aZd (b:=b) (o:=base+(off+i)*sz) h1 fun j hj=>let ⟨c,c1,_,c3,c4⟩:=h2 j hj;⟨c,c1,c3,c4⟩
  refine⟨u,u1,fun j hj=>?_,he i hi u u3,u4⟩
  rw[e0];exact⟨u2 j hj,let ⟨_,_,c2,_⟩:=h2 j hj;c2⟩
 have hH:aWx T' w ys b (base+off*sz) sz:=by
  refine⟨fun i hi=>?_,fun i j hi hj=>?_⟩<;>rw[hy]at hi<;>obtain⟨u,u1,u2,u3,u4⟩:=key i hi
  ·have ht: ∀vs,ys.getD i .dead≠ .tup vs:=by
    intro vs hvs;rw[hvs]at u3;cases u3 with
    |tup _ y=>exact u4 _ rfl
   rw[<-(u3.cells ht).1,u1]
  ·have ht: ∀vs,ys.getD i .dead≠ .tup vs:=by
    intro vs hvs;rw[hvs]at u3;cases u3 with
    |tup _ y=>exact u4 _ rfl
   obtain⟨c1,c2,c3⟩:=u3.cells ht;rw[u1]at c1;exact⟨_,(u2 j hj).1,(u2 j hj).2,c2 j (by omega),c3 j (by omega)⟩
 have:=hH.slice (G:=Gh.none) (off:=0) (len:=len) (cap:=cap) (by omega) hcap
 rw[Nat.zero_mul,bQh,bQ6,bPi (by omega)]at this
 exact this
theorem xV (hents: ∀k e,en k=some e->G.knows k->ER P B T G w k e)(m:jJ T G w T' G w)(n:Nat):
  ∀{v:Val} {x:Value} {v':Val} {ks:List Key},VR T G w v x->snap n en v=some (v',ks)->(∀k∈ks,∀e,en k=some e->Cov T' G k e)->VR T' Gh.none w v' x:=by
 have m0:jJ T Gh.none w T' Gh.none w:=m.none
 induction n with
 |zero=>
  intro v x v' ks hv hs hc;have key:(∀cs,v≠ .agg cs)/\ (∀cs,v≠ .tup cs)/\ v'= .dead:=by
   cases v<;>simp only[snap,bOw,bO1,reduceCtorEq]at hs<;>exact⟨fun _=>by simp,fun _=>by simp,hs.1.symm⟩
  rw[key.2.2];exact .dead x (hv.one key.1 key.2.1)
 |succ n ih=>
  intro v x v' ks hv hs hc;have lists: ∀{vs:List Val} {rs:List (Val×List Key)} {xs:Nat->Value},cU (snap n en) vs=some rs->(∀i,i<vs.length->VR T G w (vs.getD i .dead) (xs i))->
    (∀k∈rs.flatMap (·.2),∀e,en k=some e->Cov T' G k e)->(rs.map (·.1)).length=vs.length/\ ∀i,i<vs.length->VR T' Gh.none w ((rs.map (·.1)).getD i .dead) (xs i):=by
   intro vs rs xs h1 h2 h3;obtain⟨h4,h5⟩:=tN h1
   refine⟨h4,fun i hi=>?_⟩
   obtain⟨ks',h6,h7⟩:=h5 i hi;exact ih (h2 i hi) h6 fun k hk=>h3 k (h7 k hk)
  cases hv with
  |yld k l h=>simp only[snap]at hs;cases hs
  |it k r h=>simp only[snap]at hs;cases hs
  |ptr k off b h=>
   simp only[snap]at hs
   split at hs
   ·rename_i cs f he;simp only[Option.map_map,bPa,Function.comp]at hs;obtain⟨rs,hrs,hh⟩:=hs;simp only[bO1]at hh;obtain⟨rfl,rfl⟩:=hh;have hE:=hents k _ he (Gh.knows_box h);have hcov:=hc k (by simp) _ he
    cases hE with
    |box cs frz b' c t hb hB hh' hsz ho hv hown=>
     rw[h]at hb;simp only[bOw]at hb;subst hb;obtain⟨l1,l2⟩:=lists (xs:=fun j=>c.getD j undef) hrs hv fun k' hk'=>hc k' (by simp at hk'⊢;exact .inr hk')
     have:=VR.fp (T:=T') (G:=Gh.none) (w:=w) (rs.map (·.1)) off b 0 (fun j=>c.getD j undef)
      (fun j hj=>by rw[l1]at hj;rw[lY hh',bPs];simp[show j<c.size by omega])
      (fun j hj=>by rw[l1]at hj;rw[bPs];exact hcov b h j hj) (fun j hj=>by rw[l1]at hj;exact ho j hj) (fun j hj=>by rw[l1]at hj;exact l2 j hj)
     rwa [bPs]at this
   ·cases hs
  |ep k i off b base sz C h hi=>
   simp only[snap]at hs
   split at hs
   ·rename_i sz0 xs f he
    split at hs
    ·cases hs
    rename_i hd
    split at hs
    ·rename_i y hy;simp only[bOw,bO1]at hs;obtain⟨rfl,rfl⟩:=hs;exact((hents k _ he (Gh.knows_blk h)).held m h (hc k (by simp) _ he) (by simpa using hd)).elem hy
    ·cases hs
   ·cases hs
  |bl0 k a h=>
   simp only[snap]at hs
   split at hs
   ·split at hs
    ·split at hs
     ·simp only[bO3,cU,bPq,bPf,bQy,bOw,bO1]at hs;obtain⟨rfl,rfl⟩:=hs;exact .fz0 a 0
     simp only[bOw,bO1]at hs;obtain⟨rfl,rfl⟩:=hs;simp only[bO3];exact .fz0 a 0
    ·cases hs
   ·cases hs
  |bl k off len b base sz C h hl=>
   simp only[snap]at hs
   split at hs
   ·rename_i sz0 xs f he
    split at hs
    ·rename_i hle
     split at hs
     ·simp only[Option.map_map,bPa,Function.comp]at hs;obtain⟨rs,hrs,hh⟩:=hs;simp only[bO1]at hh;obtain⟨rfl,rfl⟩:=hh;have hlen:((xs.drop off).take len).length=len:=by simp;omega
      obtain⟨q1,q2⟩:=tN hrs;rw[hlen]at q1 q2;exact(hents k _ he (Gh.knows_blk h)).deep_held h (hc k (by simp) _ he) hle (by rw[bOz];exact q1) (fun i hi u hu=>by
       obtain⟨ks',q3,q4⟩:=q2 i hi;rw[kV hi hle]at q3;rw[aEa];exact(ih hu q3 fun k' hk'=>hc k' (bQz _ (q4 k' hk'))).wk1) (by omega)
     ·rename_i hd;simp only[bOw,bO1]at hs;obtain⟨rfl,rfl⟩:=hs;exact((hents k _ he (Gh.knows_blk h)).held m h (hc k (by simp) _ he) (by simpa using hd)).slice hle (by omega)
    ·cases hs
   ·cases hs
  |ble k a b base sz C h=>
   simp only[snap]at hs
   split at hs
   ·split at hs
    ·split at hs
     ·simp only[bO3,cU,bPq,bPf,bQy,bOw,bO1]at hs;obtain⟨rfl,rfl⟩:=hs;exact .fz0 a 0
     simp only[bOw,bO1]at hs;obtain⟨rfl,rfl⟩:=hs;simp only[bO3];exact .fz0 a 0
    ·cases hs
   ·cases hs
  |mp k r h=>
   simp only[snap]at hs
   split at hs
   ·rename_i ks' vs' f he;simp only[bOw,bO1]at hs;obtain⟨rfl,rfl⟩:=hs;have hcov:=hc k (by simp) _ he
    have hE:=hents k _ he (Gh.knows_mp h);cases hE with
    |map ks vs frz r' es clock hr hB hh hk hl hkv hvv hown=>
     rw[h]at hr;simp only[bOw]at hr;subst hr;exact .fm _ _ r es clock hh (hcov r h) hk hl (fun i hi=>(hkv i hi).mono m0) (fun i hi=>(hvv i hi).mono m0)
   ·cases hs
  |fn f a b x y ha hb hx hy=>
   simp only[snap]at hs
   split at hs
   ·rename_i r1 r2 h1 h2;simp only[bPa]at h1 h2;obtain⟨rs1,hr1,rfl⟩:=h1;obtain⟨rs2,hr2,rfl⟩:=h2;simp only[bOw,bO1]at hs;obtain⟨rfl,rfl⟩:=hs;obtain⟨l1,l2⟩:=lists (xs:=fun j=>x.getD j undef) hr1 hx fun k' hk'=>hc k' (bQ9 _ hk')
    obtain⟨l3,l4⟩:=lists (xs:=fun j=>y.getD j undef) hr2 hy fun k' hk'=>hc k' (bQ0 _ hk')
    exact .fn f _ _ x y (ha.trans l1.symm) (hb.trans l3.symm) (fun i hi=>l2 i (by omega)) (fun i hi=>l4 i (by omega))
   ·cases hs
  |ifc t u x h=>
   simp only[snap,bPa]at hs;obtain⟨r,hr,hh⟩:=hs;simp only[bO1]at hh;obtain⟨rfl,rfl⟩:=hh;exact .ifc t _ x (ih h hr hc)
  |agg cs x h ho hv=>
   simp only[snap,Option.map_map,bPa,Function.comp]at hs;obtain⟨rs,hr,hh⟩:=hs;simp only[bO1]at hh;obtain⟨rfl,rfl⟩:=hh;obtain⟨l1,l2⟩:=lists (xs:=fun j=>x.getD j undef) hr hv hc
   exact .agg _ x (h.trans l1.symm) (fun i hi=>ho i (by omega)) (fun i hi=>l2 i (by omega))
  |tup vs x h hv=>
   simp only[snap,Option.map_map,bPa,Function.comp]at hs;obtain⟨rs,hr,hh⟩:=hs;simp only[bO1]at hh;obtain⟨rfl,rfl⟩:=hh;obtain⟨l1,l2⟩:=lists (xs:=fun j=>x.getD j undef) hr hv hc
   exact .tup _ x (h.trans l1.symm) (fun i hi=>l2 i (by omega))
  |dead x h=>simp only[snap,bOw,bO1]at hs;obtain⟨rfl,rfl⟩:=hs;exact .dead x h
  |bool b=>simp only[snap,bOw,bO1]at hs;obtain⟨rfl,rfl⟩:=hs;exact .bool b
  |int k n=>simp only[snap,bOw,bO1]at hs;obtain⟨rfl,rfl⟩:=hs;exact .int k n
  |str s=>simp only[snap,bOw,bO1]at hs;obtain⟨rfl,rfl⟩:=hs;exact .str s
  |nilp=>simp only[snap,bOw,bO1]at hs;obtain⟨rfl,rfl⟩:=hs;exact .nilp
  |fp cs off b base c h ht ho hv=>simp only[snap,bOw,bO1]at hs;obtain⟨rfl,rfl⟩:=hs;exact(VR.fp cs off b base c h ht ho hv).mono m0
  |fz0 a cap=>simp only[snap,bOw,bO1]at hs;obtain⟨rfl,rfl⟩:=hs;exact .fz0 a cap
  |fz xs b off sz cap c hc' hs' h ht ho hv=>simp only[snap,bOw,bO1]at hs;obtain⟨rfl,rfl⟩:=hs;exact(VR.fz xs b off sz cap c hc' hs' h ht ho hv).mono m0
  |cl0 a=>simp only[snap,bOw,bO1]at hs;obtain⟨rfl,rfl⟩:=hs;exact .cl0 a
  |cl xs b off sz c hs' h ht ho hv=>simp only[snap,bOw,bO1]at hs;obtain⟨rfl,rfl⟩:=hs;exact(VR.cl xs b off sz c hs' h ht ho hv).mono m0
  |nilm=>simp only[snap,bOw,bO1]at hs;obtain⟨rfl,rfl⟩:=hs;exact .nilm
  |fm ks vs r es clock h ht hk hl hkv hvv=>simp only[snap,bOw,bO1]at hs;obtain⟨rfl,rfl⟩:=hs;exact(VR.fm ks vs r es clock h ht hk hl hkv hvv).mono m0
  |nilf=>simp only[snap,bOw,bO1]at hs;obtain⟨rfl,rfl⟩:=hs;exact .nilf
  |nili=>simp only[snap,bOw,bO1]at hs;obtain⟨rfl,rfl⟩:=hs;exact .nili
  |es a cap=>simp only[snap,bOw,bO1]at hs;obtain⟨rfl,rfl⟩:=hs;exact .es a cap
end Go.Abs
namespace Go.Abs
open Go.RowKit (Below)
theorem tO : ∀{s:List CT} {a c:List Val} (s':List CT) (b d:List Val),a.length=s.length->c.length=s.length->
  jR (s++s') (a++b) (c++d)=(match jR s a c with|some true=>jR s' b d|r=>r)
 |[],[],[],s',b,d,_,_=>by simp[jR]
 |t::s,x::a,y::c,s',b,d,h,h'=>by
  simp only[bRa,jR];cases zR t x y with
  |none=>rfl
  |some t=>cases t with
   |false=>rfl
   |true=>exact tO s' b d (by simpa using h) (by simpa using h')
 |[],_::_,_,_,_,_,h,_=>by simp at h
 |[],[],_::_,_,_,_,_,h=>by simp at h
 |_::_,[],_,_,_,_,h,_=>by simp at h
 |_::_,_::_,[],_,_,_,_,h=>by simp at h
variable {G:Gh}{T:Nat->Nat->Prop}{v:Val}{w:World}{x:Value}
theorem VR.not_agg (h:VR T G w v x)(ho:fK x=true): ∀cs,v≠ .agg cs:=by
 rintro cs rfl;cases h;cases ho
variable {P:Program}{t:TypeId}
theorem aBo (h:P.underlying t≠none):(isAgg t).run P w= .ok (cZ P t) w:=by
 obtain⟨d,hd⟩:=Option.ne_none_iff_exists'.1 h;simp only[isAgg,Sem.run_bind,run_underlying hd,Result.andThen_ok,cZ,hd];cases d<;>rfl
theorem aF0 (h:P.cellsOf t≠0): ∃i,P.info? t=some i:=by
 simp only[Program.cellsOf]at h;cases hi:P.info? t with
 |none=>simp[hi]at h
 |some i=>exact⟨i,rfl⟩
theorem eE {i:TypeInfo}(h:P.info? t=some i):(sizeOf t).run P w= .ok (P.cellsOf t) w:=by
 simp[sizeOf,typeInfo,h,Program.cellsOf]
theorem lH {d:TypeDesc}(h:P.underlying t=some d): ∃i,P.info? t=some i:=by
 cases hi:P.info? t with
 |none=>simp[Program.underlying,hi]at h
 |some i=>exact⟨i,rfl⟩
theorem aQm (h:cZ P t=true): ∃d,P.underlying t=some d:=by
 unfold cZ at h;split at h
 ·exact⟨_,by assumption⟩
 ·exact⟨_,by assumption⟩
 ·cases h
variable {n off:Nat}{us:Array Value}
theorem aI2 {zs:List Val}(ha:cZ P t=true)(hn:P.cellsOf t=n)(hl:off+n<=zs.length)
  (hus:us.size=zs.length) (hon: ∀i,i<zs.length->fK (us.getD i undef)=true) (hvs: ∀i,i<zs.length->VR T G w (zs.getD i .dead) (us.getD i undef)):
  ∃u,(part t us off).run P w= .ok u w/\ VR T G w (.agg ((zs.drop off).take n)) u:=by
 obtain⟨d,hd⟩:=aQm ha;obtain⟨i,hi⟩:=lH hd
 refine⟨.agg (us.extract off (off+n)),?_,?_⟩
 ·simp only[part,Sem.run_bind,aBo (P:=P) (t:=t) (w:=w) (by rw[hd];simp),ha,Result.andThen_ok,if_true,eE hi,hn,Sem.run_pure]
 ·have hlen:((zs.drop off).take n).length=n:=by simp;omega
  have hget: ∀i,i<n->(us.extract off (off+n)).getD i undef=us.getD (off+i) undef:=by
   intro i hi;simp only[bPc,Array.getElem?_extract];rw[if_pos (by omega)]
  refine .agg _ _ (by simp;omega) (fun i hi=>?_) (fun i hi=>?_)
  ·rw[hlen]at hi;rw[hget i hi];exact hon _ (by omega)
  ·rw[hlen]at hi;rw[hget i hi,kV hi hl];exact hvs _ (by omega)
theorem aI3 (ha:cZ P t=false)(hl:off<us.size)(hu:P.underlying t≠none:=by assumption):
  (part t us off).run P w= .ok (us.getD off undef) w:=by
 simp only[part,Sem.run_bind,aBo hu,ha,Result.andThen_ok,bO0,if_false];simp[hl]
variable {k:Nat}{m:List CT}
theorem aG2 (hm:iJ P k t=some m):P.cellsOf t=m.length:=by
 cases k with
 |zero=>simp[iJ]at hm
 |succ k=>
  simp only[iJ]at hm
  split at hm
  ·split at hm<;>simp only[bOw,reduceCtorEq]at hm;subst hm;assumption
  ·split at hm<;>simp only[bOw,reduceCtorEq]at hm;subst hm;assumption
  ·split at hm<;>simp only[bOw,reduceCtorEq]at hm;subst hm;assumption
  ·split at hm
   ·cases hm
   ·split at hm
    ·split at hm
     ·simp only[bOw]at hm;subst hm;assumption
     ·cases hm
    ·cases hm
  ·split at hm
   ·split at hm
    ·rename_i h;simp only[bOw]at hm;subst hm;rw[h];simp
    ·cases hm
   ·cases hm
  ·cases hm
theorem aI4 (hm:iJ P k t=some m):P.underlying t≠none:=by
 intro h0;cases k with
 |zero=>simp[iJ]at hm
 |succ k=>simp[iJ,h0]at hm
theorem aWy (hm:iJ P k t=some m)(ha:cZ P t=false):m.length=1:=by
 cases k with
 |zero=>simp[iJ]at hm
 |succ k=>
  simp only[iJ]at hm
  split at hm
  ·split at hm<;>simp only[bOw,reduceCtorEq]at hm;subst hm;rfl
  ·split at hm<;>simp only[bOw,reduceCtorEq]at hm;subst hm;rfl
  ·split at hm<;>simp only[bOw,reduceCtorEq]at hm;subst hm;rfl
  ·rename_i hs';simp[cZ,hs']at ha
  ·rename_i hs';simp[cZ,hs']at ha
  ·cases hm
theorem aC4 (hm:iJ P k t=some m)(zs:List Val)(us:Array Value)(hcount:off+m.length<=zs.length)
  (hus:us.size=zs.length) (hon: ∀i,i<zs.length->fK (us.getD i undef)=true) (hvs: ∀i,i<zs.length->VR T G w (zs.getD i .dead) (us.getD i undef)):
  ∃z u,(part t us off).run P w= .ok u w/\ VR T G w z u/\ z.cells=(zs.drop off).take m.length/\ (cZ P t=true-> ∃cs,z= .agg cs)/\ (cZ P t=false-> ∀cs,z≠ .agg cs):=by
 cases ha:cZ P t with
 |true=>
  obtain⟨u,pu,vu⟩:=aI2 (w:=w) (off:=off) ha (aG2 hm) hcount hus hon hvs;exact⟨_,u,pu,vu,rfl,fun _=>⟨_,rfl⟩,fun h=>by cases h⟩
 |false=>
  have hm1:=aWy hm ha;have hlt:off<zs.length:=by omega
  have hna: ∀cs,zs.getD off .dead≠ .agg cs:=VR.not_agg (hvs _ hlt) (hon _ hlt)
  refine⟨zs.getD off .dead,us.getD off undef,aI3 ha (by omega) (aI4 hm),hvs _ hlt,?_,(fun h=>by cases h),fun _=>hna⟩
  have:(zs.drop off).take m.length=[zs.getD off .dead]:=by
   rw[hm1,bPy hlt,bO5,bO3];simp[bO2,hlt]
  rw[this];generalize zs.getD off .dead=z at hna;cases z<;>first|rfl|exact absurd rfl (hna _)
theorem aZf (k:Nat): ∀(t:TypeId) (l:List CT),iJ P k t=some l-> ∀(d:Nat),k<=d-> ∀{x y:Val} {u v:Value} {r:Bool},
  VR T G w x u->VR T G w y v->x.cells.length=l.length->y.cells.length=l.length->(cZ P t=true->(∃cs,x= .agg cs)/\ ∃ds,y= .agg ds)->(cZ P t=false->(∀cs,x≠ .agg cs)/\ (∀ds,y≠ .agg ds))->
  jR l x.cells y.cells=some r->(Op.equalIn d t u v).run P w= .ok r w:=by
 induction k with
 |zero=>intro t l h;simp[iJ]at h
 |succ k ih=>
  intro t l h d hd x y u v r hx hy hlx hly hagg hnagg he;obtain⟨d,rfl⟩: ∃m,d=m+1:=⟨d-1,by omega⟩
  have scalar: ∀{ct:CT},l=[ct]->cZ P t=false-> ∃r',zR ct x y=some r'/\ r'=r:=by
   intro ct hl ha;have hx1:=hnagg ha;have hcx:x.cells=[x]:=by cases x<;>first|rfl|exact absurd rfl (hx1.1 _)
   have hcy:y.cells=[y]:=by cases y<;>first|rfl|exact absurd rfl (hx1.2 _)
   rw[hl,hcx,hcy]at he;simp only[jR]at he
   split at he
   ·rename_i h1;exact⟨true,h1,by simpa using he⟩
   ·rename_i h1;exact⟨false,h1,by simpa using he⟩
   ·cases he
  simp only[iJ]at h
  split at h
  ·rename_i kk hu
   split at h
   ·simp only[bOw]at h;obtain⟨r',h1,rfl⟩:=scalar h.symm (by simp[cZ,hu])
    cases hx<;>cases hy<;>simp only[zR,reduceCtorEq]at h1
    rename_i k1 n1 k2 n2
    split at h1
    ·rename_i e;subst e;simp only[bOw]at h1;subst h1;exact run_equalIn_int w d t _ _ _ _ hu
    ·cases h1
   ·cases h
  ·rename_i hu
   split at h
   ·simp only[bOw]at h;obtain⟨r',h1,rfl⟩:=scalar h.symm (by simp[cZ,hu])
    cases hx<;>cases hy<;>simp only[zR,reduceCtorEq]at h1
    simp only[bOw]at h1;subst h1;exact run_equalIn_bool' w d t _ _ hu
   ·cases h
  ·rename_i hu
   split at h
   ·simp only[bOw]at h;obtain⟨r',h1,rfl⟩:=scalar h.symm (by simp[cZ,hu])
    cases hx<;>cases hy<;>simp only[zR,reduceCtorEq]at h1
    simp only[bOw]at h1;subst h1;exact run_equalIn_string w d t _ _ hu
   ·cases h
  ·rename_i fs hu
   split at h
   ·cases h
   ·rename_i hst
    split at h
    ·rename_i l' hl'
     split at h
     ·rename_i hcells;simp only[bOw]at h;subst h;obtain⟨⟨cs,rfl⟩,⟨ds,rfl⟩⟩:=hagg (by simp[cZ,hu])
      cases hx with
      |agg _ xs hxs hox hvx=>
      cases hy with
      |agg _ ys hys hoy hvy=>
      simp only[Val.cells]at hlx hly he;have hfo:P.fieldsOf t=fs:=by simp[Program.fieldsOf,hu]
      rw[run_equalIn_agg w d t xs ys (by rw[hfo];exact hu) (by simpa using hst),hfo]
      have key: ∀(fl:List Field) (done:List CT),vH (iJ P k) fl done=some l'-> ∀r,jR (l'.drop done.length) (cs.drop done.length) (ds.drop done.length)=some r->
        (Op.eqFields d xs ys fl).run P w= .ok r w:=by
       intro fl
       induction fl with
       |nil=>
        intro done h1 r h2;simp only[vH,bOw]at h1;subst h1;have e1:cs.drop done.length=[]:=by simp;omega
        have e2:ds.drop done.length=[]:=by simp;omega
        have e3:done.drop done.length=[]:=by simp
        rw[e1,e2,e3]at h2;simp only[jR,bOw]at h2;subst h2;simp[Op.eqFields]
       |cons f fl ihf=>
        intro done h1 r h2;simp only[vH]at h1
        split at h1
        ·rename_i hf
         split at h1
         ·rename_i m hm;have hpre: ∃jE,l'=done++m++jE:=by
           have: ∀(fl:List Field) (a b:List CT),vH (iJ P k) fl a=some b-> ∃r,b=a++r:=by
            intro fl
            induction fl with
            |nil=>intro a b h;simp only[vH,bOw]at h;exact⟨[],by simp[h]⟩
            |cons g fl ig=>
             intro a b h;simp only[vH]at h
             split at h
             ·split at h
              ·obtain⟨r,hr⟩:=ig _ _ h;exact⟨_,by rw[hr,List.append_assoc]⟩
              ·cases h
             ·cases h
           exact this _ _ _ h1
          obtain⟨jE,hrest⟩:=hpre;have hml:done.length+m.length<=l'.length:=by rw[hrest];simp
          have d1:l'.drop done.length=m++l'.drop (done++m).length:=by rw[hrest];simp
          have d2: ∀(zs:List Val),zs.length=l'.length->zs.drop done.length=(zs.drop done.length).take m.length++zs.drop (done++m).length:=by
           intro zs hz;rw[bPg,<-List.drop_drop,List.take_append_drop]
          rw[d1,d2 cs hlx,d2 ds hly,tO _ _ _ (by simp;omega) (by simp;omega)]at h2
          have hval: ∀(zs:List Val) (us:Array Value),us.size=zs.length->zs.length=l'.length->(∀i,i<zs.length->fK (us.getD i undef)=true)->(∀i,i<zs.length->VR T G w (zs.getD i .dead) (us.getD i undef))->
            ∃z u,(part f.type us f.offset).run P w= .ok u w/\ VR T G w z u/\ z.cells=(zs.drop done.length).take m.length/\ (cZ P f.type=true-> ∃cs,z= .agg cs)/\ (cZ P f.type=false-> ∀cs,z≠ .agg cs):=by
           intro zs us hus hzs hon hvs;rw[hf.2];exact aC4 hm zs us (by omega) hus hon hvs
          obtain⟨zx,ux,px,vx,cx,ax,nx⟩:=hval cs xs hxs hlx hox hvx;obtain⟨zy,uy,py,vy,cy,ay,ny⟩:=hval ds ys hys hly hoy hvy;simp only[Op.eqFields,hf.1,ne_eq,not_false_iff,if_true,Sem.run_bind,px,py,Result.andThen_ok];have hstep: ∀r',jR m zx.cells zy.cells=some r'->(Op.equalIn d f.type ux uy).run P w= .ok r' w:=fun r' hr'=>
           ih f.type m hm d (by omega) vx vy (by rw[cx];simp;omega) (by rw[cy];simp;omega) (fun h=>⟨ax h,ay h⟩) (fun h=>⟨nx h,ny h⟩) hr'
          rw[<-cx,<-cy]at h2
          split at h2
          ·rename_i he1;rw[hstep true he1];simp only[Result.andThen_ok,bPd,bO0,if_false];exact ihf (done++m) h1 r h2
          ·rename_i hne;rw[hstep r h2];cases r with
           |true=>exact absurd h2 hne
           |false=>simp
         ·cases h1
        ·cases h1
      exact key fs.toList [] hl' r (by simpa using he)
     ·cases h
    ·cases h
  ·rename_i n e hu
   split at h
   ·rename_i m hm
    split at h
    ·rename_i hcells;simp only[bOw]at h;subst h;obtain⟨⟨cs,rfl⟩,⟨ds,rfl⟩⟩:=hagg (by simp[cZ,hu])
     cases hx with
     |agg _ xs hxs hox hvx=>
     cases hy with
     |agg _ ys hys hoy hvy=>
     have hlen:(List.replicate n m).flatten.length=n*m.length:=by simp
     simp only[Val.cells]at hlx hly he;rw[hlen]at hlx hly;obtain⟨dd,hdd⟩:=Option.ne_none_iff_exists'.1 (aI4 hm);obtain⟨i,hi⟩:=lH hdd;rw[run_equalIn_array w d xs ys hu hi,aG2 hm];have key: ∀(j a:Nat),a+j=n-> ∀r,jR (List.replicate j m).flatten (cs.drop (a*m.length)) (ds.drop (a*m.length))=some r->
       (Op.eqItems d e m.length xs ys (List.range' a j)).run P w= .ok r w:=by
      intro j
      induction j with
      |zero=>
       intro a ha r h2;have ha':a=n:=by omega
       subst ha';have e1:cs.drop (a*m.length)=[]:=by simp;omega
       have e2:ds.drop (a*m.length)=[]:=by simp;omega
       rw[e1,e2]at h2;simp only[bP8,List.flatten_nil,jR,bOw]at h2;subst h2;simp[Op.eqItems]
      |succ j ihj=>
       intro a ha r h2;have hb:a*m.length+m.length<=n*m.length:=by rw[<-bQl];exact bP5 _ (by omega)
       obtain⟨zx,ux,px,vx,cx,ax,nx⟩:=aC4 (P:=P) (T:=T) (G:=G) (w:=w) hm cs xs (off:=a*m.length) (by omega) hxs hox hvx
       obtain⟨zy,uy,py,vy,cy,ay,ny⟩:=aC4 (P:=P) (T:=T) (G:=G) (w:=w) hm ds ys (off:=a*m.length) (by omega) hys hoy hvy
       have d2: ∀(zs:List Val),zs.drop (a*m.length)=(zs.drop (a*m.length)).take m.length++zs.drop ((a+1)*m.length):=by
        intro zs;rw[bQl,<-List.drop_drop,List.take_append_drop]
       rw[bP9,List.flatten_cons,d2 cs,d2 ds,tO _ _ _ (by simp;omega) (by simp;omega),<-cx,<-cy]at h2
       simp only[bRu,Op.eqItems,Sem.run_bind,px,py,Result.andThen_ok];have hstep: ∀r',jR m zx.cells zy.cells=some r'->(Op.equalIn d e ux uy).run P w= .ok r' w:=fun r' hr'=>
        ih e m hm d (by omega) vx vy (by rw[cx];simp;omega) (by rw[cy];simp;omega) (fun h=>⟨ax h,ay h⟩) (fun h=>⟨nx h,ny h⟩) hr'
       split at h2
       ·rename_i he1;rw[hstep true he1];simp only[Result.andThen_ok,bPd,bO0,if_false];exact ihj (a+1) (by omega) r h2
       ·rename_i hne;rw[hstep r h2];cases r with
        |true=>exact absurd h2 hne
        |false=>simp
     rw[bR2];exact key n 0 (by simp) r (by simpa using he)
    ·cases h
   ·cases h
  ·cases h
theorem aZg (h:pS P t=some .bool):P.underlying t=some .bool:=by
 unfold pS at h;split at h<;>first|assumption|(simp at h;done)|(split at h<;>simp at h)
theorem aEb (h:pS P t=some .map): ∃k e,P.underlying t=some (.map k e):=by
 unfold pS at h;split at h<;>first|exact⟨_,_,by assumption⟩|(simp at h;done)|(split at h<;>simp at h)
theorem aI5 (h:pS P t=some .func): ∃a b c,P.underlying t=some (.func a b c):=by
 unfold pS at h;split at h<;>first|exact⟨_,_,_,by assumption⟩|(simp at h;done)|(split at h<;>simp at h)
theorem aIj (h:pS P t=some .ptr): ∃e,P.underlying t=some (.pointer e):=by
 unfold pS at h;split at h<;>first|exact⟨_,by assumption⟩|(simp at h;done)|(split at h<;>simp at h)
theorem aF1 (h:pS P t=some .iface): ∃e,P.underlying t=some (.interface e):=by
 unfold pS at h;split at h<;>first|exact⟨_,by assumption⟩|(simp at h;done)|(split at h<;>simp at h)
theorem bCm {l:List CT}(h:pS P t=some (.agg l)):P.eqGuardType P.depth t=false/\ iJ P 6 t=some l/\ cZ P t=true:=by
 unfold pS at h
 split at h<;>first|(simp at h;done)|skip
 all_goals
  rename_i hu
  split at h
  ·cases h
  ·rename_i hg;simp only[bPa,EqT.agg.injEq,exists_eq_right]at h;exact⟨by simpa using hg,h,by simp[cZ,hu]⟩
variable {r:Bool}{y:Value}
theorem eB (h:(Op.equalIn 10000 t x y).run P w= .ok r w):(Op.equal t x y).run P w= .ok r w:=h
variable {ox oy:Operand}
theorem bFu (hg:(eqGuard .eql t ox oy x y).run P w= .ok () w)(h:(binOp .eql t x y).run P w= .ok (.bool r) w):
  (do eqGuard .eql t ox oy x y;binOp .eql t x y:Sem Value).run P w= .ok (.bool r) w:=by
 simp only[Sem.run_bind,hg,Result.andThen_ok,h]
theorem bFv (hg:(eqGuard .neq t ox oy x y).run P w= .ok () w)(h:(binOp .neq t x y).run P w= .ok (.bool r) w):
  (do eqGuard .neq t ox oy x y;binOp .neq t x y:Sem Value).run P w= .ok (.bool r) w:=by
 simp only[Sem.run_bind,hg,Result.andThen_ok,h]
variable {e:TypeId}{a b:Array TypeId}{c:Bool}{ms:Array (String×TypeId)}
section
variable (d:Nat)
theorem aI6 {k:TypeId}(h:P.underlying t=some (.map k e))(r:Option Nat):(Op.equalIn (d+1) t (.map .none) (.map r)).run P w= .ok r.isNone w:=by simp[Op.equalIn,run_underlying h]
theorem aQn {k:TypeId}(h:P.underlying t=some (.map k e))(r:Nat):(Op.equalIn (d+1) t (.map (some r)) (.map .none)).run P w= .ok false w:=by simp[Op.equalIn,run_underlying h]
theorem aWz (h:P.underlying t=some (.func a b c)):(Op.equalIn (d+1) t .nilFunc .nilFunc).run P w= .ok true w:=by simp[Op.equalIn,run_underlying h]
theorem aW0 (h:P.underlying t=some (.func a b c))(f:Fn)(x y:Array Value):(Op.equalIn (d+1) t (.func f x y) .nilFunc).run P w= .ok false w:=by simp[Op.equalIn,run_underlying h]
theorem aW1 (h:P.underlying t=some (.func a b c))(f:Fn)(x y:Array Value):(Op.equalIn (d+1) t .nilFunc (.func f x y)).run P w= .ok false w:=by simp[Op.equalIn,run_underlying h]
theorem aZh (h:P.underlying t=some (.pointer e)):(Op.equalIn (d+1) t (.pointer .none) (.pointer .none)).run P w= .ok true w:=by simp[Op.equalIn,run_underlying h]
theorem aI7 (h:P.underlying t=some (.pointer e))(a:Addr):(Op.equalIn (d+1) t (.pointer (some a)) (.pointer .none)).run P w= .ok false w:=by simp[Op.equalIn,run_underlying h]
theorem bCn (h:P.underlying t=some (.interface ms)):(Op.equalIn (d+1) t .nilIface .nilIface).run P w= .ok true w:=by simp[Op.equalIn,run_underlying h]
theorem bCo (h:P.underlying t=some (.interface ms))(u:TypeId)(x:Value):(Op.equalIn (d+1) t (.iface u x) .nilIface).run P w= .ok false w:=by simp[Op.equalIn,run_underlying h]
theorem bCp (h:P.underlying t=some (.interface ms))(u:TypeId)(x:Value):(Op.equalIn (d+1) t .nilIface (.iface u x)).run P w= .ok false w:=by simp[Op.equalIn,run_underlying h]
end
theorem aBp (d:Nat)(h:P.underlying t=some (.slice e))(a:Option Addr)(n c n' c':Nat):(Op.equalIn (d+1) t (.slice a n c) (.slice none n' c')).run P w= .ok a.isNone w:=by
 cases a<;>simp[Op.equalIn,run_underlying h]
theorem aBq (h:pS P t=some .slice): ∃e,P.underlying t=some (.slice e):=by
 unfold pS at h
 split at h<;>simp at h
 exact⟨_,by assumption⟩
variable {op:BinOp}
theorem nJ {x y:Operand}{a b:Option Addr}{c n' c':Nat}:eqGuard op t x y (.slice a n c) (.slice b n' c')=pure ():=by
 cases op<;>rfl
theorem aOe {x y:Operand}(h:mP x=true \/mP y=true):(eqGuard op t x y .nilIface .nilIface).run P w= .ok () w:=by
 unfold eqGuard;cases op<;>first
  |rfl
  |(rcases h with h|h
    ·cases x<;>simp[mP]at h;rfl
    ·cases y<;>simp[mP]at h;cases x<;>rfl)
variable {X Y:Val}{ty:TypeId}
theorem aG3 {t:EqT}(ht:pS P ty=some t)(hk:t= .iface->mP ox=true \/mP oy=true)
  (hx:VR T G w X x) (hy:VR T G w Y y) (h:pP t X Y=some r):
  (do eqGuard .eql ty ox oy x y;binOp .eql ty x y:Sem Value).run P w= .ok (.bool r) w/\ (do eqGuard .neq ty ox oy x y;binOp .neq ty x y:Sem Value).run P w= .ok (.bool !r) w:=by
 have fin:(∀op,(eqGuard op ty ox oy x y).run P w= .ok () w)->(binOp .eql ty x y).run P w= .ok (.bool r) w->(binOp .neq ty x y).run P w= .ok (.bool !r) w->
   (do eqGuard .eql ty ox oy x y;binOp .eql ty x y:Sem Value).run P w= .ok (.bool r) w/\ (do eqGuard .neq ty ox oy x y;binOp .neq ty x y:Sem Value).run P w= .ok (.bool !r) w:=
  fun hg h1 h2=>⟨bFu (hg _) h1,bFv (hg _) h2⟩
 have deep:(∀op,(eqGuard op ty ox oy x y).run P w= .ok () w)->(∀op,op= .eql \/op= .neq->(binOp op ty x y)=(if op= .eql then do pure (.bool (<-Op.equal ty x y))else do pure (.bool (!(<-Op.equal ty x y)))))->
   (Op.equal ty x y).run P w= .ok r w->(do eqGuard .eql ty ox oy x y;binOp .eql ty x y:Sem Value).run P w= .ok (.bool r) w/\ (do eqGuard .neq ty ox oy x y;binOp .neq ty x y:Sem Value).run P w= .ok (.bool !r) w:=by
  intro hg hb he
  refine fin hg ?_ ?_
  ·rw[hb _ (.inl rfl)];simp[he]
  ·rw[hb _ (.inr rfl)];simp[he]
 unfold pP at h
 split at h
 ·rename_i j a k b
  split at h
  ·rename_i e;subst e;simp only[bOw]at h;subst h;cases hx;cases hy;exact fin (fun op=>by simp[eqGuard_at_int]) (by simp[binOp_eql]) (by simp[binOp_neq,bne])
  ·cases h
 ·simp only[bOw]at h;subst h;cases hx;cases hy
  refine deep (fun op=>by simp[eqGuard_at_bool]) (fun op ho=>by rcases ho with rfl|rfl<;>rfl) ?_
  exact eB (run_equalIn_bool' w 9999 ty _ _ (aZg ht))
 ·simp only[bOw]at h;subst h;cases hx;cases hy;exact fin (fun op=>by simp[eqGuard_at_string]) (by simp[binOp,Op.stringOp]) (by simp[binOp,Op.stringOp])
 ·rename_i l xs ys
  split at h
  ·rename_i hlen;obtain⟨h1,h2,h3⟩:=bCm ht;cases hx with
   |agg _ us hus hou hvu=>
   cases hy with
   |agg _ vs hvs hov hvv=>
   refine deep (fun op=>run_eqGuard_agg w op ty ox oy us vs h1) (fun op ho=>by rcases ho with rfl|rfl<;>rfl) ?_
   exact eB (aZf 6 ty l h2 10000 (by omega) (.agg xs us hus hou hvu) (.agg ys vs hvs hov hvv) hlen.1 hlen.2 (fun _=>⟨⟨_,rfl⟩,⟨_,rfl⟩⟩) (fun h=>by rw[h3]at h;cases h) h)
  ·cases h
 ·simp only[bOw]at h;subst h;obtain⟨k,e,hu⟩:=aEb ht;cases hx;cases hy
  refine deep (fun op=>by simp[eqGuard_at_map]) (fun op ho=>by rcases ho with rfl|rfl<;>rfl) (eB (aI6 9999 hu none))
 ·simp only[bOw]at h;subst h;obtain⟨k,e,hu⟩:=aEb ht;cases hx;cases hy
  refine deep (fun op=>by simp[eqGuard_at_map]) (fun op ho=>by rcases ho with rfl|rfl<;>rfl) (eB (aQn 9999 hu _))
 ·simp only[bOw]at h;subst h;obtain⟨k,e,hu⟩:=aEb ht;cases hx;cases hy
  refine deep (fun op=>by simp[eqGuard_at_map]) (fun op ho=>by rcases ho with rfl|rfl<;>rfl) (eB (aQn 9999 hu _))
 ·simp only[bOw]at h;subst h;obtain⟨k,e,hu⟩:=aEb ht;cases hx;cases hy
  refine deep (fun op=>by simp[eqGuard_at_map]) (fun op ho=>by rcases ho with rfl|rfl<;>rfl) (eB (aI6 9999 hu (some _)))
 ·simp only[bOw]at h;subst h;obtain⟨k,e,hu⟩:=aEb ht;cases hx;cases hy
  refine deep (fun op=>by simp[eqGuard_at_map]) (fun op ho=>by rcases ho with rfl|rfl<;>rfl) (eB (aI6 9999 hu (some _)))
 ·simp only[bOw]at h;subst h;obtain⟨k,e,f,hu⟩:=aI5 ht;cases hx;cases hy
  refine deep (fun op=>by simp[eqGuard_at_nilFunc]) (fun op ho=>by rcases ho with rfl|rfl<;>rfl) (eB (aWz 9999 hu))
 ·simp only[bOw]at h;subst h;obtain⟨k,e,f,hu⟩:=aI5 ht;cases hx;cases hy
  refine deep (fun op=>by simp[eqGuard_at_func]) (fun op ho=>by rcases ho with rfl|rfl<;>rfl) (eB (aW0 9999 hu _ _ _))
 ·simp only[bOw]at h;subst h;obtain⟨k,e,f,hu⟩:=aI5 ht;cases hx;cases hy
  refine deep (fun op=>by simp[eqGuard_at_nilFunc]) (fun op ho=>by rcases ho with rfl|rfl<;>rfl) (eB (aW1 9999 hu _ _ _))
 ·simp only[bOw]at h;subst h;obtain⟨e,hu⟩:=aIj ht;cases hx;cases hy
  refine deep (fun op=>by simp[eqGuard_at_pointer]) (fun op ho=>by rcases ho with rfl|rfl<;>rfl) (eB (aZh 9999 hu))
 ·simp only[bOw]at h;subst h;obtain⟨e,hu⟩:=aIj ht;cases hx;cases hy
  refine deep (fun op=>by simp[eqGuard_at_pointer]) (fun op ho=>by rcases ho with rfl|rfl<;>rfl) (eB (aI7 9999 hu _))
 ·simp only[bOw]at h;subst h;obtain⟨e,hu⟩:=aIj ht;cases hx;cases hy
  refine deep (fun op=>by simp[eqGuard_at_pointer]) (fun op ho=>by rcases ho with rfl|rfl<;>rfl) (eB (aI7 9999 hu _))
 ·simp only[bOw]at h;subst h;obtain⟨e,hu⟩:=aIj ht;cases hx;cases hy
  refine deep (fun op=>by simp[eqGuard_at_pointer]) (fun op ho=>by rcases ho with rfl|rfl<;>rfl) (eB (aI7 9999 hu _))
 ·simp only[bOw]at h;subst h;obtain⟨e,hu⟩:=aF1 ht;cases hx;cases hy
  refine deep (fun op=>by simp[eqGuard_at_iface]) (fun op ho=>by rcases ho with rfl|rfl<;>rfl) (eB (bCo 9999 hu _ _))
 ·simp only[bOw]at h;subst h;obtain⟨e,hu⟩:=aF1 ht;cases hx;cases hy
  refine deep (fun op=>by simp[eqGuard_nil_iface]) (fun op ho=>by rcases ho with rfl|rfl<;>rfl) (eB (bCp 9999 hu _ _))
 ·simp only[bOw]at h;subst h;obtain⟨e,hu⟩:=aF1 ht;cases hx;cases hy
  refine deep (fun op=>aOe (hk rfl)) (fun op ho=>by rcases ho with rfl|rfl<;>rfl) (eB (bCn 9999 hu))
 ·simp only[bOw]at h;subst h;obtain⟨e,hu⟩:=aBq ht;generalize hb:true=b at hy;cases hx with
  |es p cap=>
   cases hy with
   |es q cap'=>cases q<;>simp at hb;exact deep (fun op=>by simp[nJ]) (fun op ho=>by rcases ho with rfl|rfl<;>rfl) (eB (aBp 9999 hu _ _ _ _ _))
 ·simp only[bOw]at h;subst h;obtain⟨e,hu⟩:=aBq ht;generalize hb:true=b at hy;cases hx with
  |fz=>
   cases hy with
   |es q cap'=>cases q<;>simp at hb;exact deep (fun op=>by simp[nJ]) (fun op ho=>by rcases ho with rfl|rfl<;>rfl) (eB (aBp 9999 hu _ _ _ _ _))
 ·simp only[bOw]at h;subst h;obtain⟨e,hu⟩:=aBq ht;generalize hb:true=b at hy;cases hx with
  |cl=>
   cases hy with
   |es q cap'=>cases q<;>simp at hb;exact deep (fun op=>by simp[nJ]) (fun op ho=>by rcases ho with rfl|rfl<;>rfl) (eB (aBp 9999 hu _ _ _ _ _))
 ·simp only[bOw]at h;subst h;obtain⟨e,hu⟩:=aBq ht;generalize hb:true=b at hy;cases hx with
  |bl=>
   cases hy with
   |es q cap'=>cases q<;>simp at hb;exact deep (fun op=>by simp[nJ]) (fun op ho=>by rcases ho with rfl|rfl<;>rfl) (eB (aBp 9999 hu _ _ _ _ _))
 ·cases h
theorem aMq {t:EqT}(ht:pS P ty=some t)(hk:t= .iface->mP ox=true \/mP oy=true)
  (hx:VR T G w X x) (hy:VR T G w Y y) (h:dN op t X Y=some v):
  ∃z,(do eqGuard op ty ox oy x y;binOp op ty x y:Sem Value).run P w= .ok z w/\ VR T G w v z:=by
 have pass: ∀{z:Value},op≠ .eql->op≠ .neq->(binOp op ty x y).run P w= .ok z w->(do eqGuard op ty ox oy x y;binOp op ty x y:Sem Value).run P w= .ok z w:=by
  intro z h1 h2 h3;have:eqGuard op ty ox oy x y=pure ():=by cases op<;>first|rfl|exact absurd rfl h1|exact absurd rfl h2
  rw[this];simpa using h3
 unfold dN at h
 split at h
 ·simp only[bPa]at h;obtain⟨r,hr,rfl⟩:=h;exact⟨_,(aG3 ht hk hx hy hr).1,.bool r⟩
 ·simp only[bPa]at h;obtain⟨r,hr,rfl⟩:=h;exact⟨_,(aG3 ht hk hx hy hr).2,.bool _⟩
 ·rename_i h1 h2
  split at h
  ·rename_i j a k b
   split at h
   ·rename_i hsh;cases hx;cases hy;unfold aQi at h
    split at h
    ·cases h
    ·rename_i hb
     split at h
     ·simp only[bOw]at h;subst h;exact⟨_,pass (by simp) (by simp) (by simp[binOp,Op.shift,hb]),.int _ _⟩
     ·simp only[bOw]at h;subst h;exact⟨_,pass (by simp) (by simp) (by simp[binOp,Op.shift,hb]),.int _ _⟩
     ·cases h
   rename_i hns
   split at h
   ·rename_i e;subst e;cases hx;cases hy;unfold tJ at h
    split at h
    ·simp only[bOw]at h;subst h;exact⟨_,pass (by simp) (by simp) (by simp[binOp_add,Op.intArith]),.int _ _⟩
    ·simp only[bOw]at h;subst h;exact⟨_,pass (by simp) (by simp) (by simp[binOp_sub,Op.intArith]),.int _ _⟩
    ·simp only[bOw]at h;subst h;exact⟨_,pass (by simp) (by simp) (by simp[binOp_mul,Op.intArith]),.int _ _⟩
    ·split at h
     ·cases h
     ·rename_i hb;simp only[bOw]at h;subst h;exact⟨_,pass (by simp) (by simp) (by simp[binOp_quo,Op.intDiv,hb]),.int _ _⟩
    ·split at h
     ·cases h
     ·rename_i hb;simp only[bOw]at h;subst h;exact⟨_,pass (by simp) (by simp) (by simp[binOp_rem,Op.intDiv,hb]),.int _ _⟩
    ·simp only[bOw]at h;subst h;exact⟨_,pass (by simp) (by simp) (by simp[binOp_lss]),.bool _⟩
    ·simp only[bOw]at h;subst h;exact⟨_,pass (by simp) (by simp) (by simp[binOp_leq]),.bool _⟩
    ·simp only[bOw]at h;subst h;exact⟨_,pass (by simp) (by simp) (by simp[binOp_gtr]),.bool _⟩
    ·simp only[bOw]at h;subst h;exact⟨_,pass (by simp) (by simp) (by simp[binOp_geq]),.bool _⟩
    ·simp only[bOw]at h;subst h;exact⟨_,pass (by simp) (by simp) (by simp[binOp,Op.intBits]),.int _ _⟩
    ·simp only[bOw]at h;subst h;exact⟨_,pass (by simp) (by simp) (by simp[binOp,Op.intBits]),.int _ _⟩
    ·simp only[bOw]at h;subst h;exact⟨_,pass (by simp) (by simp) (by simp[binOp,Op.intBits]),.int _ _⟩
    ·simp only[bOw]at h;subst h;exact⟨_,pass (by simp) (by simp) (by simp[binOp,Op.intBits]),.int _ _⟩
    ·cases h
   ·cases h
  ·cases hx;cases hy;unfold aY8 at h
   split at h
   ·simp only[bOw]at h;subst h;exact⟨_,pass (by simp) (by simp) (by simp[binOp,Op.stringOp]),.bool _⟩
   ·simp only[bOw]at h;subst h;exact⟨_,pass (by simp) (by simp) (by simp[binOp,Op.stringOp]),.bool _⟩
   ·simp only[bOw]at h;subst h;exact⟨_,pass (by simp) (by simp) (by simp[binOp,Op.stringOp]),.bool _⟩
   ·simp only[bOw]at h;subst h;exact⟨_,pass (by simp) (by simp) (by simp[binOp,Op.stringOp]),.bool _⟩
   ·split at h
    ·cases h
    ·rename_i hsz;simp only[bOw]at h;subst h;exact⟨_,pass (by simp) (by simp) (by simp only[binOp,Op.stringOp,if_neg hsz];rfl),.str _⟩
   ·cases h
  ·cases h
end Go.Abs
namespace Go.Abs
open Go.RowKit (Below)
variable [Inhabited lX]
def St.mem (st:St)(d:Nat)(r:Res)(q:Nat:=0):St:=
 {fr:=st.fr,en:=W.applyAll st.en r.ws,cnt:=if r.bump then aC st.cnt q d (st.cnt q d+1)else st.cnt}
def Fx (ro:Option Nat):Fence:={Fence.wide with round:=ro}
def eK (P:Program)(Ξ:Env)(B:Nat)(S:Nat->Nat->Prop)(st:St)(N:Nat)(a:Act)(w:World)(o:Oper)(d:Nat)(r:Res)(q:Nat:=0):Prop:=
 ∀(ro:Option Nat) (m:Nat) (next:Act->World->Prop) (Q:Exit->Act->World->Prop),
  (∀x w' G',Rel P Ξ B S G' (st.mem d r q) N a w'->VR (aX B S G' w'.heap.size) G' w' r.v x->Below B w w'->next (a.put o.dst x) w')->o.wpIn (Fx ro) m P a w next Q
variable {P:Program}{w w':World}
theorem pU {ρ:Operand->Value}{o:Oper}{x:Next}(h:(execOp ρ o).run P w= .ok x w')(hx: ∀d,x≠ .defer d)(ro:Option Nat):(o.semAt ro ρ).run P w= .ok x w':=by
 rw[Oper.semAt_eq]
 ·exact h
 ·intro c hc;simp only[execOp,hc,Sem.run_bind]at h;cases hr:(resolve ρ c o.type).run P w with
  |ok d w1=>rw[hr]at h;simp at h;exact hx d h.1.symm
  |halt y w1=>rw[hr]at h;simp[Result.andThen]at h
variable {G' G:Gh}{q i b n off:Nat}{rs:List R}{v:Val}{T:Nat->Nat->Prop}{x:Operand}{y x' y':Opd}{t t' s:TypeId}{z cs:List Val}{op:BinOp}{f:Field}{fs:Array Field}
section
variable {Ξ:Env}{B:Nat}{S:Nat->Nat->Prop}{st:St}{N:Nat}{a:Act}{o:Oper}{d:Nat}{r:Res}
theorem jC {x:Value}(h:(execOp a.eval o).run P w= .ok (.value x) w')(hR:Rel P Ξ B S G' (st.mem d r q) N a w')(hv:VR (aX B S G' w'.heap.size) G' w' r.v x)(hb:Below B w w'):
  eK P Ξ B S st N a w o d r q:=fun ro m next Q k=>by
 refine⟨fun _ _=>trivial,?_⟩
 rw[pU h (by simp)]
 exact k x w' G' hR hv hb
theorem aOf (h:(execOp a.eval o).run P w= .ok .skip w')(hR:Rel P Ξ B S G' (st.mem d r) N a w')(hv:r.v= .tup [])(hb:Below B w w'):
  eK P Ξ B S st N a w o d r:=fun ro m next Q k=>by
 refine⟨fun _ _=>trivial,?_⟩
 rw[pU h (by simp)]
 exact k undef w' G' hR (by rw[hv];exact .tup [] #[] rfl (fun i hi=>by simp at hi)) hb
theorem bZ {x:Value}(hR:Rel P Ξ B S G st N a w)(h:(execOp a.eval o).run P w= .ok (.value x) w)(hv:VR (aX B S G w.heap.size) G w v x):
  eK P Ξ B S st N a w o d {v:=v,rs:=rs} q:=jC h hR hv (Below.refl _ _)
theorem nL {x:Value}(h:zV x=some v):VR T G w v x/\ fK x=true:=by
 unfold zV at h
 split at h<;>simp only[bOw,reduceCtorEq]at h<;>subst h
 ·exact⟨.bool _,rfl⟩
 ·exact⟨.int _ _,rfl⟩
 ·exact⟨.str _,rfl⟩
 ·exact⟨.nilp,rfl⟩
 ·exact⟨.cl0 _,rfl⟩
 ·exact⟨.nilm,rfl⟩
 ·exact⟨.nilf,rfl⟩
 ·exact⟨.nili,rfl⟩
theorem aU (hR:Rel P Ξ B S G st N a w)(h:aO x=some y):VR (aX B S G w.heap.size) G w (St.get st.fr y) (a.eval x):=by
 cases x with
 |tmp t=>simp only[aO,bOw]at h;subst h;exact hR.frame t
 |const v=>simp only[aO,bPa]at h;obtain⟨u,hu,rfl⟩:=h;exact(nL hu).1
 |func f=>simp only[aO,bOw]at h;subst h;exact .fn f [] [] #[] #[] rfl rfl (fun i hi=>by simp at hi) (fun i hi=>by simp at hi)
 |global g=>simp only[aO,bPa]at h;obtain⟨cs,hc,rfl⟩:=h;exact hR.extra _ _ (.inr ⟨g,cs,hc,rfl,rfl⟩)
theorem oV (hR:Rel P Ξ B S G st N a w){xs:List Operand}{ys:List Opd}(h:jH xs=some ys):
  ys.length=xs.length/\ ∀i,i<ys.length->VR (aX B S G w.heap.size) G w ((ys.map (St.get st.fr)).getD i .dead) ((xs.map a.eval).getD i undef):=by
 obtain⟨h1,h2⟩:=eR h
 refine⟨h1,fun i hi=>?_⟩
 have:=aU hR (h2 i (by omega) hi)
 simpa[bO2,hi,show i<xs.length by omega]using this
theorem tP (h:gK P t=some z):
  ∃i v,P.info? t=some i/\ i.zero=some v/\ v.cells.size=z.length/\ (∀j,j<z.length->fK (v.cells.getD j undef)=true)/\ ∀j,j<z.length->VR T G w (z.getD j .dead) (v.cells.getD j undef):=by
 unfold gK at h
 split at h
 ·rename_i v hv;obtain⟨i,hi,hz⟩:=bO9.1 hv;obtain⟨h1,h2⟩:=eR h;simp only[bQ4]at h1;have h3: ∀j (hj:j<z.length),zV (v.cells.getD j undef)=some (z.getD j .dead):=fun j hj=>by
   have:=h2 j (by simpa using(by omega:j<v.cells.size)) hj
   simpa[bO2,bPc,hj,show j<v.cells.size by omega]using this
  exact⟨i,v,hi,hz,h1.symm,fun j hj=>(nL (G:=G) (w:=w) (T:=T) (h3 j hj)).2,fun j hj=>(nL (h3 j hj)).1⟩
 ·cases h
theorem gH {i:TypeInfo}{v:Value}(hi:P.info? t=some i)(hz:i.zero=some v):(zeroValue t).run P w= .ok v w:=by
 simp[zeroValue,typeInfo,hi,hz]
theorem aVw (hR:Rel P Ξ B S G st N a w){c:Array Value}(hs:c.size=cs.length)(ho: ∀j,j<cs.length->fK (c.getD j undef)=true)
  (hv: ∀j,j<cs.length->VR (aX B S G w.heap.size) G w (cs.getD j .dead) (c.getD j undef)):
  ∃G',Rel P Ξ B S G' {fr:=st.fr,en:=st.en.set ⟨0,d,st.cnt 0 d⟩ (some (.box cs false)),cnt:=aC st.cnt 0 d (st.cnt 0 d+1)} N a (w.alloc (.cells c t))/\
   G'.box ⟨0,d,st.cnt 0 d⟩=some w.heap.size:=by
 have hf:=hR.freshG ⟨0,d,st.cnt 0 d⟩ (bOy _)
 refine⟨G.addBox ⟨0,d,st.cnt 0 d⟩ w.heap.size,hR.alloc d _ _ _ (Gh.le_addBox hf.1) (fun b hb=>by simp[Gh.addBox,hb]) (fun k hk=>?_) (fun k t h=>?_) ?_,by simp[Gh.addBox]⟩
 ·simp[Gh.addBox,hk]
 ·simp[Gh.addBox]at h;exact h.1.symm
 ·have m:=oU (B:=B) (S:=S) (w:=w) (o:= .cells c t) (Gh.le_addBox (b:=w.heap.size) hf.1) (fun b hb=>by simp[Gh.addBox,hb])
  exact .box cs false w.heap.size c t (by simp[Gh.addBox]) hR.size (fF _ _) hs ho (fun j hj=>(hv j hj).mono m) (by simp[Gh.addBox])
theorem mY (hR:Rel P Ξ B S G st N a w)(o:Obj):Below B w (w.alloc o):=(Below.refl B w).alloc hR.size o
theorem bEx (hR:Rel P Ξ B S G st N a w)(ho:o.op= .move x \/o.op= .assign x)(h:aO x=some y):eK P Ξ B S st N a w o d {v:=St.get st.fr y}:=by
 refine bZ hR ?_ (aU hR h)
 rcases ho with ho|ho<;>simp[execOp,ho]
theorem bCq (hR:Rel P Ξ B S G st N a w){c y:Operand}{c':Opd}{b:Bool}(ho:o.op= .pick c x y)(h1:aO c=some c')(h2:aO x=some x')(h3:aO y=some y')(hb:St.get st.fr c'= .bool b):
  eK P Ξ B S st N a w o d {v:=if b then St.get st.fr x' else St.get st.fr y'}:=by
 have hc:=aU hR h1;rw[hb]at hc;have hc':a.eval c= .bool b:=by generalize a.eval c=u at hc;cases hc;rfl
 refine bZ (x:=if b then a.eval x else a.eval y) hR ?_ ?_
 ·simp[execOp,ho,hc',asBool]
 ·cases b
  ·exact aU hR h3
  ·exact aU hR h2
theorem aZi (hR:Rel P Ξ B S G st N a w)(ho:o.op= .alloc t)(h:gK P t=some z):
  eK P Ξ B S st N a w o d {v:= .ptr ⟨0,d,st.cnt 0 d⟩ 0,ws:=[.ent ⟨0,d,st.cnt 0 d⟩ (some (.box z false))],bump:=true}:=by
 obtain⟨i,v,hi,hz,hs,ho1,hv⟩:=tP (P:=P) (G:=G) (w:=w) (T:=aX B S G w.heap.size) h;obtain⟨G',hR',hb⟩:=aVw (t:=t) (d:=d) hR hs ho1 hv
 refine jC (x:= .pointer (some ⟨w.heap.size,0,none⟩)) (G':=G') ?_ hR' (.ptr _ _ _ hb) (mY hR _)
 simp[execOp,ho,Instr.alloc,gH hi hz,newVar,newRow]
theorem bFw (hR:Rel P Ξ B S G st N a w)(ho:o.op= .box t x)(h:aO x=some y)(h1:(St.get st.fr y).one=true):
  eK P Ξ B S st N a w o d {v:= .ptr ⟨0,d,st.cnt 0 d⟩ 0,ws:=[.ent ⟨0,d,st.cnt 0 d⟩ (some (.box (St.get st.fr y).cells false))],bump:=true}:=by
 obtain⟨hs,ho1,hv⟩:=(aU hR h).cells (fun vs e=>by rw[e]at h1;cases h1)
 obtain⟨G',hR',hb⟩:=aVw (t:=t) (d:=d) hR hs ho1 hv
 refine jC (x:= .pointer (some ⟨w.heap.size,0,none⟩)) (G':=G') ?_ hR' (.ptr _ _ _ hb) (mY hR _)
 simp[execOp,ho,Instr.box,newVar,newRow]
theorem aZj (hR:Rel P Ξ B S G st N a w)(ho:o.op= .nilCheck x)(h:aO x=some y)
  (hv:(match St.get st.fr y with
   | .fp cs off=>some {v:= .fp cs off}
   | .ptr k off=>some {v:= .ptr k off}
   | .ep k i off=>some {v:= .ep k i off}
   | .fn f a b=>some {v:= .fn f a b}
   | .ifc t v=>some {v:= .ifc t v}
   |_=>none)=some ({v:=v}:Res)):eK P Ξ B S st N a w o d {v:=v}:=by
 have hx:=aU hR h;have key: ∀u,VR (aX B S G w.heap.size) G w v u->a.eval x=u->(u≠ .pointer none/\ u≠ .nilIface/\ u≠ .nilFunc/\ ∀n p q,u≠ .func (.method n) p q)->eK P Ξ B S st N a w o d {v:=v}:=by
  intro u hu he ⟨n1,n2,n3,n4⟩
  refine bZ (x:=u) hR ?_ hu
  simp only[execOp,ho,he];cases u with
  |pointer p=>cases p with
   |none=>exact absurd rfl n1
   |some p=>rfl
  |nilIface=>exact absurd rfl n2
  |nilFunc=>exact absurd rfl n3
  |func f p q=>cases f with
   |method n=>exact absurd rfl (n4 n p q)
   |_=>rfl
  |_=>rfl
 generalize hg:a.eval x=u at hx
 split at hv<;>simp only[bOw,Res.mk.injEq,reduceCtorEq,and_true]at hv<;>subst hv<;>rename_i he<;>rw[he]at hx
 ·exact key u hx hg (by cases hx;exact⟨by simp,by simp,by simp,by simp⟩)
 ·exact key u hx hg (by cases hx;exact⟨by simp,by simp,by simp,by simp⟩)
 ·exact key u hx hg (by cases hx;exact⟨by simp,by simp,by simp,by simp⟩)
 ·exact key u hx hg (by cases hx;exact⟨by simp,by simp,by simp,by simp⟩)
 ·exact key u hx hg (by cases hx;exact⟨by simp,by simp,by simp,by simp⟩)
theorem bFx (hR:Rel P Ξ B S G st N a w){y:Operand}{e:EqT}(ho:o.op= .binOp op t x y t')(ht:pS P t=some e)(hk:e= .iface->mP x=true \/mP y=true)(h1:aO x=some x')(h2:aO y=some y')
  (hv:dN op e (St.get st.fr x') (St.get st.fr y')=some v):eK P Ξ B S st N a w o d {v:=v}:=by
 obtain⟨z,hz,hzv⟩:=aMq (ox:=x) (oy:=y) ht hk (aU hR h1) (aU hR h2) hv
 refine bZ (x:=z) hR ?_ hzv
 simp only[Sem.run_bind]at hz;simp only[execOp,ho,Sem.run_bind,hz,Result.andThen_ok,Sem.run_pure]
theorem aTy (hR:Rel P Ξ B S G st N a w)(ho:o.op= .binOp op t x (.const (.slice none 0 0)) t')(ht:pS P t=some .slice)(h1:aO x=some x')
  (hv:dN op .slice (St.get st.fr x') (.es true)=some v):eK P Ξ B S st N a w o d {v:=v}:=by
 obtain⟨z,hz,hzv⟩:=aMq (ox:=x) (oy:= .const (.slice none 0 0)) (y:= .slice none 0 0) ht (fun h=>by cases h) (aU hR h1) (.es none 0) hv
 refine bZ (x:=z) hR ?_ hzv
 simp only[Sem.run_bind]at hz;have hc:a.eval (.const (.slice none 0 0))= .slice none 0 0:=rfl;simp only[execOp,ho,Sem.run_bind,hc,hz,Result.andThen_ok,Sem.run_pure]
theorem bH8 (hR:Rel P Ξ B S G st N a w){op:UnOp}(ho:o.op= .unOp op t x)(h1:aO x=some x')
  (hv:(match op,St.get st.fr x' with
  | .not,.bool b=>some {v:= .bool !b}
  | .neg,.int k a=>some {v:= .int k (k.wrap (0-a))}
  |_,_=>none)=some ({v:=v}:Res)):eK P Ξ B S st N a w o d {v:=v}:=by
 have hx:=aU hR h1;have key:(op= .not/\ ∃b,St.get st.fr x'= .bool b/\ v= .bool !b) \/(op= .neg/\ ∃k n,St.get st.fr x'= .int k n/\ v= .int k (k.wrap (0-n))):=by
  split at hv<;>simp only[bOw,Res.mk.injEq,reduceCtorEq,and_true]at hv
  ·exact .inl ⟨rfl,_,by assumption,hv.symm⟩
  ·exact .inr ⟨rfl,_,_,by assumption,hv.symm⟩
 generalize hg:a.eval x=u at hx;rcases key with⟨rfl,b,he,rfl⟩|⟨rfl,k,n,he,rfl⟩<;>rw[he]at hx<;>cases hx
 ·refine bZ (x:= .bool !b) hR ?_ (.bool _)
  simp[execOp,ho,hg,Op.unary]
 ·refine bZ (x:= .int k (k.wrap (0-n))) hR ?_ (.int _ _)
  simp[execOp,ho,hg,Op.unary,Op.intArith]
theorem bCr (hR:Rel P Ξ B S G st N a w){k j j':IntKind}{n:Int}(ho:o.op= .convert s t x)(hs:P.underlying s=some (.int j'))(ht:P.underlying t=some (.int k))(h1:aO x=some x')
  (hv:St.get st.fr x'= .int j n):eK P Ξ B S st N a w o d {v:= .int k (k.wrap n)}:=by
 have hx:=aU hR h1;generalize hg:a.eval x=u at hx;rw[hv]at hx;cases hx
 refine bZ (x:= .int k (k.wrap n)) hR ?_ (.int _ _)
 simp[execOp,ho,hg,convert,run_underlying hs,run_underlying ht,Conv.intToInt]
theorem aZk (hR:Rel P Ξ B S G st N a w)(ho:o.op= .makeInterface t x)(ht: ∀ms,P.underlying t≠some (.interface ms))(ht':P.underlying t≠none)(h1:aO x=some x'):
  eK P Ξ B S st N a w o d {v:= .ifc t (St.get st.fr x')}:=by
 obtain⟨e,he⟩:=Option.ne_none_iff_exists'.1 ht'
 refine bZ (x:= .iface t (a.eval x)) hR ?_ (.ifc _ _ _ (aU hR h1))
 simp only[execOp,ho,Instr.makeInterface,Sem.run_bind,run_underlying he,Result.andThen_ok];cases e<;>first|(simp;done)|exact absurd he (ht _)
theorem bFy (hR:Rel P Ξ B S G st N a w){vs:List Val}(ho:o.op= .extract x i)(h1:aO x=some x')(hv:St.get st.fr x'= .tup vs)(hi:vs[i]?=some v):
  eK P Ξ B S st N a w o d {v:=v}:=by
 have hx:=aU hR h1;generalize hg:a.eval x=u at hx;rw[hv]at hx;cases hx with
 |tup _ us hs hu=>
  obtain⟨hlt,hget⟩:=aD9 hi;have:=hu i hlt;rw[hget]at this
  refine bZ (x:=us.getD i undef) hR ?_ this
  simp[execOp,ho,hg,Instr.extract,show i<us.size by omega]
theorem bCs (hR:Rel P Ξ B S G st N a w){f:Nat}{x y:Array Operand}{x' y':List Opd}(ho:o.op= .makeFunc (.func f) x y)(h1:jH x.toList=some x')(h2:jH y.toList=some y'):
  eK P Ξ B S st N a w o d {v:= .fn f (x'.map (St.get st.fr)) (y'.map (St.get st.fr))}:=by
 obtain⟨l1,v1⟩:=oV hR h1;obtain⟨l2,v2⟩:=oV hR h2;have conv: ∀(z:Array Operand) (i:Nat),(z.map a.eval).getD i undef=(z.toList.map a.eval).getD i undef:=by
  intro z i;simp[bO2,bPc]
 refine bZ (x:= .func (.func f) (x.map a.eval) (y.map a.eval)) hR ?_ (.fn f _ _ _ _ (by simp[l1]) (by simp[l2]) (fun i hi=>?_) (fun i hi=>?_))
 ·simp[execOp,ho,Instr.makeFunc]
 ·rw[conv];exact v1 i (by simpa using hi)
 ·rw[conv];exact v2 i (by simpa using hi)
theorem aW2 (h:G.le G'):jJ T G w T G' w:=⟨fun _ _ h=>h,h,fun _ _ _ _ h=>h,fun _ _ _ _ h=>h,fun _ _ h=>h,fun _ r h=>⟨r,h⟩⟩
theorem ER.elem {k:Key}{xs:List Val}{frz:Bool}{base sz sz0 C:Nat}(h:ER P B T G w k (.blk sz0 xs frz))(hb:G.blk k=some (some (b,base,sz,C)))(hi:i<xs.length):
  (xs.getD i .dead).cells.length=sz/\ ∀j,j<sz-> ∃c,w.cell? ⟨b,base+i*sz+j,.none⟩=some c/\ fK c=true/\ VR T (G.at k) w ((xs.getD i .dead).cells.getD j .dead) c:=by
 cases h with
 |nul _ frz h=>simp at hi
 |blk xs frz b1 base1 sz0 C1 thr c t hb1 hB hh hC hC' hs ho hv hown hthr=>
  rw[hb1]at hb;simp only[bOw,bO1]at hb;obtain⟨rfl,rfl,rfl,rfl⟩:=hb
  refine⟨hs i hi,fun j hj=>⟨c.getD (base1+i*sz0+j) undef,?_,ho i j hi hj,hv i j hi hj⟩⟩
  have hlt:base1+i*sz0+j<c.size:=by
   have:i*sz0+sz0<=C1*sz0:=by rw[<-bQl];exact bP5 _ (by omega)
   omega
  rw[lY hh];simp[bPc,hlt]
 |full xs b1 base1 sz0 c hb1 hs hh ht ho hv=>
  rw[hb1]at hb;simp only[bOw,bO1]at hb;obtain⟨rfl,rfl,rfl,rfl⟩:=hb;exact⟨hs i hi,fun j hj=>⟨c i j,hh i j hi hj,ho i j hi hj,(hv i j hi hj).into _⟩⟩
theorem rJ {j:Nat}(hj:j<n)(h:off+n<=cs.length):((cs.drop off).take n).getD j .dead=cs.getD (off+j) .dead:=kV hj h
theorem aI8 {X:Val}{x:Value}(hR:Rel P Ξ B S G st N a w)(hx:VR (aX B S G w.heap.size) G w X x)(h:sB st.en X n=some (cs,rs)):
  ∃b off,x= .pointer (some ⟨b,off,.none⟩)/\ cs.length=n/\ ∀j,j<n-> ∃c,w.cell? ⟨b,off+j,.none⟩=some c/\ fK c=true/\ VR (aX B S G w.heap.size) G w (cs.getD j .dead) c:=by
 unfold sB at h
 split at h
 ·rename_i k off
  split at h
  ·rename_i ds f he
   split at h
   ·rename_i hl;simp only[bOw,bO1]at h;obtain⟨rfl,_⟩:=h;cases hx with
    |ptr _ _ b hb=>
    have hE:=hR.ents k _ he (Gh.knows_box hb);cases hE with
    |box _ _ b' c t hb' hB hh hs ho hv hown=>
     rw[hb]at hb';simp only[bOw]at hb';subst hb'
     refine⟨b,off,rfl,by simp;omega,fun j hj=>⟨c.getD (off+j) undef,?_,ho _ (by omega),?_⟩⟩
     ·rw[lY hh];simp[show off+j<c.size by omega]
     ·rw[rJ hj hl];exact hv _ (by omega)
   ·cases h
  ·cases h
 ·rename_i k i off
  split at h
  ·rename_i sz0 xs f he
   split at h
   ·rename_i x' hx'
    split at h
    ·rename_i hl;simp only[bOw,bO1]at h;obtain⟨rfl,_⟩:=h;cases hx with
     |ep _ _ _ b base sz C hb hi=>
     obtain⟨hi',hg⟩:=aD9 hx';obtain⟨h1,h2⟩:=(hR.ents k _ he (Gh.knows_blk hb)).elem hb hi';rw[hg]at h1 h2
     refine⟨b,base+i*sz+off,rfl,by simp;omega,fun j hj=>?_⟩
     obtain⟨c,c1,c2,c3⟩:=h2 (off+j) (by omega)
     refine⟨c,by rw[bQo];exact c1,c2,?_⟩
     rw[rJ hj hl];exact c3.out
    ·cases h
   ·cases h
  ·cases h
 ·split at h
  ·rename_i ds off hl;simp only[bOw,bO1]at h;obtain⟨rfl,_⟩:=h;cases hx with
   |fp _ _ b base c hh ht ho hv=>
   refine⟨b,base+off,rfl,by simp;omega,fun j hj=>⟨c (off+j),?_,ho _ (by omega),?_⟩⟩
   ·rw[bQo];exact hh _ (by omega)
   ·rw[rJ hj hl];exact(hv _ (by omega)).mono (aW2 (Gh.none_le G))
  ·cases h
 ·cases h
theorem rK (b off j:Nat):(⟨b,off,.none⟩:Addr).add j=⟨b,off+j,.none⟩:=by
 unfold Addr.add;split
 ·rename_i h;subst h;rfl
 ·rfl
theorem zY (hu:(P.underlying t).isSome=true)(hn:P.cellsOf t=n)(hl:cs.length=n)
  (hc: ∀j,j<n-> ∃c,w.cell? ⟨b,off+j,.none⟩=some c/\ fK c=true/\ VR T G w (cs.getD j .dead) c) (hv:iM (cZ P t) cs=some v):
  ∃x,(loadVar t ⟨b,off,.none⟩).run P w= .ok x w/\ VR T G w v x:=by
 obtain⟨e,he⟩:=bQk.1 hu;obtain⟨i,hi⟩:=lH he;have h1: ∀j,∃c,j<n->w.cell? ⟨b,off+j,.none⟩=some c/\ fK c=true/\ VR T G w (cs.getD j .dead) c:=fun j=>by
  by_cases hj:j<n
  ·obtain⟨c,hc⟩:=hc j hj;exact⟨c,fun _=>hc⟩
  ·exact⟨undef,fun h=>absurd h hj⟩
 obtain⟨c,hc⟩:=Classical.axiomOfChoice h1;cases ha:cZ P t with
 |true=>
  rw[ha]at hv;simp only[iM,if_true,bOw]at hv;subst hv;have hget: ∀j,j<n->((List.range n).map c).toArray.getD j undef=c j:=fun j hj=>by
   simp[bPc,List.getElem?_range hj]
  refine⟨.agg ((List.range n).map c).toArray,?_,?_⟩
  ·simp only[loadVar,Sem.run_bind,aBo (P:=P) (t:=t) (w:=w) (by rw[he];simp),ha,Result.andThen_ok,if_true,eE hi,hn]
   rw[run_loadCells w _ n c (fun j hj=>by rw[rK];exact(hc j hj).1)]
   simp
  ·refine .agg cs _ (by simp[hl]) (fun j hj=>?_) (fun j hj=>?_)<;>rw[hget j (by omega)]
   ·exact(hc j (by omega)).2.1
   ·exact(hc j (by omega)).2.2
 |false=>
  rw[ha]at hv;simp only[iM,bO0,if_false]at hv
  split at hv
  ·simp only[bOw]at hv;subst hv
   simp at hl;subst hl
   have:=hc 0 (by omega)
   refine⟨c 0,?_,by simpa using this.2.2⟩
   simp only[loadVar,Sem.run_bind,aBo (P:=P) (t:=t) (w:=w) (by rw[he];simp),ha,Result.andThen_ok,bO0,if_false]
   have h0:=this.1;rw[bQh]at h0;simp[run_load,h0]
  ·cases hv
theorem bCt (hR:Rel P Ξ B S G st N a w)(ho:o.op= .load t x)(hu:(P.underlying t).isSome=true)(h:aO x=some y)
  (hr:sB st.en (St.get st.fr y) (P.cellsOf t)=some (cs,rs)) (hv:iM (cZ P t) cs=some v):eK P Ξ B S st N a w o d {v:=v,rs:=rs}:=by
 obtain⟨b,off,hx,hl,hc⟩:=aI8 hR (aU hR h) hr;obtain⟨u,hu',hvu⟩:=zY hu rfl hl hc hv
 refine bZ (x:=u) hR ?_ hvu
 simp[execOp,ho,hx,Instr.loadAt,Instr.sureAddr,hu']
theorem bH9 (hR:Rel P Ξ B S G st N a w)(ho:o.op= .fieldAddr s x i)(hs:P.underlying s=some (.struct fs))(hf:fs[i]?=some f)
  (hz:P.cellsOf f.type≠0) (h:aO x=some y) (hv:(match St.get st.fr y with
   | .fp cs o=>some {v:= .fp cs (o+f.offset)}
   | .ptr k o=>some {v:= .ptr k (o+f.offset)}
   | .ep k i o=>some {v:= .ep k i (o+f.offset)}
   |_=>none)=some ({v:=v}:Res)):eK P Ξ B S st N a w o d {v:=v}:=by
 have hx:=aU hR h;obtain⟨ti,hti⟩:=aF0 hz;have run: ∀b off,a.eval x= .pointer (some ⟨b,off,.none⟩)->(execOp a.eval o).run P w= .ok (.value (.pointer (some ⟨b,off+f.offset,.none⟩))) w:=by
  intro b off he;simp[execOp,ho,he,Instr.fieldAt,run_underlying hs,hf,Instr.sureAddr,fieldPlace,eE hti,hz,rK]
 split at hv<;>simp only[bOw,Res.mk.injEq,reduceCtorEq,and_true]at hv<;>subst hv<;>rename_i he<;>rw[he]at hx
 ·generalize hg:a.eval x=u at hx;cases hx with
  |fp _ _ b base c hh ht ho' hv=>exact bZ hR (run _ _ hg) (by rw[bQo];exact .fp _ _ b base c hh ht ho' hv)
 ·generalize hg:a.eval x=u at hx;cases hx with
  |ptr _ _ b hb=>exact bZ hR (run _ _ hg) (.ptr _ _ b hb)
 ·generalize hg:a.eval x=u at hx;cases hx with
  |ep _ _ _ b base sz C hb hi=>exact bZ hR (run _ _ hg) (by rw[bQo];exact .ep _ _ _ b base sz C hb hi)
theorem bFz (hR:Rel P Ξ B S G st N a w)(ho:o.op= .field s x i)(hs:P.underlying s=some (.struct fs))(hf:fs[i]?=some f)
  (hu:(P.underlying f.type).isSome=true) (h:aO x=some y) (hg:St.get st.fr y= .agg cs) (hl:f.offset+P.cellsOf f.type<=cs.length) (hv:iM (cZ P f.type) ((cs.drop f.offset).take (P.cellsOf f.type))=some v):
  eK P Ξ B S st N a w o d {v:=v}:=by
 have hx:=aU hR h;rw[hg]at hx;generalize hgx:a.eval x=u at hx;cases hx with
 |agg _ us hus hou hvu=>
 obtain⟨e,he⟩:=bQk.1 hu;have fin: ∀u,(part f.type us f.offset).run P w= .ok u w->VR (aX B S G w.heap.size) G w v u->eK P Ξ B S st N a w o d {v:=v}:=fun u h1 h2=>
  bZ hR (by simp[execOp,ho,hgx,Instr.field,run_underlying hs,hf,asAgg,h1]) h2
 cases ha:cZ P f.type with
 |true=>
  rw[ha]at hv;simp only[iM,if_true,bOw]at hv;subst hv;obtain⟨u,h1,h2⟩:=aI2 (w:=w) (off:=f.offset) ha rfl hl hus hou hvu;exact fin u h1 h2
 |false=>
  rw[ha]at hv;simp only[iM,bO0,if_false]at hv
  split at hv
  ·rename_i v' hv';simp only[bOw]at hv;subst hv;have hlen:((cs.drop f.offset).take (P.cellsOf f.type)).length=1:=by rw[hv'];rfl
   have hlt:f.offset<cs.length:=by simp at hlen;omega
   have h0:=rJ (cs:=cs) (off:=f.offset) (n:=P.cellsOf f.type) (j:=0) (by simp at hlen;omega) hl
   rw[hv']at h0;simp only[bQh,bRt]at h0;exact fin _ (aI3 ha (by omega) (by rw[he];simp)) (by rw[h0];exact hvu _ hlt)
  ·cases hv
end
end Go.Abs
