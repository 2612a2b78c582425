/- The interpreter of the translated code, and its proof: part A. -/
import Derived.Calls
import Derived.Below
import Derived.WalkKit
import Derived.ChangeKeysEq
import Derived.WalkLawsBesides
import Derived.WalkSpells
set_option linter.all false
open Array renaming getD_eq_getD_getElem? → bXt, getElem?_eq_some_iff → bY8, getElem?_setIfInBounds → bZn
open Bool renaming and_eq_true → bXb, false_eq_true → bXc, not_true → bXp
open List renaming cons_append → bZg, drop_eq_getElem_cons → bX7, getD_eq_getElem?_getD → bXm, getElem?_cons_succ → bXh, getElem?_drop → bZ0, getElem_mem → bXn, length_append → bX8, length_cons → bXu, mem_append_left → bYo, mem_append_right → bYl, mem_cons → bYe, mem_flatMap → bYk, take_zero → bY9
open Nat renaming add_mul → bYq, le_refl → bXd, le_trans → bYd, lt_of_lt_of_le → bYg, mul_le_mul_right → bYj, succ_mul → bYv, zero_add → bX2
open Option renaming map_eq_some_iff → bXq
open Option.some renaming injEq → bXa
open Prod.mk renaming injEq → bXk
namespace Go.Abs
theorem cAg {p:Prop}[Decidable p]:(decide p=true)=p:=decide_eq_true_eq
theorem cAh {p:Prop}[Decidable p]:decide p=false↔ ¬p:=decide_eq_false_iff_not
structure Key where
 n:Nat
 t:Nat
 g:Nat
 deriving DecidableEq
inductive Val where
 |dead
 |bool (b:Bool)
 |int (k:IntKind) (n:Int)
 |str (s:ByteArray)
 |nilp
 |fp (cs:List Val) (off:Nat)
 |ptr (k:Key) (off:Nat)
 |ep (k:Key) (i off:Nat)
 |fz (xs:List Val)
 |cl (xs:List Val)
 |bl (k:Key) (off len:Nat)
 |nilm
 |fm (ks vs:List Val)
 |mp (k:Key)
 |nilf
 |fn (f:Nat) (first cap:List Val)
 |yld (k:Key)
 |nili
 |es (nil:Bool)
 |it (k:Key)
 |own (sz:Nat) (xs:List Val)
 |ifc (t:Nat) (v:Val)
 |agg (cs:List Val)
 |tup (vs:List Val)
 deriving Inhabited
namespace Val
def cells :Val->List Val
 |agg cs=>cs
 |v=>[v]
def one :Val->Bool
 |tup _=>false
 |_=>true
def wk0 :Val->Val
 |cl xs=>fz xs
 |v=>v
def wk1 :Val->Val
 |agg cs=>agg (cs.map wk0)
 |v=>wk0 v
def wk :Val->Val
 |tup vs=>tup (vs.map wk1)
 |v=>wk1 v
def flat0 :Val->Bool
 |bool _|int _ _|str _|nilp|nilm|nilf|nili=>true
 |_=>false
def flat1 :Val->Bool
 |agg cs=>cs.all flat0
 |ifc _ (agg cs)=>cs.all flat0
 |ifc _ v=>flat0 v
 |v=>flat0 v
def flat :Val->Bool
 |tup vs=>vs.all flat1
 |v=>flat1 v
end Val
inductive Opd where
 |t (i:Nat)
 |c (v:Val)
 |f (i:Nat)
 |m (tbl:List (Nat×Nat)) (i:Nat)
 deriving Inhabited
inductive CT where
 |num|str|bool
 deriving DecidableEq,Inhabited
inductive EqT where
 |num|str|bool|agg (l:List CT)|map|slice|func|iface|ptr
 deriving DecidableEq,Inhabited
inductive LOp where
 |mv (x:Opd)
 |pick (c a b:Opd)
 |alloc (z:List Val)
 |box (n:Nat) (x:Opd)
 |build (z:List Val) (parts:List (Nat×Nat×Opd))
 |bslice (len size:Nat) (z:List Val) (parts:List (Nat×Opd))
 |load (agg:Bool) (n:Nat) (a:Opd)
 |store (n:Nat) (a v:Opd)
 |nilck (x:Opd)
 |bin (op:BinOp) (t:EqT) (x y:Opd)
 |un (op:UnOp) (x:Opd)
 |wrap (k:IntKind) (x:Opd)
 |iface (t:Nat) (x:Opd)
 |assert (t:Nat) (z:Val) (ok:Bool) (x:Opd)
 |mkfn (f:Nat) (first cap:List Opd)
 |mkmap
 |mput (t:EqT) (m k v:Opd)
 |mget (t:EqT) (z:Val) (ok:Bool) (m k:Opd)
 |mklen (size:Nat) (z:List Val) (len cap:Opd)
 |slice (str:Bool) (size:Nat) (x:Opd) (lo hi mx:Option Opd)
 |fa (off:Nat) (x:Opd)
 |fld (agg:Bool) (off n:Nat) (x:Opd)
 |ia (size:Nat) (x i:Opd)
 |iaa (len size:Nat) (x i:Opd)
 |ixs (x i:Opd)
 |ixa (agg:Bool) (len size:Nat) (x i:Opd)
 |ext (i:Nat) (x:Opd)
 |call (f:Opd) (args:List Opd)
 |icall (f:Opd) (args:List Opd)
 |len (t:EqT) (x:Opd)
 |append (size:Nat) (x y:Opd)
 |copy (size:Nat) (x y:Opd)
 |minmax (max:Bool) (xs:List Opd)
 |rng (x:Opd)
 |nxt (x:Opd)
 deriving Inhabited
def LOp.opds :LOp->List Opd
 | .rng x| .nxt x| .mv x| .box _ x| .load _ _ x| .nilck x| .un _ x| .wrap _ x| .iface _ x| .assert _ _ _ x| .fa _ x| .fld _ _ _ x| .ext _ x| .len _ x=>[x]
 | .pick a b c| .mput _ a b c=>[a,b,c]
 | .alloc _| .mkmap=>[]
 | .build _ ps=>ps.map fun p=>p.2.2
 | .bslice _ _ _ ps=>ps.map fun p=>p.2
 | .store _ x y| .bin _ _ x y| .mget _ _ _ x y| .mklen _ _ x y| .ia _ x y| .iaa _ _ x y| .ixs x y| .ixa _ _ _ x y| .append _ x y| .copy _ x y=>[x,y]
 | .mkfn _ a b=>a++b
 | .slice _ _ x lo hi mx=>x::(lo.toList++hi.toList++mx.toList)
 | .call f l| .icall f l=>f::l
 | .minmax _ l=>l
def LOp.writesMem :LOp->Bool
 | .rng _| .nxt _| .alloc _| .box .. | .store .. | .mput .. | .mkmap| .mklen .. | .bslice .. | .call .. | .icall .. | .append .. | .copy .. =>true
 |_=>false
def LOp.readsMem :LOp->Bool
 | .nxt _| .load .. | .mget .. | .bslice .. | .store .. | .mput .. | .ia .. | .call .. | .icall .. | .append .. | .copy .. | .slice .. | .len .. =>true
 |_=>false
structure bH where
 dst:Option Nat
 op:LOp
 guard:Option (Nat×Bool)
 deriving Inhabited
def Opd.tmp :Opd->List Nat
 | .t i=>[i]
 | .m _ i=>[i]
 |_=>[]
def bH.uses (o:bH):List Nat:=
 o.op.opds.flatMap Opd.tmp++(match o.guard with|some (t,_)=>[t]|none=>[])
inductive cD where
 |skip
 |ops (l:List bH)
 |draw (l:List bH) (pairs:List (Nat×Nat))
 |seq (a b:cD)
 |cond (c:Opd) (x y:cD)
 |block (id:Nat) (b:cD)
 |loop (b:cD)
 |exit (id:Nat)
 |ret
 |rangeF (g:Opd) (ps:List Nat) (assign body:cD)
 deriving Inhabited
inductive aVl where
 |tmp (t:Nat)
 |cell (t:Nat) (agg:Bool) (n:Nat)
 deriving Inhabited
structure aM where
 np:Nat
 res:List aVl
 keep:Bool
 amb:Bool:=false
 body:cD
 deriving Inhabited
abbrev cV :=Nat->Option aM
inductive Ex where
 |normal
 |exit (id:Nat)
 |ret
 deriving DecidableEq
inductive LSt where
 |ready
 |busy
 |done (e:Ex)
 |over
inductive Ent where
 |box (cs:List Val) (frz:Bool)
 |blk (sz:Nat) (xs:List Val) (frz:Bool)
 |map (ks vs:List Val) (frz:Bool)
 |loop (fr:Nat->Val) (ps:List Nat) (assign body:cD) (s:LSt)
 |iter (s:ByteArray) (pos:Nat)
 deriving Inhabited
abbrev En :=Key->Option Ent
def En.set (en:En)(k:Key)(e:Option Ent):En:=fun k'=>if k'=k then e else en k'
structure St where
 fr:Nat->Val
 en:En
 cnt:Nat->Nat->Nat
def kB (fr:Nat->Val)(d:Nat)(v:Val):Nat->Val:=fun i=>if i=d then v else fr i
def aQ (c:Nat->Nat->Nat)(n t x:Nat):Nat->Nat->Nat:=fun n' t'=>if n'=n/\ t'=t then x else c n' t'
def dO {α β:Type}(f:α->Option β):List α->Option (List β)
 |[]=>some []
 |x::xs=>match f x with
  |some y=>match dO f xs with
   |some ys=>some (y::ys)
   |none=>none
  |none=>none
def snap :Nat->En->Val->Option (Val×List Key)
 |0,_,v=>match v with
  | .agg _| .tup _| .yld _| .it _=>none
  |_=>some (.dead,[])
 |n+1,en,v=>
  let l (vs:List Val):Option (List Val×List Key):=(dO (snap n en) vs).map fun rs=>(rs.map (·.1),rs.flatMap (·.2))
  match v with
  | .ptr k off=>match en k with
   |some (.box cs _)=>(l cs).map fun r=>(.fp r.1 off,k::r.2)
   |_=>none
  | .ep k i off=>match en k with
   |some (.blk _ xs _)=>match xs[i]? with
    |some x=>some (.fp x.cells off,[k])
    |none=>none
   |_=>none
  | .bl k off len=>match en k with
   |some (.blk _ xs _)=>if off+len<=xs.length then some (.fz ((xs.drop off).take len),[k])else none
   |_=>none
  | .mp k=>match en k with
   |some (.map ks vs _)=>some (.fm ks vs,[k])
   |_=>none
  | .yld _| .it _=>none
  | .fn f a b=>match l a,l b with
   |some x,some y=>some (.fn f x.1 y.1,x.2++y.2)
   |_,_=>none
  | .ifc t v=>(snap n en v).map fun r=>(.ifc t r.1,r.2)
  | .agg cs=>(l cs).map fun r=>(.agg r.1,r.2)
  | .tup vs=>(l vs).map fun r=>(.tup r.1,r.2)
  |v=>some (v,[])
def kY (f:Val->Val->Bool):List Val->List Val->Bool
 |[],[]=>true
 |x::xs,y::ys=>f x y&&kY f xs ys
 |_,_=>false
def kR :Nat->Val->Val->Bool
 |0,_,_=>false
 |n+1,x,y=>match x,y with
  | .dead,.dead| .nilp,.nilp| .nilm,.nilm| .nilf,.nilf| .nili,.nili=>true
  | .bool a,.bool b| .es a,.es b=>a==b
  | .int j a,.int k b=>decide (j=k)&&decide (a=b)
  | .str a,.str b=>decide (a.data.toList=b.data.toList)
  | .fp a i,.fp b j=>decide (i=j)&&kY (kR n) a b
  | .ptr k i,.ptr l j=>decide (k=l)&&decide (i=j)
  | .ep k a i,.ep l b j=>decide (k=l)&&decide (a=b)&&decide (i=j)
  | .fz a,.fz b| .cl a,.cl b| .agg a,.agg b=>kY (kR n) a b
  | .bl k a i,.bl l b j=>decide (k=l)&&decide (a=b)&&decide (i=j)
  | .fm a b,.fm c d=>kY (kR n) a c&&kY (kR n) b d
  | .mp k,.mp l| .yld k,.yld l| .it k,.it l=>decide (k=l)
  | .fn f a b,.fn g c d=>decide (f=g)&&kY (kR n) a c&&kY (kR n) b d
  | .ifc t a,.ifc u b=>decide (t=u)&&kR n a b
  |_,_=>false
def aE2 :Option Ent->Option Ent->Bool
 |none,none=>true
 |some (.box a f),some (.box b g)=>decide (f=g)&&kY (kR 8) a b
 |some (.blk n a f),some (.blk m b g)=>decide (n=m)&&decide (f=g)&&kY (kR 8) a b
 |some (.map a b f),some (.map c d g)=>decide (f=g)&&kY (kR 8) a c&&kY (kR 8) b d
 |_,_=>false
theorem aE3 {f:Val->Val->Bool}(h: ∀x y,f x y=true->x=y): ∀{a b:List Val},kY f a b=true->a=b
 |[],[],_=>rfl
 |x::xs,y::ys,e=>by
  simp only[kY,bXb]at e;rw[h _ _ e.1,aE3 h e.2]
 |[],_::_,e=>by simp[kY]at e
 |_::_,[],e=>by simp[kY]at e
theorem aE4 : ∀(n:Nat) (x y:Val),kR n x y=true->x=y
 |0,_,_,h=>by simp[kR]at h
 |n+1,x,y,h=>by
  have ih: ∀{a b:List Val},kY (kR n) a b=true->a=b:=aE3 (aE4 n)
  simp only[kR]at h
  split at h<;>first
   |(cases h;done)
   |rfl
   |(rw[ih h];done)
   |(simp only[bXb,cAg,beq_iff_eq,and_assoc]at h
     first
     |(obtain⟨rfl,h2,h3⟩:=h;rw[ih h2,ih h3])
     |(obtain⟨rfl,rfl,rfl⟩:=h;rfl)
     |(obtain⟨rfl,rfl⟩:=h;rfl)
     |(obtain⟨h1,h2⟩:=h;rw[ih h1,ih h2])
     |(obtain⟨rfl,h2⟩:=h;rw[ih h2])
     |(obtain⟨rfl,h2⟩:=h;rw[aE4 n _ _ h2])
     |(subst h;rfl)
     |(rw[ih h])
     |(rename_i a b;obtain⟨⟨a⟩⟩:=a;obtain⟨⟨b⟩⟩:=b;simp only at h;subst h;rfl))
theorem aLz {x y:Option Ent}(h:aE2 x y=true):x=y:=by
 have ih: ∀{a b:List Val},kY (kR 8) a b=true->a=b:=aE3 (aE4 8)
 unfold aE2 at h
 split at h<;>first
  |(cases h;done)
  |rfl
  |(simp only[bXb,cAg,and_assoc]at h
    first
    |(obtain⟨rfl,h2⟩:=h;rw[ih h2];done)
    |(obtain⟨rfl,rfl,h2⟩:=h;rw[ih h2];done)
    |(obtain⟨rfl,h2,h3⟩:=h;rw[ih h2,ih h3];done))
def vX (tbl:List (Nat×Nat)):Val->Val
 | .ifc t v=>match tbl.lookup t with
  |some f=> .fn f [v] []
  |none=> .dead
 |_=> .dead
def St.get (fr:Nat->Val):Opd->Val
 | .t i=>fr i
 | .m tbl i=>vX tbl (fr i)
 | .c v=>v
 | .f i=> .fn i [] []
inductive W where
 |ent (k:Key) (e:Option Ent)
 |cells (k:Key) (off:Nat) (vs:List Val)
 |elem (k:Key) (i off:Nat) (vs:List Val)
 |frz (k:Key)
inductive R where
 |val (k:Key)
 |cells (k:Key) (off n:Nat)
 |flag (k:Key)
def setCells :List Val->Nat->List Val->List Val
 |cs,_,[]=>cs
 |cs,off,v::vs=>setCells (cs.set off v) (off+1) vs
def gD (agg:Bool)(cs:List Val):Option Val:=
 if agg then some (.agg cs)else match cs with|[v]=>some v|_=>none
def fO (x:Val)(off:Nat)(vs:List Val):Val:=
 match x with
 | .agg cs=> .agg (setCells cs off vs)
 |x=>if off=0 then(match vs with|[v]=>v|_=>x)else x
def Ent.freeze :Ent->Ent
 | .box cs _=> .box cs true
 | .blk sz xs _=> .blk sz xs true
 | .map ks vs _=> .map ks vs true
 | .loop fr ps a b s=> .loop fr ps a b s
 | .iter s pos=> .iter s pos
def W.apply (en:En):W->En
 | .ent k e=>en.set k e
 | .cells k off vs=>match en k with
  |some (.box cs f)=>en.set k (some (.box (setCells cs off vs) f))
  |_=>en
 | .elem k i off vs=>match en k with
  |some (.blk sz xs f)=>match xs[i]? with
   |some x=>en.set k (some (.blk sz (xs.set i (fO x off vs)) f))
   |none=>en
  |_=>en
 | .frz k=>match en k with
  |some e=>en.set k (some e.freeze)
  |none=>en
def W.applyAll (en:En)(ws:List W):En:=ws.foldl W.apply en
structure Res where
 v:Val
 ws:List W:=[]
 rs:List R:=[]
 bump:Bool:=false
 mem:Option (En×(Nat->Nat->Nat)):=none
 unch:Key->Bool:=fun _=>false
def oR (en:En)(a:Val)(n:Nat):Option (List Val×List R):=
 match a with
 | .ptr k off=>match en k with
  |some (.box cs _)=>if off+n<=cs.length then some ((cs.drop off).take n,[.cells k off n])else none
  |_=>none
 | .ep k i off=>match en k with
  |some (.blk _ xs _)=>match xs[i]? with
   |some x=>if off+n<=x.cells.length then some ((x.cells.drop off).take n,[.val k])else none
   |none=>none
  |_=>none
 | .fp cs off=>if off+n<=cs.length then some ((cs.drop off).take n,[])else none
 |_=>none
def jP (en:En)(x:Val):Option (List Val×List R):=
 match x with
 | .fz xs| .cl xs=>some (xs,[])
 | .es _=>some ([],[])
 | .bl k off len=>match en k with
  |some (.blk _ xs _)=>if off+len<=xs.length then some ((xs.drop off).take len,[.val k])else none
  |_=>none
 |_=>none
def cZ (size:Nat):List Val->Bool
 |[]=>true
 |y::_=>y.cells.length==size
def vH :Val->Option Nat
 | .fz xs| .cl xs=>some xs.length
 | .bl _ _ len=>some len
 | .es _=>some 0
 |_=>none
def vY :CT->Val->Val->Option Bool
 | .bool,.bool a,.bool b=>some (a==b)
 | .num,.int j a,.int k b=>if j=k then some (a==b)else none
 | .str,.str a,.str b=>some (a.toList==b.toList)
 |_,_,_=>none
def iL :List CT->List Val->List Val->Option Bool
 |[],[],[]=>some true
 |t::ts,x::xs,y::ys=>match vY t x y with
  |some true=>iL ts xs ys
  |some false=>some false
  |none=>none
 |_,_,_=>none
def mV (t:EqT)(x y:Val):Option Bool:=
 match t,x,y with
 | .num,.int j a,.int k b=>if j=k then some (a==b)else none
 | .bool,.bool a,.bool b=>some (a==b)
 | .str,.str a,.str b=>some (a.toList==b.toList)
 | .agg l,.agg xs,.agg ys=>if xs.length=l.length/\ ys.length=l.length then iL l xs ys else none
 | .map,.nilm,.nilm=>some true
 | .map,.fm _ _,.nilm| .map,.mp _,.nilm| .map,.nilm,.fm _ _| .map,.nilm,.mp _=>some false
 | .func,.nilf,.nilf=>some true
 | .func,.fn _ _ _,.nilf| .func,.nilf,.fn _ _ _=>some false
 | .ptr,.nilp,.nilp=>some true
 | .ptr,.fp _ _,.nilp| .ptr,.ptr _ _,.nilp| .ptr,.ep _ _ _,.nilp=>some false
 | .iface,.ifc _ _,.nili| .iface,.nili,.ifc _ _=>some false
 | .iface,.nili,.nili=>some true
 | .slice,.es b,.es true=>some b
 | .slice,.fz (_::_),.es true| .slice,.cl (_::_),.es true| .slice,.bl _ _ (_+1),.es true=>some false
 |_,_,_=>none
def small (n:Int):Bool:=decide (0<=n/\ n<=16777216)
def qT (op:BinOp)(k:IntKind)(a b:Int):Option Val:=
 match op with
 | .add=>some (.int k (k.wrap (a+b)))
 | .sub=>some (.int k (k.wrap (a-b)))
 | .mul=>some (.int k (k.wrap (a*b)))
 | .quo=>if b=0 then none else some (.int k (k.wrap (a.tdiv b)))
 | .rem=>if b=0 then none else some (.int k (a.tmod b))
 | .lss=>some (.bool (decide (a<b)))
 | .leq=>some (.bool (decide (a<=b)))
 | .gtr=>some (.bool (decide (a>b)))
 | .geq=>some (.bool (decide (a≥b)))
 | .and=>some (.int k (k.wrap (BitVec.ofInt k.bits a&&&BitVec.ofInt k.bits b).toNat))
 | .or=>some (.int k (k.wrap (BitVec.ofInt k.bits a|||BitVec.ofInt k.bits b).toNat))
 | .xor=>some (.int k (k.wrap (BitVec.ofInt k.bits a^^^BitVec.ofInt k.bits b).toNat))
 | .andNot=>some (.int k (k.wrap (BitVec.ofInt k.bits a&&& ~~~(BitVec.ofInt k.bits b)).toNat))
 |_=>none
def aL0 (op:BinOp)(k:IntKind)(a b:Int):Option Val:=
 if b<0 then none else match op with
 | .shl=>some (.int k (k.wrap (a*2^(min b.toNat k.bits))))
 | .shr=>some (.int k (a.fdiv (2^(min b.toNat k.bits))))
 |_=>none
def aX7 (op:BinOp)(a b:ByteArray):Option Val:=
 match op with
 | .lss=>some (.bool (Op.bytesLess a.toList b.toList))
 | .leq=>some (.bool (Op.bytesLess a.toList b.toList||a.toList==b.toList))
 | .gtr=>some (.bool !(Op.bytesLess a.toList b.toList||a.toList==b.toList))
 | .geq=>some (.bool !(Op.bytesLess a.toList b.toList))
 | .add=>if((a.size+b.size:Nat):Int)>IntKind.i64.max then none else some (.str (a++b))
 |_=>none
def dA (op:BinOp)(t:EqT)(x y:Val):Option Val:=
 match op with
 | .eql=>(mV t x y).map .bool
 | .neq=>(mV t x y).map fun b=> .bool !b
 |op=>match t,x,y with
  | .num,.int j a,.int k b=>if op= .shl \/op= .shr then aL0 op j a b else if j=k then qT op j a b else none
  | .str,.str a,.str b=>aX7 op a b
  |_,_,_=>none
def pW :List Val->List (Nat×Nat×Val)->Option (List Val)
 |cs,[]=>some cs
 |cs,(off,size,v)::rest=>
  if v.one=true/\ v.cells.length=size/\ off+size<=cs.length then pW (setCells cs off v.cells) rest else none
def fI :List Val->Nat->List (Nat×Val)->Option (List Val)
 |xs,_,[]=>some xs
 |xs,size,(i,v)::rest=>if v.one=true/\ v.cells.length=size/\ i<xs.length then fI (xs.set i v) size rest else none
def kN (size:Nat)(z:List Val)(agg:Bool):Val:=if agg then .agg z else if size=1 then z.getD 0 .dead else .agg z
def fP (v:Option Val)(d top:Nat):Option Nat:=
 match v with
 |none=>some d
 |some (.int _ i)=>if 0<=i/\ i<=top then some i.toNat else none
 |_=>none
def aHu (size:Nat)(xs:List Val)(lo hi:Option Val)(mx:Val):Option Res:=
 match fP (some mx) 0 xs.length with
 |some m=>match hi with
  |none=>none
  |some _=>match fP hi 0 m with
   |some h=>match fP lo 0 h with
    |some l=>if l=0 \/cZ size xs=true then some {v:=if m=h then .cl ((xs.take h).drop l)else .fz ((xs.take h).drop l)}else none
    |none=>none
   |none=>none
 |none=>none
def findKey (t:EqT)(k:Val):List Val->Option (Option Nat)
 |[]=>some none
 |x::xs=>match mV t k x with
  |some true=>some (some 0)
  |some false=>match findKey t k xs with
   |some (some i)=>some (some (i+1))
   |some none=>some none
   |none=>none
  |none=>none
def qU (t:EqT):Val->Bool
 | .int _ _=>decide (t= .num)
 | .bool _=>decide (t= .bool)
 | .str _=>decide (t= .str)
 |_=>false
abbrev cR :=Nat->List Val->Option Val
def fD (me d g:Nat)(v:Val)(ks:List Key):Res:=
 match v with
 | .own sz xs=>{v:= .bl ⟨me,d,g⟩ 0 xs.length,ws:=(if xs.all Val.flat1 then []else ks.map .frz)++[.ent ⟨me,d,g⟩ (some (.blk sz xs false))],rs:=ks.map .val,bump:=true}
 |v=>{v,ws:=if v.flat then []else ks.map .frz,rs:=ks.map .val}
def eval (n:Nat)(call:cR)(me d g:Nat)(en:En)(get:Opd->Val):LOp->Option Res
 | .mv x=>some {v:=get x}
 | .pick c a b=>match get c with
  | .bool b'=>some {v:=if b' then get a else get b}
  |_=>none
 | .alloc z=>some {v:= .ptr ⟨me,d,g⟩ 0,ws:=[.ent ⟨me,d,g⟩ (some (.box z false))],bump:=true}
 | .box m x=>if(get x).one=true/\ (get x).cells.length=m then some {v:= .ptr ⟨me,d,g⟩ 0,ws:=[.ent ⟨me,d,g⟩ (some (.box (get x).cells false))],bump:=true}else none
 | .build z parts=>(pW z (parts.map fun p=>(p.1,p.2.1,get p.2.2))).map fun cs=>{v:= .agg cs}
 | .bslice len size z parts=>
  if len*size<=16777216 then
   match dO (fun p=>(snap n en (get p.2)).map fun r=>((p.1,r.1.wk1),r.2)) parts with
   |some ps=>match fI (List.replicate len (kN size z false)) size (ps.map (·.1))with
    |some xs=>some {v:= .cl xs,ws:=(ps.flatMap (·.2)).map .frz,rs:=(ps.flatMap (·.2)).map .val}
    |none=>none
   |none=>none
  else none
 | .load agg m a=>match oR en (get a) m with
  |some (cs,rs)=>(gD agg cs).map fun v=>{v,rs}
  |none=>none
 | .store m a x=>
  let v:=get x
  if v.one=true/\ v.cells.length=m then
   match get a with
   | .ptr k off=>match en k with
    |some (.box cs false)=>if off+m<=cs.length then some {v:= .tup [],ws:=[.cells k off v.cells],rs:=[.flag k]}else none
    |_=>none
   | .ep k i off=>match en k with
    |some (.blk _ xs false)=>match xs[i]? with
     |some y=>if off+m<=y.cells.length then
       match snap n en v with
       |some (v',ks)=>if v'.one=true/\ v'.cells.length=m/\ ks.all (fun k'=>decide (k'≠k))=true then some {v:= .tup [],ws:=ks.map .frz++[.elem k i off v'.wk1.cells],rs:= .val k:: .flag k::ks.map .val}else none
       |none=>none
      else none
     |none=>none
    |_=>none
   |_=>none
  else none
 | .nilck x=>match get x with
  | .fp cs off=>some {v:= .fp cs off}
  | .ptr k off=>some {v:= .ptr k off}
  | .ep k i off=>some {v:= .ep k i off}
  | .fn f a b=>some {v:= .fn f a b}
  | .ifc t v=>some {v:= .ifc t v}
  |_=>none
 | .bin op t x y=>(dA op t (get x) (get y)).map fun v=>{v}
 | .un op x=>match op,get x with
  | .not,.bool b=>some {v:= .bool !b}
  | .neg,.int k a=>some {v:= .int k (k.wrap (0-a))}
  |_,_=>none
 | .wrap k x=>match get x with
  | .int _ a=>some {v:= .int k (k.wrap a)}
  |_=>none
 | .iface t x=>if(get x).one=true then some {v:= .ifc t (get x)}else none
 | .assert t z ok x=>match get x with
  | .ifc t' v=>if t'=t then some {v:=if ok then .tup [v,.bool true]else v}else if ok then some {v:= .tup [z,.bool false]}else none
  | .nili=>if ok then some {v:= .tup [z,.bool false]}else none
  |_=>none
 | .mkfn f a b=>some {v:= .fn f (a.map get) (b.map get)}
 | .mkmap=>some {v:= .mp ⟨me,d,g⟩,ws:=[.ent ⟨me,d,g⟩ (some (.map [] [] false))],bump:=true}
 | .mput t m k x=>match get m with
  | .mp key=>match en key with
   |some (.map ks vs false)=>
    if qU t (get k)&&(get x).flat1 then
     match findKey t (get k) ks with
     |some (some i)=>some {v:= .tup [],ws:=[.ent key (some (.map (ks.set i (get k)) (vs.set i (get x)) false))],rs:=[.val key,.flag key]}
     |some none=>some {v:= .tup [],ws:=[.ent key (some (.map (ks++[get k]) (vs++[get x]) false))],rs:=[.val key,.flag key]}
     |none=>none
    else none
   |_=>none
  |_=>none
 | .mget t z ok m k=>
  if qU t (get k)then
   let look (ks vs:List Val):Option Val:=match findKey t (get k) ks with
    |some (some i)=>some (if ok then .tup [vs.getD i .dead,.bool true]else vs.getD i .dead)
    |some none=>some (if ok then .tup [z,.bool false]else z)
    |none=>none
   match get m with
   | .mp key=>match en key with
    |some (.map ks vs _)=>(look ks vs).map fun v=>{v,rs:=[.val key]}
    |_=>none
   | .fm ks vs=>(look ks vs).map fun v=>{v}
   | .nilm=>(look [] []).map fun v=>{v}
   |_=>none
  else none
 | .mklen size z len cap=>match get len,get cap with
  | .int .i64 a,.int .i64 b=>if a=b/\ small a=true then
    some {v:= .bl ⟨me,d,g⟩ 0 a.toNat,ws:=[.ent ⟨me,d,g⟩ (some (.blk size (List.replicate a.toNat (kN size z false)) false))],bump:=true}else none
  |_,_=>none
 | .slice str size x lo hi mx=>
  let lo:=lo.map get;let hi:=hi.map get
  if str then
   match get x,mx with
   | .str s,none=>match fP hi s.size s.size with
    |some h=>(fP lo 0 h).map fun l=>{v:= .str (s.extract l h)}
    |none=>none
   |_,_=>none
  else match get x with
   | .fz xs=>match mx with
    |none=>match fP hi xs.length xs.length with
     |some h=>match fP lo 0 h with
      |some l=>if l=0 \/cZ size xs=true then some {v:= .fz ((xs.take h).drop l)}else none
      |none=>none
     |none=>none
    |some m=>aHu size xs lo hi (get m)
   | .cl xs=>match mx with
    |none=>match fP hi xs.length xs.length with
     |some h=>match fP lo 0 h with
      |some l=>if l=0 \/cZ size xs=true then some {v:=if h=xs.length then .cl (xs.drop l)else .fz ((xs.take h).drop l)}else none
      |none=>none
     |none=>none
    |some m=>aHu size xs lo hi (get m)
   | .bl k off len=>match mx with
    |none=>match fP hi len len with
     |some h=>match fP lo 0 h with
      |some l=>match en k with
       |some (.blk sz _ _)=>if l=0 \/sz=size then some {v:= .bl k (off+l) (h-l),rs:=[.val k]}else none
       |_=>none
      |none=>none
     |none=>none
    |some _=>none
   |_=>none
 | .fa off x=>match get x with
  | .fp cs o=>some {v:= .fp cs (o+off)}
  | .ptr k o=>some {v:= .ptr k (o+off)}
  | .ep k i o=>some {v:= .ep k i (o+off)}
  |_=>none
 | .fld agg off m x=>match get x with
  | .agg cs=>if off+m<=cs.length then(gD agg ((cs.drop off).take m)).map fun v=>{v}else none
  |_=>none
 | .ia size x i=>match get i with
  | .int _ j=>
   match get x with
   | .fz xs| .cl xs=>if 0<=j then match xs[j.toNat]? with
     |some y=>if y.cells.length=size then some {v:= .fp y.cells 0}else none
     |none=>none else none
   | .bl k off len=>match en k with
    |some (.blk sz _ _)=>if 0<=j/\ j<len/\ sz=size then some {v:= .ep k (off+j.toNat) 0,rs:=[.val k]}else none
    |_=>none
   |_=>none
  |_=>none
 | .iaa len size x i=>match get i with
  | .int _ j=>if 0<=j/\ j<len then
    match get x with
    | .fp cs o=>some {v:= .fp cs (o+j.toNat*size)}
    | .ptr k o=>some {v:= .ptr k (o+j.toNat*size)}
    | .ep k i o=>some {v:= .ep k i (o+j.toNat*size)}
    |_=>none
   else none
  |_=>none
 | .ixs x i=>match get x,get i with
  | .str s,.int _ j=>if 0<=j then(s[j.toNat]?).map fun b=>{v:= .int .u8 b.toNat}else none
  |_,_=>none
 | .ixa agg len size x i=>match get x,get i with
  | .agg cs,.int _ j=>if 0<=j/\ j<len/\ j.toNat*size+size<=cs.length then(gD agg ((cs.drop (j.toNat*size)).take size)).map fun v=>{v}else none
  |_,_=>none
 | .ext i x=>match get x with
  | .tup vs=>(vs[i]?).map fun v=>{v}
  |_=>none
 | .call f args=>match get f with
  | .fn f a b=>match dO (fun x=>snap n en x) (a++args.map get++b)with
   |some rs=>
    let ks:=rs.flatMap (·.2)
    match call f (rs.map (·.1.wk1))with
    |some r=>some (fD me d g r ks)
    |none=>none
   |none=>none
  |_=>none
 | .icall _ _=>none
 | .len t x=>match t with
  | .map=>match get x with
   | .mp key=>match en key with
    |some (.map ks _ _)=>some {v:= .int .i64 ks.length,rs:=[.val key]}
    |_=>none
   | .fm ks _=>some {v:= .int .i64 ks.length}
   | .nilm=>some {v:= .int .i64 0}
   |_=>none
  | .str=>match get x with
   | .str s=>some {v:= .int .i64 s.size}
   |_=>none
  | .slice=>(vH (get x)).map fun m=>{v:= .int .i64 m}
  |_=>none
 | .append size x y=>match jP en (get y)with
  |some (ys,rs)=>if cZ size ys=true then
   match get x with
   | .cl xs=>if ys.isEmpty then some {v:= .cl xs,rs}else if xs.length+ys.length<=16777216/\ cZ size xs=true then
     some {v:= .bl ⟨me,d,g⟩ 0 (xs.length+ys.length),ws:=[.ent ⟨me,d,g⟩ (some (.blk size (xs++ys) (!xs.isEmpty)))],rs,bump:=true}else none
   | .bl k off len=>match en k with
    |some (.blk sz xs f)=>if(off+len=xs.length \/f=false/\ off+len<=xs.length)/\ len+ys.length<=16777216/\ sz=size then
      some {v:= .bl ⟨me,d,g⟩ 0 (len+ys.length),ws:=[.ent k none,.ent ⟨me,d,g⟩ (some (.blk size ((xs.take (off+len)).drop off++ys) f))],rs:= .val k:: .flag k::rs,bump:=true}else none
    |_=>none
   |_=>none
   else none
  |none=>none
 | .copy _ _ _=>none
 | .rng x=>match get x with
  | .str s=>some {v:= .it ⟨me,d,g⟩,ws:=[.ent ⟨me,d,g⟩ (some (.iter s 0))],bump:=true}
  |_=>none
 | .nxt x=>match get x with
  | .it k=>match en k with
   |some (.iter s pos)=>
    if pos<s.size then some {v:= .tup [.bool true,.int .i64 pos,.int .i32 (Utf8.decode s pos).1],ws:=[.ent k (some (.iter s (pos+(Utf8.decode s pos).2)))],rs:=[.val k,.flag k]}
    else some {v:= .tup [.bool false],rs:=[.val k]}
   |_=>none
  |_=>none
 | .minmax mx xs=>match xs.map get with
  |[.int j a,.int k b]=>if j=k then some {v:= .int j (if mx then(if b>a then b else a)else(if b<a then b else a))}else none
  |_=>none
def wanted (fr:Nat->Val):Option (Nat×Bool)->Option Bool
 |none=>some true
 |some (t,b)=>match fr t with
  | .bool b'=>some (b'==b)
  | .tup []=>some false
  |_=>none
structure Inl where
 fn:Nat->List Val->St->Option (Val×St)
 yld:Key->List Val->St->Option (Val×St)
def Inl.none :Inl:={fn:=fun _ _ _=>Option.none,yld:=fun _ _ _=>Option.none}
def Inl.call (io:Inl)(f:Val)(args:List Val)(st:St):Option (Val×St):=
 match f with
 | .fn f a b=>io.fn f (a++args++b) st
 | .yld k=>io.yld k args st
 |_=>Option.none
def fT (fr:Nat->Val)(dst:Option Nat)(v:Val):Nat->Val:=
 match dst with
 |some d=>kB fr d v
 |none=>fr
def step (n:Nat)(call:cR)(io:Inl)(me:Nat)(st:St)(o:bH):Option (St×Res):=
 match wanted st.fr o.guard with
 |some false=>some ({st with fr:=fT st.fr o.dst (.tup [])},{v:= .tup []})
 |some true=>
  match o.op with
  | .icall f args=>match io.call (St.get st.fr f) (args.map (St.get st.fr)) {st with fr:=fun _=> .dead}with
   |some (v,st')=>some ({fr:=fT st.fr o.dst v,en:=st'.en,cnt:=st'.cnt},{v,mem:=some (st'.en,st'.cnt),unch:=fun k=>aE2 (st.en k) (st'.en k)})
   |none=>none
  |op=>
   let d:=o.dst.getD 0
   match eval n call me d (st.cnt me d) st.en (St.get st.fr) op with
   |some r=>
    if r.bump&&o.dst.isNone then none else
    some ({fr:=fT st.fr o.dst r.v,en:=W.applyAll st.en r.ws,cnt:=if r.bump then aQ st.cnt me d (st.cnt me d+1)else st.cnt},r)
   |none=>none
 |none=>none
def oS (n:Nat)(call:cR)(io:Inl)(me:Nat):List bH->St->Option St
 |[],st=>some st
 |o::l,st=>match step n call io me st o with
  |some (st',_)=>oS n call io me l st'
  |none=>none
def oT (n:Nat)(call:cR)(io:Inl)(me:Nat):List bH->St->Option (St×List Res)
 |[],st=>some (st,[])
 |o::l,st=>match step n call io me st o with
  |some (st',r)=>match oT n call io me l st' with
   |some (st'',rs)=>some (st'',r::rs)
   |none=>none
  |none=>none
def W.key :W->Key
 | .ent k _| .cells k _ _| .elem k _ _ _| .frz k=>k
def R.key :R->Key
 | .val k| .cells k _ _| .flag k=>k
def gE :W->R->Bool
 | .cells k off vs,.cells k' off' n=>k≠k'||off+vs.length<=off'||off'+n<=off
 | .cells ..,.flag _| .elem ..,.flag _| .frz _,.val _| .frz _,.cells .. =>true
 |w,r=>w.key≠r.key
def kS :W->W->Bool
 | .cells k off vs,.cells k' off' vs'=>k≠k'||off+vs.length<=off'||off'+vs'.length<=off
 | .frz _,.frz _=>true
 |w,w'=>w.key≠w'.key
def Res.still (r:Res):Bool:=r.ws.isEmpty&&!r.bump&&r.mem.isNone
def sZ (a b:Res):Bool:=
 if a.mem.isSome then a.ws.isEmpty&&b.still&&b.rs.all (fun r=>a.unch r.key)
 else if b.mem.isSome then b.ws.isEmpty&&a.still&&a.rs.all (fun r=>b.unch r.key)
 else a.ws.all (fun w=>b.rs.all (gE w)&&b.ws.all (kS w))&&b.ws.all (fun w=>a.rs.all (gE w))
def nX (rs:List Res)(pairs:List (Nat×Nat)):Bool:=
 pairs.all fun p=>match rs[p.1]?,rs[p.2]? with
  |some a,some b=>sZ a b
  |_,_=>false
def start (args:List Val):St:={fr:=fun i=>args.getD i (.tup []),en:=fun _=>none,cnt:=fun _ _=>0}
def pH (st:St):aVl->Option Val
 | .tmp t=>some (st.fr t)
 | .cell t agg m=>match oR st.en (st.fr t) m with
  |some (cs,_)=>gD agg cs
  |none=>none
def yX :List Val->Val
 |[v]=>v
 |vs=> .tup vs
def aQ9 (en:En):Val->Option Val
 | .bl k 0 n=>match en k with
  |some (.blk sz xs false)=>if n=xs.length then some (.own sz xs)else none
  |_=>none
 |_=>none
def aAs (st:St)(lf:aM)(n:Nat):Option Val:=
 match dO (pH st) lf.res with
 |some vs=>match(if lf.keep then aQ9 st.en (yX vs)else none)with
  |some r=>some r
  |none=>match snap n st.en (yX vs)with
   |some (v,_)=>some (if lf.keep then v else v.wk)
   |none=>none
 |none=>none
def Ex.ends :Ex->Bool
 | .exit _=>false
 |_=>true
def tA :Val->Bool
 | .fz []| .cl []| .bl _ _ 0| .es _=>true
 |_=>false
def aDk (lf:aM)(args:List Val):Bool:=lf.amb&&(match args with|[x]=>tA x|_=>false)
def gR (lf:aM)(n:Nat)(ex:cD->St->Option (Ex×St))(args:List Val):Option Val:=
 match ex lf.body (start args)with
 |some (e,st)=>if e.ends then aAs st lf n else none
 |none=>none
def iK (a b:Option Val):Option Val:=
 match a,b with
 |some (.cl []),some (.cl [])=>some (.cl [])
 |some (.fz []),some (.fz [])=>some (.fz [])
 |_,_=>none
def kC (L:cV)(n:Nat)(ex:cD->St->Option (Ex×St)):cR:=fun f args=>
 match L f with
 |none=>none
 |some lf=>
  if args.length=lf.np then
   if aDk lf args then iK (gR lf n ex [.es true]) (gR lf n ex [.es false])else gR lf n ex args
  else none
def pI (L:cV)(ex:cD->St->Option (Ex×St))(f:Nat)(args:List Val)(st:St):Option (Val×St):=
 match L f with
 |none=>none
 |some lf=>
  if args.length=lf.np then
   if aDk lf args then(iK (gR lf 8 ex [.es true]) (gR lf 8 ex [.es false])).map fun v=>(v,st)else
   match ex lf.body {st with fr:=fun i=>args.getD i (.tup [])}with
   |some (e,st')=>if e.ends then(dO (pH st') lf.res).map fun vs=>(yX vs,{st' with fr:=st.fr})else none
   |none=>none
  else none
def vZ (fr:Nat->Val):List Nat->List Val->Nat->Val
 |p::ps,v::vs=>vZ (kB fr p v) ps vs
 |_,_=>fr
def aAt (ex:cD->St->Option (Ex×St))(k:Key)(args:List Val)(st:St):Option (Val×St):=
 match st.en k with
 |some (.loop fr ps a b .ready)=>
  if args.length=ps.length then
   match ex a {fr:=vZ fr ps args,en:=st.en,cnt:=st.cnt}with
   |some (.normal,st1)=>match st1.en k with
    |some (.loop fr1 ps1 a1 b1 .ready)=>match ex b {st1 with en:=st1.en.set k (some (.loop fr1 ps1 a1 b1 .busy))}with
     |some (e,st2)=>match st2.en k with
      |some (.loop fr2 ps2 a2 b2 .busy)=>
       some (.bool (decide (e= .normal)),{fr:=st.fr,en:=st2.en.set k (some (.loop fr2 ps2 a2 b2 (if e= .normal then .ready else .done e))),cnt:=st2.cnt})
      |_=>none
     |none=>none
    |_=>none
   |_=>none
  else none
 |_=>none
def qE (L:cV)(ex:cD->St->Option (Ex×St)):Inl:={fn:=pI L ex,yld:=aAt ex}
def oU (L:cV)(ex:cD->St->Option (Ex×St))(g:Val)(ps:List Nat)(a b:cD)(st:St):Option (Ex×St):=
 match g with
 | .fn f x y=>
  let k:Key:=⟨1,0,st.cnt 1 0⟩
  match pI L ex f (x++[.yld k]++y) {fr:=st.fr,en:=st.en.set k (some (.loop st.fr ps a b .ready)),cnt:=aQ st.cnt 1 0 (st.cnt 1 0+1)}with
  |some (_,st')=>match st'.en k with
   |some (.loop _ _ _ _ .ready)=>some (.normal,{st' with en:=st'.en.set k none})
   |some (.loop _ _ _ _ (.done e))=>some (e,{st' with en:=st'.en.set k none})
   |_=>none
  |none=>none
 |_=>none
def exec (L:cV):Nat->cD->St->Option (Ex×St)
 |0,_,_=>none
 |n+1,c,st=>
  match c with
  | .skip=>some (.normal,st)
  | .ops l=>(oS 8 (kC L 8 (exec L n)) (qE L (exec L n)) 0 l st).map fun st=>(.normal,st)
  | .draw l pairs=>match oT 8 (kC L 8 (exec L n)) (qE L (exec L n)) 0 l st with
   |some (st',rs)=>if nX rs pairs then some (.normal,st')else none
   |none=>none
  | .seq a b=>match exec L n a st with
   |some (.normal,st')=>exec L n b st'
   |r=>r
  | .cond x a b=>match St.get st.fr x with
   | .bool true=>exec L n a st
   | .bool false=>exec L n b st
   |_=>none
  | .block id b=>match exec L n b st with
   |some (.exit id',st')=>if id'=id then some (.normal,st')else some (.exit id',st')
   |r=>r
  | .loop b=>match exec L n b st with
   |some (.normal,st')=>exec L n (.loop b) st'
   |r=>r
  | .exit id=>some (.exit id,st)
  | .ret=>some (.ret,st)
  | .rangeF g ps a b=>oU L (exec L n) (St.get st.fr g) ps a b st
def pM (L:cV)(n:Nat):cR:=kC L 8 (exec L n)
end Go.Abs
namespace Go.Abs
def wA :Value->Option Val
 | .bool b=>some (.bool b)
 | .int k n=>some (.int k n)
 | .string s=>some (.str s)
 | .pointer none=>some .nilp
 | .slice none 0 0=>some (.cl [])
 | .map none=>some .nilm
 | .nilFunc=>some .nilf
 | .nilIface=>some .nili
 |_=>none
def jD (P:Program)(t:TypeId):Option (List Val):=
 match(P.info? t).bind (·.zero)with
 |some v=>dO wA v.cells.toList
 |none=>none
def cM (P:Program)(t:TypeId):Bool:=
 match P.underlying t with
 |some (.struct _)|some (.array _ _)=>true
 |_=>false
def qV (P:Program)(t:TypeId):Option Val:=
 match(P.info? t).bind (·.zero)with
 |some (.agg cs)=>if cM P t then(dO wA cs.toList).map .agg else none
 |some v=>if cM P t then none else wA v
 |none=>none
def aS :Operand->Option Opd
 | .tmp t=>some (.t t)
 | .const v=>(wA v).map .c
 | .func f=>some (.f f)
 | .global _=>none
def kT (l:List Operand):Option (List Opd):=dO aS l
def rU (fJ:TypeId->Option (List CT)):List Field->List CT->Option (List CT)
 |[],l=>some l
 |f::fs,l=>
  if f.name≠ "_" ∧f.offset=l.length then
   match fJ f.type with
   |some m=>rU fJ fs (l++m)
   |none=>none
  else none
def fJ (P:Program):Nat->TypeId->Option (List CT)
 |0,_=>none
 |d+1,t=>
  match P.underlying t with
  |some (.int _)=>if P.cellsOf t=1 then some [.num]else none
  |some .bool=>if P.cellsOf t=1 then some [.bool]else none
  |some .string=>if P.cellsOf t=1 then some [.str]else none
  |some (.struct fs)=>
   if P.stoodInHeld t then none else
   match rU (fJ P d) fs.toList []with
   |some l=>if P.cellsOf t=l.length then some l else none
   |none=>none
  |some (.array n e)=>
   match fJ P d e with
   |some m=>if P.cellsOf t=n*m.length then some (List.replicate n m).flatten else none
   |none=>none
  |_=>none
def nY (P:Program)(t:TypeId):Option EqT:=
 match P.underlying t with
 |some (.int _)=>some .num
 |some .string=>some .str
 |some .bool=>some .bool
 |some (.struct _)|some (.array _ _)=>if P.eqGuardType P.depth t then none else(fJ P 6 t).map .agg
 |some (.map _ _)=>some .map
 |some (.slice _)=>some .slice
 |some (.func _ _ _)=>some .func
 |some (.interface _)=>some .iface
 |some (.pointer _)=>some .ptr
 |_=>none
def aCi (P:Program)(t:TypeId):Option EqT:=
 match P.underlying t with
 |some (.int _)=>some .num
 |some .string=>some .str
 |some .bool=>some .bool
 |_=>none
def nF (x:Option Operand):Option (Option Opd):=
 match x with
 |none=>some none
 |some o=>(aS o).map some
def aE5 (P:Program)(name:String)(t:TypeId):Option Nat:=
 match P.info? t with
 |some i=>match i.methods.find? (·.name==name)with
  |some m=>match m.path.toList,m.func with
   |[],some (f,pr)=>match P.underlying t with
    |some (.pointer _)=>if pr then some f else none
    |some _=>if pr then none else some f
    |none=>none
   |_,_=>none
  |none=>none
 |none=>none
def aCj (P:Program)(name:String):List (Nat×Nat):=
 (List.range P.types.size).filterMap fun t=>(aE5 P name t).map fun f=>(t,f)
def kU :Operand->Bool
 | .const _=>true
 |_=>false
def fB (P:Program)(I:Operand->Bool):Op->Option LOp
 | .move x| .assign x=>(aS x).map .mv
 | .pick c a b=>do pure (.pick (<-aS c) (<-aS a) (<-aS b))
 | .alloc t=>do pure (.alloc (<-jD P t))
 | .box t x=>do pure (.box (P.cellsOf t) (<-aS x))
 | .build t parts=>
  match P.underlying t with
  |some (.struct fs)=>if fs.toList.all (fun f=>(P.info? f.type).isSome)then do
   let z<-jD P t;let ps<-dO (fun(p:Nat×Operand)=>do
    let f<-fs[p.1]?
    pure (f.offset,P.cellsOf f.type,<-aS p.2)) parts.toList
   pure (.build z ps)else none
  |some (.array _ e)=>if(P.info? e).isSome then do
   let z<-jD P t;let ps<-dO (fun(p:Nat×Operand)=>do pure (p.1*P.cellsOf e,P.cellsOf e,<-aS p.2)) parts.toList
   pure (.build z ps)else none
  |_=>none
 | .buildSlice t len parts=>
  match P.underlying t with
  |some (.slice e)=>do
   let z<-jD P e
   if z.length=P.cellsOf e then
    let ps<-dO (fun(p:Nat×Operand)=>do pure (p.1,<-aS p.2)) parts.toList
    pure (.bslice len (P.cellsOf e) z ps)
   else none
  |_=>none
 | .load t a=>if(P.underlying t).isSome then(aS a).map (.load (cM P t) (P.cellsOf t))else none
 | .store t a v=>if(P.info? t).isSome then do pure (.store (P.cellsOf t) (<-aS a) (<-aS v))else none
 | .nilCheck x=>(aS x).map .nilck
 | .binOp op t x y _=>do
  let e<-nY P t
  if e= .slice then
   match y with
   | .const (.slice none 0 0)=>pure (.bin op .slice (<-aS x) (.c (.es true)))
   |_=>none
  else if e= .iface/\ kU x=false/\ kU y=false then none
  else pure (.bin op e (<-aS x) (<-aS y))
 | .unOp op _ x=>(aS x).map (.un op)
 | .convert s d x=>
  match P.underlying s,P.underlying d with
  |some (.int _),some (.int k)=>(aS x).map (.wrap k)
  |_,_=>none
 | .makeInterface t x=>
  match P.underlying t with
  |some (.interface _)|none=>none
  |_=>(aS x).map (.iface t)
 | .makeFunc (.func f) a b=>do pure (.mkfn f (<-kT a.toList) (<-kT b.toList))
 | .makeSlice t l c=>
  match P.underlying t with
  |some (.slice e)=>do
   let z<-jD P e
   if z.length=P.cellsOf e/\ P.bytesOf e<=1048576 then pure (.mklen (P.cellsOf e) z (<-aS l) (<-aS c))else none
  |_=>none
 | .slice t x lo hi mx=>
  match P.underlying t with
  |some (.slice e)=>if(P.info? e).isSome=false then none else do pure (.slice false (P.cellsOf e) (<-aS x) (<-nF lo) (<-nF hi) (<-nF mx))
  |some .string=>if mx.isSome then none else do pure (.slice true 1 (<-aS x) (<-nF lo) (<-nF hi) none)
  |_=>none
 | .range t x=>
  match P.underlying t with
  |some .string=>(aS x).map .rng
  |_=>none
 | .next x true=>(aS x).map .nxt
 | .makeMap _ none=>some .mkmap
 | .lookup t x i ok=>
  match P.underlying t with
  |some (.map k e)=>do pure (.mget (<-aCi P k) (<-qV P e) ok (<-aS x) (<-aS i))
  |_=>none
 | .mapUpdate t m k v| .insert t m k v=>
  match P.underlying t with
  |some (.map kt _)=>do pure (.mput (<-aCi P kt) (<-aS m) (<-aS k) (<-aS v))
  |_=>none
 | .fieldAddr s x i=>
  match P.underlying s with
  |some (.struct fs)=>do
   let f<-fs[i]?
   if P.cellsOf f.type=0 then none else pure (.fa f.offset (<-aS x))
  |_=>none
 | .field s x i=>
  match P.underlying s with
  |some (.struct fs)=>do
   let f<-fs[i]?
   if(P.underlying f.type).isSome then pure (.fld (cM P f.type) f.offset (P.cellsOf f.type) (<-aS x))else none
  |_=>none
 | .indexAddr t x i=>
  match P.underlying t with
  |some (.slice e)=>if(P.info? e).isSome=false then none else do pure (.ia (P.cellsOf e) (<-aS x) (<-aS i))
  |some (.array n e)=>if(P.info? e).isSome=false then none else do pure (.iaa n (P.cellsOf e) (<-aS x) (<-aS i))
  |_=>none
 | .index t x i=>
  match P.underlying t with
  |some .string=>do pure (.ixs (<-aS x) (<-aS i))
  |some (.array n e)=>if(P.underlying e).isSome=false then none else do pure (.ixa (cM P e) n (P.cellsOf e) (<-aS x) (<-aS i))
  |_=>none
 | .extract t i=>(aS t).map (.ext i)
 | .typeAssert x _ t ok=>
  match P.underlying t with
  |some (.interface _)|none=>none
  |_=>do
   let z<-qV P t
   pure (.assert t z ok (<-aS x))
 | .call c=>
  match c.callee with
  | .value f=>if I f then do pure (.icall (<-aS f) (<-kT c.args.toList))else do pure (.call (<-aS f) (<-kT c.args.toList))
  | .invoke (.tmp t) name=>do pure (.call (.m (aCj P name) t) (<-kT c.args.toList))
  | .builtin .len=>match c.args.toList with
   |[x]=>match c.argTypes[0]?.bind P.underlying with
    |some (.slice _)=>(aS x).map (.len .slice)
    |some .string=>(aS x).map (.len .str)
    |some (.map _ _)=>(aS x).map (.len .map)
    |_=>none
   |_=>none
  | .builtin .append=>match c.argTypes.toList,c.args.toList with
   |[t,t'],[x,y]=>match P.underlying t with
    |some (.slice e)=>
     if t=t'/\ (jD P e).map List.length=some (P.cellsOf e)/\ P.bytesOf e<=1048576 then do pure (.append (P.cellsOf e) (<-aS x) (<-aS y))else none
    |_=>none
   |_,_=>none
  | .builtin .max=>(kT c.args.toList).map (.minmax true)
  | .builtin .min=>(kT c.args.toList).map (.minmax false)
  |_=>none
 |_=>none
def aAu (ops:Array Oper):Option (Nat×Bool)->Option (Option (Nat×Bool))
 |none=>some none
 |some (j,b)=>match(ops[j]?).bind (·.dst)with
  |some t=>some (some (t,b))
  |none=>none
def tX (P:Program)(I:Operand->Bool)(ops:Array Oper)(o:Oper):Option bH:=do
 pure {dst:=o.dst,op:= <-fB P I o.op,guard:= <-aAu ops o.guard}
def aE6 :List Oper->List (List Nat)->Option (List (List Nat))
 |[],acc=>some acc
 |o::l,acc=>
  let oW:=(o.after.toList.filter (Region.binds .any)).map (·.on)
  if oW.all (· <acc.length)then aE6 l (acc++[(oW++oW.flatMap fun j=>acc.getD j []).eraseDups])else none
def aX8 (ops:Array Oper):Option (List (List Nat)):=aE6 ops.toList []
def xZ (an:List (List Nat))(l:List bH):Option (List (Nat×Nat)):=
 let r:=List.range l.length;let ordered (i j:Nat):Bool:=(an.getD j []).contains i||(an.getD i []).contains j
 let o (i:Nat):bH:=l.getD i default
 if r.all fun j=>r.all fun i=>
   i==j||
   (match(o i).dst with
    |some d=>(o j).dst !=some d&&(!(o j).uses.contains d||ordered i j)
    |none=>true)
 then some (r.flatMap fun j=>((List.range j).filter fun i=>!ordered i j&&
   (((o i).op.writesMem&&((o j).op.readsMem||(o j).op.writesMem))||((o j).op.writesMem&&(o i).op.readsMem))).map fun i=>(i,j))
 else none
def aE7 :cD:= .cond (.c .dead) .skip .skip
def aJv (P:Program)(I:Operand->Bool)(ops:Array Oper):Option cD:=do
 let l<-dO (tX P I ops) ops.toList;let an<-aX8 ops;let ps<-xZ an l
 pure (.draw l ps)
def dM (P:Program)(I:Operand->Bool):Code->cD
 | .skip=> .skip
 | .region _ ops dr=>if dr then(aJv P I ops).getD aE7 else((dO (tX P I ops) ops.toList).map .ops).getD aE7
 | .seq a b=> .seq (dM P I a) (dM P I b)
 | .cond c a b=>match aS c with
  |some x=> .cond x (dM P I a) (dM P I b)
  |none=>aE7
 | .block id b=> .block id (dM P I b)
 | .loop b=> .loop (dM P I b)
 | .scope b=>dM P I b
 | .label _=> .skip
 | .exit id=> .exit id
 | .ret=> .ret
 | .rangeFunc g ps a b=>match aS g with
  |some x=> .rangeF x ps.toList (dM P I a) (dM P I b)
  |none=>aE7
 |_=>aE7
def cD.dstOk (n:Nat):cD->Bool
 | .ops l| .draw l _=>l.all fun o=>o.dst.all (· <n)
 | .seq a b| .cond _ a b=>a.dstOk n&&b.dstOk n
 | .block _ b| .loop b=>b.dstOk n
 | .rangeF _ ps a b=>ps.all (· <n)&&a.dstOk n&&b.dstOk n
 |_=>true
def zN (P:Program):ResultVar->Option aVl
 | .tmp t=>some (.tmp t)
 | .cell a t=>if(P.underlying t).isSome then some (.cell a (cM P t) (P.cellsOf t))else none
def aAv (P:Program)(I:Operand->Bool)(keep amb:Bool)(f:Func):Option aM:=
 match f.body with
 |none=>none
 |some c=>
  if(dM P I c).dstOk f.ntmps&&decide (f.params.size+f.nfree≤f.ntmps)&&(f.name != "runtime.NumGoroutine")then
   (dO (zN P) f.results.toList).map fun res=>{np:=f.params.size+f.nfree,res,keep,amb,body:=dM P I c}else none
end Go.Abs
namespace Go.Abs
open Go.RowKit (Below)
structure Gh where
 box:Key->Option Nat
 blk:Key->Option (Option (Nat×Nat×Nat×Nat))
 mp:Key->Option Nat
 own:Nat->Option (Key×Nat)
def Gh.none :Gh:={box:=fun _=>Option.none,blk:=fun _=>Option.none,mp:=fun _=>Option.none,own:=fun _=>Option.none}
structure Gh.le (G H:Gh):Prop where
 box: ∀k b,G.box k=some b->H.box k=some b
 blk: ∀k b,G.blk k=some b->H.blk k=some b
 mp: ∀k b,G.mp k=some b->H.mp k=some b
theorem Gh.le_refl (G:Gh):G.le G:=⟨fun _ _ h=>h,fun _ _ h=>h,fun _ _ h=>h⟩
theorem Gh.le_trans {A B C:Gh}(h:A.le B)(k:B.le C):A.le C:=
 ⟨fun x b e=>k.box x b (h.box x b e),fun x b e=>k.blk x b (h.blk x b e),fun x b e=>k.mp x b (h.mp x b e)⟩
theorem Gh.none_le (G:Gh):Gh.none.le G:=⟨fun _ _ h=>by simp[Gh.none]at h,fun _ _ h=>by simp[Gh.none]at h,fun _ _ h=>by simp[Gh.none]at h⟩
def eZ :Value->Bool
 | .agg _| .tuple _=>false
 |_=>true
inductive VR (T:Nat->Nat->Prop):Gh->World->Val->Value->Prop
 |dead {G:Gh} {w:World} (x:Value) (h:eZ x=true):VR T G w .dead x
 |bool {G:Gh} {w:World} (b:Bool):VR T G w (.bool b) (.bool b)
 |int {G:Gh} {w:World} (k:IntKind) (n:Int):VR T G w (.int k n) (.int k n)
 |str {G:Gh} {w:World} (s:ByteArray):VR T G w (.str s) (.string s)
 |nilp {G:Gh} {w:World}:VR T G w .nilp (.pointer .none)
 |fp {G:Gh} {w:World} (cs:List Val) (off b base:Nat) (c:Nat->Value) (h: ∀j,j<cs.length->w.cell? ⟨b,base+j,.none⟩=some (c j))
   (ht: ∀j,j<cs.length->T b (base+j)) (ho: ∀j,j<cs.length->eZ (c j)=true) (hv: ∀j,j<cs.length->VR T Gh.none w (cs.getD j .dead) (c j)):
   VR T G w (.fp cs off) (.pointer (some ⟨b,base+off,.none⟩))
 |ptr {G:Gh} {w:World} (k:Key) (off b:Nat) (h:G.box k=some b):VR T G w (.ptr k off) (.pointer (some ⟨b,off,.none⟩))
 |ep {G:Gh} {w:World} (k:Key) (i off b base sz C:Nat) (h:G.blk k=some (some (b,base,sz,C))) (hi:i<C):VR T G w (.ep k i off) (.pointer (some ⟨b,base+i*sz+off,.none⟩))
 |fz0 {G:Gh} {w:World} (a:Option Addr) (cap:Nat):VR T G w (.fz []) (.slice a 0 cap)
 |fz {G:Gh} {w:World} (xs:List Val) (b off sz cap:Nat) (c:Nat->Nat->Value) (hc:xs.length<=cap)
   (hs: ∀i,i<xs.length->(xs.getD i .dead).cells.length=sz)
   (h: ∀i j,i<xs.length->j<sz->w.cell? ⟨b,off+i*sz+j,.none⟩=some (c i j))
   (ht: ∀i j,i<xs.length->j<sz->T b (off+i*sz+j)) (ho: ∀i j,i<xs.length->j<sz->eZ (c i j)=true)
   (hv: ∀i j,i<xs.length->j<sz->VR T Gh.none w ((xs.getD i .dead).cells.getD j .dead) (c i j)):
   VR T G w (.fz xs) (.slice (some ⟨b,off,.none⟩) xs.length cap)
 |cl0 {G:Gh} {w:World} (a:Option Addr):VR T G w (.cl []) (.slice a 0 0)
 |cl {G:Gh} {w:World} (xs:List Val) (b off sz:Nat) (c:Nat->Nat->Value)
   (hs: ∀i,i<xs.length->(xs.getD i .dead).cells.length=sz)
   (h: ∀i j,i<xs.length->j<sz->w.cell? ⟨b,off+i*sz+j,.none⟩=some (c i j))
   (ht: ∀i j,i<xs.length->j<sz->T b (off+i*sz+j)) (ho: ∀i j,i<xs.length->j<sz->eZ (c i j)=true)
   (hv: ∀i j,i<xs.length->j<sz->VR T Gh.none w ((xs.getD i .dead).cells.getD j .dead) (c i j)):
   VR T G w (.cl xs) (.slice (some ⟨b,off,.none⟩) xs.length xs.length)
 |bl0 {G:Gh} {w:World} (k:Key) (a:Option Addr) (h:G.blk k=some .none):VR T G w (.bl k 0 0) (.slice a 0 0)
 |bl {G:Gh} {w:World} (k:Key) (off len b base sz C:Nat) (h:G.blk k=some (some (b,base,sz,C))) (hl:off+len<=C):
   VR T G w (.bl k off len) (.slice (some ⟨b,base+off*sz,.none⟩) len (C-off))
 |ble {G:Gh} {w:World} (k:Key) (a:Option Addr) (b base sz C:Nat) (h:G.blk k=some (some (b,base,sz,C))):VR T G w (.bl k C 0) (.slice a 0 0)
 |nilm {G:Gh} {w:World}:VR T G w .nilm (.map .none)
 |fm {G:Gh} {w:World} (ks vs:List Val) (r:Nat) (es:Array MapEntry) (clock:Nat) (h:w.heap[r]?=some (.map es clock)) (ht:T r 0)
   (hk:es.size=ks.length) (hl:vs.length=ks.length)
   (hkv: ∀i,i<ks.length->VR T Gh.none w (ks.getD i .dead) (es.getD i default).key) (hvv: ∀i,i<ks.length->VR T Gh.none w (vs.getD i .dead) (es.getD i default).val):
   VR T G w (.fm ks vs) (.map (some r))
 |mp {G:Gh} {w:World} (k:Key) (r:Nat) (h:G.mp k=some r):VR T G w (.mp k) (.map (some r))
 |nilf {G:Gh} {w:World}:VR T G w .nilf .nilFunc
 |fn {G:Gh} {w:World} (f:Nat) (a b:List Val) (x y:Array Value) (ha:x.size=a.length) (hb:y.size=b.length)
   (hx: ∀i,i<a.length->VR T G w (a.getD i .dead) (x.getD i undef)) (hy: ∀i,i<b.length->VR T G w (b.getD i .dead) (y.getD i undef)):
   VR T G w (.fn f a b) (.func (.func f) x y)
 |yld {G:Gh} {w:World} (k:Key) (l:Nat) (h:G.mp k=some l):VR T G w (.yld k) (.func (.yield l) #[] #[])
 |nili {G:Gh} {w:World}:VR T G w .nili .nilIface
 |it {G:Gh} {w:World} (k:Key) (r:Nat) (h:G.mp k=some r):VR T G w (.it k) (.pointer (some ⟨r,0,none⟩))
 |es {G:Gh} {w:World} (a:Option Addr) (cap:Nat):VR T G w (.es a.isNone) (.slice a 0 cap)
 |ifc {G:Gh} {w:World} (t:Nat) (v:Val) (x:Value) (h:VR T G w v x):VR T G w (.ifc t v) (.iface t x)
 |agg {G:Gh} {w:World} (cs:List Val) (x:Array Value) (h:x.size=cs.length) (ho: ∀i,i<cs.length->eZ (x.getD i undef)=true)
   (hv: ∀i,i<cs.length->VR T G w (cs.getD i .dead) (x.getD i undef)):VR T G w (.agg cs) (.agg x)
 |tup {G:Gh} {w:World} (vs:List Val) (x:Array Value) (h:x.size=vs.length) (hv: ∀i,i<vs.length->VR T G w (vs.getD i .dead) (x.getD i undef)):VR T G w (.tup vs) (.tuple x)
structure aAw (T:Nat->Nat->Prop) (G:Gh) (w:World) (T':Nat->Nat->Prop) (G':Gh) (w':World):Prop where
 t: ∀b o,T b o->T' b o
 g:G.le G'
 cell: ∀b o c,T b o->w.cell? ⟨b,o,.none⟩=some c->w'.cell? ⟨b,o,.none⟩=some c
 map: ∀r es clock,T r 0->w.heap[r]?=some (.map es clock)->w'.heap[r]?=some (.map es clock)
theorem aAw.none {T:Nat->Nat->Prop}{G:Gh}{w:World}{T':Nat->Nat->Prop}{G':Gh}{w':World}(m:aAw T G w T' G' w'):aAw T Gh.none w T' Gh.none w':=
 ⟨m.t,Gh.le_refl _,m.cell,m.map⟩
structure jB (T:Nat->Nat->Prop) (G:Gh) (w:World) (T':Nat->Nat->Prop) (G':Gh) (w':World):Prop where
 t: ∀b o,T b o->T' b o
 g:G.le G'
 cell: ∀b o c,T b o->w.cell? ⟨b,o,.none⟩=some c->w'.cell? ⟨b,o,.none⟩=some c
 map: ∀r es clock,T r 0->w.heap[r]?=some (.map es clock)->w'.heap[r]?=some (.map es clock)
 defer: ∀(b:Nat) ds,w.heap[b]?=some (Obj.deferred ds)->w'.heap[b]?=some (Obj.deferred ds)
 loop: ∀(l:Nat) r,w.heap[l]?=some (Obj.loop r)-> ∃r',w'.heap[l]?=some (Obj.loop r')
theorem jB.four {T:Nat->Nat->Prop}{G:Gh}{w:World}{T':Nat->Nat->Prop}{G':Gh}{w':World}(m:jB T G w T' G' w'):aAw T G w T' G' w':=⟨m.t,m.g,m.cell,m.map⟩
theorem jB.refl (T:Nat->Nat->Prop)(G:Gh)(w:World):jB T G w T G w:=⟨fun _ _ h=>h,G.le_refl,fun _ _ _ _ h=>h,fun _ _ _ _ h=>h,fun _ _ h=>h,fun _ r h=>⟨r,h⟩⟩
theorem jB.none {T:Nat->Nat->Prop}{G:Gh}{w:World}{T':Nat->Nat->Prop}{G':Gh}{w':World}(m:jB T G w T' G' w'):jB T Gh.none w T' Gh.none w':=
 ⟨m.t,Gh.le_refl _,m.cell,m.map,m.defer,m.loop⟩
theorem jB.trans {T1 T2 T3:Nat->Nat->Prop}{G1 G2 G3:Gh}{w1 w2 w3:World}(m:jB T1 G1 w1 T2 G2 w2)(k:jB T2 G2 w2 T3 G3 w3):jB T1 G1 w1 T3 G3 w3:=
 ⟨fun b o h=>k.t _ _ (m.t _ _ h),Gh.le_trans m.g k.g,fun b o c ht h=>k.cell _ _ _ (m.t _ _ ht) (m.cell _ _ _ ht h),fun r es cl ht h=>k.map _ _ _ (m.t _ _ ht) (m.map _ _ _ ht h),fun b ds h=>k.defer b ds (m.defer b ds h),fun l r h=>let ⟨r1,h1⟩:=m.loop l r h;k.loop l r1 h1⟩
theorem VR.mono' {T:Nat->Nat->Prop}{G:Gh}{w:World}{v:Val}{x:Value}(h:VR T G w v x):
  ∀{T':Nat->Nat->Prop} {G':Gh} {w':World},aAw T G w T' G' w'->VR T' G' w' v x:=by
 induction h with
 |dead x h=>intro T' G' w' m;exact .dead x h
 |bool b=>intro T' G' w' m;exact .bool b
 |int k n=>intro T' G' w' m;exact .int k n
 |str s=>intro T' G' w' m;exact .str s
 |nilp=>intro T' G' w' m;exact .nilp
 |fp cs off b base c h ht ho hv ih=>intro T' G' w' m;exact .fp cs off b base c (fun j hj=>m.cell _ _ _ (ht j hj) (h j hj)) (fun j hj=>m.t _ _ (ht j hj)) ho (fun j hj=>ih j hj m.none)
 |ptr k off b h=>intro T' G' w' m;exact .ptr k off b (m.g.box _ _ h)
 |ep k i off b base sz C h hi=>intro T' G' w' m;exact .ep k i off b base sz C (m.g.blk _ _ h) hi
 |fz0 a cap=>intro T' G' w' m;exact .fz0 a cap
 |fz xs b off sz cap c hc hs h ht ho hv ih=>intro T' G' w' m;exact .fz xs b off sz cap c hc hs (fun i j hi hj=>m.cell _ _ _ (ht i j hi hj) (h i j hi hj)) (fun i j hi hj=>m.t _ _ (ht i j hi hj)) ho (fun i j hi hj=>ih i j hi hj m.none)
 |cl0 a=>intro T' G' w' m;exact .cl0 a
 |cl xs b off sz c hs h ht ho hv ih=>intro T' G' w' m;exact .cl xs b off sz c hs (fun i j hi hj=>m.cell _ _ _ (ht i j hi hj) (h i j hi hj)) (fun i j hi hj=>m.t _ _ (ht i j hi hj)) ho (fun i j hi hj=>ih i j hi hj m.none)
 |bl0 k a h=>intro T' G' w' m;exact .bl0 k a (m.g.blk _ _ h)
 |bl k off len b base sz C h hl=>intro T' G' w' m;exact .bl k off len b base sz C (m.g.blk _ _ h) hl
 |ble k a b base sz C h=>intro T' G' w' m;exact .ble k a b base sz C (m.g.blk _ _ h)
 |nilm=>intro T' G' w' m;exact .nilm
 |fm ks vs r es clock h ht hk hl hkv hvv ih1 ih2=>intro T' G' w' m;exact .fm ks vs r es clock (m.map _ _ _ ht h) (m.t _ _ ht) hk hl (fun i hi=>ih1 i hi m.none) (fun i hi=>ih2 i hi m.none)
 |mp k r h=>intro T' G' w' m;exact .mp k r (m.g.mp _ _ h)
 |nilf=>intro T' G' w' m;exact .nilf
 |fn f a b x y ha hb hx hy ih1 ih2=>intro T' G' w' m;exact .fn f a b x y ha hb (fun i hi=>ih1 i hi m) (fun i hi=>ih2 i hi m)
 |yld k l h=>intro T' G' w' m;exact .yld k l (m.g.mp _ _ h)
 |nili=>intro T' G' w' m;exact .nili
 |it k r h=>intro T' G' w' m;exact .it k r (m.g.mp _ _ h)
 |es a cap=>intro T' G' w' m;exact .es a cap
 |ifc t v x h ih=>intro T' G' w' m;exact .ifc t v x (ih m)
 |agg cs x h ho hv ih=>intro T' G' w' m;exact .agg cs x h ho (fun i hi=>ih i hi m)
 |tup vs x h hv ih=>intro T' G' w' m;exact .tup vs x h (fun i hi=>ih i hi m)
theorem VR.mono {T:Nat->Nat->Prop}{G:Gh}{w:World}{T':Nat->Nat->Prop}{G':Gh}{w':World}(m:jB T G w T' G' w'){v:Val}{x:Value}
  (h:VR T G w v x):VR T' G' w' v x:=h.mono' m.four
theorem VR.cells {T:Nat->Nat->Prop}{G:Gh}{w:World}{v:Val}{x:Value}(h:VR T G w v x)(hx: ∀vs,v≠ .tup vs):
  x.cells.size=v.cells.length/\ (∀i,i<v.cells.length->eZ (x.cells.getD i undef)=true)/\ ∀i,i<v.cells.length->VR T G w (v.cells.getD i .dead) (x.cells.getD i undef):=by
 have one: ∀{v:Val} {x:Value},VR T G w v x->v.cells=[v]->x.cells= #[x]->eZ x=true->
   x.cells.size=v.cells.length/\ (∀i,i<v.cells.length->eZ (x.cells.getD i undef)=true)/\ ∀i,i<v.cells.length->VR T G w (v.cells.getD i .dead) (x.cells.getD i undef):=by
  intro v x h hv hx ho;rw[hv,hx]
  refine⟨rfl,fun i hi=>?_,fun i hi=>?_⟩<;>(simp at hi;subst hi)
  ·exact ho
  ·exact h
 cases h with
 |agg cs y h ho hv=>exact⟨h,ho,hv⟩
 |tup vs y h hv=>exact absurd rfl (hx vs)
 |dead x h=>exact one (.dead x h) rfl (by cases x<;>first|rfl|simp[eZ]at h) h
 |bool b=>exact one (.bool b) rfl rfl rfl
 |int k n=>exact one (.int k n) rfl rfl rfl
 |str s=>exact one (.str s) rfl rfl rfl
 |nilp=>exact one .nilp rfl rfl rfl
 |fp cs off b base c h ht ho hv=>exact one (.fp cs off b base c h ht ho hv) rfl rfl rfl
 |ptr k off b h=>exact one (.ptr k off b h) rfl rfl rfl
 |ep k i off b base sz C h hi=>exact one (.ep k i off b base sz C h hi) rfl rfl rfl
 |fz0 a cap=>exact one (.fz0 a cap) rfl rfl rfl
 |fz xs b off sz cap c hc hs h ht ho hv=>exact one (.fz xs b off sz cap c hc hs h ht ho hv) rfl rfl rfl
 |cl0 a=>exact one (.cl0 a) rfl rfl rfl
 |cl xs b off sz c hs h ht ho hv=>exact one (.cl xs b off sz c hs h ht ho hv) rfl rfl rfl
 |bl0 k a h=>exact one (.bl0 k a h) rfl rfl rfl
 |bl k off len b base sz C h hl=>exact one (.bl k off len b base sz C h hl) rfl rfl rfl
 |ble k a b base sz C h=>exact one (.ble k a b base sz C h) rfl rfl rfl
 |nilm=>exact one .nilm rfl rfl rfl
 |fm ks vs r es clock h ht hk hl hkv hvv=>exact one (.fm ks vs r es clock h ht hk hl hkv hvv) rfl rfl rfl
 |mp k r h=>exact one (.mp k r h) rfl rfl rfl
 |nilf=>exact one .nilf rfl rfl rfl
 |fn f a b x y ha hb hx' hy=>exact one (.fn f a b x y ha hb hx' hy) rfl rfl rfl
 |yld k l h=>exact one (.yld k l h) rfl rfl rfl
 |nili=>exact one .nili rfl rfl rfl
 |it k r h=>exact one (.it k r h) rfl rfl rfl
 |es a cap=>exact one (.es a cap) rfl rfl rfl
 |ifc t v x h=>exact one (.ifc t v x h) rfl rfl rfl
def bC (B:Nat)(S:Nat->Nat->Prop)(G:Gh)(n b o:Nat):Prop:=
 b<n/\ ((b<B/\ S b o) \/(B<=b/\ match G.own b with| .none=>True|some (_,t)=>o<t))
def Ex.code :Ex->Code
 | .normal=> .skip
 | .exit id=> .exit id
 | .ret=> .ret
def aX9 (s:LSt)(rec:Loop):Prop:=
 match s with
 | .ready=>rec.state= .ready/\ rec.pending=none
 | .busy=>rec.state= .busy/\ rec.pending=none
 | .done e=>rec.state= .done/\ rec.pending=some e.code/\ e≠ .normal
 | .over=>rec.state= .exhausted
inductive ER (P:Program) (B:Nat) (T:Nat->Nat->Prop) (G:Gh) (w:World) (k:Key):Ent->Prop
 |box (cs:List Val) (frz:Bool) (b:Nat) (c:Array Value) (t:TypeId) (hb:G.box k=some b) (hB:B<=b) (h:w.heap[b]?=some (.cells c t (0,0)))
   (hs:c.size=cs.length) (ho: ∀j,j<cs.length->eZ (c.getD j undef)=true) (hv: ∀j,j<cs.length->VR T G w (cs.getD j .dead) (c.getD j undef))
   (hown:G.own b=if frz then .none else some (k,0)):ER P B T G w k (.box cs frz)
 |nul (sz:Nat) (frz:Bool) (h:G.blk k=some .none):ER P B T G w k (.blk sz [] frz)
 |blk (xs:List Val) (frz:Bool) (b base sz C thr:Nat) (c:Array Value) (t:TypeId) (hb:G.blk k=some (some (b,base,sz,C))) (hB:B<=b)
   (h:w.heap[b]?=some (.cells c t (0,0))) (hC:xs.length<=C) (hC':base+C*sz<=c.size)
   (hs: ∀i,i<xs.length->(xs.getD i .dead).cells.length=sz)
   (ho: ∀i j,i<xs.length->j<sz->eZ (c.getD (base+i*sz+j) undef)=true)
   (hv: ∀i j,i<xs.length->j<sz->VR T Gh.none w ((xs.getD i .dead).cells.getD j .dead) (c.getD (base+i*sz+j) undef))
   (hown:G.own b=some (k,thr)) (hthr:thr=if frz then base+xs.length*sz else base):ER P B T G w k (.blk sz xs frz)
 |full (xs:List Val) (b base sz:Nat) (c:Nat->Nat->Value) (hb:G.blk k=some (some (b,base,sz,xs.length)))
   (hs: ∀i,i<xs.length->(xs.getD i .dead).cells.length=sz)
   (h: ∀i j,i<xs.length->j<sz->w.cell? ⟨b,base+i*sz+j,.none⟩=some (c i j))
   (ht: ∀i j,i<xs.length->j<sz->T b (base+i*sz+j)) (ho: ∀i j,i<xs.length->j<sz->eZ (c i j)=true)
   (hv: ∀i j,i<xs.length->j<sz->VR T Gh.none w ((xs.getD i .dead).cells.getD j .dead) (c i j)):ER P B T G w k (.blk sz xs true)
 |map (ks vs:List Val) (frz:Bool) (r:Nat) (es:Array MapEntry) (clock:Nat) (hr:G.mp k=some r) (hB:B<=r) (h:w.heap[r]?=some (.map es clock))
   (hk:es.size=ks.length) (hl:vs.length=ks.length)
   (hkv: ∀i,i<ks.length->VR T Gh.none w (ks.getD i .dead) (es.getD i default).key) (hvv: ∀i,i<ks.length->VR T Gh.none w (vs.getD i .dead) (es.getD i default).val)
   (hown:G.own r=if frz then .none else some (k,0)):ER P B T G w k (.map ks vs frz)
 |loop (fr:Nat->Val) (ps:List Nat) (la lb:cD) (st:LSt) (l:Nat) (rec:Loop) (I:Operand->Bool) (N:Nat) (hl:G.mp k=some l) (hB:B<=l) (h:w.heap[l]?=some (.loop rec))
   (hps:rec.params.toList=ps) (ha:dM P I rec.assign=la) (hb:dM P I rec.body=lb) (hN:N<=rec.tmps.size) (hpN:ps.all (· <N)=true) (haN:la.dstOk N=true) (hbN:lb.dstOk N=true)
   (hf: ∀i,VR T G w (fr i) (rec.tmps.getD i undef)) (hst:aX9 st rec) (hown:G.own l=some (k,0)):ER P B T G w k (.loop fr ps la lb st)
 |iter (s:ByteArray) (pos r:Nat) (hr:G.mp k=some r) (hB:B<=r) (h:w.heap[r]?=some (.stringIter s pos)) (hown:G.own r=some (k,0)):ER P B T G w k (.iter s pos)
structure Env where
 prs:Val->Value->Prop
 ro:Option Nat
 rnd:Nat->Prop
 defs:Nat->Prop
def Env.isRnd (Ξ:Env)(l:Nat):Prop:=Ξ.ro=some l \/Ξ.rnd l
def aJw (D:Nat):Deferred:={target:= .collected D,args:= #[]}
def aL1 (B:Nat)(Ξ:Env)(ds:List Deferred)(w:World):Prop:=
 ∃Ds:List Nat,ds=Ds.map aJw/\ Ds.Nodup/\ ∀D∈Ds,B<=D/\ ¬Ξ.defs D/\ w.heap[D]?=some (.deferred (some []))
structure Rel (P:Program) (Ξ:Env) (B:Nat) (S:Nat->Nat->Prop) (G:Gh) (st:St) (N:Nat) (a:Act) (w:World):Prop where
 size:B<=w.heap.size
 tmps:N<=a.tmps.size
 frame: ∀i,VR (bC B S G w.heap.size) G w (st.fr i) (a.tmps.getD i undef)
 marks:aL1 B Ξ a.defers w
 ents: ∀k e,st.en k=some e->ER P B (bC B S G w.heap.size) G w k e
 freshEn: ∀k,st.cnt k.n k.t<=k.g->st.en k=none
 freshG: ∀k,st.cnt k.n k.t<=k.g->G.box k= .none/\ G.blk k= .none/\ G.mp k= .none
 own: ∀b k t,G.own b=some (k,t)->B<=b/\ b<w.heap.size/\ k.g<st.cnt k.n k.t
 extra: ∀v x,Ξ.prs v x->VR (bC B S G w.heap.size) G w v x
 round: ∀l,Ξ.isRnd l-> ∃r,w.heap[l]?=some (.loop r)
 defs: ∀D,Ξ.defs D->w.heap[D]?=some (.deferred (some []))
theorem aL1.mono {B:Nat}{Ξ:Env}{ds:List Deferred}{T:Nat->Nat->Prop}{G:Gh}{w:World}{T':Nat->Nat->Prop}{G':Gh}{w':World}(h:aL1 B Ξ ds w)(m:jB T G w T' G' w'):aL1 B Ξ ds w':=
 let ⟨Ds,h1,h2,h3⟩:=h
 ⟨Ds,h1,h2,fun D hD=>let ⟨e1,e2,e3⟩:=h3 D hD;⟨e1,e2,m.defer _ _ e3⟩⟩
theorem VR.mono4 {T:Nat->Nat->Prop}{G:Gh}{w:World}{T':Nat->Nat->Prop}{G':Gh}{w':World}(m:aAw T G w T' G' w'){v:Val}{x:Value}(h:VR T G w v x):VR T' G' w' v x:=h.mono' m
theorem ER.mono {P:Program}{B:Nat}{T:Nat->Nat->Prop}{G:Gh}{w:World}{T':Nat->Nat->Prop}{G':Gh}{w':World}(m:aAw T G w T' G' w'){k:Key}{e:Ent}(h:ER P B T G w k e)
  (hm: ∀b,B<=b->(∃t,G.own b=some (k,t)) \/(G.own b= .none/\ ∃o,w.heap[b]?=some o)->w'.heap[b]?=w.heap[b]?/\ G'.own b=G.own b):ER P B T' G' w' k e:=by
 cases h with
 |box cs frz b c t hb hB h hs ho hv hown=>
  have h2:=hm b hB (by cases frz<;>simp at hown;exact .inl ⟨0,hown⟩;exact .inr ⟨hown,_,h⟩)
  exact .box cs frz b c t (m.g.box _ _ hb) hB (by rw[h2.1];exact h) hs ho (fun j hj=>(hv j hj).mono4 m) (by rw[h2.2];exact hown)
 |nul sz frz h=>exact .nul sz frz (m.g.blk _ _ h)
 |blk xs frz b base sz C thr c t hb hB h hC hC' hs ho hv hown hthr=>
  have h2:=hm b hB (.inl ⟨thr,hown⟩);exact .blk xs frz b base sz C thr c t (m.g.blk _ _ hb) hB (by rw[h2.1];exact h) hC hC' hs ho (fun i j hi hj=>(hv i j hi hj).mono4 m.none) (by rw[h2.2];exact hown) hthr
 |full xs b base sz c hb hs h ht ho hv=>
  exact .full xs b base sz c (m.g.blk _ _ hb) hs (fun i j hi hj=>m.cell _ _ _ (ht i j hi hj) (h i j hi hj)) (fun i j hi hj=>m.t _ _ (ht i j hi hj)) ho (fun i j hi hj=>(hv i j hi hj).mono4 m.none)
 |map ks vs frz r es clock hr hB h hk hl hkv hvv hown=>
  have h2:=hm r hB (by cases frz<;>simp at hown;exact .inl ⟨0,hown⟩;exact .inr ⟨hown,_,h⟩)
  exact .map ks vs frz r es clock (m.g.mp _ _ hr) hB (by rw[h2.1];exact h) hk hl (fun i hi=>(hkv i hi).mono4 m.none) (fun i hi=>(hvv i hi).mono4 m.none) (by rw[h2.2];exact hown)
 |loop fr ps la lb st l rec I N hl hB h hps ha hb hN hpN haN hbN hf hst hown=>
  have h2:=hm l hB (.inl ⟨0,hown⟩);exact .loop fr ps la lb st l rec I N (m.g.mp _ _ hl) hB (by rw[h2.1];exact h) hps ha hb hN hpN haN hbN (fun i=>(hf i).mono4 m) hst (by rw[h2.2];exact hown)
 |iter s pos r hr hB h hown=>
  have h2:=hm r hB (.inl ⟨0,hown⟩);exact .iter s pos r (m.g.mp _ _ hr) hB (by rw[h2.1];exact h) (by rw[h2.2];exact hown)
end Go.Abs
namespace Go.Abs
open Go.RowKit (Below)
theorem VR.one {T:Nat->Nat->Prop}{G:Gh}{w:World}{v:Val}{x:Value}(h:VR T G w v x)(h1: ∀cs,v≠ .agg cs)(h2: ∀cs,v≠ .tup cs):eZ x=true:=by
 cases h<;>first|rfl|assumption|exact absurd rfl (h1 _)|exact absurd rfl (h2 _)
theorem aYa {a:Act}{d i:Nat}{x:Value}(hd:d<a.tmps.size):
  ((a.put (some d) x).tmps.getD i undef)=if i=d then x else a.tmps.getD i undef:=by
 simp only[Act.put,bXt,bZn]
 by_cases h:d=i
 ·subst h;simp[hd]
 ·have h': ¬i=d:=fun e=>h e.symm
  simp[h,h']
theorem Rel.put {P:Program}{Ξ:Env}{B:Nat}{S:Nat->Nat->Prop}{G:Gh}{st:St}{N:Nat}{a:Act}{w:World}(h:Rel P Ξ B S G st N a w){d:Nat}(hd:d<N){v:Val}{x:Value}
  (hv:VR (bC B S G w.heap.size) G w v x):Rel P Ξ B S G {st with fr:=kB st.fr d v} N (a.put (some d) x) w:=by
 refine⟨h.size,by simpa[Act.put]using h.tmps,fun i=>?_,h.marks,h.ents,h.freshEn,h.freshG,h.own,h.extra,h.round,h.defs⟩
 rw[aYa (bYg hd h.tmps)]
 by_cases hi:i=d
 ·simp[hi,kB];exact hv
 ·simp only[hi,kB,if_false];exact h.frame i
theorem aJx {w:World}{b o:Nat}{c:Value}(h:w.cell? ⟨b,o,.none⟩=some c):b<w.heap.size:=by
 simp only[World.cell?]at h
 split at h
 ·rename_i hb;exact(bY8.1 hb).1
 ·cases h
theorem dR {w:World}{b:Nat}{o:Obj}(h:w.heap[b]?=some o):b<w.heap.size:=(bY8.1 h).1
theorem nZ {w w':World}{b:Nat}(h:w'.heap[b]?=w.heap[b]?)(o:Nat):w'.cell? ⟨b,o,.none⟩=w.cell? ⟨b,o,.none⟩:=by
 simp only[World.cell?,h]
theorem kZ {w:World}{b:Nat}{c:Array Value}{t:TypeId}{f:Nat×Nat}(h:w.heap[b]?=some (.cells c t f))(o:Nat):w.cell? ⟨b,o,.none⟩=c[o]?:=by
 simp only[World.cell?,h];simp
theorem oV {B:Nat}{S:Nat->Nat->Prop}{G:Gh}{w w':World}(hb:Below w.heap.size w w'):
  jB (bC B S G w.heap.size) G w (bC B S G w'.heap.size) G w':=
 ⟨fun b o h=>⟨bYg h.1 hb.size,h.2⟩,G.le_refl,fun b o c _ h=>by rw[nZ (hb.block b (aJx h))];exact h,
  fun r es cl _ h=>by rw[hb.block r (dR h)];exact h,fun b ds h=>by rw[hb.block b (dR h)];exact h,fun l r h=>⟨r,by rw[hb.block l (dR h)];exact h⟩⟩
theorem aOy {w:World}{G:Gh}{k:Key}{b:Nat}(hown: ∀b k t,G.own b=some (k,t)->b<w.heap.size)
  (h:(∃t,G.own b=some (k,t)) \/(G.own b= .none/\ ∃o,w.heap[b]?=some o)):b<w.heap.size:=by
 rcases h with⟨t,h⟩|⟨_,o,h⟩
 ·exact hown _ _ _ h
 ·exact dR h
theorem Rel.below {P:Program}{Ξ:Env}{B:Nat}{S:Nat->Nat->Prop}{G:Gh}{st:St}{N:Nat}{a:Act}{w w':World}(h:Rel P Ξ B S G st N a w)(hb:Below w.heap.size w w'):Rel P Ξ B S G st N a w':=by
 have m:=oV (B:=B) (S:=S) (G:=G) hb
 refine⟨bYd h.size hb.size,h.tmps,fun i=>(h.frame i).mono m,h.marks.mono m,fun k e he=>(h.ents k e he).mono m.four fun b _ hb'=>?_,h.freshEn,h.freshG,
  fun b k t ho=>let ⟨x,y,z⟩:=h.own b k t ho;⟨x,bYg y hb.size,z⟩,fun v x h'=>(h.extra v x h').mono m,fun l hl=>let ⟨r,hr⟩:=h.round l hl;m.loop l r hr,fun D hD=>m.defer _ _ (h.defs D hD)⟩
 exact⟨hb.block b (aOy (fun b k t ho=>(h.own b k t ho).2.1) hb'),rfl⟩
def Gh.addBox (G:Gh)(k:Key)(b:Nat):Gh:={G with box:=fun k'=>if k'=k then some b else G.box k',own:=fun b'=>if b'=b then some (k,0)else G.own b'}
def Gh.addBlk (G:Gh)(k:Key)(b base sz C thr:Nat):Gh:=
 {G with blk:=fun k'=>if k'=k then some (some (b,base,sz,C))else G.blk k',own:=fun b'=>if b'=b then some (k,thr)else G.own b'}
def Gh.addMp (G:Gh)(k:Key)(b:Nat):Gh:={G with mp:=fun k'=>if k'=k then some b else G.mp k',own:=fun b'=>if b'=b then some (k,0)else G.own b'}
def Gh.addNul (G:Gh)(k:Key):Gh:={G with blk:=fun k'=>if k'=k then some .none else G.blk k'}
def Gh.addFull (G:Gh)(k:Key)(b base sz C:Nat):Gh:={G with blk:=fun k'=>if k'=k then some (some (b,base,sz,C))else G.blk k'}
theorem Gh.le_addBox {G:Gh}{k:Key}{b:Nat}(h:G.box k= .none):G.le (G.addBox k b):=
 ⟨fun k' b' e=>by
  simp only[Gh.addBox];split
  ·rename_i hk;subst hk;rw[h]at e;cases e
  ·exact e,fun _ _ e=>e,fun _ _ e=>e⟩
theorem Gh.le_addBlk {G:Gh}{k:Key}{b base sz C thr:Nat}(h:G.blk k= .none):G.le (G.addBlk k b base sz C thr):=
 ⟨fun _ _ e=>e,fun k' b' e=>by
  simp only[Gh.addBlk];split
  ·rename_i hk;subst hk;rw[h]at e;cases e
  ·exact e,fun _ _ e=>e⟩
theorem Gh.le_addFull {G:Gh}{k:Key}{b base sz C:Nat}(h:G.blk k= .none):G.le (G.addFull k b base sz C):=
 ⟨fun _ _ e=>e,fun k' b' e=>by
  simp only[Gh.addFull];split
  ·rename_i hk;subst hk;rw[h]at e;cases e
  ·exact e,fun _ _ e=>e⟩
theorem Gh.le_addMp {G:Gh}{k:Key}{b:Nat}(h:G.mp k= .none):G.le (G.addMp k b):=
 ⟨fun _ _ e=>e,fun _ _ e=>e,fun k' b' e=>by
  simp only[Gh.addMp];split
  ·rename_i hk;subst hk;rw[h]at e;cases e
  ·exact e⟩
theorem Gh.le_addNul {G:Gh}{k:Key}(h:G.blk k= .none):G.le (G.addNul k):=
 ⟨fun _ _ e=>e,fun k' b' e=>by
  simp only[Gh.addNul];split
  ·rename_i hk;subst hk;rw[h]at e;cases e
  ·exact e,fun _ _ e=>e⟩
theorem Rel.change4 {P:Program}{Ξ:Env}{B:Nat}{S:Nat->Nat->Prop}{G:Gh}{st:St}{N:Nat}{a:Act}{w:World}(h:Rel P Ξ B S G st N a w){Ξ':Env}{G':Gh}{w':World}{en':En}{cnt':Nat->Nat->Nat}{a':Act}
  (ht:a'.tmps=a.tmps) (m:aAw (bC B S G w.heap.size) G w (bC B S G' w'.heap.size) G' w') (hs:w.heap.size<=w'.heap.size)
  (he: ∀k e,en' k=some e->ER P B (bC B S G' w'.heap.size) G' w' k e)
  (hf: ∀k,cnt' k.n k.t<=k.g->en' k=none/\ G'.box k= .none/\ G'.blk k= .none/\ G'.mp k= .none)
  (ho: ∀b k t,G'.own b=some (k,t)->B<=b/\ b<w'.heap.size/\ k.g<cnt' k.n k.t)
  (hp: ∀v x,Ξ'.prs v x->Ξ.prs v x) (hmk:aL1 B Ξ' a'.defers w') (hrd: ∀l,Ξ'.isRnd l-> ∃r,w'.heap[l]?=some (.loop r)) (hdf: ∀D,Ξ'.defs D->w'.heap[D]?=some (.deferred (some []))):
  Rel P Ξ' B S G' {fr:=st.fr,en:=en',cnt:=cnt'} N a' w':=
 ⟨bYd h.size hs,by rw[ht];exact h.tmps,fun i=>by rw[ht];exact(h.frame i).mono4 m,hmk,he,fun k hk=>(hf k hk).1,fun k hk=>(hf k hk).2,ho,fun v x h'=>(h.extra v x (hp v x h')).mono4 m,hrd,hdf⟩
theorem Rel.change {P:Program}{Ξ:Env}{B:Nat}{S:Nat->Nat->Prop}{G:Gh}{st:St}{N:Nat}{a:Act}{w:World}(h:Rel P Ξ B S G st N a w){G':Gh}{w':World}{en':En}{cnt':Nat->Nat->Nat}
  (m:jB (bC B S G w.heap.size) G w (bC B S G' w'.heap.size) G' w') (hs:w.heap.size<=w'.heap.size)
  (he: ∀k e,en' k=some e->ER P B (bC B S G' w'.heap.size) G' w' k e)
  (hf: ∀k,cnt' k.n k.t<=k.g->en' k=none/\ G'.box k= .none/\ G'.blk k= .none/\ G'.mp k= .none)
  (ho: ∀b k t,G'.own b=some (k,t)->B<=b/\ b<w'.heap.size/\ k.g<cnt' k.n k.t):Rel P Ξ B S G' {fr:=st.fr,en:=en',cnt:=cnt'} N a w':=
 ⟨bYd h.size hs,h.tmps,fun i=>(h.frame i).mono m,h.marks.mono m,he,fun k hk=>(hf k hk).1,fun k hk=>(hf k hk).2,ho,fun v x h'=>(h.extra v x h').mono m,fun l hl=>let ⟨r,hr⟩:=h.round l hl;m.loop l r hr,fun D hD=>m.defer _ _ (h.defs D hD)⟩
theorem size_alloc (w:World)(o:Obj):(w.alloc o).heap.size=w.heap.size+1:=World.size_alloc w o
theorem lA (w:World)(o:Obj){b:Nat}(h:b<w.heap.size):(w.alloc o).heap[b]?=w.heap[b]?:=Below.heap_alloc w o b h
theorem fQ (w:World)(o:Obj):(w.alloc o).heap[w.heap.size]?=some o:=by
 show(w.heap.push o)[w.heap.size]?=_;simp
theorem qX {B:Nat}{S:Nat->Nat->Prop}{G G':Gh}{w:World}{o:Obj}(hg:G.le G')(ho: ∀b,b≠w.heap.size->G'.own b=G.own b):
  jB (bC B S G w.heap.size) G w (bC B S G' (w.alloc o).heap.size) G' (w.alloc o):=by
 refine⟨fun b o' h=>?_,hg,fun b o' c _ h=>?_,fun r es cl _ h=>?_,fun b ds h=>by rw[lA w o (dR h)];exact h,fun l r h=>⟨r,by rw[lA w o (dR h)];exact h⟩⟩
 ·refine⟨by rw[size_alloc];exact Nat.lt_succ_of_lt h.1,?_⟩
  rw[ho b (Nat.ne_of_lt h.1)];exact h.2
 ·rw[nZ (lA w o (aJx h))];exact h
 ·rw[lA w o (dR h)];exact h
theorem sL {cnt:Nat->Nat->Nat}{n t:Nat}(n' t':Nat):cnt n' t'<=aQ cnt n t (cnt n t+1) n' t':=by
 unfold aQ;split
 ·rename_i h;obtain⟨rfl,rfl⟩:=h;omega
 ·exact bXd _
theorem nL {cnt:Nat->Nat->Nat}{n t:Nat}:aQ cnt n t (cnt n t+1) n t=cnt n t+1:=by simp[aQ]
theorem Rel.allocN {P:Program}{Ξ:Env}{B:Nat}{S:Nat->Nat->Prop}{G:Gh}{st:St}{N:Nat}{a:Act}{w:World}(h:Rel P Ξ B S G st N a w)(q d:Nat)(o:Obj)(e:Ent)(G':Gh)
  (hg:G.le G') (ho: ∀b,b≠w.heap.size->G'.own b=G.own b)
  (hk: ∀k,k≠⟨q,d,st.cnt q d⟩->G'.box k=G.box k/\ G'.blk k=G.blk k/\ G'.mp k=G.mp k)
  (hn: ∀k t,G'.own w.heap.size=some (k,t)->k=⟨q,d,st.cnt q d⟩)
  (he:ER P B (bC B S G' (w.alloc o).heap.size) G' (w.alloc o) ⟨q,d,st.cnt q d⟩ e):
  Rel P Ξ B S G' {fr:=st.fr,en:=st.en.set ⟨q,d,st.cnt q d⟩ (some e),cnt:=aQ st.cnt q d (st.cnt q d+1)} N a (w.alloc o):=by
 have m:=qX (B:=B) (S:=S) (w:=w) (o:=o) hg ho
 refine h.change m (by rw[size_alloc];omega) (fun k e' hk'=>?_) (fun k hk'=>?_) (fun b k t hb=>?_)
 ·simp only[En.set]at hk'
  split at hk'
  ·rename_i heq;subst heq;simp only[bXa]at hk';subst hk';exact he
  ·refine(h.ents k e' hk').mono m.four fun b _ hb=>?_
   have hlt:=aOy (fun b k t ho=>(h.own b k t ho).2.1) hb
   exact⟨lA w o hlt,ho b (Nat.ne_of_lt hlt)⟩
 ·have hne:k≠⟨q,d,st.cnt q d⟩:=by
   rintro rfl
   simp only[nL]at hk';omega
  have hle:st.cnt k.n k.t<=k.g:=bYd (sL _ _) hk';obtain⟨h1,h2,h3⟩:=hk k hne;obtain⟨f1,f2,f3⟩:=h.freshG k hle
  refine⟨?_,by rw[h1];exact f1,by rw[h2];exact f2,by rw[h3];exact f3⟩
  simp only[En.set,if_neg hne];exact h.freshEn k hle
 ·by_cases hb':b=w.heap.size
  ·subst hb';have:=hn k t hb;subst this;exact⟨h.size,by rw[size_alloc];omega,by simp only[nL];omega⟩
  ·rw[ho b hb']at hb;obtain⟨h1,h2,h3⟩:=h.own b k t hb;exact⟨h1,by rw[size_alloc];omega,bYg h3 (sL _ _)⟩
theorem Rel.alloc {P:Program}{Ξ:Env}{B:Nat}{S:Nat->Nat->Prop}{G:Gh}{st:St}{N:Nat}{a:Act}{w:World}(h:Rel P Ξ B S G st N a w)(d:Nat)(o:Obj)(e:Ent)(G':Gh)
  (hg:G.le G') (ho: ∀b,b≠w.heap.size->G'.own b=G.own b)
  (hk: ∀k,k≠⟨0,d,st.cnt 0 d⟩->G'.box k=G.box k/\ G'.blk k=G.blk k/\ G'.mp k=G.mp k)
  (hn: ∀k t,G'.own w.heap.size=some (k,t)->k=⟨0,d,st.cnt 0 d⟩)
  (he:ER P B (bC B S G' (w.alloc o).heap.size) G' (w.alloc o) ⟨0,d,st.cnt 0 d⟩ e):
  Rel P Ξ B S G' {fr:=st.fr,en:=st.en.set ⟨0,d,st.cnt 0 d⟩ (some e),cnt:=aQ st.cnt 0 d (st.cnt 0 d+1)} N a (w.alloc o):=h.allocN 0 d o e G' hg ho hk hn he
end Go.Abs
namespace Go.Abs
open Go.RowKit (Below)
def iU (w:World)(b:Nat)(o:Obj):World:={w with heap:=w.heap.setIfInBounds b o}
theorem lW (w:World)(b:Nat)(o:Obj):(iU w b o).heap.size=w.heap.size:=by simp[iU]
theorem jI {w:World}{b:Nat}(o:Obj)(h:b<w.heap.size):(iU w b o).heap[b]?=some o:=by simp[iU,bZn,h]
theorem eD {w:World}{b b':Nat}(o:Obj)(h:b'≠b):(iU w b o).heap[b']?=w.heap[b']?:=by
 have hb: ¬b=b':=fun e=>h e.symm
 simp[iU,bZn,hb]
theorem aVm {B:Nat}{S:Nat->Nat->Prop}{G:Gh}{w:World}{k:Key}{b thr:Nat}{o o':Obj}(hB:B<=b)(hown:G.own b=some (k,thr))(ho:w.heap[b]?=some o)
  (hm: ∀es cl,o≠ .map es cl \/0≥thr) (hnd: ∀ds,o≠ .deferred ds) (hnl: ∀r,o= .loop r-> ∃r',o'= .loop r')
  (hc: ∀off,off<thr->(iU w b o').cell? ⟨b,off,.none⟩=w.cell? ⟨b,off,.none⟩):
  jB (bC B S G w.heap.size) G w (bC B S G (iU w b o').heap.size) G (iU w b o'):=by
 have hs: ∀b' o'',bC B S G w.heap.size b' o''->b'=b->o''<thr:=by
  rintro b' o'' ⟨_,h⟩ rfl
  rcases h with⟨h,_⟩|⟨_,h⟩
  ·omega
  ·rw[hown]at h;exact h
 refine⟨fun b' o'' h=>by rw[lW];exact h,G.le_refl,fun b' o'' c h hc'=>?_,fun r es cl h hr=>?_,fun b' ds h=>?_,fun b' r h=>?_⟩
 ·by_cases hb:b'=b
  ·subst hb;rw[hc _ (hs _ _ h rfl)];exact hc'
  ·rw[nZ (eD o' hb)];exact hc'
 ·by_cases hb:r=b
  ·subst hb;have h0:=hs _ _ h rfl;rw[ho]at hr;simp only[bXa]at hr;rcases hm es cl with h1|h1
   ·exact absurd hr h1
   ·omega
  ·rw[eD o' hb];exact hr
 ·by_cases hb:b'=b
  ·subst hb;rw[ho]at h;exact absurd (Option.some.inj h) (hnd ds)
  ·rw[eD o' hb];exact h
 ·by_cases hb:b'=b
  ·subst hb;rw[ho]at h;obtain⟨r',e1⟩:=hnl r (Option.some.inj h);exact⟨r',by rw[jI _ (dR ho),e1]⟩
  ·exact⟨r,by rw[eD o' hb];exact h⟩
theorem Rel.write {P:Program}{Ξ:Env}{B:Nat}{S:Nat->Nat->Prop}{G:Gh}{st:St}{N:Nat}{a:Act}{w:World}(h:Rel P Ξ B S G st N a w){k:Key}{b thr:Nat}{o o':Obj}{e':Ent}
  (hown:G.own b=some (k,thr)) (ho:w.heap[b]?=some o) (hm: ∀es cl,o≠ .map es cl \/0≥thr) (hnd: ∀ds,o≠ .deferred ds) (hnl: ∀r,o= .loop r-> ∃r',o'= .loop r')
  (hc: ∀off,off<thr->(iU w b o').cell? ⟨b,off,.none⟩=w.cell? ⟨b,off,.none⟩)
  (he:jB (bC B S G w.heap.size) G w (bC B S G (iU w b o').heap.size) G (iU w b o')->ER P B (bC B S G (iU w b o').heap.size) G (iU w b o') k e'):
  Rel P Ξ B S G {st with en:=st.en.set k (some e')} N a (iU w b o'):=by
 obtain⟨hB,hlt,hk⟩:=h.own b k thr hown;have m:=aVm (S:=S) (o':=o') hB hown ho hm hnd hnl hc
 refine h.change m (by rw[lW];exact bXd _) (fun k' e hk'=>?_) (fun k' hk'=>?_) (fun b' k' t hb'=>by rw[lW];exact h.own b' k' t hb')
 ·simp only[En.set]at hk'
  split at hk'
  ·rename_i heq;subst heq;simp only[bXa]at hk';subst hk';exact he m
  ·rename_i hne
   refine(h.ents k' e hk').mono m.four fun b' _ hb'=>?_
   have hb:b'≠b:=by
    rintro rfl
    rcases hb' with⟨t,hb'⟩|⟨hb',_⟩
    ·rw[hown]at hb';simp only[bXa,bXk]at hb';exact hne hb'.1.symm
    ·rw[hown]at hb';cases hb'
   exact⟨eD o' hb,rfl⟩
 ·refine⟨?_,h.freshG k' hk'⟩
  have hne:k'≠k:=by rintro rfl;omega
  simp only[En.set,if_neg hne];exact h.freshEn k' hk'
def wr (c:Array Value)(o:Nat):List Value->Array Value
 |[]=>c
 |v::vs=>wr (c.setIfInBounds o v) (o+1) vs
theorem aAx : ∀(vs:List Value) (c:Array Value) (o:Nat),(wr c o vs).size=c.size
 |[],_,_=>rfl
 |v::vs,c,o=>by rw[wr,aAx];simp
theorem zO : ∀(vs:List Value) (c:Array Value) (o i:Nat),o+vs.length<=c.size->(wr c o vs)[i]?=if o<=i/\ i<o+vs.length then vs[i-o]? else c[i]?
 |[],c,o,i,_=>by simp[wr];omega
 |v::vs,c,o,i,h=>by
  simp only[bXu]at h;rw[wr,zO vs _ _ _ (by simp;omega)]
  by_cases h1:o+1<=i/\ i<o+1+vs.length
  ·rw[if_pos h1,if_pos (by simp;omega),show i-o=(i-(o+1))+1 by omega,bXh]
  ·rw[if_neg h1]
   by_cases h2:i=o
   ·subst h2;rw[if_pos (by simp)];simp[bZn];omega
   ·have h3: ¬o=i:=fun e=>h2 e.symm
    rw[if_neg (by simp;omega)];simp[bZn,h3]
theorem aDl {w:World}{b o:Nat}{c:Array Value}{t:TypeId}(v:Value)(h:w.heap[b]?=some (.cells c t (0,0))):
  w.setCell ⟨b,o,.none⟩ v=iU w b (.cells (c.setIfInBounds o v) t (0,0)):=by
 unfold World.setCell iU
 congr 1
 apply Array.ext_getElem?;intro i;rw[Array.getElem?_modify,bZn];have hb:=(bY8.1 h).1
 by_cases hi:b=i
 ·subst hi;have h2:=(bY8.1 h).2;simp[hb,h2]
 ·simp[hi]
theorem aIf (w:World)(b:Nat)(o o':Obj):iU (iU w b o) b o'=iU w b o':=by
 simp[iU]
theorem aRa {w:World}{b:Nat}{o:Obj}(h:w.heap[b]?=some o):iU w b o=w:=by
 obtain⟨hb,h2⟩:=bY8.1 h;have:w.heap.setIfInBounds b o=w.heap:=by
  apply Array.ext_getElem?;intro i;rw[bZn]
  by_cases hi:b=i
  ·subst hi;simp[hb,h2]
  ·simp[hi]
 unfold iU;rw[this]
theorem aE8 {v:Value}(h:eZ v=true):v.oneCell'=true:=by cases v<;>first|rfl|cases h
theorem wB (P:Program): ∀(vs:List Value) (w:World) (b o i:Nat) (c:Array Value) (t:TypeId),w.heap[b]?=some (.cells c t (0,0))->(∀v∈vs,eZ v=true)->
  o+i+vs.length<=c.size->(storeCells ⟨b,o,.none⟩ vs i).run P w= .ok () (iU w b (.cells (wr c (o+i) vs) t (0,0)))
 |[],w,b,o,i,c,t,h,_,_=>by simp[storeCells,wr,aRa h]
 |v::vs,w,b,o,i,c,t,h,hv,hl=>by
  simp only[bXu]at hl;have hadd:(⟨b,o,.none⟩:Addr).add i=⟨b,o+i,.none⟩:=by
   by_cases hi:i=0
   ·subst hi;simp[Addr.add]
   ·simp[Addr.add,hi]
  have hcell:w.cell? ⟨b,o+i,.none⟩=some (c[o+i]'(by omega)):=by rw[kZ h];simp
  have hfr:w.frozen? ⟨b,o+i,.none⟩=false:=by simp[World.frozen?,h]
  have hs:=aDl (o:=o+i) v h;have hb:=dR h;simp only[storeCells,hadd,Sem.run_bind,run_store P w _ v .plain (aE8 (hv v (by simp))),hcell,hfr,hs,bXc,if_false,Result.andThen_ok]
  rw[wB P vs _ b o (i+1) (c.setIfInBounds (o+i) v) t (by rw[jI _ hb]) (fun x hx=>hv x (by simp[hx])) (by simp;omega),aIf]
  rfl
theorem aAy {P:Program}{t ty:TypeId}{w:World}{b o:Nat}{c:Array Value}{x:Value}(h:w.heap[b]?=some (.cells c ty (0,0)))
  (hi: ∃i,P.info? t=some i) (hn:x.cells.size=P.cellsOf t) (ho: ∀i,i<x.cells.size->eZ (x.cells.getD i undef)=true) (hl:o+x.cells.size<=c.size):
  (storeVar t ⟨b,o,.none⟩ x).run P w= .ok () (iU w b (.cells (wr c o x.cells.toList) ty (0,0))):=by
 obtain⟨i,hi⟩:=hi;have hsz:(sizeOf t).run P w= .ok (P.cellsOf t) w:=by simp[sizeOf,typeInfo,hi,Program.cellsOf]
 simp only[storeVar,Sem.run_bind,hsz,Result.andThen_ok,hn,ne_eq,not_true,if_false]
 refine(wB P _ _ _ _ _ _ _ h (fun v hv=>?_) (by simpa using hl)).trans (by simp)
 obtain⟨j,hj,rfl⟩:=List.mem_iff_getElem.1 hv;have:=ho j (by simpa using hj)
 simpa[bXt,show j<x.cells.size by simpa using hj]using this
end Go.Abs
namespace Go.Abs
open Go.RowKit (Below)
def Gh.disown (G:Gh)(b:Nat):Gh:={G with own:=fun b'=>if b'=b then .none else G.own b'}
def Gh.raise (G:Gh)(b:Nat)(k:Key)(thr:Nat):Gh:={G with own:=fun b'=>if b'=b then some (k,thr)else G.own b'}
def Cov (T:Nat->Nat->Prop)(G:Gh)(k:Key):Ent->Prop
 | .box cs _=> ∀b,G.box k=some b-> ∀j,j<cs.length->T b j
 | .blk _ xs _=> ∀b base sz C,G.blk k=some (some (b,base,sz,C))-> ∀i j,i<xs.length->j<sz->T b (base+i*sz+j)
 | .map _ _ _=> ∀r,G.mp k=some r->T r 0
 | .loop _ _ _ _ _=>True
 | .iter _ _=>True
theorem Cov.freeze {T:Nat->Nat->Prop}{G:Gh}{k:Key}{e:Ent}(h:Cov T G k e):Cov T G k e.freeze:=by cases e<;>exact h
theorem aDm {B:Nat}{S:Nat->Nat->Prop}{G:Gh}{n b b' o:Nat}(h:bC B S G n b' o):bC B S (G.disown b) n b' o:=by
 refine⟨h.1,h.2.imp id fun⟨h1,h2⟩=>⟨h1,?_⟩⟩
 simp only[Gh.disown]
 by_cases hb:b'=b
 ·simp[hb]
 ·simpa[hb]using h2
theorem aOz {B:Nat}{S:Nat->Nat->Prop}{G:Gh}{n b b' o thr thr':Nat}{k:Key}(hk:G.own b=some (k,thr))(ht:thr<=thr')(h:bC B S G n b' o):
  bC B S (G.raise b k thr') n b' o:=by
 refine⟨h.1,h.2.imp id fun⟨h1,h2⟩=>⟨h1,?_⟩⟩
 simp only[Gh.raise]
 by_cases hb:b'=b
 ·subst hb;rw[hk]at h2;simp at h2⊢;omega
 ·simpa[hb]using h2
theorem Rel.freeze1 {P:Program}{Ξ:Env}{B:Nat}{S:Nat->Nat->Prop}{G:Gh}{st:St}{N:Nat}{a:Act}{w:World}(h:Rel P Ξ B S G st N a w){k:Key}{e:Ent}(he:st.en k=some e):
  ∃G',Rel P Ξ B S G' {st with en:=st.en.set k (some e.freeze)} N a w/\ jB (bC B S G w.heap.size) G w (bC B S G' w.heap.size) G' w/\ G'.box=G.box/\ G'.blk=G.blk/\ G'.mp=G.mp/\
   Cov (bC B S G' w.heap.size) G' k e:=by
 have hk:k.g<st.cnt k.n k.t:=by
  rcases Nat.lt_or_ge k.g (st.cnt k.n k.t)with h1|h1
  ·exact h1
  ·rw[h.freshEn k h1]at he;cases he
 have fin: ∀(G':Gh),jB (bC B S G w.heap.size) G w (bC B S G' w.heap.size) G' w->G'.box=G.box->G'.blk=G.blk->G'.mp=G.mp->
   (∀b,(¬ ∃t,G.own b=some (k,t))->G'.own b=G.own b)->(∀b k' t,G'.own b=some (k',t)-> ∃t',G.own b=some (k',t'))->
   ER P B (bC B S G' w.heap.size) G' w k e.freeze->Rel P Ξ B S G' {st with en:=st.en.set k (some e.freeze)} N a w:=by
  intro G' m e1 e2 e3 ho ho' hE
  refine h.change m (bXd _) (fun k' e' hk'=>?_) (fun k' hk'=>?_) (fun b k' t hb=>let ⟨t',hb'⟩:=ho' b k' t hb;h.own b k' t' hb')
  ·simp only[En.set]at hk'
   split at hk'
   ·rename_i heq;subst heq;simp only[bXa]at hk';subst hk';exact hE
   ·rename_i hne
    refine(h.ents k' e' hk').mono m.four fun b' _ hb'=>⟨rfl,ho b' ?_⟩
    rintro⟨t,ht⟩
    rcases hb' with⟨t',hb'⟩|⟨hb',_⟩
    ·rw[ht]at hb';simp only[bXa,bXk]at hb';exact hne hb'.1.symm
    ·rw[ht]at hb';cases hb'
  ·obtain⟨f1,f2,f3⟩:=h.freshG k' hk'
   refine⟨?_,by rw[e1];exact f1,by rw[e2];exact f2,by rw[e3];exact f3⟩
   have hne:k'≠k:=by rintro rfl;omega
   simp only[En.set,if_neg hne];exact h.freshEn k' hk'
 have hE:=h.ents k e he;cases hE with
 |box cs frz b c t hb hB hh hs ho hv hown=>
  have m:jB (bC B S G w.heap.size) G w (bC B S (G.disown b) w.heap.size) (G.disown b) w:=⟨fun _ _=>aDm,⟨fun _ _ e=>e,fun _ _ e=>e,fun _ _ e=>e⟩,fun _ _ _ _ e=>e,fun _ _ _ _ e=>e,fun _ _ e=>e,fun _ r e=>⟨r,e⟩⟩
  refine⟨G.disown b,fin _ m rfl rfl rfl (fun b' hb'=>?_) (fun b' k' t' hb'=>?_) ?_,m,rfl,rfl,rfl,?_⟩
  ·simp only[Gh.disown];split
   ·rename_i e;subst e;cases frz
    ·exact absurd ⟨0,hown⟩ hb'
    ·exact hown.symm
   ·rfl
  ·simp only[Gh.disown]at hb';split at hb'
   ·cases hb'
   ·exact⟨t',hb'⟩
  ·exact .box cs true b c t hb hB hh hs ho (fun j hj=>(hv j hj).mono m) (by simp[Gh.disown])
  ·intro b' hb' j hj;have:b'=b:=by rw[show(G.disown b).box k=G.box k from rfl,hb]at hb';exact(Option.some.inj hb').symm
   subst this;exact⟨dR hh,.inr ⟨hB,by simp[Gh.disown]⟩⟩
 |nul sz frz hn=>
  have m:=jB.refl (bC B S G w.heap.size) G w
  refine⟨G,fin G m rfl rfl rfl (fun _ _=>rfl) (fun b k' t hb=>⟨t,hb⟩) (.nul sz true hn),m,rfl,rfl,rfl,?_⟩
  intro b base sz C _ i j hi;simp at hi
 |blk xs frz b base sz C thr c t hb hB hh hC hC' hs ho hv hown hthr=>
  have hle:thr<=base+xs.length*sz:=by subst hthr;split<;>omega
  have m:jB (bC B S G w.heap.size) G w (bC B S (G.raise b k (base+xs.length*sz)) w.heap.size) (G.raise b k (base+xs.length*sz)) w:=
   ⟨fun _ _=>aOz hown hle,⟨fun _ _ e=>e,fun _ _ e=>e,fun _ _ e=>e⟩,fun _ _ _ _ e=>e,fun _ _ _ _ e=>e,fun _ _ e=>e,fun _ r e=>⟨r,e⟩⟩
  refine⟨G.raise b k (base+xs.length*sz),fin _ m rfl rfl rfl (fun b' hb'=>?_) (fun b' k' t' hb'=>?_) ?_,m,rfl,rfl,rfl,?_⟩
  ·simp only[Gh.raise];split
   ·rename_i e;subst e;exact absurd ⟨thr,hown⟩ hb'
   ·rfl
  ·simp only[Gh.raise]at hb';split at hb'
   ·rename_i e;subst e;simp only[bXa,bXk]at hb';rw[<-hb'.1];exact⟨thr,hown⟩
   ·exact⟨t',hb'⟩
  ·exact .blk xs true b base sz C (base+xs.length*sz) c t hb hB hh hC hC' hs ho (fun i j hi hj=>(hv i j hi hj).mono m.none) (by simp[Gh.raise]) rfl
  ·intro b' base' sz' C' hb' i j hi hj;have:(b',base',sz',C')=(b,base,sz,C):=by rw[show(G.raise b k (base+xs.length*sz)).blk k=G.blk k from rfl,hb]at hb';exact(Option.some.inj (Option.some.inj hb')).symm
   simp only[bXk]at this;obtain⟨rfl,rfl,rfl,rfl⟩:=this
   refine⟨dR hh,.inr ⟨hB,?_⟩⟩
   simp only[Gh.raise,if_true];have:i*sz'+sz'<=xs.length*sz':=by rw[<-bYv];exact bYj _ hi
   omega
 |loop fr ps la lb s l rec I N' hl hB hh hps ha hb hN hpN haN hbN hf hst hown=>
  have m:=jB.refl (bC B S G w.heap.size) G w;exact⟨G,fin G m rfl rfl rfl (fun _ _=>rfl) (fun b k' t hb=>⟨t,hb⟩) (.loop fr ps la lb s l rec I N' hl hB hh hps ha hb hN hpN haN hbN hf hst hown),m,rfl,rfl,rfl,trivial⟩
 |iter s pos r hr hB hh hown=>
  have m:=jB.refl (bC B S G w.heap.size) G w;exact⟨G,fin G m rfl rfl rfl (fun _ _=>rfl) (fun b k' t hb=>⟨t,hb⟩) (.iter s pos r hr hB hh hown),m,rfl,rfl,rfl,trivial⟩
 |full xs b base sz c hb hs hh ht ho hv=>
  have m:=jB.refl (bC B S G w.heap.size) G w
  refine⟨G,fin G m rfl rfl rfl (fun _ _=>rfl) (fun b k' t hb=>⟨t,hb⟩) (.full xs b base sz c hb hs hh ht ho hv),m,rfl,rfl,rfl,?_⟩
  intro b' base' sz' C' hb' i j hi hj;have:(b',base',sz',C')=(b,base,sz,xs.length):=by rw[hb]at hb';exact(Option.some.inj (Option.some.inj hb')).symm
  simp only[bXk]at this;obtain⟨rfl,rfl,rfl,rfl⟩:=this;exact ht i j hi hj
 |map ks vs frz r es clock hr hB hh hkk hl hkv hvv hown=>
  have m:jB (bC B S G w.heap.size) G w (bC B S (G.disown r) w.heap.size) (G.disown r) w:=⟨fun _ _=>aDm,⟨fun _ _ e=>e,fun _ _ e=>e,fun _ _ e=>e⟩,fun _ _ _ _ e=>e,fun _ _ _ _ e=>e,fun _ _ e=>e,fun _ r e=>⟨r,e⟩⟩
  refine⟨G.disown r,fin _ m rfl rfl rfl (fun b' hb'=>?_) (fun b' k' t' hb'=>?_) ?_,m,rfl,rfl,rfl,?_⟩
  ·simp only[Gh.disown];split
   ·rename_i e;subst e;cases frz
    ·exact absurd ⟨0,hown⟩ hb'
    ·exact hown.symm
   ·rfl
  ·simp only[Gh.disown]at hb';split at hb'
   ·cases hb'
   ·exact⟨t',hb'⟩
  ·exact .map ks vs true r es clock hr hB hh hkk hl (fun i hi=>(hkv i hi).mono m.none) (fun i hi=>(hvv i hi).mono m.none) (by simp[Gh.disown])
  ·intro b' hb';have:b'=r:=by rw[show(G.disown r).mp k=G.mp k from rfl,hr]at hb';exact(Option.some.inj hb').symm
   subst this;exact⟨dR hh,.inr ⟨hB,by simp[Gh.disown]⟩⟩
theorem Cov.mono {T T':Nat->Nat->Prop}{G G':Gh}{k:Key}{e:Ent}(ht: ∀b o,T b o->T' b o)(hb:G'.box=G.box)(hk:G'.blk=G.blk)(hm:G'.mp=G.mp)(h:Cov T G k e):Cov T' G' k e:=by
 cases e with
 |box cs f=>intro b hb' j hj;rw[hb]at hb';exact ht _ _ (h b hb' j hj)
 |blk sz0 xs f=>intro b base sz C hb' i j hi hj;rw[hk]at hb';exact ht _ _ (h b base sz C hb' i j hi hj)
 |map ks vs f=>intro r hr;rw[hm]at hr;exact ht _ _ (h r hr)
 |loop=>trivial
 |iter=>trivial
theorem Rel.freezeAll {P:Program}{Ξ:Env}{B:Nat}{S:Nat->Nat->Prop}{N:Nat}{a:Act}{w:World}(ks:List Key): ∀{G:Gh} {st:St},Rel P Ξ B S G st N a w->
  ∃G',Rel P Ξ B S G' {st with en:=W.applyAll st.en (ks.map .frz)} N a w/\ jB (bC B S G w.heap.size) G w (bC B S G' w.heap.size) G' w/\ G'.box=G.box/\ G'.blk=G.blk/\ G'.mp=G.mp/\
   ∀k∈ks,∀e,st.en k=some e->Cov (bC B S G' w.heap.size) G' k e:=by
 induction ks with
 |nil=>intro G st h;exact⟨G,h,jB.refl _ _ _,rfl,rfl,rfl,fun k hk=>by cases hk⟩
 |cons k ks ih=>
  intro G st h;have step: ∃G1,Rel P Ξ B S G1 {st with en:=W.apply st.en (.frz k)} N a w/\ jB (bC B S G w.heap.size) G w (bC B S G1 w.heap.size) G1 w/\ G1.box=G.box/\ G1.blk=G.blk/\ G1.mp=G.mp/\
    (∀e,st.en k=some e->Cov (bC B S G1 w.heap.size) G1 k e):=by
   cases he:st.en k with
   |none=>refine⟨G,?_,jB.refl _ _ _,rfl,rfl,rfl,fun e h=>by cases h⟩;simp only[W.apply,he];exact h
   |some e=>
    obtain⟨G1,h1,m1,e1,e2,e3,c1⟩:=h.freeze1 he
    refine⟨G1,?_,m1,e1,e2,e3,fun e' h=>by cases h;exact c1⟩
    simp only[W.apply,he];exact h1
  obtain⟨G1,h1,m1,e1,e2,e3,c1⟩:=step;obtain⟨G2,h2,m2,f1,f2,f3,c2⟩:=ih h1
  refine⟨G2,h2,m1.trans m2,f1.trans e1,f2.trans e2,f3.trans e3,fun k' hk' e he=>?_⟩
  rcases bYe.1 hk' with rfl|hk'
  ·exact(c1 e he).mono m2.t f1 f2 f3
  ·by_cases hkk:k'=k
   ·subst hkk;exact(c1 e he).mono m2.t f1 f2 f3
   ·refine c2 k' hk' e ?_
    simp only[W.apply];cases hk0:st.en k with
    |none=>exact he
    |some e0=>simp only[En.set,if_neg hkk];exact he
theorem kL {α β:Type}{f:α->Option β}: ∀{l:List α} {r:List β},dO f l=some r->r.length=l.length/\ ∀(i:Nat) (h:i<l.length) (h':i<r.length),f l[i]=some r[i]
 |[],r,h=>by simp only[dO,bXa]at h;subst h;exact⟨rfl,fun i h=>by simp at h⟩
 |x::xs,r,h=>by
  simp only[dO]at h
  split at h
  ·rename_i y hy
   split at h
   ·rename_i ys hys;simp only[bXa]at h;subst h;obtain⟨h1,h2⟩:=kL hys
    refine⟨by simp[h1],fun i hi hi'=>?_⟩
    cases i with
    |zero=>simpa using hy
    |succ i=>simpa using h2 i (by simpa using hi) (by simpa using hi')
   ·cases h
  ·cases h
theorem zP {n:Nat}{en:En}{vs:List Val}{rs:List (Val×List Key)}(h:dO (snap n en) vs=some rs):
  (rs.map (·.1)).length=vs.length/\ ∀i,i<vs.length-> ∃ks,snap n en (vs.getD i .dead)=some ((rs.map (·.1)).getD i .dead,ks)/\ ∀k∈ks,k∈rs.flatMap (·.2):=by
 obtain⟨h1,h2⟩:=kL h
 refine⟨by simp[h1],fun i hi=>?_⟩
 have hi':i<rs.length:=by omega
 refine⟨rs[i].2,?_,fun k hk=>bYk.2 ⟨rs[i],bXn hi',hk⟩⟩
 have:=h2 i hi hi';simp[bXm,hi,hi',this]
theorem aAz {xs:List Val}{i:Nat}{x:Val}(h:xs[i]?=some x):i<xs.length/\ xs.getD i .dead=x:=by
 obtain⟨h1,h2⟩:=List.getElem?_eq_some_iff.1 h;exact⟨h1,by simp[bXm,h1,h2]⟩
theorem lB {xs:List Val}{off len i:Nat}(hi:i<len)(h:off+len<=xs.length):((xs.drop off).take len).getD i .dead=xs.getD (off+i) .dead:=by
 simp only[bXm,List.getElem?_take,bZ0,hi,if_true]
structure aYb (T:Nat->Nat->Prop) (w:World) (xs:List Val) (b base sz:Nat):Prop where
 hs: ∀i,i<xs.length->(xs.getD i .dead).cells.length=sz
 h: ∀i j,i<xs.length->j<sz-> ∃c,w.cell? ⟨b,base+i*sz+j,.none⟩=some c/\ T b (base+i*sz+j)/\ eZ c=true/\ VR T Gh.none w ((xs.getD i .dead).cells.getD j .dead) c
theorem ER.held {P:Program}{B:Nat}{T T':Nat->Nat->Prop}{G G':Gh}{w:World}{k:Key}{xs:List Val}{frz:Bool}{b base sz sz0 C:Nat}(h:ER P B T G w k (.blk sz0 xs frz))(m:jB T G w T' G' w)
  (hb:G.blk k=some (some (b,base,sz,C))) (hc:Cov T' G k (.blk sz0 xs frz)):aYb T' w xs b base sz:=by
 cases h with
 |nul _ frz h=>exact⟨fun i hi=>by simp at hi,fun i j hi=>by simp at hi⟩
 |blk xs frz b1 base1 sz0 C1 thr c t hb1 hB hh hC hC' hs ho hv hown hthr=>
  rw[hb1]at hb;simp only[bXa,bXk]at hb;obtain⟨rfl,rfl,rfl,rfl⟩:=hb
  refine⟨hs,fun i j hi hj=>?_⟩
  have hlt:base1+i*sz0+j<c.size:=by
   have:i*sz0+sz0<=C1*sz0:=by rw[<-bYv];exact bYj _ (by omega)
   omega
  refine⟨c.getD (base1+i*sz0+j) undef,?_,hc _ _ _ _ hb1 i j hi hj,ho i j hi hj,(hv i j hi hj).mono m.none⟩
  rw[kZ hh];simp[bXt,hlt]
 |full xs b1 base1 sz0 c hb1 hs hh ht ho hv=>
  rw[hb1]at hb;simp only[bXa,bXk]at hb;obtain⟨rfl,rfl,rfl,rfl⟩:=hb;exact⟨hs,fun i j hi hj=>⟨c i j,hh i j hi hj,hc _ _ _ _ hb1 i j hi hj,ho i j hi hj,(hv i j hi hj).mono m.none⟩⟩
theorem aYb.slice {T:Nat->Nat->Prop}{w:World}{xs:List Val}{b base sz:Nat}(h:aYb T w xs b base sz){G:Gh}{off len cap:Nat}(hl:off+len<=xs.length)(hc:len<=cap):
  VR T G w (.fz ((xs.drop off).take len)) (.slice (some ⟨b,base+off*sz,.none⟩) len cap):=by
 have hlen:((xs.drop off).take len).length=len:=by simp;omega
 have hget: ∀i j,i<len->j<sz-> ∃c,w.cell? ⟨b,base+off*sz+i*sz+j,.none⟩=some c/\ T b (base+off*sz+i*sz+j)/\ eZ c=true/\ VR T Gh.none w ((((xs.drop off).take len).getD i .dead).cells.getD j .dead) c:=by
  intro i j hi hj;have:=h.h (off+i) j (by omega) hj
  rw[lB hi hl];rw[show base+off*sz+i*sz+j=base+(off+i)*sz+j by rw[bYq];omega]
  exact this
 have h1: ∀i j,∃c,i<len->j<sz->w.cell? ⟨b,base+off*sz+i*sz+j,.none⟩=some c/\ T b (base+off*sz+i*sz+j)/\ eZ c=true/\ VR T Gh.none w ((((xs.drop off).take len).getD i .dead).cells.getD j .dead) c:=by
  intro i j
  by_cases hi:i<len
  ·by_cases hj:j<sz
   ·obtain⟨c,hc⟩:=hget i j hi hj;exact⟨c,fun _ _=>hc⟩
   ·exact⟨undef,fun _ hj'=>absurd hj' hj⟩
  ·exact⟨undef,fun hi'=>absurd hi' hi⟩
 have h2:=fun i=>Classical.axiomOfChoice (h1 i)
 obtain⟨c,hc'⟩:=Classical.axiomOfChoice h2;have:=VR.fz (T:=T) (G:=G) (w:=w) ((xs.drop off).take len) b (base+off*sz) sz cap c (by rw[hlen];exact hc)
  (fun i hi=>by rw[hlen]at hi;rw[lB hi hl];exact h.hs _ (by omega))
  (fun i j hi hj=>by rw[hlen]at hi;exact(hc' i j hi hj).1) (fun i j hi hj=>by rw[hlen]at hi;exact(hc' i j hi hj).2.1)
  (fun i j hi hj=>by rw[hlen]at hi;exact(hc' i j hi hj).2.2.1) (fun i j hi hj=>by rw[hlen]at hi;exact(hc' i j hi hj).2.2.2)
 rwa [hlen]at this
theorem aYb.elem {T:Nat->Nat->Prop}{w:World}{xs:List Val}{b base sz:Nat}(h:aYb T w xs b base sz){G:Gh}{i off:Nat}{x:Val}(hx:xs[i]?=some x):
  VR T G w (.fp x.cells off) (.pointer (some ⟨b,base+i*sz+off,.none⟩)):=by
 obtain⟨hi,hx'⟩:=aAz hx;have hl:=h.hs i hi;rw[hx']at hl;have h1: ∀j,∃c,j<sz->w.cell? ⟨b,base+i*sz+j,.none⟩=some c/\ T b (base+i*sz+j)/\ eZ c=true/\ VR T Gh.none w (x.cells.getD j .dead) c:=by
  intro j
  by_cases hj:j<sz
  ·obtain⟨c,hc⟩:=h.h i j hi hj;rw[hx']at hc;exact⟨c,fun _=>hc⟩
  ·exact⟨undef,fun hj'=>absurd hj' hj⟩
 obtain⟨c,hc⟩:=Classical.axiomOfChoice h1;exact .fp x.cells off b (base+i*sz) c (fun j hj=>(hc j (by omega)).1) (fun j hj=>(hc j (by omega)).2.1) (fun j hj=>(hc j (by omega)).2.2.1) (fun j hj=>(hc j (by omega)).2.2.2)
theorem zQ {P:Program}{B:Nat}{T T':Nat->Nat->Prop}{G:Gh}{w:World}{en:En}(hents: ∀k e,en k=some e->ER P B T G w k e)(m:jB T G w T' G w)(n:Nat):
  ∀{v:Val} {x:Value} {v':Val} {ks:List Key},VR T G w v x->snap n en v=some (v',ks)->(∀k∈ks,∀e,en k=some e->Cov T' G k e)->VR T' Gh.none w v' x:=by
 have m0:jB T Gh.none w T' Gh.none w:=m.none
 induction n with
 |zero=>
  intro v x v' ks hv hs hc;have key:(∀cs,v≠ .agg cs)/\ (∀cs,v≠ .tup cs)/\ v'= .dead:=by
   cases v<;>simp only[snap,bXa,bXk,reduceCtorEq]at hs<;>exact⟨fun _=>by simp,fun _=>by simp,hs.1.symm⟩
  rw[key.2.2];exact .dead x (hv.one key.1 key.2.1)
 |succ n ih=>
  intro v x v' ks hv hs hc;have lists: ∀{vs:List Val} {rs:List (Val×List Key)} {xs:Nat->Value},dO (snap n en) vs=some rs->(∀i,i<vs.length->VR T G w (vs.getD i .dead) (xs i))->
    (∀k∈rs.flatMap (·.2),∀e,en k=some e->Cov T' G k e)->(rs.map (·.1)).length=vs.length/\ ∀i,i<vs.length->VR T' Gh.none w ((rs.map (·.1)).getD i .dead) (xs i):=by
   intro vs rs xs h1 h2 h3;obtain⟨h4,h5⟩:=zP h1
   refine⟨h4,fun i hi=>?_⟩
   obtain⟨ks',h6,h7⟩:=h5 i hi;exact ih (h2 i hi) h6 fun k hk=>h3 k (h7 k hk)
  cases hv with
  |yld k l h=>simp only[snap]at hs;cases hs
  |it k r h=>simp only[snap]at hs;cases hs
  |ptr k off b h=>
   simp only[snap]at hs
   split at hs
   ·rename_i cs f he;simp only[Option.map_map,bXq,Function.comp]at hs;obtain⟨rs,hrs,hh⟩:=hs;simp only[bXk]at hh;obtain⟨rfl,rfl⟩:=hh;have hE:=hents k _ he;have hcov:=hc k (by simp) _ he
    cases hE with
    |box cs frz b' c t hb hB hh' hsz ho hv hown=>
     rw[h]at hb;simp only[bXa]at hb;subst hb;obtain⟨l1,l2⟩:=lists (xs:=fun j=>c.getD j undef) hrs hv fun k' hk'=>hc k' (by simp at hk'⊢;exact .inr hk')
     have:=VR.fp (T:=T') (G:=Gh.none) (w:=w) (rs.map (·.1)) off b 0 (fun j=>c.getD j undef)
      (fun j hj=>by rw[l1]at hj;rw[kZ hh',bX2];simp[show j<c.size by omega])
      (fun j hj=>by rw[l1]at hj;rw[bX2];exact hcov b h j hj) (fun j hj=>by rw[l1]at hj;exact ho j hj) (fun j hj=>by rw[l1]at hj;exact l2 j hj)
     rwa [bX2]at this
   ·cases hs
  |ep k i off b base sz C h hi=>
   simp only[snap]at hs
   split at hs
   ·rename_i sz0 xs f he
    split at hs
    ·rename_i y hy;simp only[bXa,bXk]at hs;obtain⟨rfl,rfl⟩:=hs;exact((hents k _ he).held m h (hc k (by simp) _ he)).elem hy
    ·cases hs
   ·cases hs
  |bl0 k a h=>
   simp only[snap]at hs
   split at hs
   ·split at hs
    ·simp only[bXa,bXk]at hs;obtain⟨rfl,rfl⟩:=hs;simp only[bY9];exact .fz0 a 0
    ·cases hs
   ·cases hs
  |bl k off len b base sz C h hl=>
   simp only[snap]at hs
   split at hs
   ·rename_i sz0 xs f he
    split at hs
    ·rename_i hle;simp only[bXa,bXk]at hs;obtain⟨rfl,rfl⟩:=hs;exact((hents k _ he).held m h (hc k (by simp) _ he)).slice hle (by omega)
    ·cases hs
   ·cases hs
  |ble k a b base sz C h=>
   simp only[snap]at hs
   split at hs
   ·split at hs
    ·simp only[bXa,bXk]at hs;obtain⟨rfl,rfl⟩:=hs;simp only[bY9];exact .fz0 a 0
    ·cases hs
   ·cases hs
  |mp k r h=>
   simp only[snap]at hs
   split at hs
   ·rename_i ks' vs' f he;simp only[bXa,bXk]at hs;obtain⟨rfl,rfl⟩:=hs;have hcov:=hc k (by simp) _ he
    have hE:=hents k _ he;cases hE with
    |map ks vs frz r' es clock hr hB hh hk hl hkv hvv hown=>
     rw[h]at hr;simp only[bXa]at hr;subst hr;exact .fm _ _ r es clock hh (hcov r h) hk hl (fun i hi=>(hkv i hi).mono m0) (fun i hi=>(hvv i hi).mono m0)
   ·cases hs
  |fn f a b x y ha hb hx hy=>
   simp only[snap]at hs
   split at hs
   ·rename_i r1 r2 h1 h2;simp only[bXq]at h1 h2;obtain⟨rs1,hr1,rfl⟩:=h1;obtain⟨rs2,hr2,rfl⟩:=h2;simp only[bXa,bXk]at hs;obtain⟨rfl,rfl⟩:=hs;obtain⟨l1,l2⟩:=lists (xs:=fun j=>x.getD j undef) hr1 hx fun k' hk'=>hc k' (bYo _ hk')
    obtain⟨l3,l4⟩:=lists (xs:=fun j=>y.getD j undef) hr2 hy fun k' hk'=>hc k' (bYl _ hk')
    exact .fn f _ _ x y (ha.trans l1.symm) (hb.trans l3.symm) (fun i hi=>l2 i (by omega)) (fun i hi=>l4 i (by omega))
   ·cases hs
  |ifc t u x h=>
   simp only[snap,bXq]at hs;obtain⟨r,hr,hh⟩:=hs;simp only[bXk]at hh;obtain⟨rfl,rfl⟩:=hh;exact .ifc t _ x (ih h hr hc)
  |agg cs x h ho hv=>
   simp only[snap,Option.map_map,bXq,Function.comp]at hs;obtain⟨rs,hr,hh⟩:=hs;simp only[bXk]at hh;obtain⟨rfl,rfl⟩:=hh;obtain⟨l1,l2⟩:=lists (xs:=fun j=>x.getD j undef) hr hv hc
   exact .agg _ x (h.trans l1.symm) (fun i hi=>ho i (by omega)) (fun i hi=>l2 i (by omega))
  |tup vs x h hv=>
   simp only[snap,Option.map_map,bXq,Function.comp]at hs;obtain⟨rs,hr,hh⟩:=hs;simp only[bXk]at hh;obtain⟨rfl,rfl⟩:=hh;obtain⟨l1,l2⟩:=lists (xs:=fun j=>x.getD j undef) hr hv hc
   exact .tup _ x (h.trans l1.symm) (fun i hi=>l2 i (by omega))
  |dead x h=>simp only[snap,bXa,bXk]at hs;obtain⟨rfl,rfl⟩:=hs;exact .dead x h
  |bool b=>simp only[snap,bXa,bXk]at hs;obtain⟨rfl,rfl⟩:=hs;exact .bool b
  |int k n=>simp only[snap,bXa,bXk]at hs;obtain⟨rfl,rfl⟩:=hs;exact .int k n
  |str s=>simp only[snap,bXa,bXk]at hs;obtain⟨rfl,rfl⟩:=hs;exact .str s
  |nilp=>simp only[snap,bXa,bXk]at hs;obtain⟨rfl,rfl⟩:=hs;exact .nilp
  |fp cs off b base c h ht ho hv=>simp only[snap,bXa,bXk]at hs;obtain⟨rfl,rfl⟩:=hs;exact(VR.fp cs off b base c h ht ho hv).mono m0
  |fz0 a cap=>simp only[snap,bXa,bXk]at hs;obtain⟨rfl,rfl⟩:=hs;exact .fz0 a cap
  |fz xs b off sz cap c hc' hs' h ht ho hv=>simp only[snap,bXa,bXk]at hs;obtain⟨rfl,rfl⟩:=hs;exact(VR.fz xs b off sz cap c hc' hs' h ht ho hv).mono m0
  |cl0 a=>simp only[snap,bXa,bXk]at hs;obtain⟨rfl,rfl⟩:=hs;exact .cl0 a
  |cl xs b off sz c hs' h ht ho hv=>simp only[snap,bXa,bXk]at hs;obtain⟨rfl,rfl⟩:=hs;exact(VR.cl xs b off sz c hs' h ht ho hv).mono m0
  |nilm=>simp only[snap,bXa,bXk]at hs;obtain⟨rfl,rfl⟩:=hs;exact .nilm
  |fm ks vs r es clock h ht hk hl hkv hvv=>simp only[snap,bXa,bXk]at hs;obtain⟨rfl,rfl⟩:=hs;exact(VR.fm ks vs r es clock h ht hk hl hkv hvv).mono m0
  |nilf=>simp only[snap,bXa,bXk]at hs;obtain⟨rfl,rfl⟩:=hs;exact .nilf
  |nili=>simp only[snap,bXa,bXk]at hs;obtain⟨rfl,rfl⟩:=hs;exact .nili
  |es a cap=>simp only[snap,bXa,bXk]at hs;obtain⟨rfl,rfl⟩:=hs;exact .es a cap
end Go.Abs
namespace Go.Abs
open Go.RowKit (Below)
theorem qY : ∀{s:List CT} {a c:List Val} (s':List CT) (b d:List Val),a.length=s.length->c.length=s.length->
  iL (s++s') (a++b) (c++d)=(match iL s a c with|some true=>iL s' b d|r=>r)
 |[],[],[],s',b,d,_,_=>by simp[iL]
 |t::s,x::a,y::c,s',b,d,h,h'=>by
  simp only[bZg,iL];cases vY t x y with
  |none=>rfl
  |some t=>cases t with
   |false=>rfl
   |true=>exact qY s' b d (by simpa using h) (by simpa using h')
 |[],_::_,_,_,_,_,h,_=>by simp at h
 |[],[],_::_,_,_,_,_,h=>by simp at h
 |_::_,[],_,_,_,_,h,_=>by simp at h
 |_::_,_::_,[],_,_,_,_,h=>by simp at h
theorem VR.not_agg {T:Nat->Nat->Prop}{G:Gh}{w:World}{v:Val}{x:Value}(h:VR T G w v x)(ho:eZ x=true): ∀cs,v≠ .agg cs:=by
 rintro cs rfl;cases h;cases ho
theorem yA {P:Program}{t:TypeId}{w:World}(h:P.underlying t≠none):(isAgg t).run P w= .ok (cM P t) w:=by
 obtain⟨d,hd⟩:=Option.ne_none_iff_exists'.1 h;simp only[isAgg,Sem.run_bind,run_underlying hd,Result.andThen_ok,cM,hd];cases d<;>rfl
theorem aCk {P:Program}{t:TypeId}(h:P.cellsOf t≠0): ∃i,P.info? t=some i:=by
 simp only[Program.cellsOf]at h;cases hi:P.info? t with
 |none=>simp[hi]at h
 |some i=>exact⟨i,rfl⟩
theorem dU {P:Program}{t:TypeId}{w:World}{i:TypeInfo}(h:P.info? t=some i):(sizeOf t).run P w= .ok (P.cellsOf t) w:=by
 simp[sizeOf,typeInfo,h,Program.cellsOf]
theorem jQ {P:Program}{t:TypeId}{d:TypeDesc}(h:P.underlying t=some d): ∃i,P.info? t=some i:=by
 cases hi:P.info? t with
 |none=>simp[Program.underlying,hi]at h
 |some i=>exact⟨i,rfl⟩
theorem aL2 {P:Program}{t:TypeId}(h:cM P t=true): ∃d,P.underlying t=some d:=by
 unfold cM at h;split at h
 ·exact⟨_,by assumption⟩
 ·exact⟨_,by assumption⟩
 ·cases h
theorem aE9 {P:Program}{T:Nat->Nat->Prop}{G:Gh}{w:World}{t:TypeId}{off n:Nat}{zs:List Val}{us:Array Value}(ha:cM P t=true)(hn:P.cellsOf t=n)(hl:off+n<=zs.length)
  (hus:us.size=zs.length) (hon: ∀i,i<zs.length->eZ (us.getD i undef)=true) (hvs: ∀i,i<zs.length->VR T G w (zs.getD i .dead) (us.getD i undef)):
  ∃u,(part t us off).run P w= .ok u w/\ VR T G w (.agg ((zs.drop off).take n)) u:=by
 obtain⟨d,hd⟩:=aL2 ha;obtain⟨i,hi⟩:=jQ hd
 refine⟨.agg (us.extract off (off+n)),?_,?_⟩
 ·simp only[part,Sem.run_bind,yA (P:=P) (t:=t) (w:=w) (by rw[hd];simp),ha,Result.andThen_ok,if_true,dU hi,hn,Sem.run_pure]
 ·have hlen:((zs.drop off).take n).length=n:=by simp;omega
  have hget: ∀i,i<n->(us.extract off (off+n)).getD i undef=us.getD (off+i) undef:=by
   intro i hi;simp only[bXt,Array.getElem?_extract];rw[if_pos (by omega)]
  refine .agg _ _ (by simp;omega) (fun i hi=>?_) (fun i hi=>?_)
  ·rw[hlen]at hi;rw[hget i hi];exact hon _ (by omega)
  ·rw[hlen]at hi;rw[hget i hi,lB hi hl];exact hvs _ (by omega)
theorem aFa {P:Program}{w:World}{t:TypeId}{off:Nat}{us:Array Value}(ha:cM P t=false)(hl:off<us.size)(hu:P.underlying t≠none:=by assumption):
  (part t us off).run P w= .ok (us.getD off undef) w:=by
 simp only[part,Sem.run_bind,yA hu,ha,Result.andThen_ok,bXc,if_false];simp[hl]
theorem aDn {P:Program}{k:Nat}{t:TypeId}{m:List CT}(hm:fJ P k t=some m):P.cellsOf t=m.length:=by
 cases k with
 |zero=>simp[fJ]at hm
 |succ k=>
  simp only[fJ]at hm
  split at hm
  ·split at hm<;>simp only[bXa,reduceCtorEq]at hm;subst hm;assumption
  ·split at hm<;>simp only[bXa,reduceCtorEq]at hm;subst hm;assumption
  ·split at hm<;>simp only[bXa,reduceCtorEq]at hm;subst hm;assumption
  ·split at hm
   ·cases hm
   ·split at hm
    ·split at hm
     ·simp only[bXa]at hm;subst hm;assumption
     ·cases hm
    ·cases hm
  ·split at hm
   ·split at hm
    ·rename_i h;simp only[bXa]at hm;subst hm;rw[h];simp
    ·cases hm
   ·cases hm
  ·cases hm
theorem aFb {P:Program}{k:Nat}{t:TypeId}{m:List CT}(hm:fJ P k t=some m):P.underlying t≠none:=by
 intro h0;cases k with
 |zero=>simp[fJ]at hm
 |succ k=>simp[fJ,h0]at hm
theorem aVn {P:Program}{k:Nat}{t:TypeId}{m:List CT}(hm:fJ P k t=some m)(ha:cM P t=false):m.length=1:=by
 cases k with
 |zero=>simp[fJ]at hm
 |succ k=>
  simp only[fJ]at hm
  split at hm
  ·split at hm<;>simp only[bXa,reduceCtorEq]at hm;subst hm;rfl
  ·split at hm<;>simp only[bXa,reduceCtorEq]at hm;subst hm;rfl
  ·split at hm<;>simp only[bXa,reduceCtorEq]at hm;subst hm;rfl
  ·rename_i hs';simp[cM,hs']at ha
  ·rename_i hs';simp[cM,hs']at ha
  ·cases hm
theorem zR {P:Program}{T:Nat->Nat->Prop}{G:Gh}{w:World}{k:Nat}{t:TypeId}{m:List CT}{off:Nat}(hm:fJ P k t=some m)(zs:List Val)(us:Array Value)(hcount:off+m.length<=zs.length)
  (hus:us.size=zs.length) (hon: ∀i,i<zs.length->eZ (us.getD i undef)=true) (hvs: ∀i,i<zs.length->VR T G w (zs.getD i .dead) (us.getD i undef)):
  ∃z u,(part t us off).run P w= .ok u w/\ VR T G w z u/\ z.cells=(zs.drop off).take m.length/\ (cM P t=true-> ∃cs,z= .agg cs)/\ (cM P t=false-> ∀cs,z≠ .agg cs):=by
 cases ha:cM P t with
 |true=>
  obtain⟨u,pu,vu⟩:=aE9 (w:=w) (off:=off) ha (aDn hm) hcount hus hon hvs;exact⟨_,u,pu,vu,rfl,fun _=>⟨_,rfl⟩,fun h=>by cases h⟩
 |false=>
  have hm1:=aVn hm ha;have hlt:off<zs.length:=by omega
  have hna: ∀cs,zs.getD off .dead≠ .agg cs:=VR.not_agg (hvs _ hlt) (hon _ hlt)
  refine⟨zs.getD off .dead,us.getD off undef,aFa ha (by omega) (aFb hm),hvs _ hlt,?_,(fun h=>by cases h),fun _=>hna⟩
  have:(zs.drop off).take m.length=[zs.getD off .dead]:=by
   rw[hm1,bX7 hlt,List.take_succ_cons,bY9];simp[bXm,hlt]
  rw[this];generalize zs.getD off .dead=z at hna;cases z<;>first|rfl|exact absurd rfl (hna _)
theorem aYc {P:Program}{T:Nat->Nat->Prop}{G:Gh}{w:World}(k:Nat): ∀(t:TypeId) (l:List CT),fJ P k t=some l-> ∀(d:Nat),k<=d-> ∀{x y:Val} {u v:Value} {r:Bool},
  VR T G w x u->VR T G w y v->x.cells.length=l.length->y.cells.length=l.length->(cM P t=true->(∃cs,x= .agg cs)/\ ∃ds,y= .agg ds)->(cM P t=false->(∀cs,x≠ .agg cs)/\ (∀ds,y≠ .agg ds))->
  iL l x.cells y.cells=some r->(Op.equalIn d t u v).run P w= .ok r w:=by
 induction k with
 |zero=>intro t l h;simp[fJ]at h
 |succ k ih=>
  intro t l h d hd x y u v r hx hy hlx hly hagg hnagg he;obtain⟨d,rfl⟩: ∃m,d=m+1:=⟨d-1,by omega⟩
  have scalar: ∀{ct:CT},l=[ct]->cM P t=false-> ∃r',vY ct x y=some r'/\ r'=r:=by
   intro ct hl ha;have hx1:=hnagg ha;have hcx:x.cells=[x]:=by cases x<;>first|rfl|exact absurd rfl (hx1.1 _)
   have hcy:y.cells=[y]:=by cases y<;>first|rfl|exact absurd rfl (hx1.2 _)
   rw[hl,hcx,hcy]at he;simp only[iL]at he
   split at he
   ·rename_i h1;exact⟨true,h1,by simpa using he⟩
   ·rename_i h1;exact⟨false,h1,by simpa using he⟩
   ·cases he
  simp only[fJ]at h
  split at h
  ·rename_i kk hu
   split at h
   ·simp only[bXa]at h;obtain⟨r',h1,rfl⟩:=scalar h.symm (by simp[cM,hu])
    cases hx<;>cases hy<;>simp only[vY,reduceCtorEq]at h1
    rename_i k1 n1 k2 n2
    split at h1
    ·rename_i e;subst e;simp only[bXa]at h1;subst h1;exact run_equalIn_int w d t _ _ _ _ hu
    ·cases h1
   ·cases h
  ·rename_i hu
   split at h
   ·simp only[bXa]at h;obtain⟨r',h1,rfl⟩:=scalar h.symm (by simp[cM,hu])
    cases hx<;>cases hy<;>simp only[vY,reduceCtorEq]at h1
    simp only[bXa]at h1;subst h1;exact run_equalIn_bool' w d t _ _ hu
   ·cases h
  ·rename_i hu
   split at h
   ·simp only[bXa]at h;obtain⟨r',h1,rfl⟩:=scalar h.symm (by simp[cM,hu])
    cases hx<;>cases hy<;>simp only[vY,reduceCtorEq]at h1
    simp only[bXa]at h1;subst h1;exact run_equalIn_string w d t _ _ hu
   ·cases h
  ·rename_i fs hu
   split at h
   ·cases h
   ·rename_i hst
    split at h
    ·rename_i l' hl'
     split at h
     ·rename_i hcells;simp only[bXa]at h;subst h;obtain⟨⟨cs,rfl⟩,⟨ds,rfl⟩⟩:=hagg (by simp[cM,hu])
      cases hx with
      |agg _ xs hxs hox hvx=>
      cases hy with
      |agg _ ys hys hoy hvy=>
      simp only[Val.cells]at hlx hly he;have hfo:P.fieldsOf t=fs:=by simp[Program.fieldsOf,hu]
      rw[run_equalIn_agg w d t xs ys (by rw[hfo];exact hu) (by simpa using hst),hfo]
      have key: ∀(fl:List Field) (done:List CT),rU (fJ P k) fl done=some l'-> ∀r,iL (l'.drop done.length) (cs.drop done.length) (ds.drop done.length)=some r->
        (Op.eqFields d xs ys fl).run P w= .ok r w:=by
       intro fl
       induction fl with
       |nil=>
        intro done h1 r h2;simp only[rU,bXa]at h1;subst h1;have e1:cs.drop done.length=[]:=by simp;omega
        have e2:ds.drop done.length=[]:=by simp;omega
        have e3:done.drop done.length=[]:=by simp
        rw[e1,e2,e3]at h2;simp only[iL,bXa]at h2;subst h2;simp[Op.eqFields]
       |cons f fl ihf=>
        intro done h1 r h2;simp only[rU]at h1
        split at h1
        ·rename_i hf
         split at h1
         ·rename_i m hm;have hpre: ∃rest,l'=done++m++rest:=by
           have: ∀(fl:List Field) (a b:List CT),rU (fJ P k) fl a=some b-> ∃r,b=a++r:=by
            intro fl
            induction fl with
            |nil=>intro a b h;simp only[rU,bXa]at h;exact⟨[],by simp[h]⟩
            |cons g fl ig=>
             intro a b h;simp only[rU]at h
             split at h
             ·split at h
              ·obtain⟨r,hr⟩:=ig _ _ h;exact⟨_,by rw[hr,List.append_assoc]⟩
              ·cases h
             ·cases h
           exact this _ _ _ h1
          obtain⟨rest,hrest⟩:=hpre;have hml:done.length+m.length<=l'.length:=by rw[hrest];simp
          have d1:l'.drop done.length=m++l'.drop (done++m).length:=by rw[hrest];simp
          have d2: ∀(zs:List Val),zs.length=l'.length->zs.drop done.length=(zs.drop done.length).take m.length++zs.drop (done++m).length:=by
           intro zs hz;rw[bX8,<-List.drop_drop,List.take_append_drop]
          rw[d1,d2 cs hlx,d2 ds hly,qY _ _ _ (by simp;omega) (by simp;omega)]at h2
          have hval: ∀(zs:List Val) (us:Array Value),us.size=zs.length->zs.length=l'.length->(∀i,i<zs.length->eZ (us.getD i undef)=true)->(∀i,i<zs.length->VR T G w (zs.getD i .dead) (us.getD i undef))->
            ∃z u,(part f.type us f.offset).run P w= .ok u w/\ VR T G w z u/\ z.cells=(zs.drop done.length).take m.length/\ (cM P f.type=true-> ∃cs,z= .agg cs)/\ (cM P f.type=false-> ∀cs,z≠ .agg cs):=by
           intro zs us hus hzs hon hvs;rw[hf.2];exact zR hm zs us (by omega) hus hon hvs
          obtain⟨zx,ux,px,vx,cx,ax,nx⟩:=hval cs xs hxs hlx hox hvx;obtain⟨zy,uy,py,vy,cy,ay,ny⟩:=hval ds ys hys hly hoy hvy;simp only[Op.eqFields,hf.1,ne_eq,not_false_iff,if_true,Sem.run_bind,px,py,Result.andThen_ok];have hstep: ∀r',iL m zx.cells zy.cells=some r'->(Op.equalIn d f.type ux uy).run P w= .ok r' w:=fun r' hr'=>
           ih f.type m hm d (by omega) vx vy (by rw[cx];simp;omega) (by rw[cy];simp;omega) (fun h=>⟨ax h,ay h⟩) (fun h=>⟨nx h,ny h⟩) hr'
          rw[<-cx,<-cy]at h2
          split at h2
          ·rename_i he1;rw[hstep true he1];simp only[Result.andThen_ok,bXp,bXc,if_false];exact ihf (done++m) h1 r h2
          ·rename_i hne;rw[hstep r h2];cases r with
           |true=>exact absurd h2 hne
           |false=>simp
         ·cases h1
        ·cases h1
      exact key fs.toList [] hl' r (by simpa using he)
     ·cases h
    ·cases h
  ·rename_i n e hu
   split at h
   ·rename_i m hm
    split at h
    ·rename_i hcells;simp only[bXa]at h;subst h;obtain⟨⟨cs,rfl⟩,⟨ds,rfl⟩⟩:=hagg (by simp[cM,hu])
     cases hx with
     |agg _ xs hxs hox hvx=>
     cases hy with
     |agg _ ys hys hoy hvy=>
     have hlen:(List.replicate n m).flatten.length=n*m.length:=by simp
     simp only[Val.cells]at hlx hly he;rw[hlen]at hlx hly;obtain⟨dd,hdd⟩:=Option.ne_none_iff_exists'.1 (aFb hm);obtain⟨i,hi⟩:=jQ hdd;rw[run_equalIn_array w d xs ys hu hi,aDn hm];have key: ∀(j a:Nat),a+j=n-> ∀r,iL (List.replicate j m).flatten (cs.drop (a*m.length)) (ds.drop (a*m.length))=some r->
       (Op.eqItems d e m.length xs ys (List.range' a j)).run P w= .ok r w:=by
      intro j
      induction j with
      |zero=>
       intro a ha r h2;have ha':a=n:=by omega
       subst ha';have e1:cs.drop (a*m.length)=[]:=by simp;omega
       have e2:ds.drop (a*m.length)=[]:=by simp;omega
       rw[e1,e2]at h2;simp only[List.replicate_zero,List.flatten_nil,iL,bXa]at h2;subst h2;simp[Op.eqItems]
      |succ j ihj=>
       intro a ha r h2;have hb:a*m.length+m.length<=n*m.length:=by rw[<-bYv];exact bYj _ (by omega)
       obtain⟨zx,ux,px,vx,cx,ax,nx⟩:=zR (P:=P) (T:=T) (G:=G) (w:=w) hm cs xs (off:=a*m.length) (by omega) hxs hox hvx
       obtain⟨zy,uy,py,vy,cy,ay,ny⟩:=zR (P:=P) (T:=T) (G:=G) (w:=w) hm ds ys (off:=a*m.length) (by omega) hys hoy hvy
       have d2: ∀(zs:List Val),zs.drop (a*m.length)=(zs.drop (a*m.length)).take m.length++zs.drop ((a+1)*m.length):=by
        intro zs;rw[bYv,<-List.drop_drop,List.take_append_drop]
       rw[List.replicate_succ,List.flatten_cons,d2 cs,d2 ds,qY _ _ _ (by simp;omega) (by simp;omega),<-cx,<-cy]at h2
       simp only[List.range'_succ,Op.eqItems,Sem.run_bind,px,py,Result.andThen_ok];have hstep: ∀r',iL m zx.cells zy.cells=some r'->(Op.equalIn d e ux uy).run P w= .ok r' w:=fun r' hr'=>
        ih e m hm d (by omega) vx vy (by rw[cx];simp;omega) (by rw[cy];simp;omega) (fun h=>⟨ax h,ay h⟩) (fun h=>⟨nx h,ny h⟩) hr'
       split at h2
       ·rename_i he1;rw[hstep true he1];simp only[Result.andThen_ok,bXp,bXc,if_false];exact ihj (a+1) (by omega) r h2
       ·rename_i hne;rw[hstep r h2];cases r with
        |true=>exact absurd h2 hne
        |false=>simp
     rw[List.range_eq_range'];exact key n 0 (by simp) r (by simpa using he)
    ·cases h
   ·cases h
  ·cases h
end Go.Abs
namespace Go.Abs
open Go.RowKit (Below)
theorem aYd {P:Program}{t:TypeId}(h:nY P t=some .bool):P.underlying t=some .bool:=by
 unfold nY at h;split at h<;>first|assumption|(simp at h;done)|(split at h<;>simp at h)
theorem aA0 {P:Program}{t:TypeId}(h:nY P t=some .map): ∃k e,P.underlying t=some (.map k e):=by
 unfold nY at h;split at h<;>first|exact⟨_,_,by assumption⟩|(simp at h;done)|(split at h<;>simp at h)
theorem aFc {P:Program}{t:TypeId}(h:nY P t=some .func): ∃a b c,P.underlying t=some (.func a b c):=by
 unfold nY at h;split at h<;>first|exact⟨_,_,_,by assumption⟩|(simp at h;done)|(split at h<;>simp at h)
theorem aEv {P:Program}{t:TypeId}(h:nY P t=some .ptr): ∃e,P.underlying t=some (.pointer e):=by
 unfold nY at h;split at h<;>first|exact⟨_,by assumption⟩|(simp at h;done)|(split at h<;>simp at h)
theorem aCl {P:Program}{t:TypeId}(h:nY P t=some .iface): ∃e,P.underlying t=some (.interface e):=by
 unfold nY at h;split at h<;>first|exact⟨_,by assumption⟩|(simp at h;done)|(split at h<;>simp at h)
theorem bBg {P:Program}{t:TypeId}{l:List CT}(h:nY P t=some (.agg l)):P.eqGuardType P.depth t=false/\ fJ P 6 t=some l/\ cM P t=true:=by
 unfold nY at h
 split at h<;>first|(simp at h;done)|skip
 all_goals
  rename_i hu
  split at h
  ·cases h
  ·rename_i hg;simp only[bXq,EqT.agg.injEq,exists_eq_right]at h;exact⟨by simpa using hg,h,by simp[cM,hu]⟩
theorem dS {P:Program}{w:World}{t:TypeId}{x y:Value}{r:Bool}(h:(Op.equalIn 10000 t x y).run P w= .ok r w):(Op.equal t x y).run P w= .ok r w:=h
theorem bEp {P:Program}{w:World}{t:TypeId}{ox oy:Operand}{x y:Value}{r:Bool}(hg:(eqGuard .eql t ox oy x y).run P w= .ok () w)(h:(binOp .eql t x y).run P w= .ok (.bool r) w):
  (do eqGuard .eql t ox oy x y;binOp .eql t x y:Sem Value).run P w= .ok (.bool r) w:=by
 simp only[Sem.run_bind,hg,Result.andThen_ok,h]
theorem bEq {P:Program}{w:World}{t:TypeId}{ox oy:Operand}{x y:Value}{r:Bool}(hg:(eqGuard .neq t ox oy x y).run P w= .ok () w)(h:(binOp .neq t x y).run P w= .ok (.bool r) w):
  (do eqGuard .neq t ox oy x y;binOp .neq t x y:Sem Value).run P w= .ok (.bool r) w:=by
 simp only[Sem.run_bind,hg,Result.andThen_ok,h]
section
variable {P :Program}{w:World}(d:Nat){t:TypeId}
theorem aFd {k e:TypeId}(h:P.underlying t=some (.map k e))(r:Option Nat):(Op.equalIn (d+1) t (.map .none) (.map r)).run P w= .ok r.isNone w:=by simp[Op.equalIn,run_underlying h]
theorem aL3 {k e:TypeId}(h:P.underlying t=some (.map k e))(r:Nat):(Op.equalIn (d+1) t (.map (some r)) (.map .none)).run P w= .ok false w:=by simp[Op.equalIn,run_underlying h]
theorem aVo {a b:Array TypeId}{c:Bool}(h:P.underlying t=some (.func a b c)):(Op.equalIn (d+1) t .nilFunc .nilFunc).run P w= .ok true w:=by simp[Op.equalIn,run_underlying h]
theorem aVp {a b:Array TypeId}{c:Bool}(h:P.underlying t=some (.func a b c))(f:Fn)(x y:Array Value):(Op.equalIn (d+1) t (.func f x y) .nilFunc).run P w= .ok false w:=by simp[Op.equalIn,run_underlying h]
theorem aVq {a b:Array TypeId}{c:Bool}(h:P.underlying t=some (.func a b c))(f:Fn)(x y:Array Value):(Op.equalIn (d+1) t .nilFunc (.func f x y)).run P w= .ok false w:=by simp[Op.equalIn,run_underlying h]
theorem aYe {e:TypeId}(h:P.underlying t=some (.pointer e)):(Op.equalIn (d+1) t (.pointer .none) (.pointer .none)).run P w= .ok true w:=by simp[Op.equalIn,run_underlying h]
theorem aFe {e:TypeId}(h:P.underlying t=some (.pointer e))(a:Addr):(Op.equalIn (d+1) t (.pointer (some a)) (.pointer .none)).run P w= .ok false w:=by simp[Op.equalIn,run_underlying h]
theorem bBh {ms:Array (String×TypeId)}(h:P.underlying t=some (.interface ms)):(Op.equalIn (d+1) t .nilIface .nilIface).run P w= .ok true w:=by simp[Op.equalIn,run_underlying h]
theorem bBi {ms:Array (String×TypeId)}(h:P.underlying t=some (.interface ms))(u:TypeId)(x:Value):(Op.equalIn (d+1) t (.iface u x) .nilIface).run P w= .ok false w:=by simp[Op.equalIn,run_underlying h]
theorem bBj {ms:Array (String×TypeId)}(h:P.underlying t=some (.interface ms))(u:TypeId)(x:Value):(Op.equalIn (d+1) t .nilIface (.iface u x)).run P w= .ok false w:=by simp[Op.equalIn,run_underlying h]
end
theorem yB {P:Program}{w:World}{t e:TypeId}(d:Nat)(h:P.underlying t=some (.slice e))(a:Option Addr)(n c n' c':Nat):(Op.equalIn (d+1) t (.slice a n c) (.slice none n' c')).run P w= .ok a.isNone w:=by
 cases a<;>simp[Op.equalIn,run_underlying h]
theorem yC {P:Program}{t:TypeId}(h:nY P t=some .slice): ∃e,P.underlying t=some (.slice e):=by
 unfold nY at h
 split at h<;>simp at h
 exact⟨_,by assumption⟩
theorem lX {op:BinOp}{t:TypeId}{x y:Operand}{a b:Option Addr}{n c n' c':Nat}:eqGuard op t x y (.slice a n c) (.slice b n' c')=pure ():=by
 cases op<;>rfl
theorem aJy {P:Program}{w:World}{op:BinOp}{t:TypeId}{x y:Operand}(h:kU x=true \/kU y=true):(eqGuard op t x y .nilIface .nilIface).run P w= .ok () w:=by
 unfold eqGuard;cases op<;>first
  |rfl
  |(rcases h with h|h
    ·cases x<;>simp[kU]at h;rfl
    ·cases y<;>simp[kU]at h;cases x<;>rfl)
theorem aDo {P:Program}{T:Nat->Nat->Prop}{G:Gh}{w:World}{ty:TypeId}{t:EqT}{ox oy:Operand}{X Y:Val}{x y:Value}{r:Bool}(ht:nY P ty=some t)(hk:t= .iface->kU ox=true \/kU oy=true)
  (hx:VR T G w X x) (hy:VR T G w Y y) (h:mV t X Y=some r):
  (do eqGuard .eql ty ox oy x y;binOp .eql ty x y:Sem Value).run P w= .ok (.bool r) w/\ (do eqGuard .neq ty ox oy x y;binOp .neq ty x y:Sem Value).run P w= .ok (.bool !r) w:=by
 have fin:(∀op,(eqGuard op ty ox oy x y).run P w= .ok () w)->(binOp .eql ty x y).run P w= .ok (.bool r) w->(binOp .neq ty x y).run P w= .ok (.bool !r) w->
   (do eqGuard .eql ty ox oy x y;binOp .eql ty x y:Sem Value).run P w= .ok (.bool r) w/\ (do eqGuard .neq ty ox oy x y;binOp .neq ty x y:Sem Value).run P w= .ok (.bool !r) w:=
  fun hg h1 h2=>⟨bEp (hg _) h1,bEq (hg _) h2⟩
 have deep:(∀op,(eqGuard op ty ox oy x y).run P w= .ok () w)->(∀op,op= .eql \/op= .neq->(binOp op ty x y)=(if op= .eql then do pure (.bool (<-Op.equal ty x y))else do pure (.bool (!(<-Op.equal ty x y)))))->
   (Op.equal ty x y).run P w= .ok r w->(do eqGuard .eql ty ox oy x y;binOp .eql ty x y:Sem Value).run P w= .ok (.bool r) w/\ (do eqGuard .neq ty ox oy x y;binOp .neq ty x y:Sem Value).run P w= .ok (.bool !r) w:=by
  intro hg hb he
  refine fin hg ?_ ?_
  ·rw[hb _ (.inl rfl)];simp[he]
  ·rw[hb _ (.inr rfl)];simp[he]
 unfold mV at h
 split at h
 ·rename_i j a k b
  split at h
  ·rename_i e;subst e;simp only[bXa]at h;subst h;cases hx;cases hy;exact fin (fun op=>by simp[eqGuard_at_int]) (by simp[binOp_eql]) (by simp[binOp_neq,bne])
  ·cases h
 ·simp only[bXa]at h;subst h;cases hx;cases hy
  refine deep (fun op=>by simp[eqGuard_at_bool]) (fun op ho=>by rcases ho with rfl|rfl<;>rfl) ?_
  exact dS (run_equalIn_bool' w 9999 ty _ _ (aYd ht))
 ·simp only[bXa]at h;subst h;cases hx;cases hy;exact fin (fun op=>by simp[eqGuard_at_string]) (by simp[binOp,Op.stringOp]) (by simp[binOp,Op.stringOp])
 ·rename_i l xs ys
  split at h
  ·rename_i hlen;obtain⟨h1,h2,h3⟩:=bBg ht;cases hx with
   |agg _ us hus hou hvu=>
   cases hy with
   |agg _ vs hvs hov hvv=>
   refine deep (fun op=>run_eqGuard_agg w op ty ox oy us vs h1) (fun op ho=>by rcases ho with rfl|rfl<;>rfl) ?_
   exact dS (aYc 6 ty l h2 10000 (by omega) (.agg xs us hus hou hvu) (.agg ys vs hvs hov hvv) hlen.1 hlen.2 (fun _=>⟨⟨_,rfl⟩,⟨_,rfl⟩⟩) (fun h=>by rw[h3]at h;cases h) h)
  ·cases h
 ·simp only[bXa]at h;subst h;obtain⟨k,e,hu⟩:=aA0 ht;cases hx;cases hy
  refine deep (fun op=>by simp[eqGuard_at_map]) (fun op ho=>by rcases ho with rfl|rfl<;>rfl) (dS (aFd 9999 hu none))
 ·simp only[bXa]at h;subst h;obtain⟨k,e,hu⟩:=aA0 ht;cases hx;cases hy
  refine deep (fun op=>by simp[eqGuard_at_map]) (fun op ho=>by rcases ho with rfl|rfl<;>rfl) (dS (aL3 9999 hu _))
 ·simp only[bXa]at h;subst h;obtain⟨k,e,hu⟩:=aA0 ht;cases hx;cases hy
  refine deep (fun op=>by simp[eqGuard_at_map]) (fun op ho=>by rcases ho with rfl|rfl<;>rfl) (dS (aL3 9999 hu _))
 ·simp only[bXa]at h;subst h;obtain⟨k,e,hu⟩:=aA0 ht;cases hx;cases hy
  refine deep (fun op=>by simp[eqGuard_at_map]) (fun op ho=>by rcases ho with rfl|rfl<;>rfl) (dS (aFd 9999 hu (some _)))
 ·simp only[bXa]at h;subst h;obtain⟨k,e,hu⟩:=aA0 ht;cases hx;cases hy
  refine deep (fun op=>by simp[eqGuard_at_map]) (fun op ho=>by rcases ho with rfl|rfl<;>rfl) (dS (aFd 9999 hu (some _)))
 ·simp only[bXa]at h;subst h;obtain⟨k,e,f,hu⟩:=aFc ht;cases hx;cases hy
  refine deep (fun op=>by simp[eqGuard_at_nilFunc]) (fun op ho=>by rcases ho with rfl|rfl<;>rfl) (dS (aVo 9999 hu))
 ·simp only[bXa]at h;subst h;obtain⟨k,e,f,hu⟩:=aFc ht;cases hx;cases hy
  refine deep (fun op=>by simp[eqGuard_at_func]) (fun op ho=>by rcases ho with rfl|rfl<;>rfl) (dS (aVp 9999 hu _ _ _))
 ·simp only[bXa]at h;subst h;obtain⟨k,e,f,hu⟩:=aFc ht;cases hx;cases hy
  refine deep (fun op=>by simp[eqGuard_at_nilFunc]) (fun op ho=>by rcases ho with rfl|rfl<;>rfl) (dS (aVq 9999 hu _ _ _))
 ·simp only[bXa]at h;subst h;obtain⟨e,hu⟩:=aEv ht;cases hx;cases hy
  refine deep (fun op=>by simp[eqGuard_at_pointer]) (fun op ho=>by rcases ho with rfl|rfl<;>rfl) (dS (aYe 9999 hu))
 ·simp only[bXa]at h;subst h;obtain⟨e,hu⟩:=aEv ht;cases hx;cases hy
  refine deep (fun op=>by simp[eqGuard_at_pointer]) (fun op ho=>by rcases ho with rfl|rfl<;>rfl) (dS (aFe 9999 hu _))
 ·simp only[bXa]at h;subst h;obtain⟨e,hu⟩:=aEv ht;cases hx;cases hy
  refine deep (fun op=>by simp[eqGuard_at_pointer]) (fun op ho=>by rcases ho with rfl|rfl<;>rfl) (dS (aFe 9999 hu _))
 ·simp only[bXa]at h;subst h;obtain⟨e,hu⟩:=aEv ht;cases hx;cases hy
  refine deep (fun op=>by simp[eqGuard_at_pointer]) (fun op ho=>by rcases ho with rfl|rfl<;>rfl) (dS (aFe 9999 hu _))
 ·simp only[bXa]at h;subst h;obtain⟨e,hu⟩:=aCl ht;cases hx;cases hy
  refine deep (fun op=>by simp[eqGuard_at_iface]) (fun op ho=>by rcases ho with rfl|rfl<;>rfl) (dS (bBi 9999 hu _ _))
 ·simp only[bXa]at h;subst h;obtain⟨e,hu⟩:=aCl ht;cases hx;cases hy
  refine deep (fun op=>by simp[eqGuard_nil_iface]) (fun op ho=>by rcases ho with rfl|rfl<;>rfl) (dS (bBj 9999 hu _ _))
 ·simp only[bXa]at h;subst h;obtain⟨e,hu⟩:=aCl ht;cases hx;cases hy
  refine deep (fun op=>aJy (hk rfl)) (fun op ho=>by rcases ho with rfl|rfl<;>rfl) (dS (bBh 9999 hu))
 ·simp only[bXa]at h;subst h;obtain⟨e,hu⟩:=yC ht;generalize hb:true=b at hy;cases hx with
  |es p cap=>
   cases hy with
   |es q cap'=>cases q<;>simp at hb;exact deep (fun op=>by simp[lX]) (fun op ho=>by rcases ho with rfl|rfl<;>rfl) (dS (yB 9999 hu _ _ _ _ _))
 ·simp only[bXa]at h;subst h;obtain⟨e,hu⟩:=yC ht;generalize hb:true=b at hy;cases hx with
  |fz=>
   cases hy with
   |es q cap'=>cases q<;>simp at hb;exact deep (fun op=>by simp[lX]) (fun op ho=>by rcases ho with rfl|rfl<;>rfl) (dS (yB 9999 hu _ _ _ _ _))
 ·simp only[bXa]at h;subst h;obtain⟨e,hu⟩:=yC ht;generalize hb:true=b at hy;cases hx with
  |cl=>
   cases hy with
   |es q cap'=>cases q<;>simp at hb;exact deep (fun op=>by simp[lX]) (fun op ho=>by rcases ho with rfl|rfl<;>rfl) (dS (yB 9999 hu _ _ _ _ _))
 ·simp only[bXa]at h;subst h;obtain⟨e,hu⟩:=yC ht;generalize hb:true=b at hy;cases hx with
  |bl=>
   cases hy with
   |es q cap'=>cases q<;>simp at hb;exact deep (fun op=>by simp[lX]) (fun op ho=>by rcases ho with rfl|rfl<;>rfl) (dS (yB 9999 hu _ _ _ _ _))
 ·cases h
theorem aIg {P:Program}{T:Nat->Nat->Prop}{G:Gh}{w:World}{ty:TypeId}{t:EqT}{op:BinOp}{ox oy:Operand}{X Y:Val}{x y:Value}{v:Val}(ht:nY P ty=some t)(hk:t= .iface->kU ox=true \/kU oy=true)
  (hx:VR T G w X x) (hy:VR T G w Y y) (h:dA op t X Y=some v):
  ∃z,(do eqGuard op ty ox oy x y;binOp op ty x y:Sem Value).run P w= .ok z w/\ VR T G w v z:=by
 have pass: ∀{z:Value},op≠ .eql->op≠ .neq->(binOp op ty x y).run P w= .ok z w->(do eqGuard op ty ox oy x y;binOp op ty x y:Sem Value).run P w= .ok z w:=by
  intro z h1 h2 h3;have:eqGuard op ty ox oy x y=pure ():=by cases op<;>first|rfl|exact absurd rfl h1|exact absurd rfl h2
  rw[this];simpa using h3
 unfold dA at h
 split at h
 ·simp only[bXq]at h;obtain⟨r,hr,rfl⟩:=h;exact⟨_,(aDo ht hk hx hy hr).1,.bool r⟩
 ·simp only[bXq]at h;obtain⟨r,hr,rfl⟩:=h;exact⟨_,(aDo ht hk hx hy hr).2,.bool _⟩
 ·rename_i h1 h2
  split at h
  ·rename_i j a k b
   split at h
   ·rename_i hsh;cases hx;cases hy;unfold aL0 at h
    split at h
    ·cases h
    ·rename_i hb
     split at h
     ·simp only[bXa]at h;subst h;exact⟨_,pass (by simp) (by simp) (by simp[binOp,Op.shift,hb]),.int _ _⟩
     ·simp only[bXa]at h;subst h;exact⟨_,pass (by simp) (by simp) (by simp[binOp,Op.shift,hb]),.int _ _⟩
     ·cases h
   rename_i hns
   split at h
   ·rename_i e;subst e;cases hx;cases hy;unfold qT at h
    split at h
    ·simp only[bXa]at h;subst h;exact⟨_,pass (by simp) (by simp) (by simp[binOp_add,Op.intArith]),.int _ _⟩
    ·simp only[bXa]at h;subst h;exact⟨_,pass (by simp) (by simp) (by simp[binOp_sub,Op.intArith]),.int _ _⟩
    ·simp only[bXa]at h;subst h;exact⟨_,pass (by simp) (by simp) (by simp[binOp_mul,Op.intArith]),.int _ _⟩
    ·split at h
     ·cases h
     ·rename_i hb;simp only[bXa]at h;subst h;exact⟨_,pass (by simp) (by simp) (by simp[binOp_quo,Op.intDiv,hb]),.int _ _⟩
    ·split at h
     ·cases h
     ·rename_i hb;simp only[bXa]at h;subst h;exact⟨_,pass (by simp) (by simp) (by simp[binOp_rem,Op.intDiv,hb]),.int _ _⟩
    ·simp only[bXa]at h;subst h;exact⟨_,pass (by simp) (by simp) (by simp[binOp_lss]),.bool _⟩
    ·simp only[bXa]at h;subst h;exact⟨_,pass (by simp) (by simp) (by simp[binOp_leq]),.bool _⟩
    ·simp only[bXa]at h;subst h;exact⟨_,pass (by simp) (by simp) (by simp[binOp_gtr]),.bool _⟩
    ·simp only[bXa]at h;subst h;exact⟨_,pass (by simp) (by simp) (by simp[binOp_geq]),.bool _⟩
    ·simp only[bXa]at h;subst h;exact⟨_,pass (by simp) (by simp) (by simp[binOp,Op.intBits]),.int _ _⟩
    ·simp only[bXa]at h;subst h;exact⟨_,pass (by simp) (by simp) (by simp[binOp,Op.intBits]),.int _ _⟩
    ·simp only[bXa]at h;subst h;exact⟨_,pass (by simp) (by simp) (by simp[binOp,Op.intBits]),.int _ _⟩
    ·simp only[bXa]at h;subst h;exact⟨_,pass (by simp) (by simp) (by simp[binOp,Op.intBits]),.int _ _⟩
    ·cases h
   ·cases h
  ·cases hx;cases hy;unfold aX7 at h
   split at h
   ·simp only[bXa]at h;subst h;exact⟨_,pass (by simp) (by simp) (by simp[binOp,Op.stringOp]),.bool _⟩
   ·simp only[bXa]at h;subst h;exact⟨_,pass (by simp) (by simp) (by simp[binOp,Op.stringOp]),.bool _⟩
   ·simp only[bXa]at h;subst h;exact⟨_,pass (by simp) (by simp) (by simp[binOp,Op.stringOp]),.bool _⟩
   ·simp only[bXa]at h;subst h;exact⟨_,pass (by simp) (by simp) (by simp[binOp,Op.stringOp]),.bool _⟩
   ·split at h
    ·cases h
    ·rename_i hsz;simp only[bXa]at h;subst h;exact⟨_,pass (by simp) (by simp) (by simp only[binOp,Op.stringOp,if_neg hsz];rfl),.str _⟩
   ·cases h
  ·cases h
end Go.Abs
