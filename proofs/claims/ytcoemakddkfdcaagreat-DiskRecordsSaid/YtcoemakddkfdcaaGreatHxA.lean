/- The interpreter of the translated code, and its proof: part A. -/
import Derived.Calls
import Derived.Below
import Derived.WalkKit
import Derived.ChangeKeysEq
import Derived.WalkLawsBesides
import Derived.WalkSpells
import Derived.OrdersIn
import Derived.RangeFuncRecord
set_option linter.all false
namespace Go.Abs
structure Key where
 n : Nat
 t : Nat
 g : Nat
 deriving DecidableEq
def Key.deep (k : Key) : Bool := decide (k.n = 3)
inductive Val where
 | dead
 | bool (b : Bool)
 | int (k : IntKind) (n : Int)
 | str (s : ByteArray)
 | nilp
 | fp (cs : List Val) (off : Nat)
 | ptr (k : Key) (off : Nat)
 | ep (k : Key) (i off : Nat)
 | fz (xs : List Val)
 | cl (xs : List Val)
 | bl (k : Key) (off len : Nat)
 | sl (k : Key) (off len : Nat)
 | nilm
 | fm (ks vs : List Val)
 | mp (k : Key)
 | nilf
 | fn (f : Nat) (first cap : List Val)
 | yld (k : Key)
 | nili
 | es (nil : Bool)
 | it (k : Key)
 | own (sz : Nat) (xs : List Val)
 | ifc (t : Nat) (v : Val)
 | agg (cs : List Val)
 | tup (vs : List Val)
 deriving Inhabited
namespace Val
def cells : Val → List Val
 | agg cs => cs
 | v => [v]
def one : Val → Bool
 | tup _ => false
 | _ => true
def wk0 : Val → Val
 | cl xs => fz xs
 | v => v
def wk1 : Val → Val
 | agg cs => agg (cs.map wk0)
 | v => wk0 v
def wk : Val → Val
 | tup vs => tup (vs.map wk1)
 | v => wk1 v
def flat0 : Val → Bool
 | bool _ | int _ _ | str _ | nilp | nilm | nilf | nili | fn _ [] [] => true
 | _ => false
def flat1 : Val → Bool
 | agg cs => cs.all flat0
 | ifc _ (agg cs) => cs.all flat0
 | ifc _ v => flat0 v
 | v => flat0 v
def flat : Val → Bool
 | tup vs => vs.all flat1
 | v => flat1 v
end Val
inductive Opd where
 | t (i : Nat)
 | c (v : Val)
 | f (i : Nat)
 | m (tbl : List (Nat × Nat)) (i : Nat)
 deriving Inhabited
inductive CT where
 | num | str | bool
 deriving DecidableEq,Inhabited
inductive EqT where
 | num | str | bool | agg (l : List CT) | map | slice | func | iface | ptr
 deriving DecidableEq,Inhabited
inductive LOp where
 | mv (x : Opd)
 | pick (c a b : Opd)
 | alloc (z : List Val)
 | box (n : Nat) (x : Opd)
 | build (z : List Val) (parts : List (Nat × Nat × Opd))
 | bslice (len size : Nat) (z : List Val) (parts : List (Nat × Opd))
 | bsliceK (len size : Nat) (z : List Val) (parts : List (Nat × Opd))
 | bsliceO (len size : Nat) (z : List Val) (parts : List (Nat × Opd))
 | load (agg : Bool) (n : Nat) (a : Opd)
 | store (n : Nat) (a v : Opd)
 | nilck (x : Opd)
 | bin (op : BinOp) (t : EqT) (x y : Opd)
 | un (op : UnOp) (x : Opd)
 | wrap (k : IntKind) (x : Opd)
 | iface (t : Nat) (x : Opd)
 | assert (t : Nat) (z : Val) (ok : Bool) (x : Opd)
 | mkfn (f : Nat) (first cap : List Opd)
 | mkmap
 | mput (t : EqT) (m k v : Opd)
 | mget (t : EqT) (z : Val) (ok : Bool) (m k : Opd)
 | mklen (size : Nat) (z : List Val) (len cap : Opd)
 | slice (str : Bool) (size : Nat) (x : Opd) (lo hi mx : Option Opd)
 | fa (off : Nat) (x : Opd)
 | fld (agg : Bool) (off n : Nat) (x : Opd)
 | ia (size : Nat) (x i : Opd)
 | iaa (len size : Nat) (x i : Opd)
 | ixs (x i : Opd)
 | ixa (agg : Bool) (len size : Nat) (x i : Opd)
 | ext (i : Nat) (x : Opd)
 | call (f : Opd) (args : List Opd)
 | icall (f : Opd) (args : List Opd)
 | len (t : EqT) (x : Opd)
 | append (size : Nat) (x y : Opd)
 | appendD (size : Nat) (x y : Opd)
 | appendZ (size : Nat) (z : List Val) (x y : Opd)
 | copy (size : Nat) (x y : Opd)
 | sla (len size : Nat) (agg : Bool) (x : Opd) (lo hi : Option Opd)
 | s2b (x : Opd)
 | b2s (x : Opd)
 | clr (z : Val) (x : Opd)
 | minmax (max : Bool) (xs : List Opd)
 | rng (x : Opd)
 | nxt (x : Opd)
 | panic (x : Opd)
 deriving Inhabited
def LOp.opds : LOp → List Opd
 | .s2b x | .b2s x | .clr _ x | .panic x | .rng x | .nxt x | .mv x | .box _ x | .load _ _ x | .nilck x | .un _ x | .wrap _ x | .iface _ x | .assert _ _ _ x | .fa _ x | .fld _ _ _ x | .ext _ x | .len _ x => [x]
 | .pick a b c | .mput _ a b c => [a,b,c]
 | .alloc _ | .mkmap => []
 | .build _ ps => ps.map fun p => p.2.2
 | .bslice _ _ _ ps | .bsliceK _ _ _ ps | .bsliceO _ _ _ ps => ps.map fun p => p.2
 | .store _ x y | .bin _ _ x y | .mget _ _ _ x y | .mklen _ _ x y | .ia _ x y | .iaa _ _ x y | .ixs x y | .ixa _ _ _ x y | .append _ x y | .appendD _ x y | .appendZ _ _ x y | .copy _ x y => [x,y]
 | .mkfn _ a b => a ++ b
 | .slice _ _ x lo hi mx => x :: (lo.toList ++ hi.toList ++ mx.toList)
 | .sla _ _ _ x lo hi => x :: (lo.toList ++ hi.toList)
 | .call f l | .icall f l => f :: l
 | .minmax _ l => l
def LOp.writesMem : LOp → Bool
 | .panic _ | .rng _ | .nxt _ | .alloc _ | .box .. | .store .. | .mput .. | .mkmap | .mklen .. | .bslice .. | .bsliceK .. | .bsliceO .. | .call .. | .icall .. | .append .. | .appendD .. | .appendZ .. | .copy .. | .s2b .. | .clr .. => true
 | _ => false
def LOp.readsMem : LOp → Bool
 | .panic _ | .nxt _ | .load .. | .mget .. | .bslice .. | .bsliceK .. | .bsliceO .. | .store .. | .mput .. | .ia .. | .call .. | .icall .. | .append .. | .appendD .. | .copy .. | .slice .. | .len .. | .b2s .. | .clr .. => true
 | _ => false
def LOp.me (me : Nat) : LOp → Nat
 | .appendD .. => 3
 | _ => me
structure LOper where
 dst : Option Nat
 op : LOp
 guard : Option (Nat × Bool)
 deriving Inhabited
def Opd.tmp : Opd → List Nat
 | .t i => [i]
 | .m _ i => [i]
 | _ => []
def LOper.uses (o : LOper) : List Nat :=
 o.op.opds.flatMap Opd.tmp ++ (match o.guard with | some (t,_) => [t] | none => [])
inductive LCode where
 | skip
 | ops (l : List LOper)
 | draw (l : List LOper) (pairs : List (Nat × Nat))
 | seq (a b : LCode)
 | cond (c : Opd) (x y : LCode)
 | block (id : Nat) (b : LCode)
 | loop (b : LCode)
 | exit (id : Nat)
 | ret
 | rangeF (g : Opd) (ps : List Nat) (assign body : LCode)
 | opsP (l : List LOper)
 | dfr (ts : List Nat) (l : List LOper) (f : Opd) (args : List Opd) (b : LCode)
 | rcv (dst : Option Nat) (l : List LOper) (b : LCode)
 | drawP (l : List LOper) (an : List (List Nat)) (pairs : List (Nat × Nat))
 | drawL (l : List LOper) (an : List (List Nat)) (pairs : List (Nat × Nat)) (at' : Nat)
 | drawM (l : List LOper) (an : List (List Nat)) (pairs : List (Nat × Nat)) (ats : List Nat)
 deriving Inhabited
inductive LRes where
 | tmp (t : Nat)
 | cell (t : Nat) (agg : Bool) (n : Nat)
 deriving Inhabited
structure LFunc where
 np : Nat
 res : List LRes
 keep : Bool
 amb : Bool := false
 nrm : List (List Nat) := []
 body : LCode
 deriving Inhabited
abbrev Prog := Nat → Option LFunc
inductive Ex where
 | normal
 | exit (id : Nat)
 | ret
 | panic (v : Val)
instance (e : Ex) : Decidable (e = .normal) := match e with
 | .normal => isTrue rfl
 | .exit _ => isFalse (by simp)
 | .ret => isFalse (by simp)
 | .panic _ => isFalse (by simp)
def Ex.calm : Ex → Bool
 | .panic _ => false
 | _ => true
inductive LSt where
 | ready
 | busy
 | done (e : Ex)
 | over
inductive Ent where
 | box (cs : List Val) (frz : Bool)
 | blk (sz : Nat) (xs : List Val) (frz : Bool)
 | map (ks vs : List Val) (frz : Bool)
 | loop (fr : Nat → Val) (ps : List Nat) (assign body : LCode) (s : LSt)
 | iter (s : ByteArray) (pos : Nat)
 deriving Inhabited
abbrev En := Key → Option Ent
def En.set (en : En) (k : Key) (e : Option Ent) : En := fun k' => if k' = k then e else en k'
structure St where
 fr : Nat → Val
 en : En
 cnt : Nat → Nat → Nat
def setFr (fr : Nat → Val) (d : Nat) (v : Val) : Nat → Val := fun i => if i = d then v else fr i
def setCnt (c : Nat → Nat → Nat) (n t x : Nat) : Nat → Nat → Nat := fun n' t' => if n' = n ∧ t' = t then x else c n' t'
def mapO {α β : Type} (f : α → Option β) : List α → Option (List β)
 | [] => some []
 | x :: xs => match f x with
  | some y => match mapO f xs with
   | some ys => some (y :: ys)
   | none => none
  | none => none
def snap : Nat → En → Val → Option (Val × List Key)
 | 0,_,v => match v with
  | .agg _ | .tup _ | .yld _ | .it _ | .sl _ _ _ => none
  | _ => some (.dead,[])
 | n + 1,en,v =>
  let l (vs : List Val) : Option (List Val × List Key) := (mapO (snap n en) vs).map fun rs => (rs.map (·.1),rs.flatMap (·.2))
  match v with
  | .ptr k off => match en k with
   | some (.box cs _) => (l cs).map fun r => (.fp r.1 off,k :: r.2)
   | _ => none
  | .ep k i off => match en k with
   | some (.blk _ xs _) => if k.deep then none else match xs[i]? with
    | some x => some (.fp x.cells off,[k])
    | none => none
   | _ => none
  | .bl k off len => match en k with
   | some (.blk _ xs _) => if off + len ≤ xs.length then (if k.deep then (l ((xs.drop off).take len)).map fun r => (.fz (r.1.map Val.wk1),k :: r.2) else some (.fz ((xs.drop off).take len),[k])) else none
   | _ => none
  | .mp k => match en k with
   | some (.map ks vs _) => some (.fm ks vs,[k])
   | _ => none
  | .yld _ | .it _ | .sl _ _ _ => none
  | .fn f a b => match l a,l b with
   | some x,some y => some (.fn f x.1 y.1,x.2 ++ y.2)
   | _,_ => none
  | .ifc t v => (snap n en v).map fun r => (.ifc t r.1,r.2)
  | .agg cs => (l cs).map fun r => (.agg r.1,r.2)
  | .tup vs => (l vs).map fun r => (.tup r.1,r.2)
  | v => some (v,[])
def sameL (f : Val → Val → Bool) : List Val → List Val → Bool
 | [],[] => true
 | x :: xs,y :: ys => f x y && sameL f xs ys
 | _,_ => false
def sameV : Nat → Val → Val → Bool
 | 0,_,_ => false
 | n + 1,x,y => match x,y with
  | .dead,.dead | .nilp,.nilp | .nilm,.nilm | .nilf,.nilf | .nili,.nili => true
  | .bool a,.bool b | .es a,.es b => a == b
  | .int j a,.int k b => decide (j = k) && decide (a = b)
  | .str a,.str b => decide (a.data.toList = b.data.toList)
  | .fp a i,.fp b j => decide (i = j) && sameL (sameV n) a b
  | .ptr k i,.ptr l j => decide (k = l) && decide (i = j)
  | .ep k a i,.ep l b j => decide (k = l) && decide (a = b) && decide (i = j)
  | .fz a,.fz b | .cl a,.cl b | .agg a,.agg b => sameL (sameV n) a b
  | .bl k a i,.bl l b j => decide (k = l) && decide (a = b) && decide (i = j)
  | .fm a b,.fm c d => sameL (sameV n) a c && sameL (sameV n) b d
  | .mp k,.mp l | .yld k,.yld l | .it k,.it l => decide (k = l)
  | .fn f a b,.fn g c d => decide (f = g) && sameL (sameV n) a c && sameL (sameV n) b d
  | .ifc t a,.ifc u b => decide (t = u) && sameV n a b
  | _,_ => false
def sameE : Option Ent → Option Ent → Bool
 | none,none => true
 | some (.box a f),some (.box b g) => decide (f = g) && sameL (sameV 8) a b
 | some (.blk n a f),some (.blk m b g) => decide (n = m) && decide (f = g) && sameL (sameV 8) a b
 | some (.map a b f),some (.map c d g) => decide (f = g) && sameL (sameV 8) a c && sameL (sameV 8) b d
 | _,_ => false
theorem sameL_eq {f : Val → Val → Bool} (h : ∀ x y,f x y = true → x = y) : ∀ {a b : List Val},sameL f a b = true → a = b
 | [],[],_ => rfl
 | x :: xs,y :: ys,e => by
  simp only [sameL,Bool.and_eq_true] at e
  rw [h _ _ e.1,sameL_eq h e.2]
 | [],_ :: _,e => by simp [sameL] at e
 | _ :: _,[],e => by simp [sameL] at e
theorem sameV_eq : ∀ (n : Nat) (x y : Val),sameV n x y = true → x = y
 | 0,_,_,h => by simp [sameV] at h
 | n + 1,x,y,h => by
  have ih : ∀ {a b : List Val},sameL (sameV n) a b = true → a = b := sameL_eq (sameV_eq n)
  simp only [sameV] at h
  split at h <;> first
   |(cases h; done)
   | rfl
   |(rw [ih h]; done)
   |(simp only [Bool.and_eq_true,decide_eq_true_eq,beq_iff_eq,and_assoc] at h
     first
     |(obtain ⟨rfl,h2,h3⟩ := h; rw [ih h2,ih h3])
     |(obtain ⟨rfl,rfl,rfl⟩ := h; rfl)
     |(obtain ⟨rfl,rfl⟩ := h; rfl)
     |(obtain ⟨h1,h2⟩ := h; rw [ih h1,ih h2])
     |(obtain ⟨rfl,h2⟩ := h; rw [ih h2])
     |(obtain ⟨rfl,h2⟩ := h; rw [sameV_eq n _ _ h2])
     |(subst h; rfl)
     |(rw [ih h])
     |(rename_i a b; obtain ⟨⟨a⟩⟩ := a; obtain ⟨⟨b⟩⟩ := b; simp only at h; subst h; rfl))
theorem sameE_eq {x y : Option Ent} (h : sameE x y = true) : x = y := by
 have ih : ∀ {a b : List Val},sameL (sameV 8) a b = true → a = b := sameL_eq (sameV_eq 8)
 unfold sameE at h
 split at h <;> first
  |(cases h; done)
  | rfl
  |(simp only [Bool.and_eq_true,decide_eq_true_eq,and_assoc] at h
    first
    |(obtain ⟨rfl,h2⟩ := h; rw [ih h2]; done)
    |(obtain ⟨rfl,rfl,h2⟩ := h; rw [ih h2]; done)
    |(obtain ⟨rfl,h2,h3⟩ := h; rw [ih h2,ih h3]; done))
def methodOf (tbl : List (Nat × Nat)) : Val → Val
 | .ifc t v => match tbl.lookup t with
  | some f => .fn f [v] []
  | none => .dead
 | _ => .dead
def St.get (fr : Nat → Val) : Opd → Val
 | .t i => fr i
 | .m tbl i => methodOf tbl (fr i)
 | .c v => v
 | .f i => .fn i [] []
inductive W where
 | ent (k : Key) (e : Option Ent)
 | cells (k : Key) (off : Nat) (vs : List Val)
 | elem (k : Key) (i off : Nat) (vs : List Val)
 | frz (k : Key)
inductive R where
 | val (k : Key)
 | cells (k : Key) (off n : Nat)
 | flag (k : Key)
def setCells : List Val → Nat → List Val → List Val
 | cs,_,[] => cs
 | cs,off,v :: vs => setCells (cs.set off v) (off + 1) vs
def ofCells (agg : Bool) (cs : List Val) : Option Val :=
 if agg then some (.agg cs) else match cs with | [v] => some v | _ => none
def putCells (x : Val) (off : Nat) (vs : List Val) : Val :=
 match x with
 | .agg cs => .agg (setCells cs off vs)
 | x => if off = 0 then (match vs with | [v] => v | _ => x) else x
def Ent.freeze : Ent → Ent
 | .box cs _ => .box cs true
 | .blk sz xs _ => .blk sz xs true
 | .map ks vs _ => .map ks vs true
 | .loop fr ps a b s => .loop fr ps a b s
 | .iter s pos => .iter s pos
def W.apply (en : En) : W → En
 | .ent k e => en.set k e
 | .cells k off vs => match en k with
  | some (.box cs f) => en.set k (some (.box (setCells cs off vs) f))
  | _ => en
 | .elem k i off vs => match en k with
  | some (.blk sz xs f) => match xs[i]? with
   | some x => en.set k (some (.blk sz (xs.set i (putCells x off vs)) f))
   | none => en
  | _ => en
 | .frz k => match en k with
  | some e => en.set k (some e.freeze)
  | none => en
def W.applyAll (en : En) (ws : List W) : En := ws.foldl W.apply en
structure Res where
 v : Val
 ws : List W := []
 rs : List R := []
 bump : Bool := false
 mem : Option (En × (Nat → Nat → Nat)) := none
 unch : Key → Bool := fun _ => false
def readAt (en : En) (a : Val) (n : Nat) : Option (List Val × List R) :=
 match a with
 | .ptr k off => match en k with
  | some (.box cs _) => if off + n ≤ cs.length then some ((cs.drop off).take n,[.cells k off n]) else none
  | _ => none
 | .ep k i off => match en k with
  | some (.blk _ xs _) => match xs[i]? with
   | some x => if off + n ≤ x.cells.length then some ((x.cells.drop off).take n,[.val k]) else none
   | none => none
  | _ => none
 | .fp cs off => if off + n ≤ cs.length then some ((cs.drop off).take n,[]) else none
 | _ => none
def elemsOf (en : En) (x : Val) : Option (List Val × List R) :=
 match x with
 | .fz xs | .cl xs => some (xs,[])
 | .es _ => some ([],[])
 | .bl k off len => match en k with
  | some (.blk _ xs _) => if off + len ≤ xs.length ∧ k.deep = false then some ((xs.drop off).take len,[.val k]) else none
  | _ => none
 | _ => none
def strVals (s : ByteArray) : List Val := s.data.toList.map fun b => .int .u8 b.toNat
def byteOf : Val → Option UInt8
 | .int .u8 n => some (UInt8.ofNat n.toNat)
 | _ => none
def cutV (agg : Bool) (size : Nat) (cs : List Val) (o : Nat) : Val := if agg then .agg ((cs.drop o).take size) else cs.getD o .dead
def isStr : Val → Bool
 | .str _ => true
 | _ => false
def bytesOf (xs : List Val) : Option ByteArray := (mapO byteOf xs).map fun l => ⟨l.toArray⟩
def srcOf (en : En) (x : Val) : Option (List Val × List R) :=
 match x with
 | .str s => some (strVals s,[])
 | .sl k off len => match en k with
  | some (.box cs _) => if off + len ≤ cs.length ∧ ((cs.drop off).take len).all Val.flat0 = true then some ((cs.drop off).take len,[.cells k off len]) else none
  | _ => none
 | x => match elemsOf en x with
  | some (xs,rs) => if xs.all Val.flat0 = true then some (xs,rs) else none
  | none => none
def headOk (size : Nat) : List Val → Bool
 | [] => true
 | y :: _ => y.cells.length == size
def lenOf : Val → Option Nat
 | .fz xs | .cl xs => some xs.length
 | .bl _ _ len => some len
 | .es _ => some 0
 | _ => none
def eqCell : CT → Val → Val → Option Bool
 | .bool,.bool a,.bool b => some (a == b)
 | .num,.int j a,.int k b => if j = k then some (a == b) else none
 | .str,.str a,.str b => some (a.toList == b.toList)
 | _,_,_ => none
def eqCells : List CT → List Val → List Val → Option Bool
 | [],[],[] => some true
 | t :: ts,x :: xs,y :: ys => match eqCell t x y with
  | some true => eqCells ts xs ys
  | some false => some false
  | none => none
 | _,_,_ => none
def eqVal (t : EqT) (x y : Val) : Option Bool :=
 match t,x,y with
 | .num,.int j a,.int k b => if j = k then some (a == b) else none
 | .bool,.bool a,.bool b => some (a == b)
 | .str,.str a,.str b => some (a.toList == b.toList)
 | .agg l,.agg xs,.agg ys => if xs.length = l.length ∧ ys.length = l.length then eqCells l xs ys else none
 | .map,.nilm,.nilm => some true
 | .map,.fm _ _,.nilm | .map,.mp _,.nilm | .map,.nilm,.fm _ _ | .map,.nilm,.mp _ => some false
 | .func,.nilf,.nilf => some true
 | .func,.fn _ _ _,.nilf | .func,.nilf,.fn _ _ _ => some false
 | .ptr,.nilp,.nilp => some true
 | .ptr,.fp _ _,.nilp | .ptr,.ptr _ _,.nilp | .ptr,.ep _ _ _,.nilp => some false
 | .iface,.ifc _ _,.nili | .iface,.nili,.ifc _ _ => some false
 | .iface,.nili,.nili => some true
 | .slice,.es b,.es true => some b
 | .slice,.fz (_ :: _),.es true | .slice,.cl (_ :: _),.es true | .slice,.bl _ _ (_ + 1),.es true => some false
 | _,_,_ => none
def small (n : Int) : Bool := decide (0 ≤ n ∧ n ≤ 16777216)
def binInt (op : BinOp) (k : IntKind) (a b : Int) : Option Val :=
 match op with
 | .add => some (.int k (k.wrap (a + b)))
 | .sub => some (.int k (k.wrap (a - b)))
 | .mul => some (.int k (k.wrap (a * b)))
 | .quo => if b = 0 then none else some (.int k (k.wrap (a.tdiv b)))
 | .rem => if b = 0 then none else some (.int k (a.tmod b))
 | .lss => some (.bool (decide (a < b)))
 | .leq => some (.bool (decide (a ≤ b)))
 | .gtr => some (.bool (decide (a > b)))
 | .geq => some (.bool (decide (a ≥ b)))
 | .and => some (.int k (k.wrap (BitVec.ofInt k.bits a &&& BitVec.ofInt k.bits b).toNat))
 | .or => some (.int k (k.wrap (BitVec.ofInt k.bits a ||| BitVec.ofInt k.bits b).toNat))
 | .xor => some (.int k (k.wrap (BitVec.ofInt k.bits a ^^^ BitVec.ofInt k.bits b).toNat))
 | .andNot => some (.int k (k.wrap (BitVec.ofInt k.bits a &&& ~~~(BitVec.ofInt k.bits b)).toNat))
 | _ => none
def binShift (op : BinOp) (k : IntKind) (a b : Int) : Option Val :=
 if b < 0 then none else match op with
 | .shl => some (.int k (k.wrap (a * 2 ^ (min b.toNat k.bits))))
 | .shr => some (.int k (a.fdiv (2 ^ (min b.toNat k.bits))))
 | _ => none
def binStr (op : BinOp) (a b : ByteArray) : Option Val :=
 match op with
 | .lss => some (.bool (Op.bytesLess a.toList b.toList))
 | .leq => some (.bool (Op.bytesLess a.toList b.toList || a.toList == b.toList))
 | .gtr => some (.bool !(Op.bytesLess a.toList b.toList || a.toList == b.toList))
 | .geq => some (.bool !(Op.bytesLess a.toList b.toList))
 | .add => if ((a.size + b.size : Nat) : Int) > IntKind.i64.max then none else some (.str (a ++ b))
 | _ => none
def binVal (op : BinOp) (t : EqT) (x y : Val) : Option Val :=
 match op with
 | .eql => (eqVal t x y).map .bool
 | .neq => (eqVal t x y).map fun b => .bool !b
 | op => match t,x,y with
  | .num,.int j a,.int k b => if op = .shl ∨ op = .shr then binShift op j a b else if j = k then binInt op j a b else none
  | .str,.str a,.str b => binStr op a b
  | _,_,_ => none
def fillIn : List Val → List (Nat × Nat × Val) → Option (List Val)
 | cs,[] => some cs
 | cs,(off,size,v) :: rest =>
  if v.one = true ∧ v.cells.length = size ∧ off + size ≤ cs.length then fillIn (setCells cs off v.cells) rest else none
def fillElems : List Val → Nat → List (Nat × Val) → Option (List Val)
 | xs,_,[] => some xs
 | xs,size,(i,v) :: rest => if v.one = true ∧ v.cells.length = size ∧ i < xs.length then fillElems (xs.set i v) size rest else none
def ofZero (size : Nat) (z : List Val) (agg : Bool) : Val := if agg then .agg z else if size = 1 then z.getD 0 .dead else .agg z
def bound (v : Option Val) (d top : Nat) : Option Nat :=
 match v with
 | none => some d
 | some (.int _ i) => if 0 ≤ i ∧ i ≤ top then some i.toNat else none
 | _ => none
def cut3 (size : Nat) (xs : List Val) (lo hi : Option Val) (mx : Val) : Option Res :=
 match bound (some mx) 0 xs.length with
 | some m => match hi with
  | none => none
  | some _ => match bound hi 0 m with
   | some h => match bound lo 0 h with
    | some l => if l = 0 ∨ headOk size xs = true then some { v := if m = h then .cl ((xs.take h).drop l) else .fz ((xs.take h).drop l) } else none
    | none => none
   | none => none
 | none => none
def findKey (t : EqT) (k : Val) : List Val → Option (Option Nat)
 | [] => some none
 | x :: xs => match eqVal t k x with
  | some true => some (some 0)
  | some false => match findKey t k xs with
   | some (some i) => some (some (i + 1))
   | some none => some none
   | none => none
  | none => none
def keyOk (t : EqT) : Val → Bool
 | .int _ _ => decide (t = .num)
 | .bool _ => decide (t = .bool)
 | .str _ => decide (t = .str)
 | _ => false
abbrev CallFn := Nat → List Val → Option Val
def callRes (me d g : Nat) (v : Val) (ks : List Key) : Res :=
 match v with
 | .own sz xs => { v := .bl ⟨me,d,g⟩ 0 xs.length,ws := (if xs.all Val.flat1 then [] else ks.map .frz) ++ [.ent ⟨me,d,g⟩ (some (.blk sz xs false))],rs := ks.map .val,bump := true }
 | v => { v,ws := if v.flat then [] else ks.map .frz,rs := ks.map .val }
def appendV (me d g : Nat) (en : En) (size : Nat) (x : Val) (y : Option (List Val × List R)) : Option Res :=
 match y with
 | some (ys,rs) => if headOk size ys = true then
   match x with
   | .cl xs => if ys.isEmpty then some { v := .cl xs,rs } else if xs.length + ys.length ≤ 16777216 ∧ headOk size xs = true then
     some { v := .bl ⟨me,d,g⟩ 0 (xs.length + ys.length),ws := [.ent ⟨me,d,g⟩ (some (.blk size (xs ++ ys) (!xs.isEmpty)))],rs,bump := true } else none
   | .bl k off len => match en k with
    | some (.blk sz xs f) => if (off + len = xs.length ∨ f = false ∧ off + len ≤ xs.length) ∧ len + ys.length ≤ 16777216 ∧ sz = size ∧ (k.deep = true → me = 3) then
      some { v := .bl ⟨me,d,g⟩ 0 (len + ys.length),ws := [.ent k none,.ent ⟨me,d,g⟩ (some (.blk size ((xs.take (off + len)).drop off ++ ys) f))],rs := .val k :: .flag k :: rs,bump := true } else none
    | _ => none
   | _ => none
   else none
 | none => none
def eval (n : Nat) (call : CallFn) (me d g : Nat) (en : En) (get : Opd → Val) : LOp → Option Res
 | .mv x => some { v := get x }
 | .pick c a b => match get c with
  | .bool b' => some { v := if b' then get a else get b }
  | _ => none
 | .alloc z => some { v := .ptr ⟨me,d,g⟩ 0,ws := [.ent ⟨me,d,g⟩ (some (.box z false))],bump := true }
 | .box m x => if (get x).one = true ∧ (get x).cells.length = m then some { v := .ptr ⟨me,d,g⟩ 0,ws := [.ent ⟨me,d,g⟩ (some (.box (get x).cells false))],bump := true } else none
 | .build z parts => (fillIn z (parts.map fun p => (p.1,p.2.1,get p.2.2))).map fun cs => { v := .agg cs }
 | .bslice len size z parts =>
  if len * size ≤ 16777216 then
   match mapO (fun p => (snap n en (get p.2)).map fun r => ((p.1,r.1.wk1),r.2)) parts with
   | some ps => match fillElems (List.replicate len (ofZero size z false)) size (ps.map (·.1)) with
    | some xs => some { v := .cl xs,ws := (ps.flatMap (·.2)).map .frz,rs := (ps.flatMap (·.2)).map .val }
    | none => none
   | none => none
  else none
 | .bsliceK len size z parts =>
  if len * size ≤ 16777216 then
   match mapO (fun p => (snap n en (get p.2)).map fun r => ((p.1,r.1),r.2)) parts with
   | some ps => match fillElems (List.replicate len (ofZero size z false)) size (ps.map (·.1)) with
    | some xs => some { v := .cl xs,ws := (ps.flatMap (·.2)).map .frz,rs := (ps.flatMap (·.2)).map .val }
    | none => none
   | none => none
  else none
 | .bsliceO len size z parts =>
  if len * size ≤ 16777216 then
   match mapO (fun p => (snap n en (get p.2)).map fun r => ((p.1,r.1.wk1),r.2)) parts with
   | some ps => match fillElems (List.replicate len (ofZero size z false)) size (ps.map (·.1)) with
    | some xs => some { v := .bl ⟨me,d,g⟩ 0 len,ws := (ps.flatMap (·.2)).map .frz ++ [.ent ⟨me,d,g⟩ (some (.blk size xs false))],rs := (ps.flatMap (·.2)).map .val,bump := true }
    | none => none
   | none => none
  else none
 | .load agg m a => match readAt en (get a) m with
  | some (cs,rs) => (ofCells agg cs).map fun v => { v,rs }
  | none => none
 | .store m a x =>
  let v := get x
  if v.one = true ∧ v.cells.length = m then
   match get a with
   | .ptr k off => match en k with
    | some (.box cs false) => if off + m ≤ cs.length then some { v := .tup [],ws := [.cells k off v.cells],rs := [.flag k] } else none
    | _ => none
   | .ep k i off => match en k with
    | some (.blk _ xs false) => match xs[i]? with
     | some y => if off + m ≤ y.cells.length then
       if k.deep then some { v := .tup [],ws := [.elem k i off v.cells],rs := [.val k,.flag k] } else
       match snap n en v with
       | some (v',ks) => if v'.one = true ∧ v'.cells.length = m ∧ ks.all (fun k' => decide (k' ≠ k)) = true then some { v := .tup [],ws := ks.map .frz ++ [.elem k i off v'.wk1.cells],rs := .val k :: .flag k :: ks.map .val } else none
       | none => none
      else none
     | none => none
    | _ => none
   | _ => none
  else none
 | .nilck x => match get x with
  | .fp cs off => some { v := .fp cs off }
  | .ptr k off => some { v := .ptr k off }
  | .ep k i off => some { v := .ep k i off }
  | .fn f a b => some { v := .fn f a b }
  | .ifc t v => some { v := .ifc t v }
  | _ => none
 | .bin op t x y => (binVal op t (get x) (get y)).map fun v => { v }
 | .un op x => match op,get x with
  | .not,.bool b => some { v := .bool !b }
  | .neg,.int k a => some { v := .int k (k.wrap (0 - a)) }
  | _,_ => none
 | .wrap k x => match get x with
  | .int _ a => some { v := .int k (k.wrap a) }
  | _ => none
 | .iface t x => if (get x).one = true then some { v := .ifc t (get x) } else none
 | .assert t z ok x => match get x with
  | .ifc t' v => if t' = t then some { v := if ok then .tup [v,.bool true] else v } else if ok then some { v := .tup [z,.bool false] } else none
  | .nili => if ok then some { v := .tup [z,.bool false] } else none
  | _ => none
 | .mkfn f a b => some { v := .fn f (a.map get) (b.map get) }
 | .mkmap => some { v := .mp ⟨me,d,g⟩,ws := [.ent ⟨me,d,g⟩ (some (.map [] [] false))],bump := true }
 | .mput t m k x => match get m with
  | .mp key => match en key with
   | some (.map ks vs false) =>
    if keyOk t (get k) && (get x).flat1 then
     match findKey t (get k) ks with
     | some (some i) => some { v := .tup [],ws := [.ent key (some (.map (ks.set i (get k)) (vs.set i (get x)) false))],rs := [.val key,.flag key] }
     | some none => some { v := .tup [],ws := [.ent key (some (.map (ks ++ [get k]) (vs ++ [get x]) false))],rs := [.val key,.flag key] }
     | none => none
    else none
   | _ => none
  | _ => none
 | .mget t z ok m k =>
  if keyOk t (get k) then
   let look (ks vs : List Val) : Option Val := match findKey t (get k) ks with
    | some (some i) => some (if ok then .tup [vs.getD i .dead,.bool true] else vs.getD i .dead)
    | some none => some (if ok then .tup [z,.bool false] else z)
    | none => none
   match get m with
   | .mp key => match en key with
    | some (.map ks vs _) => (look ks vs).map fun v => { v,rs := [.val key] }
    | _ => none
   | .fm ks vs => (look ks vs).map fun v => { v }
   | .nilm => (look [] []).map fun v => { v }
   | _ => none
  else none
 | .mklen size z len cap => match get len,get cap with
  | .int .i64 a,.int .i64 b => if a = b ∧ small a = true then
    some { v := .bl ⟨me,d,g⟩ 0 a.toNat,ws := [.ent ⟨me,d,g⟩ (some (.blk size (List.replicate a.toNat (ofZero size z false)) false))],bump := true } else none
  | _,_ => none
 | .slice str size x lo hi mx =>
  let lo := lo.map get
  let hi := hi.map get
  if str then
   match get x,mx with
   | .str s,none => match bound hi s.size s.size with
    | some h => (bound lo 0 h).map fun l => { v := .str (s.extract l h) }
    | none => none
   | _,_ => none
  else match get x with
   | .fz xs => match mx with
    | none => match bound hi xs.length xs.length with
     | some h => match bound lo 0 h with
      | some l => if l = 0 ∨ headOk size xs = true then some { v := .fz ((xs.take h).drop l) } else none
      | none => none
     | none => none
    | some m => cut3 size xs lo hi (get m)
   | .cl xs => match mx with
    | none => match bound hi xs.length xs.length with
     | some h => match bound lo 0 h with
      | some l => if l = 0 ∨ headOk size xs = true then some { v := if h = xs.length then .cl (xs.drop l) else .fz ((xs.take h).drop l) } else none
      | none => none
     | none => none
    | some m => cut3 size xs lo hi (get m)
   | .bl k off len => match mx with
    | none => match bound hi len len with
     | some h => match bound lo 0 h with
      | some l => match en k with
       | some (.blk sz _ _) => if l = 0 ∨ sz = size then some { v := .bl k (off + l) (h - l),rs := [.val k] } else none
       | _ => none
      | none => none
     | none => none
    | some _ => none
   | _ => none
 | .fa off x => match get x with
  | .fp cs o => some { v := .fp cs (o + off) }
  | .ptr k o => some { v := .ptr k (o + off) }
  | .ep k i o => some { v := .ep k i (o + off) }
  | _ => none
 | .fld agg off m x => match get x with
  | .agg cs => if off + m ≤ cs.length then (ofCells agg ((cs.drop off).take m)).map fun v => { v } else none
  | _ => none
 | .ia size x i => match get i with
  | .int _ j =>
   match get x with
   | .fz xs | .cl xs => if 0 ≤ j then match xs[j.toNat]? with
     | some y => if y.cells.length = size then some { v := .fp y.cells 0 } else none
     | none => none else none
   | .bl k off len => match en k with
    | some (.blk sz _ _) => if 0 ≤ j ∧ j < len ∧ sz = size then some { v := .ep k (off + j.toNat) 0,rs := [.val k] } else none
    | _ => none
   | _ => none
  | _ => none
 | .iaa len size x i => match get i with
  | .int _ j => if 0 ≤ j ∧ j < len then
    match get x with
    | .fp cs o => some { v := .fp cs (o + j.toNat * size) }
    | .ptr k o => some { v := .ptr k (o + j.toNat * size) }
    | .ep k i o => some { v := .ep k i (o + j.toNat * size) }
    | _ => none
   else none
  | _ => none
 | .ixs x i => match get x,get i with
  | .str s,.int _ j => if 0 ≤ j then (s[j.toNat]?).map fun b => { v := .int .u8 b.toNat } else none
  | _,_ => none
 | .ixa agg len size x i => match get x,get i with
  | .agg cs,.int _ j => if 0 ≤ j ∧ j < len ∧ j.toNat * size + size ≤ cs.length then (ofCells agg ((cs.drop (j.toNat * size)).take size)).map fun v => { v } else none
  | _,_ => none
 | .ext i x => match get x with
  | .tup vs => (vs[i]?).map fun v => { v }
  | _ => none
 | .call f args => match get f with
  | .fn f a b => match mapO (fun x => snap n en x) (a ++ args.map get ++ b) with
   | some rs =>
    let ks := rs.flatMap (·.2)
    match call f (rs.map (·.1.wk1)) with
    | some r => some (callRes me d g r ks)
    | none => none
   | none => none
  | _ => none
 | .icall _ _ => none
 | .len t x => match t with
  | .map => match get x with
   | .mp key => match en key with
    | some (.map ks _ _) => some { v := .int .i64 ks.length,rs := [.val key] }
    | _ => none
   | .fm ks _ => some { v := .int .i64 ks.length }
   | .nilm => some { v := .int .i64 0 }
   | _ => none
  | .str => match get x with
   | .str s => some { v := .int .i64 s.size }
   | _ => none
  | .slice => (lenOf (get x)).map fun m => { v := .int .i64 m }
  | .func => match get x with
   | .cl xs => some { v := .int .i64 xs.length }
   | _ => none
  | _ => none
 | .append size x y => appendV me d g en size (get x) (elemsOf en (get y))
 | .appendD size x y => appendV 3 d g en size (get x) (elemsOf en (get y))
 | .appendZ size z x y => match get x,get y with
  | .cl [],.int .i64 m => if 0 < m ∧ m ≤ 16777216 then
    some { v := .bl ⟨me,d,g⟩ 0 m.toNat,ws := [.ent ⟨me,d,g⟩ (some (.blk size (List.replicate m.toNat (ofZero size z false)) false))],bump := true } else none
  | _,_ => none
 | .copy size x y => if size = 1 then
   match get x with
   | .sl k off len => match en k with
    | some (.box cs false) => if off + len ≤ cs.length then
      match srcOf en (get y) with
      | some (ys,rs) => if isStr (get y) = false ∨ ys.length ≤ len then some { v := .int .i64 (min ys.length len : Nat),ws := [.cells k off (ys.take len)],rs := rs ++ [.flag k] } else none
      | none => none
     else none
    | _ => none
   | _ => none
  else none
 | .sla n size agg x lo hi => match bound (hi.map get) n n with
  | some h => match bound (lo.map get) 0 h with
   | some l => if l < n then
     match get x with
     | .ptr k off => if size = 1 then some { v := .sl k (off + l) (h - l) } else none
     | .fp cs off => if off + n * size ≤ cs.length ∧ (agg = true ∨ (size = 1 ∧ ((cs.drop off).take n).all Val.flat0 = true)) then some { v := .fz ((List.range (h - l)).map fun i => cutV agg size cs (off + (l + i) * size)) } else none
     | _ => none
    else none
   | none => none
  | none => none
 | .s2b x => match get x with
  | .str s => if s.size ≤ 16777216 then some { v := .fz (strVals s) } else none
  | _ => none
 | .b2s x => if isStr (get x) = true then none else match srcOf en (get x) with
  | some (ys,rs) => (bytesOf ys).map fun s => { v := .str s,rs }
  | none => none
 | .clr z x => match get x with
  | .sl k off len => match en k with
   | some (.box cs false) => if off + len ≤ cs.length ∧ z.flat0 = true then some { v := .tup [],ws := [.cells k off (List.replicate len z)],rs := [.flag k] } else none
   | _ => none
  | .bl k off len => match en k with
   | some (.blk sz xs false) => if sz = 1 ∧ off + len ≤ xs.length ∧ k.deep = false ∧ z.flat0 = true then
     some { v := .tup [],ws := [.ent k (some (.blk sz (xs.take off ++ List.replicate len z ++ xs.drop (off + len)) false))],rs := [.val k,.flag k] } else none
   | _ => none
  | .fz [] | .cl [] | .es _ => some { v := .tup [] }
  | _ => none
 | .rng x => match get x with
  | .str s => some { v := .it ⟨me,d,g⟩,ws := [.ent ⟨me,d,g⟩ (some (.iter s 0))],bump := true }
  | _ => none
 | .nxt x => match get x with
  | .it k => match en k with
   | some (.iter s pos) =>
    if pos < s.size then some { v := .tup [.bool true,.int .i64 pos,.int .i32 (Utf8.decode s pos).1],ws := [.ent k (some (.iter s (pos + (Utf8.decode s pos).2)))],rs := [.val k,.flag k] }
    else some { v := .tup [.bool false],rs := [.val k] }
   | _ => none
  | _ => none
 | .panic _ => none
 | .minmax mx xs => match xs.map get with
  | [.int j a,.int k b] => if j = k then some { v := .int j (if mx then (if b > a then b else a) else (if b < a then b else a)) } else none
  | _ => none
def wanted (fr : Nat → Val) : Option (Nat × Bool) → Option Bool
 | none => some true
 | some (t,b) => match fr t with
  | .bool b' => some (b' == b)
  | .tup [] => some false
  | _ => none
structure Inl where
 fn : Nat → List Val → St → Option (Val × St)
 yld : Key → List Val → St → Option (Val × St)
def Inl.none : Inl := { fn := fun _ _ _ => Option.none,yld := fun _ _ _ => Option.none }
def Inl.call (io : Inl) (f : Val) (args : List Val) (st : St) : Option (Val × St) :=
 match f with
 | .fn f a b => io.fn f (a ++ args ++ b) st
 | .yld k => io.yld k args st
 | _ => Option.none
def putFr (fr : Nat → Val) (dst : Option Nat) (v : Val) : Nat → Val :=
 match dst with
 | some d => setFr fr d v
 | none => fr
def step (n : Nat) (call : CallFn) (io : Inl) (me : Nat) (st : St) (o : LOper) : Option (St × Res) :=
 match wanted st.fr o.guard with
 | some false => some ({ st with fr := putFr st.fr o.dst (.tup []) },{ v := .tup [] })
 | some true =>
  match o.op with
  | .icall f args => match io.call (St.get st.fr f) (args.map (St.get st.fr)) { st with fr := fun _ => .dead } with
   | some (v,st') => some ({ fr := putFr st.fr o.dst v,en := st'.en,cnt := st'.cnt },{ v,mem := some (st'.en,st'.cnt),unch := fun k => sameE (st.en k) (st'.en k) })
   | none => none
  | op =>
   let d := o.dst.getD 0
   let me' := op.me me
   match eval n call me' d (st.cnt me' d) st.en (St.get st.fr) op with
   | some r =>
    if r.bump && o.dst.isNone then none else
    some ({ fr := putFr st.fr o.dst r.v,en := W.applyAll st.en r.ws,cnt := if r.bump then setCnt st.cnt me' d (st.cnt me' d + 1) else st.cnt },r)
   | none => none
 | none => none
def runOps (n : Nat) (call : CallFn) (io : Inl) (me : Nat) : List LOper → St → Option St
 | [],st => some st
 | o :: l,st => match step n call io me st o with
  | some (st',_) => runOps n call io me l st'
  | none => none
def runRec (n : Nat) (call : CallFn) (io : Inl) (me : Nat) : List LOper → St → Option (St × List Res)
 | [],st => some (st,[])
 | o :: l,st => match step n call io me st o with
  | some (st',r) => match runRec n call io me l st' with
   | some (st'',rs) => some (st'',r :: rs)
   | none => none
  | none => none
def W.key : W → Key
 | .ent k _ | .cells k _ _ | .elem k _ _ _ | .frz k => k
def R.key : R → Key
 | .val k | .cells k _ _ | .flag k => k
def apartWR : W → R → Bool
 | .cells k off vs,.cells k' off' n => k ≠ k' || off + vs.length ≤ off' || off' + n ≤ off
 | .cells ..,.flag _ | .elem ..,.flag _ | .frz _,.val _ | .frz _,.cells .. => true
 | w,r => w.key ≠ r.key
def apartWW : W → W → Bool
 | .cells k off vs,.cells k' off' vs' => k ≠ k' || off + vs.length ≤ off' || off' + vs'.length ≤ off
 | .frz _,.frz _ => true
 | w,w' => w.key ≠ w'.key
def Res.still (r : Res) : Bool := r.ws.isEmpty && !r.bump && r.mem.isNone
def apartRes (a b : Res) : Bool :=
 if a.mem.isSome then a.ws.isEmpty && b.still && b.rs.all (fun r => a.unch r.key)
 else if b.mem.isSome then b.ws.isEmpty && a.still && a.rs.all (fun r => b.unch r.key)
 else a.ws.all (fun w => b.rs.all (apartWR w) && b.ws.all (apartWW w)) && b.ws.all (fun w => a.rs.all (apartWR w))
def pairsOk (rs : List Res) (pairs : List (Nat × Nat)) : Bool :=
 pairs.all fun p => match rs[p.1]?,rs[p.2]? with
  | some a,some b => apartRes a b
  | _,_ => false
def start (args : List Val) : St := { fr := fun i => args.getD i (.tup []),en := fun _ => none,cnt := fun _ _ => 0 }
def readRes (st : St) : LRes → Option Val
 | .tmp t => some (st.fr t)
 | .cell t agg m => match readAt st.en (st.fr t) m with
  | some (cs,_) => ofCells agg cs
  | none => none
def tupOf : List Val → Val
 | [v] => v
 | vs => .tup vs
def ownOf (en : En) : Val → Option Val
 | .bl k 0 n => match en k with
  | some (.blk sz xs false) => if n = xs.length ∧ k.deep = false then some (.own sz xs) else none
  | _ => none
 | _ => none
def resultOf (st : St) (lf : LFunc) (n : Nat) : Option Val :=
 match mapO (readRes st) lf.res with
 | some vs => match (if lf.keep then ownOf st.en (tupOf vs) else none) with
  | some r => some r
  | none => match snap n st.en (tupOf vs) with
   | some (v,_) => some (if lf.keep then v else v.wk)
   | none => none
 | none => none
def Ex.ends : Ex → Bool
 | .exit _ => false
 | .panic _ => false
 | _ => true
def isEmptyS : Val → Bool
 | .fz [] | .cl [] | .bl _ _ 0 | .es _ => true
 | _ => false
def isAmb (lf : LFunc) (args : List Val) : Bool := lf.amb && (match args with | [x] => isEmptyS x | _ => false)
def callBody (lf : LFunc) (n : Nat) (ex : LCode → St → Option (Ex × St)) (args : List Val) : Option Val :=
 match ex lf.body (start args) with
 | some (e,st) => if e.ends then resultOf st lf n else none
 | none => none
def sameEmpty (a b : Option Val) : Option Val :=
 match a,b with
 | some (.cl []),some (.cl []) => some (.cl [])
 | some (.fz []),some (.fz []) => some (.fz [])
 | _,_ => none
def callWith (L : Prog) (n : Nat) (ex : LCode → St → Option (Ex × St)) : CallFn := fun f args =>
 match L f with
 | none => none
 | some lf =>
  if args.length = lf.np then
   if isAmb lf args then sameEmpty (callBody lf n ex [.es true]) (callBody lf n ex [.es false]) else callBody lf n ex args
  else none
def inlWith (L : Prog) (ex : LCode → St → Option (Ex × St)) (f : Nat) (args : List Val) (st : St) : Option (Val × St) :=
 match L f with
 | none => none
 | some lf =>
  if args.length = lf.np then
   if isAmb lf args then (sameEmpty (callBody lf 8 ex [.es true]) (callBody lf 8 ex [.es false])).map fun v => (v,st) else
   match ex lf.body { st with fr := fun i => args.getD i (.tup []) } with
   | some (e,st') => if e.ends then (mapO (readRes st') lf.res).map fun vs => (tupOf vs,{ st' with fr := st.fr }) else none
   | none => none
  else none
def setFrs (fr : Nat → Val) : List Nat → List Val → Nat → Val
 | p :: ps,v :: vs => setFrs (setFr fr p v) ps vs
 | _,_ => fr
def yldWith (ex : LCode → St → Option (Ex × St)) (k : Key) (args : List Val) (st : St) : Option (Val × St) :=
 match st.en k with
 | some (.loop fr ps a b .ready) =>
  if args.length = ps.length then
   match ex a { fr := setFrs fr ps args,en := st.en,cnt := st.cnt } with
   | some (.normal,st1) => match st1.en k with
    | some (.loop fr1 ps1 a1 b1 .ready) => match ex b { st1 with en := st1.en.set k (some (.loop fr1 ps1 a1 b1 .busy)) } with
     | some (e,st2) => match e.calm,st2.en k with
      | true,some (.loop fr2 ps2 a2 b2 .busy) =>
       some (.bool (decide (e = .normal)),{ fr := st.fr,en := st2.en.set k (some (.loop fr2 ps2 a2 b2 (if e = .normal then .ready else .done e))),cnt := st2.cnt })
      | _,_ => none
     | none => none
    | _ => none
   | _ => none
  else none
 | _ => none
def panWith (L : Prog) (ex : LCode → St → Option (Ex × St)) : CallFn := fun f args =>
 match L f with
 | none => none
 | some lf =>
  if args.length = lf.np ∧ isAmb lf args = false then
   match ex lf.body (start args) with
   | some (.panic v,_) => some v
   | _ => none
  else none
def panIn (L : Prog) (ex : LCode → St → Option (Ex × St)) (f : Nat) (args : List Val) (st : St) : Option (Val × St) :=
 match L f with
 | none => none
 | some lf =>
  if args.length = lf.np ∧ isAmb lf args = false then
   match ex lf.body { st with fr := fun i => args.getD i (.tup []) } with
   | some (.panic v,st') => some (v,{ st' with fr := st.fr })
   | _ => none
  else none
def Opd.noM : Opd → Bool
 | .m _ _ => false
 | _ => true
def panStep (n : Nat) (pan : CallFn) (pin : Nat → List Val → St → Option (Val × St)) (st : St) (o : LOper) : Option (Val × St) :=
 match wanted st.fr o.guard with
 | some true =>
  match o.op with
  | .panic x => match St.get st.fr x with
   | .ifc t u => if (Val.ifc t u).flat = true then some (.ifc t u,st) else none
   | _ => none
  | .call f args => match f.noM,St.get st.fr f with
   | true,.fn f a b => match mapO (fun x => snap n st.en x) (a ++ args.map (St.get st.fr) ++ b) with
    | some rs => (pan f (rs.map (·.1.wk1))).map fun v => (v,st)
    | none => none
   | _,_ => none
  | .icall f args => match St.get st.fr f with
   | .fn f a b => match pin f (a ++ args.map (St.get st.fr) ++ b) { st with fr := fun _ => .dead } with
    | some (v,st') => some (v,{ fr := st.fr,en := st'.en,cnt := st'.cnt })
    | none => none
   | _ => none
  | _ => none
 | _ => none
def runP (n : Nat) (call : CallFn) (io : Inl) (pan : CallFn) (pin : Nat → List Val → St → Option (Val × St)) : List LOper → St → Option (Ex × St)
 | [],st => some (.normal,st)
 | o :: l,st => match panStep n pan pin st o with
  | some (v,st') => some (.panic v,st')
  | none => match step n call io 0 st o with
   | some (st',_) => runP n call io pan pin l st'
   | none => none
def pureCell (en : En) : Val → Option (Val × List Key)
 | .ptr k off => some (.ptr k off,[])
 | v => match snap 8 en v with
  | some r => some (r.1.wk0,r.2)
  | none => none
def normBox (en : En) (k : Key) : Option En :=
 match en k with
 | some (.box cs false) => match mapO (pureCell en) cs with
  | some rs => if (rs.flatMap (·.2)).contains k then none else some ((W.applyAll en ((rs.flatMap (·.2)).map .frz)).set k (some (.box (rs.map (·.1)) false)))
  | none => none
 | _ => none
def boxAt (en : En) : List Nat → Val → Option Key
 | [],.ptr k 0 => some k
 | c :: p,.ptr k 0 => match en k with
  | some (.box cs _) => boxAt en p (cs.getD c .dead)
  | _ => none
 | _,_ => none
def norms (x : Val) : List (List Nat) → En → Option En
 | [],en => some en
 | p :: ps,en => match boxAt en p x with
  | some k => match normBox en k with
   | some en' => norms x ps en'
   | none => none
  | none => none
def inlN (L : Prog) (ex : LCode → St → Option (Ex × St)) (f : Nat) (args : List Val) (st : St) : Option (Val × St) :=
 match inlWith L ex f args st with
 | some (v,st') => match L f with
  | some lf => match norms (args.getD 0 .dead) lf.nrm st'.en with
   | some en' => some (v,{ fr := st'.fr,en := en',cnt := st'.cnt })
   | none => none
  | none => none
 | none => none
def inlOf (L : Prog) (ex : LCode → St → Option (Ex × St)) : Inl := { fn := inlN L ex,yld := yldWith ex }
def Val.isUndef : Val → Bool
 | .tup [] => true
 | _ => false
def Ex.rcvd : Ex → Option Val
 | .panic v => some v
 | .exit _ => none
 | _ => some .nili
def deferWith (L : Prog) (ex : LCode → St → Option (Ex × St)) (f : Val) (args : List Val) (e : Ex) (st : St) : Option St :=
 match f with
 | .fn g a b => match L g with
  | some lf => match lf.body,e.rcvd with
   | .rcv dst l c,some v =>
    if (a ++ args ++ b).length = lf.np ∧ lf.res.isEmpty = true then
     match runOps 8 (callWith L 8 ex) (inlOf L ex) 0 l { fr := putFr (fun i => (a ++ args ++ b).getD i (.tup [])) dst v,en := st.en,cnt := st.cnt } with
     | some st1 => match ex c st1 with
      | some (e',st') => if e'.ends then some { fr := st.fr,en := st'.en,cnt := st'.cnt } else none
      | none => none
     | none => none
    else none
   | _,_ => none
  | none => none
 | _ => none
def firstP (n : Nat) (call : CallFn) (io : Inl) (pan : CallFn) (pin : Nat → List Val → St → Option (Val × St)) : List LOper → Nat → St → Option Nat
 | [],_,_ => none
 | o :: l,i,st => match panStep n pan pin st o with
  | some _ => some i
  | none => match step n call io 0 st o with
   | some (st',_) => firstP n call io pan pin l (i + 1) st'
   | none => none
def nopO : LOper := { dst := none,op := .mv (.c .nilp),guard := none }
def behind (an : List (List Nat)) (j i : Nat) : Bool := i == j || (an.getD i []).contains j
def loneV (an : List (List Nat)) (j : Nat) (l : List LOper) (i : Nat) : Bool :=
 !(an.getD j []).contains i && (l.getD i default).guard.isNone && (match (l.getD i default).op with | .alloc _ => true | _ => false)
def deadO (o : LOper) : LOper := { dst := o.dst,op := .mv (.c .dead),guard := none }
def cutAt (an : List (List Nat)) (j : Nat) (l : List LOper) : List LOper :=
 (List.range l.length).map fun i => if behind an j i then nopO else if loneV an j l i then deadO (l.getD i default) else l.getD i default
def dstIn (l : List LOper) (t : Nat) : Bool := l.any fun o => o.dst == some t
def stillBut (an : List (List Nat)) (j : Nat) (l : List LOper) (rs : List Res) : Bool :=
 (List.range l.length).all (fun i => behind an j i || (an.getD j []).contains i || (match rs[i]? with | some r => r.still | none => false))
def drawPan (n : Nat) (call : CallFn) (io : Inl) (pan : CallFn) (pin : Nat → List Val → St → Option (Val × St)) (l : List LOper) (an : List (List Nat)) (pairs : List (Nat × Nat)) (j : Nat) (st : St) : Option (Ex × St) :=
 match runRec n call io 0 (cutAt an j l) st with
 | some (st1,rs) =>
  if pairsOk rs pairs && stillBut an j l rs then
   match panStep n pan pin st1 (l.getD j default) with
   | some (v,st2) => some (.panic v,{ fr := fun t => if dstIn l t then .tup [] else st2.fr t,en := st2.en,cnt := st2.cnt })
   | none => none
  else none
 | none => none
def lateKey (st : St) (o : LOper) : Key := ⟨0,o.dst.getD 0,st.cnt 0 (o.dst.getD 0)⟩
def lateZ : LOp → List Val
 | .alloc z => z
 | _ => []
def lateO (k : Key) (o : LOper) : LOper := { dst := o.dst,op := .mv (.c (.ptr k 0)),guard := none }
def lateL (A : Nat) (k : Key) (l : List LOper) : List LOper := l.set A (lateO k (l.getD A default))
def lateS (k : Key) (z : List Val) (st : St) : St := { fr := st.fr,en := st.en.set k (some (.box z false)),cnt := setCnt st.cnt k.n k.t (st.cnt k.n k.t + 1) }
def leaves (k : Key) (r : Res) : Bool := match r.mem with
 | some _ => r.unch k
 | none => r.ws.all fun w => decide (w.key ≠ k)
def leftOk (an : List (List Nat)) (A : Nat) (k : Key) (rs : List Res) : Bool :=
 (List.range rs.length).all fun i => i == A || (an.getD i []).contains A || (match rs[i]? with | some r => leaves k r | none => false)
def drawLate (n : Nat) (call : CallFn) (io : Inl) (pan : CallFn) (pin : Nat → List Val → St → Option (Val × St)) (l : List LOper) (an : List (List Nat)) (pairs : List (Nat × Nat)) (A : Nat) (k : Key) (st : St) : Option (Ex × St) :=
 match firstP n call io pan pin l 0 st with
 | some j => match runRec n call io 0 (cutAt an j l) st with
  | some (st1,rs) =>
   if (pairsOk rs pairs && stillBut an j l rs) && leftOk an A k rs then
    match panStep n pan pin st1 (l.getD j default) with
    | some (v,st2) => some (.panic v,{ fr := fun t => if dstIn l t then .tup [] else st2.fr t,en := st2.en,cnt := st2.cnt })
    | none => none
   else none
  | none => none
 | none => match runRec n call io 0 l st with
  | some (st',rs) => if pairsOk rs pairs && leftOk an A k rs then some (.normal,st') else none
  | none => none
def lateLs (l : List LOper) (st : St) (As : List Nat) : List LOper :=
 (List.range l.length).map fun i => if As.contains i then lateO (lateKey st (l.getD i default)) (l.getD i default) else l.getD i default
def lateSs (l : List LOper) : List Nat → St → St
 | [],st => st
 | A :: As,st => lateSs l As (lateS (lateKey st (l.getD A default)) (lateZ (l.getD A default).op) st)
def drawLates (n : Nat) (call : CallFn) (io : Inl) (l : List LOper) (an : List (List Nat)) (pairs : List (Nat × Nat)) (As : List Nat) (st : St) : Option (Ex × St) :=
 match runRec n call io 0 (lateLs l st As) (lateSs l As st) with
 | some (st',rs) => if pairsOk rs pairs && As.all (fun A => leftOk an A (lateKey st (l.getD A default)) rs) then some (.normal,st') else none
 | none => none
def rangeWith (L : Prog) (ex : LCode → St → Option (Ex × St)) (g : Val) (ps : List Nat) (a b : LCode) (st : St) : Option (Ex × St) :=
 match g with
 | .fn f x y =>
  let k : Key := ⟨1,0,st.cnt 1 0⟩
  match inlN L ex f (x ++ [.yld k] ++ y) { fr := st.fr,en := st.en.set k (some (.loop st.fr ps a b .ready)),cnt := setCnt st.cnt 1 0 (st.cnt 1 0 + 1) } with
  | some (_,st') => match st'.en k with
   | some (.loop _ _ _ _ .ready) => some (.normal,{ st' with en := st'.en.set k none })
   | some (.loop _ _ _ _ (.done e)) => some (e,{ st' with en := st'.en.set k none })
   | _ => none
  | none => match panIn L ex f (x ++ [.yld k] ++ y) { fr := st.fr,en := st.en.set k (some (.loop st.fr ps a b .ready)),cnt := setCnt st.cnt 1 0 (st.cnt 1 0 + 1) } with
   | some (v,st') => some (.panic v,{ st' with en := st'.en.set k none })
   | none => none
 | _ => none
def exec (L : Prog) : Nat → LCode → St → Option (Ex × St)
 | 0,_,_ => none
 | n + 1,c,st =>
  match c with
  | .skip => some (.normal,st)
  | .ops l => (runOps 8 (callWith L 8 (exec L n)) (inlOf L (exec L n)) 0 l st).map fun st => (.normal,st)
  | .draw l pairs => match runRec 8 (callWith L 8 (exec L n)) (inlOf L (exec L n)) 0 l st with
   | some (st',rs) => if pairsOk rs pairs then some (.normal,st') else none
   | none => none
  | .seq a b => match exec L n a st with
   | some (.normal,st') => exec L n b st'
   | r => r
  | .cond x a b => match St.get st.fr x with
   | .bool true => exec L n a st
   | .bool false => exec L n b st
   | _ => none
  | .block id b => match exec L n b st with
   | some (.exit id',st') => if id' = id then some (.normal,st') else some (.exit id',st')
   | r => r
  | .loop b => match exec L n b st with
   | some (.normal,st') => exec L n (.loop b) st'
   | r => r
  | .exit id => some (.exit id,st)
  | .ret => some (.ret,st)
  | .rangeF g ps a b => rangeWith L (exec L n) (St.get st.fr g) ps a b st
  | .opsP l => runP 8 (callWith L 8 (exec L n)) (inlOf L (exec L n)) (panWith L (exec L n)) (panIn L (exec L n)) l st
  | .dfr ts l f args b => match runOps 8 (callWith L 8 (exec L n)) (inlOf L (exec L n)) 0 l st with
   | some st2 => match exec L n b st2 with
    | some (e,st3) => if ts.any (fun t => (st3.fr t).isUndef) then none else (deferWith L (exec L n) (St.get st2.fr f) (args.map (St.get st2.fr)) e st3).map fun st4 => (.ret,st4)
    | none => none
   | none => none
  | .rcv _ _ _ => none
  | .drawP l an pairs => match firstP 8 (callWith L 8 (exec L n)) (inlOf L (exec L n)) (panWith L (exec L n)) (panIn L (exec L n)) l 0 st with
   | some j => drawPan 8 (callWith L 8 (exec L n)) (inlOf L (exec L n)) (panWith L (exec L n)) (panIn L (exec L n)) l an pairs j st
   | none => match runRec 8 (callWith L 8 (exec L n)) (inlOf L (exec L n)) 0 l st with
    | some (st',rs) => if pairsOk rs pairs then some (.normal,st') else none
    | none => none
  | .drawL l an pairs A =>
   drawLate 8 (callWith L 8 (exec L n)) (inlOf L (exec L n)) (panWith L (exec L n)) (panIn L (exec L n)) (lateL A (lateKey st (l.getD A default)) l) an pairs A (lateKey st (l.getD A default))
    (lateS (lateKey st (l.getD A default)) (lateZ (l.getD A default).op) st)
  | .drawM l an pairs As => drawLates 8 (callWith L 8 (exec L n)) (inlOf L (exec L n)) l an pairs As st
def ppan (L : Prog) (n : Nat) : CallFn := panWith L (exec L n)
def pcall (L : Prog) (n : Nat) : CallFn := callWith L 8 (exec L n)
end Go.Abs
namespace Go.Abs
def lowVal : Value → Option Val
 | .bool b => some (.bool b)
 | .int k n => some (.int k n)
 | .string s => some (.str s)
 | .pointer none => some .nilp
 | .slice none 0 0 => some (.cl [])
 | .map none => some .nilm
 | .nilFunc => some .nilf
 | .nilIface => some .nili
 | _ => none
def lowZero (P : Program) (t : TypeId) : Option (List Val) :=
 match (P.info? t).bind (·.zero) with
 | some v => mapO lowVal v.cells.toList
 | none => none
def isAggT (P : Program) (t : TypeId) : Bool :=
 match P.underlying t with
 | some (.struct _) | some (.array _ _) => true
 | _ => false
def lowZeroV (P : Program) (t : TypeId) : Option Val :=
 match (P.info? t).bind (·.zero) with
 | some (.agg cs) => if isAggT P t then (mapO lowVal cs.toList).map .agg else none
 | some v => if isAggT P t then none else lowVal v
 | none => none
structure Glob where
 tbl : Nat → Option (List Val)
instance : Inhabited Glob := ⟨⟨fun _ => none⟩⟩
variable [Inhabited Glob]
def lowOpd : Operand → Option Opd
 | .tmp t => some (.t t)
 | .const v => (lowVal v).map .c
 | .func f => some (.f f)
 | .global g => ((default : Glob).tbl g).map fun cs => .c (.fp cs 0)
def lowOpds (l : List Operand) : Option (List Opd) := mapO lowOpd l
def plainFs (plainT : TypeId → Option (List CT)) : List Field → List CT → Option (List CT)
 | [],l => some l
 | f :: fs,l =>
  if f.name ≠ "_" ∧ f.offset = l.length then
   match plainT f.type with
   | some m => plainFs plainT fs (l ++ m)
   | none => none
  else none
def unlike (P : Program) (a t : TypeId) : Bool :=
 a != t && match ((P.info? a).map (·.desc) : Option TypeDesc),((P.info? t).map (·.desc) : Option TypeDesc) with
 | some (.struct fs),some (.struct gs) => fs.size != gs.size || (match fs.toList,gs.toList with | f :: _,g :: _ => f.name != g.name | _,_ => false)
 | some _,some (.struct _) => true
 | _,_ => false
def stoodQ (P : Program) (t : TypeId) : Bool := P.cutTypes.toList.any fun c => !unlike P (P.underlyingId c.2) (P.underlyingId t)
def plainT (P : Program) : Nat → TypeId → Option (List CT)
 | 0,_ => none
 | d + 1,t =>
  match P.underlying t with
  | some (.int _) => if P.cellsOf t = 1 then some [.num] else none
  | some .bool => if P.cellsOf t = 1 then some [.bool] else none
  | some .string => if P.cellsOf t = 1 then some [.str] else none
  | some (.struct fs) =>
   if stoodQ P t then none else
   match plainFs (plainT P d) fs.toList [] with
   | some l => if P.cellsOf t = l.length then some l else none
   | none => none
  | some (.array n e) =>
   match plainT P d e with
   | some m => if P.cellsOf t = n * m.length then some (List.replicate n m).flatten else none
   | none => none
  | _ => none
def eqTag (P : Program) (t : TypeId) : Option EqT :=
 match P.underlying t with
 | some (.int _) => some .num
 | some .string => some .str
 | some .bool => some .bool
 | some (.struct _) | some (.array _ _) => if P.types.size < 2 then none else (plainT P 6 t).map .agg
 | some (.map _ _) => some .map
 | some (.slice _) => some .slice
 | some (.func _ _ _) => some .func
 | some (.interface _) => some .iface
 | some (.pointer _) => some .ptr
 | _ => none
def keyTag (P : Program) (t : TypeId) : Option EqT :=
 match P.underlying t with
 | some (.int _) => some .num
 | some .string => some .str
 | some .bool => some .bool
 | _ => none
def lowOpt (x : Option Operand) : Option (Option Opd) :=
 match x with
 | none => some none
 | some o => (lowOpd o).map some
def methodAt (P : Program) (name : String) (t : TypeId) : Option Nat :=
 match P.info? t with
 | some i => match i.methods.find? (·.name == name) with
  | some m => match m.path.toList,m.func with
   | [],some (f,pr) => match P.underlying t with
    | some (.pointer _) => if pr then some f else none
    | some _ => if pr then none else some f
    | none => none
   | _,_ => none
  | none => none
 | none => none
def methodTbl (P : Program) (name : String) : List (Nat × Nat) :=
 (List.range P.types.size).filterMap fun t => (methodAt P name t).map fun f => (t,f)
def constly : Operand → Bool
 | .const _ => true
 | _ => false
def lowZ (P : Program) (e t : TypeId) (x y : Operand) : Option LOp :=
 match P.underlying t,lowZero P e,lowOpd x,lowOpd y with
 | some (.int _),some z,some x,some y => if z.length = P.cellsOf e ∧ 0 < P.cellsOf e ∧ P.bytesOf e ≤ 1048576 then some (.appendZ (P.cellsOf e) z x y) else none
 | _,_,_,_ => none
theorem lowZ_some {P : Program} {e t : TypeId} {x y : Operand} {l : LOp} (h : lowZ P e t x y = some l) : ∃ z x' y' k,P.underlying t = some (.int k) ∧ lowZero P e = some z ∧ lowOpd x = some x' ∧ lowOpd y = some y' ∧ z.length = P.cellsOf e ∧ 0 < P.cellsOf e ∧ P.bytesOf e ≤ 1048576 ∧ l = .appendZ (P.cellsOf e) z x' y' := by
 unfold lowZ at h
 split at h
 ·rename_i k z x' y' h1 h2 h3 h4
  split at h
  ·rename_i hc
   simp only [Option.some.injEq] at h
   exact ⟨z,x',y',k,h1,h2,h3,h4,hc.1,hc.2.1,hc.2.2,h.symm⟩
  ·cases h
 ·cases h
def isU8 (P : Program) (e : TypeId) : Bool := match P.underlying e with
 | some (.int .u8) => true
 | _ => false
theorem u8_of {P : Program} {e : TypeId} (h : isU8 P e = true) : P.underlying e = some (.int .u8) := by
 unfold isU8 at h
 split at h
 ·assumption
 ·cases h
def lowOp (P : Program) (I : Operand → Bool) : Op → Option LOp
 | .move x | .assign x => (lowOpd x).map .mv
 | .pick c a b => do pure (.pick (← lowOpd c) (← lowOpd a) (← lowOpd b))
 | .alloc t => do pure (.alloc (← lowZero P t))
 | .box t x => do pure (.box (P.cellsOf t) (← lowOpd x))
 | .build t parts =>
  match P.underlying t with
  | some (.struct fs) => if fs.toList.all (fun f => (P.info? f.type).isSome) then do
   let z ← lowZero P t
   let ps ← mapO (fun (p : Nat × Operand) => do
    let f ← fs[p.1]?
    pure (f.offset,P.cellsOf f.type,← lowOpd p.2)) parts.toList
   pure (.build z ps) else none
  | some (.array _ e) => if (P.info? e).isSome then do
   let z ← lowZero P t
   let ps ← mapO (fun (p : Nat × Operand) => do pure (p.1 * P.cellsOf e,P.cellsOf e,← lowOpd p.2)) parts.toList
   pure (.build z ps) else none
  | _ => none
 | .buildSlice t len parts =>
  match P.underlying t with
  | some (.slice e) => do
   let z ← lowZero P e
   if z.length = P.cellsOf e then
    let ps ← mapO (fun (p : Nat × Operand) => do pure (p.1,← lowOpd p.2)) parts.toList
    pure (if I (.const (.bool true)) then .bsliceK len (P.cellsOf e) z ps else if I (.const (.bool false)) then .bsliceO len (P.cellsOf e) z ps else .bslice len (P.cellsOf e) z ps)
   else none
  | _ => none
 | .load t a => if (P.underlying t).isSome then (lowOpd a).map (.load (isAggT P t) (P.cellsOf t)) else none
 | .store t a v => if (P.info? t).isSome then do pure (.store (P.cellsOf t) (← lowOpd a) (← lowOpd v)) else none
 | .nilCheck x => (lowOpd x).map .nilck
 | .binOp op t x y _ => do
  let e ← eqTag P t
  if e = .slice then
   match y with
   | .const (.slice none 0 0) => pure (.bin op .slice (← lowOpd x) (.c (.es true)))
   | _ => none
  else if e = .iface ∧ constly x = false ∧ constly y = false then none
  else pure (.bin op e (← lowOpd x) (← lowOpd y))
 | .unOp op _ x => (lowOpd x).map (.un op)
 | .convert s d x =>
  match P.underlying s,P.underlying d with
  | some (.int _),some (.int k) => (lowOpd x).map (.wrap k)
  | some .string,some (.slice e) => if isU8 P e = true then (lowOpd x).map .s2b else none
  | some (.slice e),some .string => if isU8 P e = true then (lowOpd x).map .b2s else none
  | _,_ => none
 | .makeInterface t x =>
  match P.underlying t with
  | some (.interface _) | none => none
  | _ => (lowOpd x).map (.iface t)
 | .makeFunc (.func f) a b => do pure (.mkfn f (← lowOpds a.toList) (← lowOpds b.toList))
 | .makeSlice t l c =>
  match P.underlying t with
  | some (.slice e) => do
   let z ← lowZero P e
   if z.length = P.cellsOf e ∧ P.bytesOf e ≤ 1048576 then pure (.mklen (P.cellsOf e) z (← lowOpd l) (← lowOpd c)) else none
  | _ => none
 | .slice t x lo hi mx =>
  match P.underlying t with
  | some (.slice e) => if (P.info? e).isSome = false then none else do pure (.slice false (P.cellsOf e) (← lowOpd x) (← lowOpt lo) (← lowOpt hi) (← lowOpt mx))
  | some .string => if mx.isSome then none else do pure (.slice true 1 (← lowOpd x) (← lowOpt lo) (← lowOpt hi) none)
  | some (.array n e) => if mx.isSome ∨ (P.info? e).isSome = false then none else do pure (.sla n (P.cellsOf e) (isAggT P e) (← lowOpd x) (← lowOpt lo) (← lowOpt hi))
  | _ => none
 | .range t x =>
  match P.underlying t with
  | some .string => (lowOpd x).map .rng
  | _ => none
 | .next x true => (lowOpd x).map .nxt
 | .panic x => (lowOpd x).map .panic
 | .makeMap _ none => some .mkmap
 | .lookup t x i ok =>
  match P.underlying t with
  | some (.map k e) => do pure (.mget (← keyTag P k) (← lowZeroV P e) ok (← lowOpd x) (← lowOpd i))
  | _ => none
 | .mapUpdate t m k v | .insert t m k v =>
  match P.underlying t with
  | some (.map kt _) => do pure (.mput (← keyTag P kt) (← lowOpd m) (← lowOpd k) (← lowOpd v))
  | _ => none
 | .fieldAddr s x i =>
  match P.underlying s with
  | some (.struct fs) => do
   let f ← fs[i]?
   if P.cellsOf f.type = 0 then none else pure (.fa f.offset (← lowOpd x))
  | _ => none
 | .field s x i =>
  match P.underlying s with
  | some (.struct fs) => do
   let f ← fs[i]?
   if (P.underlying f.type).isSome then pure (.fld (isAggT P f.type) f.offset (P.cellsOf f.type) (← lowOpd x)) else none
  | _ => none
 | .indexAddr t x i =>
  match P.underlying t with
  | some (.slice e) => if (P.info? e).isSome = false then none else do pure (.ia (P.cellsOf e) (← lowOpd x) (← lowOpd i))
  | some (.array n e) => if (P.info? e).isSome = false then none else do pure (.iaa n (P.cellsOf e) (← lowOpd x) (← lowOpd i))
  | _ => none
 | .index t x i =>
  match P.underlying t with
  | some .string => do pure (.ixs (← lowOpd x) (← lowOpd i))
  | some (.array n e) => if (P.underlying e).isSome = false then none else do pure (.ixa (isAggT P e) n (P.cellsOf e) (← lowOpd x) (← lowOpd i))
  | _ => none
 | .extract t i => (lowOpd t).map (.ext i)
 | .typeAssert x _ t ok =>
  match P.underlying t with
  | some (.interface _) | none => none
  | _ => do
   let z ← lowZeroV P t
   pure (.assert t z ok (← lowOpd x))
 | .call c =>
  match c.callee with
  | .value f => if I f then do pure (.icall (← lowOpd f) (← lowOpds c.args.toList)) else do pure (.call (← lowOpd f) (← lowOpds c.args.toList))
  | .invoke (.tmp t) name => do pure (.call (.m (methodTbl P name) t) (← lowOpds c.args.toList))
  | .builtin .len => match c.args.toList with
   | [x] => match c.argTypes[0]?.bind P.underlying with
    | some (.slice _) => (lowOpd x).map (.len .slice)
    | some .string => (lowOpd x).map (.len .str)
    | some (.map _ _) => (lowOpd x).map (.len .map)
    | _ => none
   | _ => none
  | .builtin .append => match c.argTypes.toList,c.args.toList with
   | [t,t'],[x,y] => match P.underlying t with
    | some (.slice e) =>
     if t = t' ∧ (lowZero P e).map List.length = some (P.cellsOf e) ∧ P.bytesOf e ≤ 1048576 then do
      let x ← lowOpd x
      let y ← lowOpd y
      pure (if I (.const (.bool true)) then .appendD (P.cellsOf e) x y else .append (P.cellsOf e) x y)
     else lowZ P e t' x y
    | _ => none
   | _,_ => none
  | .builtin .cap => match c.args.toList with
   | [x] => match c.argTypes[0]?.bind P.underlying with
    | some (.slice _) => (lowOpd x).map (.len .func)
    | _ => none
   | _ => none
  | .builtin .copy => match c.argTypes.toList,c.args.toList with
   | [t,_],[x,y] => match P.underlying t with
    | some (.slice e) => if (P.info? e).isSome = true ∧ P.cellsOf e = 1 then do pure (.copy 1 (← lowOpd x) (← lowOpd y)) else none
    | _ => none
   | _,_ => none
  | .builtin .clear => match c.argTypes.toList,c.args.toList with
   | [t],[x] => match P.underlying t with
    | some (.slice e) => do
     let z ← lowZeroV P e
     if P.cellsOf e = 1 ∧ z.flat0 = true then pure (.clr z (← lowOpd x)) else none
    | _ => none
   | _,_ => none
  | .builtin .max => (lowOpds c.args.toList).map (.minmax true)
  | .builtin .min => (lowOpds c.args.toList).map (.minmax false)
  | _ => none
 | _ => none
def guardTmp (ops : Array Oper) : Option (Nat × Bool) → Option (Option (Nat × Bool))
 | none => some none
 | some (j,b) => match (ops[j]?).bind (·.dst) with
  | some t => some (some (t,b))
  | none => none
def lowOper (P : Program) (I : Operand → Bool) (ops : Array Oper) (o : Oper) : Option LOper := do
 pure { dst := o.dst,op := ← lowOp P I o.op,guard := ← guardTmp ops o.guard }
def ancsGo : List Oper → List (List Nat) → Option (List (List Nat))
 | [],acc => some acc
 | o :: l,acc =>
  let direct := (o.after.toList.filter (Region.binds .any)).map (·.on)
  if direct.all (· < acc.length) then ancsGo l (acc ++ [(direct ++ direct.flatMap fun j => acc.getD j []).eraseDups]) else none
def ancs (ops : Array Oper) : Option (List (List Nat)) := ancsGo ops.toList []
def drawPairs (an : List (List Nat)) (l : List LOper) : Option (List (Nat × Nat)) :=
 let r := List.range l.length
 let ordered (i j : Nat) : Bool := (an.getD j []).contains i || (an.getD i []).contains j
 let o (i : Nat) : LOper := l.getD i default
 if r.all fun j => r.all fun i =>
   i == j ||
   (match (o i).dst with
    | some d => (o j).dst != some d && (!(o j).uses.contains d || ordered i j)
    | none => true)
 then some (r.flatMap fun j => ((List.range j).filter fun i => !ordered i j &&
   (((o i).op.writesMem && ((o j).op.readsMem || (o j).op.writesMem)) || ((o j).op.writesMem && (o i).op.readsMem))).map fun i => (i,j))
 else none
def failC : LCode := .cond (.c .dead) .skip .skip
def panicky (I : Operand → Bool) (o : LOper) : Bool :=
 match o.op with
 | .panic _ => true
 | .call (.f f) _ | .icall (.f f) _ => I (.const (.int .i64 f))
 | .call (.t _) _ | .icall (.t _) _ => I (.const .nilIface)
 | _ => false
def lateAt (an : List (List Nat)) (l : List LOper) (i : Nat) : Bool :=
 (an.getD i []).isEmpty && (l.getD i default).guard.isNone && (match (l.getD i default).op with | .alloc _ => true | _ => false) && (l.getD i default).dst.isSome &&
  (List.range l.length).any fun j => (match (l.getD j default).op with | .icall _ _ => true | _ => false) && !(an.getD j []).contains i
def lates (an : List (List Nat)) (l : List LOper) : List Nat := (List.range l.length).filter (lateAt an l)
def lateOf (an : List (List Nat)) (l : List LOper) : Option Nat := (List.range l.length).find? (lateAt an l)
def lowDraw (P : Program) (I : Operand → Bool) (ops : Array Oper) : Option LCode := do
 let l ← mapO (lowOper P I ops) ops.toList
 let an ← ancs ops
 let ps ← drawPairs an l
 pure (if l.any (panicky I) then (match lateOf an l with | some A => .drawL l an ps A | none => .drawP l an ps) else if I (.const (.pointer none)) && !(lates an l).isEmpty then .drawM l an ps (lates an l) else .draw l ps)
def lower (P : Program) (I : Operand → Bool) : Code → LCode
 | .skip => .skip
 | .region _ ops dr => if dr then (lowDraw P I ops).getD failC else ((mapO (lowOper P I ops) ops.toList).map fun l => if l.any (panicky I) then .opsP l else .ops l).getD failC
 | .seq a b => .seq (lower P I a) (lower P I b)
 | .cond c a b => match lowOpd c with
  | some x => .cond x (lower P I a) (lower P I b)
  | none => failC
 | .block id b => .block id (lower P I b)
 | .loop b => .loop (lower P I b)
 | .scope b => lower P I b
 | .label _ => .skip
 | .exit id => .exit id
 | .ret => .ret
 | .rangeFunc g ps a b => match lowOpd g with
  | some x => .rangeF x ps.toList (lower P I a) (lower P I b)
  | none => failC
 | _ => failC
def LCode.dstOk (n : Nat) : LCode → Bool
 | .ops l | .draw l _ | .opsP l | .drawP l _ _ | .drawL l _ _ _ | .drawM l _ _ _ => l.all fun o => o.dst.all (· < n)
 | .seq a b | .cond _ a b => a.dstOk n && b.dstOk n
 | .block _ b | .loop b => b.dstOk n
 | .rangeF _ ps a b => ps.all (· < n) && a.dstOk n && b.dstOk n
 | .dfr _ l _ _ b => (l.all fun o => o.dst.all (· < n)) && b.dstOk n
 | .rcv d l b => d.all (· < n) && (l.all fun o => o.dst.all (· < n)) && b.dstOk n
 | _ => true
def LCode.noRg : LCode → Bool
 | .rangeF .. => false
 | .seq a b | .cond _ a b => a.noRg && b.noRg
 | .block _ b | .loop b => b.noRg
 | _ => true
def deferR : Code → Option (Array Oper × Call)
 | .region _ ops false => match ops.back? with
  | some o => match o.op,o.guard,o.dst with
   | .defer k,none,none => some (ops,k)
   | _,_,_ => none
  | none => none
 | _ => none
def lowDfr (P : Program) (I : Operand → Bool) (ts : List Nat) (ops : Array Oper) (k : Call) (b : Code) : Option LCode :=
 match k.callee with
 | .value F => match lowOpd F,lowOpds k.args.toList,mapO (lowOper P I ops) ops.toList.dropLast with
  | some f,some args,some l => some (.dfr ts l f args (lower P I b))
  | _,_,_ => none
 | _ => none
def lowTail (P : Program) (I : Operand → Bool) (ts : List Nat) : Code → Option LCode
 | .seq x y => match deferR x with
  | some (ops,k) => lowDfr P I ts ops k y
  | none => match lowTail P I ts y with
   | some ly => some (.seq (lower P I x) ly)
   | none => none
 | _ => none
def isRecover (o : Oper) : Bool := match o.op,o.guard with
 | .call c,none => match c.callee with
  | .builtin .recover => true
  | _ => false
 | _,_ => false
def isMove (o : Oper) : Bool := match o.op,o.guard with
 | .assign _,none | .move _,none => true
 | _,_ => false
def LCode.isRcv : LCode → Bool
 | .rcv .. => true
 | _ => false
def lowRcv (P : Program) (I : Operand → Bool) : Code → Option LCode
 | .seq (.region _ ops false) b => match ops.toList with
  | o :: l => if isRecover o && l.all isMove && (lower P I b).noRg then (mapO (lowOper P I ops) l).map fun l' => .rcv o.dst l' (lower P I b) else none
  | [] => none
 | _ => none
def resTmps (l : List ResultVar) : List Nat := l.map fun | .tmp t => t | .cell c _ => c
def lowBody (P : Program) (I : Operand → Bool) (ts : List Nat) (c : Code) : Option LCode :=
 match lowRcv P I c with
 | some x => some x
 | none => match lowTail P I ts c with
  | some x => some x
  | none => if (lower P I c).isRcv then none else some (lower P I c)
def lowRes (P : Program) : ResultVar → Option LRes
 | .tmp t => some (.tmp t)
 | .cell a t => if (P.underlying t).isSome then some (.cell a (isAggT P t) (P.cellsOf t)) else none
def nrmOf (I : Operand → Bool) : List (List Nat) := (if I (.const .nilFunc) then [[]] else []) ++ (if I (.const (.map none)) then [[0]] else [])
def lowFunc (P : Program) (I : Operand → Bool) (keep amb : Bool) (f : Func) : Option LFunc :=
 match f.body with
 | none => none
 | some c => match lowBody P I (resTmps f.results.toList) c with
  | none => none
  | some lc =>
  if lc.dstOk f.ntmps && decide (f.params.size + f.nfree ≤ f.ntmps) && (f.name != "runtime.NumGoroutine") then
   (mapO (lowRes P) f.results.toList).map fun res => { np := f.params.size + f.nfree,res,keep,amb,nrm := nrmOf I,body := lc } else none
end Go.Abs
namespace Go.Abs
open Go.RowKit (Below)
structure Gh where
 box : Key → Option Nat
 blk : Key → Option (Option (Nat × Nat × Nat × Nat))
 mp : Key → Option Nat
 own : Nat → Option (Key × Nat)
def Gh.knows (G : Gh) (k : Key) : Prop := G.box k ≠ .none ∨ G.blk k ≠ .none ∨ G.mp k ≠ .none
theorem Gh.knows_box {G : Gh} {k : Key} {b : Nat} (h : G.box k = some b) : G.knows k := .inl (by rw [h]; simp)
theorem Gh.knows_blk {G : Gh} {k : Key} {b : Option (Nat × Nat × Nat × Nat)} (h : G.blk k = some b) : G.knows k := .inr (.inl (by rw [h]; simp))
theorem Gh.knows_mp {G : Gh} {k : Key} {b : Nat} (h : G.mp k = some b) : G.knows k := .inr (.inr (by rw [h]; simp))
theorem Gh.knows_not {G : Gh} {k : Key} (h : G.box k = .none ∧ G.blk k = .none ∧ G.mp k = .none) : ¬ G.knows k := fun hk => by
 obtain ⟨h1,h2,h3⟩ := h
 rcases hk with hk | hk | hk
 ·exact hk h1
 ·exact hk h2
 ·exact hk h3
theorem Gh.not_knows {G : Gh} {k : Key} (h : ¬ G.knows k) : G.box k = .none ∧ G.blk k = .none ∧ G.mp k = .none := by
 refine ⟨?_,?_,?_⟩
 ·cases h1 : G.box k with
  | none => rfl
  | some b => exact absurd (Gh.knows_box h1) h
 ·cases h1 : G.blk k with
  | none => rfl
  | some b => exact absurd (Gh.knows_blk h1) h
 ·cases h1 : G.mp k with
  | none => rfl
  | some b => exact absurd (Gh.knows_mp h1) h
def Gh.none : Gh := { box := fun _ => Option.none,blk := fun _ => Option.none,mp := fun _ => Option.none,own := fun _ => Option.none }
def Gh.atq (G : Gh) (q : Nat) : Gh := if q = 3 then G else Gh.none
abbrev Gh.at (G : Gh) (k : Key) : Gh := G.atq k.n
theorem Gh.at_none {G : Gh} {k : Key} (h : k.deep = false) : G.at k = Gh.none := by
 simp only [Key.deep,decide_eq_false_iff_not] at h; simp [Gh.at,Gh.atq,h]
structure Gh.le (G H : Gh) : Prop where
 box : ∀ k b,G.box k = some b → H.box k = some b
 blk : ∀ k b,G.blk k = some b → H.blk k = some b
 mp : ∀ k b,G.mp k = some b → H.mp k = some b
theorem Gh.le_refl (G : Gh) : G.le G := ⟨fun _ _ h => h,fun _ _ h => h,fun _ _ h => h⟩
theorem Gh.le_trans {A B C : Gh} (h : A.le B) (k : B.le C) : A.le C :=
 ⟨fun x b e => k.box x b (h.box x b e),fun x b e => k.blk x b (h.blk x b e),fun x b e => k.mp x b (h.mp x b e)⟩
theorem Gh.none_le (G : Gh) : Gh.none.le G := ⟨fun _ _ h => by simp [Gh.none] at h,fun _ _ h => by simp [Gh.none] at h,fun _ _ h => by simp [Gh.none] at h⟩
def oneV : Value → Bool
 | .agg _ | .tuple _ => false
 | _ => true
inductive VR (T : Nat → Nat → Prop) : Gh → World → Val → Value → Prop
 | dead {G : Gh} {w : World} (x : Value) (h : oneV x = true) : VR T G w .dead x
 | bool {G : Gh} {w : World} (b : Bool) : VR T G w (.bool b) (.bool b)
 | int {G : Gh} {w : World} (k : IntKind) (n : Int) : VR T G w (.int k n) (.int k n)
 | str {G : Gh} {w : World} (s : ByteArray) : VR T G w (.str s) (.string s)
 | nilp {G : Gh} {w : World} : VR T G w .nilp (.pointer .none)
 | fp {G : Gh} {w : World} (cs : List Val) (off b base : Nat) (c : Nat → Value) (h : ∀ j,j < cs.length → w.cell? ⟨b,base + j,.none⟩ = some (c j))
   (ht : ∀ j,j < cs.length → T b (base + j)) (ho : ∀ j,j < cs.length → oneV (c j) = true) (hv : ∀ j,j < cs.length → VR T Gh.none w (cs.getD j .dead) (c j)) :
   VR T G w (.fp cs off) (.pointer (some ⟨b,base + off,.none⟩))
 | ptr {G : Gh} {w : World} (k : Key) (off b : Nat) (h : G.box k = some b) : VR T G w (.ptr k off) (.pointer (some ⟨b,off,.none⟩))
 | ep {G : Gh} {w : World} (k : Key) (i off b base sz C : Nat) (h : G.blk k = some (some (b,base,sz,C))) (hi : i < C) : VR T G w (.ep k i off) (.pointer (some ⟨b,base + i * sz + off,.none⟩))
 | fz0 {G : Gh} {w : World} (a : Option Addr) (cap : Nat) : VR T G w (.fz []) (.slice a 0 cap)
 | fz {G : Gh} {w : World} (xs : List Val) (b off sz cap : Nat) (c : Nat → Nat → Value) (hc : xs.length ≤ cap)
   (hs : ∀ i,i < xs.length → (xs.getD i .dead).cells.length = sz)
   (h : ∀ i j,i < xs.length → j < sz → w.cell? ⟨b,off + i * sz + j,.none⟩ = some (c i j))
   (ht : ∀ i j,i < xs.length → j < sz → T b (off + i * sz + j)) (ho : ∀ i j,i < xs.length → j < sz → oneV (c i j) = true)
   (hv : ∀ i j,i < xs.length → j < sz → VR T Gh.none w ((xs.getD i .dead).cells.getD j .dead) (c i j)) :
   VR T G w (.fz xs) (.slice (some ⟨b,off,.none⟩) xs.length cap)
 | cl0 {G : Gh} {w : World} (a : Option Addr) : VR T G w (.cl []) (.slice a 0 0)
 | cl {G : Gh} {w : World} (xs : List Val) (b off sz : Nat) (c : Nat → Nat → Value)
   (hs : ∀ i,i < xs.length → (xs.getD i .dead).cells.length = sz)
   (h : ∀ i j,i < xs.length → j < sz → w.cell? ⟨b,off + i * sz + j,.none⟩ = some (c i j))
   (ht : ∀ i j,i < xs.length → j < sz → T b (off + i * sz + j)) (ho : ∀ i j,i < xs.length → j < sz → oneV (c i j) = true)
   (hv : ∀ i j,i < xs.length → j < sz → VR T Gh.none w ((xs.getD i .dead).cells.getD j .dead) (c i j)) :
   VR T G w (.cl xs) (.slice (some ⟨b,off,.none⟩) xs.length xs.length)
 | bl0 {G : Gh} {w : World} (k : Key) (a : Option Addr) (h : G.blk k = some .none) : VR T G w (.bl k 0 0) (.slice a 0 0)
 | bl {G : Gh} {w : World} (k : Key) (off len b base sz C : Nat) (h : G.blk k = some (some (b,base,sz,C))) (hl : off + len ≤ C) :
   VR T G w (.bl k off len) (.slice (some ⟨b,base + off * sz,.none⟩) len (C - off))
 | ble {G : Gh} {w : World} (k : Key) (a : Option Addr) (b base sz C : Nat) (h : G.blk k = some (some (b,base,sz,C))) : VR T G w (.bl k C 0) (.slice a 0 0)
 | sl {G : Gh} {w : World} (k : Key) (off len b cap : Nat) (h : G.box k = some b) (hc : len ≤ cap) : VR T G w (.sl k off len) (.slice (some ⟨b,off,.none⟩) len cap)
 | nilm {G : Gh} {w : World} : VR T G w .nilm (.map .none)
 | fm {G : Gh} {w : World} (ks vs : List Val) (r : Nat) (es : Array MapEntry) (clock : Nat) (h : w.heap[r]? = some (.map es clock)) (ht : T r 0)
   (hk : es.size = ks.length) (hl : vs.length = ks.length)
   (hkv : ∀ i,i < ks.length → VR T Gh.none w (ks.getD i .dead) (es.getD i default).key) (hvv : ∀ i,i < ks.length → VR T Gh.none w (vs.getD i .dead) (es.getD i default).val) :
   VR T G w (.fm ks vs) (.map (some r))
 | mp {G : Gh} {w : World} (k : Key) (r : Nat) (h : G.mp k = some r) : VR T G w (.mp k) (.map (some r))
 | nilf {G : Gh} {w : World} : VR T G w .nilf .nilFunc
 | fn {G : Gh} {w : World} (f : Nat) (a b : List Val) (x y : Array Value) (ha : x.size = a.length) (hb : y.size = b.length)
   (hx : ∀ i,i < a.length → VR T G w (a.getD i .dead) (x.getD i undef)) (hy : ∀ i,i < b.length → VR T G w (b.getD i .dead) (y.getD i undef)) :
   VR T G w (.fn f a b) (.func (.func f) x y)
 | yld {G : Gh} {w : World} (k : Key) (l : Nat) (h : G.mp k = some l) : VR T G w (.yld k) (.func (.yield l) #[] #[])
 | nili {G : Gh} {w : World} : VR T G w .nili .nilIface
 | it {G : Gh} {w : World} (k : Key) (r : Nat) (h : G.mp k = some r) : VR T G w (.it k) (.pointer (some ⟨r,0,none⟩))
 | es {G : Gh} {w : World} (a : Option Addr) (cap : Nat) : VR T G w (.es a.isNone) (.slice a 0 cap)
 | ifc {G : Gh} {w : World} (t : Nat) (v : Val) (x : Value) (h : VR T G w v x) : VR T G w (.ifc t v) (.iface t x)
 | agg {G : Gh} {w : World} (cs : List Val) (x : Array Value) (h : x.size = cs.length) (ho : ∀ i,i < cs.length → oneV (x.getD i undef) = true)
   (hv : ∀ i,i < cs.length → VR T G w (cs.getD i .dead) (x.getD i undef)) : VR T G w (.agg cs) (.agg x)
 | tup {G : Gh} {w : World} (vs : List Val) (x : Array Value) (h : x.size = vs.length) (hv : ∀ i,i < vs.length → VR T G w (vs.getD i .dead) (x.getD i undef)) : VR T G w (.tup vs) (.tuple x)
structure Mono4 (T : Nat → Nat → Prop) (G : Gh) (w : World) (T' : Nat → Nat → Prop) (G' : Gh) (w' : World) : Prop where
 t : ∀ b o,T b o → T' b o
 g : G.le G'
 cell : ∀ b o c,T b o → w.cell? ⟨b,o,.none⟩ = some c → w'.cell? ⟨b,o,.none⟩ = some c
 map : ∀ r es clock,T r 0 → w.heap[r]? = some (.map es clock) → w'.heap[r]? = some (.map es clock)
theorem Mono4.none {T : Nat → Nat → Prop} {G : Gh} {w : World} {T' : Nat → Nat → Prop} {G' : Gh} {w' : World} (m : Mono4 T G w T' G' w') : Mono4 T Gh.none w T' Gh.none w' :=
 ⟨m.t,Gh.le_refl _,m.cell,m.map⟩
theorem Mono4.at {T : Nat → Nat → Prop} {G : Gh} {w : World} {T' : Nat → Nat → Prop} {G' : Gh} {w' : World} (m : Mono4 T G w T' G' w') (k : Key) : Mono4 T (G.at k) w T' (G'.at k) w' := by
 unfold Gh.at Gh.atq; split
 ·exact m
 ·exact m.none
structure Mono (T : Nat → Nat → Prop) (G : Gh) (w : World) (T' : Nat → Nat → Prop) (G' : Gh) (w' : World) : Prop where
 t : ∀ b o,T b o → T' b o
 g : G.le G'
 cell : ∀ b o c,T b o → w.cell? ⟨b,o,.none⟩ = some c → w'.cell? ⟨b,o,.none⟩ = some c
 map : ∀ r es clock,T r 0 → w.heap[r]? = some (.map es clock) → w'.heap[r]? = some (.map es clock)
 defer : ∀ (b : Nat) ds,w.heap[b]? = some (Obj.deferred ds) → w'.heap[b]? = some (Obj.deferred ds)
 loop : ∀ (l : Nat) r,w.heap[l]? = some (Obj.loop r) → ∃ r',w'.heap[l]? = some (Obj.loop r')
theorem Mono.four {T : Nat → Nat → Prop} {G : Gh} {w : World} {T' : Nat → Nat → Prop} {G' : Gh} {w' : World} (m : Mono T G w T' G' w') : Mono4 T G w T' G' w' := ⟨m.t,m.g,m.cell,m.map⟩
theorem Mono.refl (T : Nat → Nat → Prop) (G : Gh) (w : World) : Mono T G w T G w := ⟨fun _ _ h => h,G.le_refl,fun _ _ _ _ h => h,fun _ _ _ _ h => h,fun _ _ h => h,fun _ r h => ⟨r,h⟩⟩
theorem Mono.none {T : Nat → Nat → Prop} {G : Gh} {w : World} {T' : Nat → Nat → Prop} {G' : Gh} {w' : World} (m : Mono T G w T' G' w') : Mono T Gh.none w T' Gh.none w' :=
 ⟨m.t,Gh.le_refl _,m.cell,m.map,m.defer,m.loop⟩
theorem Mono.atq {T : Nat → Nat → Prop} {G : Gh} {w : World} {T' : Nat → Nat → Prop} {G' : Gh} {w' : World} (m : Mono T G w T' G' w') (q : Nat) : Mono T (G.atq q) w T' (G'.atq q) w' := by
 unfold Gh.atq; split
 ·exact m
 ·exact m.none
theorem Mono.trans {T1 T2 T3 : Nat → Nat → Prop} {G1 G2 G3 : Gh} {w1 w2 w3 : World} (m : Mono T1 G1 w1 T2 G2 w2) (k : Mono T2 G2 w2 T3 G3 w3) : Mono T1 G1 w1 T3 G3 w3 :=
 ⟨fun b o h => k.t _ _ (m.t _ _ h),Gh.le_trans m.g k.g,fun b o c ht h => k.cell _ _ _ (m.t _ _ ht) (m.cell _ _ _ ht h),fun r es cl ht h => k.map _ _ _ (m.t _ _ ht) (m.map _ _ _ ht h),fun b ds h => k.defer b ds (m.defer b ds h),fun l r h => let ⟨r1,h1⟩ := m.loop l r h; k.loop l r1 h1⟩
theorem VR.mono' {T : Nat → Nat → Prop} {G : Gh} {w : World} {v : Val} {x : Value} (h : VR T G w v x) :
  ∀ {T' : Nat → Nat → Prop} {G' : Gh} {w' : World},Mono4 T G w T' G' w' → VR T' G' w' v x := by
 induction h with
 | dead x h => intro T' G' w' m; exact .dead x h
 | bool b => intro T' G' w' m; exact .bool b
 | int k n => intro T' G' w' m; exact .int k n
 | str s => intro T' G' w' m; exact .str s
 | nilp => intro T' G' w' m; exact .nilp
 | fp cs off b base c h ht ho hv ih => intro T' G' w' m; exact .fp cs off b base c (fun j hj => m.cell _ _ _ (ht j hj) (h j hj)) (fun j hj => m.t _ _ (ht j hj)) ho (fun j hj => ih j hj m.none)
 | ptr k off b h => intro T' G' w' m; exact .ptr k off b (m.g.box _ _ h)
 | ep k i off b base sz C h hi => intro T' G' w' m; exact .ep k i off b base sz C (m.g.blk _ _ h) hi
 | fz0 a cap => intro T' G' w' m; exact .fz0 a cap
 | fz xs b off sz cap c hc hs h ht ho hv ih => intro T' G' w' m; exact .fz xs b off sz cap c hc hs (fun i j hi hj => m.cell _ _ _ (ht i j hi hj) (h i j hi hj)) (fun i j hi hj => m.t _ _ (ht i j hi hj)) ho (fun i j hi hj => ih i j hi hj m.none)
 | cl0 a => intro T' G' w' m; exact .cl0 a
 | cl xs b off sz c hs h ht ho hv ih => intro T' G' w' m; exact .cl xs b off sz c hs (fun i j hi hj => m.cell _ _ _ (ht i j hi hj) (h i j hi hj)) (fun i j hi hj => m.t _ _ (ht i j hi hj)) ho (fun i j hi hj => ih i j hi hj m.none)
 | bl0 k a h => intro T' G' w' m; exact .bl0 k a (m.g.blk _ _ h)
 | bl k off len b base sz C h hl => intro T' G' w' m; exact .bl k off len b base sz C (m.g.blk _ _ h) hl
 | ble k a b base sz C h => intro T' G' w' m; exact .ble k a b base sz C (m.g.blk _ _ h)
 | sl k off len b cap h hc => intro T' G' w' m; exact .sl k off len b cap (m.g.box _ _ h) hc
 | nilm => intro T' G' w' m; exact .nilm
 | fm ks vs r es clock h ht hk hl hkv hvv ih1 ih2 => intro T' G' w' m; exact .fm ks vs r es clock (m.map _ _ _ ht h) (m.t _ _ ht) hk hl (fun i hi => ih1 i hi m.none) (fun i hi => ih2 i hi m.none)
 | mp k r h => intro T' G' w' m; exact .mp k r (m.g.mp _ _ h)
 | nilf => intro T' G' w' m; exact .nilf
 | fn f a b x y ha hb hx hy ih1 ih2 => intro T' G' w' m; exact .fn f a b x y ha hb (fun i hi => ih1 i hi m) (fun i hi => ih2 i hi m)
 | yld k l h => intro T' G' w' m; exact .yld k l (m.g.mp _ _ h)
 | nili => intro T' G' w' m; exact .nili
 | it k r h => intro T' G' w' m; exact .it k r (m.g.mp _ _ h)
 | es a cap => intro T' G' w' m; exact .es a cap
 | ifc t v x h ih => intro T' G' w' m; exact .ifc t v x (ih m)
 | agg cs x h ho hv ih => intro T' G' w' m; exact .agg cs x h ho (fun i hi => ih i hi m)
 | tup vs x h hv ih => intro T' G' w' m; exact .tup vs x h (fun i hi => ih i hi m)
theorem VR.mono {T : Nat → Nat → Prop} {G : Gh} {w : World} {T' : Nat → Nat → Prop} {G' : Gh} {w' : World} (m : Mono T G w T' G' w') {v : Val} {x : Value}
  (h : VR T G w v x) : VR T' G' w' v x := h.mono' m.four
theorem Gh.at_le (G : Gh) (k : Key) : (G.at k).le G := by
 unfold Gh.at Gh.atq; split
 ·exact G.le_refl
 ·exact Gh.none_le G
theorem VR.out {T : Nat → Nat → Prop} {G : Gh} {w : World} {k : Key} {v : Val} {x : Value} (h : VR T (G.at k) w v x) : VR T G w v x :=
 h.mono' ⟨fun _ _ h => h,Gh.at_le G k,fun _ _ _ _ h => h,fun _ _ _ _ h => h⟩
theorem VR.into {T : Nat → Nat → Prop} {w : World} {v : Val} {x : Value} (h : VR T Gh.none w v x) (G' : Gh) : VR T G' w v x :=
 h.mono' ⟨fun _ _ h => h,Gh.none_le G',fun _ _ _ _ h => h,fun _ _ _ _ h => h⟩
theorem VR.shift {T : Nat → Nat → Prop} {G : Gh} {w : World} {k : Key} {q : Nat} (hq : k.deep = true → q = 3) {v : Val} {x : Value} (h : VR T (G.at k) w v x) : VR T (G.atq q) w v x := by
 cases hk : k.deep with
 | true =>
  have : G.at k = G.atq q := by
   simp only [Key.deep,decide_eq_true_eq] at hk
   simp [Gh.at,Gh.atq,hk,hq (by simp [Key.deep,hk])]
  rw [← this]; exact h
 | false => rw [Gh.at_none hk] at h; exact h.into _
theorem VR.cells {T : Nat → Nat → Prop} {G : Gh} {w : World} {v : Val} {x : Value} (h : VR T G w v x) (hx : ∀ vs,v ≠ .tup vs) :
  x.cells.size = v.cells.length ∧ (∀ i,i < v.cells.length → oneV (x.cells.getD i undef) = true) ∧ ∀ i,i < v.cells.length → VR T G w (v.cells.getD i .dead) (x.cells.getD i undef) := by
 have one : ∀ {v : Val} {x : Value},VR T G w v x → v.cells = [v] → x.cells = #[x] → oneV x = true →
   x.cells.size = v.cells.length ∧ (∀ i,i < v.cells.length → oneV (x.cells.getD i undef) = true) ∧ ∀ i,i < v.cells.length → VR T G w (v.cells.getD i .dead) (x.cells.getD i undef) := by
  intro v x h hv hx ho
  rw [hv,hx]
  refine ⟨rfl,fun i hi => ?_,fun i hi => ?_⟩ <;> (simp at hi; subst hi)
  ·exact ho
  ·exact h
 cases h with
 | agg cs y h ho hv => exact ⟨h,ho,hv⟩
 | tup vs y h hv => exact absurd rfl (hx vs)
 | dead x h => exact one (.dead x h) rfl (by cases x <;> first | rfl | simp [oneV] at h) h
 | bool b => exact one (.bool b) rfl rfl rfl
 | int k n => exact one (.int k n) rfl rfl rfl
 | str s => exact one (.str s) rfl rfl rfl
 | nilp => exact one .nilp rfl rfl rfl
 | fp cs off b base c h ht ho hv => exact one (.fp cs off b base c h ht ho hv) rfl rfl rfl
 | ptr k off b h => exact one (.ptr k off b h) rfl rfl rfl
 | ep k i off b base sz C h hi => exact one (.ep k i off b base sz C h hi) rfl rfl rfl
 | fz0 a cap => exact one (.fz0 a cap) rfl rfl rfl
 | fz xs b off sz cap c hc hs h ht ho hv => exact one (.fz xs b off sz cap c hc hs h ht ho hv) rfl rfl rfl
 | cl0 a => exact one (.cl0 a) rfl rfl rfl
 | cl xs b off sz c hs h ht ho hv => exact one (.cl xs b off sz c hs h ht ho hv) rfl rfl rfl
 | bl0 k a h => exact one (.bl0 k a h) rfl rfl rfl
 | bl k off len b base sz C h hl => exact one (.bl k off len b base sz C h hl) rfl rfl rfl
 | ble k a b base sz C h => exact one (.ble k a b base sz C h) rfl rfl rfl
 | sl k off len b cap h hc => exact one (.sl k off len b cap h hc) rfl rfl rfl
 | nilm => exact one .nilm rfl rfl rfl
 | fm ks vs r es clock h ht hk hl hkv hvv => exact one (.fm ks vs r es clock h ht hk hl hkv hvv) rfl rfl rfl
 | mp k r h => exact one (.mp k r h) rfl rfl rfl
 | nilf => exact one .nilf rfl rfl rfl
 | fn f a b x y ha hb hx' hy => exact one (.fn f a b x y ha hb hx' hy) rfl rfl rfl
 | yld k l h => exact one (.yld k l h) rfl rfl rfl
 | nili => exact one .nili rfl rfl rfl
 | it k r h => exact one (.it k r h) rfl rfl rfl
 | es a cap => exact one (.es a cap) rfl rfl rfl
 | ifc t v x h => exact one (.ifc t v x h) rfl rfl rfl
def Stab (B : Nat) (S : Nat → Nat → Prop) (G : Gh) (n b o : Nat) : Prop :=
 b < n ∧ ((b < B ∧ S b o) ∨ (B ≤ b ∧ match G.own b with | .none => True | some (_,t) => o < t))
def Ex.code : Ex → Code
 | .normal => .skip
 | .exit id => .exit id
 | .ret => .ret
 | .panic _ => .skip
def LStR (s : LSt) (rec : Loop) : Prop :=
 match s with
 | .ready => rec.state = .ready ∧ rec.pending = none
 | .busy => rec.state = .busy ∧ rec.pending = none
 | .done e => rec.state = .done ∧ rec.pending = some e.code ∧ e ≠ .normal ∧ e.calm = true
 | .over => rec.state = .exhausted
variable [Inhabited Glob]
inductive ER (P : Program) (B : Nat) (T : Nat → Nat → Prop) (G : Gh) (w : World) (k : Key) : Ent → Prop
 | box (cs : List Val) (frz : Bool) (b : Nat) (c : Array Value) (t : TypeId) (hb : G.box k = some b) (hB : B ≤ b) (h : w.heap[b]? = some (.cells c t (0,0)))
   (hs : c.size = cs.length) (ho : ∀ j,j < cs.length → oneV (c.getD j undef) = true) (hv : ∀ j,j < cs.length → VR T G w (cs.getD j .dead) (c.getD j undef))
   (hown : G.own b = if frz then .none else some (k,0)) : ER P B T G w k (.box cs frz)
 | nul (sz : Nat) (frz : Bool) (h : G.blk k = some .none) : ER P B T G w k (.blk sz [] frz)
 | blk (xs : List Val) (frz : Bool) (b base sz C thr : Nat) (c : Array Value) (t : TypeId) (hb : G.blk k = some (some (b,base,sz,C))) (hB : B ≤ b)
   (h : w.heap[b]? = some (.cells c t (0,0))) (hC : xs.length ≤ C) (hC' : base + C * sz ≤ c.size)
   (hs : ∀ i,i < xs.length → (xs.getD i .dead).cells.length = sz)
   (ho : ∀ i j,i < xs.length → j < sz → oneV (c.getD (base + i * sz + j) undef) = true)
   (hv : ∀ i j,i < xs.length → j < sz → VR T (G.at k) w ((xs.getD i .dead).cells.getD j .dead) (c.getD (base + i * sz + j) undef))
   (hown : G.own b = some (k,thr)) (hthr : thr = if frz then base + xs.length * sz else base) : ER P B T G w k (.blk sz xs frz)
 | full (xs : List Val) (b base sz : Nat) (c : Nat → Nat → Value) (hb : G.blk k = some (some (b,base,sz,xs.length)))
   (hs : ∀ i,i < xs.length → (xs.getD i .dead).cells.length = sz)
   (h : ∀ i j,i < xs.length → j < sz → w.cell? ⟨b,base + i * sz + j,.none⟩ = some (c i j))
   (ht : ∀ i j,i < xs.length → j < sz → T b (base + i * sz + j)) (ho : ∀ i j,i < xs.length → j < sz → oneV (c i j) = true)
   (hv : ∀ i j,i < xs.length → j < sz → VR T Gh.none w ((xs.getD i .dead).cells.getD j .dead) (c i j)) : ER P B T G w k (.blk sz xs true)
 | map (ks vs : List Val) (frz : Bool) (r : Nat) (es : Array MapEntry) (clock : Nat) (hr : G.mp k = some r) (hB : B ≤ r) (h : w.heap[r]? = some (.map es clock))
   (hk : es.size = ks.length) (hl : vs.length = ks.length)
   (hkv : ∀ i,i < ks.length → VR T Gh.none w (ks.getD i .dead) (es.getD i default).key) (hvv : ∀ i,i < ks.length → VR T Gh.none w (vs.getD i .dead) (es.getD i default).val)
   (hown : G.own r = if frz then .none else some (k,0)) : ER P B T G w k (.map ks vs frz)
 | loop (fr : Nat → Val) (ps : List Nat) (la lb : LCode) (st : LSt) (l : Nat) (rec : Loop) (I : Operand → Bool) (N : Nat) (hl : G.mp k = some l) (hB : B ≤ l) (h : w.heap[l]? = some (.loop rec))
   (hps : rec.params.toList = ps) (ha : lower P I rec.assign = la) (hb : lower P I rec.body = lb) (hN : N ≤ rec.tmps.size) (hpN : ps.all (· < N) = true) (haN : la.dstOk N = true) (hbN : lb.dstOk N = true)
   (hf : ∀ i,VR T G w (fr i) (rec.tmps.getD i undef)) (hst : LStR st rec) (hown : G.own l = some (k,0)) : ER P B T G w k (.loop fr ps la lb st)
 | iter (s : ByteArray) (pos r : Nat) (hr : G.mp k = some r) (hB : B ≤ r) (h : w.heap[r]? = some (.stringIter s pos)) (hown : G.own r = some (k,0)) : ER P B T G w k (.iter s pos)
structure Env where
 prs : Val → Value → Prop
 ro : Option Nat
 rnd : Nat → Prop
 defs : Nat → Prop
 tail : List Deferred := []
 nm : Bool := false
 virt : Key → Prop := fun _ => False
def Env.isRnd (Ξ : Env) (l : Nat) : Prop := Ξ.ro = some l ∨ Ξ.rnd l
def mark (D : Nat) : Deferred := { target := .collected D,args := #[] }
def Marks (B : Nat) (Ξ : Env) (ds : List Deferred) (w : World) : Prop :=
 ∃ Ds : List Nat,ds = Ds.map mark ++ Ξ.tail ∧ (Ds.Nodup ∧ (Ξ.nm = true → Ds = [])) ∧ ∀ D ∈ Ds,B ≤ D ∧ ¬ Ξ.defs D ∧ w.heap[D]? = some (.deferred (some []))
def GlobV (v : Val) (x : Value) : Prop := ∃ g cs,(default : Glob).tbl g = some cs ∧ v = .fp cs 0 ∧ x = .pointer (some ⟨g,0,.none⟩)
def GlobOk (T : Nat → Nat → Prop) (w : World) : Prop := ∀ v x,GlobV v x → VR T Gh.none w v x
structure Rel (P : Program) (Ξ : Env) (B : Nat) (S : Nat → Nat → Prop) (G : Gh) (st : St) (N : Nat) (a : Act) (w : World) : Prop where
 size : B ≤ w.heap.size
 tmps : N ≤ a.tmps.size
 frame : ∀ i,VR (Stab B S G w.heap.size) G w (st.fr i) (a.tmps.getD i undef)
 marks : Marks B Ξ a.defers w
 ents : ∀ k e,st.en k = some e → G.knows k → ER P B (Stab B S G w.heap.size) G w k e
 freshEn : ∀ k,st.cnt k.n k.t ≤ k.g → st.en k = none
 freshG : ∀ k,st.cnt k.n k.t ≤ k.g → G.box k = .none ∧ G.blk k = .none ∧ G.mp k = .none
 own : ∀ b k t,G.own b = some (k,t) → B ≤ b ∧ b < w.heap.size ∧ k.g < st.cnt k.n k.t
 extra : ∀ v x,Ξ.prs v x ∨ GlobV v x → VR (Stab B S G w.heap.size) G w v x
 round : ∀ l,Ξ.isRnd l → ∃ r,w.heap[l]? = some (.loop r)
 defs : ∀ D,Ξ.defs D → w.heap[D]? = some (.deferred (some []))
 virt : ∀ k,Ξ.virt k → ¬ G.knows k ∧ k.g < st.cnt k.n k.t
theorem fp_none {T : Nat → Nat → Prop} {G : Gh} {w : World} {cs : List Val} {n : Nat} {x : Value} (h : VR T G w (.fp cs n) x) : VR T Gh.none w (.fp cs n) x := by
 cases h with
 | fp cs _ b base c h ht ho hv => exact .fp cs _ b base c h ht ho hv
theorem Rel.glob {P : Program} {Ξ : Env} {B : Nat} {S : Nat → Nat → Prop} {G : Gh} {st : St} {N : Nat} {a : Act} {w : World} (h : Rel P Ξ B S G st N a w) : GlobOk (Stab B S G w.heap.size) w := by
 rintro v x ⟨g,cs,h1,rfl,rfl⟩
 exact fp_none (h.extra _ _ (.inr ⟨g,cs,h1,rfl,rfl⟩))
theorem GlobOk.mono {T T' : Nat → Nat → Prop} {w : World} (h : GlobOk T w) (ht : ∀ b o,T b o → T' b o) : GlobOk T' w :=
 fun v x hx => (h v x hx).mono' ⟨ht,Gh.le_refl _,fun _ _ _ _ h => h,fun _ _ _ _ h => h⟩
theorem Marks.mono {B : Nat} {Ξ : Env} {ds : List Deferred} {T : Nat → Nat → Prop} {G : Gh} {w : World} {T' : Nat → Nat → Prop} {G' : Gh} {w' : World} (h : Marks B Ξ ds w) (m : Mono T G w T' G' w') : Marks B Ξ ds w' :=
 let ⟨Ds,h1,h2,h3⟩ := h
 ⟨Ds,h1,h2,fun D hD => let ⟨e1,e2,e3⟩ := h3 D hD; ⟨e1,e2,m.defer _ _ e3⟩⟩
theorem VR.mono4 {T : Nat → Nat → Prop} {G : Gh} {w : World} {T' : Nat → Nat → Prop} {G' : Gh} {w' : World} (m : Mono4 T G w T' G' w') {v : Val} {x : Value} (h : VR T G w v x) : VR T' G' w' v x := h.mono' m
theorem ER.mono {P : Program} {B : Nat} {T : Nat → Nat → Prop} {G : Gh} {w : World} {T' : Nat → Nat → Prop} {G' : Gh} {w' : World} (m : Mono4 T G w T' G' w') {k : Key} {e : Ent} (h : ER P B T G w k e)
  (hm : ∀ b,B ≤ b → (∃ t,G.own b = some (k,t)) ∨ (G.own b = .none ∧ ∃ o,w.heap[b]? = some o) → w'.heap[b]? = w.heap[b]? ∧ G'.own b = G.own b) : ER P B T' G' w' k e := by
 cases h with
 | box cs frz b c t hb hB h hs ho hv hown =>
  have h2 := hm b hB (by cases frz <;> simp at hown; exact .inl ⟨0,hown⟩; exact .inr ⟨hown,_,h⟩)
  exact .box cs frz b c t (m.g.box _ _ hb) hB (by rw [h2.1]; exact h) hs ho (fun j hj => (hv j hj).mono4 m) (by rw [h2.2]; exact hown)
 | nul sz frz h => exact .nul sz frz (m.g.blk _ _ h)
 | blk xs frz b base sz C thr c t hb hB h hC hC' hs ho hv hown hthr =>
  have h2 := hm b hB (.inl ⟨thr,hown⟩)
  exact .blk xs frz b base sz C thr c t (m.g.blk _ _ hb) hB (by rw [h2.1]; exact h) hC hC' hs ho (fun i j hi hj => (hv i j hi hj).mono4 (m.at k)) (by rw [h2.2]; exact hown) hthr
 | full xs b base sz c hb hs h ht ho hv =>
  exact .full xs b base sz c (m.g.blk _ _ hb) hs (fun i j hi hj => m.cell _ _ _ (ht i j hi hj) (h i j hi hj)) (fun i j hi hj => m.t _ _ (ht i j hi hj)) ho (fun i j hi hj => (hv i j hi hj).mono4 m.none)
 | map ks vs frz r es clock hr hB h hk hl hkv hvv hown =>
  have h2 := hm r hB (by cases frz <;> simp at hown; exact .inl ⟨0,hown⟩; exact .inr ⟨hown,_,h⟩)
  exact .map ks vs frz r es clock (m.g.mp _ _ hr) hB (by rw [h2.1]; exact h) hk hl (fun i hi => (hkv i hi).mono4 m.none) (fun i hi => (hvv i hi).mono4 m.none) (by rw [h2.2]; exact hown)
 | loop fr ps la lb st l rec I N hl hB h hps ha hb hN hpN haN hbN hf hst hown =>
  have h2 := hm l hB (.inl ⟨0,hown⟩)
  exact .loop fr ps la lb st l rec I N (m.g.mp _ _ hl) hB (by rw [h2.1]; exact h) hps ha hb hN hpN haN hbN (fun i => (hf i).mono4 m) hst (by rw [h2.2]; exact hown)
 | iter s pos r hr hB h hown =>
  have h2 := hm r hB (.inl ⟨0,hown⟩)
  exact .iter s pos r (m.g.mp _ _ hr) hB (by rw [h2.1]; exact h) (by rw [h2.2]; exact hown)
theorem ER.knows {P : Program} {B : Nat} {T : Nat → Nat → Prop} {G : Gh} {w : World} {k : Key} {e : Ent} (h : ER P B T G w k e) : G.knows k := by
 cases h with
 | box _ _ _ _ _ hb => exact Gh.knows_box hb
 | nul _ _ h => exact Gh.knows_blk h
 | blk _ _ _ _ _ _ _ _ _ hb => exact Gh.knows_blk hb
 | full _ _ _ _ _ hb => exact Gh.knows_blk hb
 | map _ _ _ _ _ _ hr => exact Gh.knows_mp hr
 | loop _ _ _ _ _ _ _ _ _ hl => exact Gh.knows_mp hl
 | iter _ _ _ hr => exact Gh.knows_mp hr
end Go.Abs
namespace Go.Abs
open Go.RowKit (Below)
variable [Inhabited Glob]
theorem VR.one {T : Nat → Nat → Prop} {G : Gh} {w : World} {v : Val} {x : Value} (h : VR T G w v x) (h1 : ∀ cs,v ≠ .agg cs) (h2 : ∀ cs,v ≠ .tup cs) : oneV x = true := by
 cases h <;> first | rfl | assumption | exact absurd rfl (h1 _) | exact absurd rfl (h2 _)
theorem getD_put {a : Act} {d i : Nat} {x : Value} (hd : d < a.tmps.size) :
  ((a.put (some d) x).tmps.getD i undef) = if i = d then x else a.tmps.getD i undef := by
 simp only [Act.put,Array.getD_eq_getD_getElem?,Array.getElem?_setIfInBounds]
 by_cases h : d = i
 ·subst h; simp [hd]
 ·have h' : ¬ i = d := fun e => h e.symm
  simp [h,h']
theorem Rel.put {P : Program} {Ξ : Env} {B : Nat} {S : Nat → Nat → Prop} {G : Gh} {st : St} {N : Nat} {a : Act} {w : World} (h : Rel P Ξ B S G st N a w) {d : Nat} (hd : d < N) {v : Val} {x : Value}
  (hv : VR (Stab B S G w.heap.size) G w v x) : Rel P Ξ B S G { st with fr := setFr st.fr d v } N (a.put (some d) x) w := by
 refine ⟨h.size,by simpa [Act.put] using h.tmps,fun i => ?_,h.marks,h.ents,h.freshEn,h.freshG,h.own,h.extra,h.round,h.defs,h.virt⟩
 rw [getD_put (Nat.lt_of_lt_of_le hd h.tmps)]
 by_cases hi : i = d
 ·simp [hi,setFr]; exact hv
 ·simp only [hi,setFr,if_false]; exact h.frame i
theorem cell_lt {w : World} {b o : Nat} {c : Value} (h : w.cell? ⟨b,o,.none⟩ = some c) : b < w.heap.size := by
 simp only [World.cell?] at h
 split at h
 ·rename_i hb; exact (Array.getElem?_eq_some_iff.1 hb).1
 ·cases h
theorem heap_lt {w : World} {b : Nat} {o : Obj} (h : w.heap[b]? = some o) : b < w.heap.size := (Array.getElem?_eq_some_iff.1 h).1
theorem cell_of_heap {w w' : World} {b : Nat} (h : w'.heap[b]? = w.heap[b]?) (o : Nat) : w'.cell? ⟨b,o,.none⟩ = w.cell? ⟨b,o,.none⟩ := by
 simp only [World.cell?,h]
theorem cell_get {w : World} {b : Nat} {c : Array Value} {t : TypeId} {f : Nat × Nat} (h : w.heap[b]? = some (.cells c t f)) (o : Nat) : w.cell? ⟨b,o,.none⟩ = c[o]? := by
 simp only [World.cell?,h]; simp
theorem mono_below {B : Nat} {S : Nat → Nat → Prop} {G : Gh} {w w' : World} (hb : Below w.heap.size w w') :
  Mono (Stab B S G w.heap.size) G w (Stab B S G w'.heap.size) G w' :=
 ⟨fun b o h => ⟨Nat.lt_of_lt_of_le h.1 hb.size,h.2⟩,G.le_refl,fun b o c _ h => by rw [cell_of_heap (hb.block b (cell_lt h))]; exact h,
  fun r es cl _ h => by rw [hb.block r (heap_lt h)]; exact h,fun b ds h => by rw [hb.block b (heap_lt h)]; exact h,fun l r h => ⟨r,by rw [hb.block l (heap_lt h)]; exact h⟩⟩
theorem own_lt {w : World} {G : Gh} {k : Key} {b : Nat} (hown : ∀ b k t,G.own b = some (k,t) → b < w.heap.size)
  (h : (∃ t,G.own b = some (k,t)) ∨ (G.own b = .none ∧ ∃ o,w.heap[b]? = some o)) : b < w.heap.size := by
 rcases h with ⟨t,h⟩ | ⟨_,o,h⟩
 ·exact hown _ _ _ h
 ·exact heap_lt h
theorem Rel.below {P : Program} {Ξ : Env} {B : Nat} {S : Nat → Nat → Prop} {G : Gh} {st : St} {N : Nat} {a : Act} {w w' : World} (h : Rel P Ξ B S G st N a w) (hb : Below w.heap.size w w') : Rel P Ξ B S G st N a w' := by
 have m := mono_below (B := B) (S := S) (G := G) hb
 refine ⟨Nat.le_trans h.size hb.size,h.tmps,fun i => (h.frame i).mono m,h.marks.mono m,fun k e he hkn => (h.ents k e he hkn).mono m.four fun b _ hb' => ?_,h.freshEn,h.freshG,
  fun b k t ho => let ⟨x,y,z⟩ := h.own b k t ho; ⟨x,Nat.lt_of_lt_of_le y hb.size,z⟩,fun v x h' => (h.extra v x h').mono m,fun l hl => let ⟨r,hr⟩ := h.round l hl; m.loop l r hr,fun D hD => m.defer _ _ (h.defs D hD),h.virt⟩
 exact ⟨hb.block b (own_lt (fun b k t ho => (h.own b k t ho).2.1) hb'),rfl⟩
def Gh.addBox (G : Gh) (k : Key) (b : Nat) : Gh := { G with box := fun k' => if k' = k then some b else G.box k',own := fun b' => if b' = b then some (k,0) else G.own b' }
def Gh.addBlk (G : Gh) (k : Key) (b base sz C thr : Nat) : Gh :=
 { G with blk := fun k' => if k' = k then some (some (b,base,sz,C)) else G.blk k',own := fun b' => if b' = b then some (k,thr) else G.own b' }
def Gh.addMp (G : Gh) (k : Key) (b : Nat) : Gh := { G with mp := fun k' => if k' = k then some b else G.mp k',own := fun b' => if b' = b then some (k,0) else G.own b' }
def Gh.addNul (G : Gh) (k : Key) : Gh := { G with blk := fun k' => if k' = k then some .none else G.blk k' }
def Gh.addFull (G : Gh) (k : Key) (b base sz C : Nat) : Gh := { G with blk := fun k' => if k' = k then some (some (b,base,sz,C)) else G.blk k' }
theorem Gh.le_addBox {G : Gh} {k : Key} {b : Nat} (h : G.box k = .none) : G.le (G.addBox k b) :=
 ⟨fun k' b' e => by
  simp only [Gh.addBox]; split
  ·rename_i hk; subst hk; rw [h] at e; cases e
  ·exact e,fun _ _ e => e,fun _ _ e => e⟩
theorem Gh.le_addBlk {G : Gh} {k : Key} {b base sz C thr : Nat} (h : G.blk k = .none) : G.le (G.addBlk k b base sz C thr) :=
 ⟨fun _ _ e => e,fun k' b' e => by
  simp only [Gh.addBlk]; split
  ·rename_i hk; subst hk; rw [h] at e; cases e
  ·exact e,fun _ _ e => e⟩
theorem Gh.le_addFull {G : Gh} {k : Key} {b base sz C : Nat} (h : G.blk k = .none) : G.le (G.addFull k b base sz C) :=
 ⟨fun _ _ e => e,fun k' b' e => by
  simp only [Gh.addFull]; split
  ·rename_i hk; subst hk; rw [h] at e; cases e
  ·exact e,fun _ _ e => e⟩
theorem Gh.le_addMp {G : Gh} {k : Key} {b : Nat} (h : G.mp k = .none) : G.le (G.addMp k b) :=
 ⟨fun _ _ e => e,fun _ _ e => e,fun k' b' e => by
  simp only [Gh.addMp]; split
  ·rename_i hk; subst hk; rw [h] at e; cases e
  ·exact e⟩
theorem Gh.le_addNul {G : Gh} {k : Key} (h : G.blk k = .none) : G.le (G.addNul k) :=
 ⟨fun _ _ e => e,fun k' b' e => by
  simp only [Gh.addNul]; split
  ·rename_i hk; subst hk; rw [h] at e; cases e
  ·exact e,fun _ _ e => e⟩
theorem Rel.change4 {P : Program} {Ξ : Env} {B : Nat} {S : Nat → Nat → Prop} {G : Gh} {st : St} {N : Nat} {a : Act} {w : World} (h : Rel P Ξ B S G st N a w) {Ξ' : Env} {G' : Gh} {w' : World} {en' : En} {cnt' : Nat → Nat → Nat} {a' : Act}
  (ht : a'.tmps = a.tmps) (m : Mono4 (Stab B S G w.heap.size) G w (Stab B S G' w'.heap.size) G' w') (hs : w.heap.size ≤ w'.heap.size)
  (he : ∀ k e,en' k = some e → G'.knows k → ER P B (Stab B S G' w'.heap.size) G' w' k e)
  (hf : ∀ k,cnt' k.n k.t ≤ k.g → en' k = none ∧ G'.box k = .none ∧ G'.blk k = .none ∧ G'.mp k = .none)
  (ho : ∀ b k t,G'.own b = some (k,t) → B ≤ b ∧ b < w'.heap.size ∧ k.g < cnt' k.n k.t)
  (hp : ∀ v x,Ξ'.prs v x → Ξ.prs v x) (hmk : Marks B Ξ' a'.defers w') (hrd : ∀ l,Ξ'.isRnd l → ∃ r,w'.heap[l]? = some (.loop r)) (hdf : ∀ D,Ξ'.defs D → w'.heap[D]? = some (.deferred (some []))) (hvt : ∀ k,Ξ'.virt k → ¬ G'.knows k ∧ k.g < cnt' k.n k.t) :
  Rel P Ξ' B S G' { fr := st.fr,en := en',cnt := cnt' } N a' w' :=
 ⟨Nat.le_trans h.size hs,by rw [ht]; exact h.tmps,fun i => by rw [ht]; exact (h.frame i).mono4 m,hmk,he,fun k hk => (hf k hk).1,fun k hk => (hf k hk).2,ho,fun v x h' => (h.extra v x (h'.imp_left (hp v x))).mono4 m,hrd,hdf,hvt⟩
theorem Rel.change {P : Program} {Ξ : Env} {B : Nat} {S : Nat → Nat → Prop} {G : Gh} {st : St} {N : Nat} {a : Act} {w : World} (h : Rel P Ξ B S G st N a w) {G' : Gh} {w' : World} {en' : En} {cnt' : Nat → Nat → Nat}
  (m : Mono (Stab B S G w.heap.size) G w (Stab B S G' w'.heap.size) G' w') (hs : w.heap.size ≤ w'.heap.size)
  (he : ∀ k e,en' k = some e → G'.knows k → ER P B (Stab B S G' w'.heap.size) G' w' k e)
  (hf : ∀ k,cnt' k.n k.t ≤ k.g → en' k = none ∧ G'.box k = .none ∧ G'.blk k = .none ∧ G'.mp k = .none)
  (ho : ∀ b k t,G'.own b = some (k,t) → B ≤ b ∧ b < w'.heap.size ∧ k.g < cnt' k.n k.t) (hvt : ∀ k,Ξ.virt k → ¬ G'.knows k ∧ k.g < cnt' k.n k.t) : Rel P Ξ B S G' { fr := st.fr,en := en',cnt := cnt' } N a w' :=
 ⟨Nat.le_trans h.size hs,h.tmps,fun i => (h.frame i).mono m,h.marks.mono m,he,fun k hk => (hf k hk).1,fun k hk => (hf k hk).2,ho,fun v x h' => (h.extra v x h').mono m,fun l hl => let ⟨r,hr⟩ := h.round l hl; m.loop l r hr,fun D hD => m.defer _ _ (h.defs D hD),hvt⟩
theorem size_alloc (w : World) (o : Obj) : (w.alloc o).heap.size = w.heap.size + 1 := World.size_alloc w o
theorem heap_alloc_old (w : World) (o : Obj) {b : Nat} (h : b < w.heap.size) : (w.alloc o).heap[b]? = w.heap[b]? := Below.heap_alloc w o b h
theorem heap_alloc_new (w : World) (o : Obj) : (w.alloc o).heap[w.heap.size]? = some o := by
 show (w.heap.push o)[w.heap.size]? = _
 simp
theorem mono_alloc {B : Nat} {S : Nat → Nat → Prop} {G G' : Gh} {w : World} {o : Obj} (hg : G.le G') (ho : ∀ b,b ≠ w.heap.size → G'.own b = G.own b) :
  Mono (Stab B S G w.heap.size) G w (Stab B S G' (w.alloc o).heap.size) G' (w.alloc o) := by
 refine ⟨fun b o' h => ?_,hg,fun b o' c _ h => ?_,fun r es cl _ h => ?_,fun b ds h => by rw [heap_alloc_old w o (heap_lt h)]; exact h,fun l r h => ⟨r,by rw [heap_alloc_old w o (heap_lt h)]; exact h⟩⟩
 ·refine ⟨by rw [size_alloc]; exact Nat.lt_succ_of_lt h.1,?_⟩
  rw [ho b (Nat.ne_of_lt h.1)]
  exact h.2
 ·rw [cell_of_heap (heap_alloc_old w o (cell_lt h))]; exact h
 ·rw [heap_alloc_old w o (heap_lt h)]; exact h
theorem bumped {cnt : Nat → Nat → Nat} {n t : Nat} (n' t' : Nat) : cnt n' t' ≤ setCnt cnt n t (cnt n t + 1) n' t' := by
 unfold setCnt; split
 ·rename_i h; obtain ⟨rfl,rfl⟩ := h; omega
 ·exact Nat.le_refl _
theorem bumped_at {cnt : Nat → Nat → Nat} {n t : Nat} : setCnt cnt n t (cnt n t + 1) n t = cnt n t + 1 := by simp [setCnt]
theorem Gh.knows_of {G G' : Gh} {nk k : Key} (hk : ∀ k,k ≠ nk → G'.box k = G.box k ∧ G'.blk k = G.blk k ∧ G'.mp k = G.mp k) (hne : k ≠ nk) (h : G'.knows k) : G.knows k := by
 obtain ⟨j1,j2,j3⟩ := hk k hne
 unfold Gh.knows at h ⊢; rwa [j1,j2,j3] at h
theorem Rel.virtAt {P : Program} {Ξ : Env} {B : Nat} {S : Nat → Nat → Prop} {G : Gh} {st : St} {N : Nat} {a : Act} {w : World} (h : Rel P Ξ B S G st N a w) {q d : Nat} {G' : Gh} (hk : ∀ k,k ≠ ⟨q,d,st.cnt q d⟩ → G'.box k = G.box k ∧ G'.blk k = G.blk k ∧ G'.mp k = G.mp k) :
  ∀ k,Ξ.virt k → ¬ G'.knows k ∧ k.g < setCnt st.cnt q d (st.cnt q d + 1) k.n k.t := fun k hv => by
 obtain ⟨v1,v2⟩ := h.virt k hv
 have hne : k ≠ ⟨q,d,st.cnt q d⟩ := by rintro rfl; exact Nat.lt_irrefl _ v2
 exact ⟨fun hkn => v1 (Gh.knows_of hk hne hkn),Nat.lt_of_lt_of_le v2 (bumped _ _)⟩
theorem VR.knows_bl {T : Nat → Nat → Prop} {G : Gh} {w : World} {k : Key} {o l : Nat} {x : Value} (h : VR T G w (.bl k o l) x) : G.knows k := by
 cases h with
 | bl0 _ _ h => exact Gh.knows_blk h
 | bl _ _ _ _ _ _ _ h => exact Gh.knows_blk h
 | ble _ _ _ _ _ _ h => exact Gh.knows_blk h
theorem Rel.allocN {P : Program} {Ξ : Env} {B : Nat} {S : Nat → Nat → Prop} {G : Gh} {st : St} {N : Nat} {a : Act} {w : World} (h : Rel P Ξ B S G st N a w) (q d : Nat) (o : Obj) (e : Ent) (G' : Gh)
  (hg : G.le G') (ho : ∀ b,b ≠ w.heap.size → G'.own b = G.own b)
  (hk : ∀ k,k ≠ ⟨q,d,st.cnt q d⟩ → G'.box k = G.box k ∧ G'.blk k = G.blk k ∧ G'.mp k = G.mp k)
  (hn : ∀ k t,G'.own w.heap.size = some (k,t) → k = ⟨q,d,st.cnt q d⟩)
  (he : ER P B (Stab B S G' (w.alloc o).heap.size) G' (w.alloc o) ⟨q,d,st.cnt q d⟩ e) :
  Rel P Ξ B S G' { fr := st.fr,en := st.en.set ⟨q,d,st.cnt q d⟩ (some e),cnt := setCnt st.cnt q d (st.cnt q d + 1) } N a (w.alloc o) := by
 have m := mono_alloc (B := B) (S := S) (w := w) (o := o) hg ho
 refine h.change m (by rw [size_alloc]; omega) (fun k e' hk' hkn => ?_) (fun k hk' => ?_) (fun b k t hb => ?_) (fun k hv => ?_)
 ·simp only [En.set] at hk'
  split at hk'
  ·rename_i heq; subst heq; simp only [Option.some.injEq] at hk'; subst hk'; exact he
  ·rename_i hne
   obtain ⟨j1,j2,j3⟩ := hk k hne
   refine (h.ents k e' hk' (by unfold Gh.knows at hkn ⊢; rwa [j1,j2,j3] at hkn)).mono m.four fun b _ hb => ?_
   have hlt := own_lt (fun b k t ho => (h.own b k t ho).2.1) hb
   exact ⟨heap_alloc_old w o hlt,ho b (Nat.ne_of_lt hlt)⟩
 ·have hne : k ≠ ⟨q,d,st.cnt q d⟩ := by
   rintro rfl
   simp only [bumped_at] at hk'
   omega
  have hle : st.cnt k.n k.t ≤ k.g := Nat.le_trans (bumped _ _) hk'
  obtain ⟨h1,h2,h3⟩ := hk k hne
  obtain ⟨f1,f2,f3⟩ := h.freshG k hle
  refine ⟨?_,by rw [h1]; exact f1,by rw [h2]; exact f2,by rw [h3]; exact f3⟩
  simp only [En.set,if_neg hne]
  exact h.freshEn k hle
 ·by_cases hb' : b = w.heap.size
  ·subst hb'
   have := hn k t hb; subst this
   exact ⟨h.size,by rw [size_alloc]; omega,by simp only [bumped_at]; omega⟩
  ·rw [ho b hb'] at hb
   obtain ⟨h1,h2,h3⟩ := h.own b k t hb
   exact ⟨h1,by rw [size_alloc]; omega,Nat.lt_of_lt_of_le h3 (bumped _ _)⟩
 ·obtain ⟨v1,v2⟩ := h.virt k hv
  have hne : k ≠ ⟨q,d,st.cnt q d⟩ := by rintro rfl; exact Nat.lt_irrefl _ v2
  obtain ⟨j1,j2,j3⟩ := hk k hne
  exact ⟨fun hkn => v1 (by unfold Gh.knows at hkn ⊢; rwa [j1,j2,j3] at hkn),Nat.lt_of_lt_of_le v2 (bumped _ _)⟩
theorem Rel.alloc {P : Program} {Ξ : Env} {B : Nat} {S : Nat → Nat → Prop} {G : Gh} {st : St} {N : Nat} {a : Act} {w : World} (h : Rel P Ξ B S G st N a w) (d : Nat) (o : Obj) (e : Ent) (G' : Gh)
  (hg : G.le G') (ho : ∀ b,b ≠ w.heap.size → G'.own b = G.own b)
  (hk : ∀ k,k ≠ ⟨0,d,st.cnt 0 d⟩ → G'.box k = G.box k ∧ G'.blk k = G.blk k ∧ G'.mp k = G.mp k)
  (hn : ∀ k t,G'.own w.heap.size = some (k,t) → k = ⟨0,d,st.cnt 0 d⟩)
  (he : ER P B (Stab B S G' (w.alloc o).heap.size) G' (w.alloc o) ⟨0,d,st.cnt 0 d⟩ e) :
  Rel P Ξ B S G' { fr := st.fr,en := st.en.set ⟨0,d,st.cnt 0 d⟩ (some e),cnt := setCnt st.cnt 0 d (st.cnt 0 d + 1) } N a (w.alloc o) := h.allocN 0 d o e G' hg ho hk hn he
end Go.Abs
namespace Go.Abs
open Go.RowKit (Below)
variable [Inhabited Glob]
def wput (w : World) (b : Nat) (o : Obj) : World := { w with heap := w.heap.setIfInBounds b o }
theorem wput_size (w : World) (b : Nat) (o : Obj) : (wput w b o).heap.size = w.heap.size := by simp [wput]
theorem wput_same {w : World} {b : Nat} (o : Obj) (h : b < w.heap.size) : (wput w b o).heap[b]? = some o := by simp [wput,Array.getElem?_setIfInBounds,h]
theorem wput_other {w : World} {b b' : Nat} (o : Obj) (h : b' ≠ b) : (wput w b o).heap[b']? = w.heap[b']? := by
 have hb : ¬ b = b' := fun e => h e.symm
 simp [wput,Array.getElem?_setIfInBounds,hb]
theorem mono_wput {B : Nat} {S : Nat → Nat → Prop} {G : Gh} {w : World} {k : Key} {b thr : Nat} {o o' : Obj} (hB : B ≤ b) (hown : G.own b = some (k,thr)) (ho : w.heap[b]? = some o)
  (hm : ∀ es cl,o ≠ .map es cl ∨ 0 ≥ thr) (hnd : ∀ ds,o ≠ .deferred ds) (hnl : ∀ r,o = .loop r → ∃ r',o' = .loop r')
  (hc : ∀ off,off < thr → (wput w b o').cell? ⟨b,off,.none⟩ = w.cell? ⟨b,off,.none⟩) :
  Mono (Stab B S G w.heap.size) G w (Stab B S G (wput w b o').heap.size) G (wput w b o') := by
 have hs : ∀ b' o'',Stab B S G w.heap.size b' o'' → b' = b → o'' < thr := by
  rintro b' o'' ⟨_,h⟩ rfl
  rcases h with ⟨h,_⟩ | ⟨_,h⟩
  ·omega
  ·rw [hown] at h; exact h
 refine ⟨fun b' o'' h => by rw [wput_size]; exact h,G.le_refl,fun b' o'' c h hc' => ?_,fun r es cl h hr => ?_,fun b' ds h => ?_,fun b' r h => ?_⟩
 ·by_cases hb : b' = b
  ·subst hb; rw [hc _ (hs _ _ h rfl)]; exact hc'
  ·rw [cell_of_heap (wput_other o' hb)]; exact hc'
 ·by_cases hb : r = b
  ·subst hb
   have h0 := hs _ _ h rfl
   rw [ho] at hr
   simp only [Option.some.injEq] at hr
   rcases hm es cl with h1 | h1
   ·exact absurd hr h1
   ·omega
  ·rw [wput_other o' hb]; exact hr
 ·by_cases hb : b' = b
  ·subst hb; rw [ho] at h; exact absurd (Option.some.inj h) (hnd ds)
  ·rw [wput_other o' hb]; exact h
 ·by_cases hb : b' = b
  ·subst hb
   rw [ho] at h
   obtain ⟨r',e1⟩ := hnl r (Option.some.inj h)
   exact ⟨r',by rw [wput_same _ (heap_lt ho),e1]⟩
  ·exact ⟨r,by rw [wput_other o' hb]; exact h⟩
theorem Rel.write {P : Program} {Ξ : Env} {B : Nat} {S : Nat → Nat → Prop} {G : Gh} {st : St} {N : Nat} {a : Act} {w : World} (h : Rel P Ξ B S G st N a w) {k : Key} {b thr : Nat} {o o' : Obj} {e' : Ent}
  (hown : G.own b = some (k,thr)) (ho : w.heap[b]? = some o) (hm : ∀ es cl,o ≠ .map es cl ∨ 0 ≥ thr) (hnd : ∀ ds,o ≠ .deferred ds) (hnl : ∀ r,o = .loop r → ∃ r',o' = .loop r')
  (hc : ∀ off,off < thr → (wput w b o').cell? ⟨b,off,.none⟩ = w.cell? ⟨b,off,.none⟩)
  (he : Mono (Stab B S G w.heap.size) G w (Stab B S G (wput w b o').heap.size) G (wput w b o') → ER P B (Stab B S G (wput w b o').heap.size) G (wput w b o') k e') :
  Rel P Ξ B S G { st with en := st.en.set k (some e') } N a (wput w b o') := by
 obtain ⟨hB,hlt,hk⟩ := h.own b k thr hown
 have m := mono_wput (S := S) (o' := o') hB hown ho hm hnd hnl hc
 refine h.change m (by rw [wput_size]; exact Nat.le_refl _) (fun k' e hk' hkn => ?_) (fun k' hk' => ?_) (fun b' k' t hb' => by rw [wput_size]; exact h.own b' k' t hb') h.virt
 ·simp only [En.set] at hk'
  split at hk'
  ·rename_i heq; subst heq; simp only [Option.some.injEq] at hk'; subst hk'; exact he m
  ·rename_i hne
   refine (h.ents k' e hk' hkn).mono m.four fun b' _ hb' => ?_
   have hb : b' ≠ b := by
    rintro rfl
    rcases hb' with ⟨t,hb'⟩ | ⟨hb',_⟩
    ·rw [hown] at hb'; simp only [Option.some.injEq,Prod.mk.injEq] at hb'; exact hne hb'.1.symm
    ·rw [hown] at hb'; cases hb'
   exact ⟨wput_other o' hb,rfl⟩
 ·refine ⟨?_,h.freshG k' hk'⟩
  have hne : k' ≠ k := by rintro rfl; omega
  simp only [En.set,if_neg hne]; exact h.freshEn k' hk'
def wr (c : Array Value) (o : Nat) : List Value → Array Value
 | [] => c
 | v :: vs => wr (c.setIfInBounds o v) (o + 1) vs
theorem wr_size : ∀ (vs : List Value) (c : Array Value) (o : Nat),(wr c o vs).size = c.size
 | [],_,_ => rfl
 | v :: vs,c,o => by rw [wr,wr_size]; simp
theorem wr_get : ∀ (vs : List Value) (c : Array Value) (o i : Nat),o + vs.length ≤ c.size → (wr c o vs)[i]? = if o ≤ i ∧ i < o + vs.length then vs[i - o]? else c[i]?
 | [],c,o,i,_ => by simp [wr]; omega
 | v :: vs,c,o,i,h => by
  simp only [List.length_cons] at h
  rw [wr,wr_get vs _ _ _ (by simp; omega)]
  by_cases h1 : o + 1 ≤ i ∧ i < o + 1 + vs.length
  ·rw [if_pos h1,if_pos (by simp; omega),show i - o = (i - (o + 1)) + 1 by omega,List.getElem?_cons_succ]
  ·rw [if_neg h1]
   by_cases h2 : i = o
   ·subst h2; rw [if_pos (by simp)]; simp [Array.getElem?_setIfInBounds]; omega
   ·have h3 : ¬ o = i := fun e => h2 e.symm
    rw [if_neg (by simp; omega)]; simp [Array.getElem?_setIfInBounds,h3]
theorem setCell_put {w : World} {b o : Nat} {c : Array Value} {t : TypeId} (v : Value) (h : w.heap[b]? = some (.cells c t (0,0))) :
  w.setCell ⟨b,o,.none⟩ v = wput w b (.cells (c.setIfInBounds o v) t (0,0)) := by
 unfold World.setCell wput
 congr 1
 apply Array.ext_getElem?
 intro i
 rw [Array.getElem?_modify,Array.getElem?_setIfInBounds]
 have hb := (Array.getElem?_eq_some_iff.1 h).1
 by_cases hi : b = i
 ·subst hi
  have h2 := (Array.getElem?_eq_some_iff.1 h).2
  simp [hb,h2]
 ·simp [hi]
theorem wput_wput (w : World) (b : Nat) (o o' : Obj) : wput (wput w b o) b o' = wput w b o' := by
 simp [wput]
theorem wput_id {w : World} {b : Nat} {o : Obj} (h : w.heap[b]? = some o) : wput w b o = w := by
 obtain ⟨hb,h2⟩ := Array.getElem?_eq_some_iff.1 h
 have : w.heap.setIfInBounds b o = w.heap := by
  apply Array.ext_getElem?
  intro i
  rw [Array.getElem?_setIfInBounds]
  by_cases hi : b = i
  ·subst hi; simp [hb,h2]
  ·simp [hi]
 unfold wput; rw [this]
theorem oneCell_of {v : Value} (h : oneV v = true) : v.oneCell' = true := by cases v <;> first | rfl | cases h
theorem run_storeCells (P : Program) : ∀ (vs : List Value) (w : World) (b o i : Nat) (c : Array Value) (t : TypeId),w.heap[b]? = some (.cells c t (0,0)) → (∀ v ∈ vs,oneV v = true) →
  o + i + vs.length ≤ c.size → (storeCells ⟨b,o,.none⟩ vs i).run P w = .ok () (wput w b (.cells (wr c (o + i) vs) t (0,0)))
 | [],w,b,o,i,c,t,h,_,_ => by simp [storeCells,wr,wput_id h]
 | v :: vs,w,b,o,i,c,t,h,hv,hl => by
  simp only [List.length_cons] at hl
  have hadd : (⟨b,o,.none⟩ : Addr).add i = ⟨b,o + i,.none⟩ := by
   by_cases hi : i = 0
   ·subst hi; simp [Addr.add]
   ·simp [Addr.add,hi]
  have hcell : w.cell? ⟨b,o + i,.none⟩ = some (c[o + i]'(by omega)) := by rw [cell_get h]; simp
  have hfr : w.frozen? ⟨b,o + i,.none⟩ = false := by simp [World.frozen?,h]
  have hs := setCell_put (o := o + i) v h
  have hb := heap_lt h
  simp only [storeCells,hadd,Sem.run_bind,run_store P w _ v .plain (oneCell_of (hv v (by simp))),hcell,hfr,hs,Bool.false_eq_true,if_false,Result.andThen_ok]
  rw [run_storeCells P vs _ b o (i + 1) (c.setIfInBounds (o + i) v) t (by rw [wput_same _ hb]) (fun x hx => hv x (by simp [hx])) (by simp; omega),wput_wput]
  rfl
theorem run_storeVar {P : Program} {t ty : TypeId} {w : World} {b o : Nat} {c : Array Value} {x : Value} (h : w.heap[b]? = some (.cells c ty (0,0)))
  (hi : ∃ i,P.info? t = some i) (hn : x.cells.size = P.cellsOf t) (ho : ∀ i,i < x.cells.size → oneV (x.cells.getD i undef) = true) (hl : o + x.cells.size ≤ c.size) :
  (storeVar t ⟨b,o,.none⟩ x).run P w = .ok () (wput w b (.cells (wr c o x.cells.toList) ty (0,0))) := by
 obtain ⟨i,hi⟩ := hi
 have hsz : (sizeOf t).run P w = .ok (P.cellsOf t) w := by simp [sizeOf,typeInfo,hi,Program.cellsOf]
 simp only [storeVar,Sem.run_bind,hsz,Result.andThen_ok,hn,ne_eq,not_true,if_false]
 refine (run_storeCells P _ _ _ _ _ _ _ h (fun v hv => ?_) (by simpa using hl)).trans (by simp)
 obtain ⟨j,hj,rfl⟩ := List.mem_iff_getElem.1 hv
 have := ho j (by simpa using hj)
 simpa [Array.getD_eq_getD_getElem?,show j < x.cells.size by simpa using hj] using this
end Go.Abs
namespace Go.Abs
open Go.RowKit (Below)
variable [Inhabited Glob]
def Gh.disown (G : Gh) (b : Nat) : Gh := { G with own := fun b' => if b' = b then .none else G.own b' }
def Gh.raise (G : Gh) (b : Nat) (k : Key) (thr : Nat) : Gh := { G with own := fun b' => if b' = b then some (k,thr) else G.own b' }
def Cov (T : Nat → Nat → Prop) (G : Gh) (k : Key) : Ent → Prop
 | .box cs _ => ∀ b,G.box k = some b → ∀ j,j < cs.length → T b j
 | .blk _ xs _ => ∀ b base sz C,G.blk k = some (some (b,base,sz,C)) → ∀ i j,i < xs.length → j < sz → T b (base + i * sz + j)
 | .map _ _ _ => ∀ r,G.mp k = some r → T r 0
 | .loop _ _ _ _ _ => True
 | .iter _ _ => True
theorem Cov.freeze {T : Nat → Nat → Prop} {G : Gh} {k : Key} {e : Ent} (h : Cov T G k e) : Cov T G k e.freeze := by cases e <;> exact h
theorem stab_disown {B : Nat} {S : Nat → Nat → Prop} {G : Gh} {n b b' o : Nat} (h : Stab B S G n b' o) : Stab B S (G.disown b) n b' o := by
 refine ⟨h.1,h.2.imp id fun ⟨h1,h2⟩ => ⟨h1,?_⟩⟩
 simp only [Gh.disown]
 by_cases hb : b' = b
 ·simp [hb]
 ·simpa [hb] using h2
theorem stab_raise {B : Nat} {S : Nat → Nat → Prop} {G : Gh} {n b b' o thr thr' : Nat} {k : Key} (hk : G.own b = some (k,thr)) (ht : thr ≤ thr') (h : Stab B S G n b' o) :
  Stab B S (G.raise b k thr') n b' o := by
 refine ⟨h.1,h.2.imp id fun ⟨h1,h2⟩ => ⟨h1,?_⟩⟩
 simp only [Gh.raise]
 by_cases hb : b' = b
 ·subst hb; rw [hk] at h2; simp at h2 ⊢; omega
 ·simpa [hb] using h2
theorem Rel.freeze1 {P : Program} {Ξ : Env} {B : Nat} {S : Nat → Nat → Prop} {G : Gh} {st : St} {N : Nat} {a : Act} {w : World} (h : Rel P Ξ B S G st N a w) {k : Key} {e : Ent} (he : st.en k = some e) :
  ∃ G',Rel P Ξ B S G' { st with en := st.en.set k (some e.freeze) } N a w ∧ Mono (Stab B S G w.heap.size) G w (Stab B S G' w.heap.size) G' w ∧ G'.box = G.box ∧ G'.blk = G.blk ∧ G'.mp = G.mp ∧
   Cov (Stab B S G' w.heap.size) G' k e := by
 have hk : k.g < st.cnt k.n k.t := by
  rcases Nat.lt_or_ge k.g (st.cnt k.n k.t) with h1 | h1
  ·exact h1
  ·rw [h.freshEn k h1] at he; cases he
 have fin : ∀ (G' : Gh),Mono (Stab B S G w.heap.size) G w (Stab B S G' w.heap.size) G' w → G'.box = G.box → G'.blk = G.blk → G'.mp = G.mp →
   (∀ b,(¬ ∃ t,G.own b = some (k,t)) → G'.own b = G.own b) → (∀ b k' t,G'.own b = some (k',t) → ∃ t',G.own b = some (k',t')) →
   (G.knows k → ER P B (Stab B S G' w.heap.size) G' w k e.freeze) → Rel P Ξ B S G' { st with en := st.en.set k (some e.freeze) } N a w := by
  intro G' m e1 e2 e3 ho ho' hE
  have ekn : ∀ k,G'.knows k ↔ G.knows k := fun k => by unfold Gh.knows; rw [e1,e2,e3]
  refine h.change m (Nat.le_refl _) (fun k' e' hk' hkn => ?_) (fun k' hk' => ?_) (fun b k' t hb => let ⟨t',hb'⟩ := ho' b k' t hb; h.own b k' t' hb') (fun k hv => ⟨fun hkn => (h.virt k hv).1 ((ekn k).1 hkn),(h.virt k hv).2⟩)
  ·simp only [En.set] at hk'
   split at hk'
   ·rename_i heq; subst heq; simp only [Option.some.injEq] at hk'; subst hk'; exact hE ((ekn _).1 hkn)
   ·rename_i hne
    refine (h.ents k' e' hk' ((ekn _).1 hkn)).mono m.four fun b' _ hb' => ⟨rfl,ho b' ?_⟩
    rintro ⟨t,ht⟩
    rcases hb' with ⟨t',hb'⟩ | ⟨hb',_⟩
    ·rw [ht] at hb'; simp only [Option.some.injEq,Prod.mk.injEq] at hb'; exact hne hb'.1.symm
    ·rw [ht] at hb'; cases hb'
  ·obtain ⟨f1,f2,f3⟩ := h.freshG k' hk'
   refine ⟨?_,by rw [e1]; exact f1,by rw [e2]; exact f2,by rw [e3]; exact f3⟩
   have hne : k' ≠ k := by rintro rfl; omega
   simp only [En.set,if_neg hne]; exact h.freshEn k' hk'
 by_cases hkn : G.knows k
 case neg =>
  have m := Mono.refl (Stab B S G w.heap.size) G w
  obtain ⟨u1,u2,u3⟩ := Gh.not_knows hkn
  refine ⟨G,fin G m rfl rfl rfl (fun _ _ => rfl) (fun b k' t hb => ⟨t,hb⟩) (fun h => absurd h hkn),m,rfl,rfl,rfl,?_⟩
  cases e with
  | box cs f => intro b hb; rw [u1] at hb; cases hb
  | blk sz xs f => intro b base sz C hb; rw [u2] at hb; cases hb
  | map ks vs f => intro r hr; rw [u3] at hr; cases hr
  | loop => trivial
  | iter => trivial
 have hE := h.ents k e he hkn
 cases hE with
 | box cs frz b c t hb hB hh hs ho hv hown =>
  have m : Mono (Stab B S G w.heap.size) G w (Stab B S (G.disown b) w.heap.size) (G.disown b) w := ⟨fun _ _ => stab_disown,⟨fun _ _ e => e,fun _ _ e => e,fun _ _ e => e⟩,fun _ _ _ _ e => e,fun _ _ _ _ e => e,fun _ _ e => e,fun _ r e => ⟨r,e⟩⟩
  refine ⟨G.disown b,fin _ m rfl rfl rfl (fun b' hb' => ?_) (fun b' k' t' hb' => ?_) ?_,m,rfl,rfl,rfl,?_⟩
  ·simp only [Gh.disown]; split
   ·rename_i e; subst e; cases frz
    ·exact absurd ⟨0,hown⟩ hb'
    ·exact hown.symm
   ·rfl
  ·simp only [Gh.disown] at hb'; split at hb'
   ·cases hb'
   ·exact ⟨t',hb'⟩
  ·exact fun _ => .box cs true b c t hb hB hh hs ho (fun j hj => (hv j hj).mono m) (by simp [Gh.disown])
  ·intro b' hb' j hj
   have : b' = b := by rw [show (G.disown b).box k = G.box k from rfl,hb] at hb'; exact (Option.some.inj hb').symm
   subst this
   exact ⟨heap_lt hh,.inr ⟨hB,by simp [Gh.disown]⟩⟩
 | nul sz frz hn =>
  have m := Mono.refl (Stab B S G w.heap.size) G w
  refine ⟨G,fin G m rfl rfl rfl (fun _ _ => rfl) (fun b k' t hb => ⟨t,hb⟩) (fun _ => .nul sz true hn),m,rfl,rfl,rfl,?_⟩
  intro b base sz C _ i j hi; simp at hi
 | blk xs frz b base sz C thr c t hb hB hh hC hC' hs ho hv hown hthr =>
  have hle : thr ≤ base + xs.length * sz := by subst hthr; split <;> omega
  have m : Mono (Stab B S G w.heap.size) G w (Stab B S (G.raise b k (base + xs.length * sz)) w.heap.size) (G.raise b k (base + xs.length * sz)) w :=
   ⟨fun _ _ => stab_raise hown hle,⟨fun _ _ e => e,fun _ _ e => e,fun _ _ e => e⟩,fun _ _ _ _ e => e,fun _ _ _ _ e => e,fun _ _ e => e,fun _ r e => ⟨r,e⟩⟩
  refine ⟨G.raise b k (base + xs.length * sz),fin _ m rfl rfl rfl (fun b' hb' => ?_) (fun b' k' t' hb' => ?_) ?_,m,rfl,rfl,rfl,?_⟩
  ·simp only [Gh.raise]; split
   ·rename_i e; subst e; exact absurd ⟨thr,hown⟩ hb'
   ·rfl
  ·simp only [Gh.raise] at hb'; split at hb'
   ·rename_i e; subst e; simp only [Option.some.injEq,Prod.mk.injEq] at hb'; rw [← hb'.1]; exact ⟨thr,hown⟩
   ·exact ⟨t',hb'⟩
  ·exact fun _ => .blk xs true b base sz C (base + xs.length * sz) c t hb hB hh hC hC' hs ho (fun i j hi hj => (hv i j hi hj).mono (m.atq k.n)) (by simp [Gh.raise]) rfl
  ·intro b' base' sz' C' hb' i j hi hj
   have : (b',base',sz',C') = (b,base,sz,C) := by rw [show (G.raise b k (base + xs.length * sz)).blk k = G.blk k from rfl,hb] at hb'; exact (Option.some.inj (Option.some.inj hb')).symm
   simp only [Prod.mk.injEq] at this
   obtain ⟨rfl,rfl,rfl,rfl⟩ := this
   refine ⟨heap_lt hh,.inr ⟨hB,?_⟩⟩
   simp only [Gh.raise,if_true]
   have : i * sz' + sz' ≤ xs.length * sz' := by rw [← Nat.succ_mul]; exact Nat.mul_le_mul_right _ hi
   omega
 | loop fr ps la lb s l rec I N' hl hB hh hps ha hb hN hpN haN hbN hf hst hown =>
  have m := Mono.refl (Stab B S G w.heap.size) G w
  exact ⟨G,fin G m rfl rfl rfl (fun _ _ => rfl) (fun b k' t hb => ⟨t,hb⟩) (fun _ => .loop fr ps la lb s l rec I N' hl hB hh hps ha hb hN hpN haN hbN hf hst hown),m,rfl,rfl,rfl,trivial⟩
 | iter s pos r hr hB hh hown =>
  have m := Mono.refl (Stab B S G w.heap.size) G w
  exact ⟨G,fin G m rfl rfl rfl (fun _ _ => rfl) (fun b k' t hb => ⟨t,hb⟩) (fun _ => .iter s pos r hr hB hh hown),m,rfl,rfl,rfl,trivial⟩
 | full xs b base sz c hb hs hh ht ho hv =>
  have m := Mono.refl (Stab B S G w.heap.size) G w
  refine ⟨G,fin G m rfl rfl rfl (fun _ _ => rfl) (fun b k' t hb => ⟨t,hb⟩) (fun _ => .full xs b base sz c hb hs hh ht ho hv),m,rfl,rfl,rfl,?_⟩
  intro b' base' sz' C' hb' i j hi hj
  have : (b',base',sz',C') = (b,base,sz,xs.length) := by rw [hb] at hb'; exact (Option.some.inj (Option.some.inj hb')).symm
  simp only [Prod.mk.injEq] at this
  obtain ⟨rfl,rfl,rfl,rfl⟩ := this
  exact ht i j hi hj
 | map ks vs frz r es clock hr hB hh hkk hl hkv hvv hown =>
  have m : Mono (Stab B S G w.heap.size) G w (Stab B S (G.disown r) w.heap.size) (G.disown r) w := ⟨fun _ _ => stab_disown,⟨fun _ _ e => e,fun _ _ e => e,fun _ _ e => e⟩,fun _ _ _ _ e => e,fun _ _ _ _ e => e,fun _ _ e => e,fun _ r e => ⟨r,e⟩⟩
  refine ⟨G.disown r,fin _ m rfl rfl rfl (fun b' hb' => ?_) (fun b' k' t' hb' => ?_) ?_,m,rfl,rfl,rfl,?_⟩
  ·simp only [Gh.disown]; split
   ·rename_i e; subst e; cases frz
    ·exact absurd ⟨0,hown⟩ hb'
    ·exact hown.symm
   ·rfl
  ·simp only [Gh.disown] at hb'; split at hb'
   ·cases hb'
   ·exact ⟨t',hb'⟩
  ·exact fun _ => .map ks vs true r es clock hr hB hh hkk hl (fun i hi => (hkv i hi).mono m.none) (fun i hi => (hvv i hi).mono m.none) (by simp [Gh.disown])
  ·intro b' hb'
   have : b' = r := by rw [show (G.disown r).mp k = G.mp k from rfl,hr] at hb'; exact (Option.some.inj hb').symm
   subst this
   exact ⟨heap_lt hh,.inr ⟨hB,by simp [Gh.disown]⟩⟩
theorem Cov.mono {T T' : Nat → Nat → Prop} {G G' : Gh} {k : Key} {e : Ent} (ht : ∀ b o,T b o → T' b o) (hb : G'.box = G.box) (hk : G'.blk = G.blk) (hm : G'.mp = G.mp) (h : Cov T G k e) : Cov T' G' k e := by
 cases e with
 | box cs f => intro b hb' j hj; rw [hb] at hb'; exact ht _ _ (h b hb' j hj)
 | blk sz0 xs f => intro b base sz C hb' i j hi hj; rw [hk] at hb'; exact ht _ _ (h b base sz C hb' i j hi hj)
 | map ks vs f => intro r hr; rw [hm] at hr; exact ht _ _ (h r hr)
 | loop => trivial
 | iter => trivial
theorem Rel.freezeAll {P : Program} {Ξ : Env} {B : Nat} {S : Nat → Nat → Prop} {N : Nat} {a : Act} {w : World} (ks : List Key) : ∀ {G : Gh} {st : St},Rel P Ξ B S G st N a w →
  ∃ G',Rel P Ξ B S G' { st with en := W.applyAll st.en (ks.map .frz) } N a w ∧ Mono (Stab B S G w.heap.size) G w (Stab B S G' w.heap.size) G' w ∧ G'.box = G.box ∧ G'.blk = G.blk ∧ G'.mp = G.mp ∧
   ∀ k ∈ ks,∀ e,st.en k = some e → Cov (Stab B S G' w.heap.size) G' k e := by
 induction ks with
 | nil => intro G st h; exact ⟨G,h,Mono.refl _ _ _,rfl,rfl,rfl,fun k hk => by cases hk⟩
 | cons k ks ih =>
  intro G st h
  have step : ∃ G1,Rel P Ξ B S G1 { st with en := W.apply st.en (.frz k) } N a w ∧ Mono (Stab B S G w.heap.size) G w (Stab B S G1 w.heap.size) G1 w ∧ G1.box = G.box ∧ G1.blk = G.blk ∧ G1.mp = G.mp ∧
    (∀ e,st.en k = some e → Cov (Stab B S G1 w.heap.size) G1 k e) := by
   cases he : st.en k with
   | none => refine ⟨G,?_,Mono.refl _ _ _,rfl,rfl,rfl,fun e h => by cases h⟩; simp only [W.apply,he]; exact h
   | some e =>
    obtain ⟨G1,h1,m1,e1,e2,e3,c1⟩ := h.freeze1 he
    refine ⟨G1,?_,m1,e1,e2,e3,fun e' h => by cases h; exact c1⟩
    simp only [W.apply,he]; exact h1
  obtain ⟨G1,h1,m1,e1,e2,e3,c1⟩ := step
  obtain ⟨G2,h2,m2,f1,f2,f3,c2⟩ := ih h1
  refine ⟨G2,h2,m1.trans m2,f1.trans e1,f2.trans e2,f3.trans e3,fun k' hk' e he => ?_⟩
  rcases List.mem_cons.1 hk' with rfl | hk'
  ·exact (c1 e he).mono m2.t f1 f2 f3
  ·by_cases hkk : k' = k
   ·subst hkk; exact (c1 e he).mono m2.t f1 f2 f3
   ·refine c2 k' hk' e ?_
    simp only [W.apply]
    cases hk0 : st.en k with
    | none => exact he
    | some e0 => simp only [En.set,if_neg hkk]; exact he
theorem mapO_some {α β : Type} {f : α → Option β} : ∀ {l : List α} {r : List β},mapO f l = some r → r.length = l.length ∧ ∀ (i : Nat) (h : i < l.length) (h' : i < r.length),f l[i] = some r[i]
 | [],r,h => by simp only [mapO,Option.some.injEq] at h; subst h; exact ⟨rfl,fun i h => by simp at h⟩
 | x :: xs,r,h => by
  simp only [mapO] at h
  split at h
  ·rename_i y hy
   split at h
   ·rename_i ys hys
    simp only [Option.some.injEq] at h; subst h
    obtain ⟨h1,h2⟩ := mapO_some hys
    refine ⟨by simp [h1],fun i hi hi' => ?_⟩
    cases i with
    | zero => simpa using hy
    | succ i => simpa using h2 i (by simpa using hi) (by simpa using hi')
   ·cases h
  ·cases h
theorem snaps_some {n : Nat} {en : En} {vs : List Val} {rs : List (Val × List Key)} (h : mapO (snap n en) vs = some rs) :
  (rs.map (·.1)).length = vs.length ∧ ∀ i,i < vs.length → ∃ ks,snap n en (vs.getD i .dead) = some ((rs.map (·.1)).getD i .dead,ks) ∧ ∀ k ∈ ks,k ∈ rs.flatMap (·.2) := by
 obtain ⟨h1,h2⟩ := mapO_some h
 refine ⟨by simp [h1],fun i hi => ?_⟩
 have hi' : i < rs.length := by omega
 refine ⟨rs[i].2,?_,fun k hk => List.mem_flatMap.2 ⟨rs[i],List.getElem_mem hi',hk⟩⟩
 have := h2 i hi hi'
 simp [List.getD_eq_getElem?_getD,hi,hi',this]
theorem xs_getD {xs : List Val} {i : Nat} {x : Val} (h : xs[i]? = some x) : i < xs.length ∧ xs.getD i .dead = x := by
 obtain ⟨h1,h2⟩ := List.getElem?_eq_some_iff.1 h
 exact ⟨h1,by simp [List.getD_eq_getElem?_getD,h1,h2]⟩
theorem getD_drop_take {xs : List Val} {off len i : Nat} (hi : i < len) (h : off + len ≤ xs.length) : ((xs.drop off).take len).getD i .dead = xs.getD (off + i) .dead := by
 simp only [List.getD_eq_getElem?_getD,List.getElem?_take,List.getElem?_drop,hi,if_true]
structure Held (T : Nat → Nat → Prop) (w : World) (xs : List Val) (b base sz : Nat) : Prop where
 hs : ∀ i,i < xs.length → (xs.getD i .dead).cells.length = sz
 h : ∀ i j,i < xs.length → j < sz → ∃ c,w.cell? ⟨b,base + i * sz + j,.none⟩ = some c ∧ T b (base + i * sz + j) ∧ oneV c = true ∧ VR T Gh.none w ((xs.getD i .dead).cells.getD j .dead) c
theorem ER.held {P : Program} {B : Nat} {T T' : Nat → Nat → Prop} {G G' : Gh} {w : World} {k : Key} {xs : List Val} {frz : Bool} {b base sz sz0 C : Nat} (h : ER P B T G w k (.blk sz0 xs frz)) (m : Mono T G w T' G' w)
  (hb : G.blk k = some (some (b,base,sz,C))) (hc : Cov T' G k (.blk sz0 xs frz)) (hd : k.deep = false) : Held T' w xs b base sz := by
 cases h with
 | nul _ frz h => exact ⟨fun i hi => by simp at hi,fun i j hi => by simp at hi⟩
 | blk xs frz b1 base1 sz0 C1 thr c t hb1 hB hh hC hC' hs ho hv hown hthr =>
  rw [hb1] at hb; simp only [Option.some.injEq,Prod.mk.injEq] at hb
  obtain ⟨rfl,rfl,rfl,rfl⟩ := hb
  refine ⟨hs,fun i j hi hj => ?_⟩
  have hlt : base1 + i * sz0 + j < c.size := by
   have : i * sz0 + sz0 ≤ C1 * sz0 := by rw [← Nat.succ_mul]; exact Nat.mul_le_mul_right _ (by omega)
   omega
  rw [Gh.at_none hd] at hv
  refine ⟨c.getD (base1 + i * sz0 + j) undef,?_,hc _ _ _ _ hb1 i j hi hj,ho i j hi hj,(hv i j hi hj).mono m.none⟩
  rw [cell_get hh]; simp [Array.getD_eq_getD_getElem?,hlt]
 | full xs b1 base1 sz0 c hb1 hs hh ht ho hv =>
  rw [hb1] at hb; simp only [Option.some.injEq,Prod.mk.injEq] at hb
  obtain ⟨rfl,rfl,rfl,rfl⟩ := hb
  exact ⟨hs,fun i j hi hj => ⟨c i j,hh i j hi hj,hc _ _ _ _ hb1 i j hi hj,ho i j hi hj,(hv i j hi hj).mono m.none⟩⟩
theorem Held.slice {T : Nat → Nat → Prop} {w : World} {xs : List Val} {b base sz : Nat} (h : Held T w xs b base sz) {G : Gh} {off len cap : Nat} (hl : off + len ≤ xs.length) (hc : len ≤ cap) :
  VR T G w (.fz ((xs.drop off).take len)) (.slice (some ⟨b,base + off * sz,.none⟩) len cap) := by
 have hlen : ((xs.drop off).take len).length = len := by simp; omega
 have hget : ∀ i j,i < len → j < sz → ∃ c,w.cell? ⟨b,base + off * sz + i * sz + j,.none⟩ = some c ∧ T b (base + off * sz + i * sz + j) ∧ oneV c = true ∧ VR T Gh.none w ((((xs.drop off).take len).getD i .dead).cells.getD j .dead) c := by
  intro i j hi hj
  have := h.h (off + i) j (by omega) hj
  rw [getD_drop_take hi hl]
  rw [show base + off * sz + i * sz + j = base + (off + i) * sz + j by rw [Nat.add_mul]; omega]
  exact this
 have h1 : ∀ i j,∃ c,i < len → j < sz → w.cell? ⟨b,base + off * sz + i * sz + j,.none⟩ = some c ∧ T b (base + off * sz + i * sz + j) ∧ oneV c = true ∧ VR T Gh.none w ((((xs.drop off).take len).getD i .dead).cells.getD j .dead) c := by
  intro i j
  by_cases hi : i < len
  ·by_cases hj : j < sz
   ·obtain ⟨c,hc⟩ := hget i j hi hj; exact ⟨c,fun _ _ => hc⟩
   ·exact ⟨undef,fun _ hj' => absurd hj' hj⟩
  ·exact ⟨undef,fun hi' => absurd hi' hi⟩
 have h2 := fun i => Classical.axiomOfChoice (h1 i)
 obtain ⟨c,hc'⟩ := Classical.axiomOfChoice h2
 have := VR.fz (T := T) (G := G) (w := w) ((xs.drop off).take len) b (base + off * sz) sz cap c (by rw [hlen]; exact hc)
  (fun i hi => by rw [hlen] at hi; rw [getD_drop_take hi hl]; exact h.hs _ (by omega))
  (fun i j hi hj => by rw [hlen] at hi; exact (hc' i j hi hj).1) (fun i j hi hj => by rw [hlen] at hi; exact (hc' i j hi hj).2.1)
  (fun i j hi hj => by rw [hlen] at hi; exact (hc' i j hi hj).2.2.1) (fun i j hi hj => by rw [hlen] at hi; exact (hc' i j hi hj).2.2.2)
 rwa [hlen] at this
theorem Held.elem {T : Nat → Nat → Prop} {w : World} {xs : List Val} {b base sz : Nat} (h : Held T w xs b base sz) {G : Gh} {i off : Nat} {x : Val} (hx : xs[i]? = some x) :
  VR T G w (.fp x.cells off) (.pointer (some ⟨b,base + i * sz + off,.none⟩)) := by
 obtain ⟨hi,hx'⟩ := xs_getD hx
 have hl := h.hs i hi
 rw [hx'] at hl
 have h1 : ∀ j,∃ c,j < sz → w.cell? ⟨b,base + i * sz + j,.none⟩ = some c ∧ T b (base + i * sz + j) ∧ oneV c = true ∧ VR T Gh.none w (x.cells.getD j .dead) c := by
  intro j
  by_cases hj : j < sz
  ·obtain ⟨c,hc⟩ := h.h i j hi hj; rw [hx'] at hc; exact ⟨c,fun _ => hc⟩
  ·exact ⟨undef,fun hj' => absurd hj' hj⟩
 obtain ⟨c,hc⟩ := Classical.axiomOfChoice h1
 exact .fp x.cells off b (base + i * sz) c (fun j hj => (hc j (by omega)).1) (fun j hj => (hc j (by omega)).2.1) (fun j hj => (hc j (by omega)).2.2.1) (fun j hj => (hc j (by omega)).2.2.2)
theorem ER.deep_cell {P : Program} {B : Nat} {T T' : Nat → Nat → Prop} {G : Gh} {w : World} {k : Key} {xs : List Val} {frz : Bool} {b base sz sz0 C : Nat} (h : ER P B T G w k (.blk sz0 xs frz))
  (hb : G.blk k = some (some (b,base,sz,C))) (hc : Cov T' G k (.blk sz0 xs frz)) {i : Nat} (hi : i < xs.length) :
  (xs.getD i .dead).cells.length = sz ∧ ∀ j,j < sz → ∃ c,w.cell? ⟨b,base + i * sz + j,.none⟩ = some c ∧ T' b (base + i * sz + j) ∧ oneV c = true ∧ VR T G w ((xs.getD i .dead).cells.getD j .dead) c := by
 cases h with
 | nul _ frz h => simp at hi
 | blk xs frz b1 base1 sz0 C1 thr c t hb1 hB hh hC hC' hs ho hv hown hthr =>
  rw [hb1] at hb; simp only [Option.some.injEq,Prod.mk.injEq] at hb
  obtain ⟨rfl,rfl,rfl,rfl⟩ := hb
  refine ⟨hs i hi,fun j hj => ?_⟩
  have hlt : base1 + i * sz0 + j < c.size := by
   have : i * sz0 + sz0 ≤ C1 * sz0 := by rw [← Nat.succ_mul]; exact Nat.mul_le_mul_right _ (by omega)
   omega
  refine ⟨c.getD (base1 + i * sz0 + j) undef,?_,hc _ _ _ _ hb1 i j hi hj,ho i j hi hj,(hv i j hi hj).out⟩
  rw [cell_get hh]; simp [Array.getD_eq_getD_getElem?,hlt]
 | full xs b1 base1 sz0 c hb1 hs hh ht ho hv =>
  rw [hb1] at hb; simp only [Option.some.injEq,Prod.mk.injEq] at hb
  obtain ⟨rfl,rfl,rfl,rfl⟩ := hb
  exact ⟨hs i hi,fun j hj => ⟨c i j,hh i j hi hj,hc _ _ _ _ hb1 i j hi hj,ho i j hi hj,(hv i j hi hj).into _⟩⟩
theorem whole_of {T : Nat → Nat → Prop} {G : Gh} {w : World} {x : Val} {sz b o : Nat} (hl : x.cells.length = sz) (h : ∀ j,j < sz → ∃ c,w.cell? ⟨b,o + j,.none⟩ = some c ∧ oneV c = true ∧ VR T G w (x.cells.getD j .dead) c) :
  ∃ u : Value,u.cells.size = sz ∧ (∀ j,j < sz → w.cell? ⟨b,o + j,.none⟩ = some (u.cells.getD j undef)) ∧ VR T G w x u ∧ ∀ y,u ≠ .tuple y := by
 by_cases hx : ∃ cs,x = .agg cs
 ·obtain ⟨cs,rfl⟩ := hx
  simp only [Val.cells] at hl h
  have h1 : ∀ j,∃ c,j < sz → w.cell? ⟨b,o + j,.none⟩ = some c ∧ oneV c = true ∧ VR T G w (cs.getD j .dead) c := fun j => by
   by_cases hj : j < sz
   ·obtain ⟨c,hc⟩ := h j hj; exact ⟨c,fun _ => hc⟩
   ·exact ⟨undef,fun h => absurd h hj⟩
  obtain ⟨c,hc⟩ := Classical.axiomOfChoice h1
  have hg : ∀ j,j < sz → ((Array.range sz).map c).getD j undef = c j := fun j hj => by simp [Array.getD_eq_getD_getElem?,hj]
  refine ⟨.agg ((Array.range sz).map c),by simp [Value.cells],fun j hj => ?_,.agg cs _ (by simp [hl]) (fun j hj => ?_) (fun j hj => ?_),fun y => by simp⟩
  ·simp only [Value.cells]; rw [hg j hj]; exact (hc j hj).1
  ·rw [hg j (by omega)]; exact (hc j (by omega)).2.1
  ·rw [hg j (by omega)]; exact (hc j (by omega)).2.2
 ·have hx1 : x.cells = [x] := by cases x <;> first | rfl | exact absurd ⟨_,rfl⟩ hx
  rw [hx1] at hl h
  simp only [List.length_cons,List.length_nil,Nat.zero_add] at hl
  subst hl
  obtain ⟨c,h1,h2,h3⟩ := h 0 (by omega)
  simp only [List.getD_cons_zero] at h3
  have hc : c.cells = #[c] := by cases c <;> first | rfl | simp [oneV] at h2
  refine ⟨c,by rw [hc]; rfl,fun j hj => ?_,h3,fun y hy => by subst hy; simp [oneV] at h2⟩
  obtain rfl : j = 0 := by omega
  rw [hc]; exact h1
theorem VR.wk0 {G : Gh} {w : World} {T : Nat → Nat → Prop} {v : Val} {x : Value} (h : VR T G w v x) : VR T G w v.wk0 x := by
 cases h with
 | cl0 p => exact .fz0 p 0
 | cl xs b off sz c hs h ht ho hv => exact .fz xs b off sz _ c (Nat.le_refl _) hs h ht ho hv
 | _ => first | assumption | (constructor <;> assumption)
theorem wk0_getD (cs : List Val) (i : Nat) : (cs.map Val.wk0).getD i .dead = (cs.getD i .dead).wk0 := by
 simp only [List.getD_eq_getElem?_getD,List.getElem?_map]
 cases cs[i]? <;> rfl
theorem wk1_getD (cs : List Val) (i : Nat) : (cs.map Val.wk1).getD i .dead = (cs.getD i .dead).wk1 := by
 simp only [List.getD_eq_getElem?_getD,List.getElem?_map]
 cases cs[i]? <;> rfl
theorem VR.wk1 {G : Gh} {w : World} {T : Nat → Nat → Prop} {v : Val} {x : Value} (h : VR T G w v x) : VR T G w v.wk1 x := by
 cases v with
 | agg cs =>
  cases h with
  | agg _ us h ho hv => exact .agg _ us (by simpa using h) (fun i hi => ho i (by simpa using hi)) (fun i hi => by rw [wk0_getD]; exact (hv i (by simpa using hi)).wk0)
 | _ => exact h.wk0
theorem ER.deep_held {P : Program} {B : Nat} {T T' : Nat → Nat → Prop} {G : Gh} {w : World} {k : Key} {xs : List Val} {frz : Bool} {b base sz sz0 C off len cap : Nat} {ys : List Val} (h : ER P B T G w k (.blk sz0 xs frz))
  (hb : G.blk k = some (some (b,base,sz,C))) (hc : Cov T' G k (.blk sz0 xs frz)) (hle : off + len ≤ xs.length) (hy : ys.length = len)
  (he : ∀ i,i < len → ∀ u,VR T G w (xs.getD (off + i) .dead) u → VR T' Gh.none w (ys.getD i .dead) u) (hcap : len ≤ cap) :
  VR T' Gh.none w (.fz ys) (.slice (some ⟨b,base + off * sz,.none⟩) len cap) := by
 have key : ∀ i,i < len → ∃ u : Value,u.cells.size = sz ∧ (∀ j,j < sz → w.cell? ⟨b,base + off * sz + i * sz + j,.none⟩ = some (u.cells.getD j undef) ∧ T' b (base + off * sz + i * sz + j)) ∧ VR T' Gh.none w (ys.getD i .dead) u ∧ ∀ y,u ≠ .tuple y := by
  intro i hi
  obtain ⟨h1,h2⟩ := h.deep_cell hb hc (i := off + i) (by omega)
  have e0 : ∀ j,base + off * sz + i * sz + j = base + (off + i) * sz + j := fun j => by rw [Nat.add_mul]; omega
  obtain ⟨u,u1,u2,u3,u4⟩ := whole_of (b := b) (o := base + (off + i) * sz) h1 fun j hj => let ⟨c,c1,_,c3,c4⟩ := h2 j hj; ⟨c,c1,c3,c4⟩
  refine ⟨u,u1,fun j hj => ?_,he i hi u u3,u4⟩
  rw [e0]
  exact ⟨u2 j hj,let ⟨_,_,c2,_⟩ := h2 j hj; c2⟩
 have hH : Held T' w ys b (base + off * sz) sz := by
  refine ⟨fun i hi => ?_,fun i j hi hj => ?_⟩ <;> rw [hy] at hi <;> obtain ⟨u,u1,u2,u3,u4⟩ := key i hi
  ·have ht : ∀ vs,ys.getD i .dead ≠ .tup vs := by
    intro vs hvs; rw [hvs] at u3
    cases u3 with
    | tup _ y => exact u4 _ rfl
   rw [← (u3.cells ht).1,u1]
  ·have ht : ∀ vs,ys.getD i .dead ≠ .tup vs := by
    intro vs hvs; rw [hvs] at u3
    cases u3 with
    | tup _ y => exact u4 _ rfl
   obtain ⟨c1,c2,c3⟩ := u3.cells ht
   rw [u1] at c1
   exact ⟨_,(u2 j hj).1,(u2 j hj).2,c2 j (by omega),c3 j (by omega)⟩
 have := hH.slice (G := Gh.none) (off := 0) (len := len) (cap := cap) (by omega) hcap
 rw [Nat.zero_mul,Nat.add_zero,List.drop_zero,List.take_of_length_le (by omega)] at this
 exact this
theorem snap_sound {P : Program} {B : Nat} {T T' : Nat → Nat → Prop} {G : Gh} {w : World} {en : En} (hents : ∀ k e,en k = some e → G.knows k → ER P B T G w k e) (m : Mono T G w T' G w) (n : Nat) :
  ∀ {v : Val} {x : Value} {v' : Val} {ks : List Key},VR T G w v x → snap n en v = some (v',ks) → (∀ k ∈ ks,∀ e,en k = some e → Cov T' G k e) → VR T' Gh.none w v' x := by
 have m0 : Mono T Gh.none w T' Gh.none w := m.none
 induction n with
 | zero =>
  intro v x v' ks hv hs hc
  have key : (∀ cs,v ≠ .agg cs) ∧ (∀ cs,v ≠ .tup cs) ∧ v' = .dead := by
   cases v <;> simp only [snap,Option.some.injEq,Prod.mk.injEq,reduceCtorEq] at hs <;> exact ⟨fun _ => by simp,fun _ => by simp,hs.1.symm⟩
  rw [key.2.2]
  exact .dead x (hv.one key.1 key.2.1)
 | succ n ih =>
  intro v x v' ks hv hs hc
  have lists : ∀ {vs : List Val} {rs : List (Val × List Key)} {xs : Nat → Value},mapO (snap n en) vs = some rs → (∀ i,i < vs.length → VR T G w (vs.getD i .dead) (xs i)) →
    (∀ k ∈ rs.flatMap (·.2),∀ e,en k = some e → Cov T' G k e) → (rs.map (·.1)).length = vs.length ∧ ∀ i,i < vs.length → VR T' Gh.none w ((rs.map (·.1)).getD i .dead) (xs i) := by
   intro vs rs xs h1 h2 h3
   obtain ⟨h4,h5⟩ := snaps_some h1
   refine ⟨h4,fun i hi => ?_⟩
   obtain ⟨ks',h6,h7⟩ := h5 i hi
   exact ih (h2 i hi) h6 fun k hk => h3 k (h7 k hk)
  cases hv with
  | yld k l h => simp only [snap] at hs; cases hs
  | it k r h => simp only [snap] at hs; cases hs
  | sl k off len b cap h hc => simp only [snap] at hs; cases hs
  | ptr k off b h =>
   simp only [snap] at hs
   split at hs
   ·rename_i cs f he
    simp only [Option.map_map,Option.map_eq_some_iff,Function.comp] at hs
    obtain ⟨rs,hrs,hh⟩ := hs
    simp only [Prod.mk.injEq] at hh
    obtain ⟨rfl,rfl⟩ := hh
    have hE := hents k _ he (Gh.knows_box h)
    have hcov := hc k (by simp) _ he
    cases hE with
    | box cs frz b' c t hb hB hh' hsz ho hv hown =>
     rw [h] at hb; simp only [Option.some.injEq] at hb; subst hb
     obtain ⟨l1,l2⟩ := lists (xs := fun j => c.getD j undef) hrs hv fun k' hk' => hc k' (by simp at hk' ⊢; exact .inr hk')
     have := VR.fp (T := T') (G := Gh.none) (w := w) (rs.map (·.1)) off b 0 (fun j => c.getD j undef)
      (fun j hj => by rw [l1] at hj; rw [cell_get hh',Nat.zero_add]; simp [show j < c.size by omega])
      (fun j hj => by rw [l1] at hj; rw [Nat.zero_add]; exact hcov b h j hj) (fun j hj => by rw [l1] at hj; exact ho j hj) (fun j hj => by rw [l1] at hj; exact l2 j hj)
     rwa [Nat.zero_add] at this
   ·cases hs
  | ep k i off b base sz C h hi =>
   simp only [snap] at hs
   split at hs
   ·rename_i sz0 xs f he
    split at hs
    ·cases hs
    rename_i hd
    split at hs
    ·rename_i y hy
     simp only [Option.some.injEq,Prod.mk.injEq] at hs
     obtain ⟨rfl,rfl⟩ := hs
     exact ((hents k _ he (Gh.knows_blk h)).held m h (hc k (by simp) _ he) (by simpa using hd)).elem hy
    ·cases hs
   ·cases hs
  | bl0 k a h =>
   simp only [snap] at hs
   split at hs
   ·split at hs
    ·split at hs
     ·simp only [List.take_zero,mapO,Option.map_some,List.map_nil,List.flatMap_nil,Option.some.injEq,Prod.mk.injEq] at hs
      obtain ⟨rfl,rfl⟩ := hs
      exact .fz0 a 0
     simp only [Option.some.injEq,Prod.mk.injEq] at hs
     obtain ⟨rfl,rfl⟩ := hs
     simp only [List.take_zero]; exact .fz0 a 0
    ·cases hs
   ·cases hs
  | bl k off len b base sz C h hl =>
   simp only [snap] at hs
   split at hs
   ·rename_i sz0 xs f he
    split at hs
    ·rename_i hle
     split at hs
     ·simp only [Option.map_map,Option.map_eq_some_iff,Function.comp] at hs
      obtain ⟨rs,hrs,hh⟩ := hs
      simp only [Prod.mk.injEq] at hh
      obtain ⟨rfl,rfl⟩ := hh
      have hlen : ((xs.drop off).take len).length = len := by simp; omega
      obtain ⟨q1,q2⟩ := snaps_some hrs
      rw [hlen] at q1 q2
      exact (hents k _ he (Gh.knows_blk h)).deep_held h (hc k (by simp) _ he) hle (by rw [List.length_map]; exact q1) (fun i hi u hu => by
       obtain ⟨ks',q3,q4⟩ := q2 i hi
       rw [getD_drop_take hi hle] at q3
       rw [wk1_getD]
       exact (ih hu q3 fun k' hk' => hc k' (List.mem_cons_of_mem _ (q4 k' hk'))).wk1) (by omega)
     ·rename_i hd
      simp only [Option.some.injEq,Prod.mk.injEq] at hs
      obtain ⟨rfl,rfl⟩ := hs
      exact ((hents k _ he (Gh.knows_blk h)).held m h (hc k (by simp) _ he) (by simpa using hd)).slice hle (by omega)
    ·cases hs
   ·cases hs
  | ble k a b base sz C h =>
   simp only [snap] at hs
   split at hs
   ·split at hs
    ·split at hs
     ·simp only [List.take_zero,mapO,Option.map_some,List.map_nil,List.flatMap_nil,Option.some.injEq,Prod.mk.injEq] at hs
      obtain ⟨rfl,rfl⟩ := hs
      exact .fz0 a 0
     simp only [Option.some.injEq,Prod.mk.injEq] at hs
     obtain ⟨rfl,rfl⟩ := hs
     simp only [List.take_zero]; exact .fz0 a 0
    ·cases hs
   ·cases hs
  | mp k r h =>
   simp only [snap] at hs
   split at hs
   ·rename_i ks' vs' f he
    simp only [Option.some.injEq,Prod.mk.injEq] at hs
    obtain ⟨rfl,rfl⟩ := hs
    have hcov := hc k (by simp) _ he
    have hE := hents k _ he (Gh.knows_mp h)
    cases hE with
    | map ks vs frz r' es clock hr hB hh hk hl hkv hvv hown =>
     rw [h] at hr; simp only [Option.some.injEq] at hr; subst hr
     exact .fm _ _ r es clock hh (hcov r h) hk hl (fun i hi => (hkv i hi).mono m0) (fun i hi => (hvv i hi).mono m0)
   ·cases hs
  | fn f a b x y ha hb hx hy =>
   simp only [snap] at hs
   split at hs
   ·rename_i r1 r2 h1 h2
    simp only [Option.map_eq_some_iff] at h1 h2
    obtain ⟨rs1,hr1,rfl⟩ := h1
    obtain ⟨rs2,hr2,rfl⟩ := h2
    simp only [Option.some.injEq,Prod.mk.injEq] at hs
    obtain ⟨rfl,rfl⟩ := hs
    obtain ⟨l1,l2⟩ := lists (xs := fun j => x.getD j undef) hr1 hx fun k' hk' => hc k' (List.mem_append_left _ hk')
    obtain ⟨l3,l4⟩ := lists (xs := fun j => y.getD j undef) hr2 hy fun k' hk' => hc k' (List.mem_append_right _ hk')
    exact .fn f _ _ x y (ha.trans l1.symm) (hb.trans l3.symm) (fun i hi => l2 i (by omega)) (fun i hi => l4 i (by omega))
   ·cases hs
  | ifc t u x h =>
   simp only [snap,Option.map_eq_some_iff] at hs
   obtain ⟨r,hr,hh⟩ := hs
   simp only [Prod.mk.injEq] at hh
   obtain ⟨rfl,rfl⟩ := hh
   exact .ifc t _ x (ih h hr hc)
  | agg cs x h ho hv =>
   simp only [snap,Option.map_map,Option.map_eq_some_iff,Function.comp] at hs
   obtain ⟨rs,hr,hh⟩ := hs
   simp only [Prod.mk.injEq] at hh
   obtain ⟨rfl,rfl⟩ := hh
   obtain ⟨l1,l2⟩ := lists (xs := fun j => x.getD j undef) hr hv hc
   exact .agg _ x (h.trans l1.symm) (fun i hi => ho i (by omega)) (fun i hi => l2 i (by omega))
  | tup vs x h hv =>
   simp only [snap,Option.map_map,Option.map_eq_some_iff,Function.comp] at hs
   obtain ⟨rs,hr,hh⟩ := hs
   simp only [Prod.mk.injEq] at hh
   obtain ⟨rfl,rfl⟩ := hh
   obtain ⟨l1,l2⟩ := lists (xs := fun j => x.getD j undef) hr hv hc
   exact .tup _ x (h.trans l1.symm) (fun i hi => l2 i (by omega))
  | dead x h => simp only [snap,Option.some.injEq,Prod.mk.injEq] at hs; obtain ⟨rfl,rfl⟩ := hs; exact .dead x h
  | bool b => simp only [snap,Option.some.injEq,Prod.mk.injEq] at hs; obtain ⟨rfl,rfl⟩ := hs; exact .bool b
  | int k n => simp only [snap,Option.some.injEq,Prod.mk.injEq] at hs; obtain ⟨rfl,rfl⟩ := hs; exact .int k n
  | str s => simp only [snap,Option.some.injEq,Prod.mk.injEq] at hs; obtain ⟨rfl,rfl⟩ := hs; exact .str s
  | nilp => simp only [snap,Option.some.injEq,Prod.mk.injEq] at hs; obtain ⟨rfl,rfl⟩ := hs; exact .nilp
  | fp cs off b base c h ht ho hv => simp only [snap,Option.some.injEq,Prod.mk.injEq] at hs; obtain ⟨rfl,rfl⟩ := hs; exact (VR.fp cs off b base c h ht ho hv).mono m0
  | fz0 a cap => simp only [snap,Option.some.injEq,Prod.mk.injEq] at hs; obtain ⟨rfl,rfl⟩ := hs; exact .fz0 a cap
  | fz xs b off sz cap c hc' hs' h ht ho hv => simp only [snap,Option.some.injEq,Prod.mk.injEq] at hs; obtain ⟨rfl,rfl⟩ := hs; exact (VR.fz xs b off sz cap c hc' hs' h ht ho hv).mono m0
  | cl0 a => simp only [snap,Option.some.injEq,Prod.mk.injEq] at hs; obtain ⟨rfl,rfl⟩ := hs; exact .cl0 a
  | cl xs b off sz c hs' h ht ho hv => simp only [snap,Option.some.injEq,Prod.mk.injEq] at hs; obtain ⟨rfl,rfl⟩ := hs; exact (VR.cl xs b off sz c hs' h ht ho hv).mono m0
  | nilm => simp only [snap,Option.some.injEq,Prod.mk.injEq] at hs; obtain ⟨rfl,rfl⟩ := hs; exact .nilm
  | fm ks vs r es clock h ht hk hl hkv hvv => simp only [snap,Option.some.injEq,Prod.mk.injEq] at hs; obtain ⟨rfl,rfl⟩ := hs; exact (VR.fm ks vs r es clock h ht hk hl hkv hvv).mono m0
  | nilf => simp only [snap,Option.some.injEq,Prod.mk.injEq] at hs; obtain ⟨rfl,rfl⟩ := hs; exact .nilf
  | nili => simp only [snap,Option.some.injEq,Prod.mk.injEq] at hs; obtain ⟨rfl,rfl⟩ := hs; exact .nili
  | es a cap => simp only [snap,Option.some.injEq,Prod.mk.injEq] at hs; obtain ⟨rfl,rfl⟩ := hs; exact .es a cap
end Go.Abs
namespace Go.Abs
open Go.RowKit (Below)
theorem eqCells_append : ∀ {s : List CT} {a c : List Val} (s' : List CT) (b d : List Val),a.length = s.length → c.length = s.length →
  eqCells (s ++ s') (a ++ b) (c ++ d) = (match eqCells s a c with | some true => eqCells s' b d | r => r)
 | [],[],[],s',b,d,_,_ => by simp [eqCells]
 | t :: s,x :: a,y :: c,s',b,d,h,h' => by
  simp only [List.cons_append,eqCells]
  cases eqCell t x y with
  | none => rfl
  | some t => cases t with
   | false => rfl
   | true => exact eqCells_append s' b d (by simpa using h) (by simpa using h')
 | [],_ :: _,_,_,_,_,h,_ => by simp at h
 | [],[],_ :: _,_,_,_,_,h => by simp at h
 | _ :: _,[],_,_,_,_,h,_ => by simp at h
 | _ :: _,_ :: _,[],_,_,_,_,h => by simp at h
theorem VR.not_agg {T : Nat → Nat → Prop} {G : Gh} {w : World} {v : Val} {x : Value} (h : VR T G w v x) (ho : oneV x = true) : ∀ cs,v ≠ .agg cs := by
 rintro cs rfl; cases h; cases ho
theorem run_isAgg {P : Program} {t : TypeId} {w : World} (h : P.underlying t ≠ none) : (isAgg t).run P w = .ok (isAggT P t) w := by
 obtain ⟨d,hd⟩ := Option.ne_none_iff_exists'.1 h
 simp only [isAgg,Sem.run_bind,run_underlying hd,Result.andThen_ok,isAggT,hd]
 cases d <;> rfl
theorem cells_underlying {P : Program} {t : TypeId} (h : P.cellsOf t ≠ 0) : ∃ i,P.info? t = some i := by
 simp only [Program.cellsOf] at h
 cases hi : P.info? t with
 | none => simp [hi] at h
 | some i => exact ⟨i,rfl⟩
theorem run_sizeOf {P : Program} {t : TypeId} {w : World} {i : TypeInfo} (h : P.info? t = some i) : (sizeOf t).run P w = .ok (P.cellsOf t) w := by
 simp [sizeOf,typeInfo,h,Program.cellsOf]
theorem info_of_underlying {P : Program} {t : TypeId} {d : TypeDesc} (h : P.underlying t = some d) : ∃ i,P.info? t = some i := by
 cases hi : P.info? t with
 | none => simp [Program.underlying,hi] at h
 | some i => exact ⟨i,rfl⟩
theorem isAggT_some {P : Program} {t : TypeId} (h : isAggT P t = true) : ∃ d,P.underlying t = some d := by
 unfold isAggT at h; split at h
 ·exact ⟨_,by assumption⟩
 ·exact ⟨_,by assumption⟩
 ·cases h
theorem part_agg {P : Program} {T : Nat → Nat → Prop} {G : Gh} {w : World} {t : TypeId} {off n : Nat} {zs : List Val} {us : Array Value} (ha : isAggT P t = true) (hn : P.cellsOf t = n) (hl : off + n ≤ zs.length)
  (hus : us.size = zs.length) (hon : ∀ i,i < zs.length → oneV (us.getD i undef) = true) (hvs : ∀ i,i < zs.length → VR T G w (zs.getD i .dead) (us.getD i undef)) :
  ∃ u,(part t us off).run P w = .ok u w ∧ VR T G w (.agg ((zs.drop off).take n)) u := by
 obtain ⟨d,hd⟩ := isAggT_some ha
 obtain ⟨i,hi⟩ := info_of_underlying hd
 refine ⟨.agg (us.extract off (off + n)),?_,?_⟩
 ·simp only [part,Sem.run_bind,run_isAgg (P := P) (t := t) (w := w) (by rw [hd]; simp),ha,Result.andThen_ok,if_true,run_sizeOf hi,hn,Sem.run_pure]
 ·have hlen : ((zs.drop off).take n).length = n := by simp; omega
  have hget : ∀ i,i < n → (us.extract off (off + n)).getD i undef = us.getD (off + i) undef := by
   intro i hi
   simp only [Array.getD_eq_getD_getElem?,Array.getElem?_extract]
   rw [if_pos (by omega)]
  refine .agg _ _ (by simp; omega) (fun i hi => ?_) (fun i hi => ?_)
  ·rw [hlen] at hi; rw [hget i hi]; exact hon _ (by omega)
  ·rw [hlen] at hi; rw [hget i hi,getD_drop_take hi hl]; exact hvs _ (by omega)
theorem part_one {P : Program} {w : World} {t : TypeId} {off : Nat} {us : Array Value} (ha : isAggT P t = false) (hl : off < us.size) (hu : P.underlying t ≠ none := by assumption) :
  (part t us off).run P w = .ok (us.getD off undef) w := by
 simp only [part,Sem.run_bind,run_isAgg hu,ha,Result.andThen_ok,Bool.false_eq_true,if_false]
 simp [hl]
theorem plain_cells {P : Program} {k : Nat} {t : TypeId} {m : List CT} (hm : plainT P k t = some m) : P.cellsOf t = m.length := by
 cases k with
 | zero => simp [plainT] at hm
 | succ k =>
  simp only [plainT] at hm
  split at hm
  ·split at hm <;> simp only [Option.some.injEq,reduceCtorEq] at hm; subst hm; assumption
  ·split at hm <;> simp only [Option.some.injEq,reduceCtorEq] at hm; subst hm; assumption
  ·split at hm <;> simp only [Option.some.injEq,reduceCtorEq] at hm; subst hm; assumption
  ·split at hm
   ·cases hm
   ·split at hm
    ·split at hm
     ·simp only [Option.some.injEq] at hm; subst hm; assumption
     ·cases hm
    ·cases hm
  ·split at hm
   ·split at hm
    ·rename_i h; simp only [Option.some.injEq] at hm; subst hm; rw [h]; simp
    ·cases hm
   ·cases hm
  ·cases hm
theorem plain_info {P : Program} {k : Nat} {t : TypeId} {m : List CT} (hm : plainT P k t = some m) : P.underlying t ≠ none := by
 intro h0
 cases k with
 | zero => simp [plainT] at hm
 | succ k => simp [plainT,h0] at hm
theorem plain_one {P : Program} {k : Nat} {t : TypeId} {m : List CT} (hm : plainT P k t = some m) (ha : isAggT P t = false) : m.length = 1 := by
 cases k with
 | zero => simp [plainT] at hm
 | succ k =>
  simp only [plainT] at hm
  split at hm
  ·split at hm <;> simp only [Option.some.injEq,reduceCtorEq] at hm; subst hm; rfl
  ·split at hm <;> simp only [Option.some.injEq,reduceCtorEq] at hm; subst hm; rfl
  ·split at hm <;> simp only [Option.some.injEq,reduceCtorEq] at hm; subst hm; rfl
  ·rename_i hs'; simp [isAggT,hs'] at ha
  ·rename_i hs'; simp [isAggT,hs'] at ha
  ·cases hm
theorem part_plain {P : Program} {T : Nat → Nat → Prop} {G : Gh} {w : World} {k : Nat} {t : TypeId} {m : List CT} {off : Nat} (hm : plainT P k t = some m) (zs : List Val) (us : Array Value) (hcount : off + m.length ≤ zs.length)
  (hus : us.size = zs.length) (hon : ∀ i,i < zs.length → oneV (us.getD i undef) = true) (hvs : ∀ i,i < zs.length → VR T G w (zs.getD i .dead) (us.getD i undef)) :
  ∃ z u,(part t us off).run P w = .ok u w ∧ VR T G w z u ∧ z.cells = (zs.drop off).take m.length ∧ (isAggT P t = true → ∃ cs,z = .agg cs) ∧ (isAggT P t = false → ∀ cs,z ≠ .agg cs) := by
 cases ha : isAggT P t with
 | true =>
  obtain ⟨u,pu,vu⟩ := part_agg (w := w) (off := off) ha (plain_cells hm) hcount hus hon hvs
  exact ⟨_,u,pu,vu,rfl,fun _ => ⟨_,rfl⟩,fun h => by cases h⟩
 | false =>
  have hm1 := plain_one hm ha
  have hlt : off < zs.length := by omega
  have hna : ∀ cs,zs.getD off .dead ≠ .agg cs := VR.not_agg (hvs _ hlt) (hon _ hlt)
  refine ⟨zs.getD off .dead,us.getD off undef,part_one ha (by omega) (plain_info hm),hvs _ hlt,?_,(fun h => by cases h),fun _ => hna⟩
  have : (zs.drop off).take m.length = [zs.getD off .dead] := by
   rw [hm1,List.drop_eq_getElem_cons hlt,List.take_succ_cons,List.take_zero]; simp [List.getD_eq_getElem?_getD,hlt]
  rw [this]
  generalize zs.getD off .dead = z at hna
  cases z <;> first | rfl | exact absurd rfl (hna _)
theorem unlike_ok {P : Program} {n : Nat} {a t : TypeId} (h : unlike P a t = true) : P.alikeButTags (n + 1) a t = false := by
 simp only [unlike,Bool.and_eq_true,bne_iff_ne,ne_eq] at h
 obtain ⟨h1,h2⟩ := h
 have h1' : (a == t) = false := by simpa using h1
 split at h2
 ·rename_i fs gs e1 e2
  simp only [Program.alikeButTags,h1',e1,e2,Bool.false_or]
  by_cases hz : fs.size = gs.size
  ·simp only [hz,bne_self_eq_false,Bool.false_or] at h2
   split at h2
   ·rename_i f fl g gl e3 e4
    rw [Bool.and_eq_false_iff]; right
    rw [← Array.all_toList,Array.toList_zip,e3,e4]
    simp only [List.zip_cons_cons,List.all_cons]
    have : (f.name == g.name) = false := by simpa using h2
    simp [this]
   ·cases h2
  ·simp [hz]
 ·rename_i x gs hx e1 e2
  simp only [Program.alikeButTags,h1',e1,e2,Bool.false_or]
  split <;> first | rfl | (simp_all; done)
 ·cases h2
theorem stood_no {P : Program} {t : TypeId} (h : stoodQ P t = false) : P.stoodInHeld t = false := by
 have h0 : ∀ c ∈ P.cutTypes.toList,P.alikeButTags P.depth (P.underlyingId c.2) (P.underlyingId t) = false := by
  intro c hc
  have := (List.any_eq_false.1 h) c hc
  exact unlike_ok (n := 2 * (P.types.size + Made.depth) + 1) (by simpa using this)
 unfold Program.stoodInHeld Program.stoodInAs
 split
 ·rw [List.filter_eq_nil_iff.2 (fun c hc => by simp [h0 c hc])]; rfl
 ·rfl
theorem plain_fields {f : TypeId → Option (List CT)} : ∀ {l : List Field} {a b : List CT},plainFs f l a = some b → ∀ x ∈ l,∃ m,f x.type = some m
 | [],_,_,_,x,hx => by cases hx
 | y :: l,a,b,h,x,hx => by
  simp only [plainFs] at h
  split at h
  ·split at h
   ·rename_i m hm
    rcases List.mem_cons.1 hx with rfl | hx
    ·exact ⟨m,hm⟩
    ·exact plain_fields h x hx
   ·cases h
  ·cases h
theorem plain_guard {P : Program} : ∀ (k : Nat) {t : TypeId} {l : List CT},plainT P k t = some l → ∀ {d : Nat},k ≤ d → P.eqGuardType d t = false
 | 0,t,l,h,_,_ => by simp [plainT] at h
 | k + 1,t,l,h,d,hd => by
  obtain ⟨d,rfl⟩ : ∃ m,d = m + 1 := ⟨d - 1,by omega⟩
  simp only [plainT] at h
  unfold Program.eqGuardType
  split at h
  all_goals first | (cases h; done) | skip
  all_goals rename_i hu
  all_goals simp only [hu]
  ·split at h
   ·cases h
   ·split at h
    ·rename_i hf
     rw [← Array.any_toList,List.any_eq_false]
     intro x hx
     obtain ⟨m,hm⟩ := plain_fields hf x hx
     simp [plain_guard k hm (d := d) (by omega)]
    ·cases h
  ·split at h
   ·rename_i hm; exact plain_guard k hm (by omega)
   ·cases h
theorem eq_plain {P : Program} {T : Nat → Nat → Prop} {G : Gh} {w : World} (k : Nat) : ∀ (t : TypeId) (l : List CT),plainT P k t = some l → ∀ (d : Nat),k ≤ d → ∀ {x y : Val} {u v : Value} {r : Bool},
  VR T G w x u → VR T G w y v → x.cells.length = l.length → y.cells.length = l.length → (isAggT P t = true → (∃ cs,x = .agg cs) ∧ ∃ ds,y = .agg ds) → (isAggT P t = false → (∀ cs,x ≠ .agg cs) ∧ (∀ ds,y ≠ .agg ds)) →
  eqCells l x.cells y.cells = some r → (Op.equalIn d t u v).run P w = .ok r w := by
 induction k with
 | zero => intro t l h; simp [plainT] at h
 | succ k ih =>
  intro t l h d hd x y u v r hx hy hlx hly hagg hnagg he
  obtain ⟨d,rfl⟩ : ∃ m,d = m + 1 := ⟨d - 1,by omega⟩
  have scalar : ∀ {ct : CT},l = [ct] → isAggT P t = false → ∃ r',eqCell ct x y = some r' ∧ r' = r := by
   intro ct hl ha
   have hx1 := hnagg ha
   have hcx : x.cells = [x] := by cases x <;> first | rfl | exact absurd rfl (hx1.1 _)
   have hcy : y.cells = [y] := by cases y <;> first | rfl | exact absurd rfl (hx1.2 _)
   rw [hl,hcx,hcy] at he
   simp only [eqCells] at he
   split at he
   ·rename_i h1; exact ⟨true,h1,by simpa using he⟩
   ·rename_i h1; exact ⟨false,h1,by simpa using he⟩
   ·cases he
  simp only [plainT] at h
  split at h
  ·rename_i kk hu
   split at h
   ·simp only [Option.some.injEq] at h
    obtain ⟨r',h1,rfl⟩ := scalar h.symm (by simp [isAggT,hu])
    cases hx <;> cases hy <;> simp only [eqCell,reduceCtorEq] at h1
    rename_i k1 n1 k2 n2
    split at h1
    ·rename_i e; subst e; simp only [Option.some.injEq] at h1; subst h1
     exact run_equalIn_int w d t _ _ _ _ hu
    ·cases h1
   ·cases h
  ·rename_i hu
   split at h
   ·simp only [Option.some.injEq] at h
    obtain ⟨r',h1,rfl⟩ := scalar h.symm (by simp [isAggT,hu])
    cases hx <;> cases hy <;> simp only [eqCell,reduceCtorEq] at h1
    simp only [Option.some.injEq] at h1; subst h1
    exact run_equalIn_bool' w d t _ _ hu
   ·cases h
  ·rename_i hu
   split at h
   ·simp only [Option.some.injEq] at h
    obtain ⟨r',h1,rfl⟩ := scalar h.symm (by simp [isAggT,hu])
    cases hx <;> cases hy <;> simp only [eqCell,reduceCtorEq] at h1
    simp only [Option.some.injEq] at h1; subst h1
    exact run_equalIn_string w d t _ _ hu
   ·cases h
  ·rename_i fs hu
   split at h
   ·cases h
   ·rename_i hst
    split at h
    ·rename_i l' hl'
     split at h
     ·rename_i hcells
      simp only [Option.some.injEq] at h; subst h
      obtain ⟨⟨cs,rfl⟩,⟨ds,rfl⟩⟩ := hagg (by simp [isAggT,hu])
      cases hx with
      | agg _ xs hxs hox hvx =>
      cases hy with
      | agg _ ys hys hoy hvy =>
      simp only [Val.cells] at hlx hly he
      have hfo : P.fieldsOf t = fs := by simp [Program.fieldsOf,hu]
      rw [run_equalIn_agg w d t xs ys (by rw [hfo]; exact hu) (stood_no (by simpa using hst)),hfo]
      have key : ∀ (fl : List Field) (done : List CT),plainFs (plainT P k) fl done = some l' → ∀ r,eqCells (l'.drop done.length) (cs.drop done.length) (ds.drop done.length) = some r →
        (Op.eqFields d xs ys fl).run P w = .ok r w := by
       intro fl
       induction fl with
       | nil =>
        intro done h1 r h2
        simp only [plainFs,Option.some.injEq] at h1; subst h1
        have e1 : cs.drop done.length = [] := by simp; omega
        have e2 : ds.drop done.length = [] := by simp; omega
        have e3 : done.drop done.length = [] := by simp
        rw [e1,e2,e3] at h2
        simp only [eqCells,Option.some.injEq] at h2; subst h2
        simp [Op.eqFields]
       | cons f fl ihf =>
        intro done h1 r h2
        simp only [plainFs] at h1
        split at h1
        ·rename_i hf
         split at h1
         ·rename_i m hm
          have hpre : ∃ rest,l' = done ++ m ++ rest := by
           have : ∀ (fl : List Field) (a b : List CT),plainFs (plainT P k) fl a = some b → ∃ r,b = a ++ r := by
            intro fl
            induction fl with
            | nil => intro a b h; simp only [plainFs,Option.some.injEq] at h; exact ⟨[],by simp [h]⟩
            | cons g fl ig =>
             intro a b h
             simp only [plainFs] at h
             split at h
             ·split at h
              ·obtain ⟨r,hr⟩ := ig _ _ h; exact ⟨_,by rw [hr,List.append_assoc]⟩
              ·cases h
             ·cases h
           exact this _ _ _ h1
          obtain ⟨rest,hrest⟩ := hpre
          have hml : done.length + m.length ≤ l'.length := by rw [hrest]; simp
          have d1 : l'.drop done.length = m ++ l'.drop (done ++ m).length := by rw [hrest]; simp
          have d2 : ∀ (zs : List Val),zs.length = l'.length → zs.drop done.length = (zs.drop done.length).take m.length ++ zs.drop (done ++ m).length := by
           intro zs hz
           rw [List.length_append,← List.drop_drop,List.take_append_drop]
          rw [d1,d2 cs hlx,d2 ds hly,eqCells_append _ _ _ (by simp; omega) (by simp; omega)] at h2
          have hval : ∀ (zs : List Val) (us : Array Value),us.size = zs.length → zs.length = l'.length → (∀ i,i < zs.length → oneV (us.getD i undef) = true) → (∀ i,i < zs.length → VR T G w (zs.getD i .dead) (us.getD i undef)) →
            ∃ z u,(part f.type us f.offset).run P w = .ok u w ∧ VR T G w z u ∧ z.cells = (zs.drop done.length).take m.length ∧ (isAggT P f.type = true → ∃ cs,z = .agg cs) ∧ (isAggT P f.type = false → ∀ cs,z ≠ .agg cs) := by
           intro zs us hus hzs hon hvs
           rw [hf.2]
           exact part_plain hm zs us (by omega) hus hon hvs
          obtain ⟨zx,ux,px,vx,cx,ax,nx⟩ := hval cs xs hxs hlx hox hvx
          obtain ⟨zy,uy,py,vy,cy,ay,ny⟩ := hval ds ys hys hly hoy hvy
          simp only [Op.eqFields,hf.1,ne_eq,not_false_iff,if_true,Sem.run_bind,px,py,Result.andThen_ok]
          have hstep : ∀ r',eqCells m zx.cells zy.cells = some r' → (Op.equalIn d f.type ux uy).run P w = .ok r' w := fun r' hr' =>
           ih f.type m hm d (by omega) vx vy (by rw [cx]; simp; omega) (by rw [cy]; simp; omega) (fun h => ⟨ax h,ay h⟩) (fun h => ⟨nx h,ny h⟩) hr'
          rw [← cx,← cy] at h2
          split at h2
          ·rename_i he1
           rw [hstep true he1]
           simp only [Result.andThen_ok,Bool.not_true,Bool.false_eq_true,if_false]
           exact ihf (done ++ m) h1 r h2
          ·rename_i hne
           rw [hstep r h2]
           cases r with
           | true => exact absurd h2 hne
           | false => simp
         ·cases h1
        ·cases h1
      exact key fs.toList [] hl' r (by simpa using he)
     ·cases h
    ·cases h
  ·rename_i n e hu
   split at h
   ·rename_i m hm
    split at h
    ·rename_i hcells
     simp only [Option.some.injEq] at h; subst h
     obtain ⟨⟨cs,rfl⟩,⟨ds,rfl⟩⟩ := hagg (by simp [isAggT,hu])
     cases hx with
     | agg _ xs hxs hox hvx =>
     cases hy with
     | agg _ ys hys hoy hvy =>
     have hlen : (List.replicate n m).flatten.length = n * m.length := by simp
     simp only [Val.cells] at hlx hly he
     rw [hlen] at hlx hly
     obtain ⟨dd,hdd⟩ := Option.ne_none_iff_exists'.1 (plain_info hm)
     obtain ⟨i,hi⟩ := info_of_underlying hdd
     rw [run_equalIn_array w d xs ys hu hi,plain_cells hm]
     have key : ∀ (j a : Nat),a + j = n → ∀ r,eqCells (List.replicate j m).flatten (cs.drop (a * m.length)) (ds.drop (a * m.length)) = some r →
       (Op.eqItems d e m.length xs ys (List.range' a j)).run P w = .ok r w := by
      intro j
      induction j with
      | zero =>
       intro a ha r h2
       have ha' : a = n := by omega
       subst ha'
       have e1 : cs.drop (a * m.length) = [] := by simp; omega
       have e2 : ds.drop (a * m.length) = [] := by simp; omega
       rw [e1,e2] at h2
       simp only [List.replicate_zero,List.flatten_nil,eqCells,Option.some.injEq] at h2; subst h2
       simp [Op.eqItems]
      | succ j ihj =>
       intro a ha r h2
       have hb : a * m.length + m.length ≤ n * m.length := by rw [← Nat.succ_mul]; exact Nat.mul_le_mul_right _ (by omega)
       obtain ⟨zx,ux,px,vx,cx,ax,nx⟩ := part_plain (P := P) (T := T) (G := G) (w := w) hm cs xs (off := a * m.length) (by omega) hxs hox hvx
       obtain ⟨zy,uy,py,vy,cy,ay,ny⟩ := part_plain (P := P) (T := T) (G := G) (w := w) hm ds ys (off := a * m.length) (by omega) hys hoy hvy
       have d2 : ∀ (zs : List Val),zs.drop (a * m.length) = (zs.drop (a * m.length)).take m.length ++ zs.drop ((a + 1) * m.length) := by
        intro zs
        rw [Nat.succ_mul,← List.drop_drop,List.take_append_drop]
       rw [List.replicate_succ,List.flatten_cons,d2 cs,d2 ds,eqCells_append _ _ _ (by simp; omega) (by simp; omega),← cx,← cy] at h2
       simp only [List.range'_succ,Op.eqItems,Sem.run_bind,px,py,Result.andThen_ok]
       have hstep : ∀ r',eqCells m zx.cells zy.cells = some r' → (Op.equalIn d e ux uy).run P w = .ok r' w := fun r' hr' =>
        ih e m hm d (by omega) vx vy (by rw [cx]; simp; omega) (by rw [cy]; simp; omega) (fun h => ⟨ax h,ay h⟩) (fun h => ⟨nx h,ny h⟩) hr'
       split at h2
       ·rename_i he1
        rw [hstep true he1]
        simp only [Result.andThen_ok,Bool.not_true,Bool.false_eq_true,if_false]
        exact ihj (a + 1) (by omega) r h2
       ·rename_i hne
        rw [hstep r h2]
        cases r with
        | true => exact absurd h2 hne
        | false => simp
     rw [List.range_eq_range']
     exact key n 0 (by simp) r (by simpa using he)
    ·cases h
   ·cases h
  ·cases h
end Go.Abs
namespace Go.Abs
open Go.RowKit (Below)
theorem tag_bool {P : Program} {t : TypeId} (h : eqTag P t = some .bool) : P.underlying t = some .bool := by
 unfold eqTag at h; split at h <;> first | assumption | (simp at h; done) | (split at h <;> simp at h)
theorem tag_map {P : Program} {t : TypeId} (h : eqTag P t = some .map) : ∃ k e,P.underlying t = some (.map k e) := by
 unfold eqTag at h; split at h <;> first | exact ⟨_,_,by assumption⟩ | (simp at h; done) | (split at h <;> simp at h)
theorem tag_func {P : Program} {t : TypeId} (h : eqTag P t = some .func) : ∃ a b c,P.underlying t = some (.func a b c) := by
 unfold eqTag at h; split at h <;> first | exact ⟨_,_,_,by assumption⟩ | (simp at h; done) | (split at h <;> simp at h)
theorem tag_ptr {P : Program} {t : TypeId} (h : eqTag P t = some .ptr) : ∃ e,P.underlying t = some (.pointer e) := by
 unfold eqTag at h; split at h <;> first | exact ⟨_,by assumption⟩ | (simp at h; done) | (split at h <;> simp at h)
theorem tag_iface {P : Program} {t : TypeId} (h : eqTag P t = some .iface) : ∃ e,P.underlying t = some (.interface e) := by
 unfold eqTag at h; split at h <;> first | exact ⟨_,by assumption⟩ | (simp at h; done) | (split at h <;> simp at h)
theorem tag_agg {P : Program} {t : TypeId} {l : List CT} (h : eqTag P t = some (.agg l)) : P.eqGuardType P.depth t = false ∧ plainT P 6 t = some l ∧ isAggT P t = true := by
 unfold eqTag at h
 split at h <;> first | (simp at h; done) | skip
 all_goals
  rename_i hu
  split at h
  ·cases h
  ·rename_i hg
   simp only [Option.map_eq_some_iff,EqT.agg.injEq,exists_eq_right] at h
   exact ⟨plain_guard 6 h (by unfold Program.depth; omega),h,by simp [isAggT,hu]⟩
theorem run_equal {P : Program} {w : World} {t : TypeId} {x y : Value} {r : Bool} (h : (Op.equalIn 10000 t x y).run P w = .ok r w) : (Op.equal t x y).run P w = .ok r w := h
theorem eql_of {P : Program} {w : World} {t : TypeId} {ox oy : Operand} {x y : Value} {r : Bool} (hg : (eqGuard .eql t ox oy x y).run P w = .ok () w) (h : (binOp .eql t x y).run P w = .ok (.bool r) w) :
  (do eqGuard .eql t ox oy x y; binOp .eql t x y : Sem Value).run P w = .ok (.bool r) w := by
 simp only [Sem.run_bind,hg,Result.andThen_ok,h]
theorem neq_of {P : Program} {w : World} {t : TypeId} {ox oy : Operand} {x y : Value} {r : Bool} (hg : (eqGuard .neq t ox oy x y).run P w = .ok () w) (h : (binOp .neq t x y).run P w = .ok (.bool r) w) :
  (do eqGuard .neq t ox oy x y; binOp .neq t x y : Sem Value).run P w = .ok (.bool r) w := by
 simp only [Sem.run_bind,hg,Result.andThen_ok,h]
section
variable {P : Program} {w : World} (d : Nat) {t : TypeId}
theorem eqi_map1 {k e : TypeId} (h : P.underlying t = some (.map k e)) (r : Option Nat) : (Op.equalIn (d + 1) t (.map .none) (.map r)).run P w = .ok r.isNone w := by simp [Op.equalIn,run_underlying h]
theorem eqi_map2 {k e : TypeId} (h : P.underlying t = some (.map k e)) (r : Nat) : (Op.equalIn (d + 1) t (.map (some r)) (.map .none)).run P w = .ok false w := by simp [Op.equalIn,run_underlying h]
theorem eqi_func0 {a b : Array TypeId} {c : Bool} (h : P.underlying t = some (.func a b c)) : (Op.equalIn (d + 1) t .nilFunc .nilFunc).run P w = .ok true w := by simp [Op.equalIn,run_underlying h]
theorem eqi_func1 {a b : Array TypeId} {c : Bool} (h : P.underlying t = some (.func a b c)) (f : Fn) (x y : Array Value) : (Op.equalIn (d + 1) t (.func f x y) .nilFunc).run P w = .ok false w := by simp [Op.equalIn,run_underlying h]
theorem eqi_func2 {a b : Array TypeId} {c : Bool} (h : P.underlying t = some (.func a b c)) (f : Fn) (x y : Array Value) : (Op.equalIn (d + 1) t .nilFunc (.func f x y)).run P w = .ok false w := by simp [Op.equalIn,run_underlying h]
theorem eqi_ptr0 {e : TypeId} (h : P.underlying t = some (.pointer e)) : (Op.equalIn (d + 1) t (.pointer .none) (.pointer .none)).run P w = .ok true w := by simp [Op.equalIn,run_underlying h]
theorem eqi_ptr1 {e : TypeId} (h : P.underlying t = some (.pointer e)) (a : Addr) : (Op.equalIn (d + 1) t (.pointer (some a)) (.pointer .none)).run P w = .ok false w := by simp [Op.equalIn,run_underlying h]
theorem eqi_if0 {ms : Array (String × TypeId)} (h : P.underlying t = some (.interface ms)) : (Op.equalIn (d + 1) t .nilIface .nilIface).run P w = .ok true w := by simp [Op.equalIn,run_underlying h]
theorem eqi_if1 {ms : Array (String × TypeId)} (h : P.underlying t = some (.interface ms)) (u : TypeId) (x : Value) : (Op.equalIn (d + 1) t (.iface u x) .nilIface).run P w = .ok false w := by simp [Op.equalIn,run_underlying h]
theorem eqi_if2 {ms : Array (String × TypeId)} (h : P.underlying t = some (.interface ms)) (u : TypeId) (x : Value) : (Op.equalIn (d + 1) t .nilIface (.iface u x)).run P w = .ok false w := by simp [Op.equalIn,run_underlying h]
end
theorem eqi_slice {P : Program} {w : World} {t e : TypeId} (d : Nat) (h : P.underlying t = some (.slice e)) (a : Option Addr) (n c n' c' : Nat) : (Op.equalIn (d + 1) t (.slice a n c) (.slice none n' c')).run P w = .ok a.isNone w := by
 cases a <;> simp [Op.equalIn,run_underlying h]
theorem tag_slice {P : Program} {t : TypeId} (h : eqTag P t = some .slice) : ∃ e,P.underlying t = some (.slice e) := by
 unfold eqTag at h
 split at h <;> simp at h
 exact ⟨_,by assumption⟩
theorem eqGuard_at_slice {op : BinOp} {t : TypeId} {x y : Operand} {a b : Option Addr} {n c n' c' : Nat} : eqGuard op t x y (.slice a n c) (.slice b n' c') = pure () := by
 cases op <;> rfl
theorem eqGuard_nils {P : Program} {w : World} {op : BinOp} {t : TypeId} {x y : Operand} (h : constly x = true ∨ constly y = true) : (eqGuard op t x y .nilIface .nilIface).run P w = .ok () w := by
 unfold eqGuard
 cases op <;> first
  | rfl
  |(rcases h with h | h
    ·cases x <;> simp [constly] at h; rfl
    ·cases y <;> simp [constly] at h; cases x <;> rfl)
theorem eqVal_sound {P : Program} {T : Nat → Nat → Prop} {G : Gh} {w : World} {ty : TypeId} {t : EqT} {ox oy : Operand} {X Y : Val} {x y : Value} {r : Bool} (ht : eqTag P ty = some t) (hk : t = .iface → constly ox = true ∨ constly oy = true)
  (hx : VR T G w X x) (hy : VR T G w Y y) (h : eqVal t X Y = some r) :
  (do eqGuard .eql ty ox oy x y; binOp .eql ty x y : Sem Value).run P w = .ok (.bool r) w ∧ (do eqGuard .neq ty ox oy x y; binOp .neq ty x y : Sem Value).run P w = .ok (.bool !r) w := by
 have fin : (∀ op,(eqGuard op ty ox oy x y).run P w = .ok () w) → (binOp .eql ty x y).run P w = .ok (.bool r) w → (binOp .neq ty x y).run P w = .ok (.bool !r) w →
   (do eqGuard .eql ty ox oy x y; binOp .eql ty x y : Sem Value).run P w = .ok (.bool r) w ∧ (do eqGuard .neq ty ox oy x y; binOp .neq ty x y : Sem Value).run P w = .ok (.bool !r) w :=
  fun hg h1 h2 => ⟨eql_of (hg _) h1,neq_of (hg _) h2⟩
 have deep : (∀ op,(eqGuard op ty ox oy x y).run P w = .ok () w) → (∀ op,op = .eql ∨ op = .neq → (binOp op ty x y) = (if op = .eql then do pure (.bool (← Op.equal ty x y)) else do pure (.bool (!(← Op.equal ty x y))))) →
   (Op.equal ty x y).run P w = .ok r w → (do eqGuard .eql ty ox oy x y; binOp .eql ty x y : Sem Value).run P w = .ok (.bool r) w ∧ (do eqGuard .neq ty ox oy x y; binOp .neq ty x y : Sem Value).run P w = .ok (.bool !r) w := by
  intro hg hb he
  refine fin hg ?_ ?_
  ·rw [hb _ (.inl rfl)]; simp [he]
  ·rw [hb _ (.inr rfl)]; simp [he]
 unfold eqVal at h
 split at h
 ·rename_i j a k b
  split at h
  ·rename_i e; subst e; simp only [Option.some.injEq] at h; subst h
   cases hx; cases hy
   exact fin (fun op => by simp [eqGuard_at_int]) (by simp [binOp_eql]) (by simp [binOp_neq,bne])
  ·cases h
 ·simp only [Option.some.injEq] at h; subst h
  cases hx; cases hy
  refine deep (fun op => by simp [eqGuard_at_bool]) (fun op ho => by rcases ho with rfl | rfl <;> rfl) ?_
  exact run_equal (run_equalIn_bool' w 9999 ty _ _ (tag_bool ht))
 ·simp only [Option.some.injEq] at h; subst h
  cases hx; cases hy
  exact fin (fun op => by simp [eqGuard_at_string]) (by simp [binOp,Op.stringOp]) (by simp [binOp,Op.stringOp])
 ·rename_i l xs ys
  split at h
  ·rename_i hlen
   obtain ⟨h1,h2,h3⟩ := tag_agg ht
   cases hx with
   | agg _ us hus hou hvu =>
   cases hy with
   | agg _ vs hvs hov hvv =>
   refine deep (fun op => run_eqGuard_agg w op ty ox oy us vs h1) (fun op ho => by rcases ho with rfl | rfl <;> rfl) ?_
   exact run_equal (eq_plain 6 ty l h2 10000 (by omega) (.agg xs us hus hou hvu) (.agg ys vs hvs hov hvv) hlen.1 hlen.2 (fun _ => ⟨⟨_,rfl⟩,⟨_,rfl⟩⟩) (fun h => by rw [h3] at h; cases h) h)
  ·cases h
 ·simp only [Option.some.injEq] at h; subst h
  obtain ⟨k,e,hu⟩ := tag_map ht
  cases hx; cases hy
  refine deep (fun op => by simp [eqGuard_at_map]) (fun op ho => by rcases ho with rfl | rfl <;> rfl) (run_equal (eqi_map1 9999 hu none))
 ·simp only [Option.some.injEq] at h; subst h
  obtain ⟨k,e,hu⟩ := tag_map ht
  cases hx; cases hy
  refine deep (fun op => by simp [eqGuard_at_map]) (fun op ho => by rcases ho with rfl | rfl <;> rfl) (run_equal (eqi_map2 9999 hu _))
 ·simp only [Option.some.injEq] at h; subst h
  obtain ⟨k,e,hu⟩ := tag_map ht
  cases hx; cases hy
  refine deep (fun op => by simp [eqGuard_at_map]) (fun op ho => by rcases ho with rfl | rfl <;> rfl) (run_equal (eqi_map2 9999 hu _))
 ·simp only [Option.some.injEq] at h; subst h
  obtain ⟨k,e,hu⟩ := tag_map ht
  cases hx; cases hy
  refine deep (fun op => by simp [eqGuard_at_map]) (fun op ho => by rcases ho with rfl | rfl <;> rfl) (run_equal (eqi_map1 9999 hu (some _)))
 ·simp only [Option.some.injEq] at h; subst h
  obtain ⟨k,e,hu⟩ := tag_map ht
  cases hx; cases hy
  refine deep (fun op => by simp [eqGuard_at_map]) (fun op ho => by rcases ho with rfl | rfl <;> rfl) (run_equal (eqi_map1 9999 hu (some _)))
 ·simp only [Option.some.injEq] at h; subst h
  obtain ⟨k,e,f,hu⟩ := tag_func ht
  cases hx; cases hy
  refine deep (fun op => by simp [eqGuard_at_nilFunc]) (fun op ho => by rcases ho with rfl | rfl <;> rfl) (run_equal (eqi_func0 9999 hu))
 ·simp only [Option.some.injEq] at h; subst h
  obtain ⟨k,e,f,hu⟩ := tag_func ht
  cases hx; cases hy
  refine deep (fun op => by simp [eqGuard_at_func]) (fun op ho => by rcases ho with rfl | rfl <;> rfl) (run_equal (eqi_func1 9999 hu _ _ _))
 ·simp only [Option.some.injEq] at h; subst h
  obtain ⟨k,e,f,hu⟩ := tag_func ht
  cases hx; cases hy
  refine deep (fun op => by simp [eqGuard_at_nilFunc]) (fun op ho => by rcases ho with rfl | rfl <;> rfl) (run_equal (eqi_func2 9999 hu _ _ _))
 ·simp only [Option.some.injEq] at h; subst h
  obtain ⟨e,hu⟩ := tag_ptr ht
  cases hx; cases hy
  refine deep (fun op => by simp [eqGuard_at_pointer]) (fun op ho => by rcases ho with rfl | rfl <;> rfl) (run_equal (eqi_ptr0 9999 hu))
 ·simp only [Option.some.injEq] at h; subst h
  obtain ⟨e,hu⟩ := tag_ptr ht
  cases hx; cases hy
  refine deep (fun op => by simp [eqGuard_at_pointer]) (fun op ho => by rcases ho with rfl | rfl <;> rfl) (run_equal (eqi_ptr1 9999 hu _))
 ·simp only [Option.some.injEq] at h; subst h
  obtain ⟨e,hu⟩ := tag_ptr ht
  cases hx; cases hy
  refine deep (fun op => by simp [eqGuard_at_pointer]) (fun op ho => by rcases ho with rfl | rfl <;> rfl) (run_equal (eqi_ptr1 9999 hu _))
 ·simp only [Option.some.injEq] at h; subst h
  obtain ⟨e,hu⟩ := tag_ptr ht
  cases hx; cases hy
  refine deep (fun op => by simp [eqGuard_at_pointer]) (fun op ho => by rcases ho with rfl | rfl <;> rfl) (run_equal (eqi_ptr1 9999 hu _))
 ·simp only [Option.some.injEq] at h; subst h
  obtain ⟨e,hu⟩ := tag_iface ht
  cases hx; cases hy
  refine deep (fun op => by simp [eqGuard_at_iface]) (fun op ho => by rcases ho with rfl | rfl <;> rfl) (run_equal (eqi_if1 9999 hu _ _))
 ·simp only [Option.some.injEq] at h; subst h
  obtain ⟨e,hu⟩ := tag_iface ht
  cases hx; cases hy
  refine deep (fun op => by simp [eqGuard_nil_iface]) (fun op ho => by rcases ho with rfl | rfl <;> rfl) (run_equal (eqi_if2 9999 hu _ _))
 ·simp only [Option.some.injEq] at h; subst h
  obtain ⟨e,hu⟩ := tag_iface ht
  cases hx; cases hy
  refine deep (fun op => eqGuard_nils (hk rfl)) (fun op ho => by rcases ho with rfl | rfl <;> rfl) (run_equal (eqi_if0 9999 hu))
 ·simp only [Option.some.injEq] at h; subst h
  obtain ⟨e,hu⟩ := tag_slice ht
  generalize hb : true = b at hy
  cases hx with
  | es p cap =>
   cases hy with
   | es q cap' => cases q <;> simp at hb; exact deep (fun op => by simp [eqGuard_at_slice]) (fun op ho => by rcases ho with rfl | rfl <;> rfl) (run_equal (eqi_slice 9999 hu _ _ _ _ _))
 ·simp only [Option.some.injEq] at h; subst h
  obtain ⟨e,hu⟩ := tag_slice ht
  generalize hb : true = b at hy
  cases hx with
  | fz =>
   cases hy with
   | es q cap' => cases q <;> simp at hb; exact deep (fun op => by simp [eqGuard_at_slice]) (fun op ho => by rcases ho with rfl | rfl <;> rfl) (run_equal (eqi_slice 9999 hu _ _ _ _ _))
 ·simp only [Option.some.injEq] at h; subst h
  obtain ⟨e,hu⟩ := tag_slice ht
  generalize hb : true = b at hy
  cases hx with
  | cl =>
   cases hy with
   | es q cap' => cases q <;> simp at hb; exact deep (fun op => by simp [eqGuard_at_slice]) (fun op ho => by rcases ho with rfl | rfl <;> rfl) (run_equal (eqi_slice 9999 hu _ _ _ _ _))
 ·simp only [Option.some.injEq] at h; subst h
  obtain ⟨e,hu⟩ := tag_slice ht
  generalize hb : true = b at hy
  cases hx with
  | bl =>
   cases hy with
   | es q cap' => cases q <;> simp at hb; exact deep (fun op => by simp [eqGuard_at_slice]) (fun op ho => by rcases ho with rfl | rfl <;> rfl) (run_equal (eqi_slice 9999 hu _ _ _ _ _))
 ·cases h
theorem bin_sound {P : Program} {T : Nat → Nat → Prop} {G : Gh} {w : World} {ty : TypeId} {t : EqT} {op : BinOp} {ox oy : Operand} {X Y : Val} {x y : Value} {v : Val} (ht : eqTag P ty = some t) (hk : t = .iface → constly ox = true ∨ constly oy = true)
  (hx : VR T G w X x) (hy : VR T G w Y y) (h : binVal op t X Y = some v) :
  ∃ z,(do eqGuard op ty ox oy x y; binOp op ty x y : Sem Value).run P w = .ok z w ∧ VR T G w v z := by
 have pass : ∀ {z : Value},op ≠ .eql → op ≠ .neq → (binOp op ty x y).run P w = .ok z w → (do eqGuard op ty ox oy x y; binOp op ty x y : Sem Value).run P w = .ok z w := by
  intro z h1 h2 h3
  have : eqGuard op ty ox oy x y = pure () := by cases op <;> first | rfl | exact absurd rfl h1 | exact absurd rfl h2
  rw [this]; simpa using h3
 unfold binVal at h
 split at h
 ·simp only [Option.map_eq_some_iff] at h
  obtain ⟨r,hr,rfl⟩ := h
  exact ⟨_,(eqVal_sound ht hk hx hy hr).1,.bool r⟩
 ·simp only [Option.map_eq_some_iff] at h
  obtain ⟨r,hr,rfl⟩ := h
  exact ⟨_,(eqVal_sound ht hk hx hy hr).2,.bool _⟩
 ·rename_i h1 h2
  split at h
  ·rename_i j a k b
   split at h
   ·rename_i hsh
    cases hx; cases hy
    unfold binShift at h
    split at h
    ·cases h
    ·rename_i hb
     split at h
     ·simp only [Option.some.injEq] at h; subst h; exact ⟨_,pass (by simp) (by simp) (by simp [binOp,Op.shift,hb]),.int _ _⟩
     ·simp only [Option.some.injEq] at h; subst h; exact ⟨_,pass (by simp) (by simp) (by simp [binOp,Op.shift,hb]),.int _ _⟩
     ·cases h
   rename_i hns
   split at h
   ·rename_i e; subst e
    cases hx; cases hy
    unfold binInt at h
    split at h
    ·simp only [Option.some.injEq] at h; subst h; exact ⟨_,pass (by simp) (by simp) (by simp [binOp_add,Op.intArith]),.int _ _⟩
    ·simp only [Option.some.injEq] at h; subst h; exact ⟨_,pass (by simp) (by simp) (by simp [binOp_sub,Op.intArith]),.int _ _⟩
    ·simp only [Option.some.injEq] at h; subst h; exact ⟨_,pass (by simp) (by simp) (by simp [binOp_mul,Op.intArith]),.int _ _⟩
    ·split at h
     ·cases h
     ·rename_i hb; simp only [Option.some.injEq] at h; subst h; exact ⟨_,pass (by simp) (by simp) (by simp [binOp_quo,Op.intDiv,hb]),.int _ _⟩
    ·split at h
     ·cases h
     ·rename_i hb; simp only [Option.some.injEq] at h; subst h; exact ⟨_,pass (by simp) (by simp) (by simp [binOp_rem,Op.intDiv,hb]),.int _ _⟩
    ·simp only [Option.some.injEq] at h; subst h; exact ⟨_,pass (by simp) (by simp) (by simp [binOp_lss]),.bool _⟩
    ·simp only [Option.some.injEq] at h; subst h; exact ⟨_,pass (by simp) (by simp) (by simp [binOp_leq]),.bool _⟩
    ·simp only [Option.some.injEq] at h; subst h; exact ⟨_,pass (by simp) (by simp) (by simp [binOp_gtr]),.bool _⟩
    ·simp only [Option.some.injEq] at h; subst h; exact ⟨_,pass (by simp) (by simp) (by simp [binOp_geq]),.bool _⟩
    ·simp only [Option.some.injEq] at h; subst h; exact ⟨_,pass (by simp) (by simp) (by simp [binOp,Op.intBits]),.int _ _⟩
    ·simp only [Option.some.injEq] at h; subst h; exact ⟨_,pass (by simp) (by simp) (by simp [binOp,Op.intBits]),.int _ _⟩
    ·simp only [Option.some.injEq] at h; subst h; exact ⟨_,pass (by simp) (by simp) (by simp [binOp,Op.intBits]),.int _ _⟩
    ·simp only [Option.some.injEq] at h; subst h; exact ⟨_,pass (by simp) (by simp) (by simp [binOp,Op.intBits]),.int _ _⟩
    ·cases h
   ·cases h
  ·cases hx; cases hy
   unfold binStr at h
   split at h
   ·simp only [Option.some.injEq] at h; subst h; exact ⟨_,pass (by simp) (by simp) (by simp [binOp,Op.stringOp]),.bool _⟩
   ·simp only [Option.some.injEq] at h; subst h; exact ⟨_,pass (by simp) (by simp) (by simp [binOp,Op.stringOp]),.bool _⟩
   ·simp only [Option.some.injEq] at h; subst h; exact ⟨_,pass (by simp) (by simp) (by simp [binOp,Op.stringOp]),.bool _⟩
   ·simp only [Option.some.injEq] at h; subst h; exact ⟨_,pass (by simp) (by simp) (by simp [binOp,Op.stringOp]),.bool _⟩
   ·split at h
    ·cases h
    ·rename_i hsz; simp only [Option.some.injEq] at h; subst h; exact ⟨_,pass (by simp) (by simp) (by simp only [binOp,Op.stringOp,if_neg hsz]; rfl),.str _⟩
   ·cases h
  ·cases h
end Go.Abs
namespace Go.Abs
open Go.RowKit (Below)
variable [Inhabited Glob]
def St.mem (st : St) (d : Nat) (r : Res) (q : Nat := 0) : St :=
 { fr := st.fr,en := W.applyAll st.en r.ws,cnt := if r.bump then setCnt st.cnt q d (st.cnt q d + 1) else st.cnt }
def Fx (ro : Option Nat) : Fence := { Fence.wide with round := ro }
def OpOk (P : Program) (Ξ : Env) (B : Nat) (S : Nat → Nat → Prop) (st : St) (N : Nat) (a : Act) (w : World) (o : Oper) (d : Nat) (r : Res) (q : Nat := 0) : Prop :=
 ∀ (ro : Option Nat) (m : Nat) (next : Act → World → Prop) (Q : Exit → Act → World → Prop),
  (∀ x w' G',Rel P Ξ B S G' (st.mem d r q) N a w' → VR (Stab B S G' w'.heap.size) G' w' r.v x → Below B w w' → next (a.put o.dst x) w') → o.wpIn (Fx ro) m P a w next Q
theorem semAt_of {ρ : Operand → Value} {o : Oper} {P : Program} {w w' : World} {x : Next} (h : (execOp ρ o).run P w = .ok x w') (hx : ∀ d,x ≠ .defer d) (ro : Option Nat) : (o.semAt ro ρ).run P w = .ok x w' := by
 rw [Oper.semAt_eq]
 ·exact h
 ·intro c hc
  simp only [execOp,hc,Sem.run_bind] at h
  cases hr : (resolve ρ c o.type).run P w with
  | ok d w1 => rw [hr] at h; simp at h; exact hx d h.1.symm
  | halt y w1 => rw [hr] at h; simp [Result.andThen] at h
section
variable {P : Program} {Ξ : Env} {B : Nat} {S : Nat → Nat → Prop} {G : Gh} {st : St} {N : Nat} {a : Act} {w : World} {o : Oper} {d : Nat} {r : Res}
theorem ok_value {q : Nat} {x : Value} {w' : World} {G' : Gh} (h : (execOp a.eval o).run P w = .ok (.value x) w') (hR : Rel P Ξ B S G' (st.mem d r q) N a w') (hv : VR (Stab B S G' w'.heap.size) G' w' r.v x) (hb : Below B w w') :
  OpOk P Ξ B S st N a w o d r q := fun ro m next Q k => by
 refine ⟨fun _ _ => trivial,?_⟩
 rw [semAt_of h (by simp)]
 exact k x w' G' hR hv hb
theorem ok_skip {w' : World} {G' : Gh} (h : (execOp a.eval o).run P w = .ok .skip w') (hR : Rel P Ξ B S G' (st.mem d r) N a w') (hv : r.v = .tup []) (hb : Below B w w') :
  OpOk P Ξ B S st N a w o d r := fun ro m next Q k => by
 refine ⟨fun _ _ => trivial,?_⟩
 rw [semAt_of h (by simp)]
 exact k undef w' G' hR (by rw [hv]; exact .tup [] #[] rfl (fun i hi => by simp at hi)) hb
theorem ok_pure {q : Nat} {x : Value} {v : Val} {rs : List R} (hR : Rel P Ξ B S G st N a w) (h : (execOp a.eval o).run P w = .ok (.value x) w) (hv : VR (Stab B S G w.heap.size) G w v x) :
  OpOk P Ξ B S st N a w o d { v := v,rs := rs } q := ok_value h hR hv (Below.refl _ _)
theorem lowVal_sound {T : Nat → Nat → Prop} {x : Value} {v : Val} (h : lowVal x = some v) : VR T G w v x ∧ oneV x = true := by
 unfold lowVal at h
 split at h <;> simp only [Option.some.injEq,reduceCtorEq] at h <;> subst h
 ·exact ⟨.bool _,rfl⟩
 ·exact ⟨.int _ _,rfl⟩
 ·exact ⟨.str _,rfl⟩
 ·exact ⟨.nilp,rfl⟩
 ·exact ⟨.cl0 _,rfl⟩
 ·exact ⟨.nilm,rfl⟩
 ·exact ⟨.nilf,rfl⟩
 ·exact ⟨.nili,rfl⟩
theorem opd_sound (hR : Rel P Ξ B S G st N a w) {x : Operand} {y : Opd} (h : lowOpd x = some y) : VR (Stab B S G w.heap.size) G w (St.get st.fr y) (a.eval x) := by
 cases x with
 | tmp t => simp only [lowOpd,Option.some.injEq] at h; subst h; exact hR.frame t
 | const v => simp only [lowOpd,Option.map_eq_some_iff] at h; obtain ⟨u,hu,rfl⟩ := h; exact (lowVal_sound hu).1
 | func f => simp only [lowOpd,Option.some.injEq] at h; subst h; exact .fn f [] [] #[] #[] rfl rfl (fun i hi => by simp at hi) (fun i hi => by simp at hi)
 | global g => simp only [lowOpd,Option.map_eq_some_iff] at h; obtain ⟨cs,hc,rfl⟩ := h; exact hR.extra _ _ (.inr ⟨g,cs,hc,rfl,rfl⟩)
theorem opds_sound (hR : Rel P Ξ B S G st N a w) {xs : List Operand} {ys : List Opd} (h : lowOpds xs = some ys) :
  ys.length = xs.length ∧ ∀ i,i < ys.length → VR (Stab B S G w.heap.size) G w ((ys.map (St.get st.fr)).getD i .dead) ((xs.map a.eval).getD i undef) := by
 obtain ⟨h1,h2⟩ := mapO_some h
 refine ⟨h1,fun i hi => ?_⟩
 have := opd_sound hR (h2 i (by omega) hi)
 simpa [List.getD_eq_getElem?_getD,hi,show i < xs.length by omega] using this
theorem zero_sound {T : Nat → Nat → Prop} {t : TypeId} {z : List Val} (h : lowZero P t = some z) :
  ∃ i v,P.info? t = some i ∧ i.zero = some v ∧ v.cells.size = z.length ∧ (∀ j,j < z.length → oneV (v.cells.getD j undef) = true) ∧ ∀ j,j < z.length → VR T G w (z.getD j .dead) (v.cells.getD j undef) := by
 unfold lowZero at h
 split at h
 ·rename_i v hv
  obtain ⟨i,hi,hz⟩ := Option.bind_eq_some_iff.1 hv
  obtain ⟨h1,h2⟩ := mapO_some h
  simp only [Array.length_toList] at h1
  have h3 : ∀ j (hj : j < z.length),lowVal (v.cells.getD j undef) = some (z.getD j .dead) := fun j hj => by
   have := h2 j (by simpa using (by omega : j < v.cells.size)) hj
   simpa [List.getD_eq_getElem?_getD,Array.getD_eq_getD_getElem?,hj,show j < v.cells.size by omega] using this
  exact ⟨i,v,hi,hz,h1.symm,fun j hj => (lowVal_sound (G := G) (w := w) (T := T) (h3 j hj)).2,fun j hj => (lowVal_sound (h3 j hj)).1⟩
 ·cases h
theorem run_zeroValue {t : TypeId} {i : TypeInfo} {v : Value} (hi : P.info? t = some i) (hz : i.zero = some v) : (zeroValue t).run P w = .ok v w := by
 simp [zeroValue,typeInfo,hi,hz]
theorem rel_box (hR : Rel P Ξ B S G st N a w) {cs : List Val} {c : Array Value} {t : TypeId} (hs : c.size = cs.length) (ho : ∀ j,j < cs.length → oneV (c.getD j undef) = true)
  (hv : ∀ j,j < cs.length → VR (Stab B S G w.heap.size) G w (cs.getD j .dead) (c.getD j undef)) :
  ∃ G',Rel P Ξ B S G' { fr := st.fr,en := st.en.set ⟨0,d,st.cnt 0 d⟩ (some (.box cs false)),cnt := setCnt st.cnt 0 d (st.cnt 0 d + 1) } N a (w.alloc (.cells c t)) ∧
   G'.box ⟨0,d,st.cnt 0 d⟩ = some w.heap.size := by
 have hf := hR.freshG ⟨0,d,st.cnt 0 d⟩ (Nat.le_refl _)
 refine ⟨G.addBox ⟨0,d,st.cnt 0 d⟩ w.heap.size,hR.alloc d _ _ _ (Gh.le_addBox hf.1) (fun b hb => by simp [Gh.addBox,hb]) (fun k hk => ?_) (fun k t h => ?_) ?_,by simp [Gh.addBox]⟩
 ·simp [Gh.addBox,hk]
 ·simp [Gh.addBox] at h; exact h.1.symm
 ·have m := mono_alloc (B := B) (S := S) (w := w) (o := .cells c t) (Gh.le_addBox (b := w.heap.size) hf.1) (fun b hb => by simp [Gh.addBox,hb])
  exact .box cs false w.heap.size c t (by simp [Gh.addBox]) hR.size (heap_alloc_new _ _) hs ho (fun j hj => (hv j hj).mono m) (by simp [Gh.addBox])
theorem below_alloc (hR : Rel P Ξ B S G st N a w) (o : Obj) : Below B w (w.alloc o) := (Below.refl B w).alloc hR.size o
theorem op_mv (hR : Rel P Ξ B S G st N a w) {x : Operand} {y : Opd} (ho : o.op = .move x ∨ o.op = .assign x) (h : lowOpd x = some y) : OpOk P Ξ B S st N a w o d { v := St.get st.fr y } := by
 refine ok_pure hR ?_ (opd_sound hR h)
 rcases ho with ho | ho <;> simp [execOp,ho]
theorem op_pick (hR : Rel P Ξ B S G st N a w) {c x y : Operand} {c' x' y' : Opd} {b : Bool} (ho : o.op = .pick c x y) (h1 : lowOpd c = some c') (h2 : lowOpd x = some x') (h3 : lowOpd y = some y') (hb : St.get st.fr c' = .bool b) :
  OpOk P Ξ B S st N a w o d { v := if b then St.get st.fr x' else St.get st.fr y' } := by
 have hc := opd_sound hR h1
 rw [hb] at hc
 have hc' : a.eval c = .bool b := by generalize a.eval c = u at hc; cases hc; rfl
 refine ok_pure (x := if b then a.eval x else a.eval y) hR ?_ ?_
 ·simp [execOp,ho,hc',asBool]
 ·cases b
  ·exact opd_sound hR h3
  ·exact opd_sound hR h2
theorem op_alloc (hR : Rel P Ξ B S G st N a w) {t : TypeId} {z : List Val} (ho : o.op = .alloc t) (h : lowZero P t = some z) :
  OpOk P Ξ B S st N a w o d { v := .ptr ⟨0,d,st.cnt 0 d⟩ 0,ws := [.ent ⟨0,d,st.cnt 0 d⟩ (some (.box z false))],bump := true } := by
 obtain ⟨i,v,hi,hz,hs,ho1,hv⟩ := zero_sound (P := P) (G := G) (w := w) (T := Stab B S G w.heap.size) h
 obtain ⟨G',hR',hb⟩ := rel_box (t := t) (d := d) hR hs ho1 hv
 refine ok_value (x := .pointer (some ⟨w.heap.size,0,none⟩)) (G' := G') ?_ hR' (.ptr _ _ _ hb) (below_alloc hR _)
 simp [execOp,ho,Instr.alloc,run_zeroValue hi hz,newVar,newRow]
theorem op_box (hR : Rel P Ξ B S G st N a w) {t : TypeId} {x : Operand} {y : Opd} (ho : o.op = .box t x) (h : lowOpd x = some y) (h1 : (St.get st.fr y).one = true) :
  OpOk P Ξ B S st N a w o d { v := .ptr ⟨0,d,st.cnt 0 d⟩ 0,ws := [.ent ⟨0,d,st.cnt 0 d⟩ (some (.box (St.get st.fr y).cells false))],bump := true } := by
 obtain ⟨hs,ho1,hv⟩ := (opd_sound hR h).cells (fun vs e => by rw [e] at h1; cases h1)
 obtain ⟨G',hR',hb⟩ := rel_box (t := t) (d := d) hR hs ho1 hv
 refine ok_value (x := .pointer (some ⟨w.heap.size,0,none⟩)) (G' := G') ?_ hR' (.ptr _ _ _ hb) (below_alloc hR _)
 simp [execOp,ho,Instr.box,newVar,newRow]
theorem op_nilck (hR : Rel P Ξ B S G st N a w) {x : Operand} {y : Opd} {v : Val} (ho : o.op = .nilCheck x) (h : lowOpd x = some y)
  (hv : (match St.get st.fr y with
   | .fp cs off => some { v := .fp cs off }
   | .ptr k off => some { v := .ptr k off }
   | .ep k i off => some { v := .ep k i off }
   | .fn f a b => some { v := .fn f a b }
   | .ifc t v => some { v := .ifc t v }
   | _ => none) = some ({ v := v } : Res)) : OpOk P Ξ B S st N a w o d { v := v } := by
 have hx := opd_sound hR h
 have key : ∀ u,VR (Stab B S G w.heap.size) G w v u → a.eval x = u → (u ≠ .pointer none ∧ u ≠ .nilIface ∧ u ≠ .nilFunc ∧ ∀ n p q,u ≠ .func (.method n) p q) → OpOk P Ξ B S st N a w o d { v := v } := by
  intro u hu he ⟨n1,n2,n3,n4⟩
  refine ok_pure (x := u) hR ?_ hu
  simp only [execOp,ho,he]
  cases u with
  | pointer p => cases p with
   | none => exact absurd rfl n1
   | some p => rfl
  | nilIface => exact absurd rfl n2
  | nilFunc => exact absurd rfl n3
  | func f p q => cases f with
   | method n => exact absurd rfl (n4 n p q)
   | _ => rfl
  | _ => rfl
 generalize hg : a.eval x = u at hx
 split at hv <;> simp only [Option.some.injEq,Res.mk.injEq,reduceCtorEq,and_true] at hv <;> subst hv <;> rename_i he <;> rw [he] at hx
 ·exact key u hx hg (by cases hx; exact ⟨by simp,by simp,by simp,by simp⟩)
 ·exact key u hx hg (by cases hx; exact ⟨by simp,by simp,by simp,by simp⟩)
 ·exact key u hx hg (by cases hx; exact ⟨by simp,by simp,by simp,by simp⟩)
 ·exact key u hx hg (by cases hx; exact ⟨by simp,by simp,by simp,by simp⟩)
 ·exact key u hx hg (by cases hx; exact ⟨by simp,by simp,by simp,by simp⟩)
theorem op_bin (hR : Rel P Ξ B S G st N a w) {op : BinOp} {t t' : TypeId} {x y : Operand} {x' y' : Opd} {e : EqT} {v : Val} (ho : o.op = .binOp op t x y t') (ht : eqTag P t = some e) (hk : e = .iface → constly x = true ∨ constly y = true) (h1 : lowOpd x = some x') (h2 : lowOpd y = some y')
  (hv : binVal op e (St.get st.fr x') (St.get st.fr y') = some v) : OpOk P Ξ B S st N a w o d { v := v } := by
 obtain ⟨z,hz,hzv⟩ := bin_sound (ox := x) (oy := y) ht hk (opd_sound hR h1) (opd_sound hR h2) hv
 refine ok_pure (x := z) hR ?_ hzv
 simp only [Sem.run_bind] at hz
 simp only [execOp,ho,Sem.run_bind,hz,Result.andThen_ok,Sem.run_pure]
theorem op_bin_nil (hR : Rel P Ξ B S G st N a w) {op : BinOp} {t t' : TypeId} {x : Operand} {x' : Opd} {v : Val} (ho : o.op = .binOp op t x (.const (.slice none 0 0)) t') (ht : eqTag P t = some .slice) (h1 : lowOpd x = some x')
  (hv : binVal op .slice (St.get st.fr x') (.es true) = some v) : OpOk P Ξ B S st N a w o d { v := v } := by
 obtain ⟨z,hz,hzv⟩ := bin_sound (ox := x) (oy := .const (.slice none 0 0)) (y := .slice none 0 0) ht (fun h => by cases h) (opd_sound hR h1) (.es none 0) hv
 refine ok_pure (x := z) hR ?_ hzv
 simp only [Sem.run_bind] at hz
 have hc : a.eval (.const (.slice none 0 0)) = .slice none 0 0 := rfl
 simp only [execOp,ho,Sem.run_bind,hc,hz,Result.andThen_ok,Sem.run_pure]
theorem op_un (hR : Rel P Ξ B S G st N a w) {op : UnOp} {t : TypeId} {x : Operand} {x' : Opd} {v : Val} (ho : o.op = .unOp op t x) (h1 : lowOpd x = some x')
  (hv : (match op,St.get st.fr x' with
  | .not,.bool b => some { v := .bool !b }
  | .neg,.int k a => some { v := .int k (k.wrap (0 - a)) }
  | _,_ => none) = some ({ v := v } : Res)) : OpOk P Ξ B S st N a w o d { v := v } := by
 have hx := opd_sound hR h1
 have key : (op = .not ∧ ∃ b,St.get st.fr x' = .bool b ∧ v = .bool !b) ∨ (op = .neg ∧ ∃ k n,St.get st.fr x' = .int k n ∧ v = .int k (k.wrap (0 - n))) := by
  split at hv <;> simp only [Option.some.injEq,Res.mk.injEq,reduceCtorEq,and_true] at hv
  ·exact .inl ⟨rfl,_,by assumption,hv.symm⟩
  ·exact .inr ⟨rfl,_,_,by assumption,hv.symm⟩
 generalize hg : a.eval x = u at hx
 rcases key with ⟨rfl,b,he,rfl⟩ | ⟨rfl,k,n,he,rfl⟩ <;> rw [he] at hx <;> cases hx
 ·refine ok_pure (x := .bool !b) hR ?_ (.bool _)
  simp [execOp,ho,hg,Op.unary]
 ·refine ok_pure (x := .int k (k.wrap (0 - n))) hR ?_ (.int _ _)
  simp [execOp,ho,hg,Op.unary,Op.intArith]
theorem op_wrap (hR : Rel P Ξ B S G st N a w) {s t : TypeId} {x : Operand} {x' : Opd} {k j j' : IntKind} {n : Int} (ho : o.op = .convert s t x) (hs : P.underlying s = some (.int j')) (ht : P.underlying t = some (.int k)) (h1 : lowOpd x = some x')
  (hv : St.get st.fr x' = .int j n) : OpOk P Ξ B S st N a w o d { v := .int k (k.wrap n) } := by
 have hx := opd_sound hR h1
 generalize hg : a.eval x = u at hx
 rw [hv] at hx; cases hx
 refine ok_pure (x := .int k (k.wrap n)) hR ?_ (.int _ _)
 simp [execOp,ho,hg,convert,run_underlying hs,run_underlying ht,Conv.intToInt]
theorem op_iface (hR : Rel P Ξ B S G st N a w) {t : TypeId} {x : Operand} {x' : Opd} (ho : o.op = .makeInterface t x) (ht : ∀ ms,P.underlying t ≠ some (.interface ms)) (ht' : P.underlying t ≠ none) (h1 : lowOpd x = some x') :
  OpOk P Ξ B S st N a w o d { v := .ifc t (St.get st.fr x') } := by
 obtain ⟨e,he⟩ := Option.ne_none_iff_exists'.1 ht'
 refine ok_pure (x := .iface t (a.eval x)) hR ?_ (.ifc _ _ _ (opd_sound hR h1))
 simp only [execOp,ho,Instr.makeInterface,Sem.run_bind,run_underlying he,Result.andThen_ok]
 cases e <;> first | (simp; done) | exact absurd he (ht _)
theorem op_ext (hR : Rel P Ξ B S G st N a w) {i : Nat} {x : Operand} {x' : Opd} {vs : List Val} {v : Val} (ho : o.op = .extract x i) (h1 : lowOpd x = some x') (hv : St.get st.fr x' = .tup vs) (hi : vs[i]? = some v) :
  OpOk P Ξ B S st N a w o d { v := v } := by
 have hx := opd_sound hR h1
 generalize hg : a.eval x = u at hx
 rw [hv] at hx
 cases hx with
 | tup _ us hs hu =>
  obtain ⟨hlt,hget⟩ := xs_getD hi
  have := hu i hlt
  rw [hget] at this
  refine ok_pure (x := us.getD i undef) hR ?_ this
  simp [execOp,ho,hg,Instr.extract,show i < us.size by omega]
theorem op_mkfn (hR : Rel P Ξ B S G st N a w) {f : Nat} {x y : Array Operand} {x' y' : List Opd} (ho : o.op = .makeFunc (.func f) x y) (h1 : lowOpds x.toList = some x') (h2 : lowOpds y.toList = some y') :
  OpOk P Ξ B S st N a w o d { v := .fn f (x'.map (St.get st.fr)) (y'.map (St.get st.fr)) } := by
 obtain ⟨l1,v1⟩ := opds_sound hR h1
 obtain ⟨l2,v2⟩ := opds_sound hR h2
 have conv : ∀ (z : Array Operand) (i : Nat),(z.map a.eval).getD i undef = (z.toList.map a.eval).getD i undef := by
  intro z i; simp [List.getD_eq_getElem?_getD,Array.getD_eq_getD_getElem?]
 refine ok_pure (x := .func (.func f) (x.map a.eval) (y.map a.eval)) hR ?_ (.fn f _ _ _ _ (by simp [l1]) (by simp [l2]) (fun i hi => ?_) (fun i hi => ?_))
 ·simp [execOp,ho,Instr.makeFunc]
 ·rw [conv]; exact v1 i (by simpa using hi)
 ·rw [conv]; exact v2 i (by simpa using hi)
end
end Go.Abs
namespace Go.Abs
open Go.RowKit (Below)
variable [Inhabited Glob]
section
variable {P : Program} {Ξ : Env} {B : Nat} {S : Nat → Nat → Prop} {G : Gh} {st : St} {N : Nat} {a : Act} {w : World} {o : Oper} {d : Nat} {r : Res}
theorem mono_true {T : Nat → Nat → Prop} {G G' : Gh} {w : World} (h : G.le G') : Mono T G w T G' w := ⟨fun _ _ h => h,h,fun _ _ _ _ h => h,fun _ _ _ _ h => h,fun _ _ h => h,fun _ r h => ⟨r,h⟩⟩
theorem ER.elem {T : Nat → Nat → Prop} {k : Key} {xs : List Val} {frz : Bool} {b base sz sz0 C : Nat} (h : ER P B T G w k (.blk sz0 xs frz)) (hb : G.blk k = some (some (b,base,sz,C))) {i : Nat} (hi : i < xs.length) :
  (xs.getD i .dead).cells.length = sz ∧ ∀ j,j < sz → ∃ c,w.cell? ⟨b,base + i * sz + j,.none⟩ = some c ∧ oneV c = true ∧ VR T (G.at k) w ((xs.getD i .dead).cells.getD j .dead) c := by
 cases h with
 | nul _ frz h => simp at hi
 | blk xs frz b1 base1 sz0 C1 thr c t hb1 hB hh hC hC' hs ho hv hown hthr =>
  rw [hb1] at hb; simp only [Option.some.injEq,Prod.mk.injEq] at hb
  obtain ⟨rfl,rfl,rfl,rfl⟩ := hb
  refine ⟨hs i hi,fun j hj => ⟨c.getD (base1 + i * sz0 + j) undef,?_,ho i j hi hj,hv i j hi hj⟩⟩
  have hlt : base1 + i * sz0 + j < c.size := by
   have : i * sz0 + sz0 ≤ C1 * sz0 := by rw [← Nat.succ_mul]; exact Nat.mul_le_mul_right _ (by omega)
   omega
  rw [cell_get hh]; simp [Array.getD_eq_getD_getElem?,hlt]
 | full xs b1 base1 sz0 c hb1 hs hh ht ho hv =>
  rw [hb1] at hb; simp only [Option.some.injEq,Prod.mk.injEq] at hb
  obtain ⟨rfl,rfl,rfl,rfl⟩ := hb
  exact ⟨hs i hi,fun j hj => ⟨c i j,hh i j hi hj,ho i j hi hj,(hv i j hi hj).into _⟩⟩
theorem getD_window {cs : List Val} {off n j : Nat} (hj : j < n) (h : off + n ≤ cs.length) : ((cs.drop off).take n).getD j .dead = cs.getD (off + j) .dead := getD_drop_take hj h
theorem read_sound {X : Val} {x : Value} {n : Nat} {cs : List Val} {rs : List R} (hR : Rel P Ξ B S G st N a w) (hx : VR (Stab B S G w.heap.size) G w X x) (h : readAt st.en X n = some (cs,rs)) :
  ∃ b off,x = .pointer (some ⟨b,off,.none⟩) ∧ cs.length = n ∧ ∀ j,j < n → ∃ c,w.cell? ⟨b,off + j,.none⟩ = some c ∧ oneV c = true ∧ VR (Stab B S G w.heap.size) G w (cs.getD j .dead) c := by
 unfold readAt at h
 split at h
 ·rename_i k off
  split at h
  ·rename_i ds f he
   split at h
   ·rename_i hl
    simp only [Option.some.injEq,Prod.mk.injEq] at h
    obtain ⟨rfl,_⟩ := h
    cases hx with
    | ptr _ _ b hb =>
    have hE := hR.ents k _ he (Gh.knows_box hb)
    cases hE with
    | box _ _ b' c t hb' hB hh hs ho hv hown =>
     rw [hb] at hb'; simp only [Option.some.injEq] at hb'; subst hb'
     refine ⟨b,off,rfl,by simp; omega,fun j hj => ⟨c.getD (off + j) undef,?_,ho _ (by omega),?_⟩⟩
     ·rw [cell_get hh]; simp [show off + j < c.size by omega]
     ·rw [getD_window hj hl]; exact hv _ (by omega)
   ·cases h
  ·cases h
 ·rename_i k i off
  split at h
  ·rename_i sz0 xs f he
   split at h
   ·rename_i x' hx'
    split at h
    ·rename_i hl
     simp only [Option.some.injEq,Prod.mk.injEq] at h
     obtain ⟨rfl,_⟩ := h
     cases hx with
     | ep _ _ _ b base sz C hb hi =>
     obtain ⟨hi',hg⟩ := xs_getD hx'
     obtain ⟨h1,h2⟩ := (hR.ents k _ he (Gh.knows_blk hb)).elem hb hi'
     rw [hg] at h1 h2
     refine ⟨b,base + i * sz + off,rfl,by simp; omega,fun j hj => ?_⟩
     obtain ⟨c,c1,c2,c3⟩ := h2 (off + j) (by omega)
     refine ⟨c,by rw [Nat.add_assoc]; exact c1,c2,?_⟩
     rw [getD_window hj hl]
     exact c3.out
    ·cases h
   ·cases h
  ·cases h
 ·split at h
  ·rename_i ds off hl
   simp only [Option.some.injEq,Prod.mk.injEq] at h
   obtain ⟨rfl,_⟩ := h
   cases hx with
   | fp _ _ b base c hh ht ho hv =>
   refine ⟨b,base + off,rfl,by simp; omega,fun j hj => ⟨c (off + j),?_,ho _ (by omega),?_⟩⟩
   ·rw [Nat.add_assoc]; exact hh _ (by omega)
   ·rw [getD_window hj hl]; exact (hv _ (by omega)).mono (mono_true (Gh.none_le G))
  ·cases h
 ·cases h
theorem add_none (b off j : Nat) : (⟨b,off,.none⟩ : Addr).add j = ⟨b,off + j,.none⟩ := by
 unfold Addr.add; split
 ·rename_i h; subst h; rfl
 ·rfl
theorem run_loadVar_of {T : Nat → Nat → Prop} {t : TypeId} {b off n : Nat} {cs : List Val} {v : Val} (hu : (P.underlying t).isSome = true) (hn : P.cellsOf t = n) (hl : cs.length = n)
  (hc : ∀ j,j < n → ∃ c,w.cell? ⟨b,off + j,.none⟩ = some c ∧ oneV c = true ∧ VR T G w (cs.getD j .dead) c) (hv : ofCells (isAggT P t) cs = some v) :
  ∃ x,(loadVar t ⟨b,off,.none⟩).run P w = .ok x w ∧ VR T G w v x := by
 obtain ⟨e,he⟩ := Option.isSome_iff_exists.1 hu
 obtain ⟨i,hi⟩ := info_of_underlying he
 have h1 : ∀ j,∃ c,j < n → w.cell? ⟨b,off + j,.none⟩ = some c ∧ oneV c = true ∧ VR T G w (cs.getD j .dead) c := fun j => by
  by_cases hj : j < n
  ·obtain ⟨c,hc⟩ := hc j hj; exact ⟨c,fun _ => hc⟩
  ·exact ⟨undef,fun h => absurd h hj⟩
 obtain ⟨c,hc⟩ := Classical.axiomOfChoice h1
 cases ha : isAggT P t with
 | true =>
  rw [ha] at hv; simp only [ofCells,if_true,Option.some.injEq] at hv; subst hv
  have hget : ∀ j,j < n → ((List.range n).map c).toArray.getD j undef = c j := fun j hj => by
   simp [Array.getD_eq_getD_getElem?,List.getElem?_range hj]
  refine ⟨.agg ((List.range n).map c).toArray,?_,?_⟩
  ·simp only [loadVar,Sem.run_bind,run_isAgg (P := P) (t := t) (w := w) (by rw [he]; simp),ha,Result.andThen_ok,if_true,run_sizeOf hi,hn]
   rw [run_loadCells w _ n c (fun j hj => by rw [add_none]; exact (hc j hj).1)]
   simp
  ·refine .agg cs _ (by simp [hl]) (fun j hj => ?_) (fun j hj => ?_) <;> rw [hget j (by omega)]
   ·exact (hc j (by omega)).2.1
   ·exact (hc j (by omega)).2.2
 | false =>
  rw [ha] at hv; simp only [ofCells,Bool.false_eq_true,if_false] at hv
  split at hv
  ·simp only [Option.some.injEq] at hv; subst hv
   simp at hl; subst hl
   have := hc 0 (by omega)
   refine ⟨c 0,?_,by simpa using this.2.2⟩
   simp only [loadVar,Sem.run_bind,run_isAgg (P := P) (t := t) (w := w) (by rw [he]; simp),ha,Result.andThen_ok,Bool.false_eq_true,if_false]
   have h0 := this.1; rw [Nat.add_zero] at h0
   simp [run_load,h0]
  ·cases hv
theorem op_load (hR : Rel P Ξ B S G st N a w) {t : TypeId} {x : Operand} {y : Opd} {cs : List Val} {rs : List R} {v : Val} (ho : o.op = .load t x) (hu : (P.underlying t).isSome = true) (h : lowOpd x = some y)
  (hr : readAt st.en (St.get st.fr y) (P.cellsOf t) = some (cs,rs)) (hv : ofCells (isAggT P t) cs = some v) : OpOk P Ξ B S st N a w o d { v := v,rs := rs } := by
 obtain ⟨b,off,hx,hl,hc⟩ := read_sound hR (opd_sound hR h) hr
 obtain ⟨u,hu',hvu⟩ := run_loadVar_of hu rfl hl hc hv
 refine ok_pure (x := u) hR ?_ hvu
 simp [execOp,ho,hx,Instr.loadAt,Instr.sureAddr,hu']
theorem op_fa (hR : Rel P Ξ B S G st N a w) {s : TypeId} {x : Operand} {y : Opd} {i : Nat} {fs : Array Field} {f : Field} {v : Val} (ho : o.op = .fieldAddr s x i) (hs : P.underlying s = some (.struct fs)) (hf : fs[i]? = some f)
  (hz : P.cellsOf f.type ≠ 0) (h : lowOpd x = some y) (hv : (match St.get st.fr y with
   | .fp cs o => some { v := .fp cs (o + f.offset) }
   | .ptr k o => some { v := .ptr k (o + f.offset) }
   | .ep k i o => some { v := .ep k i (o + f.offset) }
   | _ => none) = some ({ v := v } : Res)) : OpOk P Ξ B S st N a w o d { v := v } := by
 have hx := opd_sound hR h
 obtain ⟨ti,hti⟩ := cells_underlying hz
 have run : ∀ b off,a.eval x = .pointer (some ⟨b,off,.none⟩) → (execOp a.eval o).run P w = .ok (.value (.pointer (some ⟨b,off + f.offset,.none⟩))) w := by
  intro b off he
  simp [execOp,ho,he,Instr.fieldAt,run_underlying hs,hf,Instr.sureAddr,fieldPlace,run_sizeOf hti,hz,add_none]
 split at hv <;> simp only [Option.some.injEq,Res.mk.injEq,reduceCtorEq,and_true] at hv <;> subst hv <;> rename_i he <;> rw [he] at hx
 ·generalize hg : a.eval x = u at hx
  cases hx with
  | fp _ _ b base c hh ht ho' hv => exact ok_pure hR (run _ _ hg) (by rw [Nat.add_assoc]; exact .fp _ _ b base c hh ht ho' hv)
 ·generalize hg : a.eval x = u at hx
  cases hx with
  | ptr _ _ b hb => exact ok_pure hR (run _ _ hg) (.ptr _ _ b hb)
 ·generalize hg : a.eval x = u at hx
  cases hx with
  | ep _ _ _ b base sz C hb hi => exact ok_pure hR (run _ _ hg) (by rw [Nat.add_assoc]; exact .ep _ _ _ b base sz C hb hi)
theorem op_fld (hR : Rel P Ξ B S G st N a w) {s : TypeId} {x : Operand} {y : Opd} {i : Nat} {fs : Array Field} {f : Field} {cs : List Val} {v : Val} (ho : o.op = .field s x i) (hs : P.underlying s = some (.struct fs)) (hf : fs[i]? = some f)
  (hu : (P.underlying f.type).isSome = true) (h : lowOpd x = some y) (hg : St.get st.fr y = .agg cs) (hl : f.offset + P.cellsOf f.type ≤ cs.length) (hv : ofCells (isAggT P f.type) ((cs.drop f.offset).take (P.cellsOf f.type)) = some v) :
  OpOk P Ξ B S st N a w o d { v := v } := by
 have hx := opd_sound hR h
 rw [hg] at hx
 generalize hgx : a.eval x = u at hx
 cases hx with
 | agg _ us hus hou hvu =>
 obtain ⟨e,he⟩ := Option.isSome_iff_exists.1 hu
 have fin : ∀ u,(part f.type us f.offset).run P w = .ok u w → VR (Stab B S G w.heap.size) G w v u → OpOk P Ξ B S st N a w o d { v := v } := fun u h1 h2 =>
  ok_pure hR (by simp [execOp,ho,hgx,Instr.field,run_underlying hs,hf,asAgg,h1]) h2
 cases ha : isAggT P f.type with
 | true =>
  rw [ha] at hv; simp only [ofCells,if_true,Option.some.injEq] at hv; subst hv
  obtain ⟨u,h1,h2⟩ := part_agg (w := w) (off := f.offset) ha rfl hl hus hou hvu
  exact fin u h1 h2
 | false =>
  rw [ha] at hv; simp only [ofCells,Bool.false_eq_true,if_false] at hv
  split at hv
  ·rename_i v' hv'
   simp only [Option.some.injEq] at hv; subst hv
   have hlen : ((cs.drop f.offset).take (P.cellsOf f.type)).length = 1 := by rw [hv']; rfl
   have hlt : f.offset < cs.length := by simp at hlen; omega
   have h0 := getD_window (cs := cs) (off := f.offset) (n := P.cellsOf f.type) (j := 0) (by simp at hlen; omega) hl
   rw [hv'] at h0; simp only [Nat.add_zero,List.getD_cons_zero] at h0
   exact fin _ (part_one ha (by omega) (by rw [he]; simp)) (by rw [h0]; exact hvu _ hlt)
  ·cases hv
end
end Go.Abs
namespace Go.Abs
open Go.RowKit (Below)
variable [Inhabited Glob]
section
variable {P : Program} {Ξ : Env} {B : Nat} {S : Nat → Nat → Prop} {G : Gh} {st : St} {N : Nat} {a : Act} {w : World} {o : Oper} {d : Nat} {r : Res}
theorem int_of {T : Nat → Nat → Prop} {k : IntKind} {n : Int} {u : Value} (h : VR T G w (.int k n) u) : u = .int k n := by cases h; rfl
theorem slice_shape {T : Nat → Nat → Prop} {X : Val} {x : Value} {n : Nat} (hx : VR T G w X x) (h : lenOf X = some n) : ∃ a c,x = .slice a n c ∧ n ≤ c := by
 cases hx <;> simp only [lenOf,Option.some.injEq,reduceCtorEq] at h
 ·simp at h; subst h; exact ⟨_,_,rfl,Nat.zero_le _⟩
 ·subst h; exact ⟨_,_,rfl,by assumption⟩
 ·simp at h; subst h; exact ⟨_,_,rfl,Nat.zero_le _⟩
 ·subst h; exact ⟨_,_,rfl,Nat.le_refl _⟩
 ·subst h; exact ⟨_,_,rfl,Nat.zero_le _⟩
 ·subst h; exact ⟨_,_,rfl,by omega⟩
 ·subst h; exact ⟨_,_,rfl,Nat.zero_le _⟩
 ·subst h; exact ⟨_,_,rfl,Nat.zero_le _⟩
theorem op_ia_fz (hR : Rel P Ξ B S G st N a w) {t e : TypeId} {x i : Operand} {x' i' : Opd} {k : IntKind} {j : Int} {xs : List Val} {y : Val} (ho : o.op = .indexAddr t x i) (ht : P.underlying t = some (.slice e)) (he : (P.info? e).isSome = true)
  (h1 : lowOpd x = some x') (h2 : lowOpd i = some i') (hi : St.get st.fr i' = .int k j) (hj : 0 ≤ j) (hX : St.get st.fr x' = .fz xs ∨ St.get st.fr x' = .cl xs) (hy : xs[j.toNat]? = some y) (hsz : y.cells.length = P.cellsOf e) :
  OpOk P Ξ B S st N a w o d { v := .fp y.cells 0 } := by
 have hx := opd_sound hR h1
 have hi' := opd_sound hR h2
 rw [hi] at hi'
 have hi'' := int_of hi'
 obtain ⟨ti,hti⟩ := Option.isSome_iff_exists.1 he
 obtain ⟨hlt,hget⟩ := xs_getD hy
 have core : ∀ b off sz cap (c : Nat → Nat → Value),a.eval x = .slice (some ⟨b,off,.none⟩) xs.length cap → (∀ i,i < xs.length → (xs.getD i .dead).cells.length = sz) →
   (∀ i j,i < xs.length → j < sz → w.cell? ⟨b,off + i * sz + j,.none⟩ = some (c i j)) → (∀ i j,i < xs.length → j < sz → Stab B S G w.heap.size b (off + i * sz + j)) →
   (∀ i j,i < xs.length → j < sz → oneV (c i j) = true) → (∀ i j,i < xs.length → j < sz → VR (Stab B S G w.heap.size) Gh.none w ((xs.getD i .dead).cells.getD j .dead) (c i j)) →
   OpOk P Ξ B S st N a w o d { v := .fp y.cells 0 } := by
  intro b off sz cap c hx hs hc hT ho' hv
  have hsz' : sz = P.cellsOf e := by rw [← hsz,← hget,hs _ hlt]
  have hl : (j : Int) < xs.length := by omega
  refine ok_pure (x := .pointer (some ⟨b,off + j.toNat * sz + 0,.none⟩)) hR ?_ (.fp y.cells 0 b (off + j.toNat * sz) (c j.toNat) ?_ ?_ ?_ ?_)
  ·simp [execOp,ho,hx,hi'',Instr.indexAt,asIntOf,run_underlying ht,hj,hl,run_sizeOf hti,add_none,hsz']
  ·intro i hi; exact hc _ i hlt (by omega)
  ·intro i hi; exact hT _ i hlt (by omega)
  ·intro i hi; exact ho' _ i hlt (by omega)
  ·intro i hi; rw [← hget]; exact hv _ i hlt (by omega)
 generalize hg : a.eval x = u at hx
 rcases hX with hX | hX <;> rw [hX] at hx <;> cases hx
 ·simp at hy
 ·exact core _ _ _ _ _ hg (by assumption) (by assumption) (by assumption) (by assumption) (by assumption)
 ·simp at hy
 ·exact core _ _ _ _ _ hg (by assumption) (by assumption) (by assumption) (by assumption) (by assumption)
theorem op_ia_bl (hR : Rel P Ξ B S G st N a w) {t e : TypeId} {x i : Operand} {x' i' : Opd} {k : IntKind} {j : Int} {key : Key} {off len : Nat} (ho : o.op = .indexAddr t x i) (ht : P.underlying t = some (.slice e)) (he : (P.info? e).isSome = true)
  (h1 : lowOpd x = some x') (h2 : lowOpd i = some i') (hi : St.get st.fr i' = .int k j) (hj : 0 ≤ j ∧ j < len) (hX : St.get st.fr x' = .bl key off len)
  {ys : List Val} {f : Bool} (hen : st.en key = some (.blk (P.cellsOf e) ys f)) {rs : List R} :
  OpOk P Ξ B S st N a w o d { v := .ep key (off + j.toNat) 0,rs := rs } := by
 have hx := opd_sound hR h1
 have hi' := opd_sound hR h2
 rw [hi] at hi'
 have hi'' := int_of hi'
 obtain ⟨ti,hti⟩ := Option.isSome_iff_exists.1 he
 generalize hg : a.eval x = u at hx
 rw [hX] at hx
 cases hx with
 | bl0 _ a h => omega
 | ble => omega
 | bl _ _ _ b base sz C hb hl =>
  have hsz' : sz = P.cellsOf e := by
   have hE := hR.ents _ _ hen (Gh.knows_blk hb)
   cases hE with
   | nul _ _ hb' => rw [hb] at hb'; cases hb'
   | blk _ _ _ _ _ _ _ _ _ hb' => rw [hb] at hb'; simp only [Option.some.injEq,Prod.mk.injEq] at hb'; exact hb'.2.2.1
   | full _ _ _ _ _ hb' => rw [hb] at hb'; simp only [Option.some.injEq,Prod.mk.injEq] at hb'; exact hb'.2.2.1
  refine ok_pure (x := .pointer (some ⟨b,base + (off + j.toNat) * sz + 0,.none⟩)) hR ?_ (.ep _ _ _ b base sz C hb (by omega))
  rw [Nat.add_mul]
  simp [execOp,ho,hg,hi'',Instr.indexAt,asIntOf,run_underlying ht,hj.1,hj.2,run_sizeOf hti,add_none,hsz',Nat.add_assoc]
theorem op_iaa (hR : Rel P Ξ B S G st N a w) {t e : TypeId} {n : Nat} {x i : Operand} {x' i' : Opd} {k : IntKind} {j : Int} {v : Val} (ho : o.op = .indexAddr t x i) (ht : P.underlying t = some (.array n e)) (he : (P.info? e).isSome = true)
  (h1 : lowOpd x = some x') (h2 : lowOpd i = some i') (hi : St.get st.fr i' = .int k j) (hj : 0 ≤ j ∧ j < n) (hv : (match St.get st.fr x' with
    | .fp cs o => some { v := .fp cs (o + j.toNat * P.cellsOf e) }
    | .ptr k o => some { v := .ptr k (o + j.toNat * P.cellsOf e) }
    | .ep k i o => some { v := .ep k i (o + j.toNat * P.cellsOf e) }
    | _ => none) = some ({ v := v } : Res)) : OpOk P Ξ B S st N a w o d { v := v } := by
 have hx := opd_sound hR h1
 have hi' := opd_sound hR h2
 rw [hi] at hi'
 have hi'' := int_of hi'
 obtain ⟨ti,hti⟩ := Option.isSome_iff_exists.1 he
 have run : ∀ b off,a.eval x = .pointer (some ⟨b,off,.none⟩) → (execOp a.eval o).run P w = .ok (.value (.pointer (some ⟨b,off + j.toNat * P.cellsOf e,.none⟩))) w := by
  intro b off hx
  simp [execOp,ho,hx,hi'',Instr.indexAt,asIntOf,run_underlying ht,hj.1,hj.2,Instr.sureAddr,run_sizeOf hti,add_none]
 split at hv <;> simp only [Option.some.injEq,Res.mk.injEq,reduceCtorEq,and_true] at hv <;> subst hv <;> rename_i he <;> rw [he] at hx
 ·generalize hg : a.eval x = u at hx
  cases hx with
  | fp _ _ b base c hh ht ho' hv => exact ok_pure hR (run _ _ hg) (by rw [Nat.add_assoc]; exact .fp _ _ b base c hh ht ho' hv)
 ·generalize hg : a.eval x = u at hx
  cases hx with
  | ptr _ _ b hb => exact ok_pure hR (run _ _ hg) (.ptr _ _ b hb)
 ·generalize hg : a.eval x = u at hx
  cases hx with
  | ep _ _ _ b base sz C hb hi => exact ok_pure hR (run _ _ hg) (by rw [Nat.add_assoc]; exact .ep _ _ _ b base sz C hb hi)
theorem op_ixs (hR : Rel P Ξ B S G st N a w) {t : TypeId} {x i : Operand} {x' i' : Opd} {k : IntKind} {j : Int} {s : ByteArray} {b : UInt8} (ho : o.op = .index t x i) (ht : P.underlying t = some .string)
  (h1 : lowOpd x = some x') (h2 : lowOpd i = some i') (hi : St.get st.fr i' = .int k j) (hX : St.get st.fr x' = .str s) (hj : 0 ≤ j) (hb : s[j.toNat]? = some b) :
  OpOk P Ξ B S st N a w o d { v := .int .u8 b.toNat } := by
 have hx := opd_sound hR h1
 have hi' := opd_sound hR h2
 rw [hi] at hi'; rw [hX] at hx
 have hi'' := int_of hi'
 have hx' : a.eval x = .string s := by generalize a.eval x = u at hx; cases hx; rfl
 refine ok_pure (x := .int .u8 b.toNat) hR ?_ (.int _ _)
 simp [execOp,ho,hx',hi'',Instr.index,asIntOf,run_underlying ht,hj,hb]
theorem op_ixa (hR : Rel P Ξ B S G st N a w) {t e : TypeId} {n : Nat} {x i : Operand} {x' i' : Opd} {k : IntKind} {j : Int} {cs : List Val} {v : Val} (ho : o.op = .index t x i) (ht : P.underlying t = some (.array n e)) (hu : (P.underlying e).isSome = true)
  (h1 : lowOpd x = some x') (h2 : lowOpd i = some i') (hi : St.get st.fr i' = .int k j) (hX : St.get st.fr x' = .agg cs) (hj : 0 ≤ j ∧ j < n ∧ j.toNat * P.cellsOf e + P.cellsOf e ≤ cs.length)
  (hv : ofCells (isAggT P e) ((cs.drop (j.toNat * P.cellsOf e)).take (P.cellsOf e)) = some v) : OpOk P Ξ B S st N a w o d { v := v } := by
 have hx := opd_sound hR h1
 have hi' := opd_sound hR h2
 rw [hi] at hi'; rw [hX] at hx
 have hi'' := int_of hi'
 generalize hgx : a.eval x = u at hx
 cases hx with
 | agg _ us hus hou hvu =>
 obtain ⟨e',he'⟩ := Option.isSome_iff_exists.1 hu
 obtain ⟨ti,hti⟩ := info_of_underlying he'
 have fin : ∀ u,(part e us (j.toNat * P.cellsOf e)).run P w = .ok u w → VR (Stab B S G w.heap.size) G w v u → OpOk P Ξ B S st N a w o d { v := v } := fun u h1 h2 =>
  ok_pure hR (by simp [execOp,ho,hgx,hi'',Instr.index,asIntOf,run_underlying ht,hj.1,hj.2.1,run_sizeOf hti,h1]) h2
 cases ha : isAggT P e with
 | true =>
  rw [ha] at hv; simp only [ofCells,if_true,Option.some.injEq] at hv; subst hv
  obtain ⟨u,h1,h2⟩ := part_agg (w := w) (off := j.toNat * P.cellsOf e) ha rfl hj.2.2 hus hou hvu
  exact fin u h1 h2
 | false =>
  rw [ha] at hv; simp only [ofCells,Bool.false_eq_true,if_false] at hv
  split at hv
  ·rename_i v' hv'
   simp only [Option.some.injEq] at hv; subst hv
   have hlen : ((cs.drop (j.toNat * P.cellsOf e)).take (P.cellsOf e)).length = 1 := by rw [hv']; rfl
   have hlt : j.toNat * P.cellsOf e < cs.length := by simp at hlen; omega
   have h0 := getD_window (cs := cs) (off := j.toNat * P.cellsOf e) (n := P.cellsOf e) (j := 0) (by simp at hlen; omega) hj.2.2
   rw [hv'] at h0; simp only [Nat.add_zero,List.getD_cons_zero] at h0
   exact fin _ (part_one ha (by omega) (by rw [he']; simp)) (by rw [h0]; exact hvu _ hlt)
  ·cases hv
theorem op_minmax (hR : Rel P Ξ B S G st N a w) {mx : Bool} {ts : Array TypeId} {x y : Operand} {x' y' : Opd} {k : IntKind} {m n : Int} (ho : o.op = .call { callee := .builtin (if mx then .max else .min),args := #[x,y],argTypes := ts })
  (h1 : lowOpd x = some x') (h2 : lowOpd y = some y') (hX : St.get st.fr x' = .int k m) (hY : St.get st.fr y' = .int k n) :
  OpOk P Ξ B S st N a w o d { v := .int k (if mx then (if n > m then n else m) else (if n < m then n else m)) } := by
 have hx := opd_sound hR h1
 have hy := opd_sound hR h2
 rw [hX] at hx; rw [hY] at hy
 have hx' := int_of hx
 have hy' := int_of hy
 refine ok_pure (x := .int k (if mx then (if n > m then n else m) else (if n < m then n else m))) hR ?_ (.int _ _)
 cases mx
 ·simp [execOp,ho,resolve,invoke,builtin,Builtin.min_,Builtin.min2,hx',hy']
 ·simp [execOp,ho,resolve,invoke,builtin,Builtin.max_,Builtin.max2,hx',hy']
theorem zeroV_sound {T : Nat → Nat → Prop} {t : TypeId} {z : Val} (h : lowZeroV P t = some z) : ∃ i v,P.info? t = some i ∧ i.zero = some v ∧ VR T G w z v := by
 unfold lowZeroV at h
 split at h
 ·rename_i cs hz
  obtain ⟨i,hi,hz⟩ := Option.bind_eq_some_iff.1 hz
  split at h
  ·simp only [Option.map_eq_some_iff] at h
   obtain ⟨zs,hzs,rfl⟩ := h
   obtain ⟨h1,h2⟩ := mapO_some hzs
   simp only [Array.length_toList] at h1
   have h3 : ∀ j (hj : j < zs.length),lowVal (cs.getD j undef) = some (zs.getD j .dead) := fun j hj => by
    have := h2 j (by simpa using (by omega : j < cs.size)) hj
    simpa [List.getD_eq_getElem?_getD,Array.getD_eq_getD_getElem?,hj,show j < cs.size by omega] using this
   exact ⟨i,_,hi,hz,.agg zs cs h1.symm (fun j hj => (lowVal_sound (G := G) (w := w) (T := T) (h3 j hj)).2) (fun j hj => (lowVal_sound (h3 j hj)).1)⟩
  ·cases h
 ·rename_i v _ hz
  obtain ⟨i,hi,hz⟩ := Option.bind_eq_some_iff.1 hz
  split at h
  ·cases h
  ·exact ⟨i,v,hi,hz,(lowVal_sound h).1⟩
 ·cases h
theorem VR.tup2 {T : Nat → Nat → Prop} {u v : Val} {x y : Value} (hu : VR T G w u x) (hv : VR T G w v y) : VR T G w (.tup [u,v]) (.tuple #[x,y]) := by
 refine .tup _ _ rfl (fun i hi => ?_)
 match i,hi with
 | 0,_ => exact hu
 | 1,_ => exact hv
theorem op_assert (hR : Rel P Ξ B S G st N a w) {t xt : TypeId} {x : Operand} {x' : Opd} {ok : Bool} {z : Val} {v : Val} (ho : o.op = .typeAssert x xt t ok) (hu : (P.underlying t).isSome = true) (hu' : ∀ ms,P.underlying t ≠ some (.interface ms)) (hz : lowZeroV P t = some z)
  (h1 : lowOpd x = some x') (hv : (match St.get st.fr x' with
   | .ifc t' v => if t' = t then some { v := if ok then .tup [v,.bool true] else v } else if ok then some { v := .tup [z,.bool false] } else none
   | .nili => if ok then some { v := .tup [z,.bool false] } else none
   | _ => none) = some ({ v := v } : Res)) : OpOk P Ξ B S st N a w o d { v := v } := by
 have hx := opd_sound hR h1
 obtain ⟨e,he⟩ := Option.isSome_iff_exists.1 hu
 obtain ⟨i,zv,hi,hzv,hvz⟩ := zeroV_sound (P := P) (G := G) (w := w) (T := Stab B S G w.heap.size) hz
 generalize hg : a.eval x = u at hx
 have nil : ok = true → u = .nilIface → OpOk P Ξ B S st N a w o d { v := .tup [z,.bool false] } := by
  rintro rfl rfl
  refine ok_pure (x := .tuple #[zv,.bool false]) hR ?_ (hvz.tup2 (.bool _))
  simp only [execOp,ho,hg,Instr.typeAssert,Sem.run_bind,run_underlying he,Result.andThen_ok]
  cases e <;> first | exact absurd he (hu' _) | simp [run_zeroValue hi hzv]
 split at hv
 ·rename_i t' v' he'
  rw [he'] at hx
  cases hx with
  | ifc _ _ y hy =>
  split at hv
  ·rename_i ht; subst ht
   simp only [Option.some.injEq,Res.mk.injEq,and_true] at hv; subst hv
   refine ok_pure (x := if ok then .tuple #[y,.bool true] else y) hR ?_ (by cases ok; exact hy; exact hy.tup2 (.bool _))
   simp only [execOp,ho,hg,Instr.typeAssert,Sem.run_bind,run_underlying he,Result.andThen_ok]
   cases e <;> first | exact absurd he (hu' _) | (cases ok <;> simp)
  ·rename_i ht
   split at hv
   ·rename_i hok
    simp only [Option.some.injEq,Res.mk.injEq,and_true] at hv; subst hv
    subst hok
    refine ok_pure (x := .tuple #[zv,.bool false]) hR ?_ (hvz.tup2 (.bool _))
    simp only [execOp,ho,hg,Instr.typeAssert,Sem.run_bind,run_underlying he,Result.andThen_ok]
    cases e <;> first | exact absurd he (hu' _) | simp [ht,run_zeroValue hi hzv]
   ·cases hv
 ·rename_i he'
  rw [he'] at hx
  split at hv
  ·rename_i hok
   simp only [Option.some.injEq,Res.mk.injEq,and_true] at hv; subst hv
   exact nil hok (by cases hx; rfl)
  ·cases hv
 ·cases hv
theorem op_len_slice (hR : Rel P Ξ B S G st N a w) {t e : TypeId} {ts : Array TypeId} {x : Operand} {x' : Opd} {n : Nat} (ho : o.op = .call { callee := .builtin .len,args := #[x],argTypes := ts }) (ht : ts[0]? = some t)
  (hu : P.underlying t = some (.slice e)) (h1 : lowOpd x = some x') (hl : lenOf (St.get st.fr x') = some n) : OpOk P Ξ B S st N a w o d { v := .int .i64 n } := by
 obtain ⟨p,c,hp,_⟩ := slice_shape (opd_sound hR h1) hl
 refine ok_pure (x := .int .i64 n) hR ?_ (.int _ _)
 simp [execOp,ho,resolve,invoke,builtin,Builtin.len_,ht,run_underlying hu,hp,goInt]
theorem op_len_str (hR : Rel P Ξ B S G st N a w) {t : TypeId} {ts : Array TypeId} {x : Operand} {x' : Opd} {s : ByteArray} (ho : o.op = .call { callee := .builtin .len,args := #[x],argTypes := ts }) (ht : ts[0]? = some t)
  (hu : P.underlying t = some .string) (h1 : lowOpd x = some x') (hl : St.get st.fr x' = .str s) : OpOk P Ξ B S st N a w o d { v := .int .i64 s.size } := by
 have hx := opd_sound hR h1
 rw [hl] at hx
 have : a.eval x = .string s := by generalize a.eval x = u at hx; cases hx; rfl
 refine ok_pure (x := .int .i64 s.size) hR ?_ (.int _ _)
 simp [execOp,ho,resolve,invoke,builtin,Builtin.len_,ht,run_underlying hu,this,goInt]
end
end Go.Abs
namespace Go.Abs
open Go.RowKit (Below)
variable [Inhabited Glob]
section
variable {P : Program} {Ξ : Env} {B : Nat} {S : Nat → Nat → Prop} {G : Gh} {st : St} {N : Nat} {a : Act} {w : World} {o : Oper} {d : Nat} {r : Res}
def boundIs (v : Option Value) (dflt n : Nat) : Prop :=
 match v with
 | none => n = dflt
 | some x => ∃ k,x = .int k n
theorem bound_is {T : Nat → Nat → Prop} {v : Option Val} {x : Option Value} {dflt top n : Nat} (h : bound v dflt top = some n) (hv : ∀ u,v = some u → ∃ y,x = some y ∧ VR T G w u y) (hn : v = none → x = none) :
  boundIs x dflt n ∧ (n ≤ top ∨ x = none) := by
 unfold bound at h
 split at h
 ·rw [hn rfl]; simp only [Option.some.injEq] at h; exact ⟨h.symm,.inr rfl⟩
 ·rename_i k i
  split at h
  ·rename_i hi
   simp only [Option.some.injEq] at h; subst h
   obtain ⟨y,hy,hv⟩ := hv _ rfl
   rw [hy,int_of hv]
   exact ⟨⟨k,by rw [Int.toNat_of_nonneg hi.1]⟩,.inl (by omega)⟩
  ·cases h
 ·cases h
theorem run_slice {t e : TypeId} {p : Option Addr} {len cap : Nat} {lo hi mx : Option Value} {l h m : Nat} (ht : P.underlying t = some (.slice e)) (he : (P.info? e).isSome = true)
  (hm : boundIs mx cap m) (hm' : m ≤ cap) (hh : boundIs hi len h) (hh' : h ≤ m) (hmh : mx ≠ none → hi ≠ none) (hl : boundIs lo 0 l) (hl' : l ≤ h) :
  (Instr.sliceAt t (.slice p len cap) lo hi mx).run P w = .ok (.slice (if m = l then p else p.map (·.add (l * P.cellsOf e))) (h - l) (m - l)) w := by
 obtain ⟨ti,hti⟩ := Option.isSome_iff_exists.1 he
 have sb : ∀ {k : IntKind} {n top : Nat} {c : BoundsCode},n ≤ top → (Instr.sliceBound (.int k n) top c).run P w = .ok n w := by
  intro k n top c hle
  simp [Instr.sliceBound,asIntOf,hle]
 simp only [Instr.sliceAt,Sem.run_bind,run_underlying ht,Result.andThen_ok,Instr.slice,Instr.sliceBounds]
 cases mx with
 | none =>
  simp only [boundIs] at hm; subst hm
  cases hi with
  | none =>
   simp only [boundIs] at hh; subst hh
   cases lo with
   | none => simp only [boundIs] at hl; subst hl; simp [run_sizeOf hti]
   | some lv => obtain ⟨k,rfl⟩ := hl; simp [run_sizeOf hti,sb hl']
  | some hv =>
   obtain ⟨kh,rfl⟩ := hh
   cases lo with
   | none => simp only [boundIs] at hl; subst hl; simp [run_sizeOf hti,sb hh']
   | some lv => obtain ⟨k,rfl⟩ := hl; simp [run_sizeOf hti,sb hl',sb hh']
 | some mv =>
  obtain ⟨km,rfl⟩ := hm
  cases hi with
  | none => exact absurd rfl (hmh (by simp))
  | some hv =>
   obtain ⟨kh,rfl⟩ := hh
   cases lo with
   | none => simp only [boundIs] at hl; subst hl; simp [run_sizeOf hti,sb hh',sb hm']
   | some lv => obtain ⟨k,rfl⟩ := hl; simp [run_sizeOf hti,sb hl',sb hh',sb hm']
theorem VR.part {T : Nat → Nat → Prop} {xs : List Val} {b off sz : Nat} {c : Nat → Nat → Value} (hs : ∀ i,i < xs.length → (xs.getD i .dead).cells.length = sz)
  (hc : ∀ i j,i < xs.length → j < sz → w.cell? ⟨b,off + i * sz + j,.none⟩ = some (c i j)) (ht : ∀ i j,i < xs.length → j < sz → T b (off + i * sz + j)) (ho : ∀ i j,i < xs.length → j < sz → oneV (c i j) = true)
  (hv : ∀ i j,i < xs.length → j < sz → VR T Gh.none w ((xs.getD i .dead).cells.getD j .dead) (c i j)) {l h : Nat} (hl : l ≤ h) (hh : h ≤ xs.length) :
  (∀ cap,h - l ≤ cap → VR T G w (.fz ((xs.take h).drop l)) (.slice (some ⟨b,off + l * sz,.none⟩) (h - l) cap)) ∧ VR T G w (.cl ((xs.take h).drop l)) (.slice (some ⟨b,off + l * sz,.none⟩) (h - l) (h - l)) := by
 have hlen : ((xs.take h).drop l).length = h - l := by simp; omega
 have hget : ∀ i,i < h - l → ((xs.take h).drop l).getD i .dead = xs.getD (l + i) .dead := by
  intro i hi
  simp only [List.getD_eq_getElem?_getD,List.getElem?_drop,List.getElem?_take,show l + i < h by omega,if_true]
 have hoff : ∀ i j,off + l * sz + i * sz + j = off + (l + i) * sz + j := fun i j => by rw [Nat.add_mul]; omega
 have s1 : ∀ i,i < ((xs.take h).drop l).length → (((xs.take h).drop l).getD i .dead).cells.length = sz := fun i hi => by rw [hlen] at hi; rw [hget i hi]; exact hs _ (by omega)
 have s2 : ∀ i j,i < ((xs.take h).drop l).length → j < sz → w.cell? ⟨b,off + l * sz + i * sz + j,.none⟩ = some (c (l + i) j) := fun i j hi hj => by rw [hlen] at hi; rw [hoff]; exact hc _ _ (by omega) hj
 have s3 : ∀ i j,i < ((xs.take h).drop l).length → j < sz → T b (off + l * sz + i * sz + j) := fun i j hi hj => by rw [hlen] at hi; rw [hoff]; exact ht _ _ (by omega) hj
 have s4 : ∀ i j,i < ((xs.take h).drop l).length → j < sz → oneV (c (l + i) j) = true := fun i j hi hj => by rw [hlen] at hi; exact ho _ _ (by omega) hj
 have s5 : ∀ i j,i < ((xs.take h).drop l).length → j < sz → VR T Gh.none w ((((xs.take h).drop l).getD i .dead).cells.getD j .dead) (c (l + i) j) := fun i j hi hj => by rw [hlen] at hi; rw [hget i hi]; exact hv _ _ (by omega) hj
 refine ⟨fun cap hcap => ?_,?_⟩
 ·have := VR.fz (G := G) ((xs.take h).drop l) b (off + l * sz) sz cap (fun i j => c (l + i) j) (by rw [hlen]; exact hcap) s1 s2 s3 s4 s5
  rwa [hlen] at this
 ·have := VR.cl (G := G) ((xs.take h).drop l) b (off + l * sz) sz (fun i j => c (l + i) j) s1 s2 s3 s4 s5
  rwa [hlen] at this
theorem size_of_head {xs : List Val} {sz size : Nat} (hs : ∀ i,i < xs.length → (xs.getD i .dead).cells.length = sz) (h : headOk size xs = true) : xs = [] ∨ sz = size := by
 cases xs with
 | nil => exact .inl rfl
 | cons y ys =>
  have := hs 0 (by simp)
  simp [headOk] at h
  simp at this
  exact .inr (this.symm.trans h)
theorem opt_none {x : Option Operand} {y : Option Opd} (h : lowOpt x = some y) : y.map (St.get st.fr) = none → x.map a.eval = none := by
 cases x <;> simp [lowOpt] at h <;> intro hn
 ·rfl
 ·obtain ⟨z,_,rfl⟩ := h; simp at hn
theorem opt_some (hR : Rel P Ξ B S G st N a w) {x : Option Operand} {y : Option Opd} (h : lowOpt x = some y) : ∀ u,y.map (St.get st.fr) = some u → ∃ z,x.map a.eval = some z ∧ VR (Stab B S G w.heap.size) G w u z := by
 intro u hu
 cases x with
 | none => simp [lowOpt] at h; subst h; simp at hu
 | some x =>
  simp only [lowOpt,Option.map_eq_some_iff] at h
  obtain ⟨z,hz,rfl⟩ := h
  simp at hu; subst hu
  exact ⟨_,rfl,opd_sound hR hz⟩
inductive Fro (T : Nat → Nat → Prop) (w : World) (xs : List Val) (clip : Bool) : Value → Prop
 | nil (p : Option Addr) (cap : Nat) (h : xs = []) (hc : clip = true → cap = 0) : Fro T w xs clip (.slice p 0 cap)
 | some (b off sz cap : Nat) (c : Nat → Nat → Value) (hc : xs.length ≤ cap) (hcl : clip = true → cap = xs.length) (hs : ∀ i,i < xs.length → (xs.getD i .dead).cells.length = sz)
   (h : ∀ i j,i < xs.length → j < sz → w.cell? ⟨b,off + i * sz + j,.none⟩ = .some (c i j)) (ht : ∀ i j,i < xs.length → j < sz → T b (off + i * sz + j)) (ho : ∀ i j,i < xs.length → j < sz → oneV (c i j) = true)
   (hv : ∀ i j,i < xs.length → j < sz → VR T Gh.none w ((xs.getD i .dead).cells.getD j .dead) (c i j)) : Fro T w xs clip (.slice (.some ⟨b,off,.none⟩) xs.length cap)
theorem fro_fz {T : Nat → Nat → Prop} {xs : List Val} {x : Value} (h : VR T G w (.fz xs) x) : Fro T w xs false x := by
 cases h with
 | fz0 p cap => exact .nil p cap rfl (by simp)
 | fz _ b off sz cap c hc hs h ht ho hv => exact .some b off sz cap c hc (by simp) hs h ht ho hv
theorem fro_cl {T : Nat → Nat → Prop} {xs : List Val} {x : Value} (h : VR T G w (.cl xs) x) : Fro T w xs true x := by
 cases h with
 | cl0 p => exact .nil p 0 rfl (by simp)
 | cl _ b off sz c hs h ht ho hv => exact .some b off sz _ c (Nat.le_refl _) (by simp) hs h ht ho hv
theorem slice_fro {T : Nat → Nat → Prop} {t e : TypeId} {xs : List Val} {clip : Bool} {x : Value} {lo hi mx : Option Value} {l h : Nat} (ht : P.underlying t = some (.slice e)) (he : (P.info? e).isSome = true) (hx : Fro T w xs clip x)
  (hh : boundIs hi xs.length h) (hh' : h ≤ xs.length) (hl : boundIs lo 0 l) (hl' : l ≤ h) (hsz : l = 0 ∨ headOk (P.cellsOf e) xs = true) :
  (mx = none → ∃ y,(Instr.sliceAt t x lo hi mx).run P w = .ok y w ∧ VR T G w (.fz ((xs.take h).drop l)) y ∧ (clip = true → h = xs.length → VR T G w (.cl ((xs.take h).drop l)) y)) ∧
  (∀ m,m ≤ xs.length → h ≤ m → boundIs mx 0 m → mx ≠ none → hi ≠ none → ∃ y,(Instr.sliceAt t x lo hi mx).run P w = .ok y w ∧ VR T G w (.fz ((xs.take h).drop l)) y ∧ (m = h → VR T G w (.cl ((xs.take h).drop l)) y)) := by
 cases hx with
 | nil p cap hn hc =>
  subst hn
  simp at hh'; subst hh'; simp at hl'; subst hl'
  refine ⟨fun hmx => ?_,fun m hm hm' hmb hmx hhi => ?_⟩
  ·subst hmx
   refine ⟨_,run_slice ht he (m := cap) rfl (Nat.le_refl _) hh (Nat.zero_le _) (by simp) hl (Nat.le_refl _),?_,fun hcl _ => ?_⟩
   ·simp only [List.take_zero,List.drop_nil,Nat.sub_zero]
    exact .fz0 _ _
   ·rw [hc hcl]; simp only [List.take_zero,List.drop_nil,if_true]; exact .cl0 _
  ·simp at hm; subst hm
   have hmb' : boundIs mx cap 0 := by
    cases mx with
    | none => exact absurd rfl hmx
    | some mv => exact hmb
   refine ⟨_,run_slice ht he hmb' (Nat.zero_le _) hh (Nat.le_refl _) (fun _ => hhi) hl (Nat.le_refl _),?_,fun _ => ?_⟩
   ·simp only [List.take_zero,List.drop_nil,if_true]; exact .fz0 _ _
   ·simp only [List.take_zero,List.drop_nil,if_true]; exact .cl0 _
 | some b off sz cap c hc hcl hs hcell hT ho hv =>
  have hmul : l * P.cellsOf e = l * sz ∨ xs = [] := by
   rcases hsz with rfl | hsz
   ·simp
   ·rcases size_of_head hs hsz with h0 | h0
    ·exact .inr h0
    ·subst h0; exact .inl rfl
  obtain ⟨p1,p2⟩ := VR.part (G := G) hs hcell hT ho hv hl' hh'
  have hempty : ∀ m,m = l → h ≤ m → (xs.take h).drop l = [] := fun m hm hm' => by
   apply List.drop_eq_nil_of_le; simp; omega
  have fin : ∀ m,h ≤ m → (VR T G w (.fz ((xs.take h).drop l)) (.slice (if m = l then some ⟨b,off,.none⟩ else (some (⟨b,off,.none⟩ : Addr)).map (·.add (l * P.cellsOf e))) (h - l) (m - l))) ∧
    (m = h → VR T G w (.cl ((xs.take h).drop l)) (.slice (if m = l then some ⟨b,off,.none⟩ else (some (⟨b,off,.none⟩ : Addr)).map (·.add (l * P.cellsOf e))) (h - l) (m - l))) := by
   intro m hm
   by_cases hml : m = l
   ·have h0 : h - l = 0 := by omega
    rw [hempty m hml hm,h0]
    exact ⟨.fz0 _ _,fun e => by rw [show m - l = 0 by omega]; exact .cl0 _⟩
   ·rw [if_neg hml,Option.map_some,add_none]
    rcases hmul with hmul | hnil
    ·rw [hmul]
     exact ⟨p1 _ (by omega),fun e => by subst e; exact p2⟩
    ·subst hnil
     simp at hh'; subst hh'; simp at hl'; subst hl'
     simp only [List.take_zero,List.drop_nil,Nat.sub_zero]
     exact ⟨.fz0 _ _,fun e => by subst e; exact .cl0 _⟩
  refine ⟨fun hmx => ?_,fun m hm hm' hmb hmx hhi => ?_⟩
  ·subst hmx
   obtain ⟨f1,f2⟩ := fin cap (by omega)
   exact ⟨_,run_slice ht he (m := cap) rfl (Nat.le_refl _) hh (by omega) (by simp) hl hl',f1,fun hcl' hlen => f2 (by rw [hcl hcl',hlen])⟩
  ·have hmb' : boundIs mx cap m := by
    cases mx with
    | none => exact absurd rfl hmx
    | some mv => exact hmb
   obtain ⟨f1,f2⟩ := fin m hm'
   exact ⟨_,run_slice ht he hmb' (by omega) hh hm' (fun _ => hhi) hl hl',f1,f2⟩
theorem op_slice (hR : Rel P Ξ B S G st N a w) {t e : TypeId} {x : Operand} {x' : Opd} {lo hi mx : Option Operand} {lo' hi' mx' : Option Opd} {r : Res} (ho : o.op = .slice t x lo hi mx) (ht : P.underlying t = some (.slice e)) (he : (P.info? e).isSome = true)
  (h1 : lowOpd x = some x') (h2 : lowOpt lo = some lo') (h3 : lowOpt hi = some hi') (h4 : lowOpt mx = some mx') {n : Nat} {call : CallFn}
  (hv : eval n call 0 d (st.cnt 0 d) st.en (St.get st.fr) (.slice false (P.cellsOf e) x' lo' hi' mx') = some r) : OpOk P Ξ B S st N a w o d r := by
 have hx := opd_sound hR h1
 have bl : ∀ {dflt top n : Nat},bound (lo'.map (St.get st.fr)) dflt top = some n → boundIs (lo.map a.eval) dflt n := fun h => (bound_is h (opt_some hR h2) (opt_none h2)).1
 have bh : ∀ {dflt top n : Nat},bound (hi'.map (St.get st.fr)) dflt top = some n → boundIs (hi.map a.eval) dflt n := fun h => (bound_is h (opt_some hR h3) (opt_none h3)).1
 have le_of : ∀ {v : Option Val} {dflt top n : Nat},bound v dflt top = some n → dflt ≤ top → n ≤ top := by
  intro v dflt top n h hd
  unfold bound at h
  split at h
  ·simp at h; omega
  ·split at h
   ·simp at h; omega
   ·cases h
  ·cases h
 have run : ∀ {y : Value},(Instr.sliceAt t (a.eval x) (lo.map a.eval) (hi.map a.eval) (mx.map a.eval)).run P w = .ok y w → (execOp a.eval o).run P w = .ok (.value y) w := fun h => by
  simp only [execOp,ho,Sem.run_bind,h,Result.andThen_ok,Sem.run_pure]
 have two : ∀ {xs : List Val} {clip : Bool} {l h : Nat},Fro (Stab B S G w.heap.size) w xs clip (a.eval x) → mx' = none → bound (hi'.map (St.get st.fr)) xs.length xs.length = some h → bound (lo'.map (St.get st.fr)) 0 h = some l →
   (l = 0 ∨ headOk (P.cellsOf e) xs = true) → OpOk P Ξ B S st N a w o d { v := .fz ((xs.take h).drop l) } ∧ (clip = true → h = xs.length → OpOk P Ξ B S st N a w o d { v := .cl ((xs.take h).drop l) }) := by
  intro xs clip l h hf hm hb1 hb2 hsz
  obtain ⟨y,hy,v1,v2⟩ := (slice_fro (G := G) ht he hf (bh hb1) (le_of hb1 (Nat.le_refl _)) (bl hb2) (le_of hb2 (Nat.zero_le _)) hsz).1 (opt_none (st := st) h4 (by rw [hm]; rfl))
  exact ⟨ok_pure hR (run hy) v1,fun hc hl => ok_pure hR (run hy) (v2 hc hl)⟩
 have three : ∀ {xs : List Val} {clip : Bool} {u : Opd} {r : Res},Fro (Stab B S G w.heap.size) w xs clip (a.eval x) → mx' = some u →
   cut3 (P.cellsOf e) xs (lo'.map (St.get st.fr)) (hi'.map (St.get st.fr)) (St.get st.fr u) = some r → OpOk P Ξ B S st N a w o d r := by
  intro xs clip u r hf hm h
  unfold cut3 at h
  split at h
  ·rename_i m hbm
   split at h
   ·cases h
   ·rename_i hi0 hhi
    split at h
    ·rename_i hh hb1
     split at h
     ·rename_i l hb2
      split at h
      ·rename_i hsz
       simp only [Option.some.injEq] at h; subst h
       have hm2 := opt_some hR h4 (St.get st.fr u) (by rw [hm]; rfl)
       obtain ⟨mv,hmv,hvr⟩ := hm2
       obtain ⟨hmb,_⟩ := bound_is (x := mx.map a.eval) hbm (fun z hz => by simp at hz; subst hz; exact ⟨mv,hmv,hvr⟩) (by simp)
       have hi1 := opt_some hR h3 hi0 hhi
       obtain ⟨hiv,hiv',_⟩ := hi1
       have hbh : boundIs (hi.map a.eval) xs.length hh := by
        have := bh hb1
        rw [hiv'] at this ⊢; exact this
       obtain ⟨y,hy,v1,v2⟩ := (slice_fro (G := G) ht he hf hbh (by have := le_of hb1 (Nat.zero_le _); have := le_of hbm (Nat.zero_le _); omega) (bl hb2) (le_of hb2 (Nat.zero_le _)) hsz).2 m (le_of hbm (Nat.zero_le _)) (le_of hb1 (Nat.zero_le _)) hmb (by rw [hmv]; simp) (by rw [hiv']; simp)
       by_cases hmh : m = hh
       ·rw [if_pos hmh]; exact ok_pure hR (run hy) (v2 hmh)
       ·rw [if_neg hmh]; exact ok_pure hR (run hy) v1
      ·cases h
     ·cases h
    ·cases h
  ·cases h
 simp only [eval,Bool.false_eq_true,if_false] at hv
 split at hv
 ·rename_i xs hX
  rw [hX] at hx
  split at hv
  ·split at hv
   ·rename_i h hb1
    split at hv
    ·rename_i l hb2
     split at hv
     ·rename_i hsz
      simp only [Option.some.injEq] at hv; subst hv
      exact (two (fro_fz hx) rfl hb1 hb2 hsz).1
     ·cases hv
    ·cases hv
   ·cases hv
  ·exact three (fro_fz hx) rfl hv
 ·rename_i xs hX
  rw [hX] at hx
  split at hv
  ·split at hv
   ·rename_i h hb1
    split at hv
    ·rename_i l hb2
     split at hv
     ·rename_i hsz
      simp only [Option.some.injEq] at hv; subst hv
      obtain ⟨t1,t2⟩ := two (fro_cl hx) rfl hb1 hb2 hsz
      by_cases hlen : h = xs.length
      ·rw [if_pos hlen]
       have := t2 rfl hlen
       rwa [hlen,List.take_length] at this
      ·rw [if_neg hlen]; exact t1
     ·cases hv
    ·cases hv
   ·cases hv
  ·exact three (fro_cl hx) rfl hv
 ·rename_i k off len hX
  rw [hX] at hx
  split at hv
  ·split at hv
   ·rename_i h hb1
    split at hv
    ·rename_i l hb2
     split at hv
     ·rename_i sz ys f hen
      split at hv
      ·rename_i hsz
       simp only [Option.some.injEq] at hv; subst hv
       have hh := le_of hb1 (Nat.le_refl _)
       have hl := le_of hb2 (Nat.zero_le _)
       have hmx : mx.map a.eval = none := opt_none (st := st) h4 rfl
       generalize hg : a.eval x = u at hx
       have run' : ∀ {p : Option Addr} {cap : Nat},u = .slice p len cap → len ≤ cap → (execOp a.eval o).run P w = .ok (.value (.slice (if cap = l then p else p.map (·.add (l * P.cellsOf e))) (h - l) (cap - l))) w := by
        intro p cap hu hc
        refine run ?_
        rw [hg,hu]
        exact run_slice ht he (m := cap) (by rw [hmx]; rfl) (Nat.le_refl _) (bh hb1) (by omega) (by rw [hmx]; simp) (bl hb2) hl
       cases hx with
       | bl0 _ p hb =>
        simp at hh; subst hh; simp at hl; subst hl
        exact ok_pure hR (run' rfl (Nat.le_refl _)) (by simp only [Nat.sub_zero,Nat.add_zero]; exact .bl0 _ _ hb)
       | ble _ p b base sz' C hb =>
        simp at hh; subst hh; simp at hl; subst hl
        exact ok_pure hR (run' rfl (Nat.le_refl _)) (by simp only [Nat.sub_zero,Nat.add_zero]; exact .ble _ _ _ _ _ _ hb)
       | bl _ _ _ b base sz' C hb hC =>
        have hsz' : sz' = sz := by
         have hE := hR.ents _ _ hen (Gh.knows_blk hb)
         cases hE with
         | nul _ _ hb' => rw [hb] at hb'; cases hb'
         | blk _ _ _ _ _ _ _ _ _ hb' => rw [hb] at hb'; simp only [Option.some.injEq,Prod.mk.injEq] at hb'; exact hb'.2.2.1
         | full _ _ _ _ _ hb' => rw [hb] at hb'; simp only [Option.some.injEq,Prod.mk.injEq] at hb'; exact hb'.2.2.1
        subst hsz'
        refine ok_pure hR (run' rfl (by omega)) ?_
        by_cases hcl : C - off = l
        ·rw [if_pos hcl,show h - l = 0 by omega,show C - off - l = 0 by omega,show off + l = C by omega]
         exact .ble _ _ b base _ C hb
        ·rw [if_neg hcl,Option.map_some,add_none]
         have hadr : base + off * sz' + l * P.cellsOf e = base + (off + l) * sz' := by
          rcases hsz with rfl | rfl
          ·simp
          ·rw [Nat.add_mul]; omega
         rw [hadr,show C - off - l = C - (off + l) by omega]
         exact .bl _ _ _ b base _ C hb (by omega)
      ·cases hv
     ·cases hv
    ·cases hv
   ·cases hv
  ·cases hv
 ·cases hv
theorem op_slice_str (hR : Rel P Ξ B S G st N a w) {t : TypeId} {x : Operand} {x' : Opd} {lo hi : Option Operand} {lo' hi' : Option Opd} {r : Res} (ho : o.op = .slice t x lo hi none) (ht : P.underlying t = some .string)
  (h1 : lowOpd x = some x') (h2 : lowOpt lo = some lo') (h3 : lowOpt hi = some hi') {n : Nat} {call : CallFn}
  (hv : eval n call 0 d (st.cnt 0 d) st.en (St.get st.fr) (.slice true 1 x' lo' hi' none) = some r) : OpOk P Ξ B S st N a w o d r := by
 have hx := opd_sound hR h1
 simp only [eval,if_true,Option.map_none] at hv
 generalize hg : a.eval x = u at hx
 split at hv
 case h_2 => cases hv
 rename_i s hX _
 rw [hX] at hx
 cases hx with
 | str =>
 split at hv
 case h_2 => cases hv
 rename_i h hb1
 obtain ⟨l,hb2,rfl⟩ := Option.map_eq_some_iff.1 hv
 obtain ⟨bh,lh⟩ := bound_is hb1 (opt_some hR h3) (opt_none h3)
 obtain ⟨bl,ll⟩ := bound_is hb2 (opt_some hR h2) (opt_none h2)
 have sb : ∀ {k : IntKind} {n top : Nat} {c : BoundsCode},n ≤ top → (Instr.sliceBound (.int k n) top c).run P w = .ok n w := by
  intro k n top c hle
  simp [Instr.sliceBound,asIntOf,hle]
 have hh : h ≤ s.size := by
  rcases lh with h0 | h0
  ·exact h0
  ·rw [h0] at bh; simp only [boundIs] at bh; omega
 have hl : l ≤ h := by
  rcases ll with h0 | h0
  ·exact h0
  ·rw [h0] at bl; simp only [boundIs] at bl; omega
 refine ok_pure (x := .string (s.extract l h)) hR ?_ (.str _)
 have run : (Instr.sliceAt t (.string s) (lo.map a.eval) (hi.map a.eval) none).run P w = .ok (.string (s.extract l h)) w := by
  simp only [Instr.sliceAt,Sem.run_bind,run_underlying ht,Result.andThen_ok,Instr.slice,Instr.sliceBounds]
  generalize hi.map a.eval = hiv at bh
  generalize lo.map a.eval = lov at bl
  cases hiv with
  | none =>
   simp only [boundIs] at bh; subst bh
   cases lov with
   | none => simp only [boundIs] at bl; subst bl; simp
   | some lv => obtain ⟨k,rfl⟩ := bl; simp [sb hl]
  | some hv =>
   obtain ⟨kh,rfl⟩ := bh
   cases lov with
   | none => simp only [boundIs] at bl; subst bl; simp [sb hh]
   | some lv => obtain ⟨k,rfl⟩ := bl; simp [sb hl,sb hh]
 simp [execOp,ho,hg,run]
end
end Go.Abs
