/- What the functions of the program are for the interpreter. -/
import Derived.Test.YtmafmhjndjmalaaGreatRows
import Derived.Test.YtmafmhjndjmalaaGreatHxC
set_option linter.all false
namespace Go.Proofs.YtmafmhjndjmalaaGreat
open Go.Abs Go.Proofs
def bQ6 (p f t x:List Nat):Operand->Bool
 | .const (.int .i64 n)=>p.contains n.toNat
 | .func n=>f.contains n
 | .tmp n=>t.contains n
 | .const .nilIface=>x.contains 0
 | .const .nilFunc=>x.contains 1
 | .const (.map none)=>x.contains 2
 | .const (.bool b)=>x.contains (if b then 3 else 4)
 |_=>false
def bQ7 :List (Nat×List Nat×List Nat×List Nat×List Nat):=[(11,[44],[],[],[]),(12,[44,47,49],[],[],[]),(14,[44,47],[],[],[]),(17,[44,47,49,57,58],[],[],[]),
 (22,[44,47,57,58],[],[],[]),(23,[44,68],[],[],[]),(24,[44,68],[],[],[]),(25,[44,68],[],[],[]),(27,[44,47,75],[],[],[]),(29,[44,47,57],[],[],[]),(31,[44,47],[],[],[]),
 (34,[44,47,49,89],[86],[],[]),(41,[47],[],[],[]),(42,[],[],[13],[]),(44,[47],[],[],[]),(57,[49,89],[],[],[]),(58,[47],[],[],[]),(68,[47],[],[],[]),(75,[47],[],[],[]),
 (79,[],[116,118],[],[]),(80,[],[121],[],[]),(89,[47],[],[],[]),(95,[],[144,145,146],[],[]),(96,[],[152,154],[],[]),(100,[],[116,156],[],[]),(104,[],[],[],[5,6]),
 (105,[],[],[],[5,6]),(106,[],[],[],[5,6]),(109,[49,89],[],[52],[]),(115,[49,89],[],[57],[]),(118,[171],[167,171],[],[]),(123,[],[80],[],[]),(126,[],[121,123],[],[]),
 (130,[],[121],[],[]),(132,[],[126],[],[]),(136,[],[121],[],[]),(137,[],[116,177],[],[]),(145,[],[180,181,182,183,184],[],[]),(152,[],[191,152],[],[]),
 (154,[],[194,154],[],[3]),(156,[],[118],[],[]),(167,[],[],[],[1]),(169,[],[167],[],[]),(171,[204,207],[204,207],[102],[0]),(177,[],[156,118],[],[]),
 (180,[],[182],[],[]),(181,[],[213],[],[]),(182,[],[214],[],[]),(183,[],[181,180,182,215],[],[]),(184,[],[181,180,215,216],[],[]),(191,[],[191],[],[]),
 (194,[],[194],[],[]),(203,[],[],[],[5,6]),(204,[245],[],[],[1]),(205,[],[],[],[5]),(207,[204],[204],[],[]),(210,[],[],[],[5,6]),(211,[],[],[],[5]),
 (215,[],[274,182,215],[],[]),(216,[],[182,275,181,180,216,276],[],[]),(240,[],[301],[],[]),(246,[],[],[],[5]),(247,[],[304],[],[]),(248,[245],[304],[],[]),
 (249,[308],[308,304],[],[]),(250,[309,204,310],[309,204,310,304],[],[]),(251,[311,207],[207],[],[]),(252,[245,207],[207],[],[]),(253,[312,245],[312,304],[],[]),
 (254,[312],[312,304],[],[]),(255,[245],[304],[],[]),(256,[308],[308,304],[],[]),(257,[311,207],[313,207],[],[]),(258,[308],[308,314],[],[]),
 (259,[310],[310,314],[],[]),(260,[310],[310,315,314],[],[]),(261,[309,310,308],[309,310,308,314],[],[2]),(262,[310],[310,314],[],[]),(263,[308],[308,314],[],[]),
 (264,[310],[310,315,314],[],[]),(265,[310],[310,315,314],[],[]),(266,[245],[314],[],[2]),(267,[245],[314],[],[]),(268,[],[304],[],[]),
 (269,[245,308,311,207],[308,207],[],[]),(270,[],[314],[],[]),(271,[],[118],[],[]),(274,[],[182,325,181,215,180],[],[]),(275,[],[181,180,216],[],[]),
 (276,[],[326,214],[],[]),(302,[],[],[8],[]),(308,[245],[],[],[2]),(309,[311],[340],[],[]),(310,[245],[340],[],[]),(311,[245],[],[],[]),(312,[245],[],[],[]),
 (313,[],[340,313],[],[]),(315,[],[],[],[2]),(316,[],[],[],[5]),(317,[],[],[],[5]),(325,[],[274],[],[]),(326,[],[342,182],[],[]),(339,[],[],[],[5]),
 (342,[],[345,346],[],[]),(345,[],[213,181,214,347,182,348,216,180,349],[],[]),(347,[],[180,216,182],[],[]),(348,[],[216,180,351,182],[],[]),
 (349,[],[347,180,181,216],[],[]),(351,[],[182,213,181,180,351],[],[])]
def cfg (n:Nat):(Operand->Bool)×Bool×Bool:=match bQ7.lookup n with
 |some (p,f,t,x)=>(bQ6 p f t x,x.contains 5,x.contains 6)
 |none=>(fun _=>false,false,false)
noncomputable def L :bH:=bCj Tryz.prog cfg
theorem bF8 :rA Tryz.prog L:=bFx _ _
variable {fn:Func}{n:Nat}
theorem at_ (h:Tryz.prog.funcs[n]?=some fn):L n=pN Tryz.prog (cfg n).1 (cfg n).2.1 (cfg n).2.2 fn:=bFw h
variable {args:List Val}{lf:fR}
theorem pcA {r:Val}(h:Tryz.prog.funcs[n]?=some fn)(k:Wp L lf.body (Go.Abs.start args) fun e st=>e.ends=true/\ bCn st lf r)(e:pN Tryz.prog (cfg n).1 (cfg n).2.1 (cfg n).2.2 fn=some lf:=by conv=>lhs;reduce)(hn:args.length=lf.np:=by rfl)(ha:tA lf args=false:=by rfl):PC L n args r:=cD ((at_ h).trans e) hn ha k
theorem pxA {v:Val}(h:Tryz.prog.funcs[n]?=some fn)(k:Wp L lf.body (Go.Abs.start args) fun e st=>e= .panic v)(e:pN Tryz.prog (cfg n).1 (cfg n).2.1 (cfg n).2.2 fn=some lf:=by conv=>lhs;reduce)(hn:args.length=lf.np:=by rfl)(ha:tA lf args=false:=by rfl):PX L n args v:=bLg ((at_ h).trans e) hn ha k
variable {Q:Val->En->(Nat->Nat->Nat)->Prop}{cnt:Nat->Nat->Nat}{en:En}
theorem jB {a b:List Val}(h:Tryz.prog.funcs[n]?=some fn)(k:Wp L lf.body ⟨fun i=>(a++args++b).getD i (.tup []),en,cnt⟩ fun e st=>e.ends=true/\ match cY (pM st) lf.res with|some vs=>Q (aBi vs) st.en st.cnt|none=>False)(e:pN Tryz.prog (cfg n).1 (cfg n).2.1 (cfg n).2.2 fn=some lf:=by conv=>lhs;reduce)(hn:(a++args++b).length=lf.np:=by rfl)(ha:tA lf (a++args++b)=false:=by rfl)(hz:lf.nrm=[]:=by rfl):WIn L (.fn n a b) args en cnt Q:=dP ((at_ h).trans e) hn ha k hz
theorem lK (h:Tryz.prog.funcs[n]?=some fn)(k:Wp L lf.body ⟨fun i=>args.getD i (.tup []),en,cnt⟩ fun e st=>match e with| .panic v=>Q v st.en st.cnt|_=>False)(e:pN Tryz.prog (cfg n).1 (cfg n).2.1 (cfg n).2.2 fn=some lf:=by conv=>lhs;reduce)(hn:args.length=lf.np:=by rfl)(ha:tA lf args=false:=by rfl):xI L n args en cnt Q:=jK ((at_ h).trans e) hn ha k
noncomputable def cA {n:Nat}{fn:Func}{lf:fR}(h:Tryz.prog.funcs[n]?=some fn)(e:pN Tryz.prog (cfg n).1 (cfg n).2.1 (cfg n).2.2 fn=some lf:=by conv=>lhs;reduce):{c//L n=some c}:=⟨lf,(at_ h).trans e⟩
def aJl :fR:={np:=4,res:=[],keep:=false,body:=
 (.seq (.seq (.ops [l1 9 1,l1 10 2,bN 11 .geq (.t 9) (.t 10)])
 (.cond (.t 11)
 .ret
 .skip))
 (.seq (.opsP [l1 12 3,l1 13 1,cL 14 49 [(.t 12),(.t 13)],o 5 (.alloc [(.cl []),(.cl []),(.cl []),(.cl []),(.int .i64 0)]),sT 5 5 14])
 (.seq (.ops [l1 15 1,mT 6 15])
 (.block 0 (.loop (.seq (.seq (.ops [mT 16 6,l1 17 2,bN 18 .lss (.t 16) (.t 17)])
 (.cond (.t 18)
 .skip
 (.exit 0)))
 (.seq (.block 1 (.seq (.seq (.ops [l1 21 3,mT 22 6,cL 23 90 [(.t 21),(.t 22)]])
 (.cond (.t 23)
 (.draw [l1 24 3,nK 25 24,fA 26 0 25,fA 27 2 26,l1 28 27,mT 29 6,l1 30 3,nK 31 30,fA 32 0 31,fA 33 0 32,l1 34 33,bN 35 .quo (.t 29) (.t 34),iA 36 5 28 35,lT 37 5 36,
 sT 5 5 37]
 [])
 .skip))
 (.seq (.drawP [l1 39 3,lT 40 5 5,l1 41 3,nK 42 41,fA 43 0 42,fA 44 1 43,l1 45 44,mT 46 6,iA 47 1 45 46,l1 48 47,cL 49 89 [(.t 39),(.t 40),(.t 48)],
 mT 38 49,o 50 (.ext 0 (.t 38)),o 51 (.ext 1 (.t 38)),o 7 (.alloc [(.cl []),(.cl []),(.cl []),(.cl []),(.int .i64 0)]),
 o 8 (.alloc [(.int .i64 0),(.int .i64 0),(.int .i64 0),(.int .i64 0),(.int .i64 0)]),sT 5 7 50,sT 5 8 51]
 [[],[],[],[2],[3,2],[4,3,2],[5,4,3,2],[],[6,7,5,4,3,2],[8,6,7,5,4,3,2],[0,1,9,8,6,7,5,4,3,2],[10,0,1,9,8,6,7,5,4,3,2],[11,10,0,1,9,8,6,7,5,4,3,2],[11,10,0,1,9,8,6,7,5,4,3,2],[],[],[14,12,10,0,1,2,3,4,5,6,7,8,9,11,15],[15,13,16,0,1,2,3,4,5,6,7,8,9,10,11,12,14]]
 [(0,14),(1,14),(2,14),(6,14),(8,14),(9,14),(10,14),(0,15),(1,15),(2,15),(6,15),(8,15),(9,15),(10,15),(14,15)])
 (.seq (.seq (.ops [mT 52 0,mT 53 6,lT 54 5 5,lT 55 5 7,lT 56 5 8,
 o 57 (.build ([(.cl []),(.cl []),(.cl []),(.cl []),(.int .i64 0),(.cl []),(.cl []),(.cl []),(.cl []),(.int .i64 0),(.int .i64 0),(.int .i64 0),(.int .i64 0),(.int .i64 0),(.int .i64 0)]) [(0,5,(.t 54)),(5,5,(.t 55)),(10,5,(.t 56))]),
 o 58 (.icall (.t 52) [(.t 53),(.t 57)]),nT 59 58])
 (.cond (.t 59)
 .ret
 .skip))
 (.ops [lT 60 5 7,sT 5 5 60])))))
 (.ops [mT 19 6,bN 20 .add (.t 19) (cI 1),mT 6 20]))))))))}
theorem aJm :L 109=some aJl:=by kernel_rfl
end Go.Proofs.YtmafmhjndjmalaaGreat
