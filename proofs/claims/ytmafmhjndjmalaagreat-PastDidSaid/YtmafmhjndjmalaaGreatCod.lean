import Derived.Test.YtmafmhjndjmalaaGreatRows
import Derived.Test.YtmafmhjndjmalaaGreatHxCd
set_option linter.all false
namespace Go.Proofs.YtmafmhjndjmalaaGreat
open Go.Abs Go.Proofs Tryz
def bO0 (p f t x:List Nat):Operand->Bool
 | .const (.int .i64 n)=>p.contains n.toNat
 | .func n=>f.contains n
 | .tmp n=>t.contains n
 | .const .nilIface=>x.contains 0
 | .const .nilFunc=>x.contains 1
 | .const (.map none)=>x.contains 2
 | .const (.bool b)=>x.contains (if b then 3 else 4)
 |_=>false
def bO1 :List (Nat×List Nat×List Nat×List Nat×List Nat):=[(11,[44],[],[],[]),(12,[44,47,49],[],[],[]),(14,[44,47],[],[],[]),(17,[44,47,49,57,58],[],[],[]),
 (22,[44,47,57,58],[],[],[]),(23,[44,68],[],[],[]),(24,[44,68],[],[],[]),(25,[44,68],[],[],[]),(27,[44,47,75],[],[],[]),(29,[44,47,57],[],[],[]),(31,[44,47],[],[],[]),
 (34,[44,47,49,89],[86],[],[]),(41,[47],[],[],[]),(42,[],[],[13],[]),(44,[47],[],[],[]),(57,[49,89],[],[],[]),(58,[47],[],[],[]),(68,[47],[],[],[]),(75,[47],[],[],[]),
 (79,[],[116,118],[],[]),(80,[],[121],[],[]),(89,[47],[],[],[]),(95,[],[144,145,146],[],[]),(96,[],[152,154],[],[]),(100,[],[116,156],[],[]),(104,[],[],[],[5,6]),
 (105,[],[],[],[5,6]),(106,[],[],[],[5,6]),(109,[49,89],[],[52],[]),(115,[49,89],[],[57],[]),(118,[171],[167,171],[],[]),(123,[],[80],[],[]),(126,[],[121,123],[],[]),
 (130,[],[121],[],[]),(132,[],[126],[],[]),(136,[],[121],[],[]),(137,[],[116,177],[],[]),(145,[],[180,181,182,183,184],[],[]),(152,[],[191,152],[],[]),
 (154,[],[194,154],[],[3]),(156,[],[118],[],[]),(167,[],[],[],[1]),(169,[],[167],[],[]),(171,[204,207],[204,207],[102],[0]),(177,[],[156,118],[],[]),
 (180,[],[182],[],[]),(181,[],[213],[],[]),(182,[],[214],[],[]),(183,[],[181,180,182,215],[],[]),(184,[],[181,180,215,216],[],[]),(191,[],[191],[],[]),
 (194,[],[194],[],[]),(203,[],[],[],[5,6]),(204,[245],[],[],[1]),(205,[],[],[],[5]),(207,[204],[204],[],[]),(210,[],[],[],[5,6]),(211,[],[],[],[5]),
 (215,[],[274,182,215],[],[]),(216,[],[182,275,181,180,216,276],[],[]),(240,[],[301],[],[]),(246,[],[],[],[5]),(247,[],[304],[],[]),(248,[245],[304],[],[]),
 (249,[308],[308,304],[],[]),(250,[309,204,310],[309,204,310,304],[],[]),(251,[311,207],[207],[],[]),(252,[245,207],[207],[],[]),(253,[312,245],[312,304],[],[]),
 (254,[312],[312,304],[],[]),(255,[245],[304],[],[]),(256,[308],[308,304],[],[]),(257,[311,207],[313,207],[],[]),(258,[308],[308,314],[],[]),
 (259,[310],[310,314],[],[]),(260,[310],[310,315,314],[],[]),(261,[309,310,308],[309,310,308,314],[],[2]),(262,[310],[310,314],[],[]),(263,[308],[308,314],[],[]),
 (264,[310],[310,315,314],[],[]),(265,[310],[310,315,314],[],[]),(266,[245],[314],[],[2]),(267,[245],[314],[],[]),(268,[],[304],[],[]),
 (269,[245,308,311,207],[308,207],[],[]),(270,[],[314],[],[]),(271,[],[118],[],[]),(274,[],[182,325,181,215,180],[],[]),(275,[],[181,180,216],[],[]),
 (276,[],[326,214],[],[]),(302,[],[],[8],[]),(308,[245],[],[],[2]),(309,[311],[340],[],[]),(310,[245],[340],[],[]),(311,[245],[],[],[]),(312,[245],[],[],[]),
 (313,[],[340,313],[],[]),(315,[],[],[],[2]),(316,[],[],[],[5]),(317,[],[],[],[5]),(325,[],[274],[],[]),(326,[],[342,182],[],[]),(339,[],[],[],[5]),
 (342,[],[345,346],[],[]),(345,[],[213,181,214,347,182,348,216,180,349],[],[]),(347,[],[180,216,182],[],[]),(348,[],[216,180,351,182],[],[]),
 (349,[],[347,180,181,216],[],[]),(351,[],[182,213,181,180,351],[],[])]
def cfg (n:Nat):(Operand->Bool)×Bool×Bool:=match bO1.lookup n with
 |some (p,f,t,x)=>(bO0 p f t x,x.contains 5,x.contains 6)
 |none=>(fun _=>false,false,false)
noncomputable def L :bG:=bAl Tryz.prog cfg
theorem bO2 :pU Tryz.prog L:=bDv _ _
variable {fn:Func}{n:Nat}
theorem at_ (h:Tryz.prog.funcs[n]?=some fn):L n=nR Tryz.prog (cfg n).1 (cfg n).2.1 (cfg n).2.2 fn:=bDu h
variable {args:List Val}{lf:jC}
theorem pcA {r:Val}(h:Tryz.prog.funcs[n]?=some fn)(k:Wp L lf.body (Go.Abs.start args) fun e st=>e.ends=true/\ bAq st lf r)(e:nR Tryz.prog (cfg n).1 (cfg n).2.1 (cfg n).2.2 fn=some lf:=by conv=>lhs;reduce)(hn:args.length=lf.np:=by rfl)(ha:rO lf args=false:=by rfl):PC L n args r:=cJ ((at_ h).trans e) hn ha k
theorem pxA {v:Val}(h:Tryz.prog.funcs[n]?=some fn)(k:Wp L lf.body (Go.Abs.start args) fun e st=>e= .panic v)(e:nR Tryz.prog (cfg n).1 (cfg n).2.1 (cfg n).2.2 fn=some lf:=by conv=>lhs;reduce)(hn:args.length=lf.np:=by rfl)(ha:rO lf args=false:=by rfl):PX L n args v:=bJe ((at_ h).trans e) hn ha k
variable {Q:Val->En->(Nat->Nat->Nat)->Prop}{cnt:Nat->Nat->Nat}{en:En}
theorem gR {a b:List Val}(h:Tryz.prog.funcs[n]?=some fn)(k:Wp L lf.body ⟨fun i=>(a++args++b).getD i (.tup []),en,cnt⟩ fun e st=>e.ends=true/\ match cP (oP st) lf.res with|some vs=>Q (zI vs) st.en st.cnt|none=>False)(e:nR Tryz.prog (cfg n).1 (cfg n).2.1 (cfg n).2.2 fn=some lf:=by conv=>lhs;reduce)(hn:(a++args++b).length=lf.np:=by rfl)(ha:rO lf (a++args++b)=false:=by rfl)(hz:lf.nrm=[]:=by rfl):WIn L (.fn n a b) args en cnt Q:=fR ((at_ h).trans e) hn ha k hz
theorem jP (h:Tryz.prog.funcs[n]?=some fn)(k:Wp L lf.body ⟨fun i=>args.getD i (.tup []),en,cnt⟩ fun e st=>match e with| .panic v=>Q v st.en st.cnt|_=>False)(e:nR Tryz.prog (cfg n).1 (cfg n).2.1 (cfg n).2.2 fn=some lf:=by conv=>lhs;reduce)(hn:args.length=lf.np:=by rfl)(ha:rO lf args=false:=by rfl):vC L n args en cnt Q:=jL ((at_ h).trans e) hn ha k
noncomputable def cA {n:Nat}{fn:Func}{lf:jC}(h:Tryz.prog.funcs[n]?=some fn)(e:nR Tryz.prog (cfg n).1 (cfg n).2.1 (cfg n).2.2 fn=some lf:=by conv=>lhs;reduce):{c//L n=some c}:=⟨lf,(at_ h).trans e⟩
@[go_sem] theorem cAv (h:Tryz.prog.funcs[n]?=some fn)(e:nR Tryz.prog (cfg n).1 (cfg n).2.1 (cfg n).2.2 fn=some lf):(cA h e).1=lf:=rfl
set_option maxRecDepth 100000
set_option maxHeartbeats 4000000
noncomputable def aUo :{c//L 109=some c}:=cA func109
noncomputable def aH4 :{c//L 115=some c}:=cA func115
end Go.Proofs.YtmafmhjndjmalaaGreat
