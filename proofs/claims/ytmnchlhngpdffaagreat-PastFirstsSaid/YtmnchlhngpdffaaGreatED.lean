/- The examples of the chapter, reckoned: part D. -/
import Derived.Test.YtmnchlhngpdffaaGreatEC
set_option linter.all false
namespace Go.Proofs.YtmnchlhngpdffaaGreat
open Go.Abs Go.Proofs
def l83 :List aV:=⟨38,[v8],.bool true⟩::l82
theorem k83 :bC L l83:=k82.step (by kernel_rfl)
def l84 :List aV:=⟨39,[v8,v19],.bool true⟩::l83
theorem k84 :bC L l84:=k83.step (by kernel_rfl)
def l85 :List aV:=⟨39,[v8,v35],.bool true⟩::l84
theorem k85 :bC L l85:=k84.step (by kernel_rfl)
def l86 :List aV:=⟨39,[v8,v48],.bool true⟩::l85
theorem k86 :bC L l86:=k85.step (by kernel_rfl)
def l87 :List aV:=⟨12,[v8,v55],.bool true⟩::l86
theorem k87 :bC L l87:=k86.step (by kernel_rfl)
def l88 :List aV:=⟨42,[v8,v55],.int .i64 0⟩::l87
theorem k88 :bC L l88:=k87.step (by kernel_rfl)
def l89 :List aV:=⟨14,[v8,v55,.int .i64 5],.tup [v44,.int .i64 2,.int .i64 0]⟩::l88
theorem k89 :bC L l89:=k88.step (by kernel_rfl)
def l90 :List aV:=⟨15,[v8,v55,.int .i64 3,.int .i64 5],.tup [.fz [v40,v45],.int .i64 0]⟩::l89
theorem k90 :bC L l90:=k89.step (by kernel_rfl)
def l91 :List aV:=⟨96,[v8,v39],.tup [v39,.int .i64 0,.int .i64 0]⟩::l90
theorem k91 :bC L l91:=k90.step (by kernel_rfl)
def l92 :List aV:=⟨25,[v8,v55,.int .i64 4],.tup [.int .i64 1,.int .i64 0]⟩::l91
theorem k92 :bC L l92:=k91.step (by kernel_rfl)
def l93 :List aV:=⟨26,[v8,v55,.int .i64 7,.int .i64 1],.tup [.int .i64 4,.int .i64 0]⟩::l92
theorem k93 :bC L l93:=k92.step (by kernel_rfl)
def l94 :List aV:=⟨26,[v8,v55,.int .i64 4,.int .i64 1],.tup [.int .i64 0,.int .i64 0]⟩::l93
theorem k94 :bC L l94:=k93.step (by kernel_rfl)
def l95 :List aV:=⟨29,[v8,v55,.int .i64 0],.tup [.int .i64 2,.int .i64 0]⟩::l94
theorem k95 :bC L l95:=k94.step (by kernel_rfl)
def l96 :List aV:=⟨30,[v8,v55,.int .i64 0],.tup [.int .i64 3,.int .i64 0]⟩::l95
theorem k96 :bC L l96:=k95.step (by kernel_rfl)
def l97 :List aV:=⟨31,[v8,v55,.int .i64 1],.tup [.int .i64 0,.int .i64 0]⟩::l96
theorem k97 :bC L l97:=k96.step (by kernel_rfl)
def l98 :List aV:=⟨33,[v8,v55,.int .i64 0,.agg [.int .i64 1,.int .i64 1,.int .i64 1,.int .i64 7]],.tup [.int .i64 5,.int .i64 0]⟩::l97
theorem k98 :bC L l98:=k97.step (by kernel_rfl)
def l99 :List aV:=⟨69,[v8,v48,.int .i64 0],.tup [v52,v53,.int .i64 0]⟩::l98
theorem k99 :bC L l99:=k98.step (by kernel_rfl)
def v56 :Val:= .agg [.fz [],.fz [],.fz [],.fz [],.int .i64 0]
def bJr :List aV:=⟨69,[v8,v52,.int .i64 0],.tup [v56,.agg [.int .i64 0,.int .i64 0,.int .i64 0,.int .i64 0,.int .i64 0],.int .i64 5]⟩::l99
theorem bNi :bC L bJr:=k99.step (by kernel_rfl)
def bJs :List aV:=⟨16,[v8,v55,.int .i64 6,.int .i64 2],.tup [v56,.int .i64 5]⟩::bJr
theorem bNj :bC L bJs:=bNi.step (by kernel_rfl)
def v57 :Val:= .agg [.int .i64 3,v54,.fz [v19,v48,v48]]
def bJt :List aV:=⟨42,[v8,v57],.int .i64 0⟩::bJs
theorem bNk :bC L bJt:=bNj.step (by kernel_rfl)
def bJu :List aV:=⟨11,[v8,v57],.tup [.int .i64 3,.int .i64 7]⟩::bJt
theorem bNl :bC L bJu:=bNk.step (by kernel_rfl)
def bNm :List aV:=⟨11,[v8,v55],.tup [.int .i64 0,.int .i64 0]⟩::bJu
theorem bNn :bC L bNm:=bNl.step (by kernel_rfl)
theorem aTt :PC L 10 [] (.bool true):=bNn.pc (n:=1000) (by kernel_rfl)
end Go.Proofs.YtmnchlhngpdffaaGreat
