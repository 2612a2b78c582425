/- The examples of the chapter, reckoned: part D. -/
import Derived.Test.YtmnchlhngpdffaaGreatEC
set_option linter.all false
namespace Go.Proofs.YtmnchlhngpdffaaGreat
open Go.Abs Go.Proofs
def l22 :List dZ:=⟨12,[v2,v26],.bool true⟩::l21
theorem k22 :fM L l22:=k21.step (by kernel_rfl)
def l23 :List dZ:=⟨42,[v2,v26],.i 0⟩::l22
theorem k23 :fM L l23:=k22.step (by kernel_rfl)
def l24 :List dZ:=⟨96,[v2,v18],.tup [v18,.i 0,.i 0]⟩::l23
theorem k24 :fM L l24:=k23.step (by kernel_rfl)
def v27 :Val:= .agg [.i 3,v25,.fz [v5,v23,v23]]
def l25 :List dZ:=⟨42,[v2,v27],.i 0⟩::l24
theorem k25 :fM L l25:=k24.step (by kernel_rfl)
def l26 :List dZ:=⟨11,[v2,v27],.tup [.i 3,.i 7]⟩::l25
theorem k26 :fM L l26:=k25.step (by kernel_rfl)
def l27 :List dZ:=⟨11,[v2,v26],.tup [.i 0,.i 0]⟩::l26
theorem k27 :fM L l27:=k26.step (by kernel_rfl)
theorem aUt :PC L 10 [] (.bool true):=k27.pc (n:=1000) (by kernel_rfl)
end Go.Proofs.YtmnchlhngpdffaaGreat
