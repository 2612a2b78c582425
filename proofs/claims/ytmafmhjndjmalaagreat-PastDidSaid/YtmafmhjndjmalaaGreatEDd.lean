import Derived.Test.YtmafmhjndjmalaaGreatECd
set_option linter.all false
namespace Go.Proofs.YtmafmhjndjmalaaGreat
open Go.Abs Go.Proofs
def l33 :List dW:=⟨33,[v2,v40],.bool true⟩::l29
theorem k33 :fF L l33:=k29.step (by kernel_rfl)
def l34 :List dW:=⟨101,[v2,v40],.i 0⟩::l33
theorem k34 :fF L l34:=k33.step (by kernel_rfl)
def l37 :List dW:=⟨100,[v2,v25],.tup [v25,.i 0,.i 0]⟩::l34
theorem k37 :fF L l37:=k34.step (by kernel_rfl)
def v41 :Val:= .agg [.i 3,v39,.fz [v5,v34,v34]]
def l46 :List dW:=⟨101,[v2,v41],.i 0⟩::l37
theorem k46 :fF L l46:=k37.step (by kernel_rfl)
def l47 :List dW:=⟨11,[v2,v41],.tup [.i 3,.i 7]⟩::l46
theorem k47 :fF L l47:=k46.step (by kernel_rfl)
def l48 :List dW:=⟨11,[v2,v40],.tup [.i 0,.i 0]⟩::l47
theorem k48 :fF L l48:=k47.step (by kernel_rfl)
theorem bC9 :PC L 9 [] (.bool true):=k48.pc (n:=1000) (by kernel_rfl)
end Go.Proofs.YtmafmhjndjmalaaGreat
