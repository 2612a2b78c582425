/- The examples of the chapter, reckoned: part D. -/
import Derived.Test.YtmafmhjndjmalaaGreatEC
set_option linter.all false
namespace Go.Proofs.YtmafmhjndjmalaaGreat
open Go.Abs Go.Proofs
def l33 :List eH:=⟨33,[v2,v40],.bool true⟩::l29
theorem k33 :fT L l33:=k29.step (by kernel_rfl)
def l34 :List eH:=⟨101,[v2,v40],.i 0⟩::l33
theorem k34 :fT L l34:=k33.step (by kernel_rfl)
def l37 :List eH:=⟨100,[v2,v25],.tup [v25,.i 0,.i 0]⟩::l34
theorem k37 :fT L l37:=k34.step (by kernel_rfl)
def v41 :Val:= .agg [.i 3,v39,.fz [v5,v34,v34]]
def l46 :List eH:=⟨101,[v2,v41],.i 0⟩::l37
theorem k46 :fT L l46:=k37.step (by kernel_rfl)
def l47 :List eH:=⟨11,[v2,v41],.tup [.i 3,.i 7]⟩::l46
theorem k47 :fT L l47:=k46.step (by kernel_rfl)
def l48 :List eH:=⟨11,[v2,v40],.tup [.i 0,.i 0]⟩::l47
theorem k48 :fT L l48:=k47.step (by kernel_rfl)
theorem aHu :PC L 9 [] (.bool true):=k48.pc (n:=1000) (by kernel_rfl)
end Go.Proofs.YtmafmhjndjmalaaGreat
