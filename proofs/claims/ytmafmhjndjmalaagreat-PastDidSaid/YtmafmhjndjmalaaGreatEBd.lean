import Derived.Test.YtmafmhjndjmalaaGreatEAd
set_option linter.all false
namespace Go.Proofs.YtmafmhjndjmalaaGreat
open Go.Abs Go.Proofs
def v0 :Val:= .agg [.i 1,.i 1,.fz [],.fz []]
def v1 :Val:= .agg [.i 4,.i 1,.fz [],.fz []]
def v2 :Val:= .agg [.fz [.agg [.i 7,.i 0,.fz [.i 1,.i 3],.fz []],.agg [.i 16,.i 0,.fz [.i 2],.fz []],v0,.agg [.i 7,.i 0,.fz [.i 4,.i 7],.fz []],.agg [.i 24,.i 0,.fz [.i 5],.fz []],.agg [.i 17,.i 0,.fz [.i 6],.fz []],v1,.agg [.i 7,.i 0,.fz [.i 8,.i 11],.fz []],.agg [.i 18,.i 0,.fz [.i 9,.i 10],.fz []],v1,.agg [.i 25,.i 0,.fz [],.fz []],.agg [.i 9,.i 0,.fz [.i 12,.i 14],.fz []],.agg [.i 17,.i 0,.fz [.i 13],.fz []],v1,v0],.fz [.i 0],.i 0,.fz []]
def l1 :List dW:=⟨38,[],v2⟩::m0
theorem k1 :fF L l1:=j0.step (by kernel_rfl)
def m1 :List dW:=[⟨38,[],v2⟩]
theorem j1 :fF L m1:=k1.one
end Go.Proofs.YtmafmhjndjmalaaGreat
