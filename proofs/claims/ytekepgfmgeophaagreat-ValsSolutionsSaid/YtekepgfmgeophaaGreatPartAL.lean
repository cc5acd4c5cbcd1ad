/- The table's specials: slices.Clone, guarded; the iterator of assignments at the lists of the chapter's example. -/
import Derived.Test.YtekepgfmgeophaaGreatPartAH
import Derived.Test.YtekepgfmgeophaaGreatPartAK
import Derived.KernelRfl
set_option linter.unusedVariables false
set_option linter.unusedSimpArgs false
namespace Go.Proofs.Tryz
open Go Go.AE
theorem mixed:Tryz.prog.follows .mixedOrders=true:=by kernel_rfl
def i64(n:Int):PV:=.int .i64 n
def sl(sz:Nat)(l:List PV):PV:=.slice sz l .any
def tm(n:Int)(l:List PV):PV:=.agg [i64 2,i64 n,sl 3 l]
def zT:PV:=.agg [i64 2,i64 0,sl 0 []]
def oneT:PV:=tm 1 [zT]
def domL:PV:=sl 3 [zT,oneT]
def yss0:Yss:=[[sl 0 []]]
def yss1:Yss:=[[sl 3 [zT]],[sl 3 [oneT]]]
def yss2:Yss:=[[sl 3 [zT,zT]],[sl 3 [zT,oneT]],[sl 3 [oneT,zT]],[sl 3 [oneT,oneT]]]
noncomputable def af182:AFunc:=(qb8 Tryz.prog [] Tryz.f182).getD ⟨0,0,.bad,[]⟩
theorem comp182:qb8 Tryz.prog [] Tryz.f182=some af182:=by kernel_rfl
def qpm:FuncId→List PV→List AE.Obj→Option qam:=fun _ _ _=>none
theorem caller0_ok{P:Program}:qd0 P qpm:=fun _ _ _ _ _ h=>by cases h
theorem qrt:qa7 qpm:=fun _ _ _ _ _ h=>by cases h
theorem sem182{captured:List PV}{yss:Yss}(hp:qas captured=true)(h:∀(l:Nat)(stop:Option Nat),yBody qde qpm (fun i=>decide (stop≠some i)) 30 af182 (.func (.yield l) [] []::qaq captured)=some ((upTo stop yss).map fun ys=>(l,ys))):qfz Tryz.prog 182 captured yss:=
 qj1 (T:=qde) mixed (fun _ _ h=>by cases h) Tryz.func182 (by decide) comp182 hp fun l stop=>⟨qpm,30,caller0_ok,qrt,h l stop⟩
theorem sem0:qfz Tryz.prog 182 [.iptr (sl 0 []) 0] yss0:=sem182 rfl fun l stop=>match stop with
 |none=>by kernel_rfl
 |some 0=>by kernel_rfl
 |some (k+1)=>by kernel_rfl
theorem sem1:qfz Tryz.prog 182 [.iptr (sl 1 [domL]) 0] yss1:=sem182 rfl fun l stop=>match stop with
 |none=>by kernel_rfl
 |some 0=>by kernel_rfl
 |some 1=>by kernel_rfl
 |some (k+2)=>by kernel_rfl
theorem sem2:qfz Tryz.prog 182 [.iptr (sl 1 [domL,domL]) 0] yss2:=sem182 rfl fun l stop=>match stop with
 |none=>by kernel_rfl
 |some 0=>by kernel_rfl
 |some 1=>by kernel_rfl
 |some 2=>by kernel_rfl
 |some 3=>by kernel_rfl
 |some (k+4)=>by kernel_rfl
def itNat(captured:List PV):Option (List (List PV)):=
 if peqs captured [.iptr (sl 0 []) 0]then some yss0 else if peqs captured [.iptr (sl 1 [domL]) 0]then some yss1 else if peqs captured [.iptr (sl 1 [domL,domL]) 0]then some yss2 else none
noncomputable def af54:AFunc:=(qb8 Tryz.prog [] Tryz.f54).getD ⟨0,0,.bad,[]⟩
theorem comp54:qb8 Tryz.prog [] Tryz.f54=some af54:=by kernel_rfl
noncomputable def af55:AFunc:=(qb8 Tryz.prog [] Tryz.f55).getD ⟨0,0,.bad,[]⟩
theorem comp55:qb8 Tryz.prog [] Tryz.f55=some af55:=by kernel_rfl
noncomputable def af75:AFunc:=(qb8 Tryz.prog [] Tryz.f75).getD ⟨0,0,.bad,[]⟩
theorem comp75:qb8 Tryz.prog [] Tryz.f75=some af75:=by kernel_rfl
noncomputable def qpq:AFunc:=(qb8 Tryz.prog [] Tryz.f208).getD ⟨0,0,.bad,[]⟩
theorem comp208:qb8 Tryz.prog [] Tryz.f208=some qpq:=by kernel_rfl
noncomputable def ar54:AFunc:=(qb8 Tryz.prog [7] Tryz.f54).getD ⟨0,0,.bad,[]⟩
theorem comr54:qb8 Tryz.prog [7] Tryz.f54=some ar54:=by kernel_rfl
noncomputable def ar55:AFunc:=(qb8 Tryz.prog [7] Tryz.f55).getD ⟨0,0,.bad,[]⟩
theorem comr55:qb8 Tryz.prog [7] Tryz.f55=some ar55:=by kernel_rfl
theorem qld {f : Nat} {fn : Func} {af af' : AFunc} {rows : List Nat} (hf : Tryz.prog.funcs[f]? = some fn) (hn : (fn.name == "runtime.NumGoroutine") = false) (hcomp : qb8 Tryz.prog [] fn = some af) (hcomp' : qb8 Tryz.prog rows fn = some af')
 (h0:∀call sz h,∃z,qfg qde call 1 1 af [.slice sz [] .nil] h=some (.val (.slice z [] .nil),{h,ws:=[],ups:=[]}))
 (h1:∀call sz h,∃z,qfg qde call 1 1 af [.slice sz [] .nonnil] h=some (.val (.slice z [] .lit),{h,ws:=[],ups:=[]})):SpOK Tryz.prog f (qcr af'):=
 ⟨fun _ hS _ _ _ _ h=>by
  unfold qcr at h
  split at h
  ·cases h;exact .refl _
  ·exact qgj hS h,fun _ hS hC _ _ _ _ h=>(cloneSp_ok mixed hf hn hcomp hcomp' h0 h1 hS hC h).2⟩
theorem clone54:SpOK Tryz.prog 54 (qcr ar54):=qld Tryz.func54 (by decide) comp54 comr54 (fun call sz h=>⟨0,by kernel_rfl⟩) (fun call sz h=>⟨1,by kernel_rfl⟩)
theorem clone55:SpOK Tryz.prog 55 (qcr ar55):=qld Tryz.func55 (by decide) comp55 comr55 (fun call sz h=>⟨0,by kernel_rfl⟩) (fun call sz h=>⟨3,by kernel_rfl⟩)
theorem clone75:SpOK Tryz.prog 75 (qcr af75):=qld Tryz.func75 (by decide) comp75 comp75 (fun call sz h=>⟨0,by kernel_rfl⟩) (fun call sz h=>⟨6,by kernel_rfl⟩)
theorem clone208:SpOK Tryz.prog 208 (qcr qpq):=qld Tryz.func208 (by decide) comp208 comp208 (fun call sz h=>⟨0,by kernel_rfl⟩) (fun call sz h=>⟨1,by kernel_rfl⟩)
theorem guard189:SpOK Tryz.prog 189 (AE'.guardedSp 260 2):=⟨fun _ hS _ _ _ _ h=>AE'.guardedSp_step hS h,fun _ hS hC _ _ _ _ h=>AE'.guardedSp_ok hS hC h⟩
end Go.Proofs.Tryz
