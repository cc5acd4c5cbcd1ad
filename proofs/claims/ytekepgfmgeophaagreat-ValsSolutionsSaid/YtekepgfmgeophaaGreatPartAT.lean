/- The chapter's example: calls that are evaluated once (the table of numbers). -/
import Derived.Test.YtekepgfmgeophaaGreatPartAN
import Derived.Test.YtekepgfmgeophaaGreatPartAJ
set_option linter.unusedVariables false
set_option linter.unusedSimpArgs false
namespace Go.Proofs.Tryz
open Go Go.AE
def natS:PV:=(.agg [(.slice 1 [(.str ⟨#[78]⟩)] .any),(.slice 3 [(.agg [(.str ⟨#[122]⟩),(.slice 0 [] .any),(i64 0)]),(.agg [(.str ⟨#[115]⟩),(.slice 1 [(i64 0)] .any),(i64 0)]),(.agg [(.str ⟨#[97,100,100]⟩),(.slice 1 [(i64 0),(i64 0)] .any),(i64 0)])] .any)])
def natT:PV:=(.agg [(.slice 1 [(.str ⟨#[78]⟩)] .any),(.slice 3 [(.agg [(.str ⟨#[122]⟩),(.slice 0 [] .any),(i64 0)]),(.agg [(.str ⟨#[115]⟩),(.slice 1 [(i64 0)] .any),(i64 0)]),(.agg [(.str ⟨#[97,100,100]⟩),(.slice 1 [(i64 0),(i64 0)] .any),(i64 0)])] .any),(.slice 8 [(.agg [(.slice 1 [(i64 0)] .any),(.slice 0 [] .any),(i64 2),(i64 2),(.slice 3 [(.agg [(i64 1),(i64 0),(.slice 0 [] .any)]),zT] .any),(i64 1),(i64 0),(.slice 0 [] .any)]),(.agg [(.slice 1 [(i64 0),(i64 0)] .any),(.slice 0 [] .any),(i64 2),(i64 2),(.slice 3 [(.agg [(i64 1),(i64 0),(.slice 0 [] .any)]),(.agg [(i64 2),(i64 1),(.slice 3 [(.agg [(i64 1),(i64 1),(.slice 0 [] .any)])] .any)])] .any),(i64 2),(i64 1),(.slice 3 [(.agg [(i64 2),(i64 2),(.slice 3 [(.agg [(i64 1),(i64 0),(.slice 0 [] .any)]),(.agg [(i64 1),(i64 1),(.slice 0 [] .any)])] .any)])] .any)])] .any)])
def twoT:PV:=(.agg [(i64 2),(i64 1),(.slice 3 [oneT] .any)])
def natG:GSig:=⟨[⟨#[78]⟩],[⟨⟨#[122]⟩,[],0⟩,⟨⟨#[115]⟩,[0],0⟩,⟨⟨#[97,100,100]⟩,[0,0],0⟩]⟩
theorem nat_ok:GOk natG:=⟨by simp[natG,okOps,qh5],by decide,by decide⟩
def qmn(l:IL):PV:=.agg (l.map i64)
def key1000:PL:=[qaf natG]
def qd5:PV:=(.iptr (.agg [(.slice 1 [(.str ⟨#[78]⟩)] .any),(.slice 3 [(.agg [(.str ⟨#[122]⟩),(.slice 1 [] .any),(.int .i64 0)]),(.agg [(.str ⟨#[115]⟩),(.slice 1 [(.int .i64 0)] .any),(.int .i64 0)]),(.agg [(.str ⟨#[97,100,100]⟩),(.slice 1 [(.int .i64 0),(.int .i64 0)] .any),(.int .i64 0)])] .any),(.slice 61 [(qmn [0,1,1,2,4,9,21,51,127,323,835,2188,5798,15511,41835,113634,310572,853467,2356779,6536382,18199284,50852019,142547559,400763223,1129760415,3192727797,9043402501,25669818476,73007772802,208023278209,593742784829,mC,mC,mC,mC,mC,mC,mC,mC,mC,mC,mC,mC,mC,mC,mC,mC,mC,mC,mC,mC,mC,mC,mC,mC,mC,mC,mC,mC,mC,mC])] .any),(.slice 1 [(.slice 61 [(qmn [1,0,0,0,0,0,0,0,0,0,0,0,0,0,0,0,0,0,0,0,0,0,0,0,0,0,0,0,0,0,0,0,0,0,0,0,0,0,0,0,0,0,0,0,0,0,0,0,0,0,0,0,0,0,0,0,0,0,0,0,0])] .any),(.slice 61 [(qmn [0,1,1,2,4,9,21,51,127,323,835,2188,5798,15511,41835,113634,310572,853467,2356779,6536382,18199284,50852019,142547559,400763223,1129760415,3192727797,9043402501,25669818476,73007772802,208023278209,593742784829,mC,mC,mC,mC,mC,mC,mC,mC,mC,mC,mC,mC,mC,mC,mC,mC,mC,mC,mC,mC,mC,mC,mC,mC,mC,mC,mC,mC,mC,0]),(qmn [1,0,0,0,0,0,0,0,0,0,0,0,0,0,0,0,0,0,0,0,0,0,0,0,0,0,0,0,0,0,0,0,0,0,0,0,0,0,0,0,0,0,0,0,0,0,0,0,0,0,0,0,0,0,0,0,0,0,0,0,0])] .any),(.slice 61 [(qmn [0,0,1,2,5,12,30,76,196,512,1353,3610,9713,26324,71799,196938,542895,1503312,4179603,11662902,32652735,91695540,258215664,728997192,2062967382,5850674704,16626415975,47337954326,135015505407,385719506620,mC,mC,mC,mC,mC,mC,mC,mC,mC,mC,mC,mC,mC,mC,mC,mC,mC,mC,mC,mC,mC,mC,mC,mC,mC,mC,mC,mC,mC,mC,0]),(qmn [0,1,1,2,4,9,21,51,127,323,835,2188,5798,15511,41835,113634,310572,853467,2356779,6536382,18199284,50852019,142547559,400763223,1129760415,3192727797,9043402501,25669818476,73007772802,208023278209,593742784829,mC,mC,mC,mC,mC,mC,mC,mC,mC,mC,mC,mC,mC,mC,mC,mC,mC,mC,mC,mC,mC,mC,mC,mC,mC,mC,mC,mC,mC,0]),(qmn [1,0,0,0,0,0,0,0,0,0,0,0,0,0,0,0,0,0,0,0,0,0,0,0,0,0,0,0,0,0,0,0,0,0,0,0,0,0,0,0,0,0,0,0,0,0,0,0,0,0,0,0,0,0,0,0,0,0,0,0,0])] .any)] .any)]) 0)
theorem tab_nat:encTab natG=qd5:=by kernel_rfl
theorem known1000:qbd Tryz.prog 90 key1000 qd5:=by obtain⟨n,hn⟩:=(counted_ev qfi nat_ok (h:=[])).one;rw[tab_nat]at hn;exact⟨by kernel_rfl,T0,n,qm9,hn⟩
def key0:PL:=[natS]
def val0:PV:=(i64 0)
theorem known0:qbd Tryz.prog 87 key0 val0:=⟨rfl,T0,100,qm9,by kernel_rfl⟩
noncomputable def T1:Tbl:=T0.with 100 [(87,key0,val0),(90,key1000,qd5)]
theorem qe6:TblOK Tryz.prog T1:=Tbl.with_ok qm9 fun p hp=>by
 simp only[mN0,List.not_mem_nil,or_false]at hp;rcases hp with rfl|rfl
 ·exact known0
 ·exact known1000
end Go.Proofs.Tryz
