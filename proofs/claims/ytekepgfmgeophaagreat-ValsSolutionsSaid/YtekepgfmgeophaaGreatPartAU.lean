/- The chapter's example: calls that are evaluated once (numbers, the type). -/
import Derived.Test.YtekepgfmgeophaaGreatPartAT
set_option linter.unusedVariables false
set_option linter.unusedSimpArgs false
namespace Go.Proofs.Tryz
open Go Go.AE
def key1:PL:=[natS,(i64 0)]
def val1:PV:=(.tuple [zT,(i64 0)])
theorem known1:qbd Tryz.prog 56 key1 val1:=⟨rfl,T1,100,qe6,by kernel_rfl⟩
def key2:PL:=[natS,(i64 0),(i64 0)]
def val2:PV:=(.tuple [(i64 0),(i64 0)])
theorem known2:qbd Tryz.prog 44 key2 val2:=⟨rfl,T1,100,qe6,by kernel_rfl⟩
def key3:PL:=[natS,(i64 0),(i64 1)]
def val3:PV:=(.tuple [(i64 1),(i64 0)])
theorem known3:qbd Tryz.prog 44 key3 val3:=⟨rfl,T1,100,qe6,by kernel_rfl⟩
def key4:PL:=[natS,(i64 0),(i64 2)]
def val4:PV:=(.tuple [(i64 1),(i64 0)])
theorem known4:qbd Tryz.prog 44 key4 val4:=⟨rfl,T1,100,qe6,by kernel_rfl⟩
def key5:PL:=[natS,(i64 0),(i64 3)]
def val5:PV:=(.tuple [(i64 2),(i64 0)])
theorem known5:qbd Tryz.prog 44 key5 val5:=⟨rfl,T1,100,qe6,by kernel_rfl⟩
def key6:PL:=[natS,(i64 0),(i64 4)]
def val6:PV:=(.tuple [(i64 4),(i64 0)])
theorem known6:qbd Tryz.prog 44 key6 val6:=⟨rfl,T1,100,qe6,by kernel_rfl⟩
def key9:PL:=[natS,(i64 0),(i64 3),(i64 1)]
def val9:PV:=(.tuple [(.agg [(i64 2),(i64 2),(.slice 3 [zT,zT] .any)]),(i64 0)])
theorem known9:qbd Tryz.prog 18 key9 val9:=⟨rfl,T1,100,qe6,by kernel_rfl⟩
def key11:PL:=[natS,(.agg [(i64 2),(i64 2),(.slice 3 [oneT,zT] .any)])]
def val11:PV:=(.tuple [(i64 3),(i64 0)])
theorem known11:qbd Tryz.prog 20 key11 val11:=⟨rfl,T1,100,qe6,by kernel_rfl⟩
def key7:PL:=[qd5,(i64 0),(i64 1),(i64 0)]
def val7:PV:=zT
theorem known7:qbd Tryz.prog 91 key7 val7:=⟨rfl,T1,100,qe6,by kernel_rfl⟩
def key8:PL:=[qd5,(i64 0),(i64 3),(i64 1)]
def val8:PV:=(.agg [(i64 2),(i64 2),(.slice 3 [zT,zT] .any)])
theorem known8:qbd Tryz.prog 91 key8 val8:=⟨rfl,T1,100,qe6,by kernel_rfl⟩
def key10:PL:=[natS,(.slice 0 [] .any),(.agg [(i64 2),(i64 2),(.slice 3 [oneT,zT] .any)])]
def val10:PV:=(.tuple [(i64 0),(i64 0)])
theorem known10:qbd Tryz.prog 45 key10 val10:=⟨rfl,T1,100,qe6,by kernel_rfl⟩
def key12:PL:=[natT]
def val12:PV:=(i64 0)
theorem known12:qbd Tryz.prog 103 key12 val12:=⟨rfl,T1,100,qe6,by kernel_rfl⟩
def key13:PL:=[qd5,(i64 0),(i64 2),(i64 0)]
def val13:PV:=oneT
theorem known13:qbd Tryz.prog 91 key13 val13:=⟨rfl,T1,100,qe6,by kernel_rfl⟩
def key14:PL:=[qd5,(i64 0),(i64 3),(i64 0)]
def val14:PV:=twoT
theorem known14:qbd Tryz.prog 91 key14 val14:=⟨rfl,T1,100,qe6,by kernel_rfl⟩
def key15:PL:=[qd5,(i64 0),(i64 4),(i64 0)]
def val15:PV:=(.agg [(i64 2),(i64 1),(.slice 3 [twoT] .any)])
theorem known15:qbd Tryz.prog 91 key15 val15:=⟨rfl,T1,100,qe6,by kernel_rfl⟩
def key16:PL:=[qd5,(i64 0),(i64 4),(i64 1)]
def val16:PV:=(.agg [(i64 2),(i64 1),(.slice 3 [(.agg [(i64 2),(i64 2),(.slice 3 [zT,zT] .any)])] .any)])
theorem known16:qbd Tryz.prog 91 key16 val16:=⟨rfl,T1,100,qe6,by kernel_rfl⟩
def key17:PL:=[qd5,(i64 0),(i64 4),(i64 2)]
def val17:PV:=(.agg [(i64 2),(i64 2),(.slice 3 [zT,oneT] .any)])
theorem known17:qbd Tryz.prog 91 key17 val17:=⟨rfl,T1,100,qe6,by kernel_rfl⟩
def key18:PL:=[qd5,(i64 0),(i64 4),(i64 3)]
def val18:PV:=(.agg [(i64 2),(i64 2),(.slice 3 [oneT,zT] .any)])
theorem known18:qbd Tryz.prog 91 key18 val18:=⟨rfl,T1,100,qe6,by kernel_rfl⟩
def key32:PL:=[natS,(.slice 0 [] .any),zT]
def val32:PV:=(.tuple [(i64 0),(i64 0)])
theorem known32:qbd Tryz.prog 45 key32 val32:=⟨rfl,T1,100,qe6,by kernel_rfl⟩
def key33:PL:=[natS,(.slice 0 [] .any),oneT]
def val33:PV:=(.tuple [(i64 0),(i64 0)])
theorem known33:qbd Tryz.prog 45 key33 val33:=⟨rfl,T1,100,qe6,by kernel_rfl⟩
def key37:PL:=[natS,(.slice 1 [(i64 0),(i64 0)] .any),(.agg [(i64 2),(i64 2),(.slice 3 [(.agg [(i64 1),(i64 0),(.slice 0 [] .any)]),(.agg [(i64 1),(i64 1),(.slice 0 [] .any)])] .any)])]
def val37:PV:=(.tuple [(i64 0),(i64 0)])
theorem known37:qbd Tryz.prog 45 key37 val37:=⟨rfl,T1,100,qe6,by kernel_rfl⟩
def key38:PL:=[natS,(.slice 1 [(i64 0),(i64 0)] .any),oneT]
def val38:PV:=(.tuple [(i64 0),(i64 0)])
theorem known38:qbd Tryz.prog 45 key38 val38:=⟨rfl,T1,100,qe6,by kernel_rfl⟩
def key46:PL:=[natS,(.slice 0 [] .any),(.agg [(i64 2),(i64 2),(.slice 3 [zT,zT] .any)])]
def val46:PV:=(.tuple [(i64 0),(i64 0)])
theorem known46:qbd Tryz.prog 45 key46 val46:=⟨rfl,T1,100,qe6,by kernel_rfl⟩
noncomputable def T6:Tbl:=T1.with 100 [(91,key7,val7),(91,key8,val8),(45,key10,val10),(103,key12,val12),(91,key13,val13),(91,key14,val14),(91,key15,val15),(91,key16,val16),(91,key17,val17),(91,key18,val18),(45,key32,val32),(45,key33,val33),(45,key37,val37),(45,key38,val38),(45,key46,val46)]
theorem T6_ok:TblOK Tryz.prog T6:=Tbl.with_ok qe6 fun p hp=>by
 simp only[mN0,List.not_mem_nil,or_false]at hp;rcases hp with rfl|rfl|rfl|rfl|rfl|rfl|rfl|rfl|rfl|rfl|rfl|rfl|rfl|rfl|rfl
 ·exact known7
 ·exact known8
 ·exact known10
 ·exact known12
 ·exact known13
 ·exact known14
 ·exact known15
 ·exact known16
 ·exact known17
 ·exact known18
 ·exact known32
 ·exact known33
 ·exact known37
 ·exact known38
 ·exact known46
def key19:PL:=[qd5,(i64 0),(i64 4)]
def val19:PV:=(.tuple [(.slice 3 [zT,oneT,twoT,(.agg [(i64 2),(i64 2),(.slice 3 [zT,zT] .any)]),(.agg [(i64 2),(i64 1),(.slice 3 [twoT] .any)]),(.agg [(i64 2),(i64 1),(.slice 3 [(.agg [(i64 2),(i64 2),(.slice 3 [zT,zT] .any)])] .any)]),(.agg [(i64 2),(i64 2),(.slice 3 [zT,oneT] .any)]),(.agg [(i64 2),(i64 2),(.slice 3 [oneT,zT] .any)])] .any),(i64 0)])
theorem known19:qbd Tryz.prog 144 key19 val19:=⟨rfl,T6,100,T6_ok,by kernel_rfl⟩
def key30:PL:=[qd5,(i64 0),(i64 2)]
def val30:PV:=(.tuple [(.slice 3 [zT,oneT] .any),(i64 0)])
theorem known30:qbd Tryz.prog 144 key30 val30:=⟨rfl,T6,100,T6_ok,by kernel_rfl⟩
noncomputable def T2:Tbl:=T6.with 100 [(144,key19,val19),(144,key30,val30)]
theorem qm7:TblOK Tryz.prog T2:=Tbl.with_ok T6_ok fun p hp=>by
 simp only[mN0,List.not_mem_nil,or_false]at hp;rcases hp with rfl|rfl
 ·exact known19
 ·exact known30
end Go.Proofs.Tryz
