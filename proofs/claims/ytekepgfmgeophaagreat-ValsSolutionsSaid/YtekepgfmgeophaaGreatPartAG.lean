/- From the reading of a signature to its value. -/
import Derived.Test.YtekepgfmgeophaaGreatPartAC
import Derived.Test.YtekepgfmgeophaaGreatPartAF
import Derived.Test.YtekepgfmgeophaaGreatChecked
import Derived.KernelRfl
set_option linter.unusedVariables false
set_option linter.unusedSimpArgs false
namespace Go.Proofs.Tryz
open Go Go.AE
theorem cells75:Tryz.prog.cellsOf 75=3:=by kernel_rfl
theorem qtl:Tryz.prog.cellsOf 25=2:=by kernel_rfl
theorem cells22:Tryz.prog.cellsOf 22=1:=by kernel_rfl
theorem cells23:Tryz.prog.cellsOf 23=1:=by kernel_rfl
theorem qpk:Tryz.prog.cellsOf 42=1:=by kernel_rfl
theorem cells9:Tryz.prog.cellsOf 9=1:=by kernel_rfl
theorem cells3:Tryz.prog.cellsOf 3=1:=by kernel_rfl
section
variable {H:Type}{enc:TypeId×Value→H}{w:World}{base:Nat}{spare:Nat→Bool}{held:Bool}{ρ:Nat→Row}
theorem Rd.mono{P:Program}{n m:Nat}{t:TypeId}{α:Type}{q:α→Prop}{en:α→PV}(h:Rd enc P w base spare held ρ m t q en)(hn:n≤m):Rd enc P w base spare held ρ n t q en:=fun fuel cs d ps hle=>h fuel cs d ps (by omega)
theorem qsl(n:Nat):Rd enc Tryz.prog w base spare held ρ n 42 (fun l:List Int=> ∀x∈l,(Lit.int .i64 x).wf=true) (fun l=>.slice 1 (l.map encI) .any):=
 Rd.mono (qfn (n:=n) (en:=PV.int .i64) Tryz.underlying42 cells3 (by decide) (fun _ _=>rfl) (rd_int Tryz.underlying3)) (by omega)
theorem rd_strs(n:Nat):Rd enc Tryz.prog w base spare held ρ n 22 (fun l:List ByteArray=> ∀x∈l,x.size≤maxLen) (fun l=>.slice 1 (l.map .str) .any):=
 Rd.mono (qfn (n:=n) Tryz.underlying22 cells9 (by decide) (fun _ _=>rfl) (rd_str Tryz.underlying9)) (by omega)
theorem rd_op(n:Nat):Rd enc Tryz.prog w base spare held ρ n 75 (fun _:GOp=>True) qao:=by
 intro fuel cs d ps _ h;cases fuel with
 |zero=>simp[DataW.trod]at h
 |succ fuel=>
   have Pt:=qd7 (ρ:=ρ) Tryz.underlying75 (by simp[qe4,cells9,qpk]) (by simp[qdu,cells9,qpk,cells3,cells75]) h;cases Pt with
   |cons f fs c1 c' d1 p1 h1 l1 r1=>
     cases r1 with
     |cons f fs c2 c' d2 p2 h2 l2 r2=>
       cases r2 with
       |cons f fs c3 c' d3 p3 h3 l3 r3=>
         cases r3;obtain⟨x1,_,k1⟩:=rd_str (n:=fuel) (ρ:=ρ) Tryz.underlying9 fuel _ _ _ (nR0 _) h1;obtain⟨x2,_,k2⟩:=qsl (ρ:=ρ) fuel fuel _ _ _ (nR0 _) h2;obtain⟨x3,_,k3⟩:=rd_int (n:=fuel) (ρ:=ρ) Tryz.underlying3 fuel _ _ _ (nR0 _) h3;refine⟨⟨x1,x2,x3⟩,trivial,?_⟩;rw[List.append_nil];exact k1.append (k2.append k3)
theorem rd_ops(n:Nat):Rd enc Tryz.prog w base spare held ρ n 23 (fun l:List GOp=> ∀x∈l,True) (fun l=>.slice 3 (l.map qao) .any):=
 Rd.mono (qfn (n:=n) Tryz.underlying23 cells75 (by decide) (fun _ _=>rfl) (rd_op n)) (by omega)
theorem rd_sig(n:Nat):Rd enc Tryz.prog w base spare held ρ n 25 (fun _:GSig=>True) qaf:=by
 intro fuel cs d ps _ h;cases fuel with
 |zero=>simp[DataW.trod]at h
 |succ fuel=>
   have Pt:=qd7 (ρ:=ρ) Tryz.underlying25 (by simp[qe4,cells22]) (by simp[qdu,cells22,cells23,qtl]) h;cases Pt with
   |cons f fs c1 c' d1 p1 h1 l1 r1=>
     cases r1 with
     |cons f fs c2 c' d2 p2 h2 l2 r2=>
       cases r2;obtain⟨x1,_,k1⟩:=rd_strs (ρ:=ρ) fuel fuel _ _ _ (nR0 _) h1;obtain⟨x2,_,k2⟩:=rd_ops (ρ:=ρ) fuel fuel _ _ _ (nR0 _) h2;refine⟨⟨x1,x2⟩,trivial,?_⟩;rw[List.append_nil];exact k1.append k2
end
end Go.Proofs.Tryz
