/- Texts of the proof, one behind the other: ValQW, ValEntY, ValQX, ValQY. -/
import Derived.Test.YtekepgfmgeophaaGreatPartAQ
import Derived.Test.YtekepgfmgeophaaGreatPartAR
import Derived.Test.YtekepgfmgeophaaGreatPartAN
set_option linter.unusedVariables false
set_option linter.unusedSimpArgs false
namespace Go.Proofs.Tryz
open Go Go.AE
open Go.AE.Obj (row)
variable {T:Tbl}(hT:Std T){s:GSig}
theorem qqd{i:Nat}{l:Ts}(h:RowOk s i l):∀(d p:Nat)(x y:Tm),l[p]?=some x→l[p+d+1]?=some y→tmC x y<0
 |0,p,x,y,hx,hy=>(h.2 (p+1) y hy).2 x (by omega) hx
 |d+1,p,x,y,hx,hy=>by have hlt:=(gI0.1 hy).1;have hz:l[p+d+1]?=some l[p+d+1]:=gE0 (by omega);exact qp4 _ _ _ (qqd h d p x _ hx hz) ((h.2 (p+d+1+1) y hy).2 _ (by omega) hz)
theorem sorted_ne{i:Nat}{l:Ts}(h:RowOk s i l){p q:Nat}{x y:Tm}(hpq:p<q)(hx:l[p]?=some x)(hy:l[q]?=some y):tmC x y<0:=by obtain⟨d,rfl⟩:∃d,q=p+d+1:=⟨q - p - 1,by omega⟩;exact qqd h d p x y hx hy
def domV(dom:LT):PV:=.slice 1 (dom.map encL) .any
def vssOf(dom:LT):List (PL):=dom.map fun l=>l.map encT
theorem domV_ok(dom:LT)(H:Hp):DomV H (domV dom) dom (dom.map encL) (vssOf dom):=by
 refine⟨.inl ⟨1,.any,rfl,.inr rfl⟩,by simp,by simp[vssOf],fun i v es h1 h2=>?_,fun i l es h1 h2=>?_,fun v hv=>?_⟩
 · simp only[gM0,vssOf]at h1 h2;cases hd:dom[i]? with
   |none=>rw[hd]at h1;cases h1
   |some l=>
     rw[hd]at h1 h2;cases h1;cases h2;exact .inl ⟨3,.any,rfl,.inr rfl⟩
 · simp only[gM0,vssOf,h1]at h2;cases h2;exact qft l
 · obtain⟨l,_,rfl⟩:=mM0.1 hv;rfl
theorem qsi{H:Hp}{ws:NL}{ups:UL}{k n A:Nat}{xs:PL}{z v:PV}(hk:H[k]?=some (.row 1 xs))(hn:xs.length=n)(hz:xs[A]?=some z)(hzc:∀cs,z≠.agg cs)(hv:v.cells=[v]∧v.isCell=true)(ht:∀j,v.top=some j→j≤k):
 storeAt 1 (.ptr k A 0 n) v ⟨H,ws,ups⟩=some ⟨H.set k (.row 1 (xs.set A v)),wadd k ws,ups⟩:=by
 have hva:∀cs,v≠.agg cs:=fun cs h=>by rw[h]at hv;cases hv.2
 have hu:upd z 0 v=some v:=by
  unfold upd;split
  ·grind
  ·grind
 simp only[storeAt,hk,hn,hv.1,ll0,Nat.zero_add,List.all_cons,List.all_nil,hv.2,Bool.and_self,and_self,if_true,hz,hu,Option.map];cases htop:v.top with
 |none=>rw[qau]
 |some j=>
   have:=ht j htop;rw[qcj,if_neg (by omega)]
end Go.Proofs.Tryz
namespace Go.Proofs.Tryz
open Go Go.AE
theorem cells41:Tryz.prog.cellsOf 41=3:=by kernel_rfl
theorem cells39:Tryz.prog.cellsOf 39=1:=by kernel_rfl
theorem cells135:Tryz.prog.cellsOf 135=8:=by kernel_rfl
theorem cells98:Tryz.prog.cellsOf 98=6:=by kernel_rfl
theorem cells58:Tryz.prog.cellsOf 58=1:=by kernel_rfl
section
variable {H:Type}{enc:TypeId×Value→H}{w:World}{base:Nat}{spare:Nat→Bool}{held:Bool}{ρ:Nat→Row}
theorem qpe(p:Tm×Tm):(qag p).cells.length=6:=(qk5 p).1
theorem qrf(e:GEqn):(qaj e).cells.length=8:=(qil e).1
theorem rd_pair(n:Nat):Rd enc Tryz.prog w base spare held ρ n 98 (fun _:Tm×Tm=>True) qag:=by
 intro fuel cs d ps _ h;cases fuel with
 |zero=>simp[DataW.trod]at h
 |succ fuel=>
   have Pt:=qd7 (ρ:=ρ) Tryz.underlying98 (by simp[qe4,qim]) (by simp[qdu,qim,cells98]) h;cases Pt with
   |cons f fs c1 c' d1 p1 h1 l1 r1=>
     cases r1 with
     |cons f fs c2 c' d2 p2 h2 l2 r2=>
       cases r2;obtain⟨x1,_,k1⟩:=qjx (ρ:=ρ) fuel fuel _ _ _ (nR0 _) h1;obtain⟨x2,_,k2⟩:=qjx (ρ:=ρ) fuel fuel _ _ _ (nR0 _) h2;refine⟨(x1,x2),trivial,?_⟩;rw[List.append_nil];exact k1.append k2
theorem rd_pairs(n:Nat):Rd enc Tryz.prog w base spare held ρ n 58 (fun l:List (Tm×Tm)=> ∀x∈l,True) (fun l=>.slice 6 (l.map qag) .any):=
 Rd.mono (qfn (n:=n) (en:=qag) Tryz.underlying58 cells98 (by decide) (fun p _=>qpe p) (rd_pair n)) (by omega)
theorem rd_eqn(n:Nat):Rd enc Tryz.prog w base spare held ρ n 135 (fun _:GEqn=>True) qaj:=by
 intro fuel cs d ps _ h;cases fuel with
 |zero=>simp[DataW.trod]at h
 |succ fuel=>
   have Pt:=qd7 (ρ:=ρ) Tryz.underlying135 (by simp[qe4,qpk,cells58,qim]) (by simp[qdu,qpk,cells58,qim,cells135]) h;cases Pt with
   |cons f fs c1 c' d1 p1 h1 l1 r1=>
     cases r1 with
     |cons f fs c2 c' d2 p2 h2 l2 r2=>
       cases r2 with
       |cons f fs c3 c' d3 p3 h3 l3 r3=>
         cases r3 with
         |cons f fs c4 c' d4 p4 h4 l4 r4=>
           cases r4;obtain⟨x1,_,k1⟩:=qsl (ρ:=ρ) fuel fuel _ _ _ (nR0 _) h1;obtain⟨x2,_,k2⟩:=rd_pairs (ρ:=ρ) fuel fuel _ _ _ (nR0 _) h2;obtain⟨x3,_,k3⟩:=qjx (ρ:=ρ) fuel fuel _ _ _ (nR0 _) h3;obtain⟨x4,_,k4⟩:=qjx (ρ:=ρ) fuel fuel _ _ _ (nR0 _) h4;refine⟨⟨x1,x2,x3,x4⟩,trivial,?_⟩;rw[List.append_nil];exact k1.append (k2.append (k3.append k4))
theorem rd_eqns(n:Nat):Rd enc Tryz.prog w base spare held ρ n 39 (fun l:List GEqn=> ∀x∈l,True) (fun l=>.slice 8 (l.map qaj) .any):=
 Rd.mono (qfn (n:=n) (en:=qaj) Tryz.underlying39 cells135 (by decide) (fun e _=>qrf e) (rd_eqn n)) (by omega)
theorem rd_ty(n:Nat):Rd enc Tryz.prog w base spare held ρ n 41 (fun _:GTy=>True) qai:=by
 intro fuel cs d ps _ h;cases fuel with
 |zero=>simp[DataW.trod]at h
 |succ fuel=>
   have Pt:=qd7 (ρ:=ρ) Tryz.underlying41 (by simp[qe4,qtl]) (by simp[qdu,qtl,cells39,cells41]) h;cases Pt with
   |cons f fs c1 c' d1 p1 h1 l1 r1=>
     cases r1 with
     |cons f fs c2 c' d2 p2 h2 l2 r2=>
       cases r2;obtain⟨x1,_,k1⟩:=rd_sig (ρ:=ρ) fuel fuel _ _ _ (nR0 _) h1;obtain⟨x2,_,k2⟩:=rd_eqns (ρ:=ρ) fuel fuel _ _ _ (nR0 _) h2;refine⟨⟨x1,x2⟩,trivial,?_⟩;rw[List.append_nil];exact k1.append k2
theorem rd_dom (n:Nat):Rd enc Tryz.prog w base spare held ρ n 43 (fun _:LT=>True) domV:=by intro fuel cs d ps hle h;have:=qfn (n:=n) (ρ:=ρ) (en:=encL) (q:=fun _:Ts=>True) Tryz.underlying43 cells26 (by decide) (fun _ _=>rfl) (fun fuel cs d ps hle h=>by obtain⟨x,_,k⟩:=Rd.mono (qfn (n:=n) (ρ:=ρ) (en:=encT) Tryz.underlying26 qim (by decide) (fun t _=>qe9 t) (qjx n)) (by omega:n≤n+1) fuel cs d ps hle h;exact⟨x,trivial,k⟩) fuel cs d ps (by omega) h;obtain⟨x,_,k⟩:=this;exact⟨x,trivial,k⟩
theorem ty_in{cs:Array Value}{d:DataW H}{ps:List MemPlace}(h:DataW.Trod enc Tryz.prog w base spare held 41 (.agg cs) d ps):∃t:GTy,VR w (oldI w) noD ρ (qai t) (.agg cs):=by obtain⟨fuel,hf⟩:=h;obtain⟨s,_,k1,k2⟩:=rd_ty (ρ:=ρ) fuel fuel _ _ _ (nR0 _) hf;exact⟨s,.agg _ cs (by simpa[Value.cells,qai,PV.cells]using k1) fun j=>k2 j⟩
theorem dom_in{a:Option Addr}{len cap:Nat}{d:DataW H}{ps:List MemPlace}(h:DataW.Trod enc Tryz.prog w base spare held 43 (.slice a len cap) d ps):∃dom:LT,VR w (oldI w) noD ρ (domV dom) (.slice a len cap):=by obtain⟨fuel,hf⟩:=h;obtain⟨x,_,_,k2⟩:=rd_dom (ρ:=ρ) fuel fuel _ _ _ (nR0 _) hf;exact⟨x,by simpa[domV,PV.cells,Value.cells]using k2 0⟩
end
end Go.Proofs.Tryz
namespace Go.Proofs.Tryz
open Go Go.AE
open Go.AE.Obj (row)
variable {T:Tbl}(hT:Std T){s:GSig}
structure Law8 (H:Hp)(n0:Nat)(t:GTy)(dom:LT)(A:Nat)(X:PV):Prop where
 k6:H[n0]?=some (.row 3 [qai t])
 k7:H[n0+1]?=some (.row 1 [domV dom])
 k8:H[n0+2]?=some (.row 1 [.int .i64 (A:Int)])
 k11:H[n0+3]?=some (.row 3 [X])
theorem Law8.low{h H:Hp}{n0:Nat}{t:GTy}{dom:LT}{A:Nat}{X:PV}(L:Law8 h n0 t dom A X)(hl:Low h.length h H):Law8 H n0 t dom A X:=by obtain⟨a,b,c,d⟩:=L;have q:=fun{k:Nat}{o:AE.Obj}(x:h[k]?=some o)=>hl.get (gI0.1 x).1 x;exact⟨q a,q b,q c,q d⟩
end Go.Proofs.Tryz
