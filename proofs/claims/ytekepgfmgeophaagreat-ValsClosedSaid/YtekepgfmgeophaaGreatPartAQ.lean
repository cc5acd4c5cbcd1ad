/- Texts of the proof, one behind the other: ValQW, ValEntY, ValFnsY, ValYG, ValYH, ValYI, ValYA, ValYB, ValYC, ValYD, ValQX, ValQY. -/
import Derived.Test.YtekepgfmgeophaaGreatPartAO
import Derived.Test.YtekepgfmgeophaaGreatPartAP
import Derived.Test.YtekepgfmgeophaaGreatPartAL
import Derived.Test.YtekepgfmgeophaaGreatPartAJ
import Derived.Test.YtekepgfmgeophaaGreatPartAB
set_option linter.unusedVariables false
set_option linter.unusedSimpArgs false
namespace Go.Proofs.Tryz
open Go Go.AE
variable {T:Tbl}(hT:Std T){s:GSig}
theorem sorted_lt{i:Nat}{l:List Tm}(h:RowOk s i l):∀(d p:Nat)(x y:Tm),l[p]?=some x→l[p+d+1]?=some y→tmC x y<0
 |0,p,x,y,hx,hy=>(h.2 (p+1) y hy).2 x (by omega) hx
 |d+1,p,x,y,hx,hy=>by have hlt:=(List.getElem?_eq_some_iff.1 hy).1;have hz:l[p+d+1]?=some l[p+d+1]:=List.getElem?_eq_getElem (by omega);exact tmC_trans _ _ _ (sorted_lt h d p x _ hx hz) ((h.2 (p+d+1+1) y hy).2 _ (by omega) hz)
theorem sorted_ne{i:Nat}{l:List Tm}(h:RowOk s i l){p q:Nat}{x y:Tm}(hpq:p<q)(hx:l[p]?=some x)(hy:l[q]?=some y):tmC x y<0:=by obtain⟨d,rfl⟩:∃d,q=p+d+1:=⟨q - p - 1,by omega⟩;exact sorted_lt h d p x y hx hy
def domV(dom:List (List Tm)):PV:=.slice 1 (dom.map encL) .any
def vssOf(dom:List (List Tm)):List (List PV):=dom.map fun l=>l.map encT
theorem domV_ok(dom:List (List Tm))(H:Hp):DomV H (domV dom) dom (dom.map encL) (vssOf dom):=by
 refine⟨.inl ⟨1,.any,rfl,.inr rfl⟩,by simp,by simp[vssOf],fun i v es h1 h2=>?_,fun i l es h1 h2=>?_,fun v hv=>?_⟩
 · simp only[List.getElem?_map,vssOf]at h1 h2;cases hd:dom[i]? with
   |none=>rw[hd]at h1;cases h1
   |some l=>
     rw[hd]at h1 h2;cases h1;cases h2;exact .inl ⟨3,.any,rfl,.inr rfl⟩
 · simp only[List.getElem?_map,vssOf,h1]at h2;cases h2;exact encL_map l
 · obtain⟨l,_,rfl⟩:=List.mem_map.1 hv;rfl
theorem st_row1{H:Hp}{ws:List Nat}{ups:List (Nat×Nat)}{k n A:Nat}{xs:List PV}{z v:PV}(hk:H[k]?=some (.row 1 xs))(hn:xs.length=n)(hz:xs[A]?=some z)(hzc:∀cs,z≠.agg cs)(hv:v.cells=[v]∧v.isCell=true)(ht:∀j,v.top=some j→j≤k):
 storeAt 1 (.ptr k A 0 n) v ⟨H,ws,ups⟩=some ⟨H.set k (.row 1 (xs.set A v)),wadd k ws,ups⟩:=by
 have hva:∀cs,v≠.agg cs:=fun cs h=>by rw[h]at hv;cases hv.2
 have hu:upd z 0 v=some v:=by
  unfold upd;split
  ·rename_i cs _;exact absurd rfl (hzc _)
  · split
    ·exact absurd rfl (hva _)
    ·rfl
 simp only[storeAt,hk,hn,hv.1,List.length_cons,List.length_nil,Nat.zero_add,List.all_cons,List.all_nil,hv.2,Bool.and_self,and_self,if_true,hz,hu,Option.map];cases htop:v.top with
 |none=>rw[wrote_none]
 |some j=>
   have:=ht j htop;rw[wrote_some,if_neg (by omega)]
end Go.Proofs.Tryz
namespace Go.Proofs.Tryz
open Go Go.AE
theorem cells41:Tryz.prog.cellsOf 41=3:=by kernel_rfl
theorem cells39:Tryz.prog.cellsOf 39=1:=by kernel_rfl
theorem cells135:Tryz.prog.cellsOf 135=8:=by kernel_rfl
theorem cells98:Tryz.prog.cellsOf 98=6:=by kernel_rfl
theorem cells58:Tryz.prog.cellsOf 58=1:=by kernel_rfl
section
variable {H:Type}{enc:TypeId×Value→H}{w:World}{base:Nat}{spare:Nat→Bool}{held:Bool}{ρ:Nat→Row}
theorem encPair_cells(p:Tm×Tm):(encPair p).cells.length=6:=(pair_box p).1
theorem encEqn_cells(e:GEqn):(encEqn e).cells.length=8:=(eqn_box e).1
theorem rd_pair(n:Nat):Rd enc Tryz.prog w base spare held ρ n 98 (fun _:Tm×Tm=>True) encPair:=by
 intro fuel cs d ps _ h;cases fuel with
 |zero=>simp[DataW.trod]at h
 |succ fuel=>
   have Pt:=trod_struct (ρ:=ρ) Tryz.underlying98 (by simp[fieldsAt,cells28]) (by simp[sumCells,cells28,cells98]) h;cases Pt with
   |cons f fs c1 c' d1 p1 h1 l1 r1=>
     cases r1 with
     |cons f fs c2 c' d2 p2 h2 l2 r2=>
       cases r2;obtain⟨x1,_,k1⟩:=rd_term (ρ:=ρ) fuel fuel _ _ _ (Nat.le_refl _) h1;obtain⟨x2,_,k2⟩:=rd_term (ρ:=ρ) fuel fuel _ _ _ (Nat.le_refl _) h2;refine⟨(x1,x2),trivial,?_⟩;rw[List.append_nil];exact k1.append k2
theorem rd_pairs(n:Nat):Rd enc Tryz.prog w base spare held ρ n 58 (fun l:List (Tm×Tm)=> ∀x∈l,True) (fun l=>.slice 6 (l.map encPair) .any):=
 Rd.mono (rd_slice (n:=n) (en:=encPair) Tryz.underlying58 cells98 (by decide) (fun p _=>encPair_cells p) (rd_pair n)) (by omega)
theorem rd_eqn(n:Nat):Rd enc Tryz.prog w base spare held ρ n 135 (fun _:GEqn=>True) encEqn:=by
 intro fuel cs d ps _ h;cases fuel with
 |zero=>simp[DataW.trod]at h
 |succ fuel=>
   have Pt:=trod_struct (ρ:=ρ) Tryz.underlying135 (by simp[fieldsAt,cells42,cells58,cells28]) (by simp[sumCells,cells42,cells58,cells28,cells135]) h;cases Pt with
   |cons f fs c1 c' d1 p1 h1 l1 r1=>
     cases r1 with
     |cons f fs c2 c' d2 p2 h2 l2 r2=>
       cases r2 with
       |cons f fs c3 c' d3 p3 h3 l3 r3=>
         cases r3 with
         |cons f fs c4 c' d4 p4 h4 l4 r4=>
           cases r4;obtain⟨x1,_,k1⟩:=rd_ints (ρ:=ρ) fuel fuel _ _ _ (Nat.le_refl _) h1;obtain⟨x2,_,k2⟩:=rd_pairs (ρ:=ρ) fuel fuel _ _ _ (Nat.le_refl _) h2;obtain⟨x3,_,k3⟩:=rd_term (ρ:=ρ) fuel fuel _ _ _ (Nat.le_refl _) h3;obtain⟨x4,_,k4⟩:=rd_term (ρ:=ρ) fuel fuel _ _ _ (Nat.le_refl _) h4;refine⟨⟨x1,x2,x3,x4⟩,trivial,?_⟩;rw[List.append_nil];exact k1.append (k2.append (k3.append k4))
theorem rd_eqns(n:Nat):Rd enc Tryz.prog w base spare held ρ n 39 (fun l:List GEqn=> ∀x∈l,True) (fun l=>.slice 8 (l.map encEqn) .any):=
 Rd.mono (rd_slice (n:=n) (en:=encEqn) Tryz.underlying39 cells135 (by decide) (fun e _=>encEqn_cells e) (rd_eqn n)) (by omega)
theorem rd_ty(n:Nat):Rd enc Tryz.prog w base spare held ρ n 41 (fun _:GTy=>True) encTy:=by
 intro fuel cs d ps _ h;cases fuel with
 |zero=>simp[DataW.trod]at h
 |succ fuel=>
   have Pt:=trod_struct (ρ:=ρ) Tryz.underlying41 (by simp[fieldsAt,cells25]) (by simp[sumCells,cells25,cells39,cells41]) h;cases Pt with
   |cons f fs c1 c' d1 p1 h1 l1 r1=>
     cases r1 with
     |cons f fs c2 c' d2 p2 h2 l2 r2=>
       cases r2;obtain⟨x1,_,k1⟩:=rd_sig (ρ:=ρ) fuel fuel _ _ _ (Nat.le_refl _) h1;obtain⟨x2,_,k2⟩:=rd_eqns (ρ:=ρ) fuel fuel _ _ _ (Nat.le_refl _) h2;refine⟨⟨x1,x2⟩,trivial,?_⟩;rw[List.append_nil];exact k1.append k2
theorem rd_dom (n:Nat):Rd enc Tryz.prog w base spare held ρ n 43 (fun _:List (List Tm)=>True) domV:=by intro fuel cs d ps hle h;have:=rd_slice (n:=n) (ρ:=ρ) (en:=encL) (q:=fun _:List Tm=>True) Tryz.underlying43 cells26 (by decide) (fun _ _=>rfl) (fun fuel cs d ps hle h=>by obtain⟨x,_,k⟩:=Rd.mono (rd_slice (n:=n) (ρ:=ρ) (en:=encT) Tryz.underlying26 cells28 (by decide) (fun t _=>encT_cells t) (rd_term n)) (by omega:n≤n+1) fuel cs d ps hle h;exact⟨x,trivial,k⟩) fuel cs d ps (by omega) h;obtain⟨x,_,k⟩:=this;exact⟨x,trivial,k⟩
theorem ty_in{cs:Array Value}{d:DataW H}{ps:List MemPlace}(h:DataW.Trod enc Tryz.prog w base spare held 41 (.agg cs) d ps):∃t:GTy,VR w (oldI w) noD ρ (encTy t) (.agg cs):=by obtain⟨fuel,hf⟩:=h;obtain⟨s,_,k1,k2⟩:=rd_ty (ρ:=ρ) fuel fuel _ _ _ (Nat.le_refl _) hf;exact⟨s,.agg _ cs (by simpa[Value.cells,encTy,PV.cells]using k1) fun j=>k2 j⟩
theorem term_inE{cs:Array Value}{d:DataW H}{ps:List MemPlace}(h:DataW.Trod enc Tryz.prog w base spare held 28 (.agg cs) d ps):∃t:Tm,VR w (oldI w) noD ρ (encT t) (.agg cs):=by
 obtain⟨fuel,hf⟩:=h;obtain⟨t,_,k1,k2⟩:=rd_term (ρ:=ρ) fuel fuel _ _ _ (Nat.le_refl _) hf;refine⟨t,?_⟩;cases t with
 |mk k n l=>
   rw[encT]at k1 k2⊢;exact .agg _ cs (by simpa[Value.cells,PV.cells]using k1) fun j=>k2 j
theorem dom_in{a:Option Addr}{len cap:Nat}{d:DataW H}{ps:List MemPlace}(h:DataW.Trod enc Tryz.prog w base spare held 43 (.slice a len cap) d ps):∃dom:List (List Tm),VR w (oldI w) noD ρ (domV dom) (.slice a len cap):=by obtain⟨fuel,hf⟩:=h;obtain⟨x,_,k1,k2⟩:=rd_dom (ρ:=ρ) fuel fuel _ _ _ (Nat.le_refl _) hf;exact⟨x,by simpa[domV,PV.cells,Value.cells]using k2 0⟩
end
end Go.Proofs.Tryz
namespace Go.Proofs.Tryz
open Go Go.AE
def a7b0:ACode:=(.seq (.reg [lo 83 82 81]) (.seq (.cond (.t 83) .skip (.exit 0)) (.seq (.block 1 (.seq (.reg [mv 84 82,ro 85 (ix 3 80 82),rp 86 (l3 85),rp 13 (.box 3 (.c zq3)),mv 12 84,ws 3 13 86]) (.seq (.regD [rp 87 (l1 11),rd 88 (fa 0 3) false 1 0 false,rd 89 (fa 1 88) false 2 2 false,rd 90 (l1 89) true 3 6 false,rd 91 (mo 7) false 4 0 false,rd 92 (ix 3 90 91) false 5 30 false,rd 93 (fa 1 92) false 6 62 false,rd 94 (l1 93) true 7 126 false,rd 95 (mo 12) false 8 0 false,rd 96 (ix 1 94 95) false 9 510 false,rd 97 (l1 96) true 10 1022 false,rd 98 (l3 13) true 11 0 true,rd 99 (.call (.t 87) [(.t 97),(.t 98)]) true 12 4095 true,rd 100 (no 99) false 13 8191 true]) (.cond (.t 100) (.seq (.reg [ro 6 (.move (.c (.bool false)))]) .ret) .skip)))) (.reg [nx 101 82,mv 82 101]))))
def a38b0:ACode:=(.seq (.reg [lo 23 22 21]) (.seq (.cond (.t 23) .skip (.exit 2)) (.seq (.block 3 (.seq (.reg [ro 24 (ix 1 20 22),rp 25 (l1 24),mv 10 25]) (.seq (.seq (.reg [mv 26 10,ro 27 (bc .lss 26 0),mv 28 27,rg 29 (mo 10) 28 false,rg 30 (mo 0) 28 false,rg 31 (ll 30) 28 false,rg 32 (bi .geq 29 31) 28 false,ro 33 (.pick (.t 28) (.c (.bool true)) (.t 32))]) (.cond (.t 33) (.exit 3) .skip)) (.seq (.reg [mv 34 8,mv 35 0,mv 36 10,ro 37 (ix 1 35 36),rp 38 (l1 37),ro 39 (ll 38),ro 40 (bi .mul 34 39),mv 8 40]) (.seq (.reg [mv 41 8,ro 42 (bc .gtr 41 500)]) (.cond (.t 42) (.seq (.reg [ro 4 (.move (.c (.bool false)))]) .ret) .skip)))))) (.reg [nx 43 22,mv 22 43]))))
def a38b1:ACode:=(.seq (.reg [lo 14 13 12]) (.seq (.cond (.t 14) .skip (.exit 0)) (.seq (.block 1 (.seq (.reg [ro 15 (ix 1 11 13),rp 16 (l1 15),mv 7 16]) (.seq (.reg [ro 8 (.move (ci 1))]) (.seq (.seq (.reg [mv 17 7,ro 18 (ll 17),ro 19 (bc .gtr 18 100)]) (.cond (.t 19) (.seq (.reg [ro 4 (.move (.c (.bool false)))]) .ret) .skip)) (.seq (.seq (.reg [mv 20 7,ro 21 (ll 20),c0 22]) (.block 2 (.loop a38b0))) (.reg [mv 44 5,mv 45 8,ro 46 (bi .add 44 45),mv 5 46])))))) (.reg [nx 47 13,mv 13 47]))))
def a38:AFunc:=⟨2,50,(.seq (.reg [ro 4 (.move (.c (.bool false)))]) (.seq (.reg [c0 5]) (.seq (.seq (.reg [mv 11 1,ro 12 (ll 11),c0 13]) (.block 0 (.loop a38b1))) (.seq (.reg [mv 48 5,ro 49 (bc .leq 48 2000),mv 4 49]) .ret)))),[.t 4]⟩
theorem fn38:fnOf 38=some a38:=by kernel_rfl
def a41b0:ACode:=(.seq (.reg [lo 10 9 8]) (.seq (.cond (.t 10) .skip (.exit 0)) (.seq (.block 1 (.seq (.reg [ro 11 (ix 3 7 9),rp 12 (l3 11),rp 5 (.box 3 (.c (.agg [(.str ⟨#[]⟩),(.slice 0 [] .nil),(.int .i64 0)]))),ws 3 5 12]) (.reg [mv 13 3,ro 14 (fa 1 5),rp 15 (l1 14),ro 16 (.buildSlice 1 (.slice 0 [] .nil) 1 [(0,(.t 15))]),rp 17 (.append 1 24 (.t 13) (.t 16)),mv 3 17]))) (.reg [nx 18 9,mv 9 18]))))
def a41:AFunc:=⟨1,20,(.seq (.reg [rp 1 (.box 2 (.t 0)),ro 2 (.move (.c (.slice 0 [] .nil)))]) (.seq (.reg [ro 3 (.move (.c (.slice 0 [] .nil)))]) (.seq (.seq (.reg [ro 6 (fa 1 1),rp 7 (l1 6),ro 8 (ll 7),c0 9]) (.block 0 (.loop a41b0))) (.seq (.reg [mv 19 3,mv 2 19]) .ret)))),[.t 2]⟩
theorem fn41:fnOf 41=some a41:=by kernel_rfl
def a42b0:ACode:=(.seq (.reg [lo 35 34 33]) (.seq (.cond (.t 35) .skip (.exit 0)) (.seq (.block 1 (.seq (.reg [ro 36 (ix 3 32 34),rp 37 (l3 36),rp 11 (.box 3 (.c (.agg [(.str ⟨#[]⟩),(.slice 0 [] .nil),(.int .i64 0)]))),ws 3 11 37]) (.seq (.reg [rp 39 (l1 3),ro 40 (fa 1 11),rp 41 (l1 40),rp 42 (.call (.f 116) [(.t 39),(.t 41)]),mv 38 42,ro 43 (et 38 0),ro 44 (et 38 1),mv 12 43,mv 13 44]) (.reg [mv 45 9,mv 46 13,rp 47 (.call (.f 124) [(.t 45),(.t 46)]),mv 9 47])))) (.reg [nx 48 34,mv 34 48]))))
def a42b1:ACode:=(.seq (.reg [lo 56 55 54]) (.seq (.cond (.t 56) .skip (.exit 2)) (.seq (.block 3 (.seq (.reg [mv 57 55,ro 58 (ix 3 53 55),rp 59 (l3 58),rp 14 (.box 1 (ci 0)),rp 15 (.box 3 (.c (.agg [(.str ⟨#[]⟩),(.slice 0 [] .nil),(.int .i64 0)]))),ws 1 14 57,ws 3 15 59]) (.seq (.reg [rp 61 (l1 3),ro 62 (fa 1 15),rp 63 (l1 62),rp 64 (.call (.f 116) [(.t 61),(.t 63)]),mv 60 64,ro 65 (et 60 0),ro 66 (et 60 1),mv 16 65,mv 17 66]) (.seq (.reg [mv 67 16,rp 68 (.call (.f 117) [(.t 67)])]) (.block 4 (.range (.t 68) [69] (.reg [mv 18 69]) (.block 5 (.seq (.reg [rp 70 (l1 14),mv 71 18,ro 72 (.build [(.int .i64 0),(.int .i64 0),(.slice 0 [] .nil)] [(0,1,(ci 2)),(1,1,(.t 70)),(2,1,(.t 71))]),rp 19 (.box 3 (.c zq3)),ws 3 19 72]) (.seq (.seq (.reg [rp 73 (l3 19),rp 74 (.call (.f 125) [(.t 73)]),ro 75 (bc .neq 74 0)]) (.cond (.t 75) (.seq (.reg [wr (.store 1 (.t 4) (ci 0)) 0 0 false,wr (.store 1 (.t 5) (.c (.slice 0 [] .nil))) 0 0 false,wr (.store 1 (.t 6) (.c (.bool false))) 0 0 false,wr (.store 1 (.t 7) (ci 2)) 0 0 false]) .ret) .skip)) (.seq (.reg [rp 77 (l3 2),rp 78 (l3 19),rp 79 (.call (.f 50) [(.t 77),(.t 78)]),mv 76 79,ro 80 (et 76 0),ro 81 (et 76 1),rp 20 (.box 3 (.c zq3)),ws 3 20 80,mv 21 81]) (.seq (.seq (.reg [mv 82 21,ro 83 (bc .neq 82 0)]) (.cond (.t 83) (.seq (.reg [wr (.store 1 (.t 4) (ci 0)) 0 0 false,wr (.store 1 (.t 5) (.c (.slice 0 [] .nil))) 0 0 false,wr (.store 1 (.t 6) (.c (.bool false))) 0 0 false,wr (.store 1 (.t 7) (ci 2)) 0 0 false]) .ret) .skip)) (.seq (.regD [rp 85 (l1 3),rd 86 (fa 2 15) false 1 0 false,rd 87 (l1 86) true 2 2 false,rd 88 (ix 1 85 87) false 3 7 false,rd 89 (l1 88) true 4 15 false,rd 90 (l3 20) true 5 0 true,rd 91 (.call (.f 126) [(.t 89),(.t 90),(.f 62)]) true 6 63 true,rd 84 (mo 91) false 7 127 true,rd 92 (et 84 0) false 8 255 false,rd 93 (et 84 1) false 9 255 false,rd 22 (mo 92) false 10 511 true,rd 23 (mo 93) false 11 2047 true]) (.seq (.reg [mv 94 23,ro 95 (no 94)]) (.cond (.t 95) (.seq (.regD [rp 96 (l1 14),rd 97 (mo 18) false 1 0 true,rd 98 (.call (.f 119) [(.t 97)]) true 2 2 true,wr (so 1 4 96) 3 7 true,wr (so 1 5 98) 4 15 true,wr (.store 1 (.t 6) (.c (.bool true))) 5 31 true,wr (.store 1 (.t 7) (ci 0)) 6 63 true]) .ret) .skip)))))))))))))) (.reg [nx 99 55,mv 55 99]))))
def a42:AFunc:=⟨2,100,(.seq (.reg [rp 2 (.box 3 (.t 0)),rp 3 (.box 1 (.t 1)),rp 4 (.box 1 (ci 0)),rp 5 (.box 1 (.c (.slice 0 [] .nil))),rp 6 (.box 1 (.c (.bool false))),rp 7 (.box 1 (ci 0))]) (.seq (.seq (.reg [rp 24 (l3 2),rp 25 (l1 3),rp 26 (.call (.f 114) [(.t 24),(.t 25)]),mv 8 26]) (.seq (.reg [mv 27 8,ro 28 (bc .neq 27 0)]) (.cond (.t 28) (.seq (.reg [mv 29 8,wr (.store 1 (.t 4) (ci 0)) 0 0 false,wr (.store 1 (.t 5) (.c (.slice 0 [] .nil))) 0 0 false,wr (.store 1 (.t 6) (.c (.bool false))) 0 0 false,ws 1 7 29]) .ret) .skip))) (.seq (.reg [c0 9]) (.seq (.seq (.reg [ro 30 (fa 0 2),ro 31 (fa 1 30),rp 32 (l1 31),ro 33 (ll 32),c0 34]) (.block 0 (.loop a42b0))) (.seq (.seq (.reg [mv 49 9,ro 50 (bc .gtr 49 200000)]) (.cond (.t 50) (.seq (.reg [wr (.store 1 (.t 4) (ci 0)) 0 0 false,wr (.store 1 (.t 5) (.c (.slice 0 [] .nil))) 0 0 false,wr (.store 1 (.t 6) (.c (.bool false))) 0 0 false,wr (.store 1 (.t 7) (ci 2)) 0 0 false]) .ret) .skip)) (.seq (.seq (.reg [ro 51 (fa 0 2),ro 52 (fa 1 51),rp 53 (l1 52),ro 54 (ll 53),c0 55]) (.block 2 (.loop a42b1))) (.seq (.reg [wr (.store 1 (.t 4) (ci 0)) 0 0 false,wr (.store 1 (.t 5) (.c (.slice 0 [] .nil))) 0 0 false,wr (.store 1 (.t 6) (.c (.bool false))) 0 0 false,wr (.store 1 (.t 7) (ci 0)) 0 0 false]) .ret))))))),[.cell 4 false 1,.cell 5 false 1,.cell 6 false 1,.cell 7 false 1]⟩
theorem fn42:fnOf 42=some a42:=by kernel_rfl
def a47:AFunc:=⟨3,22,(.seq (.reg [rp 4 (.box 3 (.t 1)),ro 5 (.move (.c (.bool false)))]) (.seq (.reg [mv 6 0,ro 7 (bc .geq 6 0),mv 8 7,rg 9 (mo 0) 8 true,rh 10 (l1 2) 8 true,rg 11 (ll 10) 8 true,rg 12 (bi .lss 9 11) 8 true,ro 13 (.pick (.t 8) (.t 12) (.c (.bool false))),mv 14 13,rh 15 (l1 2) 14 true,rg 16 (mo 0) 14 true,rg 17 (ix 1 15 16) 14 true,rh 18 (l1 17) 14 true,rg 19 (.mkFunc (.func 49) [] [(.t 4)]) 14 true,rh 20 (.call (.f 48) [(.t 18),(.t 19)]) 14 true,ro 21 (.pick (.t 14) (.t 20) (.c (.bool false))),mv 5 21]) .ret)),[.t 5]⟩
theorem fn47:fnOf 47=some a47:=by kernel_rfl
def a49:AFunc:=⟨2,7,(.seq (.reg [rp 2 (.box 3 (.t 0)),ro 3 (.move (.c (.bool false)))]) (.seq (.reg [rp 4 (l3 1),rp 5 (l3 2),rp 6 (.call (.f 22) [(.t 4),(.t 5)]),mv 3 6]) .ret)),[.t 3]⟩
theorem fn49:fnOf 49=some a49:=by kernel_rfl
def a51:AFunc:=⟨2,8,(.seq (.reg [rp 4 (.box 3 (.c zq3))]) (.seq (.reg [mv 5 0,mv 6 1,ro 7 (.build [(.int .i64 0),(.int .i64 0),(.slice 0 [] .nil)] [(0,1,(ci 2)),(1,1,(.t 5)),(2,1,(.t 6))]),ws 3 4 7]) .ret)),[.cell 4 true 3]⟩
theorem fn51:fnOf 51=some a51:=by kernel_rfl
def a52b0:ACode:=(.seq (.reg [lo 18 17 16]) (.seq (.cond (.t 18) .skip (.exit 0)) (.seq (.block 1 (.seq (.reg [ro 19 (ix 3 15 17),rp 20 (l3 19),rp 9 (.box 3 (.c zq3)),ws 3 9 20]) (.seq (.reg [rp 22 (l1 1),rp 23 (l3 9),rp 24 (.call (.t 22) [(.t 23)]),mv 21 24,ro 25 (et 21 0),ro 26 (et 21 1),rp 10 (.box 3 (.c zq3)),ws 3 10 25,mv 11 26]) (.seq (.seq (.reg [mv 27 11,ro 28 (no 27)]) (.cond (.t 28) (.seq (.reg [rp 29 (l3 10),ws 3 5 29,ro 6 (.move (.c (.bool false)))]) .ret) .skip)) (.reg [mv 30 7,rp 31 (l3 10),ro 32 (.buildSlice 3 zq3 1 [(0,(.t 31))]),rp 33 (.append 3 40 (.t 30) (.t 32)),mv 7 33]))))) (.reg [nx 34 17,mv 17 34]))))
def a52:AFunc:=⟨4,60,(.seq (.reg [rp 4 (.box 3 (.t 0)),rp 5 (.box 3 (.c zq3)),ro 6 (.move (.c (.bool false)))]) (.seq (.reg [ro 7 (.move (.c (.slice 0 [] .nil)))]) (.seq (.seq (.reg [ro 14 (fa 2 4),rp 15 (l1 14),ro 16 (ll 15),c0 17]) (.block 0 (.loop a52b0))) (.seq (.regD [rd 12 (.box 3 (.c zq3)) true 9 0 false,rp 36 (l3 2),rd 37 (fa 1 4) false 1 0 false,rd 38 (l1 37) true 2 2 false,rd 39 (mo 7) false 3 0 true,rd 40 (.call (.f 51) [(.t 38),(.t 39)]) true 4 14 true,rd 41 (.call (.f 50) [(.t 36),(.t 40)]) true 5 31 true,rd 35 (mo 41) false 6 63 true,rd 42 (et 35 0) false 7 127 false,rd 43 (et 35 1) false 8 127 false,wr (so 3 12 42) 10 767 true,rd 13 (mo 43) false 11 2047 true]) (.seq (.regD [rp 44 (l3 12),rd 45 (mo 13) false 1 0 true,rd 46 (bc .eql 45 0) false 2 2 true,rd 47 (mo 46) false 3 6 true,⟨(some 48),l1 3,(some (47,true)),true,4,14,false⟩,⟨(some 49),fa 0 2,(some (47,true)),false,5,14,false⟩,⟨(some 50),fa 1 49,(some (47,true)),false,6,46,false⟩,⟨(some 51),l1 50,(some (47,true)),true,7,110,false⟩,⟨(some 52),fa 1 4,(some (47,true)),false,8,14,false⟩,⟨(some 53),l1 52,(some (47,true)),true,9,270,false⟩,⟨(some 54),ix 3 51 53,(some (47,true)),false,10,1006,false⟩,⟨(some 55),fa 2 54,(some (47,true)),false,11,2030,false⟩,⟨(some 56),l1 55,(some (47,true)),true,12,4078,false⟩,⟨(some 57),l3 12,(some (47,true)),true,13,14,true⟩,⟨(some 58),.call (.t 48) [(.t 56),(.t 57)],(some (47,true)),true,14,16382,true⟩,rd 59 (.pick (.t 47) (.t 58) (.c (.bool false))) false 15 32766 false,wr (so 3 5 44) 16 32767 true,rd 6 (mo 59) false 17 131071 true]) .ret))))),[.cell 5 true 3,.t 6]⟩
theorem fn52:fnOf 52=some a52:=by kernel_rfl
def a114:AFunc:=⟨2,14,(.seq (.reg [rp 2 (.box 3 (.t 0)),c0 4]) (.seq (.seq (.reg [rp 6 (l3 2),rp 7 (.call (.f 103) [(.t 6)]),mv 5 7]) (.seq (.reg [mv 8 5,ro 9 (bc .neq 8 0)]) (.cond (.t 9) (.seq (.reg [mv 10 5,mv 4 10]) .ret) .skip))) (.seq (.reg [rp 11 (l3 2),mv 12 1,rp 13 (.call (.f 104) [(.t 11),(.t 12)]),mv 4 13]) .ret))),[.t 4]⟩
theorem fn114:fnOf 114=some a114:=by kernel_rfl
def a116b0:ACode:=(.seq (.reg [lo 15 14 13]) (.seq (.cond (.t 15) .skip (.exit 0)) (.seq (.block 1 (.seq (.reg [ro 16 (ix 1 12 14),rp 17 (l1 16),mv 9 17]) (.seq (.reg [mv 18 6,mv 19 0,mv 20 9,ro 21 (ix 1 19 20),rp 22 (l1 21),ro 23 (.buildSlice 1 (.slice 0 [] .nil) 1 [(0,(.t 22))]),rp 24 (.append 1 24 (.t 18) (.t 23)),mv 6 24]) (.reg [mv 25 7,mv 26 0,mv 27 9,ro 28 (ix 1 26 27),rp 29 (l1 28),ro 30 (ll 29),rp 31 (.call (.f 165) [(.t 25),(.t 30)]),mv 7 31])))) (.reg [nx 32 14,mv 14 32]))))
def a116b1:ACode:=(.seq (.reg [lo 36 35 34]) (.seq (.cond (.t 36) .skip (.exit 2)) (.seq (.block 3 (.seq (.reg [ro 37 (ix 1 33 35),rp 38 (l1 37),mv 11 38]) (.seq (.reg [mv 39 11,ro 40 (ll 39),ro 41 (bc .eql 40 0)]) (.cond (.t 41) (.seq (.reg [mv 42 6,mv 4 42,c0 5]) .ret) .skip)))) (.reg [nx 43 35,mv 35 43]))))
def a116:AFunc:=⟨2,46,(.seq (.reg [ro 4 (.move (.c (.slice 0 [] .nil))),c0 5]) (.seq (.reg [ro 6 (.move (.c (.slice 0 [] .nil)))]) (.seq (.reg [ro 7 (.move (ci 1))]) (.seq (.seq (.reg [mv 12 1,ro 13 (ll 12),c0 14]) (.block 0 (.loop a116b0))) (.seq (.seq (.reg [mv 33 6,ro 34 (ll 33),c0 35]) (.block 2 (.loop a116b1))) (.seq (.reg [mv 44 6,mv 45 7,mv 4 44,mv 5 45]) .ret)))))),[.t 4,.t 5]⟩
theorem fn116:fnOf 116=some a116:=by kernel_rfl
def a117:AFunc:=⟨1,4,(.seq (.reg [rp 1 (.box 1 (.t 0)),ro 2 (.move (.c .nilFunc))]) (.seq (.reg [ro 3 (.mkFunc (.func 182) [] [(.t 1)]),mv 2 3]) .ret)),[.t 2]⟩
theorem fn117:fnOf 117=some a117:=by kernel_rfl
def a119b0:ACode:=(.seq (.reg [lo 11 10 9]) (.seq (.cond (.t 11) .skip (.exit 0)) (.seq (.block 1 (.seq (.reg [ro 12 (ix 3 8 10),rp 13 (l3 12),rp 5 (.box 3 (.c zq3)),ws 3 5 13]) (.seq (.reg [rp 15 (l3 5),rp 16 (.call (.f 183) [(.t 15),(.c (.slice 0 [] .nil))]),mv 14 16,ro 17 (et 14 0),ro 18 (et 14 1),rp 6 (.box 3 (.c zq3)),ws 3 6 17,mv 7 18]) (.reg [mv 19 3,rp 20 (l3 6),ro 21 (.buildSlice 3 zq3 1 [(0,(.t 20))]),rp 22 (.append 3 40 (.t 19) (.t 21)),mv 3 22])))) (.reg [nx 23 10,mv 10 23]))))
def a119:AFunc:=⟨1,25,(.seq (.reg [ro 2 (.move (.c (.slice 0 [] .nil)))]) (.seq (.reg [ro 3 (.move (.c (.slice 0 [] .nil)))]) (.seq (.seq (.reg [mv 8 0,ro 9 (ll 8),c0 10]) (.block 0 (.loop a119b0))) (.seq (.reg [mv 24 3,mv 2 24]) .ret)))),[.t 2]⟩
theorem fn119:fnOf 119=some a119:=by kernel_rfl
def a126b0:ACode:=(.seq (.seq (.reg [mv 15 9,mv 16 10,lo 17 15 16]) (.cond (.t 17) .skip (.exit 0))) (.block 1 (.seq (.reg [mv 18 9,mv 19 10,ro 20 (bi .add 18 19),ro 21 (.convInt .u64 (.t 20)),ro 22 (.bin .shr (.t 21) (.c (.int .u64 1))),ro 23 (.convInt .i64 (.t 22)),mv 11 23]) (.seq (.regD [mv 24 2,rd 25 (mo 0) false 1 0 false,rd 26 (mo 11) false 2 0 false,rd 27 (ix 3 25 26) false 3 6 false,rd 28 (l3 27) true 4 14 false,rd 29 (l3 4) true 5 0 true,rd 30 (.call (.t 24) [(.t 28),(.t 29)]) true 6 63 true,rd 31 (bc .lss 30 0) false 7 127 true]) (.cond (.t 31) (.reg [mv 32 11,nx 33 32,mv 9 33]) (.reg [mv 34 11,mv 10 34]))))))
def a126:AFunc:=⟨3,49,(.seq (.reg [rp 4 (.box 3 (.t 1)),c0 6,ro 7 (.move (.c (.bool false)))]) (.seq (.reg [mv 12 0,ro 13 (ll 12),mv 8 13]) (.seq (.reg [mv 14 8,c0 9,mv 10 14]) (.seq (.block 0 (.loop a126b0)) (.seq (.regD [mv 35 9,rd 36 (mo 9) false 1 0 false,rd 37 (mo 8) false 2 0 true,rd 38 (bi .lss 36 37) false 3 6 true,rd 39 (mo 38) false 4 14 true,⟨(some 40),mo 2,(some (39,true)),false,5,30,false⟩,⟨(some 41),mo 0,(some (39,true)),false,6,30,false⟩,⟨(some 42),mo 9,(some (39,true)),false,7,30,false⟩,⟨(some 43),ix 3 41 42,(some (39,true)),false,8,222,false⟩,⟨(some 44),l3 43,(some (39,true)),true,9,478,false⟩,⟨(some 45),l3 4,(some (39,true)),true,10,30,true⟩,⟨(some 46),.call (.t 40) [(.t 44),(.t 45)],(some (39,true)),true,11,2046,true⟩,⟨(some 47),bc .eql 46 0,(some (39,true)),false,12,4094,false⟩,rd 48 (.pick (.t 39) (.t 47) (.c (.bool false))) false 13 8190 false,rd 6 (mo 35) false 14 4095 true,rd 7 (mo 48) false 15 32767 true]) .ret))))),[.t 6,.t 7]⟩
theorem fn126:fnOf 126=some a126:=by kernel_rfl
def a183:AFunc:=⟨2,23,(.seq (.reg [rp 2 (.box 3 (.t 0)),rp 4 (.box 3 (.c zq3)),c0 5]) (.seq (.seq (.reg [rp 8 (l3 2),rp 9 (.call (.f 130) [(.t 8)]),ro 10 (no 9)]) (.cond (.t 10) (.seq (.reg [ro 11 (.build [(.int .i64 0),(.int .i64 0),(.slice 0 [] .nil)] []),ws 3 4 11,ro 5 (.move (ci 4))]) .ret) .skip)) (.seq (.reg [rp 13 (l3 2),mv 14 1,rp 15 (.call (.f 225) [(.t 13),(.t 14)]),mv 12 15,ro 16 (et 12 0),ro 17 (et 12 1),rp 6 (.box 3 (.c zq3)),ws 3 6 16,mv 7 17]) (.seq (.seq (.reg [mv 18 7,ro 19 (no 18)]) (.cond (.t 19) (.seq (.reg [ro 20 (.build [(.int .i64 0),(.int .i64 0),(.slice 0 [] .nil)] []),ws 3 4 20,ro 5 (.move (ci 41))]) .ret) .skip)) (.seq (.reg [rp 21 (l3 6),rp 22 (.call (.f 226) [(.t 21)]),ws 3 4 22,c0 5]) .ret))))),[.cell 4 true 3,.t 5]⟩
theorem fn183:fnOf 183=some a183:=by kernel_rfl
def a225b0:ACode:=(.seq (.reg [lo 11 10 9]) (.seq (.cond (.t 11) .skip (.exit 0)) (.seq (.block 1 (.seq (.reg [ro 12 (ix 1 8 10),rp 13 (l1 12),mv 7 13]) (.seq (.seq (.reg [mv 14 7,ro 15 (bc .lss 14 0),mv 16 15,rg 17 (mo 7) 16 false,rg 18 (fa 2 2) 16 false,rh 19 (l1 18) 16 false,rg 20 (ll 19) 16 false,rg 21 (bi .geq 17 20) 16 false,ro 22 (.pick (.t 16) (.c (.bool true)) (.t 21))]) (.cond (.t 22) (.seq (.reg [ro 23 (.build [(.int .i64 0),(.int .i64 0),(.slice 0 [] .nil)] []),ws 3 4 23,ro 5 (.move (.c (.bool false)))]) .ret) .skip)) (.reg [ro 24 (fa 2 2),rp 25 (l1 24),mv 26 7,ro 27 (ix 3 25 26),rp 28 (l3 27),ws 3 2 28])))) (.reg [nx 29 10,mv 10 29]))))
def a225:AFunc:=⟨2,31,(.seq (.reg [rp 2 (.box 3 (.t 0)),rp 4 (.box 3 (.c zq3)),ro 5 (.move (.c (.bool false)))]) (.seq (.seq (.reg [mv 8 1,ro 9 (ll 8),c0 10]) (.block 0 (.loop a225b0))) (.seq (.reg [rp 30 (l3 2),ws 3 4 30,ro 5 (.move (.c (.bool true)))]) .ret))),[.cell 4 true 3,.t 5]⟩
theorem fn225:fnOf 225=some a225:=by kernel_rfl
end Go.Proofs.Tryz
namespace Go.Proofs.Tryz
open Go Go.AE
variable {T:Tbl}(hT:Std T){s:GSig}
include hT in
theorem at_ev{t:Tm}{p:PV}(ht:Enc t p)(h:Hp):Ev T 225 [p,.slice 0 [] .nil] h (.val (.tuple [p,.bool true]),⟨h,[],[]⟩):=by
 refine Ev.walk (hT.sp _ (by decide)) ((hT.fn _).trans fn225) (hT.mode _) rfl ?_;obtain⟨c1,c2,c3,c4⟩:=ht.cells;have k1:(h++[AE.Obj.row 3 [p]])[h.length]?=some (.row 3 [p]):=by simp
 have low1:Low h.length h (h++[AE.Obj.row 3 [p]]):=(Low.refl _ _).push (Nat.le_refl _);have hl1:(h++[AE.Obj.row 3 [p]]).length=h.length+1:=by simp
 generalize hH1:h++[AE.Obj.row 3 [p]]=H1 at*;have z2:(H1++[AE.Obj.row 3 [zN]])[H1.length]?=some (.row 3 [zN]):=by simp
 have k2:(H1++[AE.Obj.row 3 [zN]])[h.length]?=some (.row 3 [p]):=keepL k1;have low2:Low h.length h (H1++[AE.Obj.row 3 [zN]]):=low1.push (by omega);have e2:H1++[AE.Obj.row 3 [zq3]]=H1++[AE.Obj.row 3 [zN]]:=rfl;generalize hH2:H1++[AE.Obj.row 3 [zN]]=H2 at*;generalize hkr:H1.length=kr at*;have lp:loadAt true 3 (.ptr h.length 0 0 1) H2=some p:=by rw[ld_at k2];exact ht.sub
 have sv:=fun ws ups=>st_slot (ws:=ws) (ups:=ups) (n:=1) (N:=0) z2 rfl rfl ⟨rfl,_,rfl⟩ ⟨c1,c2,c4⟩ ht.facts.1;simp only[List.set_cons_zero]at sv;have lo:loadAt true 3 (.ptr kr 0 0 1) (H2.set kr (.row 3 [p]))=some p:=by rw[ld_at (get_set z2)];exact ht.sub
 have td:=tidy_low (v:=.tuple [p,.bool true]) (ws:=wadd kr []) (by simp[PV.pure,pures,ht.facts.2.1]) (by simp[PV.weak,weaks,ht.facts.2.2]) (low2.trans (.set (show h.length≤kr by omega)):Low h.length h (H2.set kr (.row 3 [p]))) (wadd_low (by omega) (by simp));have h0:¬(0:Int)< ((0:Nat):Int):=by decide
 simp(disch:=first|omega|decide|simp only[go_sem]) only[go_sem,hH1,e2,hkr,c1,c3,List.length_cons,List.length_nil];refine unroll ?_;simp(disch:=first|omega|decide|simp only[go_sem]) only[go_sem,a225b0,h0,lp,sv,resv,lo,td]
include hT in
theorem atX_ev{t:Tm}{p:PV}(ht:Enc t p)(hu:treeB t=true)(h:Hp):∃q:PV,Ev T 183 [p,.slice 0 [] .nil] h (.val (.tuple [q,.int .i64 0]),⟨h,[],[]⟩)∧Enc t q:=by
 refine Ev.walkP (r:=fun q:PV=>(.val (.tuple [q,.int .i64 0]),⟨h,[],[]⟩)) (hT.sp _ (by decide)) ((hT.fn _).trans fn183) (hT.mode _) rfl ?_;obtain⟨c1,c2,c3,c4⟩:=ht.cells;have k1:(h++[AE.Obj.row 3 [p]])[h.length]?=some (.row 3 [p]):=by simp
 have low1:Low h.length h (h++[AE.Obj.row 3 [p]]):=(Low.refl _ _).push (Nat.le_refl _);have hl1:(h++[AE.Obj.row 3 [p]]).length=h.length+1:=by simp
 generalize hH1:h++[AE.Obj.row 3 [p]]=H1 at*;have z2:(H1++[AE.Obj.row 3 [zN]])[H1.length]?=some (.row 3 [zN]):=by simp
 have k2:(H1++[AE.Obj.row 3 [zN]])[h.length]?=some (.row 3 [p]):=keepL k1;have low2:Low h.length h (H1++[AE.Obj.row 3 [zN]]):=low1.push (by omega);have hl2:(H1++[AE.Obj.row 3 [zN]]).length=h.length+2:=by simp;omega
 have e2:H1++[AE.Obj.row 3 [zq3]]=H1++[AE.Obj.row 3 [zN]]:=rfl;generalize hH2:H1++[AE.Obj.row 3 [zN]]=H2 at*;generalize hkr:H1.length=kr at*;have lp:loadAt true 3 (.ptr h.length 0 0 1) H2=some p:=by rw[ld_at k2];exact ht.sub
 have evt:=treeG_ev hT ht H2;rw[hu]at evt;have eva:=at_ev hT ht H2;have sb:=st_box (h:=H2) (ws:=[]) (ups:=[]) (z:=zq3) (sz:=3) (c:=p) c1 rfl c2 ht.facts.1 ⟨_,rfl⟩ c4;have k3:(H2++[AE.Obj.row 3 [p]])[H2.length]?=some (.row 3 [p]):=by simp
 have z3:(H2++[AE.Obj.row 3 [p]])[kr]?=some (.row 3 [zN]):=keepL z2;have low3:Low h.length h (H2++[AE.Obj.row 3 [p]]):=low2.push (by omega);have hw3:∀x∈wadd H2.length [],h.length≤x:=wadd_low (by omega) (by simp);generalize hH3:H2++[AE.Obj.row 3 [p]]=H3 at*;generalize hk6:H2.length=k6 at*;have lp3:loadAt true 3 (.ptr k6 0 0 1) H3=some p:=by rw[ld_at k3];exact ht.sub
 obtain⟨q,evc,hq⟩:=copied_ev hT ht (treeB_nodes hu) (treeB_shaped hu) H3;obtain⟨x1,x2,x3,x4⟩:=hq.cells;have sv:=fun ws ups=>st_slot (ws:=ws) (ups:=ups) (n:=1) (N:=0) z3 rfl rfl ⟨rfl,_,rfl⟩ ⟨x1,x2,x4⟩ hq.facts.1;simp only[List.set_cons_zero]at sv;have lo:loadAt true 3 (.ptr kr 0 0 1) (H3.set kr (.row 3 [q]))=some q:=by rw[ld_at (get_set z3)];exact hq.sub
 have td:=tidy_low (v:=.tuple [q,.int .i64 0]) (ws:=wadd kr (wadd k6 [])) (by simp[PV.pure,pures,hq.facts.2.1]) (by simp[PV.weak,weaks,hq.facts.2.2]) (low3.trans (.set (show h.length≤kr by omega)):Low h.length h (H3.set kr (.row 3 [q]))) (wadd_low (by omega) hw3);simp(disch:=first|omega|decide|simp only[go_sem]) only[go_sem,hH1,e2,hkr,c1,c3,lp,cb evt,Bool.not_true,cb eva,hk6,sb,hH3,lp3,cb evc,sv,resv,lo,hT.prim,primOf,List.length_cons,List.length_nil,td];exact⟨q,rfl,hq⟩
theorem encL_pw:∀{us:List Tm}{qs:List PV},EncL us qs→pures qs=true∧weaks qs=qs
 |[],qs,h=>by
   have:qs=[]:=List.length_eq_zero_iff.1 h.1;subst this;exact⟨rfl,rfl⟩
 |u::us,[],h=>by have:=h.1;simp at this
 |u::us,q::qs,h=>by obtain⟨h1,h2⟩:=encL_pw (us:=us) (qs:=qs) ⟨by have:=h.1;simpa using this,fun i x p hx hp=>h.2 (i+1) x p hx hp⟩;obtain⟨_,h3,h4⟩:=(h.2 0 u q rfl rfl).facts;simp[pures,weaks,h1,h2,h3,h4]
include hT in
theorem freshL_ev{us:List Tm}{z:Nat}{es:List PV}{m:SM}(hz:es=[]∨z=3)(hE:EncL us es)(hu:∀u∈us,treeB u=true)(hl:us.length≤1000)(h:Hp):∃x:Nat×List PV,Ev T 119 [.slice z es m] h (.val (.slice x.1 x.2 .any),⟨h,[],[]⟩)∧((x.2=[]∨x.1=3)∧EncL us x.2):=by
 refine Ev.walkP (r:=fun x:Nat×List PV=>(.val (.slice x.1 x.2 .any),⟨h,[],[]⟩)) (hT.sp _ (by decide)) ((hT.fn _).trans fn119) (hT.mode _) rfl ?_;have hel:=hE.1;simp(disch:=first|omega|decide|simp only[go_sem]) only[go_sem]
 refine wpC.loopM (fun g e st=> ∃(i:Nat)(H:Hp)(ws:List Nat)(v:PV)(qs:List PV),i+g=es.length∧Low h.length h H∧(∀x∈ws,h.length≤x)∧AppL H v qs h.length∧EncL (us.take i) qs∧(eget e 3=v∧eget e 8=.slice z es m∧eget e 9=.int .i64 (es.length:Int)∧eget e 10=.int .i64 (i:Int))∧st=⟨H,ws,[]⟩) ?_ es.length _ _
  ⟨0,h,[],_,[],by omega,Low.refl _ _,by simp,.inl ⟨rfl,rfl⟩,⟨by simp,by simp⟩,by simp only[go_sem,Int.natCast_zero],rfl⟩
 rintro g e st ⟨i,H,ws,v,qs,hi,low,hw,hA,hQ,⟨e3,e8,e9,e10⟩,rfl⟩;have hHl:=low.len;have hql:=hQ.1;rw[List.length_take]at hql;by_cases h1:i<es.length
 · have h1':(i:Int)< (es.length:Int):=by omega
   have ga:=get_lt h1;have hx:us[i]?=some us[i]:=List.getElem?_eq_getElem (by omega);have hEx:=hE.2 i _ _ hx ga;have hut:=hu _ (List.getElem_mem (by omega:i<us.length))
   have hsz:z=3:=by
    rcases hz with rfl|h
    ·simp at h1
    ·exact h
   subst hsz;generalize us[i]=u at*;generalize es[i]=X at*;obtain⟨b1,b2,b3,b4⟩:=hEx.cells;have bs:=hEx.sub;have sb:=st_box (h:=H) (ws:=ws) (ups:=[]) (z:=zq3) (sz:=3) (c:=X) b1 rfl b2 hEx.facts.1 ⟨_,rfl⟩ b4;have k5:(H++[AE.Obj.row 3 [X]])[H.length]?=some (.row 3 [X]):=by simp
   have A5:=hA.push (o:=AE.Obj.row 3 [X]);have low5:Low h.length h (H++[AE.Obj.row 3 [X]]):=low.push hHl;have hw5:∀y∈wadd H.length ws,h.length≤y:=wadd_low hHl hw;have hl5:(H++[AE.Obj.row 3 [X]]).length=H.length+1:=by simp
   generalize hH5:H++[AE.Obj.row 3 [X]]=H5 at*;generalize hk5:H.length=kx at*;have lx:loadAt true 3 (.ptr kx 0 0 1) H5=some X:=by rw[ld_at k5];exact bs
   obtain⟨q,ev,hq⟩:=atX_ev hT hEx hut H5;obtain⟨x1,x2,x3,x4⟩:=hq.cells;have sb2:=fun ws=>st_box (h:=H5) (ws:=ws) (ups:=[]) (z:=zq3) (sz:=3) (c:=q) x1 rfl x2 hq.facts.1 ⟨_,rfl⟩ x4;have k6:(H5++[AE.Obj.row 3 [q]])[H5.length]?=some (.row 3 [q]):=by simp
   have A6:=A5.push (o:=AE.Obj.row 3 [q]);have low6:Low h.length h (H5++[AE.Obj.row 3 [q]]):=low5.push (by omega);have hw6:∀y∈wadd H5.length (wadd kx ws),h.length≤y:=wadd_low (by omega) hw5;have hl6:(H5++[AE.Obj.row 3 [q]]).length=kx+2:=by simp;omega
   generalize hH6:H5++[AE.Obj.row 3 [q]]=H6 at*;generalize hk6:H5.length=kq at*;have lq:loadAt true 3 (.ptr kq 0 0 1) H6=some q:=by rw[ld_at k6];exact hq.sub
   have f1:=fe_1 (p:=q) ⟨x1,x3⟩;obtain⟨H7,fw,kt,ap,A7,_,low7,hfw⟩:=append_E A6 x2 (by omega) (show h.length≤H6.length by omega);simp(disch:=first|omega|decide|simp only[go_sem]) only[go_sem,a119b0,e3,e8,e9,e10,h1,h1',ga,bs,hk5,sb,hH5,lx,cb ev,hk6,sb2,hH6,lq,f1,ap,hT.prim,primOf,List.length_cons,List.length_nil];exact⟨g - 1,by omega,i+1,H7,_,_,_,by omega,low6.trans low7,hfw _ hw6,A7,hQ.snocT hx hq,⟨rfl,rfl⟩,rfl⟩
 · have h1':¬(i:Int)< (es.length:Int):=by omega
   rw[List.take_of_length_le (by omega)]at hQ;obtain⟨z',m',rfl,hz'⟩:=hA.form;have hpw:=encL_pw hQ;have td:=tidy_ups (v:=.slice z' qs m') (ups:=[]) hpw.1 low hw (by simp);have hwk:(PV.slice z' qs m').weak=.slice z' qs .any:=by simp only[PV.weak,hpw.2]
   rw[hwk]at td;simp(disch:=first|omega|decide|simp only[go_sem]) only[go_sem,a119b0,e3,e8,e9,e10,h1',td];exact⟨(z',qs),rfl,hz',hQ⟩
include hT in
theorem askedV_ev{t:GTy}{r:Int}(I:TyIn T t r){nv:PV→PV×Int}(N:NVal T t nv){h:Hp}{dv:PV}{dom:List (List Tm)}{vs:List PV}{vss:List (List PV)}(D:DomV h dv dom vs vss)(hd:dom.length<100000):
 ∃r':Int,Ev T 114 [encTy t,dv] h (.val (.int .i64 r'),⟨h,[],[]⟩)∧((r≠0∧r'=r)∨(r=0∧DomR t.sig nv dom vss r')):=by
 refine Ev.walkP (r:=fun r:Int=>(.val (.int .i64 r),⟨h,[],[]⟩)) (hT.sp _ (by decide)) ((hT.fn _).trans fn114) (hT.mode _) rfl ?_;have k1:(h++[AE.Obj.row 3 [encTy t]])[h.length]?=some (.row 3 [encTy t]):=by simp
 have low1:Low h.length h (h++[AE.Obj.row 3 [encTy t]]):=(Low.refl _ _).push (Nat.le_refl _);generalize hH1:h++[AE.Obj.row 3 [encTy t]]=H1 at*;have l1:loadAt true 3 (.ptr h.length 0 0 1) H1=some (encTy t):=by rw[ld_at k1];rfl
 have td:∀r:Int,tidy 0 h.length (.val (.int .i64 r)) ⟨H1,[],[]⟩=(.val (.int .i64 r),⟨h,[],[]⟩):=fun r=>tidy_low rfl rfl low1 (by simp);by_cases hr:r=0
 · subst hr;have hb:((0:Int) !=0)=false:=rfl;obtain⟨r',ev,hR⟩:=domain_ev hT I N (D.low low1) hd;simp(disch:=first|omega|decide|simp only[go_sem]) only[go_sem,hH1,ty_len,ty_def,List.length_cons,List.length_nil,l1,cb (I.E103 H1),hb,cb ev,hT.prim,primOf,td];exact⟨r',rfl,.inr hR⟩
 · have hb:(r !=0)=true:=by simpa using hr
   simp(disch:=first|omega|decide|simp only[go_sem]) only[go_sem,hH1,ty_len,ty_def,List.length_cons,List.length_nil,l1,cb (I.E103 H1),hb,hT.prim,primOf,td];exact⟨r,rfl,.inl ⟨hr,rfl⟩⟩
include hT in
theorem op51_ev{n:Int}{z:Nat}{es:List PV}{m:SM}(hp:pures es=true∧weaks es=es)(h:Hp):Ev T 51 [.int .i64 n,.slice z es m] h (.val (.agg [.int .i64 2,.int .i64 n,.slice z es .any]),⟨h,[],[]⟩):=by
 refine Ev.walk (hT.sp _ (by decide)) ((hT.fn _).trans fn51) (hT.mode _) rfl ?_;have z2:(h++[AE.Obj.row 3 [zN]])[h.length]?=some (.row 3 [zN]):=by simp
 have low2:Low h.length h (h++[AE.Obj.row 3 [zN]]):=(Low.refl _ _).push (Nat.le_refl _);have e2:h++[AE.Obj.row 3 [zq3]]=h++[AE.Obj.row 3 [zN]]:=rfl;generalize hH2:h++[AE.Obj.row 3 [zN]]=H2 at*;have fb:fillC [PV.int .i64 0,.int .i64 0,.slice 0 [] .nil] [(0,1,.int .i64 2),(1,1,.int .i64 n),(2,1,.slice z es m)]=some [.int .i64 2,.int .i64 n,.slice z es m]:=rfl;obtain⟨u1,sv1,hu1⟩:=st_k3W (ups:=[]) (x:=2) (y:=n) (sz:=z) (es:=es) (m:=m) z2;have lo:loadAt true 3 (.ptr h.length 0 0 1) (H2.set h.length (.row 3 [.agg [.int .i64 2,.int .i64 n,.slice z es m]]))=some (.agg [.int .i64 2,.int .i64 n,.slice z es m]):=by rw[ld_at (get_set z2)];rfl
 have td:=tidy_ups (v:=.agg [.int .i64 2,.int .i64 n,.slice z es m]) (ups:=u1) (ws:=wadd h.length []) (by simp[PV.pure,pures,hp.1]) (low2.trans (.set (Nat.le_refl _)):Low h.length h (H2.set h.length (.row 3 [.agg [.int .i64 2,.int .i64 n,.slice z es m]]))) (wadd_low (Nat.le_refl _) (by simp)) (fun x hx=>by
  rcases hu1 x hx with h|h
  ·cases h
  ·omega)
 have hwk:(PV.agg [.int .i64 2,.int .i64 n,.slice z es m]).weak=.agg [.int .i64 2,.int .i64 n,.slice z es .any]:=by simp only[PV.weak,weaks,hp.2]
 rw[hwk]at td;simp(disch:=first|omega|decide|simp only[go_sem]) only[go_sem,e2,fb,sv1,resv,lo,List.length_cons,List.length_nil,td]
def AppS(H:Hp)(v:PV)(es:List PV)(lo:Nat):Prop:=(es=[]∧v=.slice 0 [] .nil)∨∃kt,v=.slice 1 es (.tok kt)∧H[kt]?=some (.tok 1 es.length)∧lo≤kt
theorem AppS.push{H:Hp}{v:PV}{es:List PV}{lo:Nat}{o:AE.Obj}(A:AppS H v es lo):AppS (H++[o]) v es lo:=by
 rcases A with h|⟨kt,h1,h2,h3⟩
 ·exact .inl h
 ·exact .inr ⟨kt,h1,keepL h2,h3⟩
theorem AppS.form{H:Hp}{v:PV}{es:List PV}{lo:Nat}(A:AppS H v es lo):∃z m,v=.slice z es m∧(es=[]∨z=1):=by
 rcases A with⟨rfl,rfl⟩|⟨kt,rfl,_,_⟩
 ·exact⟨_,_,rfl,.inl rfl⟩
 ·exact⟨_,_,rfl,.inr rfl⟩
theorem append_S{H:Hp}{v p:PV}{es:List PV}{lo:Nat}(A:AppS H v es lo)(hp:p.cells.all PV.isCell=true)(hl:es.length<100000)(hlo:lo≤H.length):
 ∃(H':Hp)(fw:List Nat→List Nat)(kt:Nat),(∀ws ups,appendop 1 24 v (.slice 1 [p] .lit) ⟨H,ws,ups⟩=some (.slice 1 (es++[p]) (.tok kt),⟨H',fw ws,ups⟩))∧AppS H' (.slice 1 (es++[p]) (.tok kt)) (es++[p]) lo∧(∀(j:Nat)(o:AE.Obj),o.isTok=false→H[j]?=some o→H'[j]?=some o)∧Low lo H H'∧∀ws,(∀x∈ws,lo≤x)→∀x∈fw ws,lo≤x:=by
 have hroom:(es.length+1) *24≤room∧es.length+1≤room:=by
  have:10000000≤room:=by decide
  constructor<;>omega
 rcases A with⟨rfl,rfl⟩|⟨kt,rfl,h2,h3⟩
 · simp at hroom;refine⟨H++[.tok 1 1],fun ws=>ws,H.length,fun ws ups=>?_,.inr ⟨H.length,rfl,by simp,hlo⟩,fun j o _ hj=>keepL hj,(Low.refl _ _).push hlo,fun ws hx=>hx⟩;simp[appendop,elems,hp,hroom,alloc]
 · refine⟨H.set kt (.tok 1 (es.length+1)),wadd kt,kt,fun ws ups=>?_,.inr ⟨kt,rfl,by rw[get_set h2];simp,h3⟩,fun j o ho hj=>get_set_ne hj ?_,.set h3,fun ws hx=>wadd_low h3 hx⟩
   ·simp[appendop,elems,hp,hroom,h2,wrote_none]
   · rintro rfl;rw[h2]at hj;cases hj;cases ho
theorem encLs_pw(l:List Tm):(encL l).pure=true∧(encL l).weak=encL l:=by obtain⟨h1,h2⟩:=encL_pw (encL_map l);exact⟨h1,by simp only[encL,PV.weak,h2]⟩
theorem map_pwL{α:Type}{f:α→PV}(h:∀x,(f x).pure=true∧(f x).weak=f x)(l:List α):pures (l.map f)=true∧weaks (l.map f)=l.map f:=by
 induction l with
 |nil=>exact⟨rfl,rfl⟩
 |cons x l ih=>simp[pures,weaks,h x,ih]
def atL(dom:List (List Tm))(k:Int):List Tm:=dom.getD k.toNat []
theorem atL_get{dom:List (List Tm)}{k:Nat}(h:k<dom.length):dom[k]?=some (atL dom (k:Int)):=by rw[List.getElem?_eq_getElem h,atL,Int.toNat_natCast,List.getD_eq_getElem?_getD,List.getElem?_eq_getElem h];rfl
include hT in
theorem overV_ev{dom:List (List Tm)}{ks:List Int}{m:SM}(hk:∀k∈ks,0≤k∧k< (dom.length:Int))(hkl:ks.length≤1000)(hdl:∀l∈dom,l.length≤1000000)(h:Hp):
 ∃x:Nat×Int,Ev T 116 [domV dom,.slice 1 (ks.map encI) m] h (.val (.tuple [.slice x.1 ((ks.map (atL dom)).map encL) .any,.int .i64 x.2]),⟨h,[],[]⟩)∧((ks=[]∨x.1=1)∧0≤x.2∧x.2≤1099511627776):=by
 refine Ev.walkP (r:=fun x:Nat×Int=>(.val (.tuple [.slice x.1 ((ks.map (atL dom)).map encL) .any,.int .i64 x.2]),⟨h,[],[]⟩)) (hT.sp _ (by decide)) ((hT.fn _).trans fn116) (hT.mode _) rfl ?_;have td:∀(H:Hp)(ws:List Nat)(v:PV)(n:Int),Low h.length h H→(∀x∈ws,h.length≤x)→AppS H v ((ks.map (atL dom)).map encL) h.length→∃z,tidy 0 h.length (.val (.tuple [v,.int .i64 n])) ⟨H,ws,[]⟩=(.val (.tuple [.slice z ((ks.map (atL dom)).map encL) .any,.int .i64 n]),⟨h,[],[]⟩)∧(ks=[]∨z=1):=fun H ws v n L hw A=>by obtain⟨z,m,rfl,hz⟩:=A.form;obtain⟨p1,p2⟩:=map_pwL encLs_pw (ks.map (atL dom));have:=tidy_ups (v:=.tuple [.slice z ((ks.map (atL dom)).map encL) m,.int .i64 n]) (ups:=[]) (by simp only[PV.pure,pures,p1,Bool.and_self]) L hw (by simp);refine⟨z,by rw[this];simp only[PV.weak,weaks,p2],hz.imp (fun h=>by simpa using h) id⟩
 simp(disch:=first|omega|decide|simp only[go_sem]) only[go_sem,List.length_map]
 refine wpC.loopM (fun g e st=> ∃(i:Nat)(H:Hp)(ws:List Nat)(v:PV)(n:Int),i+g=ks.length∧Low h.length h H∧(∀x∈ws,h.length≤x)∧AppS H v (((ks.take i).map (atL dom)).map encL) h.length∧0≤n∧n≤1099511627776∧(eget e 0=domV dom∧eget e 6=v∧eget e 7=.int .i64 n∧eget e 12=.slice 1 (ks.map encI) m∧eget e 13=.int .i64 (ks.length:Int)∧eget e 14=.int .i64 (i:Int))∧st=⟨H,ws,[]⟩) ?_ ks.length _ _
  ⟨0,h,[],_,1,by omega,Low.refl _ _,by simp,.inl ⟨rfl,rfl⟩,by omega,by omega,by simp only[go_sem,Int.natCast_zero],rfl⟩
 rintro g e st ⟨i,H,ws,v,n,hi,low,hw,hA,hn0,hn1,⟨e0,e6,e7,e12,e13,e14⟩,rfl⟩;have hHl:=low.len;by_cases h1:i<ks.length
 · have h1':(i:Int)< (ks.length:Int):=by omega
   have gk:=get_enc h1;have hkk:=hk _ (List.getElem_mem h1);have htk:ks.take (i+1)=ks.take i++[ks[i]]:=by rw[List.take_succ_eq_append_getElem h1]
   generalize ks[i]=k at*;obtain⟨K,rfl⟩:=Int.eq_ofNat_of_zero_le hkk.1;have hK:K<dom.length:=by omega
   have hd:=atL_get hK;have hdl':=hdl _ (List.mem_of_getElem? hd);have ix:idxaddr 1 (domV dom) (.int .i64 (K:Int))=some (.iptr (encL (atL dom (K:Int))) 0):=by rw[domV,idx_slice,if_pos rfl,List.getElem?_map,hd];rfl
   have lenl:lenOf (encL (atL dom (K:Int)))=some (atL dom (K:Int)).length:=by simp[encL,lenOf]
   have fe:fillE 1 (List.replicate 1 (.slice 0 [] .nil)) [(0,encL (atL dom (K:Int)))]=some [encL (atL dom (K:Int))]:=rfl;obtain⟨H',fw,kt,ap,A',_,low',hfw⟩:=append_S (p:=encL (atL dom (K:Int))) hA rfl (by simp;omega) hHl;have evt:=times_ev hT (a:=n) (b:=((atL dom (K:Int)).length:Int)) (h:=H') hn0 hn1 (by omega) (by omega);simp(disch:=first|omega|decide|simp only[go_sem]) only[go_sem,a116b0,e0,e6,e7,e12,e13,e14,h1,h1',gk,ix,encL_sub,fe,ap,lenl,cb evt,hT.prim,primOf,List.length_cons,List.length_nil];refine⟨g - 1,by omega,i+1,H',_,_,_,by omega,low.trans low',?_,?_,?_,?_,⟨rfl,rfl,rfl⟩,rfl⟩
   · first
      |exact hfw _ hw
      |(intro x hx;exact hfw _ hw x hx)
   · rw[htk];simpa using A'
   · have:0≤n* ((atL dom (K:Int)).length:Int):=Int.mul_nonneg hn0 (by omega);omega
   ·omega
 · have h1':¬(i:Int)< (ks.length:Int):=by omega
   rw[List.take_of_length_le (by omega)]at hA;obtain⟨z,m',rfl,hz⟩:=hA.form;simp(disch:=first|omega|decide|simp only[go_sem]) only[go_sem,a116b0,e0,e6,e7,e12,e13,e14,h1',List.length_map]
   refine wpC.loopM (fun g e st=> ∃i:Nat,i+g=ks.length∧(eget e 6=.slice z ((ks.map (atL dom)).map encL) m'∧eget e 7=.int .i64 n∧eget e 33=.slice z ((ks.map (atL dom)).map encL) m'∧eget e 34=.int .i64 (ks.length:Int)∧eget e 35=.int .i64 (i:Int))∧st=⟨H,ws,[]⟩) ?_ ks.length _ _
    ⟨0,by omega,by simp only[go_sem,e6,e7,Int.natCast_zero],rfl⟩
   clear e0 e6 e7 e12 e13 e14 h1 h1' hi;rintro g' e st ⟨i,hi,⟨e6,e7,e33,e34,e35⟩,rfl⟩;by_cases h1:i<ks.length
   · have h1':(i:Int)< (ks.length:Int):=by omega
     have hz1:z=1:=by
      rcases hz with h|h
      · have:=congrArg List.length h;simp at this;rw[this]at h1;simp at h1
      ·exact h
     subst hz1;have ga:((ks.map (atL dom)).map encL)[i]?=some (encL (atL dom ks[i])):=by rw[List.getElem?_map,List.getElem?_map,List.getElem?_eq_getElem h1];rfl
     generalize atL dom ks[i]=l at*;have lenl:lenOf (encL l)=some l.length:=by simp[encL,lenOf]
     by_cases hl0:l.length=0
     · have hb:((l.length:Int)==0)=true:=by simp[hl0]
       obtain⟨z',t1,t2⟩:=td H ws _ 0 low hw hA;simp(disch:=first|omega|decide|simp only[go_sem]) only[go_sem,a116b1,e6,e7,e33,e34,e35,h1,h1',ga,encL_sub,lenl,hb,List.length_map,t1];exact⟨(z',0),rfl,t2,by simp,by simp⟩
     · have hb:((l.length:Int)==0)=false:=by simpa using hl0
       simp(disch:=first|omega|decide|simp only[go_sem]) only[go_sem,a116b1,e6,e7,e33,e34,e35,h1,h1',ga,encL_sub,lenl,hb,List.length_map];exact⟨g' - 1,by omega,i+1,by omega,rfl,trivial⟩
   · have h1':¬(i:Int)< (ks.length:Int):=by omega
     obtain⟨z',t1,t2⟩:=td H ws _ n low hw hA;simp(disch:=first|omega|decide|simp only[go_sem]) only[go_sem,a116b1,e6,e7,e33,e34,e35,h1',t1];exact⟨(z',n),rfl,t2,hn0,hn1⟩
include hT in
theorem assign_ev{z:Nat}{vs:List PV}{m:SM}(hp:pures vs=true∧weaks vs=vs)(h:Hp):Ev T 117 [.slice z vs m] h (.val (.func (.func 182) [] [.iptr (.slice z vs .any) 0]),⟨h,[],[]⟩):=by
 refine Ev.walk (mode:=0) (hT.sp _ (by decide)) ((hT.fn _).trans fn117) (show T.mode 117=0 from hT.mode 117) rfl ?_;have k1:(h++[AE.Obj.row 1 [.slice z vs m]])[h.length]?=some (.row 1 [.slice z vs m]):=by simp
 have td:tidy 0 h.length (.val (.func (.func 182) [] [.ptr h.length 0 0 1])) ⟨h++[AE.Obj.row 1 [.slice z vs m]],[],[]⟩=(.val (.func (.func 182) [] [.iptr (.slice z vs .any) 0]),⟨h,[],[]⟩):=by
  have f1:∀n,frz (h++[AE.Obj.row 1 [.slice z vs m]]) h.length (n+1) (.slice z vs m)=some (.slice z vs .any):=fun n=>by rw[frz_pure (by exact hp.1)];simp only[PV.weak,hp.2]
  have f2:∀n,frz (h++[AE.Obj.row 1 [.slice z vs m]]) h.length (n+2) (.ptr h.length 0 0 1)=some (.iptr (.slice z vs .any) 0):=fun n=>by rw[frz];simp only[PV.pure,Bool.false_eq_true,if_false,k1,List.length_cons,List.length_nil,List.getElem?_cons_zero,f1,Option.map];rw[if_neg (by omega)];rfl
  have f3:frz (h++[AE.Obj.row 1 [.slice z vs m]]) h.length 64 (.func (.func 182) [] [.ptr h.length 0 0 1])=some (.func (.func 182) [] [.iptr (.slice z vs .any) 0]):=by rw[frz];simp only[PV.pure,pures,Bool.false_and,Bool.and_false,Bool.false_eq_true,if_false,List.map_cons,List.map_nil,f2,optAll,Option.map]
  unfold tidy;simp[OR.v,f3,OR.put,AE.below]
 simp(disch:=first|omega|decide|simp only[go_sem]) only[go_sem,td]
def SortedT(l:List Tm):Prop:=∀(i j:Nat)(x y:Tm),i<j→l[i]?=some x→l[j]?=some y→tmC x y<0
theorem mid_shr{a:Nat}(h:a<1000000):binop .shr (.int .u64 (a:Int)) (.int .u64 1)=some (.int .u64 ((a/2:Nat):Int)):=by
 have h1:((a:Int).fdiv 2)=((a/2:Nat):Int):=by rw[Int.fdiv_eq_ediv_of_nonneg _ (by omega)];rfl
 simp only[binop];rw[if_pos (by decide)];have:(2:Int) ^min (1:Int).toNat IntKind.u64.bits=2:=by decide
 rw[this,h1]
theorem conv_u{a:Nat}(h:a<1000000):convv .u64 (.int .i64 (a:Int))=some (.int .u64 (a:Int)):=by
 simp only[convv,IntKind.wrap_u64]
 congr 2
 omega
theorem conv_i{a:Nat}(h:a<1000000):convv .i64 (.int .u64 (a:Int))=some (.int .i64 (a:Int)):=by have:=wrap64 (x:=(a:Int)) (by omega) (by omega);simp only[convv,this]
include hT in
theorem search_ev{l:List Tm}{z:Nat}{es:List PV}{m:SM}(hz:es=[]∨z=3)(hE:EncL l es)(hl:l.length≤1000)(hn:∀x∈l,x.nodes≤100000)(hs:SortedT l){y:Tm}{Y:PV}(hY:Enc y Y)(h:Hp):
 ∃x:Int×Bool,Ev T 126 [.slice z es m,Y,.func (.func 62) [] []] h (.val (.tuple [.int .i64 x.1,.bool x.2]),⟨h,[],[]⟩)∧(x.2=true↔y∈l):=by
 refine Ev.walkP (r:=fun x:Int×Bool=>(.val (.tuple [.int .i64 x.1,.bool x.2]),⟨h,[],[]⟩)) (hT.sp _ (by decide)) ((hT.fn _).trans fn126) (hT.mode _) rfl ?_;obtain⟨c1,c2,c3,c4⟩:=hY.cells;have hel:=hE.1;have k1:(h++[AE.Obj.row 3 [Y]])[h.length]?=some (.row 3 [Y]):=by simp
 have low1:Low h.length h (h++[AE.Obj.row 3 [Y]]):=(Low.refl _ _).push (Nat.le_refl _);generalize hH1:h++[AE.Obj.row 3 [Y]]=H1 at*;have lY:loadAt true 3 (.ptr h.length 0 0 1) H1=some Y:=by rw[ld_at k1];exact hY.sub
 have td:∀(a:Int)(b:Bool),tidy 0 h.length (.val (.tuple [.int .i64 a,.bool b])) ⟨H1,[],[]⟩=(.val (.tuple [.int .i64 a,.bool b]),⟨h,[],[]⟩):=fun a b=>tidy_low rfl rfl low1 (by simp);simp(disch:=first|omega|decide|simp only[go_sem]) only[go_sem,hH1,c1,c3,List.length_cons,List.length_nil]
 refine wpC.loopM (fun g e st=> ∃(lo hi:Nat),lo+g=hi∧hi≤l.length∧(∀j x,j<lo→l[j]?=some x→tmC x y<0)∧(∀j x,hi≤j→l[j]?=some x→¬tmC x y<0)∧(eget e 0=.slice z es m∧eget e 2=.func (.func 62) [] []∧eget e 4=.ptr h.length 0 0 1∧eget e 8=.int .i64 (l.length:Int)∧eget e 9=.int .i64 (lo:Int)∧eget e 10=.int .i64 (hi:Int))∧st=⟨H1,[],[]⟩) ?_ l.length _ _
  ⟨0,l.length,by omega,Nat.le_refl _,fun j x hj=>by omega,fun j x hj hx=>by have:=(List.getElem?_eq_some_iff.1 hx).1;omega,by simp only[go_sem,hel,Int.natCast_zero],rfl⟩
 rintro g e st ⟨lo,hi,hg,hhi,hlo,hhg,⟨e0,e2,e4,e8,e9,e10⟩,rfl⟩;by_cases h1:lo<hi
 · have h1':(lo:Int)< (hi:Int):=by omega
   have hmid:(lo+hi)/2<hi∧lo≤(lo+hi)/2:=by omega
   have cu:=conv_u (a:=lo+hi) (by omega);have cs:=mid_shr (a:=lo+hi) (by omega);have cc:=conv_i (a:=(lo+hi)/2) (by omega);have hsum:(lo:Int)+(hi:Int)=((lo+hi:Nat):Int):=by omega
   generalize hmd:(lo+hi)/2=mid at*;have hml:mid<es.length:=by omega
   have ga:=get_lt hml;have gx:l[mid]?=some l[mid]:=List.getElem?_eq_getElem (by omega);have hX:=hE.2 mid _ _ gx ga;have hnx:=hn _ (List.getElem_mem (by omega:mid<l.length))
   have hz3:z=3:=by
    rcases hz with rfl|h
    ·simp at hml
    ·exact h
   subst hz3;have hxx:∀x,l[mid]?=some x→x=l[mid]:=fun x hx=>by rw[gx]at hx;cases hx;rfl
   generalize l[mid]=x at*;generalize es[mid]=X at*;have bs:=hX.sub;have ev:=compare_ev hT hX hnx y Y hY H1;by_cases hc:tmC x y<0
   · simp(disch:=first|omega|decide|simp only[go_sem]) only[go_sem,a126b0,e0,e2,e4,e8,e9,e10,h1,h1',hsum,cu,cs,cc,hml,ga,bs,lY,cb ev,hc,hT.prim,primOf];refine⟨hi - (mid+1),by omega,mid+1,hi,by omega,hhi,fun j x' hj hx'=>?_,hhg,⟨rfl,rfl⟩,trivial⟩;by_cases hjm:j=mid
     · subst hjm;rw[hxx x' hx'];exact hc
     · by_cases hjl:j<lo
       ·exact hlo j x' hjl hx'
       ·exact tmC_trans _ _ _ (hs j mid x' x (by omega) hx' gx) hc
   · simp(disch:=first|omega|decide|simp only[go_sem]) only[go_sem,a126b0,e0,e2,e4,e8,e9,e10,h1,h1',hsum,cu,cs,cc,hml,ga,bs,lY,cb ev,hc,hT.prim,primOf];refine⟨mid - lo,by omega,lo,mid,by omega,by omega,hlo,fun j x' hj hx' hcx=>?_,⟨rfl,rfl⟩,trivial⟩;by_cases hjm:j=mid
     · subst hjm;rw[hxx x' hx']at hcx;exact hc hcx
     ·exact hc (tmC_trans _ _ _ (hs mid j x x' (by omega) gx hx') hcx)
 · have h1':¬(lo:Int)< (hi:Int):=by omega
   have hlh:lo=hi:=by omega
   subst hlh;by_cases hll:lo<l.length
   · have hll':(lo:Int)< (l.length:Int):=by omega
     have hml:lo<es.length:=by omega
     have ga:=get_lt hml;have gx:l[lo]?=some l[lo]:=List.getElem?_eq_getElem hll;have hX:=hE.2 lo _ _ gx ga;have hnx:=hn _ (List.getElem_mem hll);have hmx:=List.getElem_mem hll
     have hz3:z=3:=by
      rcases hz with rfl|h
      ·simp at hml
      ·exact h
     subst hz3;generalize hx0:l[lo]=x at*;generalize es[lo]=X at*;have bs:=hX.sub;have ev:=compare_ev hT hX hnx y Y hY H1;simp(disch:=first|omega|decide|simp only[go_sem]) only[go_sem,a126b0,e0,e2,e4,e8,e9,e10,h1',hll',hll,hml,ga,bs,lY,cb ev,hT.prim,primOf,td];refine⟨((lo:Int),tmC x y==0),rfl,⟨fun hb=>?_,fun hm=>?_⟩⟩
     · have:=tmC_eq x y (by simpa using hb);rw[←this];exact hmx
     · obtain⟨j,hj,hjy⟩:=List.getElem_of_mem hm;have gj:l[j]?=some y:=by rw[List.getElem?_eq_getElem hj,hjy]
       have hjl:¬j<lo:=fun h=>by have:=hlo j y h gj;rw[tmC_refl]at this;omega
       by_cases hjeq:j=lo
       · subst hjeq;rw[gx]at gj;cases gj;simp[tmC_refl]
       ·exact absurd (hs lo j x y (by omega) gx gj) (hhg lo x (Nat.le_refl _) gx)
   · have hll':¬(lo:Int)< (l.length:Int):=by omega
     simp(disch:=first|omega|decide|simp only[go_sem]) only[go_sem,a126b0,e0,e2,e4,e8,e9,e10,h1',hll',td];refine⟨((lo:Int),false),rfl,⟨fun h=>by simp at h,fun hm=>?_⟩⟩;obtain⟨j,hj,hjy⟩:=List.getElem_of_mem hm;have gj:l[j]?=some y:=by rw[List.getElem?_eq_getElem hj,hjy]
     have:=hlo j y (by omega) gj;rw[tmC_refl]at this;omega
def argsV(o:GOp):PV:=.slice 1 (o.args.map encI) .any
include hT in
theorem args41_ev{s:GSig}(hs:s.ops.length≤1000)(h:Hp):∃z:Nat,Ev T 41 [encSig s] h (.val (.slice z (s.ops.map argsV) .any),⟨h,[],[]⟩)∧(s.ops=[]∨z=1):=by
 refine Ev.walkP (r:=fun z:Nat=>(.val (.slice z (s.ops.map argsV) .any),⟨h,[],[]⟩)) (hT.sp _ (by decide)) ((hT.fn _).trans fn41) (hT.mode _) rfl ?_;have k1:(h++[AE.Obj.row 2 [encSig s]])[h.length]?=some (.row 2 [encSig s]):=by simp
 have low1:Low h.length h (h++[AE.Obj.row 2 [encSig s]]):=(Low.refl _ _).push (Nat.le_refl _);generalize hH1:h++[AE.Obj.row 2 [encSig s]]=H1 at*;have lg:loadAt false 1 (.ptr h.length 0 1 1) H1=some (.slice 3 (s.ops.map encOp) .any):=by rw[ld_at k1];rfl
 simp(disch:=first|omega|decide|simp only[go_sem]) only[go_sem,hH1,lg,List.length_map]
 refine wpC.loopM (fun g e st=> ∃(i:Nat)(H:Hp)(ws:List Nat)(v:PV),i+g=s.ops.length∧Low h.length h H∧(∀x∈ws,h.length≤x)∧AppS H v ((s.ops.take i).map argsV) h.length∧(eget e 3=v∧eget e 7=.slice 3 (s.ops.map encOp) .any∧eget e 8=.int .i64 (s.ops.length:Int)∧eget e 9=.int .i64 (i:Int))∧st=⟨H,ws,[]⟩) ?_ s.ops.length _ _
  ⟨0,H1,[],_,by omega,low1,by simp,.inl ⟨rfl,rfl⟩,by simp only[go_sem,Int.natCast_zero],rfl⟩
 rintro g e st ⟨i,H,ws,v,hi,low,hw,hA,⟨e3,e7,e8,e9⟩,rfl⟩;have hHl:=low.len;by_cases h1:i<s.ops.length
 · have h1':(i:Int)< (s.ops.length:Int):=by omega
   have go:=get_op h1;have htk:s.ops.take (i+1)=s.ops.take i++[s.ops[i]]:=by rw[List.take_succ_eq_append_getElem h1]
   generalize s.ops[i]=o at*;have so:AE.sub true 3 (encOp o) 0=some (encOp o):=rfl
   have sb:=st_box (h:=H) (ws:=ws) (ups:=[]) (z:=.agg [(.str ⟨#[]⟩),(.slice 0 [] .nil),(.int .i64 0)]) (sz:=3) (c:=encOp o) rfl rfl rfl (by
    have h1:tops (o.args.map encI)=none:=tops_none fun x hx=>by obtain⟨n,_,rfl⟩:=List.mem_map.1 hx;rfl
    show omax none (omax (omax none (tops (o.args.map encI))) (omax none none))=none;rw[h1];rfl) ⟨_,rfl⟩ ⟨_,rfl⟩
   have k5:(H++[AE.Obj.row 3 [encOp o]])[H.length]?=some (.row 3 [encOp o]):=by simp
   have A5:=hA.push (o:=AE.Obj.row 3 [encOp o]);have low5:Low h.length h (H++[AE.Obj.row 3 [encOp o]]):=low.push hHl;have hw5:∀y∈wadd H.length ws,h.length≤y:=wadd_low hHl hw;have hl5:(H++[AE.Obj.row 3 [encOp o]]).length=H.length+1:=by simp
   generalize hH5:H++[AE.Obj.row 3 [encOp o]]=H5 at*;generalize hk5:H.length=ko at*;have lA:loadAt false 1 (.ptr ko 0 1 1) H5=some (argsV o):=by rw[ld_at k5];rfl
   have fe:fillE 1 (List.replicate 1 (.slice 0 [] .nil)) [(0,argsV o)]=some [argsV o]:=rfl;obtain⟨H',fw,kt,ap,A',_,low',hfw⟩:=append_S (p:=argsV o) A5 rfl (by simp;omega) (show h.length≤H5.length by omega);simp(disch:=first|omega|decide|simp only[go_sem]) only[go_sem,a41b0,e3,e7,e8,e9,h1,h1',go,so,hk5,sb,hH5,lA,fe,ap,List.length_cons,List.length_nil];refine⟨g - 1,by omega,i+1,H',_,_,by omega,low5.trans low',hfw _ hw5,?_,⟨rfl,rfl⟩,rfl⟩;rw[htk];simpa using A'
 · have h1':¬(i:Int)< (s.ops.length:Int):=by omega
   rw[List.take_of_length_le (by omega)]at hA;obtain⟨z,m,rfl,hz⟩:=hA.form;obtain⟨p1,p2⟩:=map_pwL (f:=argsV) (fun o=>by obtain⟨a,b⟩:=encI_weak o.args;exact⟨a,by simp only[argsV,PV.weak,b]⟩) s.ops;have td:=tidy_ups (v:=.slice z (s.ops.map argsV) m) (ups:=[]) p1 low hw (by simp);have hwk:(PV.slice z (s.ops.map argsV) m).weak=.slice z (s.ops.map argsV) .any:=by simp only[PV.weak,p2]
   rw[hwk]at td;simp(disch:=first|omega|decide|simp only[go_sem]) only[go_sem,a41b0,e3,e7,e8,e9,h1',td];exact⟨z,rfl,hz.imp (fun h=>by simpa using h) id⟩
include hT in
theorem light_ev{dom:List (List Tm)}(hd:∀l∈dom,l.length≤1000){z:Nat}{lists:List (List Int)}{m:SM}(hz:lists=[]∨z=1)(hl:lists.length≤1000)(h:Hp):
 ∃b:Bool,Ev T 38 [domV dom,.slice z (lists.map fun l=>PV.slice 1 (l.map encI) .any) m] h (.val (.bool b),⟨h,[],[]⟩)∧True:=by
 refine Ev.walkP (r:=fun b:Bool=>(.val (.bool b),⟨h,[],[]⟩)) (hT.sp _ (by decide)) ((hT.fn _).trans fn38) (hT.mode _) rfl ?_;have lend:lenOf (domV dom)=some dom.length:=by simp[domV,lenOf]
 simp(disch:=first|omega|decide|simp only[go_sem]) only[go_sem,List.length_map]
 refine wpC.loopM (fun g e st=> ∃(i:Nat)(n:Int),i+g=lists.length∧0≤n∧n≤500* (i:Int)∧(eget e 0=domV dom∧eget e 5=.int .i64 n∧eget e 11=.slice z (lists.map fun l=>PV.slice 1 (l.map encI) .any) m∧eget e 12=.int .i64 (lists.length:Int)∧eget e 13=.int .i64 (i:Int))∧st=⟨h,[],[]⟩) ?_ lists.length _ _
  ⟨0,0,by omega,by omega,by omega,by simp only[go_sem,Int.natCast_zero],rfl⟩
 rintro g e st ⟨i,n,hi,hn0,hn1,⟨e0,e5,e11,e12,e13⟩,rfl⟩;by_cases h1:i<lists.length
 · have h1':(i:Int)< (lists.length:Int):=by omega
   have hz1:z=1:=by
    rcases hz with rfl|h
    ·simp at h1
    ·exact h
   subst hz1;have ga:(lists.map fun l=>PV.slice 1 (l.map encI) .any)[i]?=some (.slice 1 (lists[i].map encI) .any):=by rw[List.getElem?_map,List.getElem?_eq_getElem h1];rfl
   generalize lists[i]=l at*;by_cases h100:100<l.length
   · have hb:(100:Int)< (l.length:Int):=by omega
     simp(disch:=first|omega|decide|simp only[go_sem]) only[go_sem,a38b1,e0,e5,e11,e12,e13,h1,h1',ga,hb,List.length_map];exact⟨false,rfl,trivial⟩
   have hb:¬(100:Int)< (l.length:Int):=by omega
   simp(disch:=first|omega|decide|simp only[go_sem]) only[go_sem,a38b1,e0,e5,e11,e12,e13,h1,h1',ga,hb,List.length_map]
   refine wpC.loopM (fun g e st=> ∃(k:Nat)(c:Int),k+g=l.length∧0≤c∧c≤500∧(eget e 0=domV dom∧eget e 5=.int .i64 n∧eget e 8=.int .i64 c∧eget e 11=.slice 1 (lists.map fun l=>PV.slice 1 (l.map encI) .any) m∧eget e 12=.int .i64 (lists.length:Int)∧eget e 13=.int .i64 (i:Int)∧eget e 20=.slice 1 (l.map encI) .any∧eget e 21=.int .i64 (l.length:Int)∧eget e 22=.int .i64 (k:Int))∧st=⟨h,[],[]⟩) ?_ l.length _ _
    ⟨0,1,by omega,by omega,by omega,by simp only[go_sem,e0,e5,e11,e12,e13,Int.natCast_zero],rfl⟩
   clear e0 e5 e11 e12 e13;rintro g' e st ⟨k,c,hk,hc0,hc1,⟨e0,e5,e8,e11,e12,e13,e20,e21,e22⟩,rfl⟩;by_cases h2:k<l.length
   · have h2':(k:Int)< (l.length:Int):=by omega
     have gk:=get_enc h2;generalize l[k]=v at*;by_cases hv:v<0
     · simp(disch:=first|omega|decide|simp only[go_sem]) only[go_sem,a38b0,e0,e5,e8,e11,e12,e13,e20,e21,e22,h2,h2',gk,hv,List.length_map];exact⟨g' - 1,by omega,k+1,c,by omega,hc0,hc1,⟨rfl,rfl⟩,trivial⟩
     obtain⟨V,rfl⟩:=Int.eq_ofNat_of_zero_le (show 0≤v by omega);by_cases hV:dom.length≤V
     · simp(disch:=first|omega|decide|simp only[go_sem]) only[go_sem,a38b0,e0,e5,e8,e11,e12,e13,e20,e21,e22,h2,h2',gk,hv,hV,lend,List.length_map];exact⟨g' - 1,by omega,k+1,c,by omega,hc0,hc1,⟨rfl,rfl⟩,trivial⟩
     have hV':V<dom.length:=by omega
     have hdl:=hd _ (List.getElem_mem hV');have ix:idxaddr 1 (domV dom) (.int .i64 (V:Int))=some (.iptr (encL dom[V]) 0):=by rw[domV,idx_slice,if_pos rfl,List.getElem?_map,List.getElem?_eq_getElem hV'];rfl
     generalize dom[V]=q at*;have lenq:lenOf (encL q)=some q.length:=by simp[encL,lenOf]
     have hcq:0≤c* (q.length:Int)∧c* (q.length:Int)≤500*1000:=by refine⟨Int.mul_nonneg hc0 (by omega),?_⟩;have h1:c* (q.length:Int)≤500* (q.length:Int):=Int.mul_le_mul_of_nonneg_right hc1 (by omega);omega
     by_cases hgt:500<c* (q.length:Int)
     · simp(disch:=first|omega|decide|simp only[go_sem]) only[go_sem,a38b0,e0,e5,e8,e11,e12,e13,e20,e21,e22,h2,h2',gk,hv,hV,lend,ix,encL_sub,lenq,hgt,List.length_map];exact⟨false,rfl,trivial⟩
     · simp(disch:=first|omega|decide|simp only[go_sem]) only[go_sem,a38b0,e0,e5,e8,e11,e12,e13,e20,e21,e22,h2,h2',gk,hv,hV,lend,ix,encL_sub,lenq,hgt,List.length_map];exact⟨g' - 1,by omega,k+1,_,by omega,hcq.1,by omega,⟨rfl,rfl⟩,trivial⟩
   · have h2':¬(k:Int)< (l.length:Int):=by omega
     simp(disch:=first|omega|decide|simp only[go_sem]) only[go_sem,a38b0,e0,e5,e8,e11,e12,e13,e20,e21,e22,h2'];exact⟨g - 1,by omega,i+1,n+c,by omega,by omega,by omega,⟨rfl,rfl⟩,trivial⟩
 · have h1':¬(i:Int)< (lists.length:Int):=by omega
   simp(disch:=first|omega|decide|simp only[go_sem]) only[go_sem,a38b1,e0,e5,e11,e12,e13,h1'];exact⟨_,rfl,trivial⟩
end Go.Proofs.Tryz
namespace Go.Proofs.Tryz
open Go Go.AE
def noRange:ACode→Bool
 |.seq a b=>noRange a&&noRange b
 |.cond _ a b=>noRange a&&noRange b
 |.block _ a=>noRange a
 |.loop a=>noRange a
 |.range .. =>false
 |_=>true
theorem yOp_ev{T:Tbl}{call:Caller}{b:Nat→Bool}{o:AOp}{e:List PV}{s s':St}{v:PV}(g:Log)(h:evOp T call o e s=some (.val v,s')):yOp T call b o e s g=some (v,s',g):=by
 unfold yOp;split
 · rename_i f args;split
   · rename_i l hf;simp only[evOp,hf]at h;cases h
   ·rw[h]
 · rename_i x;split
   · rename_i l hf;simp only[evOp,hf]at h;cases h
   ·rw[h]
 ·rw[h]
theorem yOps_ev{T:Tbl}{call:Caller}{b:Nat→Bool}:∀{os:List AOper}{e:List PV}{s:St}{e':List PV}{s':St}(g:Log),evOps T call os e s=some (none,e',s')→yOps T call b os e s g=some (e',s',g)
 |[],e,s,e',s',g,h=>by simp only[evOps]at h;cases h;rfl
 |o::os,e,s,e',s',g,h=>by
   simp only[evOps]at h;simp only[yOps];split at h
   ·cases h
   · rename_i hw;simp only[hw];exact yOps_ev g h
   · rename_i hw;simp only[hw];split at h
     · rename_i h1;rw[yOp_ev g h1];exact yOps_ev g h
     ·cases h
     ·cases h
theorem yLoop_ev{f:List PV→St→Option (AExit×List PV×St)}{F:List PV→St→Log→Option (AExit×List PV×St×Log)}(hf:∀{e s x e' s'}(g:Log),f e s=some (x,e',s')→(∀v,x≠.pan v)→F e s g=some (x,e',s',g)):
 ∀{m:Nat}{e:List PV}{s:St}{x:AExit}{e':List PV}{s':St}(g:Log),evLoop f m e s=some (x,e',s')→(∀v,x≠.pan v)→yLoop F m e s g=some (x,e',s',g)
 |0,_,_,_,_,_,_,h,_=>by simp[evLoop]at h
 |m+1,e,s,x,e',s',g,h,hx=>by
   simp only[evLoop]at h;simp only[yLoop];split at h
   · rename_i h1;rw[hf g h1 (by simp)];exact yLoop_ev hf g h hx
   · rename_i hne;rw[hf g h hx];split
     · rename_i h1;cases h1;exact absurd h (hne _ _)
     ·rfl
theorem yCode_ev{T:Tbl}{call:Caller}{b:Nat→Bool}{n:Nat}:∀{c:ACode}{e:List PV}{s:St}{x:AExit}{e':List PV}{s':St}(g:Log),noRange c=true→evCode T call n c e s=some (x,e',s')→(∀v,x≠.pan v)→yCode T call b n c e s g=some (x,e',s',g)
 |.skip,e,s,x,e',s',g,_,h,_=>by simp only[evCode]at h;cases h;rfl
 |.reg os,e,s,x,e',s',g,_,h,hx=>by
   simp only[evCode]at h;simp only[yCode];split at h
   · rename_i h1;cases h;rw[yOps_ev g h1]
   · cases h;exact absurd rfl (hx _)
   ·cases h
 |.regD os,e,s,x,e',s',g,_,h,hx=>by
   simp only[evCode]at h;simp only[yCode];split at h
   · rename_i h1;cases h;rw[h1]
   · cases h;exact absurd rfl (hx _)
   · split at h
     · cases h;exact absurd rfl (hx _)
     ·cases h
   ·cases h
 |.seq a c,e,s,x,e',s',g,hr,h,hx=>by
   simp only[noRange,Bool.and_eq_true]at hr;simp only[evCode]at h;simp only[yCode];split at h
   · rename_i h1;rw[yCode_ev g hr.1 h1 (by simp)];exact yCode_ev g hr.2 h hx
   · rename_i hne;rw[yCode_ev g hr.1 h hx];split
     · rename_i h1;cases h1;exact absurd h (hne _ _)
     ·rfl
 |.cond c a d,e,s,x,e',s',g,hr,h,hx=>by
   simp only[noRange,Bool.and_eq_true]at hr;simp only[evCode]at h;simp only[yCode];split at h
   · rename_i hc;simp only[hc];exact yCode_ev g hr.1 h hx
   · rename_i hc;simp only[hc];exact yCode_ev g hr.2 h hx
   ·cases h
 |.block id c,e,s,x,e',s',g,hr,h,hx=>by
   simp only[noRange]at hr;simp only[evCode]at h;simp only[yCode];split at h
   · rename_i i e1 s1 h1;rw[yCode_ev g hr h1 (by simp)];simp only;split at h
     · rename_i hi;cases h;rw[if_pos hi]
     · rename_i hi;cases h;rw[if_neg hi]
   · rename_i hne;rw[yCode_ev g hr h hx];cases x with
     |exit i=>exact absurd h (hne i e' s')
     |normal=>rfl
     |ret=>rfl
     |pan v=>rfl
 |.loop c,e,s,x,e',s',g,hr,h,hx=>by
   simp only[noRange]at hr;simp only[evCode]at h;simp only[yCode];exact yLoop_ev (f:=evCode T call n c) (F:=yCode T call b n c) (fun g h hx=>yCode_ev g hr h hx) g h hx
 |.range ..,_,_,_,_,_,_,hr,_,_=>by simp[noRange]at hr
 |.exit id,e,s,x,e',s',g,_,h,_=>by simp only[evCode]at h;cases h;rfl
 |.ret,e,s,x,e',s',g,_,h,_=>by simp only[evCode]at h;cases h;rfl
 |.bad,e,s,x,e',s',g,_,h,_=>by simp only[evCode]at h;cases h
def YC(b:Nat→Bool)(c:ACode)(e:List PV)(s:St)(g:Log)(x:AExit×List PV×St×Log):Prop:=∃N,∀n,N≤n→yCode noTbl (evCall noTbl n) b n c e s g=some x
section
variable {b:Nat→Bool}{e e1:List PV}{s s1:St}{g g1:Log}
theorem YC.of{c:ACode}{x:AExit}(hr:noRange c=true)(h:EvC noTbl c e s (x,e1,s1))(hx:∀v,x≠.pan v):YC b c e s g (x,e1,s1,g):=by obtain⟨N,h⟩:=h;exact⟨N,fun n hn=>yCode_ev g hr (h n hn) hx⟩
theorem YC.seq{a c:ACode}{x:AExit×List PV×St×Log}(h1:YC b a e s g (.normal,e1,s1,g1))(h2:YC b c e1 s1 g1 x):YC b (.seq a c) e s g x:=by obtain⟨N1,h1⟩:=h1;obtain⟨N2,h2⟩:=h2;refine⟨max N1 N2,fun n hn=>?_⟩;simp only[yCode,h1 n (by omega),h2 n (by omega)]
theorem YC.seqOut{a c:ACode}{x:AExit}(h1:YC b a e s g (x,e1,s1,g1))(hx:x≠.normal):YC b (.seq a c) e s g (x,e1,s1,g1):=by
 obtain⟨N1,h1⟩:=h1;refine⟨N1,fun n hn=>?_⟩;simp only[yCode,h1 n hn];cases x with
 |normal=>exact absurd rfl hx
 |exit i=>rfl
 |ret=>rfl
 |pan v=>rfl
theorem YC.block{id:Nat}{c:ACode}{x:AExit}(h:YC b c e s g (x,e1,s1,g1))(hx:∀i,x≠.exit i):YC b (.block id c) e s g (x,e1,s1,g1):=by
 obtain⟨N,h⟩:=h;refine⟨N,fun n hn=>?_⟩;simp only[yCode,h n hn];cases x with
 |exit i=>exact absurd rfl (hx i)
 |normal=>rfl
 |ret=>rfl
 |pan v=>rfl
inductive YRounds (b:Nat→Bool)(c:ACode):List PV→St→Log→AExit×List PV×St×Log→Prop
 |out {e s g x e1 s1 g1}(h:YC b c e s g (x,e1,s1,g1))(hx:x≠.normal):YRounds b c e s g (x,e1,s1,g1)
 |round {e s g e1 s1 g1 x}(h:YC b c e s g (.normal,e1,s1,g1))(hr:YRounds b c e1 s1 g1 x):YRounds b c e s g x
theorem YRounds.ev{c:ACode}{x:AExit×List PV×St×Log}(h:YRounds b c e s g x):∃N,∀n,N≤n→∀m,N≤m→yLoop (yCode noTbl (evCall noTbl n) b n c) m e s g=some x:=by
 induction h with
 |out h hx=>
   rename_i x _ _ _;obtain⟨N,h⟩:=h;refine⟨N+1,fun n hn m hm=>?_⟩;obtain⟨m,rfl⟩:∃k,m=k+1:=⟨m - 1,by omega⟩;simp only[yLoop,h n (by omega)];cases x with
   |normal=>exact absurd rfl hx
   |exit i=>rfl
   |ret=>rfl
   |pan v=>rfl
 |round h hr ih=>
   obtain⟨N,h⟩:=h;obtain⟨N2,ih⟩:=ih;refine⟨max N N2+1,fun n hn m hm=>?_⟩;obtain⟨m,rfl⟩:∃k,m=k+1:=⟨m - 1,by omega⟩;simp only[yLoop,h n (by omega)];exact ih n (by omega) m (by omega)
theorem YC.loop{c:ACode}{x:AExit×List PV×St×Log}(h:YRounds b c e s g x):YC b (.loop c) e s g x:=by obtain⟨N,h⟩:=h.ev;exact⟨N,fun n hn=>by simp only[yCode];exact h n hn n hn⟩
end
def prodL{α:Type}:List (List α)→List (List α)
 |[]=>[[]]
 |l::ls=>l.flatMap fun x=>(prodL ls).map (x:: ·)
def allI(ns:List Nat):List (List Nat):=prodL (ns.map List.range)
def restI:List Nat→List Nat→List (List Nat)
 |n::ns,a::bs=>(restI ns bs).map (a:: ·)++(((List.range n).drop (a+1)).flatMap fun x=>(allI ns).map (x:: ·))
 |_,_=>[[]]
def nxt:List Nat→List Nat→Option (List Nat)
 |n::ns,a::bs=>match nxt ns bs with
   |some cs=>some (a::cs)
   |none=>if a+1<n then some ((a+1)::bs.map fun _=>0)else none
 |_,_=>none
def inI:List Nat→List Nat→Prop
 |n::ns,a::bs=>a<n∧inI ns bs
 |[],[]=>True
 |_,_=>False
theorem inI_zero:∀{ns bs:List Nat},inI ns bs→inI ns (bs.map fun _=>0)
 |[],[],_=>trivial
 |_::_,a::_,h=>⟨Nat.lt_of_le_of_lt (Nat.zero_le a) h.1,inI_zero h.2⟩
 |[],_::_,h=>h.elim
 |_::_,[],h=>h.elim
theorem restI_zero:∀{ns bs:List Nat},inI ns bs→restI ns (bs.map fun _=>0)=allI ns
 |[],[],_=>rfl
 |n::ns,a::bs,h=>by
   have hn:0<n:=by have:=h.1;omega
   have hr:List.range n=0::(List.range n).drop (0+1):=by have:=List.drop_eq_getElem_cons (l:=List.range n) (i:=0) (by simpa using hn);simpa using this
   simp only[List.map_cons,restI,restI_zero h.2];show _=(List.range n).flatMap fun x=>(allI ns).map (x:: ·)
   conv=>rhs;rw[hr]
   rw[List.flatMap_cons]
 |[],_::_,h=>h.elim
 |_::_,[],h=>h.elim
theorem nxt_in:∀{ns bs cs:List Nat},inI ns bs→nxt ns bs=some cs→inI ns cs∧cs.length=bs.length
 |[],[],_,_,h=>by cases h
 |n::ns,a::bs,cs,h,hx=>by
   simp only[nxt]at hx;split at hx
   · rename_i ds h1;cases hx;obtain⟨h2,h3⟩:=nxt_in h.2 h1;exact⟨⟨h.1,h2⟩,by simp[h3]⟩
   · split at hx
     · rename_i h1;cases hx;exact⟨⟨h1,inI_zero h.2⟩,by simp⟩
     ·cases hx
 |[],_::_,_,h,_=>h.elim
 |_::_,[],_,h,_=>h.elim
theorem restI_step:∀{ns bs:List Nat},inI ns bs→restI ns bs=bs::(match nxt ns bs with|some cs=>restI ns cs|none=>[])
 |[],[],_=>rfl
 |n::ns,a::bs,h=>by
   have ih:=restI_step h.2;simp only[restI,nxt];rw[ih];cases hx:nxt ns bs with
   |some cs=>simp only[List.map_cons,List.cons_append,restI]
   |none=>
     simp only[List.map_cons,List.map_nil,List.cons_append,List.nil_append];by_cases hn:a+1<n
     · rw[if_pos hn];have hr:(List.range n).drop (a+1)=(a+1)::(List.range n).drop (a+1+1):=by have:=List.drop_eq_getElem_cons (l:=List.range n) (i:=a+1) (by simpa using hn);simpa using this
       simp only[restI,restI_zero h.2];rw[hr,List.flatMap_cons]
     · rw[if_neg hn];have hr:(List.range n).drop (a+1)=[]:=List.drop_eq_nil_of_le (by simp;omega);rw[hr];rfl
 |[],_::_,h=>h.elim
 |_::_,[],h=>h.elim
theorem nxt_none:∀{ns bs:List Nat},(∀i (h1:i<ns.length)(h2:i<bs.length),bs[i]+1=ns[i])→nxt ns bs=none
 |[],_,_=>by simp[nxt]
 |_::_,[],_=>by simp[nxt]
 |n::ns,a::bs,h=>by
   have h0:=h 0 (by simp) (by simp);simp only[List.getElem_cons_zero]at h0;have:=nxt_none (ns:=ns) (bs:=bs) fun i h1 h2=>by have:=h (i+1) (by simpa using h1) (by simpa using h2);simpa using this
   simp only[nxt,this];rw[if_neg (by omega)]
theorem nxt_mid:∀{ns bs:List Nat}{j:Nat}(hj1:j<ns.length)(hj2:j<bs.length),bs[j]+1<ns[j]→(∀i (h1:i<ns.length)(h2:i<bs.length),j<i→bs[i]+1=ns[i])→nxt ns bs=some (bs.take j++(bs[j]+1)::(bs.drop (j+1)).map fun _=>0)
 |n::ns,a::bs,0,_,_,hlt,hmax=>by
   have:=nxt_none (ns:=ns) (bs:=bs) fun i h1 h2=>by have:=hmax (i+1) (by simpa using h1) (by simpa using h2) (by omega);simpa using this
   simp only[List.getElem_cons_zero]at hlt;simp only[nxt,this];rw[if_pos hlt];rfl
 |n::ns,a::bs,j+1,hj1,hj2,hlt,hmax=>by
   have:=nxt_mid (ns:=ns) (bs:=bs) (j:=j) (by simpa using hj1) (by simpa using hj2) (by simpa using hlt) fun i h1 h2 h3=>by have:=hmax (i+1) (by simpa using h1) (by simpa using h2) (by omega);simpa using this
   simp only[nxt,this];rfl
 |[],_,_,h,_,_,_=>by simp at h
 |_::_,[],_,_,h,_,_=>by simp at h
def pickI{α:Type}:List (List α)→List Nat→List α
 |l::ls,a::bs=>(match l[a]? with|some x=>[x]|none=>[])++pickI ls bs
 |_,_=>[]
theorem map_range_get{α:Type}(l:List α):((List.range l.length).flatMap fun a=>match l[a]? with|some x=>[x]|none=>[])=l:=by
 induction l with
 |nil=>rfl
 |cons x l ih=>
   rw[List.length_cons,List.range_succ_eq_map,List.flatMap_cons,List.flatMap_map];simp only[List.getElem?_cons_zero,List.getElem?_cons_succ,Nat.succ_eq_add_one];rw[ih];rfl
theorem flatMap_same{α β:Type}{l:List β}{f g:β→List α}(h:∀a∈l,f a=g a):l.flatMap f=l.flatMap g:=by
 induction l with
 |nil=>rfl
 |cons x l ih=>rw[List.flatMap_cons,List.flatMap_cons,h x (by simp),ih fun a ha=>h a (by simp[ha])]
theorem prodL_pick{α:Type}:∀ls:List (List α),prodL ls=(allI (ls.map List.length)).map (pickI ls)
 |[]=>rfl
 |l::ls=>by
   have ih:=prodL_pick ls;show(l.flatMap fun x=>(prodL ls).map (x:: ·))=(((List.range l.length).flatMap fun x=>(allI (ls.map List.length)).map (x:: ·))).map (pickI (l::ls));rw[List.map_flatMap]
   conv=>lhs;rw[←map_range_get l]
   rw[List.flatMap_assoc,ih];refine flatMap_same fun a ha=>?_;have hal:a<l.length:=by simpa using ha
   cases hla:l[a]? with
   |none=>
     rw[List.getElem?_eq_getElem hal]at hla;cases hla
   |some x=>
     simp only[List.flatMap_cons,List.flatMap_nil,List.append_nil,List.map_map]
     congr 1
     funext bs
     simp[pickI,hla]
end Go.Proofs.Tryz
namespace Go.Proofs.Tryz
open Go Go.AE
def a182b0:ACode:=
 (.seq (.reg [
 ro 16 (.bin .lss (.t 15) (.t 14))])
 (.seq (.cond (.t 16)
 .skip
 (.exit 0))
 (.seq (.block 1 (.seq (.reg [
 ro 17 (.idxAddr 1 (.t 13) (.t 15)),
 rp 18 (.load false 1 (.t 17)),
 mv 5 18])
 (.seq (.reg [
 mv 19 5,
 ro 20 (.lenL (.t 19)),
 ro 21 (.bin .eql (.t 20) (ci 0))])
 (.cond (.t 21)
 .ret
 .skip))))
 (.reg [
 ro 22 (.bin .add (.t 15) (ci 1)),
 mv 15 22]))))
def a182b1:ACode:=
 (.seq (.reg [
 ro 26 (.bin .lss (.t 25) (.t 24))])
 (.seq (.cond (.t 26)
 .skip
 (.exit 4))
 (.seq (.block 5 (.seq (.reg [
 mv 27 25,
 ro 28 (.idxAddr 1 (.t 23) (.t 25)),
 rp 29 (.load false 1 (.t 28)),
 mv 7 27,
 mv 8 29])
 (.reg [
 mv 30 6,
 rp 31 (.load false 1 (.t 1)),
 mv 32 7,
 ro 33 (.idxAddr 1 (.t 31) (.t 32)),
 rp 34 (.load false 1 (.t 33)),
 mv 35 8,
 ro 36 (.idxAddr 3 (.t 34) (.t 35)),
 rp 37 (.load true 3 (.t 36)),
 ro 38 (.buildSlice 3 zq3 1 [(0,(.t 37))]),
 rp 39 (.append 3 40 (.t 30) (.t 38)),
 mv 6 39])))
 (.reg [
 ro 40 (.bin .add (.t 25) (ci 1)),
 mv 25 40]))))
def a182b2:ACode:=
 (.seq (.seq (.regD [
 rd 48 (.move (.t 9)) false 0 0 true,
 rd 49 (.bin .geq (.t 48) (ci 0)) false 1 1 true,
 rd 50 (.move (.t 49)) false 2 3 true,
  ⟨(some 51),.move (.t 3),(some (50,true)),false,3,7,false⟩,
  ⟨(some 52),.move (.t 9),(some (50,true)),false,4,7,false⟩,
  ⟨(some 53),.idxAddr 1 (.t 51) (.t 52),(some (50,true)),false,5,31,false⟩,
  ⟨(some 54),.load false 1 (.t 53),(some (50,true)),true,6,63,false⟩,
  ⟨(some 55),.load false 1 (.t 1),(some (50,true)),true,7,7,false⟩,
  ⟨(some 56),.move (.t 9),(some (50,true)),false,8,7,true⟩,
  ⟨(some 57),.idxAddr 1 (.t 55) (.t 56),(some (50,true)),false,9,391,true⟩,
  ⟨(some 58),.load false 1 (.t 57),(some (50,true)),true,10,903,true⟩,
  ⟨(some 59),.lenL (.t 58),(some (50,true)),false,11,1927,true⟩,
  ⟨(some 60),.bin .sub (.t 59) (ci 1),(some (50,true)),false,12,3975,true⟩,
  ⟨(some 61),.bin .eql (.t 54) (.t 60),(some (50,true)),false,13,8191,true⟩,
 rd 62 (.pick (.t 50) (.t 61) (.c (.bool false))) false 14 16383 true])
 (.cond (.t 62)
 .skip
 (.exit 6)))
 (.block 7 (.seq (.reg [
 mv 63 3,
 mv 64 9,
 ro 65 (.idxAddr 1 (.t 63) (.t 64)),
 wr (.store 1 (.t 65) (ci 0)) 0 0 false])
 (.reg [
 mv 66 9,
 ro 67 (.bin .sub (.t 66) (ci 1)),
 mv 9 67]))))
def y3R:ACode:=.reg [ro 6 (.move (.c (.slice 0 [] .nil)))]
def y3P:ACode:=(.seq (.reg [
 mv 23 3,
 ro 24 (.lenL (.t 23)),
 ro 25 (.move (ci 0))])
 (.block 4 (.loop a182b1)))
def y3Y:ACode:=(.seq (.reg [
 mv 41 0,
 mv 42 6,
 rp 43 (.call (.t 41) [(.t 42)]),
 ro 44 (.un .not (.t 43))])
 (.cond (.t 44)
 .ret
 .skip))
def y3C:ACode:=(.seq (.reg [
 mv 45 3,
 ro 46 (.lenL (.t 45)),
 ro 47 (.bin .sub (.t 46) (ci 1)),
 mv 9 47])
 (.seq (.block 6 (.loop a182b2))
 (.seq (.seq (.reg [
 mv 68 9,
 ro 69 (.bin .lss (.t 68) (ci 0))])
 (.cond (.t 69)
 .ret
 .skip))
 (.reg [
 mv 70 3,
 mv 71 9,
 ro 72 (.idxAddr 1 (.t 70) (.t 71)),
 rp 73 (.load false 1 (.t 72)),
 ro 74 (.bin .add (.t 73) (ci 1)),
 ro 75 (.idxAddr 1 (.t 70) (.t 71)),
 wr (.store 1 (.t 75) (.t 74)) 0 0 false]))))
def y3:ACode:=.block 3 (.seq y3R (.seq y3P (.seq y3Y y3C)))
def y0A:ACode:=(.reg [
 rp 10 (.load false 1 (.t 1)),
 ro 11 (.lenL (.t 10)),
 rp 12 (.makeSlice 1 (.int .i64 0) 8 (.t 11) (.t 11)),
 mv 3 12])
def y0B:ACode:=(.seq (.reg [
 rp 13 (.load false 1 (.t 1)),
 ro 14 (.lenL (.t 13)),
 ro 15 (.move (ci 0))])
 (.block 0 (.loop a182b0)))
def a182:AFunc:=⟨2,76,.seq y0A (.seq y0B (.block 2 (.loop y3))),[]⟩
theorem af182_eq:af182=a182:=by kernel_rfl
def rowOf:PV→List PV
 |.slice _ es _=>es
 |_=>[]
def lensOf(vs:List PV):List Nat:=vs.map fun v=>(rowOf v).length
def isTm:PV→Bool
 |.agg [a,b,c]=>a.isCell&&b.isCell&&c.isCell
 |_=>false
theorem isTm_facts{x:PV}(h:isTm x=true):x.cells.length=3∧x.cells.all PV.isCell=true∧x.isDef=true∧AE.sub true 3 x 0=some x:=by
 unfold isTm at h;split at h
 · simp only[Bool.and_eq_true]at h;exact⟨rfl,by simp[PV.cells,h.1.1,h.1.2,h.2],rfl,rfl⟩
 ·cases h
def okYV(v:PV):Bool:=match v with
 |.slice z es _=>decide (es.length≤1000)&& (es.isEmpty||z==3)&&es.all isTm
 |_=>false
structure ListsOk (S:PV)(vs:List PV):Prop where
 eq:∃z m,S=.slice z vs m∧(vs=[]∨z=1)
 len:vs.length≤500
 all:∀v∈vs,okYV v=true
theorem okYV_facts{v:PV}(h:okYV v=true):∃z m,v=.slice z (rowOf v) m∧(rowOf v=[]∨z=3)∧(rowOf v).length≤1000∧∀x∈rowOf v,isTm x=true:=by
 unfold okYV at h;split at h
 · rename_i z es m;simp only[Bool.and_eq_true,decide_eq_true_eq,Bool.or_eq_true,List.isEmpty_iff,beq_iff_eq,List.all_eq_true]at h;exact⟨z,m,rfl,h.1.2,h.1.1,h.2⟩
 ·cases h
def encN(n:Nat):PV:=.int .i64 (n:Int)
structure AtS (l:Nat)(S:PV)(vs:List PV)(e:List PV)(H:Hp)(bs:List Nat):Prop where
 e0:eget e 0=.func (.yield l) [] []
 e1:eget e 1=.iptr S 0
 e3:eget e 3=.aref 0 1 0 vs.length vs.length
 row:H[0]?=some (.row 1 (bs.map encN))
 len:bs.length=vs.length
 ok:inI (lensOf vs) bs
theorem inI_get:∀{ns bs:List Nat},inI ns bs→∀(i:Nat)(n b:Nat),ns[i]?=some n→bs[i]?=some b→b<n
 |[],[],_,i,n,b,h,_=>by simp at h
 |n::ns,b::bs,h,0,n',b',h1,h2=>by
   simp only[List.getElem?_cons_zero,Option.some.injEq]at h1 h2;subst h1 h2;exact h.1
 |_::ns,_::bs,h,i+1,n',b',h1,h2=>inI_get h.2 i n' b' (by simpa using h1) (by simpa using h2)
 |[],_::_,h,_,_,_,_,_=>h.elim
 |_::_,[],h,_,_,_,_,_=>h.elim
theorem pickI_take:∀{ls:List (List PV)}{bs:List Nat}{i:Nat}{l:List PV}{b:Nat}{x:PV},ls[i]?=some l→bs[i]?=some b→l[b]?=some x→pickI (ls.take (i+1)) (bs.take (i+1))=pickI (ls.take i) (bs.take i)++[x]
 |l::ls,b::bs,0,l',b',x,h1,h2,h3=>by
   simp only[List.getElem?_cons_zero,Option.some.injEq]at h1 h2;subst h1 h2;simp[pickI,h3]
 |l::ls,b::bs,i+1,l',b',x,h1,h2,h3=>by
   have:=pickI_take (ls:=ls) (bs:=bs) (i:=i) (by simpa using h1) (by simpa using h2) h3;simp only[List.take_succ_cons,pickI,this,List.append_assoc]
 |[],_,_,_,_,_,h,_,_=>by simp at h
 |_::_,[],_,_,_,_,_,h,_=>by simp at h
theorem y3P_ev{l:Nat}{S:PV}{vs:List PV}{e:List PV}{H:Hp}{bs:List Nat}(O:ListsOk S vs)(A:AtS l S vs e H bs)(e6:eget e 6=.slice 0 [] .nil)(ws:List Nat):
 ∃e' H' ws' v,EvC noTbl y3P e ⟨H,ws,[]⟩ (.normal,e',⟨H',ws',[]⟩)∧AtS l S vs e' H' bs∧eget e' 6=v∧AppL H' v (pickI (vs.map rowOf) bs) 0∧(vs=[]→v=.slice 0 [] .nil):=by
 obtain⟨z,m,hS,hz⟩:=O.eq;obtain⟨a0,a1,a3,hrow,hlen,hin⟩:=A;have hvl:=O.len
 have key:wpC noTbl y3P e ⟨H,ws,[]⟩ fun x e' st=>x=.normal∧∃H' ws' v,st=⟨H',ws',[]⟩∧AtS l S vs e' H' bs∧eget e' 6=v∧AppL H' v (pickI (vs.map rowOf) bs) 0∧(vs=[]→v=.slice 0 [] .nil):=by
  unfold y3P;simp(disch:=first|omega|decide|simp only[go_sem]) only[go_sem,a3,lenOf]
  refine wpC.loopM (fun g e st=> ∃(i:Nat)(H:Hp)(ws:List Nat)(v:PV),i+g=vs.length∧AppL H v (pickI ((vs.map rowOf).take i) (bs.take i)) 0∧(pickI ((vs.map rowOf).take i) (bs.take i)).length=i∧(i=0→v=.slice 0 [] .nil)∧H[0]?=some (.row 1 (bs.map encN))∧(eget e 0=.func (.yield l) [] []∧eget e 1=.iptr S 0∧eget e 3=.aref 0 1 0 vs.length vs.length∧eget e 6=v∧eget e 23=.aref 0 1 0 vs.length vs.length∧eget e 24=.int .i64 (vs.length:Int)∧eget e 25=.int .i64 (i:Int))∧st=⟨H,ws,[]⟩) ?_ vs.length _ _
   ⟨0,H,ws,_,by omega,.inl ⟨by cases vs<;>cases bs<;>rfl,rfl⟩,by cases vs<;>cases bs<;>rfl,(fun _=>rfl),hrow,by simp only[go_sem,a0,a1,a3,e6,Int.natCast_zero],rfl⟩
  rintro g e st ⟨i,H,ws,v,hi,hA,hpl,hnil,hrow,⟨e0,e1,e3,e6,e23,e24,e25⟩,rfl⟩;by_cases h1:i<vs.length
  · have h1':(i:Int)< (vs.length:Int):=by omega
    have gv:vs[i]?=some vs[i]:=List.getElem?_eq_getElem h1;have gb:bs[i]?=some (bs[i]'(by omega)):=List.getElem?_eq_getElem _;have hov:=O.all _ (List.getElem_mem h1);generalize vs[i]=u at*;generalize bs[i]'(by omega)=c at*;obtain⟨zu,mu,hu,hzu,hul,hut⟩:=okYV_facts hov;have hc:c< (rowOf u).length:=inI_get hin i _ c (by rw[lensOf,List.getElem?_map,gv];rfl) gb;have gx:(rowOf u)[c]?=some (rowOf u)[c]:=List.getElem?_eq_getElem hc;have hx:=hut _ (List.getElem_mem hc);have hpk:=pickI_take (ls:=vs.map rowOf) (bs:=bs) (i:=i) (by rw[List.getElem?_map,gv];rfl) gb gx;generalize(rowOf u)[c]=x at*;obtain⟨x1,x2,x3,x4⟩:=isTm_facts hx;have gr:(bs.map encN)[i]?=some (.int .i64 (c:Int)):=by rw[List.getElem?_map,gb];rfl
    have lr:loadAt false 1 (.ptr 0 i 0 vs.length) H=some (.int .i64 (c:Int)):=by simp only[loadAt,hrow,List.length_map,hlen,if_true,gr];rfl
    have lS:loadAt false 1 (.iptr S 0) H=some S:=by rw[hS];rfl
    have ixS:idxaddr 1 S (.int .i64 (i:Int))=some (.iptr u 0):=by
     have hz1:z=1:=by
      rcases hz with rfl|h
      ·simp at h1
      ·exact h
     rw[hS,idx_slice,if_pos hz1,gv];rfl
    have su:AE.sub false 1 u 0=some u:=by rw[hu];rfl
    have ixu:idxaddr 3 u (.int .i64 (c:Int))=some (.iptr x 0):=by
     have hz3:zu=3:=by
      rcases hzu with h|h
      ·rw[h]at hc;simp at hc
      ·exact h
     rw[hu,idx_slice,if_pos hz3,gx];rfl
    have f1:=fe_1 (p:=x) ⟨x1,x3⟩;obtain⟨H',fw,kt,ap,A',hrow',_,_⟩:=append_E hA x2 (by omega) (Nat.zero_le _);simp(disch:=first|omega|decide|simp only[go_sem]) only[go_sem,a182b1,e0,e1,e3,e6,e23,e24,e25,h1,h1',lr,lS,ixS,su,ixu,x4,f1,ap,List.length_cons,List.length_nil];refine⟨g - 1,by omega,i+1,H',_,_,by omega,?_,?_,(fun h=>by omega),hrow' _ _ _ hrow,⟨rfl,rfl⟩,rfl⟩
    ·rw[hpk];exact A'
    ·rw[hpk];simp[hpl]
  · have h1':¬(i:Int)< (vs.length:Int):=by omega
    have hil:i=vs.length:=by omega
    subst hil;rw[List.take_of_length_le (by simp),List.take_of_length_le (by omega)]at hA;simp(disch:=first|omega|decide|simp only[go_sem]) only[go_sem,a182b1,e0,e1,e3,e6,e23,e24,e25,h1'];exact⟨H,ws,_,rfl,⟨by simp only[go_sem,e0],by simp only[go_sem,e1],by simp only[go_sem,e3],hrow,hlen,hin⟩,by simp only[go_sem,e6],hA,fun h=>hnil (by rw[h];rfl)⟩
 obtain⟨x,e1,s1,ev,rfl,H',ws',v,rfl,h1,h2,h3,h4⟩:=wpC.sound key;exact⟨e1,H',ws',v,ev,h1,h2,h3,h4⟩
end Go.Proofs.Tryz
namespace Go.Proofs.Tryz
open Go Go.AE
theorem y3Y_ev{b:Nat→Bool}{l:Nat}{e:List PV}{st:St}{g:Log}{v:PV}(e0:eget e 0=.func (.yield l) [] [])(e6:eget e 6=v)(hv:v.pure=true):
 ∃e',YC b y3Y e st g (if b g.length=true then .normal else .ret,e',st,g++[(l,[v.weak])])∧∀k,k<40→eget e' k=eget e k:=by
 refine⟨eput (eput (eput (eput e 41 (.func (.yield l) [] [])) 42 v) 43 (.bool (b g.length))) 44 (.bool !(b g.length)),⟨0,fun n _=>?_⟩,fun k hk=>?_⟩
 · have hp:pures [v]=true:=by simp[pures,hv]
   have g6:eget (eput e 41 (.func (.yield l) [] [])) 6=v:=by rw[eget_eput_ne (by decide),e6]
   have q42:eget (eput (eput e 41 (.func (.yield l) [] [])) 42 v) 41=.func (.yield l) [] []:=by rw[eget_eput_ne (by decide),eget_eput_same]
   have q42':eget (eput (eput e 41 (.func (.yield l) [] [])) 42 v) 42=v:=eget_eput_same ..;simp only[y3Y,yCode,yOps,wantedA,yOp,evOp,ax,e0,g6,putD,q42,List.map_cons,List.map_nil,q42',hp,if_true,eget_eput_same,weaks];cases b g.length<;>rfl
 ·rw[eget_eput_ne (by omega),eget_eput_ne (by omega),eget_eput_ne (by omega),eget_eput_ne (by omega)]
theorem y3C_ev{l:Nat}{S:PV}{vs:List PV}{e:List PV}{H:Hp}{bs:List Nat}(O:ListsOk S vs)(A:AtS l S vs e H bs)(ws:List Nat):
 ∃x e' H' ws',EvC noTbl y3C e ⟨H,ws,[]⟩ (x,e',⟨H',ws',[]⟩)∧((nxt (lensOf vs) bs=none∧x=.ret)∨∃cs,nxt (lensOf vs) bs=some cs∧x=.normal∧AtS l S vs e' H' cs):=by
 obtain⟨z,m,hS,hz⟩:=O.eq;obtain⟨a0,a1,a3,hrow,hlen,hin⟩:=A;have hvl:=O.len;have hll:(lensOf vs).length=vs.length:=by simp[lensOf]
 have key:wpC noTbl y3C e ⟨H,ws,[]⟩ fun x e' st=> ∃H' ws',st=⟨H',ws',[]⟩∧((nxt (lensOf vs) bs=none∧x=.ret)∨∃cs,nxt (lensOf vs) bs=some cs∧x=.normal∧AtS l S vs e' H' cs):=by
  unfold y3C;simp(disch:=first|omega|decide|simp only[go_sem]) only[go_sem,a3,lenOf]
  refine wpC.loopM (fun g e st=> ∃(H:Hp)(ws:List Nat),g≤vs.length∧H[0]?=some (.row 1 ((bs.take g++(bs.drop g).map fun _=>0).map encN))∧(∀i (h1:i< (lensOf vs).length)(h2:i<bs.length),g≤i→bs[i]+1=(lensOf vs)[i])∧(eget e 0=.func (.yield l) [] []∧eget e 1=.iptr S 0∧eget e 3=.aref 0 1 0 vs.length vs.length∧eget e 9=.int .i64 ((g:Int) - 1))∧st=⟨H,ws,[]⟩) ?_ vs.length _ _
   ⟨H,ws,Nat.le_refl _,by rw[List.take_of_length_le (by omega),List.drop_of_length_le (by omega)];simpa using hrow,fun i h1 h2 h3=>by omega,by simp only[go_sem,a0,a1,a3],rfl⟩
  clear hrow a0 a1 a3;rintro g e st ⟨H,ws,hg,hrow,hmax,⟨e0,e1,e3,e9⟩,rfl⟩;have lS:loadAt false 1 (.iptr S 0) H=some S:=by rw[hS];rfl
  have hcl:(bs.take g++(bs.drop g).map fun _=>0).length=vs.length:=by simp;omega
  rcases Nat.eq_zero_or_pos g with rfl|hgp
  · have e9':eget e 9=.int .i64 (-1):=e9;have h0:¬(0:Int)≤-1:=by decide
    have h01:(-1:Int)<0:=by decide
    simp(disch:=first|omega|decide|simp only[go_sem]) only[go_sem,a182b2,e0,e1,e3,e9',h0,h01];exact⟨H,ws,rfl,.inl ⟨nxt_none fun i h1 h2=>hmax i h1 h2 (Nat.zero_le _),trivial⟩⟩
  · obtain⟨j,rfl⟩:∃j,g=j+1:=⟨g - 1,by omega⟩;have e9':eget e 9=.int .i64 (j:Int):=by rw[e9];congr 1;omega
    have h0:(0:Int)≤(j:Int):=by omega
    have hj:j<vs.length:=by omega
    have hj':j<bs.length:=by omega
    have gv:vs[j]?=some vs[j]:=List.getElem?_eq_getElem hj;have hov:=O.all _ (List.getElem_mem hj);have hlj:(lensOf vs)[j]'(by omega)=(rowOf vs[j]).length:=by simp[lensOf]
    generalize vs[j]=u at*;obtain⟨zu,mu,hu,hzu,hul,hut⟩:=okYV_facts hov;have gc:((bs.take (j+1)++(bs.drop (j+1)).map fun _=>0))[j]?=some bs[j]:=by rw[List.getElem?_append_left (by simp;omega),List.getElem?_take,if_pos (by omega),List.getElem?_eq_getElem hj']
    have gr:((bs.take (j+1)++(bs.drop (j+1)).map fun _=>0).map encN)[j]?=some (.int .i64 (bs[j]:Int)):=by rw[List.getElem?_map,gc];rfl
    have lr:loadAt false 1 (.ptr 0 j 0 vs.length) H=some (.int .i64 (bs[j]:Int)):=by simp only[loadAt,hrow,List.length_map,hcl,if_true,gr];rfl
    have ixS:idxaddr 1 S (.int .i64 (j:Int))=some (.iptr u 0):=by
     have hz1:z=1:=by
      rcases hz with rfl|h
      ·simp at hj
      ·exact h
     rw[hS,idx_slice,if_pos hz1,gv];rfl
    have su:AE.sub false 1 u 0=some u:=by rw[hu];rfl
    have lu:lenOf u=some (rowOf u).length:=by
     have:lenOf (.slice zu (rowOf u) mu)=some (rowOf u).length:=rfl
     rwa [←hu]at this
    have hbj:=inI_get hin j _ _ (by rw[List.getElem?_eq_getElem (by omega:j< (lensOf vs).length),hlj]) (List.getElem?_eq_getElem hj');by_cases hb:bs[j]+1=(rowOf u).length
    · have hbq:((bs[j]:Int)==((rowOf u).length:Int) - 1)=true:=by simp only[beq_iff_eq];omega
      have sv:=fun ws ups=>st_row1 (v:=.int .i64 0) (ws:=ws) (ups:=ups) (n:=vs.length) (A:=j) hrow (by simpa using hcl) gr (fun cs h=>by cases h) ⟨rfl,rfl⟩ (fun j hj=>by cases hj);simp(disch:=first|omega|decide|simp only[go_sem]) only[go_sem,a182b2,e0,e1,e3,e9',h0,hj,lr,lS,ixS,su,lu,hbq,sv,List.length_cons,List.length_nil];refine⟨j,by omega,_,_,by omega,?_,fun i h1 h2 h3=>?_,rfl,rfl⟩
      · rw[get_set hrow]
        congr 3
        refine List.ext_getElem? fun i=>?_;rw[List.getElem?_set];simp only[List.getElem?_map,List.getElem?_append,List.length_take,List.getElem?_take,List.getElem?_drop];have e1:min (j+1) bs.length=j+1:=by omega
        have e2:min j bs.length=j:=by omega
        rw[e1,e2];by_cases hij:j=i
        · subst hij;have h3:¬j<j:=by omega
          have hlt:j< ((bs.take (j+1)++(bs.drop (j+1)).map fun _=>0).map encN).length:=by simp;omega
          simp only[if_true,hlt,h3,if_false,Nat.sub_self,Nat.add_zero,List.getElem?_eq_getElem hj',Option.map];rfl
        · simp only[hij,if_false];by_cases hlt:i<j
          · have h1:i<j+1:=by omega
            simp only[h1,hlt,if_true]
          · have h1:¬i<j+1:=by omega
            simp only[h1,hlt,if_false];have e3:j+1+(i - (j+1))=i:=by omega
            have e4:j+(i - j)=i:=by omega
            rw[e3,e4]
      · by_cases hij:i=j
        · subst hij;rw[hlj];exact hb
        ·exact hmax i h1 h2 (by omega)
    · have hbq:((bs[j]:Int)==((rowOf u).length:Int) - 1)=false:=by simp only[beq_eq_false_iff_ne];omega
      have hn0:¬(j:Int)<0:=by omega
      have sv:=fun ws ups=>st_row1 (v:=.int .i64 ((bs[j]+1:Nat):Int)) (ws:=ws) (ups:=ups) (n:=vs.length) (A:=j) hrow (by simpa using hcl) gr (fun cs h=>by cases h) ⟨rfl,rfl⟩ (fun j hj=>by cases hj);simp(disch:=first|omega|decide|simp only[go_sem]) only[go_sem,a182b2,e0,e1,e3,e9',h0,hn0,hj,lr,lS,ixS,su,lu,hbq,sv,List.length_cons,List.length_nil];have hnx:=nxt_mid (ns:=lensOf vs) (bs:=bs) (j:=j) (by omega) hj' (by rw[hlj];omega) fun i h1 h2 h3=>hmax i h1 h2 (by omega);obtain⟨q1,q2⟩:=nxt_in hin hnx;refine⟨_,_,rfl,.inr ⟨_,hnx,⟨by simp only[go_sem,e0],by simp only[go_sem,e1],by simp only[go_sem,e3],?_,by rw[q2,hlen],q1⟩⟩⟩;rw[get_set hrow]
      congr 3
      refine List.ext_getElem? fun i=>?_;rw[List.getElem?_set];simp only[List.getElem?_map,List.getElem?_append,List.length_take,List.getElem?_take,List.getElem?_drop];have e1:min (j+1) bs.length=j+1:=by omega
      have e2:min j bs.length=j:=by omega
      rw[e1,e2];by_cases hij:j=i
      · subst hij;have h3:¬j<j:=by omega
        have hlt:j< ((bs.take (j+1)++(bs.drop (j+1)).map fun _=>0).map encN).length:=by simp;omega
        simp only[if_true,hlt,h3,if_false,Nat.sub_self,List.getElem?_cons_zero,Option.map];rfl
      · simp only[hij,if_false];by_cases hlt:i<j
        · have h1:i<j+1:=by omega
          simp only[h1,hlt,if_true]
        · have h1:¬i<j+1:=by omega
          simp only[h1,hlt,if_false];obtain⟨d,rfl⟩:∃d,i=j+1+d:=⟨i - (j+1),by omega⟩;have e3:j+1+d - j=d+1:=by omega
          rw[e3,List.getElem?_cons_succ,List.getElem?_map,List.getElem?_drop];simp
 obtain⟨x,e1,s1,ev,H',ws',rfl,h⟩:=wpC.sound key;exact⟨x,e1,H',ws',ev,h⟩
end Go.Proofs.Tryz
namespace Go.Proofs.Tryz
open Go Go.AE
theorem noTbl_ok{P:Program}(hm:P.follows .mixedOrders=true):TblOK P noTbl where
 mixed:=hm
 prim f p h:=by cases h
 iter f it h:=by cases h
 fn f af h:=by cases h
 step f sp h:=by cases h
 sp f sp h:=by cases h
def outV(vs es:List PV):PV:=.slice (if vs.isEmpty then 0 else 3) (weaks es) .any
def emit{α:Type}(b:Nat→Bool):Nat→List α→List α
 |_,[]=>[]
 |k,x::xs=>x::if b k=true then emit b (k+1) xs else []
theorem emit_stop{α:Type}{s:Nat}:∀(xs:List α)(k:Nat),k≤s→emit (fun i=>decide (some s≠some i)) k xs=xs.take (s - k+1)
 |[],k,_=>by simp[emit]
 |x::xs,k,h=>by
   simp only[emit,List.take_succ_cons]
   congr 1
   by_cases hk:k=s
   · subst hk;simp
   · have h1:decide (some s≠some k)=true:=by simp;omega
     rw[if_pos h1,emit_stop xs (k+1) (by omega)]
     congr 1;omega
theorem emit_all{α:Type}:∀(xs:List α)(k:Nat),emit (fun i=>decide (none≠some i)) k xs=xs
 |[],_=>rfl
 |x::xs,k=>by simp only[emit];rw[if_pos (by simp)];exact congrArg _ (emit_all xs (k+1))
theorem emit_upTo(stop:Option Nat)(yss:Yss):emit (fun i=>decide (stop≠some i)) 0 yss=upTo stop yss:=by
 cases stop with
 |none=>exact emit_all yss 0
 |some s=>
   have:=emit_stop (s:=s) yss 0 (Nat.zero_le _);simpa[upTo]using this
theorem pures_mem{l:List PV}(h:pures l=true):∀x∈l,x.pure=true:=fun x hx=>by
 induction l with
 |nil=>cases hx
 |cons y l ih=>
   simp only[pures,Bool.and_eq_true]at h;rcases List.mem_cons.1 hx with rfl|hx
   ·exact h.1
   ·exact ih h.2 hx
theorem pures_of{l:List PV}(h:∀x∈l,x.pure=true):pures l=true:=by
 induction l with
 |nil=>rfl
 |cons y l ih=>simp[pures,h y (by simp),ih fun x hx=>h x (by simp[hx])]
theorem pickI_mem{α:Type}:∀{ls:List (List α)}{bs:List Nat}{x:α},x∈pickI ls bs→∃l∈ls,x∈l
 |l::ls,b::bs,x,h=>by
   simp only[pickI,List.mem_append]at h;rcases h with h|h
   · split at h
     · rename_i y hy;simp only[List.mem_singleton]at h;subst h;exact⟨l,by simp,List.mem_of_getElem? hy⟩
     ·cases h
   · obtain⟨l',h1,h2⟩:=pickI_mem h;exact⟨l',by simp[h1],h2⟩
 |[],_,_,h=>by simp[pickI]at h
 |_::_,[],_,h=>by simp[pickI]at h
theorem pickI_len:∀{vs:List PV}{bs:List Nat},inI (lensOf vs) bs→(pickI (vs.map rowOf) bs).length=vs.length
 |[],[],_=>rfl
 |v::vs,b::bs,h=>by
   have h1:b< (rowOf v).length:=h.1;have:=pickI_len (vs:=vs) (bs:=bs) h.2;simp only[List.map_cons,pickI,List.getElem?_eq_getElem h1,List.length_append,List.length_cons,List.length_nil,this];omega
 |[],_::_,h=>h.elim
 |_::_,[],h=>h.elim
theorem AtS.ext{l:Nat}{S:PV}{vs e e':List PV}{H:Hp}{bs:List Nat}(A:AtS l S vs e H bs)(h:∀k,k<40→eget e' k=eget e k):AtS l S vs e' H bs:=
 ⟨by rw[h 0 (by omega)];exact A.e0,by rw[h 1 (by omega)];exact A.e1,by rw[h 3 (by omega)];exact A.e3,A.row,A.len,A.ok⟩
theorem y3_ev{b:Nat→Bool}{l:Nat}{S:PV}{vs:List PV}{e:List PV}{H:Hp}{bs:List Nat}(O:ListsOk S vs)(hp:∀v∈vs,v.pure=true)(A:AtS l S vs e H bs)(ws:List Nat)(g:Log):
 ∃x e' H' ws',YC b y3 e ⟨H,ws,[]⟩ g (x,e',⟨H',ws',[]⟩,g++[(l,[outV vs (pickI (vs.map rowOf) bs)])])∧((b g.length=false∧x=.ret)∨(b g.length=true∧nxt (lensOf vs) bs=none∧x=.ret)∨(b g.length=true∧∃cs,nxt (lensOf vs) bs=some cs∧x=.normal∧AtS l S vs e' H' cs)):=by
 have r0:EvC noTbl y3R e ⟨H,ws,[]⟩ (.normal,eput e 6 (.slice 0 [] .nil),⟨H,ws,[]⟩):=⟨0,fun n _=>rfl⟩;have A1:AtS l S vs (eput e 6 (.slice 0 [] .nil)) H bs:=⟨by rw[eget_eput_ne (by decide)];exact A.e0,by rw[eget_eput_ne (by decide)];exact A.e1,by rw[eget_eput_ne (by decide)];exact A.e3,A.row,A.len,A.ok⟩;obtain⟨e2,H2,ws2,v,r1,A2,e26,hA,hnil⟩:=y3P_ev O A1 (eget_eput_same ..) ws;have hes:pures (pickI (vs.map rowOf) bs)=true:=pures_of fun x hx=>by obtain⟨l',h1,h2⟩:=pickI_mem hx;obtain⟨u,hu,rfl⟩:=List.mem_map.1 h1;obtain⟨z,m,hue,_⟩:=okYV_facts (O.all u hu);have:=hp u hu;rw[hue]at this;exact pures_mem this x h2
 have hvp:v.pure=true∧v.weak=outV vs (pickI (vs.map rowOf) bs):=by
  have hl:=pickI_len A.ok;rcases hA with⟨h1,rfl⟩|⟨kt,rfl,_,_⟩
  · rw[h1]at hl⊢;have:vs=[]:=List.length_eq_zero_iff.1 hl.symm;subst this;exact⟨rfl,rfl⟩
  · refine⟨hes,?_⟩;cases vs with
    |nil=>cases hnil rfl
    |cons u vs=>rfl
 obtain⟨e3,r2,hk⟩:=y3Y_ev (b:=b) (st:=⟨H2,ws2,[]⟩) (g:=g) A2.e0 e26 hvp.1;rw[hvp.2]at r2;cases hb:b g.length
 · rw[hb]at r2;simp only[Bool.false_eq_true,if_false]at r2;exact⟨.ret,e3,H2,ws2,.block (.seq (.of rfl r0 (by simp)) (.seq (.of rfl r1 (by simp)) (.seqOut r2 (by simp)))) (by simp),.inl ⟨rfl,rfl⟩⟩
 · rw[hb]at r2;simp only[if_true]at r2;obtain⟨x,e4,H4,ws4,r3,hx⟩:=y3C_ev O (A2.ext hk) ws2;have hnp:(∀v,x≠.pan v)∧∀i,x≠.exit i:=by rcases hx with⟨_,rfl⟩|⟨_,_,rfl,_⟩<;>exact⟨fun _=>by simp,fun _=>by simp⟩
   refine⟨x,e4,H4,ws4,.block (.seq (.of rfl r0 (by simp)) (.seq (.of rfl r1 (by simp)) (.seq r2 (.of rfl r3 hnp.1)))) hnp.2,.inr ?_⟩;rcases hx with⟨h1,h2⟩|⟨cs,h1,h2,h3⟩
   ·exact .inl ⟨rfl,h1,h2⟩
   ·exact .inr ⟨rfl,cs,h1,h2,h3⟩
theorem y3_loop{b:Nat→Bool}{l:Nat}{S:PV}{vs:List PV}(O:ListsOk S vs)(hp:∀v∈vs,v.pure=true):∀(N:Nat){e:List PV}{H:Hp}{bs:List Nat}{ws:List Nat}{g:Log},(restI (lensOf vs) bs).length≤N→AtS l S vs e H bs→
 ∃e' st',YRounds b y3 e ⟨H,ws,[]⟩ g (.ret,e',st',g++(emit b g.length ((restI (lensOf vs) bs).map fun cs=>[outV vs (pickI (vs.map rowOf) cs)])).map fun ys=>(l,ys))
 |0,e,H,bs,ws,g,hN,A=>by
   rw[restI_step A.ok]at hN;simp at hN
 |N+1,e,H,bs,ws,g,hN,A=>by
   have hst:=restI_step A.ok;rw[hst]at hN⊢;obtain⟨x,e',H',ws',hY,h⟩:=y3_ev (b:=b) O hp A ws g;rcases h with⟨hb,rfl⟩|⟨hb,hn,rfl⟩|⟨hb,cs,hn,rfl,A'⟩
   · refine⟨e',⟨H',ws',[]⟩,?_⟩;have:=YRounds.out hY (by simp);simp only[List.map_cons,emit,hb,Bool.false_eq_true,if_false,List.map_nil];exact this
   · refine⟨e',⟨H',ws',[]⟩,?_⟩;have:=YRounds.out hY (by simp);simp only[hn,List.map_cons,emit,hb,if_true,List.map_nil];exact this
   · rw[hn]at hN⊢;simp only[List.length_cons]at hN;obtain⟨e2,st2,h2⟩:=y3_loop O hp N (ws:=ws') (g:=g++[(l,[outV vs (pickI (vs.map rowOf) bs)])]) (by omega) A';refine⟨e2,st2,.round hY ?_⟩;simp only[List.map_cons,emit,hb,if_true];simp only[List.length_append,List.length_cons,List.length_nil,Nat.zero_add,List.append_assoc,List.cons_append,List.nil_append]at h2;exact h2
end Go.Proofs.Tryz
namespace Go.Proofs.Tryz
open Go Go.AE
variable {T:Tbl}(hT:Std T){s:GSig}
structure Law8 (H:Hp)(n0:Nat)(t:GTy)(dom:List (List Tm))(A:Nat)(X:PV):Prop where
 k6:H[n0]?=some (.row 3 [encTy t])
 k7:H[n0+1]?=some (.row 1 [domV dom])
 k8:H[n0+2]?=some (.row 1 [.int .i64 (A:Int)])
 k11:H[n0+3]?=some (.row 3 [X])
theorem Law8.low{h H:Hp}{n0:Nat}{t:GTy}{dom:List (List Tm)}{A:Nat}{X:PV}(L:Law8 h n0 t dom A X)(hl:Low h.length h H):Law8 H n0 t dom A X:=by obtain⟨a,b,c,d⟩:=L;have q:=fun{k:Nat}{o:AE.Obj}(x:h[k]?=some o)=>hl.get (List.getElem?_eq_some_iff.1 x).1 x;exact⟨q a,q b,q c,q d⟩
end Go.Proofs.Tryz
