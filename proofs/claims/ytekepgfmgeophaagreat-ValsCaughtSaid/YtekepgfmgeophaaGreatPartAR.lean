/- Texts of the proof, one behind the other: ValQW, ValEntY, ValQX, ValQY. -/
import Derived.Test.YtekepgfmgeophaaGreatPartAP
import Derived.Test.YtekepgfmgeophaaGreatPartAQ
import Derived.Test.YtekepgfmgeophaaGreatPartAM
set_option linter.unusedVariables false
set_option linter.unusedSimpArgs false
/- The law ValsCaught: lists that are no domains. -/
namespace Go.Proofs.Tryz
open Go Go.AE
variable {T:Tbl} (hT:Std T) {s:GSig}
def b55 (sz bytes:Nat) (z:PV):AFunc:=⟨1,8,(.seq (.reg [ro 2 (.move (.c (.slice 0 [] .nil)))]) (.seq (.seq (.reg [mv 3 0,ro 4 (.eq false .slice (.t 3) (.c (.slice 0 [] .nil)))]) (.cond (.t 4) (.seq (.reg [ro 2 (.move (.c (.slice 0 [] .nil)))]) .ret) .skip)) (.seq (.reg [ro 5 (.buildSlice sz z 0 []),mv 6 0,rp 7 (.appendRow sz bytes (.t 5) (.t 6)),mv 2 7]) .ret))),[.t 2]⟩
theorem ar55_eq:ar55=b55 3 40 zq3:=by kernel_rfl
theorem ar54_eq:ar54=b55 1 24 (.slice 0 [] .nil):=by kernel_rfl
theorem cloneR_ev {f sz bytes:Nat} {z:PV} {af:AFunc} (haf:af=b55 sz bytes z) (hC:T.sp f=some (cloneSp af)) (hsz:0 < sz) (hb:bytes≤1000) {xs:List PV} (hne:xs≠[]) (hl:xs.length < 1000) (hc:xs.all (fun e => e.cells.all PV.isCell)=true) (h:Hp) :
 Ev T f [.slice sz xs .any] h (.val (.aref h.length sz 0 xs.length xs.length),⟨h ++ [.row sz xs],[],[]⟩):=by
 have hroom:xs.length * bytes≤room∧xs.length≤room:=by
  have h1:10000000≤room:=by decide
  have h2:xs.length * bytes≤1000 * 1000:=Nat.mul_le_mul (by omega) hb
  constructor <;> omega
 cases xs with
 | nil => exact absurd rfl hne
 | cons x xs =>
   refine ⟨1,fun n hn => ?_⟩
   obtain ⟨n,rfl⟩:∃ k,n=k+1:=⟨n - 1,by omega⟩
   have hap:∀ st:St,AE.appendrow sz bytes (.slice sz [] .lit) (.slice sz (x :: xs) .any) st=some (.aref st.h.length sz 0 (x :: xs).length (x :: xs).length,alloc (.row sz (x :: xs)) st):=fun st => by
    simp only [AE.appendrow,elems,hc,hsz,true_and,and_true,List.isEmpty_cons,if_true,SM.flush,hroom]
   simp only [evCall,hC,cloneSp,haf]
   simp [evBody,b55,evCode,evOps,evOp,wantedA,putD,eput,eget,ax,eqop,isNil,fillE,hap,alloc,oval,resv,tupled,tidy,below]
theorem sorted_lt {i:Nat} {l:List Tm} (h:RowOk s i l):∀ (d p:Nat) (x y:Tm),l[p]?=some x→l[p+d+1]?=some y→tmC x y < 0
 | 0,p,x,y,hx,hy => (h.2 (p+1) y hy).2 x (by omega) hx
 | d+1,p,x,y,hx,hy => by
   have hlt:=(List.getElem?_eq_some_iff.1 hy).1
   have hz:l[p+d+1]?=some l[p+d+1]:=List.getElem?_eq_getElem (by omega)
   exact tmC_trans _ _ _ (sorted_lt h d p x _ hx hz) ((h.2 (p+d+1+1) y hy).2 _ (by omega) hz)
theorem sorted_ne {i:Nat} {l:List Tm} (h:RowOk s i l) {p q:Nat} {x y:Tm} (hpq:p < q) (hx:l[p]?=some x) (hy:l[q]?=some y):tmC x y < 0:=by
 obtain ⟨d,rfl⟩:∃ d,q=p+d+1:=⟨q - p - 1,by omega⟩
 exact sorted_lt h d p x y hx hy
theorem caught_two {a:Nat} {l l':List Tm} (h:RowOk s a l) {i k:Nat} {x y:Tm} (hik:i≠k) (hi:l[i]?=some x) (hk:l[k]?=some y) (h1:l'[i]?=some y) (h2:l'[k]?=some x∨l'[k]?=some y):¬ RowOk s a l':=fun h' => by
 have irr:∀ z,¬ tmC z z < 0:=fun z => by rw [tmC_refl]; omega
 rcases Nat.lt_or_gt_of_ne hik with hlt | hlt
 · have a1:=sorted_ne h hlt hi hk
   rcases h2 with h2 | h2
   · exact irr _ (tmC_trans _ _ _ a1 (sorted_ne h' hlt h1 h2))
   · exact irr _ (sorted_ne h' hlt h1 h2)
 · have a1:=sorted_ne h hlt hk hi
   rcases h2 with h2 | h2
   · exact irr _ (tmC_trans _ _ _ a1 (sorted_ne h' hlt h2 h1))
   · exact irr _ (sorted_ne h' hlt h2 h1)
def domV (dom:List (List Tm)):PV:=.slice 1 (dom.map encL) .any
def vssOf (dom:List (List Tm)):List (List PV):=dom.map fun l => l.map encT
theorem domV_ok (dom:List (List Tm)) (H:Hp):DomV H (domV dom) dom (dom.map encL) (vssOf dom):=by
 refine ⟨.inl ⟨1,.any,rfl,.inr rfl⟩,by simp,by simp [vssOf],fun i v es h1 h2 => ?_,fun i l es h1 h2 => ?_,fun v hv => ?_⟩
 · simp only [List.getElem?_map,vssOf] at h1 h2
   cases hd:dom[i]? with
   | none => rw [hd] at h1; cases h1
   | some l =>
     rw [hd] at h1 h2
     cases h1; cases h2
     exact .inl ⟨3,.any,rfl,.inr rfl⟩
 · simp only [List.getElem?_map,vssOf,h1] at h2
   cases h2
   exact encL_map l
 · obtain ⟨l,_,rfl⟩:=List.mem_map.1 hv
   rfl
theorem st_row1 {H:Hp} {ws:List Nat} {ups:List (Nat × Nat)} {k n A:Nat} {xs:List PV} {z v:PV} (hk:H[k]?=some (.row 1 xs)) (hn:xs.length=n) (hz:xs[A]?=some z) (hzc:∀ cs,z≠.agg cs) (hv:v.cells=[v]∧v.isCell=true) (ht:∀ j,v.top=some j→j≤k) :
 storeAt 1 (.ptr k A 0 n) v ⟨H,ws,ups⟩=some ⟨H.set k (.row 1 (xs.set A v)),wadd k ws,ups⟩:=by
 have hva:∀ cs,v≠.agg cs:=fun cs h => by
  rw [h] at hv
  cases hv.2
 have hu:upd z 0 v=some v:=by
  unfold upd
  split
  · rename_i cs _; exact absurd rfl (hzc _)
  · split
    · exact absurd rfl (hva _)
    · rfl
 simp only [storeAt,hk,hn,hv.1,List.length_cons,List.length_nil,Nat.zero_add,List.all_cons,List.all_nil,hv.2,Bool.and_self,and_self,if_true,hz,hu,Option.map]
 cases htop:v.top with
 | none => rw [wrote_none]
 | some j =>
   have:=ht j htop
   rw [wrote_some,if_neg (by omega)]
structure OwnV (H:Hp) (v:PV) (l:List Tm) (es:List PV):Prop where
 rds:Rds H v 3 es
 enc:EncL l es
 cell:v.cells=[v]∧v.isCell=true
 sub:AE.sub false 1 v 0=some v
 top:∀ j,v.top=some j→j < H.length
include hT in
theorem with_ev (h54:T.sp 54=some (cloneSp ar54)) {t:GTy} {r:Int} (I:TyIn T t r) {nv:PV→PV × Int} (N:NVal T t nv) {dom:List (List Tm)} {A:Nat} (hA:A < dom.length) (hd:dom.length≤30) {h:Hp} {k6 k7 k8:Nat} (h6:h[k6]?=some (.row 3 [encTy t])) (h7:h[k7]?=some (.row 1 [domV dom])) (h8:h[k8]?=some (.row 1 [.int .i64 (A:Int)])) {ov:PV} {l:List Tm} {es:List PV} (O:OwnV h ov l es) :
 ∃ r':Int,Ev T 53 [ov,.ptr k7 0 0 1,.ptr k8 0 0 1,.ptr k6 0 0 1] h (.val (.int .i64 r'),⟨h,[],[]⟩)∧((r≠0∧r'=r)∨(r=0∧DomR t.sig nv (dom.set A l) ((vssOf dom).set A es) r')):=by
 refine hT.wp (r:=fun r:Int => (.val (.int .i64 r),⟨h,[],[]⟩)) fn53 (by decide) ?_
 have l7:loadAt false 1 (.ptr k7 0 0 1) h=some (domV dom):=by rw [ld_at h7]; rfl
 have hne:dom.map encL≠[]:=fun hn => by
  have:=congrArg List.length hn
  simp at this
  subst this
  simp at hA
 have evc:=cloneR_ev (T:=T) ar54_eq h54 (by omega) (by omega) hne (by simp; omega) (by
  rw [List.all_eq_true]
  intro x hx
  obtain ⟨l,_,rfl⟩:=List.mem_map.1 hx
  rfl) h
 simp only [List.length_map] at evc
 have evc:Ev T 54 [domV dom] h _:=evc
 have hkd:(h ++ [AE.Obj.row 1 (dom.map encL)])[h.length]?=some (.row 1 (dom.map encL)):=by simp
 have h81:(h ++ [AE.Obj.row 1 (dom.map encL)])[k8]?=some (.row 1 [.int .i64 (A:Int)]):=keepL h8
 have h61:(h ++ [AE.Obj.row 1 (dom.map encL)])[k6]?=some (.row 3 [encTy t]):=keepL h6
 have low1:Low h.length h (h ++ [AE.Obj.row 1 (dom.map encL)]):=(Low.refl _ _).push (Nat.le_refl _)
 have hk6l:=(List.getElem?_eq_some_iff.1 h6).1
 generalize hH1:h ++ [AE.Obj.row 1 (dom.map encL)]=H1 at *
 have l8:loadAt false 1 (.ptr k8 0 0 1) H1=some (.int .i64 (A:Int)):=by rw [ld_at h81]; rfl
 have gA:(dom.map encL)[A]?=some (encL dom[A]):=by rw [List.getElem?_map,List.getElem?_eq_getElem hA]; rfl
 have sv:=fun ws ups => st_row1 (ws:=ws) (ups:=ups) (n:=dom.length) hkd (by simp) gA (fun cs h => by cases h) O.cell (fun j hj => by have:=O.top j hj; omega)
 have hkd2:=get_set (o':=AE.Obj.row 1 ((dom.map encL).set A ov)) hkd
 have h62:=get_set_ne (o':=AE.Obj.row 1 ((dom.map encL).set A ov)) h61 (show h.length≠k6 by omega)
 have low2:Low h.length h (H1.set h.length (.row 1 ((dom.map encL).set A ov))):=low1.trans (.set (Nat.le_refl _))
 generalize hH2:H1.set h.length (.row 1 ((dom.map encL).set A ov))=H2 at *
 have l6:loadAt true 3 (.ptr k6 0 0 1) H2=some (encTy t):=by rw [ld_at h62]; rfl
 have D0:=domV_ok dom H2
 have D2:DomV H2 (.aref h.length 1 0 dom.length dom.length) (dom.set A l) ((dom.map encL).set A ov) ((vssOf dom).set A es):=by
  refine ⟨.inr ⟨h.length,by simp,hkd2⟩,by simp,by simp [vssOf],fun i v es' h1 h2 => ?_,fun i l' es' h1 h2 => ?_,fun v hv => ?_⟩
  · by_cases hi:A=i
    · subst hi
      rw [List.getElem?_set_self (by simpa using hA)] at h1
      rw [List.getElem?_set_self (by simpa [vssOf] using hA)] at h2
      cases h1; cases h2
      exact O.rds.low low2
    · rw [List.getElem?_set_ne hi] at h1 h2
      exact D0.row i v es' h1 h2
  · by_cases hi:A=i
    · subst hi
      rw [List.getElem?_set_self hA] at h1
      rw [List.getElem?_set_self (by simpa [vssOf] using hA)] at h2
      cases h1; cases h2
      exact O.enc
    · rw [List.getElem?_set_ne hi] at h1 h2
      exact D0.enc i l' es' h1 h2
  · rcases List.mem_or_eq_of_mem_set hv with h | rfl
    · exact D0.cell v h
    · exact O.sub
 obtain ⟨r',ev,hR⟩:=checkDom_ev hT I N D2 (by simp; omega)
 have td:=tidy_low (v:=.int .i64 r') (ws:=wadd h.length []) rfl rfl low2 (wadd_low (Nat.le_refl _) (by simp))
 simp (disch:=first | omega | decide | simp only [go_sem]) only [go_sem,l7,cb evc,hH1,l8,hA,sv,hH2,l6,cb ev,hT.prim,primOf,List.length_cons,List.length_nil,td]
 exact ⟨r',rfl,hR⟩
end Go.Proofs.Tryz
/- From the reading of a type and of a domain to their values. -/
namespace Go.Proofs.Tryz
open Go Go.AE
theorem cells41:Tryz.prog.cellsOf 41=3:=by kernel_rfl
theorem cells39:Tryz.prog.cellsOf 39=1:=by kernel_rfl
theorem cells135:Tryz.prog.cellsOf 135=8:=by kernel_rfl
theorem cells98:Tryz.prog.cellsOf 98=6:=by kernel_rfl
theorem cells58:Tryz.prog.cellsOf 58=1:=by kernel_rfl
section
variable {H:Type} {enc:TypeId × Value→H} {w:World} {base:Nat} {spare:Nat→Bool} {held:Bool} {ρ:Nat→Row}
theorem encPair_cells (p:Tm × Tm):(encPair p).cells.length=6:=(pair_box p).1
theorem encEqn_cells (e:GEqn):(encEqn e).cells.length=8:=(eqn_box e).1
theorem rd_pair (n:Nat):Rd enc Tryz.prog w base spare held ρ n 98 (fun _:Tm × Tm => True) encPair:=by
 intro fuel cs d ps _ h
 cases fuel with
 | zero => simp [DataW.trod] at h
 | succ fuel =>
   have Pt:=trod_struct (ρ:=ρ) Tryz.underlying98 (by simp [fieldsAt,cells28]) (by simp [sumCells,cells28,cells98]) h
   cases Pt with
   | cons f fs c1 c' d1 p1 h1 l1 r1 =>
     cases r1 with
     | cons f fs c2 c' d2 p2 h2 l2 r2 =>
       cases r2
       obtain ⟨x1,_,k1⟩:=rd_term (ρ:=ρ) fuel fuel _ _ _ (Nat.le_refl _) h1
       obtain ⟨x2,_,k2⟩:=rd_term (ρ:=ρ) fuel fuel _ _ _ (Nat.le_refl _) h2
       refine ⟨(x1,x2),trivial,?_⟩
       rw [List.append_nil]
       exact k1.append k2
theorem rd_pairs (n:Nat):Rd enc Tryz.prog w base spare held ρ n 58 (fun l:List (Tm × Tm) => ∀ x∈l,True) (fun l => .slice 6 (l.map encPair) .any) :=
 Rd.mono (rd_slice (n:=n) (en:=encPair) Tryz.underlying58 cells98 (by decide) (fun p _ => encPair_cells p) (rd_pair n)) (by omega)
theorem rd_eqn (n:Nat):Rd enc Tryz.prog w base spare held ρ n 135 (fun _:GEqn => True) encEqn:=by
 intro fuel cs d ps _ h
 cases fuel with
 | zero => simp [DataW.trod] at h
 | succ fuel =>
   have Pt:=trod_struct (ρ:=ρ) Tryz.underlying135 (by simp [fieldsAt,cells42,cells58,cells28]) (by simp [sumCells,cells42,cells58,cells28,cells135]) h
   cases Pt with
   | cons f fs c1 c' d1 p1 h1 l1 r1 =>
     cases r1 with
     | cons f fs c2 c' d2 p2 h2 l2 r2 =>
       cases r2 with
       | cons f fs c3 c' d3 p3 h3 l3 r3 =>
         cases r3 with
         | cons f fs c4 c' d4 p4 h4 l4 r4 =>
           cases r4
           obtain ⟨x1,_,k1⟩:=rd_ints (ρ:=ρ) fuel fuel _ _ _ (Nat.le_refl _) h1
           obtain ⟨x2,_,k2⟩:=rd_pairs (ρ:=ρ) fuel fuel _ _ _ (Nat.le_refl _) h2
           obtain ⟨x3,_,k3⟩:=rd_term (ρ:=ρ) fuel fuel _ _ _ (Nat.le_refl _) h3
           obtain ⟨x4,_,k4⟩:=rd_term (ρ:=ρ) fuel fuel _ _ _ (Nat.le_refl _) h4
           refine ⟨⟨x1,x2,x3,x4⟩,trivial,?_⟩
           rw [List.append_nil]
           exact k1.append (k2.append (k3.append k4))
theorem rd_eqns (n:Nat):Rd enc Tryz.prog w base spare held ρ n 39 (fun l:List GEqn => ∀ x∈l,True) (fun l => .slice 8 (l.map encEqn) .any) :=
 Rd.mono (rd_slice (n:=n) (en:=encEqn) Tryz.underlying39 cells135 (by decide) (fun e _ => encEqn_cells e) (rd_eqn n)) (by omega)
theorem rd_ty (n:Nat):Rd enc Tryz.prog w base spare held ρ n 41 (fun _:GTy => True) encTy:=by
 intro fuel cs d ps _ h
 cases fuel with
 | zero => simp [DataW.trod] at h
 | succ fuel =>
   have Pt:=trod_struct (ρ:=ρ) Tryz.underlying41 (by simp [fieldsAt,cells25]) (by simp [sumCells,cells25,cells39,cells41]) h
   cases Pt with
   | cons f fs c1 c' d1 p1 h1 l1 r1 =>
     cases r1 with
     | cons f fs c2 c' d2 p2 h2 l2 r2 =>
       cases r2
       obtain ⟨x1,_,k1⟩:=rd_sig (ρ:=ρ) fuel fuel _ _ _ (Nat.le_refl _) h1
       obtain ⟨x2,_,k2⟩:=rd_eqns (ρ:=ρ) fuel fuel _ _ _ (Nat.le_refl _) h2
       refine ⟨⟨x1,x2⟩,trivial,?_⟩
       rw [List.append_nil]
       exact k1.append k2
theorem rd_dom (n:Nat):Rd enc Tryz.prog w base spare held ρ n 43 (fun _:List (List Tm) => True) domV:=by
 intro fuel cs d ps hle h
 have:=rd_slice (n:=n) (ρ:=ρ) (en:=encL) (q:=fun _:List Tm => True) Tryz.underlying43 cells26 (by decide) (fun _ _ => rfl) (fun fuel cs d ps hle h => by
  obtain ⟨x,_,k⟩:=Rd.mono (rd_slice (n:=n) (ρ:=ρ) (en:=encT) Tryz.underlying26 cells28 (by decide) (fun t _ => encT_cells t) (rd_term n)) (by omega:n≤n+1) fuel cs d ps hle h
  exact ⟨x,trivial,k⟩) fuel cs d ps (by omega) h
 obtain ⟨x,_,k⟩:=this
 exact ⟨x,trivial,k⟩
theorem ty_in {cs:Array Value} {d:DataW H} {ps:List MemPlace} (h:DataW.Trod enc Tryz.prog w base spare held 41 (.agg cs) d ps):∃ t:GTy,VR w (oldI w) noD ρ (encTy t) (.agg cs):=by
 obtain ⟨fuel,hf⟩:=h
 obtain ⟨s,_,k1,k2⟩:=rd_ty (ρ:=ρ) fuel fuel _ _ _ (Nat.le_refl _) hf
 exact ⟨s,.agg _ cs (by simpa [Value.cells,encTy,PV.cells] using k1) fun j => k2 j⟩
theorem term_inE {cs:Array Value} {d:DataW H} {ps:List MemPlace} (h:DataW.Trod enc Tryz.prog w base spare held 28 (.agg cs) d ps):∃ t:Tm,VR w (oldI w) noD ρ (encT t) (.agg cs):=by
 obtain ⟨fuel,hf⟩:=h
 obtain ⟨t,_,k1,k2⟩:=rd_term (ρ:=ρ) fuel fuel _ _ _ (Nat.le_refl _) hf
 refine ⟨t,?_⟩
 cases t with
 | mk k n l =>
   rw [encT] at k1 k2 ⊢
   exact .agg _ cs (by simpa [Value.cells,PV.cells] using k1) fun j => k2 j
theorem dom_in {a:Option Addr} {len cap:Nat} {d:DataW H} {ps:List MemPlace} (h:DataW.Trod enc Tryz.prog w base spare held 43 (.slice a len cap) d ps):∃ dom:List (List Tm),VR w (oldI w) noD ρ (domV dom) (.slice a len cap):=by
 obtain ⟨fuel,hf⟩:=h
 obtain ⟨x,_,k1,k2⟩:=rd_dom (ρ:=ρ) fuel fuel _ _ _ (Nat.le_refl _) hf
 exact ⟨x,by simpa [domV,PV.cells,Value.cells] using k2 0⟩
end
end Go.Proofs.Tryz
/- The law ValsCaught, whole. -/
namespace Go.Proofs.Tryz
open Go Go.AE
variable {T:Tbl} (hT:Std T) {s:GSig}
def a8m:ACode:=(.seq (.reg [mv 80 13,rp 81 (.call (.f 55) [(.t 80)]),mv 15 81]) (.seq (.regD [mv 82 15,rd 83 (mo 3) false 1 0 false,rd 84 (mo 15) false 2 0 false,rd 85 (mo 4) false 3 0 false,rd 86 (mo 15) false 4 0 false,rd 87 (mo 4) false 5 0 false,rd 88 (ix 3 86 87) false 6 48 false,rd 89 (l3 88) true 7 112 false,rd 90 (mo 15) false 8 0 false,rd 91 (mo 3) false 9 0 true,rd 92 (ix 3 90 91) false 10 768 true,rd 93 (l3 92) true 11 1792 true,rd 94 (ix 3 82 83) false 12 4083 true,wr (so 3 94 89) 13 8179 true,rd 95 (ix 3 84 85) false 14 16383 true,wr (so 3 95 93) 15 32767 true]) (.seq (.seq (.reg [mv 96 14,mv 97 15,rp 98 (.call (.t 96) [(.t 97)]),ro 99 (bc .neq 98 90)]) (.cond (.t 99) (.seq (.reg [ro 12 (.move (.c (.bool false)))]) .ret) .skip)) (.seq (.reg [mv 100 13,rp 101 (.call (.f 55) [(.t 100)]),mv 15 101]) (.seq (.reg [mv 102 15,mv 103 3,mv 104 15,mv 105 4,ro 106 (ix 3 104 105),rp 107 (l3 106),ro 108 (ix 3 102 103),ws 3 108 107]) (.seq (.reg [mv 109 14,mv 110 15,rp 111 (.call (.t 109) [(.t 110)]),ro 112 (bc .neq 111 90)]) (.cond (.t 112) (.seq (.reg [ro 12 (.move (.c (.bool false)))]) .ret) .skip)))))))
def a8r:ACode:=(.seq (.reg [ro 114 (fa 0 6),rp 115 (la true 2 114),rp 116 (l3 11),rp 117 (.call (.f 45) [(.t 115),(.c (.slice 0 [] .nil)),(.t 116)]),mv 113 117,ro 118 (et 113 0),ro 119 (et 113 1),mv 16 118,mv 17 119]) (.seq (.reg [rp 121 (l3 6),rp 122 (l3 11),rp 123 (.call (.f 50) [(.t 121),(.t 122)]),mv 120 123,ro 124 (et 120 0),ro 125 (et 120 1),rp 18 (.box 3 (.c zq3)),ws 3 18 124,mv 19 125]) (.seq (.seq (.reg [mv 126 17,ro 127 (bc .neq 126 0),mv 128 127,rg 129 (mo 19) 128 false,rg 130 (bc .neq 129 0) 128 false,ro 131 (.pick (.t 128) (.c (.bool true)) (.t 130)),mv 132 131,rg 133 (mo 16) 132 false,rh 134 (l1 8) 132 false,rg 135 (bi .eql 133 134) 132 false,rg 136 (mo 135) 132 false,rh 137 (l3 11) 136 true,rh 138 (l3 18) 136 true,rh 139 (.call (.f 22) [(.t 137),(.t 138)]) 136 true,rg 140 (.pick (.t 136) (.t 139) (.c (.bool false))) 132 false,ro 141 (.pick (.t 132) (.c (.bool true)) (.t 140))]) (.cond (.t 141) (.seq (.reg [ro 12 (.move (.c (.bool true)))]) .ret) .skip)) (.seq (.reg [mv 142 14,rp 143 (l3 11),ro 144 (.buildSlice 3 zq3 1 [(0,(.t 143))]),rp 145 (.call (.t 142) [(.t 144)]),ro 146 (bc .eql 145 90),mv 12 146]) .ret))))
def a8':AFunc:=⟨6,147,(.seq (.reg [rp 6 (.box 3 (.t 0)),rp 7 (.box 1 (.t 1)),rp 8 (.box 1 (.t 2)),rp 11 (.box 3 (.t 5)),ro 12 (.move (.c (.bool false)))]) (.seq (.seq (.reg [rp 20 (.call (.f 15) []),ro 21 (no 20)]) (.cond (.t 21) (.seq (.reg [ro 12 (.move (.c (.bool false)))]) .ret) .skip)) (.seq (.seq (.reg [rp 22 (l3 6),rp 23 (.call (.f 23) [(.t 22)]),ro 24 (no 23),mv 25 24,rh 26 (l1 7) 25 false,rh 27 (.call (.f 24) [(.t 26)]) 25 false,rg 28 (no 27) 25 false,ro 29 (.pick (.t 25) (.c (.bool true)) (.t 28)),mv 30 29,rh 31 (l3 11) 30 false,rg 32 (.buildSlice 3 zq3 1 [(0,(.t 31))]) 30 false,rh 33 (.call (.f 17) [(ci 60),(.t 32)]) 30 false,rg 34 (no 33) 30 false,ro 35 (.pick (.t 30) (.c (.bool true)) (.t 34)),mv 36 35,rh 37 (l3 6) 36 false,rh 38 (l1 7) 36 false,rh 39 (.call (.f 25) [(.t 37),(.t 38)]) 36 false,rg 40 (bc .neq 39 0) 36 false,ro 41 (.pick (.t 36) (.c (.bool true)) (.t 40)),mv 42 41,rh 43 (l1 8) 42 false,rg 44 (bc .lss 43 0) 42 false,ro 45 (.pick (.t 42) (.c (.bool true)) (.t 44)),mv 46 45,rh 47 (l1 8) 46 false,rh 48 (l1 7) 46 false,rg 49 (ll 48) 46 false,rg 50 (bi .geq 47 49) 46 false,ro 51 (.pick (.t 46) (.c (.bool true)) (.t 50))]) (.cond (.t 51) (.seq (.reg [ro 12 (.move (.c (.bool true)))]) .ret) .skip)) (.seq (.reg [rp 52 (l1 7),rp 53 (l1 8),ro 54 (ix 1 52 53),rp 55 (l1 54),mv 13 55]) (.seq (.reg [ro 56 (.mkFunc (.func 53) [] [(.t 7),(.t 8),(.t 6)]),mv 14 56]) (.seq (.seq (.reg [mv 57 3,ro 58 (bc .geq 57 0),mv 59 58,rg 60 (mo 3) 59 true,rg 61 (mo 13) 59 true,rg 62 (ll 61) 59 true,rg 63 (bi .lss 60 62) 59 true,ro 64 (.pick (.t 59) (.t 63) (.c (.bool false))),mv 65 64,rg 66 (mo 4) 65 true,rg 67 (bc .geq 66 0) 65 true,ro 68 (.pick (.t 65) (.t 67) (.c (.bool false))),mv 69 68,rg 70 (mo 4) 69 true,rg 71 (mo 13) 69 true,rg 72 (ll 71) 69 true,rg 73 (bi .lss 70 72) 69 true,ro 74 (.pick (.t 69) (.t 73) (.c (.bool false))),mv 75 74,rg 76 (mo 3) 75 true,rg 77 (mo 4) 75 true,rg 78 (bi .neq 76 77) 75 true,ro 79 (.pick (.t 75) (.t 78) (.c (.bool false)))]) (.cond (.t 79)
 a8m .skip))
 a8r)))))),[.t 12]⟩
theorem fn8':fnOf 8=some a8':=by kernel_rfl
structure Law8 (H:Hp) (n0:Nat) (t:GTy) (dom:List (List Tm)) (A:Nat) (X:PV):Prop where
 k6:H[n0]?=some (.row 3 [encTy t])
 k7:H[n0+1]?=some (.row 1 [domV dom])
 k8:H[n0+2]?=some (.row 1 [.int .i64 (A:Int)])
 k11:H[n0+3]?=some (.row 3 [X])
theorem Law8.low {h H:Hp} {n0:Nat} {t:GTy} {dom:List (List Tm)} {A:Nat} {X:PV} (L:Law8 h n0 t dom A X) (hl:Low h.length h H):Law8 H n0 t dom A X:=by
 obtain ⟨a,b,c,d⟩:=L
 have q:=fun {k:Nat} {o:AE.Obj} (x:h[k]?=some o) => hl.get (List.getElem?_eq_some_iff.1 x).1 x
 exact ⟨q a,q b,q c,q d⟩
theorem dom_at {dom:List (List Tm)} {A:Nat} (hA:A < dom.length) {l:List Tm}:(dom.set A l)[A]?=some l:=List.getElem?_set_self hA
set_option maxRecDepth 8000 in
include hT in
theorem then_ok (h54:T.sp 54=some (cloneSp ar54)) (h55:T.sp 55=some (cloneSp ar55)) {t:GTy} (I:TyIn T t 0) {nv:PV→PV × Int} (N:NVal T t nv) {dom:List (List Tm)} {A:Nat} (hA:A < dom.length) (hd:dom.length≤30) (D1:Dom1 t.sig dom) {l:List Tm} (hl:dom[A]?=some l) {i k:Nat} (hi:i < l.length) (hk:k < l.length) (hik:i≠k)
 {H:Hp} {ws:List Nat} {n0:Nat} {X:PV} (L:Law8 H n0 t dom A X) {e:List PV} (e3:eget e 3=.int .i64 (i:Int)) (e4:eget e 4=.int .i64 (k:Int)) (e6:eget e 6=.ptr n0 0 0 1) (e8:eget e 8=.ptr (n0+2) 0 0 1) (e11:eget e 11=.ptr (n0+3) 0 0 1) (e13:eget e 13=encL l) (e14:eget e 14=.func (.func 53) [] [.ptr (n0+1) 0 0 1,.ptr (n0+2) 0 0 1,.ptr n0 0 0 1])
 {Q:AExit→List PV→St→Prop} (hw:∀ x∈ws,n0≤x) (hQ:∀ (e':List PV) (H':Hp) (ws':List Nat),Low H.length H H'→(∀ x∈ws',n0≤x)→eget e' 6=.ptr n0 0 0 1→eget e' 8=.ptr (n0+2) 0 0 1→eget e' 11=.ptr (n0+3) 0 0 1→eget e' 14=.func (.func 53) [] [.ptr (n0+1) 0 0 1,.ptr (n0+2) 0 0 1,.ptr n0 0 0 1]→Q .normal e' ⟨H',ws',[]⟩):wpC T a8m e ⟨H,ws,[]⟩ Q:=by
 have hn0:=(List.getElem?_eq_some_iff.1 L.k11).1
 have hR:=D1.2 A l hl
 have hl64:=hR.1
 have hne:l.map encT≠[]:=fun hn => by
  have:=congrArg List.length hn
  simp at this
  subst this
  simp at hi
 have hcell:((l.map encT).all fun e => e.cells.all PV.isCell)=true:=by
  rw [List.all_eq_true]
  intro x hx
  obtain ⟨t,_,rfl⟩:=List.mem_map.1 hx
  exact (encT_facts t).1
 have evc:=fun h => cloneR_ev (T:=T) ar55_eq h55 (by omega) (by omega) hne (by simp; omega) hcell h
 simp only [List.length_map] at evc
 have evc:∀ h,Ev T 55 [encL l] h (.val (.aref h.length 3 0 l.length l.length),⟨h ++ [AE.Obj.row 3 (l.map encT)],[],[]⟩):=evc
 have gi:(l.map encT)[i]?=some (encT l[i]):=by rw [List.getElem?_map,List.getElem?_eq_getElem hi]; rfl
 have gk:(l.map encT)[k]?=some (encT l[k]):=by rw [List.getElem?_map,List.getElem?_eq_getElem hk]; rfl
 have hli:l[i]?=some l[i]:=List.getElem?_eq_getElem hi
 have hlk:l[k]?=some l[k]:=List.getElem?_eq_getElem hk
 generalize l[i]=x at *
 generalize l[k]=y at *
 have fx:=encT_facts x
 have fy:=encT_facts y
 have ax':=(enc_encT x).sub
 have ay':=(enc_encT y).sub
 have cx:(encT x).cells.length=3∧∃ cs,encT x=.agg cs:=⟨encT_cells x,(enc_encT x).cells.2.2.2⟩
 have cy:(encT y).cells.length=3∧∃ cs,encT y=.agg cs:=⟨encT_cells y,(enc_encT y).cells.2.2.2⟩
 have r1:(H ++ [AE.Obj.row 3 (l.map encT)])[H.length]?=some (.row 3 (l.map encT)):=by simp
 have L1:=L.low (H:=H ++ [AE.Obj.row 3 (l.map encT)]) ((Low.refl _ _).push (Nat.le_refl _))
 have low1:Low H.length H (H ++ [AE.Obj.row 3 (l.map encT)]):=(Low.refl _ _).push (Nat.le_refl _)
 have hl1:(H ++ [AE.Obj.row 3 (l.map encT)]).length=H.length+1:=by simp
 have ev1:=evc H
 generalize hH1:H ++ [AE.Obj.row 3 (l.map encT)]=H1 at *
 generalize hko:H.length=ko at *
 have lk:loadAt true 3 (.ptr ko k 0 l.length) H1=some (encT y):=by rw [ld_slot r1 (by simp) gk]; exact ay'
 have li:loadAt true 3 (.ptr ko i 0 l.length) H1=some (encT x):=by rw [ld_slot r1 (by simp) gi]; exact ax'
 have sv1:=fun ws ups => st_slot (ws:=ws) (ups:=ups) (n:=l.length) r1 (by simp) gi cx ⟨cy.1,fy.1,cy.2⟩ fy.2.2
 have r2:=get_set (o':=AE.Obj.row 3 ((l.map encT).set i (encT y))) r1
 have low2:Low ko H (H1.set ko (.row 3 ((l.map encT).set i (encT y)))):=low1.trans (.set (Nat.le_refl _))
 have hl2:(H1.set ko (.row 3 ((l.map encT).set i (encT y)))).length=ko+1:=by simp [hl1]
 generalize hH2:H1.set ko (.row 3 ((l.map encT).set i (encT y)))=H2 at *
 have gk2:((l.map encT).set i (encT y))[k]?=some (encT y):=by rw [List.getElem?_set_ne hik]; exact gk
 have sv2:=fun ws ups => st_slot (ws:=ws) (ups:=ups) (n:=l.length) r2 (by simp) gk2 cy ⟨cx.1,fx.1,cx.2⟩ fx.2.2
 have r3:=get_set (o':=AE.Obj.row 3 (((l.map encT).set i (encT y)).set k (encT x))) r2
 have low3:Low ko H (H2.set ko (.row 3 (((l.map encT).set i (encT y)).set k (encT x)))):=low2.trans (.set (Nat.le_refl _))
 have hl3:(H2.set ko (.row 3 (((l.map encT).set i (encT y)).set k (encT x)))).length=ko+1:=by simp [hl2]
 have low3':Low H.length H (H2.set ko (.row 3 (((l.map encT).set i (encT y)).set k (encT x)))):=by rw [hko]; exact low3
 have L3:=L.low low3'
 generalize hH3:H2.set ko (.row 3 (((l.map encT).set i (encT y)).set k (encT x)))=H3 at *
 have E3:EncL ((l.set i y).set k x) (((l.map encT).set i (encT y)).set k (encT x)):=by
  have:((l.map encT).set i (encT y)).set k (encT x)=((l.set i y).set k x).map encT:=by rw [List.map_set,List.map_set]
  rw [this]; exact encL_map _
 have O3:OwnV H3 (.aref ko 3 0 l.length l.length) ((l.set i y).set k x) (((l.map encT).set i (encT y)).set k (encT x)):=⟨.inr ⟨ko,by simp,r3⟩,E3,⟨rfl,rfl⟩,rfl,fun j hj => by cases hj; omega⟩
 obtain ⟨q1,w1,hq1⟩:=with_ev hT h54 I N hA hd L3.k6 L3.k7 L3.k8 O3
 have b1:(q1 != 90)=false:=by
  rcases hq1 with ⟨h,_⟩ | ⟨_,hq⟩
  · exact absurd rfl h
  · by_cases h90:q1=90
    · simp [h90]
    · refine absurd ((hq.yes h90).1.2 A _ (dom_at hA)) (caught_two hR hik hli hlk ?_ (.inl ?_))
      · rw [List.getElem?_set_ne (Ne.symm hik),List.getElem?_set_self hi]
      · rw [List.getElem?_set_self (by simpa using hk)]
 have ev4:=evc H3
 have r4:(H3 ++ [AE.Obj.row 3 (l.map encT)])[H3.length]?=some (.row 3 (l.map encT)):=by simp
 have low4:Low ko H (H3 ++ [AE.Obj.row 3 (l.map encT)]):=low3.push (by omega)
 have hl4:(H3 ++ [AE.Obj.row 3 (l.map encT)]).length=ko+2:=by simp [hl3]
 generalize hH4:H3 ++ [AE.Obj.row 3 (l.map encT)]=H4 at *
 generalize hkp:H3.length=kp at *
 have lk4:loadAt true 3 (.ptr kp k 0 l.length) H4=some (encT y):=by rw [ld_slot r4 (by simp) gk]; exact ay'
 have sv4:=fun ws ups => st_slot (ws:=ws) (ups:=ups) (n:=l.length) r4 (by simp) gi cx ⟨cy.1,fy.1,cy.2⟩ fy.2.2
 have r5:=get_set (o':=AE.Obj.row 3 ((l.map encT).set i (encT y))) r4
 have low5:Low ko H (H4.set kp (.row 3 ((l.map encT).set i (encT y)))):=low4.trans (.set (by omega))
 have low5':Low H.length H (H4.set kp (.row 3 ((l.map encT).set i (encT y)))):=by rw [hko]; exact low5
 have hl5:(H4.set kp (.row 3 ((l.map encT).set i (encT y)))).length=ko+2:=by simp [hl4]
 have L5:=L.low low5'
 generalize hH5:H4.set kp (.row 3 ((l.map encT).set i (encT y)))=H5 at *
 have E5:EncL (l.set i y) ((l.map encT).set i (encT y)):=by
  have:(l.map encT).set i (encT y)=(l.set i y).map encT:=by rw [List.map_set]
  rw [this]; exact encL_map _
 have O5:OwnV H5 (.aref kp 3 0 l.length l.length) (l.set i y) ((l.map encT).set i (encT y)):=⟨.inr ⟨kp,by simp,r5⟩,E5,⟨rfl,rfl⟩,rfl,fun j hj => by cases hj; omega⟩
 obtain ⟨q2,w2,hq2⟩:=with_ev hT h54 I N hA hd L5.k6 L5.k7 L5.k8 O5
 have b2:(q2 != 90)=false:=by
  rcases hq2 with ⟨h,_⟩ | ⟨_,hq⟩
  · exact absurd rfl h
  · by_cases h90:q2=90
    · simp [h90]
    · refine absurd ((hq.yes h90).1.2 A _ (dom_at hA)) (caught_two hR hik hli hlk ?_ (.inr ?_))
      · rw [List.getElem?_set_self hi]
      · rw [List.getElem?_set_ne hik]; exact hlk
 unfold a8m
 simp (disch:=first | omega | decide | simp only [go_sem]) only [go_sem,e3,e4,e6,e8,e11,e13,e14,cb ev1,hko,hH1,hi,hk,lk,li,sv1,hH2,sv2,hH3,cb w1,b1,cb ev4,hkp,hH4,lk4,sv4,hH5,cb w2,b2,hT.prim,primOf,List.length_cons,List.length_nil]
 refine hQ _ H5 _ low5 (wadd_low (by omega) (wall_low (wadd_low (by omega) (by simp)) (wall_low (wadd_low (by omega) (by simp)) hw))) ?_ ?_ ?_ ?_ <;> simp only [go_sem,e6,e8,e11,e14]
set_option maxRecDepth 8000 in
include hT in
theorem rest_ok (h54:T.sp 54=some (cloneSp ar54)) {t:GTy} (I:TyIn T t 0) {nv:PV→PV × Int} (N:NVal T t nv) {dom:List (List Tm)} {A:Nat} (hA:A < dom.length) (hd:dom.length≤30) {x:Tm} {X:PV} (hX:Enc x X) (hxn:x.nodes≤60)
 {h H:Hp} {ws:List Nat} (low:Low h.length h H) (L:Law8 H h.length t dom A X) {e:List PV} (e6:eget e 6=.ptr h.length 0 0 1) (e8:eget e 8=.ptr (h.length+2) 0 0 1) (e11:eget e 11=.ptr (h.length+3) 0 0 1) (e14:eget e 14=.func (.func 53) [] [.ptr (h.length+1) 0 0 1,.ptr (h.length+2) 0 0 1,.ptr h.length 0 0 1]) (hw:∀ x∈ws,h.length≤x) :
 wpC T a8r e ⟨H,ws,[]⟩ (fin [.t 12] 0 h.length fun p => p=(.val (.bool true),⟨h,[],[]⟩)):=by
 have hn0:=(List.getElem?_eq_some_iff.1 L.k11).1
 have lg:loadAt true 2 (.ptr h.length 0 0 1) H=some (encSig t.sig):=by rw [ld_at L.k6]; rfl
 have lt:loadAt true 3 (.ptr h.length 0 0 1) H=some (encTy t):=by rw [ld_at L.k6]; rfl
 have lx:loadAt true 3 (.ptr (h.length+3) 0 0 1) H=some X:=by rw [ld_at L.k11]; exact hX.sub
 have evs:=sortX_ev hT (I.G rfl) (I.E87 rfl) hX H
 obtain ⟨hNX,evn⟩:=N x X hX
 have evn:=evn H
 obtain ⟨q1,q2,q4,q5,q6,q7,q8⟩:=hNX.facts
 have hnv:∀ Q er,(nv X).1=Q→(nv X).2=er→NormX (Q,er):=fun Q er h1 h2 => by rw [← h1,← h2]; exact hNX
 obtain ⟨Q,hQ⟩:∃ Q,(nv X).1=Q:=⟨_,rfl⟩
 obtain ⟨er,her⟩:∃ er,(nv X).2=er:=⟨_,rfl⟩
 have hNX:=hnv Q er hQ her
 rw [hQ,her] at evn
 rw [hQ] at q1 q2 q4 q5 q6 q7 q8
 have sb:=st_box (h:=H) (ws:=ws) (ups:=[]) (z:=zq3) (sz:=3) (c:=Q) q1 rfl q2 q5 ⟨_,rfl⟩ q4
 have kQ:(H ++ [AE.Obj.row 3 [Q]])[H.length]?=some (.row 3 [Q]):=by simp
 have low1:Low h.length h (H ++ [AE.Obj.row 3 [Q]]):=low.push low.len
 have L1:=L.low (H:=H ++ [AE.Obj.row 3 [Q]]) ((Low.refl _ _).push (Nat.le_refl _))
 have hw1:∀ y∈wadd H.length ws,h.length≤y:=wadd_low low.len hw
 generalize hH1:H ++ [AE.Obj.row 3 [Q]]=H1 at *
 generalize hk18:H.length=k18 at *
 have td:∀ b:Bool,tidy 0 h.length (.val (.bool b)) ⟨H1,wadd k18 ws,[]⟩=(.val (.bool b),⟨h,[],[]⟩):=fun b => tidy_low rfl rfl low1 hw1
 have l8:loadAt false 1 (.ptr (h.length+2) 0 0 1) H1=some (.int .i64 (A:Int)):=by rw [ld_at L1.k8]; rfl
 have lx1:loadAt true 3 (.ptr (h.length+3) 0 0 1) H1=some X:=by rw [ld_at L1.k11]; exact hX.sub
 have lQ:loadAt true 3 (.ptr k18 0 0 1) H1=some Q:=by rw [ld_at kQ]; exact q8
 obtain ⟨c1,c2,c3,c4⟩:=hX.cells
 have f1:=fe_1 (p:=X) ⟨c1,c3⟩
 unfold a8r
 by_cases he:(sortX t.sig x).2=0
 rotate_left
 · have hb:((sortX t.sig x).2 != 0)=true:=by simpa using he
   simp (disch:=first | omega | decide | simp only [go_sem]) only [go_sem,e6,e8,e11,e14,lg,lt,lx,cb evs,cb evn,hk18,sb,hH1,hb,hT.prim,primOf,List.length_cons,List.length_nil,td]
 have hb:((sortX t.sig x).2 != 0)=false:=by simpa using he
 by_cases hg:er=0
 rotate_left
 · have hb2:(er != 0)=true:=by simpa using hg
   simp (disch:=first | omega | decide | simp only [go_sem]) only [go_sem,e6,e8,e11,e14,lg,lt,lx,cb evs,cb evn,hk18,sb,hH1,hb,hb2,hT.prim,primOf,List.length_cons,List.length_nil,td]
 have hb2:(er != 0)=false:=by simpa using hg
 obtain ⟨u,hu,hut⟩:∃ u,Enc u Q∧treeB u=true:=by
  rcases hNX with ⟨_,u,hu,hut⟩ | ⟨h,_⟩
  · exact ⟨u,hu,hut⟩
  · exact absurd hg h
 have evm:=sameX_ev hT hX u Q hu (by omega) H1
 have O1:OwnV H1 (.slice 3 [X] .lit) [x] [X]:=⟨.inl ⟨3,.lit,rfl,.inr rfl⟩,⟨rfl,fun i y q h1 h2 => by
  cases i with
  | zero => simp at h1 h2; subst h1 h2; exact hX
  | succ i => simp at h1⟩,⟨rfl,rfl⟩,rfl,fun j hj => by
    have ht:(PV.slice 3 [X] .lit).top=none:=by
     show omax none (omax X.top none)=none
     rw [hX.facts.1]; rfl
    rw [ht] at hj; cases hj⟩
 obtain ⟨r1,w1,hr1⟩:=with_ev hT h54 I N hA hd L1.k6 L1.k7 L1.k8 O1
 have fin90:((sortX t.sig x).1=(A:Int)→tmB x u=false)→r1=90:=fun hno => by
  rcases hr1 with ⟨h,_⟩ | ⟨_,hR⟩
  · exact absurd rfl h
  · by_cases h90:r1=90
    · exact h90
    · obtain ⟨d1,d2⟩:=hR.yes h90
      have hs:=((d1.2 A _ (dom_at hA)).2 0 x rfl).1
      have ho:=d2 A 0 [x] [X] x X (dom_at hA) (List.getElem?_set_self (by simpa [vssOf] using hA)) rfl rfl (her.trans hg)
      rw [hQ] at ho
      have hxu:=ho.inj hu
      have:=hno hs.2
      rw [(tmB_iff x u).2 hxu] at this
      cases this
 by_cases hs:(sortX t.sig x).1=(A:Int)
 · have hb3:((sortX t.sig x).1 == (A:Int))=true:=by simpa using hs
   cases htm:tmB x u
   · rw [htm] at evm
     have h90:=fin90 fun _ => htm
     subst h90
     simp (disch:=first | omega | decide | simp only [go_sem]) only [go_sem,e6,e8,e11,e14,lg,lt,lx,cb evs,cb evn,hk18,sb,hH1,hb,hb2,l8,hb3,lx1,lQ,cb evm,f1,cb w1,hT.prim,primOf,List.length_cons,List.length_nil,td]
   · rw [htm] at evm
     simp (disch:=first | omega | decide | simp only [go_sem]) only [go_sem,e6,e8,e11,e14,lg,lt,lx,cb evs,cb evn,hk18,sb,hH1,hb,hb2,l8,hb3,lx1,lQ,cb evm,hT.prim,primOf,List.length_cons,List.length_nil,td]
 · have hb3:((sortX t.sig x).1 == (A:Int))=false:=by simpa using hs
   have h90:=fin90 fun h => absurd h hs
   subst h90
   simp (disch:=first | omega | decide | simp only [go_sem]) only [go_sem,e6,e8,e11,e14,lg,lt,lx,cb evs,cb evn,hk18,sb,hH1,hb,hb2,l8,hb3,lx1,f1,cb w1,hT.prim,primOf,List.length_cons,List.length_nil,td]
end Go.Proofs.Tryz
/- The law ValsCaught in the evaluator. -/
namespace Go.Proofs.Tryz
open Go Go.AE
variable {T:Tbl} (hT:Std T) {s:GSig}
set_option maxRecDepth 20000 in
include hT in
theorem caught_law (h54:T.sp 54=some (cloneSp ar54)) (h55:T.sp 55=some (cloneSp ar55)) (E15:∀ h,Ev T 15 [] h (.val (.bool true),⟨h,[],[]⟩)) {t:GTy} (ETy:LittleP t→∃ r,TyIn T t r∧∃ nv,NVal T t nv) (dom:List (List Tm)) (a i k:Int) (x:Tm) (h:Hp) :
 Ev T 8 [encTy t,domV dom,.int .i64 a,.int .i64 i,.int .i64 k,encT x] h (.val (.bool true),⟨h,[],[]⟩):=by
 refine Ev.walk (mode:=0) (hT.sp _ (by decide)) ((hT.fn _).trans fn8') (show T.mode 8=0 from hT.mode 8) rfl ?_
 have hX:=enc_encT x
 generalize encT x=X at *
 obtain ⟨c1,c2,c3,c4⟩:=hX.cells
 have k61:(h ++ [AE.Obj.row 3 [encTy t]])[h.length]?=some (.row 3 [encTy t]):=by simp
 have low1:Low h.length h (h ++ [AE.Obj.row 3 [encTy t]]):=(Low.refl _ _).push (Nat.le_refl _)
 have hl1:(h ++ [AE.Obj.row 3 [encTy t]]).length=h.length+1:=by simp
 generalize hH1:h ++ [AE.Obj.row 3 [encTy t]]=H1 at *
 have k72:(H1 ++ [AE.Obj.row 1 [domV dom]])[h.length+1]?=some (.row 1 [domV dom]):=by rw [← hl1]; simp
 have k62:(H1 ++ [AE.Obj.row 1 [domV dom]])[h.length]?=some (.row 3 [encTy t]):=keepL k61
 have low2:Low h.length h (H1 ++ [AE.Obj.row 1 [domV dom]]):=low1.push (by omega)
 have hl2:(H1 ++ [AE.Obj.row 1 [domV dom]]).length=h.length+2:=by simp; omega
 generalize hH2:H1 ++ [AE.Obj.row 1 [domV dom]]=H2 at *
 have k83:(H2 ++ [AE.Obj.row 1 [.int .i64 a]])[h.length+2]?=some (.row 1 [.int .i64 a]):=by rw [← hl2]; simp
 have k73:(H2 ++ [AE.Obj.row 1 [.int .i64 a]])[h.length+1]?=some (.row 1 [domV dom]):=keepL k72
 have k63:(H2 ++ [AE.Obj.row 1 [.int .i64 a]])[h.length]?=some (.row 3 [encTy t]):=keepL k62
 have low3:Low h.length h (H2 ++ [AE.Obj.row 1 [.int .i64 a]]):=low2.push (by omega)
 have hl3:(H2 ++ [AE.Obj.row 1 [.int .i64 a]]).length=h.length+3:=by simp; omega
 generalize hH3:H2 ++ [AE.Obj.row 1 [.int .i64 a]]=H3 at *
 have k114:(H3 ++ [AE.Obj.row 3 [X]])[h.length+3]?=some (.row 3 [X]):=by rw [← hl3]; simp
 have k84:(H3 ++ [AE.Obj.row 3 [X]])[h.length+2]?=some (.row 1 [.int .i64 a]):=keepL k83
 have k74:(H3 ++ [AE.Obj.row 3 [X]])[h.length+1]?=some (.row 1 [domV dom]):=keepL k73
 have k64:(H3 ++ [AE.Obj.row 3 [X]])[h.length]?=some (.row 3 [encTy t]):=keepL k63
 have low4:Low h.length h (H3 ++ [AE.Obj.row 3 [X]]):=low3.push (by omega)
 generalize hH4:H3 ++ [AE.Obj.row 3 [X]]=H4 at *
 have lt:loadAt true 3 (.ptr h.length 0 0 1) H4=some (encTy t):=by rw [ld_at k64]; rfl
 have l7:loadAt false 1 (.ptr (h.length+1) 0 0 1) H4=some (domV dom):=by rw [ld_at k74]; rfl
 have l8:loadAt false 1 (.ptr (h.length+2) 0 0 1) H4=some (.int .i64 a):=by rw [ld_at k84]; rfl
 have lx:loadAt true 3 (.ptr (h.length+3) 0 0 1) H4=some X:=by rw [ld_at k114]; exact hX.sub
 have cd:(domV dom).cells.length=1∧(domV dom).isDef=true:=⟨rfl,rfl⟩
 have f1:=fe_1 (p:=X) ⟨c1,c3⟩
 have td:tidy 0 h.length (.val (.bool true)) ⟨H4,[],[]⟩=(.val (.bool true),⟨h,[],[]⟩):=tidy_low rfl rfl low4 (by simp)
 have e15:=cb (E15 H4)
 obtain ⟨b1,ev1,hb1⟩:=little_ev hT t H4
 cases b1
 · simp (disch:=first | omega | decide | simp only [go_sem]) only [go_sem,hH1,hl1,hH2,hl2,hH3,hl3,hH4,c1,c3,cd.1,cd.2,ty_len,ty_def,e15,lt,l7,l8,lx,cb ev1,Bool.not_false,Bool.not_true,hT.prim,primOf,List.length_cons,List.length_nil,td]
 have hLit:=hb1 rfl
 obtain ⟨r,I,nv,N⟩:=ETy hLit
 obtain ⟨b2,ev2,hb2⟩:=plain_ev hT dom H4
 have ev2:Ev T 24 [domV dom] H4 _:=ev2
 cases b2
 · simp (disch:=first | omega | decide | simp only [go_sem]) only [go_sem,hH1,hl1,hH2,hl2,hH3,hl3,hH4,c1,c3,cd.1,cd.2,ty_len,ty_def,e15,lt,l7,l8,lx,cb ev1,cb ev2,Bool.not_false,Bool.not_true,hT.prim,primOf,List.length_cons,List.length_nil,td]
 obtain ⟨hd,hpl⟩:=hb2 rfl
 obtain ⟨b3,ev3,hb3⟩:=fewL_ev hT (lim:=60) ⟨by omega,by omega⟩ (l:=[x]) (sz:=3) (es:=[X]) (m:=.lit) (.inr rfl) rfl (fun i y q h1 h2 => by
  cases i with
  | zero => simp at h1 h2; subst h1 h2; exact hX
  | succ i => simp at h1) H4
 cases b3
 · simp (disch:=first | omega | decide | simp only [go_sem]) only [go_sem,hH1,hl1,hH2,hl2,hH3,hl3,hH4,c1,c3,cd.1,cd.2,ty_len,ty_def,e15,lt,l7,l8,lx,f1,cb ev1,cb ev2,cb ev3,Bool.not_false,Bool.not_true,hT.prim,primOf,List.length_cons,List.length_nil,td]
 have hxn:x.nodes≤60:=by have:=hb3 rfl; simp only [nodesL] at this; omega
 obtain ⟨r',ev4,hr4⟩:=checkDom_ev hT I N (domV_ok dom H4) (by omega)
 by_cases hr0:r'=0
 rotate_left
 · have hb4:(r' != 0)=true:=by simpa using hr0
   simp (disch:=first | omega | decide | simp only [go_sem]) only [go_sem,hH1,hl1,hH2,hl2,hH3,hl3,hH4,c1,c3,cd.1,cd.2,ty_len,ty_def,e15,lt,l7,l8,lx,f1,cb ev1,cb ev2,cb ev3,cb ev4,hb4,Bool.not_false,Bool.not_true,hT.prim,primOf,List.length_cons,List.length_nil,td]
 subst hr0
 have hb4:((0:Int) != 0)=false:=rfl
 obtain ⟨rfl,hD⟩:r=0∧DomR t.sig nv dom (vssOf dom) 0:=by
  rcases hr4 with ⟨h1,h2⟩ | h
  · exact absurd h2.symm h1
  · exact h
 have hD1:=(hD.yes (by decide)).1
 have len7:lenOf (domV dom)=some dom.length:=by simp [domV,lenOf]
 by_cases ha0:a < 0
 · simp (disch:=first | omega | decide | simp only [go_sem]) only [go_sem,hH1,hl1,hH2,hl2,hH3,hl3,hH4,c1,c3,cd.1,cd.2,ty_len,ty_def,e15,lt,l7,l8,lx,f1,cb ev1,cb ev2,cb ev3,cb ev4,hb4,ha0,Bool.not_false,Bool.not_true,hT.prim,primOf,List.length_cons,List.length_nil,td]
 obtain ⟨A,rfl⟩:=Int.eq_ofNat_of_zero_le (show 0≤a by omega)
 by_cases hA:dom.length≤A
 · simp (disch:=first | omega | decide | simp only [go_sem]) only [go_sem,hH1,hl1,hH2,hl2,hH3,hl3,hH4,c1,c3,cd.1,cd.2,ty_len,ty_def,e15,lt,l7,l8,lx,f1,cb ev1,cb ev2,cb ev3,cb ev4,hb4,ha0,len7,hA,Bool.not_false,Bool.not_true,hT.prim,primOf,List.length_cons,List.length_nil,td]
 have hA':A < dom.length:=by omega
 have hl:dom[A]?=some dom[A]:=List.getElem?_eq_getElem hA'
 have ix:idxaddr 1 (domV dom) (.int .i64 (A:Int))=some (.iptr (encL dom[A]) 0):=by
  rw [domV,idx_slice,if_pos rfl,List.getElem?_map,hl]; rfl
 generalize dom[A]=l at *
 have L4:Law8 H4 h.length t dom A X:=⟨k64,k74,k84,k114⟩
 have lenl:lenOf (encL l)=some l.length:=by simp [encL,lenOf]
 have rest:=fun (e:List PV) (H:Hp) (ws:List Nat) (low:Low h.length h H) (L:Law8 H h.length t dom A X) e6 e8 e11 e14 hw => rest_ok (e:=e) (ws:=ws) hT h54 I N hA' hd hX hxn low L e6 e8 e11 e14 hw
 by_cases hi0:0≤i
 rotate_left
 · simp (disch:=first | omega | decide | simp only [go_sem]) only [go_sem,hH1,hl1,hH2,hl2,hH3,hl3,hH4,c1,c3,cd.1,cd.2,ty_len,ty_def,e15,lt,l7,l8,lx,f1,cb ev1,cb ev2,cb ev3,cb ev4,hb4,ha0,len7,hA,ix,encL_sub,hi0,Bool.not_false,Bool.not_true,hT.prim,primOf,List.length_cons,List.length_nil]
   refine rest _ H4 _ low4 L4 ?_ ?_ ?_ ?_ (by simp) <;> simp only [go_sem]
 by_cases hi1:i < (l.length:Int)
 rotate_left
 · simp (disch:=first | omega | decide | simp only [go_sem]) only [go_sem,hH1,hl1,hH2,hl2,hH3,hl3,hH4,c1,c3,cd.1,cd.2,ty_len,ty_def,e15,lt,l7,l8,lx,f1,cb ev1,cb ev2,cb ev3,cb ev4,hb4,ha0,len7,hA,ix,encL_sub,lenl,hi0,hi1,Bool.not_false,Bool.not_true,hT.prim,primOf,List.length_cons,List.length_nil]
   refine rest _ H4 _ low4 L4 ?_ ?_ ?_ ?_ (by simp) <;> simp only [go_sem]
 by_cases hk0:0≤k
 rotate_left
 · simp (disch:=first | omega | decide | simp only [go_sem]) only [go_sem,hH1,hl1,hH2,hl2,hH3,hl3,hH4,c1,c3,cd.1,cd.2,ty_len,ty_def,e15,lt,l7,l8,lx,f1,cb ev1,cb ev2,cb ev3,cb ev4,hb4,ha0,len7,hA,ix,encL_sub,lenl,hi0,hi1,hk0,Bool.not_false,Bool.not_true,hT.prim,primOf,List.length_cons,List.length_nil]
   refine rest _ H4 _ low4 L4 ?_ ?_ ?_ ?_ (by simp) <;> simp only [go_sem]
 by_cases hk1:k < (l.length:Int)
 rotate_left
 · simp (disch:=first | omega | decide | simp only [go_sem]) only [go_sem,hH1,hl1,hH2,hl2,hH3,hl3,hH4,c1,c3,cd.1,cd.2,ty_len,ty_def,e15,lt,l7,l8,lx,f1,cb ev1,cb ev2,cb ev3,cb ev4,hb4,ha0,len7,hA,ix,encL_sub,lenl,hi0,hi1,hk0,hk1,Bool.not_false,Bool.not_true,hT.prim,primOf,List.length_cons,List.length_nil]
   refine rest _ H4 _ low4 L4 ?_ ?_ ?_ ?_ (by simp) <;> simp only [go_sem]
 by_cases hik:i=k
 · have hb5:(i != k)=false:=by simpa using hik
   simp (disch:=first | omega | decide | simp only [go_sem]) only [go_sem,hH1,hl1,hH2,hl2,hH3,hl3,hH4,c1,c3,cd.1,cd.2,ty_len,ty_def,e15,lt,l7,l8,lx,f1,cb ev1,cb ev2,cb ev3,cb ev4,hb4,ha0,len7,hA,ix,encL_sub,lenl,hi0,hi1,hk0,hk1,hb5,Bool.not_false,Bool.not_true,hT.prim,primOf,List.length_cons,List.length_nil]
   refine rest _ H4 _ low4 L4 ?_ ?_ ?_ ?_ (by simp) <;> simp only [go_sem]
 · have hb5:(i != k)=true:=by simpa using hik
   obtain ⟨n1,rfl⟩:=Int.eq_ofNat_of_zero_le hi0
   obtain ⟨n2,rfl⟩:=Int.eq_ofNat_of_zero_le hk0
   have hi2:n1 < l.length:=by omega
   have hk2:n2 < l.length:=by omega
   simp (disch:=first | omega | decide | simp only [go_sem]) only [go_sem,hH1,hl1,hH2,hl2,hH3,hl3,hH4,c1,c3,cd.1,cd.2,ty_len,ty_def,e15,lt,l7,l8,lx,f1,cb ev1,cb ev2,cb ev3,cb ev4,hb4,ha0,len7,hA,ix,encL_sub,lenl,hi0,hi1,hk0,hk1,hi2,hk2,hb5,Bool.not_false,Bool.not_true,hT.prim,primOf,List.length_cons,List.length_nil]
   refine then_ok hT h54 h55 I N hA' hd hD1 hl hi2 hk2 (by omega) L4 ?_ ?_ ?_ ?_ ?_ ?_ ?_ (by simp) fun e' H' ws' low' hw' e6 e8 e11 e14 => ?_
   all_goals try (simp only [go_sem]; done)
   have low5:Low h.length h H':=low4.comp low' low4.len
   exact rest e' H' ws' low5 (L4.low low') e6 e8 e11 e14 hw'
end Go.Proofs.Tryz
