/- Texts of the proof, one behind the other: ValYF, ValUB, ValFnsU, ValUC, ValFnsY, ValYG, ValYH, ValYI, ValYJ, ValYK, ValYL, ValYM, ValYN, ValYO, ValYP, ValFnsZ, ValZA, ValZB, ValZC, ValZD, ValZE, ValZF, ValUD, ValUE, ValZJ, ValZK, ValZL, ValZM, ValZN, ValZO, ValZP, ValUF, ValUG, ValUH, ValUI, ValUJ, ValUK, ValUL. -/
import Derived.Test.YtekepgfmgeophaaGreatPartBG
import Derived.Test.YtekepgfmgeophaaGreatPartBH
import Derived.Test.YtekepgfmgeophaaGreatPartAJ
import Derived.Test.YtekepgfmgeophaaGreatPartAS
import Derived.Test.YtekepgfmgeophaaGreatPartAM
set_option linter.unusedVariables false
set_option linter.unusedSimpArgs false
namespace Go.Proofs.Tryz
open Go Go.AE
noncomputable def canT(X:PV):PV:=by
 classical
 exact if h:∃u,Enc u X then encT h.choose else X
theorem canT_eq{u:Tm}{X:PV}(h:Enc u X):canT X=encT u:=by have hx:∃u,Enc u X:=⟨u,h⟩;unfold canT;rw[dif_pos hx,hx.choose_spec.inj h]
mutual
theorem qhf:∀{u:Tm}{X:PV},Enc u X→alike X (encT u)=true
 |.mk k n l,X,h=>by
   obtain⟨k',n',l',sz,es,e,rfl,hz,hE⟩:=h.eq;cases e;simp only[encT,alike,qbw,decide_true,Bool.true_and,Bool.and_true];have:=qj8 hE;rcases hz with rfl|rfl
   · have hl:l=[]:=lZ0.1 hE.1.symm;subst hl;rfl
   ·simp[this]
theorem qj8:∀{l:Ts}{es:PL},EncL l es→qbw es (qm6 l)=true
 |[],es,h=>by
   have:es=[]:=lZ0.1 h.1;subst this;rfl
 |t::l,[],h=>by have:=h.1;simp at this
 |t::l,e::es,h=>by have a:=qhf (h.2 0 t e rfl rfl);have b:=qj8 (l:=l) (es:=es) ⟨by have:=h.1;simpa using this,fun i x p hx hp=>h.2 (i+1) x p hx hp⟩;simp only[qm6,qbw,a,b,Bool.and_self]
end
theorem qeg{α:Type}{f:α→PV}(h:∀x,alike (f x) (f x)=true):∀l:List α,qbw (l.map f) (l.map f)=true
 |[]=>rfl
 |x::l=>by simp only[List.map_cons,qbw,h x,qeg h l,Bool.and_self]
theorem qh0{sz:Nat}{es:PL}(h:qbw es es=true):alike (.slice sz es .any) (.slice sz es .any)=true:=by simp[alike,h]
theorem qh1(u:Tm):alike (encT u) (encT u)=true:=qhf (qa6 u)
theorem alike_ty(t:GTy):alike (qai t) (qai t)=true:=by
 have h1:∀b:ByteArray,alike (.str b) (.str b)=true:=fun b=>by simp[alike]
 have hi:∀n:Int,alike (encI n) (encI n)=true:=fun n=>by simp[alike,encI]
 have h2:∀o:GOp,alike (qao o) (qao o)=true:=fun o=>by have:=qh0 (sz:=1) (qeg hi o.args);show(alike (.str o.name) (.str o.name)&& (alike (.slice 1 (o.args.map encI) .any) (.slice 1 (o.args.map encI) .any)&& (alike (.int .i64 o.res) (.int .i64 o.res)&&true)))=true;rw[h1,this];simp[alike]
 have hp:∀p:Tm×Tm,alike (qag p) (qag p)=true:=fun p=>qdz (qdp (qh1 _)) (qdp (qh1 _));have h3:∀e:GEqn,alike (qaj e) (qaj e)=true:=fun e=>by refine qdz ?_ (qdz (qdp (qh1 _)) (qdp (qh1 _)));simp only[qbw,qh0 (sz:=1) (qeg hi e.vars),qh0 (sz:=6) (qeg hp e.conds),Bool.and_self]
 show(alike (.slice 1 (t.sig.sorts.map .str) .any) (.slice 1 (t.sig.sorts.map .str) .any)&& (alike (.slice 3 (t.sig.ops.map qao) .any) (.slice 3 (t.sig.ops.map qao) .any)&& (alike (.slice 8 (t.eqns.map qaj) .any) (.slice 8 (t.eqns.map qaj) .any)&&true)))=true;rw[qh0 (sz:=1) (qeg h1 t.sig.sorts),qh0 (sz:=3) (qeg h2 t.sig.ops),qh0 (sz:=8) (qeg h3 t.eqns)];rfl
structure NTm (T:Tbl)(t:GTy)(nt:Tm→PV×Int):Prop where
 nx:∀u,qtr (nt u)
 ev:∀(u:Tm)(X:PV),Enc u X→∀h,Ev T 50 [qai t,X] h (ba (.tuple [(nt u).1,.int .i64 (nt u).2]) h)
theorem NTm.val{T:Tbl}{t:GTy}{nt:Tm→PV×Int}(N:NTm T t nt):∃nv,NVal T t nv∧∀u X,Enc u X→nv X=nt u:=by
 classical
 have e:∀u X,Enc u X→(fun X=>if h:∃u,Enc u X then nt h.choose else(qdd,1)) X=nt u:=fun u X hX=>by have hx:∃u,Enc u X:=⟨u,hX⟩;simp only[dif_pos hx];rw[hx.choose_spec.inj hX]
 refine⟨_,fun u X hX=>?_,e⟩;have:=e u X hX;simp only at this;rw[this];exact⟨N.nx u,N.ev u X hX⟩
end Go.Proofs.Tryz
namespace Go.Proofs.Tryz
open Go Go.AE
open Go.AE.Obj (row)
theorem mem_putC{n:Int}{y:IL}{x:Int×IL}:∀{B:List (Int×IL)},x∈putC n y B→x=(n,y)∨x∈B
 |[],h=>.inl (by simpa[putC]using h)
 |b::B,h=>by
   simp only[putC]at h;split at h
   ·grind
   · rcases mN0.1 h with h|h
     ·grind
     · rcases mem_putC h with h|h
       ·grind
       ·grind
theorem getC_mem{n:Int}{l:IL}:∀{B:List (Int×IL)},getC n B=some l→(n,l)∈B
 |[],h=>by cases h
 |b::B,h=>by
   simp only[getC]at h;split at h
   ·grind
   ·exact mC0 _ (getC_mem h)
theorem byN_ok(es:List GEqn):∀i:Nat,∀x∈byN es i,(∀j∈x.2,0≤j∧j< (i:Int))∧x.2.length≤i
 |0,x,h=>by cases h
 |i+1,x,h=>by
   have ih:=byN_ok es i;have wide:∀y∈byN es i,(∀j∈y.2,0≤j∧j< ((i+1:Nat):Int))∧y.2.length≤i+1:=fun y hy=>by obtain⟨h1,h2⟩:=ih y hy;exact⟨fun j hj=>by have:=h1 j hj;omega,by omega⟩
   simp only[byN]at h;split at h
   next q _=>
     rcases mem_putC h with rfl|h
     · have hl:(∀j∈(getC q.A.num0 (byN es i)).getD [],0≤j∧j< (i:Int))∧((getC q.A.num0 (byN es i)).getD []).length≤i:=by
        cases hg:getC q.A.num0 (byN es i)with
        |none=>exact⟨by simp,by simp⟩
        |some l=>exact ih _ (getC_mem hg)
       refine⟨fun j hj=>?_,by simp only[lA0,ll0];omega⟩;rcases mA0.1 hj with h|h
       ·have:=hl.1 j h;omega
       ·rw[mS0]at h;omega
     ·grind
   ·exact wide x h
theorem con_entC:∀(B:List (Int×IL))(k:Nat),conE (entC B k)=B
 |[],_=>rfl
 |b::B,k=>by have:=con_entC B (k+1);simp only[conE,entC,List.map_cons]at this⊢;rw[this]
theorem qp3:∀(B:List (Int×IL))(k:Nat),(entC B k).map (·.2.2)=List.range' k B.length
 |[],_=>rfl
 |b::B,k=>by simp only[entC,List.map_cons,qp3 B (k+1),List.length_cons,List.range'_succ]
theorem core_ok(t:GTy):OkE (qph t) 0 t.eqns.length t.eqns.length (entC (byN t.eqns t.eqns.length) 3):=by
 have hget:∀x∈entC (byN t.eqns t.eqns.length) 3,∃(i:Nat)(b:Int×IL),(byN t.eqns t.eqns.length)[i]?=some b∧x=(b.1,b.2,3+i):=fun x hx=>by
  obtain⟨i,hi,rfl⟩:=List.getElem_of_mem hx;have:=qpd (byN t.eqns t.eqns.length) 3 i;rw[gE0 hi]at this;cases hb:(byN t.eqns t.eqns.length)[i]? with
  |none=>rw[hb]at this;cases this
  |some b=>
    rw[hb]at this;exact⟨i,b,hb,by simpa using this⟩
 refine⟨fun x hx=>⟨?_,Nat.zero_le _⟩,fun x hx=>?_,?_⟩
 · obtain⟨i,b,hb,rfl⟩:=hget x hx;have:=qrk (t:=t) (con_entC (byN t.eqns t.eqns.length) 3) i;rw[qpd,hb]at this;exact this
 · obtain⟨i,b,hb,rfl⟩:=hget x hx;exact byN_ok t.eqns _ b (mG0 hb)
 · rw[qp3];exact List.nodup_range'
theorem core_sys(t:GTy):SysH (qph t) 0 2 1 t (setE (entC (byN t.eqns t.eqns.length) 3)):=⟨rfl,rfl,rfl⟩
def ValOK(x:PV×Int):Prop:=(x.2=0∧RowE x.1)∨(x.2=2∧x.1=qdd)
theorem ValOK.pw{x:PV×Int}(h:ValOK x):(PV.tuple [x.1,.int .i64 x.2]).pure=true∧(PV.tuple [x.1,.int .i64 x.2]).weak=.tuple [x.1,.int .i64 x.2]:=by
 rcases h with⟨_,w,hw,_⟩|⟨_,h⟩
 · obtain⟨_,h1,h2⟩:=hw.facts;simp[PV.pure,qas,PV.weak,qaq,h1,h2]
 ·rw[h];exact⟨rfl,rfl⟩
def IsVal(t:GTy)(u:Tm)(x:PV×Int):Prop:=ValOK x∧∃(T:Tbl)(n:Nat),TblOK Tryz.prog T∧qbz T n 137 [.ptr 0 0 0 1,encT u] (qph t)=some (.val (.tuple [x.1,.int .i64 x.2]),⟨qph t,[],[]⟩)
theorem isVal_of{T:Tbl}(hT:Std T)(O:TblOK Tryz.prog T)(h137:T.sp 137=none)(h189:T.sp 189=some (AE'.guardedSp 260 2)){t:GTy}(hP:TypP t){u:Tm}(hu:qa1 u=true):∃x,IsVal t u x:=by obtain⟨x,⟨N,ev⟩,hx⟩:=value_ev hT h137 h189 hP.eqns (core_sys t) ((core_ok t).by_ (by have:=hP.nE;omega)) (qa6 u) hu;exact⟨x,hx,T,N,O,ev N (nR0 _)⟩
noncomputable def valC(t:GTy)(u:Tm):PV×Int:=by
 classical
 exact if h:∃x,IsVal t u x then h.choose else(qdd,2)
theorem valC_is{t:GTy}{u:Tm}(h:∃x,IsVal t u x):IsVal t u (valC t u):=by unfold valC;rw[dif_pos h];exact h.choose_spec
def At137(h:Hp)(args:PL)(t:GTy)(u:Tm):Prop:=∃(ks kf kb:Nat)(L:List Ent)(X:PV),args=[.pb ks,X]∧Enc u X∧SysE h ks kf kb t L∧∃x,IsVal t u x
theorem at137_inj{h:Hp}{args:PL}{t t':GTy}{u u':Tm}(a:At137 h args t u)(b:At137 h args t' u'):t=t'∧u=u':=by obtain⟨ks,kf,kb,L,X,rfl,hX,E,_⟩:=a;obtain⟨ks',kf',kb',L',X',he,hX',E',_⟩:=b;simp only[List.cons.injEq,PV.ptr.injEq,and_true]at he;obtain⟨rfl,rfl⟩:=he;refine⟨?_,hX.inj hX'⟩;have h1:=E.S.sys;rw[E'.S.sys]at h1;simp only[Option.some.injEq,row.injEq,List.cons.injEq,true_and,and_true,sysV,PV.agg.injEq]at h1;refine(qjd ?_).symm;unfold qai;rw[h1.1,h1.2.1,h1.2.2.1]
noncomputable def qgy:SpFn:=fun _ args h=>by
 classical
 exact if hx:∃p:GTy×Tm,At137 h args p.1 p.2 then some (ba (.tuple [(valC hx.choose.1 hx.choose.2).1,.int .i64 (valC hx.choose.1 hx.choose.2).2]) h)else none
theorem sp137_eq{call:FuncId→PL→Hp→Option qam}{h:Hp}{args:PL}{t:GTy}{u:Tm}(a:At137 h args t u):qgy call args h=some (ba (.tuple [(valC t u).1,.int .i64 (valC t u).2]) h):=by have hx:∃p:GTy×Tm,At137 h args p.1 p.2:=⟨(t,u),a⟩;unfold qgy;rw[dif_pos hx];obtain⟨h1,h2⟩:=at137_inj hx.choose_spec a;rw[h1,h2]
theorem sp137_ok:SpOK Tryz.prog 137 qgy where
 step call _ args h r s' hb:=by
  unfold qgy at hb;split at hb
  ·cases hb;exact .refl _
  ·cases hb
 sp call _ _ args h r s' hb:=by
  unfold qgy at hb;split at hb
  next hx=>
    cases hb;have ha:=hx.choose_spec;generalize hx.choose.1=t at*;generalize hx.choose.2=u at*;obtain⟨ks,kf,kb,L,X,rfl,hX,E,hv⟩:=ha;obtain⟨hok,T,n,O,he⟩:=valC_is hv;obtain⟨p1,p2⟩:=hok.pw;obtain⟨q1,q2⟩:=qtd u
    obtain⟨k1,k2⟩:=at_ok O p1 he (emb_sys E) (args:=[.pb ks,X]) (fun w I D ρ vs V=>by
     refine⟨by simpa[rens]using V.1,fun j=>?_⟩;have hr:rens (qm3 h.length ks kf kb L) [.ptr 0 0 0 1,encT u]=[.pb ks,encT u]:=by simp only[rens,ren_pw _ _ q1 q2];rfl
     rw[hr];have:=V.2 j
     match j with
     |0=>exact this
     |1=>exact VR.alike this _ (qhf hX)
     |j+2=>exact .undef _)
    rw[p2]at k2;exact⟨k1,nR0 _,k2⟩
  ·cases hb
end Go.Proofs.Tryz
namespace Go.Proofs.Tryz
open Go Go.AE
def a13b0:ACode:=(sr0 [lo 94 93 92] (.seq (cn0 94 .skip (.exit 2)) (.seq (.block 3 (sr0 [mv 95 93,ro 96 (ix 3 91 93),rp 97 (l3 96),rp 17 (.box 3 (.c zq3)),mv 16 95,ws 3 17 97] (sr0 [mv 98 2,mv 99 16,ro 100 (ix 1 98 99),rp 101 (l1 100),mv 102 1,ro 103 (ll 102),ro 104 (bi .geq 101 103),mv 105 104,rg 106 (mo 1) 105 false,rg 107 (mo 2) 105 false,rg 108 (mo 16) 105 false,rg 109 (ix 1 107 108) 105 false,rh 110 (l1 109) 105 false,rg 111 (ix 1 106 110) 105 false,rh 112 (l1 111) 105 false,rg 113 (.mkFunc (.func 70) [] [(.t 17)]) 105 false,rh 114 (.call (.f 48) [(.t 112),(.t 113)]) 105 false,rg 115 (no 114) 105 false,ro 116 (.pick (.t 105) cT (.t 115))] (cn0 116 (sr0 [ro 8 (.move cF)] .ret) .skip)))) (.reg [nx 117 93,mv 93 117]))))
def a13b1:ACode:=(sr0 [lo 121 120 119] (.seq (cn0 121 .skip (.exit 4)) (.seq (.block 5 (sr0 [ro 122 (ix 6 118 120),rp 123 (la true 6 122),rp 20 (.box 6 (.c zq6)),ws 6 20 123] (sr0 [rp 125 (l3 4),rp 126 (la true 6 20),mv 127 15,rp 128 (.call (.f 71) [(.t 125),(.t 126),(.t 127)]),mv 124 128,ro 129 (et 124 0),ro 130 (et 124 1),mv 21 129,mv 22 130] (.seq (sr0 [mv 131 22,ro 132 (no 131)] (cn0 132 (sr0 [mv 133 18,mv 134 133,rg 135 (mo 13) 134 true,rg 136 (mo 9) 134 true,rg 137 (ll 136) 134 true,rg 138 (bi .geq 135 137) 134 true,ro 139 (.pick (.t 134) (.t 138) cF),mv 18 139] (.exit 4)) .skip)) (sr0 [mv 140 18,mv 141 140,rg 142 (mo 21) 141 true,ro 143 (.pick (.t 141) (.t 142) cF),mv 18 143] (sr0 [mv 144 18,ro 145 (no 144)] (cn0 145 (.exit 4) .skip))))))) (.reg [nx 146 120,mv 120 146]))))
def a13b2:ACode:=(sr0 [lo 83 82 81] (.seq (cn0 83 .skip (.exit 0)) (.seq (.block 1 (sr0 [ro 84 (ix 1 80 82),rp 85 (l1 84),mv 15 85] (.seq (sr0 [mv 86 15,ro 87 (ll 86),mv 88 2,ro 89 (ll 88),ro 90 (bi .neq 87 89)] (cn0 90 (sr0 [ro 8 (.move cF)] .ret) .skip)) (.seq (sr0 [mv 91 15,ro 92 (ll 91),c0 93] (bl0 2 a13b0)) (sr0 [ro 18 (.move cT)] (.seq (sr0 [mv 118 3,ro 119 (ll 118),c0 120] (bl0 4 a13b1)) (sr0 [mv 147 13,mv 148 9,ro 149 (ll 148),lo 150 147 149,mv 151 150,rg 152 (mo 9) 151 true,rg 153 (mo 13) 151 true,rg 154 (ix 1 152 153) 151 true,rh 155 (l1 154) 151 true,rg 156 (mo 15) 151 true,rh 157 (.call (.f 32) [(.t 155),(.t 156),(.f 22)]) 151 true,ro 158 (.pick (.t 151) (.t 157) cF),mv 23 158] (.seq (sr0 [mv 159 23,mv 160 18,ro 161 (.eq true .bool (.t 159) (.t 160))] (cn0 161 (sr0 [ro 8 (.move cF)] .ret) .skip)) (sr0 [mv 162 23] (cn0 162 (.reg [mv 163 13,nx 164 163,mv 13 164]) .skip)))))))))) (.reg [nx 165 82,mv 82 165]))))
def a13b3:ACode:=(sr0 [lo 218 217 216] (.seq (cn0 218 .skip (.exit 8)) (.seq (.block 9 (sr0 [ro 219 (ix 1 215 217),rp 220 (l1 219),mv 31 220] (sr0 [mv 221 29,mv 222 9,ro 223 (ll 222),lo 224 221 223,mv 225 224,rg 226 (mo 9) 225 true,rg 227 (mo 29) 225 true,rg 228 (ix 1 226 227) 225 true,rh 229 (l1 228) 225 true,rg 230 (mo 31) 225 true,rh 231 (.call (.f 32) [(.t 229),(.t 230),(.f 22)]) 225 true,ro 232 (.pick (.t 225) (.t 231) cF)] (cn0 232 (.reg [mv 233 29,nx 234 233,mv 29 234]) .skip)))) (.reg [nx 235 217,mv 217 235]))))
def a13f:ACode:=(sd0 [rp 202 (l3 4),rd 203 (mo 1) false 1 0 false,rd 204 (mo 2) false 2 0 false,rd 205 (mo 3) false 3 0 false,rd 206 (mo 3) false 4 0 true,rd 207 (ll 206) false 5 16 true,rd 208 (bc .sub 207 1) false 6 48 true,rd 209 (.slice 6 (.t 205) none (some (.t 208)) none) false 7 120 true,rd 210 (.call (.f 39) [(.t 202),(.t 203),(.t 204),(.t 209)]) true 8 255 true,rd 201 (mo 210) false 9 511 true,rd 211 (et 201 0) false 10 1023 false,rd 212 (et 201 1) false 11 1023 false,rd 28 (mo 211) false 12 2047 true,rd 10 (mo 212) false 13 8191 true] (.seq (sr0 [mv 213 10,ro 214 (bc .neq 213 0)] (cn0 214 (sr0 [ro 8 (.move cF)] .ret) .skip)) (sr0 [c0 29] (.seq (sr0 [mv 215 28,ro 216 (ll 215),c0 217] (bl0 8 a13b3)) (sr0 [mv 236 29,mv 237 9,ro 238 (ll 237),ro 239 (bi .eql 236 238),mv 8 239] .ret)))))
def a13m:ACode:=(sr0 [rp 183 (l3 4),mv 184 1,mv 185 2,rp 186 (l1 24),rp 187 (.call (.f 39) [(.t 183),(.t 184),(.t 185),(.t 186)]),mv 182 187,ro 188 (et 182 0),ro 189 (et 182 1),mv 27 188,mv 10 189] (.seq (sr0 [mv 190 10,ro 191 (bc .eql 190 0),mv 192 191,rg 193 (mo 9) 192 true,rg 194 (mo 27) 192 true,rh 195 (.call (.f 36) [(.t 193),(.t 194)]) 192 true,rg 196 (no 195) 192 true,ro 197 (.pick (.t 192) (.t 196) cF)] (cn0 197 (sr0 [ro 8 (.move cF)] .ret) .skip)) (.seq (sr0 [mv 198 3,ro 199 (ll 198),ro 200 (bc .eql 199 0)] (cn0 200 (sr0 [ro 8 (.move cT)] .ret) .skip))
 a13f)))
def a13k:ACode:=(sr0 [rp 24 (.box 1 (.c .sn))] (.seq (sr0 [mv 170 3,rp 171 (.call (.f 72) [(.t 170)])] (.block 6 (.range (.t 171) [172,173] (.reg [rp 26 (.box 6 (.c zq6)),ws 6 26 173]) (.block 7 (.reg [rp 174 (l1 24),ro 175 (fa 3 26),rp 176 (l3 175),ro 177 (fa 0 26),rp 178 (l3 177),ro 179 (.build [(.int .i64 0),(.int .i64 0),.sn,(.int .i64 0),(.int .i64 0),.sn] [(0,3,(.t 176)),(3,3,(.t 178))]),ro 180 (.buildSlice 6 zq6 1 [(0,(.t 179))]),rp 181 (.append 6 80 (.t 174) (.t 180)),ws 1 24 181])))))
 a13m))
def a13r:ACode:=(sr0 [c0 13] (.seq (sr0 [mv 80 11,ro 81 (ll 80),c0 82] (bl0 0 a13b2)) (.seq (sr0 [mv 166 13,mv 167 9,ro 168 (ll 167),ro 169 (bi .neq 166 168)] (cn0 169 (sr0 [ro 8 (.move cF)] .ret) .skip))
 a13k)))
def a13:AFunc:=⟨4,240,(sr0 [rp 4 (.box 3 (.t 0)),ro 8 (.move cF)] (.seq (sr0 [rp 32 (.call (.f 15) []),ro 33 (no 32)] (cn0 33 (sr0 [ro 8 (.move cF)] .ret) .skip)) (.seq (sr0 [rp 34 (l3 4),rp 35 (.call (.f 23) [(.t 34)]),ro 36 (no 35),mv 37 36,rg 38 (mo 1) 37 false,rh 39 (.call (.f 24) [(.t 38)]) 37 false,rg 40 (no 39) 37 false,ro 41 (.pick (.t 37) cT (.t 40)),mv 42 41,rg 43 (mo 3) 42 false,rg 44 (ll 43) 42 false,rg 45 (bc .gtr 44 8) 42 false,ro 46 (.pick (.t 42) cT (.t 45)),mv 47 46,rg 48 (mo 3) 47 false,rh 49 (.call (.f 37) [(.t 48)]) 47 false,rg 50 (no 49) 47 false,ro 51 (.pick (.t 47) cT (.t 50)),mv 52 51,rg 53 (mo 1) 52 false,rg 54 (mo 2) 52 false,rg 55 (.buildSlice 1 .sn 1 [(0,(.t 54))]) 52 false,rh 56 (.call (.f 38) [(.t 53),(.t 55)]) 52 false,rg 57 (no 56) 52 false,ro 58 (.pick (.t 52) cT (.t 57))] (cn0 58 (sr0 [ro 8 (.move cT)] .ret) .skip)) (sr0 [rp 60 (l3 4),mv 61 1,mv 62 2,mv 63 3,rp 64 (.call (.f 39) [(.t 60),(.t 61),(.t 62),(.t 63)]),mv 59 64,ro 65 (et 59 0),ro 66 (et 59 1),mv 9 65,mv 10 66] (sr0 [rp 68 (l3 4),mv 69 1,mv 70 2,rp 71 (.call (.f 39) [(.t 68),(.t 69),(.t 70),(.c .sn)]),mv 67 71,ro 72 (et 67 0),ro 73 (et 67 1),mv 11 72,mv 12 73] (.seq (sr0 [mv 74 10,ro 75 (bc .neq 74 0),mv 76 75,rg 77 (mo 12) 76 false,rg 78 (bc .neq 77 0) 76 false,ro 79 (.pick (.t 76) cT (.t 78))] (cn0 79 (sr0 [ro 8 (.move cT)] .ret) .skip))
 a13r)))))),[.t 8]⟩
theorem fn13:fnOf 13=some a13:=by kernel_rfl
def a36:AFunc:=⟨2,8,(sr0 [ro 4 (.move cF)] (sr0 [mv 5 0,mv 6 1,rp 7 (.call (.f 112) [(.t 5),(.t 6),(.f 113)]),mv 4 7] .ret)),[.t 4]⟩
theorem fn36:fnOf 36=some a36:=by kernel_rfl
def a70:AFunc:=⟨2,7,(sr0 [rp 2 (.box 3 (.t 0)),ro 3 (.move cF)] (sr0 [rp 4 (l3 1),rp 5 (l3 2),rp 6 (.call (.f 22) [(.t 4),(.t 5)]),mv 3 6] .ret)),[.t 3]⟩
theorem fn70:fnOf 70=some a70:=by kernel_rfl
def a71:AFunc:=⟨3,42,(sr0 [rp 3 (.box 3 (.t 0)),rp 4 (.box 6 (.t 1)),ro 6 (.move cF),ro 7 (.move cF)] (sr0 [ro 13 (fa 0 4),rp 14 (l3 13),mv 15 2,rp 16 (.call (.f 151) [(.t 14),(.t 15)]),mv 12 16,ro 17 (et 12 0),ro 18 (et 12 1),rp 8 (.box 3 (.c zq3)),ws 3 8 17,mv 9 18] (sr0 [ro 20 (fa 3 4),rp 21 (l3 20),mv 22 2,rp 23 (.call (.f 151) [(.t 21),(.t 22)]),mv 19 23,ro 24 (et 19 0),ro 25 (et 19 1),rp 10 (.box 3 (.c zq3)),ws 3 10 24,mv 11 25] (.seq (sr0 [mv 26 9,ro 27 (bc .neq 26 0),mv 28 27,rg 29 (mo 11) 28 false,rg 30 (bc .neq 29 0) 28 false,ro 31 (.pick (.t 28) cT (.t 30))] (cn0 31 (sr0 [ro 6 (.move cF),ro 7 (.move cF)] .ret) .skip)) (sr0 [rp 33 (l3 3),rp 34 (l3 8),rp 35 (l3 10),rp 36 (.call (.f 152) [(.t 33),(.t 34),(.t 35)]),mv 32 36,ro 37 (et 32 0),ro 38 (et 32 1),mv 6 37,mv 9 38] (sr0 [mv 39 6,mv 40 9,ro 41 (bc .eql 40 0),mv 6 39,mv 7 41] .ret)))))),[.t 6,.t 7]⟩
theorem fn71:fnOf 71=some a71:=by kernel_rfl
def a72:AFunc:=⟨1,4,(sr0 [rp 1 (.box 1 (.t 0)),ro 2 (.move (.c .nilFunc))] (sr0 [ro 3 (.mkFunc (.func 153) [] [(.t 1)]),mv 2 3] .ret)),[.t 2]⟩
theorem fn72:fnOf 72=some a72:=by kernel_rfl
def a112b0:ACode:=(sr0 [lo 18 17 16] (.seq (cn0 18 .skip (.exit 0)) (.seq (.block 1 (sr0 [mv 19 17,ro 20 (ix 1 15 17),rp 21 (l1 20),mv 7 19,mv 8 21] (sr0 [mv 22 1,mv 23 7,ro 24 (ix 1 22 23),rp 25 (l1 24),mv 9 25] (sr0 [mv 26 2,mv 27 8,mv 28 9,rp 29 (.call (.t 26) [(.t 27),(.t 28)]),ro 30 (no 29)] (cn0 30 (sr0 [ro 6 (.move cF)] .ret) .skip))))) (.reg [nx 31 17,mv 17 31]))))
def a112:AFunc:=⟨3,32,(sr0 [ro 6 (.move cF)] (.seq (sr0 [mv 10 0,ro 11 (ll 10),mv 12 1,ro 13 (ll 12),ro 14 (bi .neq 11 13)] (cn0 14 (sr0 [ro 6 (.move cF)] .ret) .skip)) (.seq (sr0 [mv 15 0,ro 16 (ll 15),c0 17] (bl0 0 a112b0)) (sr0 [ro 6 (.move cT)] .ret)))),[.t 6]⟩
theorem fn112:fnOf 112=some a112:=by kernel_rfl
def a113:AFunc:=⟨2,8,(sr0 [ro 4 (.move cF)] (sr0 [mv 5 0,mv 6 1,rp 7 (.call (.f 32) [(.t 5),(.t 6),(.f 22)]),mv 4 7] .ret)),[.t 4]⟩
theorem fn113:fnOf 113=some a113:=by kernel_rfl
def a152b0:ACode:=(sr0 [lo 51 50 49] (.seq (cn0 51 .skip (.exit 2)) (.seq (.block 3 (sr0 [ro 52 (ix 3 48 50),rp 53 (l3 52),rp 16 (.box 3 (.c zq3)),ws 3 16 53] (sr0 [ro 54 (fa 0 16),rp 55 (l1 54),ro 56 (bc .neq 55 1),mv 57 56,rg 58 (fa 1 16) 57 false,rh 59 (l1 58) 57 false,rg 60 (bc .lss 59 4000) 57 false,ro 61 (.pick (.t 57) cT (.t 60))] (cn0 61 (.reg [mv 62 14,rp 63 (l3 16),ro 64 (.buildSlice 3 zq3 1 [(0,(.t 63))]),rp 65 (.append 3 40 (.t 62) (.t 64)),mv 14 65]) .skip)))) (.reg [nx 66 50,mv 50 66]))))
def a152b1:ACode:=(sr0 [lo 37 36 35] (.seq (cn0 37 .skip (.exit 0)) (.seq (.block 1 (sr0 [ro 38 (ix 3 34 36),rp 39 (l3 38),rp 11 (.box 3 (.c zq3)),ws 3 11 39] (sr0 [mv 41 8,rp 42 (l3 11),rp 43 (.call (.f 199) [(.t 41),(.t 42)]),mv 40 43,ro 44 (et 40 0),ro 45 (et 40 1),mv 12 44,mv 13 45] (sr0 [ro 14 (.move (.c .sn))] (.seq (sr0 [rp 46 (l3 4),rp 47 (l3 5),ro 48 (.buildSlice 3 zq3 2 [(0,(.t 46)),(1,(.t 47))]),ro 49 (ll 48),c0 50] (bl0 2 a152b0)) (sr0 [mv 67 13] (cn0 67 (sd0 [ro 69 (fa 0 3),rd 70 (la true 2 69) true 1 1 false,rd 71 (mo 14) false 2 0 false,rd 72 (mo 12) false 3 0 false,rd 73 (.buildSlice 1 (.int .i64 0) 1 [(0,(.t 72))]) false 4 8 false,rd 74 (mo 14) false 5 0 true,rd 75 (ll 74) false 6 32 true,rd 76 (.call (.f 138) [(.t 73),(.t 75)]) true 7 120 true,rd 77 (.call (.f 200) [(.t 70),(.t 71),(.t 76)]) true 8 255 true,rd 68 (mo 77) false 9 511 true,rd 78 (et 68 0) false 10 1023 false,rd 79 (et 68 1) false 11 1023 false,rd 17 (mo 78) false 12 2047 true,rd 18 (mo 79) false 13 8191 true] (sr0 [mv 80 18,ro 81 (bc .neq 80 0)] (cn0 81 (sr0 [ro 6 (.move cF),ro 7 (.move (ci 4))] .ret) .skip))) .skip))))))) (.reg [nx 82 36,mv 36 82]))))
def a152:AFunc:=⟨3,106,(sr0 [rp 3 (.box 3 (.t 0)),rp 4 (.box 3 (.t 1)),rp 5 (.box 3 (.t 2)),ro 6 (.move cF),c0 7] (sr0 [rp 22 (l3 3),rp 23 (l3 4),rp 24 (l3 5),ro 25 (.buildSlice 3 zq3 2 [(0,(.t 23)),(1,(.t 24))]),rp 26 (.call (.f 136) [(.t 22),(.t 25)]),mv 21 26,ro 27 (et 21 0),ro 28 (et 21 1),mv 8 27,mv 9 28] (.seq (sr0 [mv 29 9,ro 30 (bc .neq 29 0)] (cn0 30 (sr0 [mv 31 9,ro 6 (.move cF),mv 7 31] .ret) .skip)) (.seq (sr0 [rp 32 (l3 4),rp 33 (l3 5),ro 34 (.buildSlice 3 zq3 2 [(0,(.t 32)),(1,(.t 33))]),ro 35 (ll 34),c0 36] (bl0 0 a152b1)) (sr0 [mv 84 8,rp 85 (l3 4),rp 86 (.call (.f 137) [(.t 84),(.t 85)]),mv 83 86,ro 87 (et 83 0),ro 88 (et 83 1),rp 19 (.box 3 (.c zq3)),ws 3 19 87,mv 9 88] (.seq (sr0 [mv 89 9,ro 90 (bc .neq 89 0)] (cn0 90 (sr0 [mv 91 9,ro 6 (.move cF),mv 7 91] .ret) .skip)) (sr0 [mv 93 8,rp 94 (l3 5),rp 95 (.call (.f 137) [(.t 93),(.t 94)]),mv 92 95,ro 96 (et 92 0),ro 97 (et 92 1),rp 20 (.box 3 (.c zq3)),ws 3 20 96,mv 9 97] (sr0 [mv 98 9,ro 99 (bc .eql 98 0),mv 100 99,rh 101 (l3 19) 100 true,rh 102 (l3 20) 100 true,rh 103 (.call (.f 22) [(.t 101),(.t 102)]) 100 true,ro 104 (.pick (.t 100) (.t 103) cF),mv 105 9,mv 6 104,mv 7 105] .ret)))))))),[.t 6,.t 7]⟩
theorem fn152:fnOf 152=some a152:=by kernel_rfl
def a153b0:ACode:=(.seq (sr0 [mv 7 3,ro 8 (bc .geq 7 0)] (cn0 8 .skip (.exit 0))) (.seq (.block 1 (sr0 [mv 11 0,mv 12 3,rp 13 (l1 1),mv 14 3,ro 15 (ix 6 13 14),rp 16 (la true 6 15),rp 17 (.call (.t 11) [(.t 12),(.t 16)]),ro 18 (no 17)] (cn0 18 .ret .skip))) (.reg [mv 9 3,ro 10 (bc .sub 9 1),mv 3 10])))
def a153:AFunc:=⟨2,19,(sr0 [rp 4 (l1 1),ro 5 (ll 4),ro 6 (bc .sub 5 1),mv 3 6] (bl0 0 a153b0)),[]⟩
theorem comp153:qb8 Tryz.prog [] Tryz.f153=some a153:=by kernel_rfl
end Go.Proofs.Tryz
namespace Go.Proofs.Tryz
open Go Go.AE
def bkE(ps:PL):Nat→Yss
 |0=>[]
 |n+1=>[.int .i64 (n:Int),ps.getD n .undef]::bkE ps n
structure BkOk (z:Nat)(ps:PL)(m:SM):Prop where
 m:m=.any
 z:ps=[]∨z=6
 pw:qas ps=true∧qaq ps=ps
 s:∀p∈ps,AE.sub true 6 p 0=some p
 n:ps.length≤1000
def a153y:ACode:=(sr0 [
 mv 11 0,
 mv 12 3,
 rp 13 (.load false 1 (.t 1)),
 mv 14 3,
 ro 15 (.idxAddr 6 (.t 13) (.t 14)),
 rp 16 (.load true 6 (.t 15)),
 rp 17 (.call (.t 11) [(.t 12),(.t 16)]),
 ro 18 (.un .not (.t 17))]
 (cn0 18
 .ret
 .skip))
def a153t:ACode:=(sr0 [
 mv 7 3,
 ro 8 (.bin .geq (.t 7) (ci 0))]
 (cn0 8
 .skip
 (.exit 0)))
def a153s:ACode:=(.reg [
 mv 9 3,
 ro 10 (.bin .sub (.t 9) (ci 1)),
 mv 3 10])
theorem qms:a153b0=.seq a153t (.seq (.block 1 a153y) a153s):=rfl
theorem YC.blockX{b:Nat→Bool}{id:Nat}{c:ACode}{e e1:PL}{s s1:St}{g g1:Log}(h:YC b c e s g (.exit id,e1,s1,g1)):YC b (.block id c) e s g (.normal,e1,s1,g1):=by obtain⟨N,h⟩:=h;exact⟨N,fun n hn=>by simp only[qbe,h n hn,if_true]⟩
theorem qpy:∀{ps:PL}{i:Nat}{p:PV},qaq ps=ps→ps[i]?=some p→p.weak=p
 |[],i,p,_,h=>by simp at h
 |q::ps,0,p,hw,h=>by
   simp only[qaq,List.cons.injEq]at hw;simp only[List.getElem?_cons_zero,Option.some.injEq]at h;rw[←h];exact hw.1
 |q::ps,i+1,p,hw,h=>by simp only[qaq,List.cons.injEq]at hw;exact qpy hw.2 (by simpa using h)
theorem bkY_ev{b:Nat→Bool}{l z i:Nat}{ps:PL}{m:SM}(O:BkOk z ps m){e:PL}{st:St}{g:Log}{p:PV}(e0:eget e 0=.func (.yield l) [] [])(e1:eget e 1=.iptr (.slice z ps m) 0)(e3:eget e 3=iv0 (i:Int))(hp:ps[i]?=some p):
 ∃e',YC b a153y e st g (if b g.length=true then .normal else .ret,e',st,g++[(l,[iv0 (i:Int),p])])∧∀k,k<9→eget e' k=eget e k:=by
 have hi:=(gI0.1 hp).1
 have hz:z=6:=by
  rcases O.z with h|h
  ·grind
  ·exact h
 subst hz;have hm:=mG0 hp;have hpp:p.pure=true:=qlv O.pw.1 _ hm;have hpw:p.weak=p:=qpy O.pw.2 hp;have ps2:qas [iv0 (i:Int),p]=true:=by simp[qas,PV.pure,hpp]
 have ix:qcq 6 (.slice 6 ps m) (iv0 (i:Int))=some (.iptr p 0):=by rw[qc2,if_pos rfl,hp];rfl
 have l1:∀H,loadAt false 1 (.iptr (.slice 6 ps m) 0) H=some (.slice 6 ps m):=fun H=>rfl;have l6:∀H,loadAt true 6 (.iptr p 0) H=some p:=fun H=>O.s p hm;refine⟨eput (eput (eput (eput (eput (eput (eput (eput e 11 (.func (.yield l) [] [])) 12 (iv0 (i:Int))) 13 (.slice 6 ps m)) 14 (iv0 (i:Int))) 15 (.iptr p 0)) 16 p) 17 (.bool (b g.length))) 18 (.bool !(b g.length)),⟨0,fun n _=>?_⟩,fun k hk=>?_⟩
 · simp(disch:=decide) only[a153y,qbe,yOps,qbk,yOp,evOp,ax,e0,e1,e3,putD,List.map_cons,List.map_nil,ps2,if_true,qal,qac,ix,l1,l6,qaq,hpw,PV.weak,oval,Option.map_some];cases b g.length<;>rfl
 ·simp only[qac (show(11:Nat)≠k by omega),qac (show(12:Nat)≠k by omega),qac (show(13:Nat)≠k by omega),qac (show(14:Nat)≠k by omega),qac (show(15:Nat)≠k by omega),qac (show(16:Nat)≠k by omega),qac (show(17:Nat)≠k by omega),qac (show(18:Nat)≠k by omega)]
theorem bk_loop{b:Nat→Bool}{l z:Nat}{ps:PL}{m:SM}(O:BkOk z ps m){st:St}:∀(n:Nat){e:PL}{g:Log},n≤ps.length→eget e 0=.func (.yield l) [] []→eget e 1=.iptr (.slice z ps m) 0→eget e 3=iv0 ((n:Int) - 1)→
 ∃x e',YRounds b a153b0 e st g (x,e',st,g++(emit b g.length (bkE ps n)).map fun ys=>(l,ys))∧(x=.ret∨x=.exit 0)
 |0,e,g,hn,e0,e1,e3=>by
   have key:wpC qde a153t e st fun x e' s'=>x=.exit 0∧s'=st:=by
    have e3:eget e 3=iv0 (-1):=e3;have h0:¬(0:Int)≤-1:=by decide
    unfold a153t;simp(disch:=omega) only[go_sem,e3,h0]
   obtain⟨x,e2,s2,ev,rfl,rfl⟩:=wpC.sound key;refine⟨.exit 0,e2,?_,.inr rfl⟩;simp only[bkE,emit,List.map_nil,List.append_nil];rw[qms];exact .out (.seqOut (.of rfl ev (by simp)) (by simp)) (by simp)
 |n+1,e,g,hn,e0,e1,e3=>by
   have e3:eget e 3=iv0 (n:Int):=by rw[e3];congr 1;omega
   have hO:=O.n;have hp:ps[n]?=some (ps.getD n .undef):=by grind
   have key:wpC qde a153t e st fun x e' s'=>x=.normal∧s'=st∧eget e' 0=.func (.yield l) [] []∧eget e' 1=.iptr (.slice z ps m) 0∧eget e' 3=iv0 (n:Int):=by
    have h0:(0:Int)≤(n:Int):=by omega
    unfold a153t;simp(disch:=omega) only[go_sem,e0,e1,e3,h0]
   obtain⟨x,e2,s2,ev,rfl,rfl,f0,f1,f3⟩:=wpC.sound key;obtain⟨e4,ey,hk⟩:=bkY_ev (b:=b) (st:=s2) (g:=g) O f0 f1 f3 hp;simp only[bkE,emit,List.map_cons];rw[qms];cases hb:b g.length
   · rw[hb]at ey;simp only[bF0,if_false]at ey;refine⟨.ret,e4,?_,.inl rfl⟩;simp only[bF0,if_false,List.map_nil];exact .out (.seq (.of rfl ev (by simp)) (.seqOut (.block ey (by simp)) (by simp))) (by simp)
   · rw[hb]at ey;simp only[if_true]at ey;have g0:=(hk 0 (by omega)).trans f0;have g1:=(hk 1 (by omega)).trans f1;have g3:=(hk 3 (by omega)).trans f3;have key2:wpC qde a153s e4 s2 fun x e' s'=>x=.normal∧s'=s2∧eget e' 0=.func (.yield l) [] []∧eget e' 1=.iptr (.slice z ps m) 0∧eget e' 3=iv0 ((n:Int) - 1):=by unfold a153s;simp(disch:=omega) only[go_sem,g0,g1,g3]
     obtain⟨x,e5,s5,ev5,rfl,rfl,k0,k1,k3⟩:=wpC.sound key2;obtain⟨x,e6,hr,hx⟩:=bk_loop O n (g:=g++[(l,[iv0 (n:Int),ps.getD n .undef])]) (by omega) k0 k1 k3;refine⟨x,e6,.round (.seq (.of rfl ev (by simp)) (.seq (.block ey (by simp)) (.of rfl ev5 (by simp)))) ?_,hx⟩;rw[qms]at hr;simp only[lA0,ll0,Nat.zero_add,List.append_assoc,List.cons_append,List.nil_append]at hr;simp only[if_true];exact hr
theorem sem153{z:Nat}{ps:PL}(O:BkOk z ps .any){captured:PL}(hcp:qas captured=true)(hc:qaq captured=[.iptr (.slice z ps .any) 0]):qfz Tryz.prog 153 captured (bkE ps ps.length):=by
 refine qj1 (T:=qde) mixed (fun _ _ h=>by cases h) Tryz.func153 (by decide) comp153 hcp fun l stop=>?_
 have key:∃x e' st',YC (fun i=>decide (stop≠some i)) a153.code [.func (.yield l) [] [],.iptr (.slice z ps .any) 0] ⟨[],[],[]⟩ [] (x,e',st',(upTo stop (bkE ps ps.length)).map fun ys=>(l,ys))∧(x=.ret∨x=.normal):=by
  have hO:=O.n;have l1:loadAt false 1 (.iptr (.slice z ps .any) 0) []=some (.slice z ps .any):=rfl
  have k0:wpC qde (.reg [
   rp 4 (.load false 1 (.t 1)),
   ro 5 (.lenL (.t 4)),
   ro 6 (.bin .sub (.t 5) (ci 1)),
   mv 3 6]) [.func (.yield l) [] [],.iptr (.slice z ps .any) 0] ⟨[],[],[]⟩ fun x e' s'=>x=.normal∧s'=⟨[],[],[]⟩∧eget e' 0=.func (.yield l) [] []∧eget e' 1=.iptr (.slice z ps .any) 0∧eget e' 3=iv0 ((ps.length:Int) - 1):=by
   simp(disch:=omega) only[go_sem,l1,lenOf]
  obtain⟨x,e1,s1,ev,rfl,rfl,g0,g1,g3⟩:=wpC.sound k0;obtain⟨x,e2,hr,hx⟩:=bk_loop (b:=fun i=>decide (stop≠some i)) (st:=⟨[],[],[]⟩) (g:=[]) O ps.length (nR0 _) g0 g1 g3;rw[List.nil_append,List.length_nil,qrg]at hr;rcases hx with rfl|rfl
  ·exact⟨_,_,_,.seq (.of rfl ev (by simp)) (.block (.loop hr) (by simp)),.inl rfl⟩
  ·exact⟨_,_,_,.seq (.of rfl ev (by simp)) (.blockX (.loop hr)),.inr rfl⟩
 obtain⟨x,e',st',⟨N,hN⟩,hx⟩:=key;refine⟨qbz qde N,N,qc4 (noTbl_ok mixed) N,qdn (fun _ _ h=>by cases h) N,?_⟩;rw[hc];have h1:([PV.func (.yield l) [] [],.iptr (.slice z ps .any) 0]:PL).length=a153.np∧a153.res=[]:=⟨rfl,rfl⟩;unfold yBody;rw[if_pos h1,hN N (nR0 _)];rcases hx with rfl|rfl<;>rfl
noncomputable def itB(captured:PL):Option (List (PL)):=by
 classical
 exact if h:∃zp:Nat×PL,qas captured=true∧qaq captured=[.iptr (.slice zp.1 zp.2 .any) 0]∧BkOk zp.1 zp.2 .any then some (bkE h.choose.2 h.choose.2.length)else none
theorem itB_ok{captured:PL}{yss:Yss}(h:itB captured=some yss):qfz Tryz.prog 153 captured yss:=by
 unfold itB at h;split at h
 next hx=>
   cases h;obtain⟨h1,h2,h3⟩:=hx.choose_spec;exact sem153 h3 h1 h2
 ·cases h
theorem itB_eq{z:Nat}{ps:PL}(O:BkOk z ps .any):itB [.iptr (.slice z ps .any) 0]=some (bkE ps ps.length):=by
 have hp:qas [.iptr (.slice z ps .any) 0]=true∧qaq [.iptr (.slice z ps .any) 0]=[.iptr (.slice z ps .any) 0]:=by simp[qas,PV.pure,O.pw.1,qaq,PV.weak,O.pw.2]
 have hx:∃zp:Nat×PL,qas [PV.iptr (.slice z ps .any) 0]=true∧qaq [PV.iptr (.slice z ps .any) 0]=[.iptr (.slice zp.1 zp.2 .any) 0]∧BkOk zp.1 zp.2 .any:=⟨(z,ps),hp.1,hp.2,O⟩;unfold itB;rw[dif_pos hx];obtain⟨_,h2,_⟩:=hx.choose_spec;have h2:=hp.2.symm.trans h2;simp only[List.cons.injEq,PV.iptr.injEq,PV.slice.injEq,and_true]at h2;rw[←h2.2]
end Go.Proofs.Tryz
namespace Go.Proofs.Tryz
open Go Go.AE
def a38b0:ACode:=(sr0 [lo 23 22 21] (.seq (cn0 23 .skip (.exit 2)) (.seq (.block 3 (sr0 [ro 24 (ix 1 20 22),rp 25 (l1 24),mv 10 25] (.seq (sr0 [mv 26 10,ro 27 (bc .lss 26 0),mv 28 27,rg 29 (mo 10) 28 false,rg 30 (mo 0) 28 false,rg 31 (ll 30) 28 false,rg 32 (bi .geq 29 31) 28 false,ro 33 (.pick (.t 28) cT (.t 32))] (cn0 33 (.exit 3) .skip)) (sr0 [mv 34 8,mv 35 0,mv 36 10,ro 37 (ix 1 35 36),rp 38 (l1 37),ro 39 (ll 38),ro 40 (bi .mul 34 39),mv 8 40] (sr0 [mv 41 8,ro 42 (bc .gtr 41 500)] (cn0 42 (sr0 [ro 4 (.move cF)] .ret) .skip)))))) (.reg [nx 43 22,mv 22 43]))))
def a38b1:ACode:=(sr0 [lo 14 13 12] (.seq (cn0 14 .skip (.exit 0)) (.seq (.block 1 (sr0 [ro 15 (ix 1 11 13),rp 16 (l1 15),mv 7 16] (sr0 [ro 8 (.move (ci 1))] (.seq (sr0 [mv 17 7,ro 18 (ll 17),ro 19 (bc .gtr 18 100)] (cn0 19 (sr0 [ro 4 (.move cF)] .ret) .skip)) (.seq (sr0 [mv 20 7,ro 21 (ll 20),c0 22] (bl0 2 a38b0)) (.reg [mv 44 5,mv 45 8,ro 46 (bi .add 44 45),mv 5 46])))))) (.reg [nx 47 13,mv 13 47]))))
def a38:AFunc:=⟨2,50,(sr0 [ro 4 (.move cF)] (sr0 [c0 5] (.seq (sr0 [mv 11 1,ro 12 (ll 11),c0 13] (bl0 0 a38b1)) (sr0 [mv 48 5,ro 49 (bc .leq 48 2000),mv 4 49] .ret)))),[.t 4]⟩
theorem fn38:fnOf 38=some a38:=by kernel_rfl
def a114:AFunc:=⟨2,14,(sr0 [rp 2 (.box 3 (.t 0)),c0 4] (.seq (sr0 [rp 6 (l3 2),rp 7 (.call (.f 103) [(.t 6)]),mv 5 7] (sr0 [mv 8 5,ro 9 (bc .neq 8 0)] (cn0 9 (sr0 [mv 10 5,mv 4 10] .ret) .skip))) (sr0 [rp 11 (l3 2),mv 12 1,rp 13 (.call (.f 104) [(.t 11),(.t 12)]),mv 4 13] .ret))),[.t 4]⟩
theorem fn114:fnOf 114=some a114:=by kernel_rfl
def a116b0:ACode:=(sr0 [lo 15 14 13] (.seq (cn0 15 .skip (.exit 0)) (.seq (.block 1 (sr0 [ro 16 (ix 1 12 14),rp 17 (l1 16),mv 9 17] (sr0 [mv 18 6,mv 19 0,mv 20 9,ro 21 (ix 1 19 20),rp 22 (l1 21),ro 23 (.buildSlice 1 .sn 1 [(0,(.t 22))]),rp 24 (.append 1 24 (.t 18) (.t 23)),mv 6 24] (.reg [mv 25 7,mv 26 0,mv 27 9,ro 28 (ix 1 26 27),rp 29 (l1 28),ro 30 (ll 29),rp 31 (.call (.f 165) [(.t 25),(.t 30)]),mv 7 31])))) (.reg [nx 32 14,mv 14 32]))))
def a116b1:ACode:=(sr0 [lo 36 35 34] (.seq (cn0 36 .skip (.exit 2)) (.seq (.block 3 (sr0 [ro 37 (ix 1 33 35),rp 38 (l1 37),mv 11 38] (sr0 [mv 39 11,ro 40 (ll 39),ro 41 (bc .eql 40 0)] (cn0 41 (sr0 [mv 42 6,mv 4 42,c0 5] .ret) .skip)))) (.reg [nx 43 35,mv 35 43]))))
def a116:AFunc:=⟨2,46,(sr0 [ro 4 (.move (.c .sn)),c0 5] (sr0 [ro 6 (.move (.c .sn))] (sr0 [ro 7 (.move (ci 1))] (.seq (sr0 [mv 12 1,ro 13 (ll 12),c0 14] (bl0 0 a116b0)) (.seq (sr0 [mv 33 6,ro 34 (ll 33),c0 35] (bl0 2 a116b1)) (sr0 [mv 44 6,mv 45 7,mv 4 44,mv 5 45] .ret)))))),[.t 4,.t 5]⟩
theorem fn116:fnOf 116=some a116:=by kernel_rfl
def a117:AFunc:=⟨1,4,(sr0 [rp 1 (.box 1 (.t 0)),ro 2 (.move (.c .nilFunc))] (sr0 [ro 3 (.mkFunc (.func 182) [] [(.t 1)]),mv 2 3] .ret)),[.t 2]⟩
theorem fn117:fnOf 117=some a117:=by kernel_rfl
def a119b0:ACode:=(sr0 [lo 11 10 9] (.seq (cn0 11 .skip (.exit 0)) (.seq (.block 1 (sr0 [ro 12 (ix 3 8 10),rp 13 (l3 12),rp 5 (.box 3 (.c zq3)),ws 3 5 13] (sr0 [rp 15 (l3 5),rp 16 (.call (.f 183) [(.t 15),(.c .sn)]),mv 14 16,ro 17 (et 14 0),ro 18 (et 14 1),rp 6 (.box 3 (.c zq3)),ws 3 6 17,mv 7 18] (.reg [mv 19 3,rp 20 (l3 6),ro 21 (.buildSlice 3 zq3 1 [(0,(.t 20))]),rp 22 (.append 3 40 (.t 19) (.t 21)),mv 3 22])))) (.reg [nx 23 10,mv 10 23]))))
def a119:AFunc:=⟨1,25,(sr0 [ro 2 (.move (.c .sn))] (sr0 [ro 3 (.move (.c .sn))] (.seq (sr0 [mv 8 0,ro 9 (ll 8),c0 10] (bl0 0 a119b0)) (sr0 [mv 24 3,mv 2 24] .ret)))),[.t 2]⟩
theorem fn119:fnOf 119=some a119:=by kernel_rfl
def a183:AFunc:=⟨2,23,(sr0 [rp 2 (.box 3 (.t 0)),rp 4 (.box 3 (.c zq3)),c0 5] (.seq (sr0 [rp 8 (l3 2),rp 9 (.call (.f 130) [(.t 8)]),ro 10 (no 9)] (cn0 10 (sr0 [ro 11 (.build [(.int .i64 0),(.int .i64 0),.sn] []),ws 3 4 11,ro 5 (.move (ci 4))] .ret) .skip)) (sr0 [rp 13 (l3 2),mv 14 1,rp 15 (.call (.f 225) [(.t 13),(.t 14)]),mv 12 15,ro 16 (et 12 0),ro 17 (et 12 1),rp 6 (.box 3 (.c zq3)),ws 3 6 16,mv 7 17] (.seq (sr0 [mv 18 7,ro 19 (no 18)] (cn0 19 (sr0 [ro 20 (.build [(.int .i64 0),(.int .i64 0),.sn] []),ws 3 4 20,ro 5 (.move (ci 41))] .ret) .skip)) (sr0 [rp 21 (l3 6),rp 22 (.call (.f 226) [(.t 21)]),ws 3 4 22,c0 5] .ret))))),[.cell 4 true 3,.t 5]⟩
theorem fn183:fnOf 183=some a183:=by kernel_rfl
def a225b0:ACode:=(sr0 [lo 11 10 9] (.seq (cn0 11 .skip (.exit 0)) (.seq (.block 1 (sr0 [ro 12 (ix 1 8 10),rp 13 (l1 12),mv 7 13] (.seq (sr0 [mv 14 7,ro 15 (bc .lss 14 0),mv 16 15,rg 17 (mo 7) 16 false,rg 18 (fa 2 2) 16 false,rh 19 (l1 18) 16 false,rg 20 (ll 19) 16 false,rg 21 (bi .geq 17 20) 16 false,ro 22 (.pick (.t 16) cT (.t 21))] (cn0 22 (sr0 [ro 23 (.build [(.int .i64 0),(.int .i64 0),.sn] []),ws 3 4 23,ro 5 (.move cF)] .ret) .skip)) (.reg [ro 24 (fa 2 2),rp 25 (l1 24),mv 26 7,ro 27 (ix 3 25 26),rp 28 (l3 27),ws 3 2 28])))) (.reg [nx 29 10,mv 10 29]))))
def a225:AFunc:=⟨2,31,(sr0 [rp 2 (.box 3 (.t 0)),rp 4 (.box 3 (.c zq3)),ro 5 (.move cF)] (.seq (sr0 [mv 8 1,ro 9 (ll 8),c0 10] (bl0 0 a225b0)) (sr0 [rp 30 (l3 2),ws 3 4 30,ro 5 (.move cT)] .ret))),[.cell 4 true 3,.t 5]⟩
theorem fn225:fnOf 225=some a225:=by kernel_rfl
end Go.Proofs.Tryz
namespace Go.Proofs.Tryz
open Go Go.AE
open Go.AE.Obj (row)
variable {T:Tbl}(hT:Std T){s:GSig}
include hT in
theorem at_ev{t:Tm}{p:PV}(ht:Enc t p)(h:Hp):Ev T 225 [p,.sn] h (ba (.tuple [p,.bool true]) h):=by
 refine Ev.walk (hT.sp _ (by decide)) ((hT.fn _).trans fn225) (hT.mode _) rfl ?_;obtain⟨c1,c2,c3,c4⟩:=ht.cells;have k1:=gC0 (l:=h) (a:=row 3 [p]);have low1:Low h.length h (h++[row 3 [p]]):=(Low.refl _ _).push (nR0 _);have hl1:(h++[row 3 [p]]).length=h.length+1:=by simp
 generalize hH1:h++[row 3 [p]]=H1 at*;have z2:=gC0 (l:=H1) (a:=row 3 [zN]);have k2:=qah (o2:=row 3 [zN]) k1;have low2:=low1.push (o:=row 3 [zN]) (by omega);have e2:H1++[row 3 [zq3]]=H1++[row 3 [zN]]:=rfl;generalize H1++[row 3 [zN]]=H2 at*;generalize hkr:H1.length=kr at*;have lp:loadAt true 3 (.pb h.length) H2=some p:=by rw[qad k2];exact ht.sub
 have sv:=fun ws ups=>qdc (ws:=ws) (ups:=ups) (n:=1) (N:=0) z2 rfl rfl ⟨rfl,_,rfl⟩ ⟨c1,c2,c4⟩ ht.facts.1;simp only[sC0]at sv;have lo:loadAt true 3 (.pb kr) (H2.set kr (.row 3 [p]))=some p:=by rw[qad (qak z2)];exact ht.sub
 have td:=qan (v:=.tuple [p,.bool true]) (ws:=wadd kr []) (by simp[PV.pure,qas,ht.facts.2.1]) (by simp[PV.weak,qaq,ht.facts.2.2]) (low2.trans (.set (show h.length≤kr by omega)):Low h.length h (H2.set kr (.row 3 [p]))) (qae (by omega) (by simp));have h0:¬(0:Int)< ((0:Nat):Int):=by decide
 simp(disch:=omega) only[go_sem,hH1,e2,hkr,c1,c3,ll0];refine unroll ?_;simp(disch:=omega) only[go_sem,a225b0,h0,lp,sv,resv,lo,td]
include hT in
theorem atX_ev{t:Tm}{p:PV}(ht:Enc t p)(hu:qa1 t=true)(h:Hp):∃q:PV,Ev T 183 [p,.sn] h (ba (.tuple [q,iv0 0]) h)∧Enc t q:=by
 refine Ev.walkP (r:=fun q:PV=>(ba (.tuple [q,iv0 0]) h)) (hT.sp _ (by decide)) ((hT.fn _).trans fn183) (hT.mode _) rfl ?_;obtain⟨c1,c2,c3,c4⟩:=ht.cells;have k1:=gC0 (l:=h) (a:=row 3 [p]);have low1:Low h.length h (h++[row 3 [p]]):=(Low.refl _ _).push (nR0 _);have hl1:(h++[row 3 [p]]).length=h.length+1:=by simp
 generalize hH1:h++[row 3 [p]]=H1 at*;have z2:=gC0 (l:=H1) (a:=row 3 [zN]);have k2:=qah (o2:=row 3 [zN]) k1;have low2:=low1.push (o:=row 3 [zN]) (by omega);have hl2:(H1++[row 3 [zN]]).length=h.length+2:=by simp;omega
 have e2:H1++[row 3 [zq3]]=H1++[row 3 [zN]]:=rfl;generalize H1++[row 3 [zN]]=H2 at*;generalize hkr:H1.length=kr at*;have lp:loadAt true 3 (.pb h.length) H2=some p:=by rw[qad k2];exact ht.sub
 have evt:=qiv hT ht H2;rw[hu]at evt;have eva:=at_ev hT ht H2;have sb:=qa5 (h:=H2) (ws:=[]) (ups:=[]) (z:=zq3) (sz:=3) (c:=p) c1 rfl c2 ht.facts.1 ⟨_,rfl⟩ c4;have k3:=gC0 (l:=H2) (a:=row 3 [p]);have z3:=qah (o2:=row 3 [p]) z2;have low3:=low2.push (o:=row 3 [p]) (by omega);have hw3:∀x∈wadd H2.length [],h.length≤x:=qae (by omega) (by simp);generalize hH3:H2++[row 3 [p]]=H3 at*;generalize hk6:H2.length=k6 at*;have lp3:loadAt true 3 (.pb k6) H3=some p:=by rw[qad k3];exact ht.sub
 obtain⟨q,evc,hq⟩:=qml hT ht (qbi hu) (qaw hu) H3;obtain⟨x1,x2,_,x4⟩:=hq.cells;have sv:=fun ws ups=>qdc (ws:=ws) (ups:=ups) (n:=1) (N:=0) z3 rfl rfl ⟨rfl,_,rfl⟩ ⟨x1,x2,x4⟩ hq.facts.1;simp only[sC0]at sv;have lo:loadAt true 3 (.pb kr) (H3.set kr (.row 3 [q]))=some q:=by rw[qad (qak z3)];exact hq.sub
 have td:=qan (v:=.tuple [q,iv0 0]) (ws:=wadd kr (wadd k6 [])) (by simp[PV.pure,qas,hq.facts.2.1]) (by simp[PV.weak,qaq,hq.facts.2.2]) (low3.trans (.set (show h.length≤kr by omega)):Low h.length h (H3.set kr (.row 3 [q]))) (qae (by omega) hw3);simp(disch:=omega) only[go_sem,hH1,e2,hkr,c1,c3,lp,cb evt,Bool.not_true,cb eva,hk6,sb,lp3,cb evc,sv,resv,lo,hT.q,td];exact⟨q,rfl,hq⟩
theorem qmk:∀{us:Ts}{qs:PL},EncL us qs→qas qs=true∧qaq qs=qs
 |[],qs,h=>by
   have:qs=[]:=lZ0.1 h.1;subst this;exact⟨rfl,rfl⟩
 |u::us,[],h=>by have:=h.1;simp at this
 |u::us,q::qs,h=>by obtain⟨h1,h2⟩:=qmk (us:=us) (qs:=qs) ⟨by have:=h.1;simpa using this,fun i x p hx hp=>h.2 (i+1) x p hx hp⟩;obtain⟨_,h3,h4⟩:=(h.2 0 u q rfl rfl).facts;simp[qas,qaq,h1,h2,h3,h4]
include hT in
theorem freshL_ev{us:Ts}{z:Nat}{es:PL}{m:SM}(hz:es=[]∨z=3)(hE:EncL us es)(hu:∀u∈us,qa1 u=true)(hl:us.length≤1000)(h:Hp):∃x:Nat×PL,Ev T 119 [.slice z es m] h (ba (.slice x.1 x.2 .any) h)∧((x.2=[]∨x.1=3)∧EncL us x.2):=by
 refine Ev.walkP (r:=fun x:Nat×PL=>(ba (.slice x.1 x.2 .any) h)) (hT.sp _ (by decide)) ((hT.fn _).trans fn119) (hT.mode _) rfl ?_;have hel:=hE.1;simp(disch:=omega) only[go_sem]
 refine wpC.loopM (fun g e st=> ∃(i:Nat)(H:Hp)(ws:NL)(v:PV)(qs:PL),i+g=es.length∧Low h.length h H∧(∀x∈ws,h.length≤x)∧AppL H v qs h.length∧EncL (us.take i) qs∧(eget e 3=v∧eget e 8=.slice z es m∧eget e 9=iv0 (es.length:Int)∧eget e 10=iv0 (i:Int))∧st=⟨H,ws,[]⟩) ?_ es.length _ _
  ⟨0,h,[],_,[],by omega,Low.refl _ _,by simp,.inl ⟨rfl,rfl⟩,⟨by simp,by simp⟩,by simp only[go_sem,zN0],rfl⟩
 rintro g e st ⟨i,H,ws,v,qs,hi,low,hw,hA,hQ,⟨e3,e8,e9,e10⟩,rfl⟩;have hHl:=low.len;have hql:=hQ.1;rw[lT0]at hql;by_cases h1:i<es.length
 · have h1':(i:Int)< (es.length:Int):=by omega
   have ga:=qbt h1;have hx:us[i]?=some us[i]:=gE0 (by omega);have hEx:=hE.2 i _ _ hx ga;have hut:=hu _ (gX0 (by omega:i<us.length));have hsz:z=3:=by grind
   subst hsz;generalize us[i]=u at*;generalize es[i]=X at*;obtain⟨b1,b2,_,b4⟩:=hEx.cells;have bs:=hEx.sub;have sb:=qa5 (h:=H) (ws:=ws) (ups:=[]) (z:=zq3) (sz:=3) (c:=X) b1 rfl b2 hEx.facts.1 ⟨_,rfl⟩ b4;have k5:=gC0 (l:=H) (a:=row 3 [X]);have A5:=hA.push (o:=row 3 [X]);have low5:=low.push (o:=row 3 [X]) hHl;have hw5:∀y∈wadd H.length ws,h.length≤y:=qae hHl hw;have hl5:(H++[row 3 [X]]).length=H.length+1:=by simp
   generalize hH5:H++[row 3 [X]]=H5 at*;generalize hk5:H.length=kx at*;have lx:loadAt true 3 (.pb kx) H5=some X:=by rw[qad k5];exact bs
   obtain⟨q,ev,hq⟩:=atX_ev hT hEx hut H5;obtain⟨x1,x2,x3,x4⟩:=hq.cells;have sb2:=fun ws=>qa5 (h:=H5) (ws:=ws) (ups:=[]) (z:=zq3) (sz:=3) (c:=q) x1 rfl x2 hq.facts.1 ⟨_,rfl⟩ x4;have k6:=gC0 (l:=H5) (a:=row 3 [q]);have A6:=A5.push (o:=row 3 [q]);have low6:=low5.push (o:=row 3 [q]) (by omega);have hw6:∀y∈wadd H5.length (wadd kx ws),h.length≤y:=qae (by omega) hw5;have hl6:(H5++[row 3 [q]]).length=kx+2:=by simp;omega
   generalize hH6:H5++[row 3 [q]]=H6 at*;generalize hk6:H5.length=kq at*;have lq:loadAt true 3 (.pb kq) H6=some q:=by rw[qad k6];exact hq.sub
   have f1:=fe_1 (p:=q) ⟨x1,x3⟩;obtain⟨H7,fw,kt,ap,A7,_,low7,hfw⟩:=qlf A6 x2 (by omega) (show h.length≤H6.length by omega);simp(disch:=omega) only[go_sem,a119b0,e3,e8,e9,e10,h1',ga,bs,hk5,sb,lx,cb ev,hk6,sb2,lq,f1,ap,hT.q];exact⟨g - 1,by omega,i+1,H7,_,_,_,by omega,low6.trans low7,hfw _ hw6,A7,hQ.snocT hx hq,⟨rfl,rfl⟩,rfl⟩
 · have h1':¬(i:Int)< (es.length:Int):=by omega
   rw[tL0 (by omega)]at hQ;obtain⟨z',m',rfl,hz'⟩:=hA.form;have hpw:=qmk hQ;have td:=qa9 (v:=.slice z' qs m') (ups:=[]) hpw.1 low hw (by simp);have hwk:(PV.slice z' qs m').weak=.slice z' qs .any:=by simp only[PV.weak,hpw.2]
   rw[hwk]at td;simp(disch:=omega) only[go_sem,a119b0,e3,e9,e10,h1',td];exact⟨(z',qs),rfl,hz',hQ⟩
include hT in
theorem askedV_ev{t:GTy}{r:Int}(I:TyIn T t r){nv:PV→PV×Int}(N:NVal T t nv){h:Hp}{dv:PV}{dom:LT}{vs:PL}{vss:List (PL)}(D:DomV h dv dom vs vss)(hd:dom.length<100000):
 ∃r':Int,Ev T 114 [qai t,dv] h (ba (iv0 r') h)∧((r≠0∧r'=r)∨(r=0∧DomR t.sig nv dom vss r')):=by
 refine Ev.walkP (r:=fun r:Int=>(ba (iv0 r) h)) (hT.sp _ (by decide)) ((hT.fn _).trans fn114) (hT.mode _) rfl ?_;have k1:=gC0 (l:=h) (a:=row 3 [qai t]);have low1:Low h.length h (h++[row 3 [qai t]]):=(Low.refl _ _).push (nR0 _);generalize hH1:h++[row 3 [qai t]]=H1 at*;have l1:loadAt true 3 (.pb h.length) H1=some (qai t):=by rw[qad k1];rfl
 have td:∀r:Int,tidy 0 h.length (.val (iv0 r)) ⟨H1,[],[]⟩=(ba (iv0 r) h):=fun r=>qan rfl rfl low1 (by simp);by_cases hr:r=0
 · subst hr;have hb:((0:Int) !=0)=false:=rfl;obtain⟨r',ev,hR⟩:=domain_ev hT I N (D.low low1) hd;simp(disch:=omega) only[go_sem,hH1,qbx,qby,l1,cb (I.E103 H1),hb,cb ev,hT.prim,qab,td];exact⟨r',rfl,.inr hR⟩
 · have hb:(r !=0)=true:=by simpa using hr
   simp(disch:=omega) only[go_sem,hH1,qbx,qby,l1,cb (I.E103 H1),hb,hT.prim,qab,td];exact⟨r,rfl,.inl ⟨hr,rfl⟩⟩
def AppS(H:Hp)(v:PV)(es:PL)(lo:Nat):Prop:=(es=[]∧v=.sn)∨∃kt,v=.slice 1 es (.tok kt)∧H[kt]?=some (.tok 1 es.length)∧lo≤kt
theorem AppS.push{H:Hp}{v:PV}{es:PL}{lo:Nat}{o:AE.Obj}(A:AppS H v es lo):AppS (H++[o]) v es lo:=by
 rcases A with h|⟨kt,h1,h2,h3⟩
 ·exact .inl h
 ·exact .inr ⟨kt,h1,qah h2,h3⟩
theorem AppS.form{H:Hp}{v:PV}{es:PL}{lo:Nat}(A:AppS H v es lo):∃z m,v=.slice z es m∧(es=[]∨z=1):=by
 rcases A with⟨rfl,rfl⟩|⟨kt,rfl,_,_⟩
 ·grind
 ·grind
theorem append_S{H:Hp}{v p:PV}{es:PL}{lo:Nat}(A:AppS H v es lo)(hp:p.cells.all PV.isCell=true)(hl:es.length<100000)(hlo:lo≤H.length):
 ∃(H':Hp)(fw:NL→NL)(kt:Nat),(∀ws ups,appendop 1 24 v (.slice 1 [p] .lit) ⟨H,ws,ups⟩=some (.slice 1 (es++[p]) (.tok kt),⟨H',fw ws,ups⟩))∧AppS H' (.slice 1 (es++[p]) (.tok kt)) (es++[p]) lo∧(∀(j:Nat)(o:AE.Obj),o.isTok=false→H[j]?=some o→H'[j]?=some o)∧Low lo H H'∧∀ws,(∀x∈ws,lo≤x)→∀x∈fw ws,lo≤x:=by
 have hroom:(es.length+1) *24≤room∧es.length+1≤room:=by
  have:10000000≤room:=by decide
  constructor<;>omega
 rcases A with⟨rfl,rfl⟩|⟨kt,rfl,h2,h3⟩
 · simp at hroom;refine⟨H++[.tok 1 1],fun ws=>ws,H.length,fun ws ups=>?_,.inr ⟨H.length,rfl,by simp,hlo⟩,fun j o _ hj=>qah hj,(Low.refl _ _).push hlo,fun ws hx=>hx⟩;simp[appendop,qch,hp,hroom,alloc]
 · refine⟨H.set kt (.tok 1 (es.length+1)),wadd kt,kt,fun ws ups=>?_,.inr ⟨kt,rfl,by rw[qak h2];simp,h3⟩,fun j o ho hj=>qaa hj ?_,.set h3,fun ws hx=>qae h3 hx⟩
   ·simp[appendop,qch,hp,hroom,h2,qau]
   · rintro rfl;rw[h2]at hj;cases hj;cases ho
theorem qpf(l:Ts):(encL l).pure=true∧(encL l).weak=encL l:=by obtain⟨h1,h2⟩:=qmk (qft l);exact⟨h1,by simp only[encL,PV.weak,h2]⟩
theorem qo5{α:Type}{f:α→PV}(h:∀x,(f x).pure=true∧(f x).weak=f x)(l:List α):qas (l.map f)=true∧qaq (l.map f)=l.map f:=by
 induction l with
 |nil=>exact⟨rfl,rfl⟩
 |cons x l ih=>simp[qas,qaq,h x,ih]
def atL(dom:LT)(k:Int):Ts:=dom.getD k.toNat []
theorem qmq{dom:LT}{k:Nat}(h:k<dom.length):dom[k]?=some (atL dom (k:Int)):=by rw[gE0 h,atL,Int.toNat_natCast,gD0,gE0 h];rfl
def ovF(dom:LT)(n:Int)(k:Int):Int:=min (n* ((atL dom k).length:Int)) 1099511627776
def ovN(dom:LT)(ks:IL):Int:=if∃k∈ks,(atL dom k).length=0 then 0 else ks.foldl (ovF dom) 1
include hT in
theorem overZ_ev{dom:LT}{ks:IL}{zk:Nat}{m:SM}(hzk:ks=[]∨zk=1)(hk:∀k∈ks,0≤k∧k< (dom.length:Int))(hkl:ks.length≤1000)(hdl:∀l∈dom,l.length≤1000000)(h:Hp):
 ∃x:Nat×Int,Ev T 116 [domV dom,.slice zk (ks.map encI) m] h (ba (.tuple [.slice x.1 ((ks.map (atL dom)).map encL) .any,iv0 x.2]) h)∧((ks=[]∨x.1=1)∧(0≤x.2∧x.2≤1099511627776)∧x.2=ovN dom ks):=by
 refine Ev.walkP (r:=fun x:Nat×Int=>(ba (.tuple [.slice x.1 ((ks.map (atL dom)).map encL) .any,iv0 x.2]) h)) (hT.sp _ (by decide)) ((hT.fn _).trans fn116) (hT.mode _) rfl ?_;have td:∀(H:Hp)(ws:NL)(v:PV)(n:Int),Low h.length h H→(∀x∈ws,h.length≤x)→AppS H v ((ks.map (atL dom)).map encL) h.length→∃z,tidy 0 h.length (.val (.tuple [v,iv0 n])) ⟨H,ws,[]⟩=(ba (.tuple [.slice z ((ks.map (atL dom)).map encL) .any,iv0 n]) h)∧(ks=[]∨z=1):=fun H ws v n L hw A=>by obtain⟨z,m,rfl,hz⟩:=A.form;obtain⟨p1,p2⟩:=qo5 qpf (ks.map (atL dom));have:=qa9 (v:=.tuple [.slice z ((ks.map (atL dom)).map encL) m,iv0 n]) (ups:=[]) (by simp only[PV.pure,qas,p1,Bool.and_self]) L hw (by simp);refine⟨z,by rw[this];simp only[PV.weak,qaq,p2],hz.imp (fun h=>by simpa using h) id⟩
 simp(disch:=omega) only[go_sem,lM0]
 refine wpC.loopM (fun g e st=> ∃(i:Nat)(H:Hp)(ws:NL)(v:PV)(n:Int),i+g=ks.length∧Low h.length h H∧(∀x∈ws,h.length≤x)∧AppS H v (((ks.take i).map (atL dom)).map encL) h.length∧0≤n∧n≤1099511627776∧n=(ks.take i).foldl (ovF dom) 1∧(eget e 0=domV dom∧eget e 6=v∧eget e 7=iv0 n∧eget e 12=.slice zk (ks.map encI) m∧eget e 13=iv0 (ks.length:Int)∧eget e 14=iv0 (i:Int))∧st=⟨H,ws,[]⟩) ?_ ks.length _ _
  ⟨0,h,[],_,1,by omega,Low.refl _ _,by simp,.inl ⟨rfl,rfl⟩,by omega,by omega,rfl,by simp only[go_sem,zN0],rfl⟩
 rintro g e st ⟨i,H,ws,v,n,hi,low,hw,hA,hn0,hn1,hnf,⟨e0,e6,e7,e12,e13,e14⟩,rfl⟩;have hHl:=low.len;by_cases h1:i<ks.length
 · have hzk1:zk=1:=by
    rcases hzk with rfl|h
    ·simp at h1
    ·exact h
   subst hzk1;have h1':(i:Int)< (ks.length:Int):=by omega
   have gk:=qee h1;have hkk:=hk _ (gX0 h1);have htk:ks.take (i+1)=ks.take i++[ks[i]]:=by rw[tS0 h1]
   generalize ks[i]=k at*;obtain⟨K,rfl⟩:=iZ0 hkk.1;have hK:K<dom.length:=by omega
   have hd:=qmq hK;have hdl':=hdl _ (mG0 hd);have ix:qcq 1 (domV dom) (iv0 (K:Int))=some (.iptr (encL (atL dom (K:Int))) 0):=by rw[domV,qc2,if_pos rfl,gM0,hd];rfl
   have lenl:lenOf (encL (atL dom (K:Int)))=some (atL dom (K:Int)).length:=by simp[encL,lenOf]
   have fe:qda 1 (List.replicate 1 .sn) [(0,encL (atL dom (K:Int)))]=some [encL (atL dom (K:Int))]:=rfl;obtain⟨H',fw,kt,ap,A',_,low',hfw⟩:=append_S (p:=encL (atL dom (K:Int))) hA rfl (by simp;omega) hHl;have evt:=times_ev hT (a:=n) (b:=((atL dom (K:Int)).length:Int)) (h:=H') hn0 hn1 (by omega) (by omega);simp(disch:=omega) only[go_sem,a116b0,e0,e6,e7,e12,e13,e14,h1',gk,ix,qfs,fe,ap,lenl,cb evt,hT.q];refine⟨g - 1,by omega,i+1,H',_,_,_,by omega,low.trans low',?_,?_,?_,?_,?_,⟨rfl,rfl,rfl⟩,rfl⟩
   ·grind
   ·grind
   · have:0≤n* ((atL dom (K:Int)).length:Int):=Int.mul_nonneg hn0 (by omega);omega
   ·omega
   · rw[htk,List.foldl_append,←hnf];rfl
 · have h1':¬(i:Int)< (ks.length:Int):=by omega
   rw[tL0 (by omega)]at hA hnf;obtain⟨z,m',rfl,hz⟩:=hA.form;simp(disch:=omega) only[go_sem,a116b0,e6,e13,e14,h1',lM0]
   refine wpC.loopM (fun g e st=> ∃i:Nat,i+g=ks.length∧(∀k∈ks.take i,(atL dom k).length≠0)∧(eget e 6=.slice z ((ks.map (atL dom)).map encL) m'∧eget e 7=iv0 n∧eget e 33=.slice z ((ks.map (atL dom)).map encL) m'∧eget e 34=iv0 (ks.length:Int)∧eget e 35=iv0 (i:Int))∧st=⟨H,ws,[]⟩) ?_ ks.length _ _
    ⟨0,by omega,by simp,by simp only[go_sem,e6,e7,zN0],rfl⟩
   clear e0 e6 e7 e12 e13 e14 h1 h1' hi;rintro g' e st ⟨i,hi,hne,⟨e6,e7,e33,e34,e35⟩,rfl⟩;by_cases h1:i<ks.length
   · have h1':(i:Int)< (ks.length:Int):=by omega
     have hz1:z=1:=by
      rcases hz with h|h
      ·simp_all
      ·exact h
     subst hz1;have ga:((ks.map (atL dom)).map encL)[i]?=some (encL (atL dom ks[i])):=by grind
     have htk:ks.take (i+1)=ks.take i++[ks[i]]:=by rw[tS0 h1]
     have hmk:ks[i]∈ks:=gX0 h1;generalize ks[i]=k at*;generalize hla:atL dom k=l at*;have lenl:lenOf (encL l)=some l.length:=by simp[encL,lenOf]
     by_cases hl0:l.length=0
     · have hb:((l.length:Int)==0)=true:=by simp[hl0]
       obtain⟨z',t1,t2⟩:=td H ws _ 0 low hw hA;simp(disch:=omega) only[go_sem,a116b1,e6,e33,e34,e35,h1',ga,qfs,lenl,hb,t1];exact⟨(z',0),rfl,t2,by simp,by unfold ovN;rw[if_pos ⟨k,hmk,by rw[hla];exact hl0⟩]⟩
     · have hb:((l.length:Int)==0)=false:=by simpa using hl0
       simp(disch:=omega) only[go_sem,a116b1,e6,e7,e33,e34,e35,h1',ga,qfs,lenl,hb];refine⟨g' - 1,by omega,i+1,by omega,fun k' hk'=>?_,rfl,trivial⟩;rw[htk]at hk';rcases mA0.1 hk' with hk'|hk'
       ·grind
       ·grind
   · have h1':¬(i:Int)< (ks.length:Int):=by omega
     obtain⟨z',t1,t2⟩:=td H ws _ n low hw hA;simp(disch:=omega) only[go_sem,a116b1,e6,e7,e34,e35,h1',t1];rw[tL0 (by omega)]at hne
     exact⟨(z',n),rfl,t2,⟨hn0,hn1⟩,by
      unfold ovN;rw[if_neg fun⟨k,hk1,hk2⟩=>hne k hk1 hk2];exact hnf⟩
include hT in
theorem assign_ev{z:Nat}{vs:PL}{m:SM}(hp:qas vs=true∧qaq vs=vs)(h:Hp):Ev T 117 [.slice z vs m] h (ba (.func (.func 182) [] [.iptr (.slice z vs .any) 0]) h):=by
 refine Ev.walk (mode:=0) (hT.sp _ (by decide)) ((hT.fn _).trans fn117) (show T.mode 117=0 from hT.mode 117) rfl ?_;have k1:=gC0 (l:=h) (a:=row 1 [.slice z vs m])
 have td:tidy 0 h.length (.val (.func (.func 182) [] [.pb h.length])) ⟨h++[row 1 [.slice z vs m]],[],[]⟩=(ba (.func (.func 182) [] [.iptr (.slice z vs .any) 0]) h):=by
  have f1:∀n,frz (h++[row 1 [.slice z vs m]]) h.length (n+1) (.slice z vs m)=some (.slice z vs .any):=fun n=>by rw[qb0 (by exact hp.1)];simp only[PV.weak,hp.2]
  have f2:∀n,frz (h++[row 1 [.slice z vs m]]) h.length (n+2) (.pb h.length)=some (.iptr (.slice z vs .any) 0):=fun n=>by rw[frz];simp only[PV.pure,bF0,if_false,k1,ll0,List.getElem?_cons_zero,f1,Option.map];rw[if_neg (by omega)];rfl
  have f3:frz (h++[row 1 [.slice z vs m]]) h.length 64 (.func (.func 182) [] [.pb h.length])=some (.func (.func 182) [] [.iptr (.slice z vs .any) 0]):=by rw[frz];simp only[PV.pure,qas,Bool.false_and,Bool.and_false,bF0,if_false,List.map_cons,List.map_nil,f2,qbs,Option.map]
  unfold tidy;simp[OR.v,f3,OR.put,AE.below]
 simp(disch:=omega) only[go_sem,td]
def SortedT(l:Ts):Prop:=∀(i j:Nat)(x y:Tm),i<j→l[i]?=some x→l[j]?=some y→tmC x y<0
include hT in
theorem lightZ_ev{dom:LT}(hd:∀l∈dom,l.length≤1000){z:Nat}{lists:List (IL)}{f:IL→Nat}(hf:∀l∈lists,l=[]∨f l=1){m:SM}(hz:lists=[]∨z=1)(hl:lists.length≤1000)(h:Hp):
 ∃b:Bool,Ev T 38 [domV dom,.slice z (lists.map fun l=>PV.slice (f l) (l.map encI) .any) m] h (ba (.bool b) h)∧(b=true→∀l∈lists,l.length≤100):=by
 refine Ev.walkP (r:=fun b:Bool=>(ba (.bool b) h)) (hT.sp _ (by decide)) ((hT.fn _).trans fn38) (hT.mode _) rfl ?_;have lend:lenOf (domV dom)=some dom.length:=by simp[domV,lenOf]
 simp(disch:=omega) only[go_sem,lM0]
 refine wpC.loopM (fun g e st=> ∃(i:Nat)(n:Int),i+g=lists.length∧0≤n∧n≤500* (i:Int)∧(∀l∈lists.take i,l.length≤100)∧(eget e 0=domV dom∧eget e 5=iv0 n∧eget e 11=.slice z (lists.map fun l=>PV.slice (f l) (l.map encI) .any) m∧eget e 12=iv0 (lists.length:Int)∧eget e 13=iv0 (i:Int))∧st=⟨h,[],[]⟩) ?_ lists.length _ _
  ⟨0,0,by omega,by omega,by omega,by simp,by simp only[go_sem,zN0],rfl⟩
 rintro g e st ⟨i,n,hi,hn0,hn1,hm,⟨e0,e5,e11,e12,e13⟩,rfl⟩;by_cases h1:i<lists.length
 · have h1':(i:Int)< (lists.length:Int):=by omega
   have hz1:z=1:=by grind
   subst hz1;have ga:(lists.map fun l=>PV.slice (f l) (l.map encI) .any)[i]?=some (.slice (f lists[i]) (lists[i].map encI) .any):=by rw[gM0,gE0 h1];rfl
   have hfi:=hf _ (gX0 h1);have htk:lists.take (i+1)=lists.take i++[lists[i]]:=by rw[tS0 h1]
   generalize lists[i]=l at*;by_cases h100:100<l.length
   · have hb:(100:Int)< (l.length:Int):=by omega
     simp(disch:=omega) only[go_sem,a38b1,e11,e12,e13,h1',ga,hb,lM0];exact⟨false,rfl,by simp⟩
   have hb:¬(100:Int)< (l.length:Int):=by omega
   simp(disch:=omega) only[go_sem,a38b1,e11,e12,e13,h1',ga,hb,lM0]
   refine wpC.loopM (fun g e st=> ∃(k:Nat)(c:Int),k+g=l.length∧0≤c∧c≤500∧(eget e 0=domV dom∧eget e 5=iv0 n∧eget e 8=iv0 c∧eget e 11=.slice 1 (lists.map fun l=>PV.slice (f l) (l.map encI) .any) m∧eget e 12=iv0 (lists.length:Int)∧eget e 13=iv0 (i:Int)∧eget e 20=.slice (f l) (l.map encI) .any∧eget e 21=iv0 (l.length:Int)∧eget e 22=iv0 (k:Int))∧st=⟨h,[],[]⟩) ?_ l.length _ _
    ⟨0,1,by omega,by omega,by omega,by simp only[go_sem,e0,e5,e11,e12,e13,zN0],rfl⟩
   clear e0 e5 e11 e12 e13;rintro g' e st ⟨k,c,hk,hc0,hc1,⟨e0,e5,e8,e11,e12,e13,e20,e21,e22⟩,rfl⟩;by_cases h2:k<l.length
   · have hf1:f l=1:=by
      rcases hfi with rfl|h
      ·simp at h2
      ·exact h
     rw[hf1]at e20;have h2':(k:Int)< (l.length:Int):=by omega
     have gk:=qee h2;generalize l[k]=v at*;by_cases hv:v<0
     · simp(disch:=omega) only[go_sem,a38b0,e0,e5,e8,e11,e12,e13,e20,e21,e22,h2',gk,hv];exact⟨g' - 1,by omega,k+1,c,by omega,hc0,hc1,⟨rfl,by rw[hf1],rfl⟩,trivial⟩
     obtain⟨V,rfl⟩:=iZ0 (show 0≤v by omega);by_cases hV:dom.length≤V
     · simp(disch:=omega) only[go_sem,a38b0,e0,e5,e8,e11,e12,e13,e20,e21,e22,h2',gk,hv,hV,lend];exact⟨g' - 1,by omega,k+1,c,by omega,hc0,hc1,⟨rfl,by rw[hf1],rfl⟩,trivial⟩
     have hV':V<dom.length:=by omega
     have hdl:=hd _ (gX0 hV');have ix:qcq 1 (domV dom) (iv0 (V:Int))=some (.iptr (encL dom[V]) 0):=by rw[domV,qc2,if_pos rfl,gM0,gE0 hV'];rfl
     generalize dom[V]=q at*;have lenq:lenOf (encL q)=some q.length:=by simp[encL,lenOf]
     have hcq:0≤c* (q.length:Int)∧c* (q.length:Int)≤500*1000:=by refine⟨Int.mul_nonneg hc0 (by omega),?_⟩;have h1:c* (q.length:Int)≤500* (q.length:Int):=Int.mul_le_mul_of_nonneg_right hc1 (by omega);omega
     by_cases hgt:500<c* (q.length:Int)
     · simp(disch:=omega) only[go_sem,a38b0,e0,e8,e20,e21,e22,h2',gk,hv,hV,lend,ix,qfs,lenq,hgt];exact⟨false,rfl,by simp⟩
     · simp(disch:=omega) only[go_sem,a38b0,e0,e5,e8,e11,e12,e13,e20,e21,e22,h2',gk,hv,hV,lend,ix,qfs,lenq,hgt];exact⟨g' - 1,by omega,k+1,_,by omega,hcq.1,by omega,⟨rfl,by rw[hf1],rfl⟩,trivial⟩
   · have h2':¬(k:Int)< (l.length:Int):=by omega
     simp(disch:=omega) only[go_sem,a38b0,e0,e5,e8,e11,e12,e13,e21,e22,h2'];refine⟨g - 1,by omega,i+1,n+c,by omega,by omega,by omega,fun l' hl'=>?_,⟨rfl,rfl⟩,trivial⟩;rw[htk]at hl';rcases mA0.1 hl' with hl'|hl'
     ·grind
     ·grind
 · have h1':¬(i:Int)< (lists.length:Int):=by omega
   simp(disch:=omega) only[go_sem,a38b1,e5,e12,e13,h1'];rw[tL0 (by omega)]at hm;exact⟨_,rfl,fun _=>hm⟩
theorem rangeI{T:Tbl}{g:AX}{ps:NL}{a b:ACode}{e:PL}{st:St}{Q:AExit→PL→St→Prop}{gf:FuncId}{captured:PL}{it:PL→Option (List (PL))}{yss:List (PL)}(hg:ax e g=.func (.func gf) [] captured)(hi:T.iter gf=some it)(hc:it captured=some yss)(I:Nat→St→Prop)(h0:I 0 st)
 (hstep:∀(i:Nat)(ys:PL)(s:St)(K:St→Prop),yss[i]?=some ys→I i s→(∀s2,I (i+1) s2→K s2)→ys.length=ps.length∧wpC T a (puts e ps ys) s fun x e1 s1=>x=.normal∧wpC T b e1 s1 fun x _ s2=>match x with
  |.normal=>K s2
  |.ret=>Q .ret e s2
  |.exit j=>Q (.exit j) e s2
  |.pan _=>False)
 (hend:∀s,I yss.length s→Q .normal e s):wpC T (.range g ps a b) e st Q:=by
 refine⟨gf,captured,it,yss,hg,hi,hc,?_⟩
 have key:∀(rest:List (PL))(i:Nat)(s:St),yss.drop i=rest→i≤yss.length→I i s→qga (wpC T a) (wpC T b) ps e Q rest s:=by
  intro rest;induction rest with
  |nil=>
    intro i s hd hil hI;have:i=yss.length:=by have:=congrArg List.length hd;simp at this;omega
    subst this;exact hend s hI
  |cons ys rest ih=>
    intro i s hd hil hI;have hlt:i<yss.length:=by grind
    have hy:yss[i]?=some ys:=by have:=List.drop_eq_getElem_cons hlt;rw[hd]at this;rw[gE0 hlt,←(List.cons.inj this).1]
    have hr:yss.drop (i+1)=rest:=by have:=List.drop_eq_getElem_cons hlt;rw[hd]at this;exact(List.cons.inj this).2.symm
    exact hstep i ys s _ hy hI fun s2 h2=>ih (i+1) s2 hr (by omega) h2
 exact key yss 0 st rfl (Nat.zero_le _) h0
theorem qqj{α β:Type}(f:α→β):∀ls:List (List α),qca (ls.map (List.map f))=(qca ls).map (List.map f)
 |[]=>rfl
 |l::ls=>by simp only[List.map_cons,qca,qqj f ls,List.map_flatMap,List.flatMap_map,List.map_map];rfl
theorem ql3{α:Type}:∀{ls:List (List α)}{us:List α},us∈qca ls→us.length=ls.length∧∀(i:Nat)(u:α)(l:List α),us[i]?=some u→ls[i]?=some l→u∈l
 |[],us,h=>by
   simp only[qca,mS0]at h;subst h;exact⟨rfl,fun i u l h=>by simp at h⟩
 |l::ls,us,h=>by
   simp only[qca,List.mem_flatMap,mM0]at h;obtain⟨x,hx,vs,hv,rfl⟩:=h;obtain⟨h1,h2⟩:=ql3 hv;refine⟨by simp[h1],fun i u l' hu hl=>?_⟩;cases i with
   |zero=>
     simp only[List.getElem?_cons_zero,Option.some.injEq]at hu hl;subst hu hl;exact hx
   |succ i=>exact h2 i u l' (by simpa using hu) (by simpa using hl)
def outT(n:Nat)(us:Ts):PV:=.slice (if n=0 then 0 else 3) (us.map encT) .any
theorem okYV_encL{l:Ts}(h:l.length≤1000):okYV (encL l)=true:=by
 have h2:(l.map encT).all isTm=true:=by rw[List.all_eq_true];intro x hx;obtain⟨⟨k,n,ts⟩,_,rfl⟩:=mM0.1 hx;rfl
 simp[okYV,encL,h,h2]
theorem iter_dom{z:Nat}{ls:LT}(hz:ls=[]∨z=1)(hn:ls.length≤500)(hl:∀l∈ls,l.length≤1000):itG [.iptr (.slice z (ls.map encL) .any) 0]=some ((qca ls).map fun us=>[outT ls.length us]):=by
 obtain⟨p1,p2⟩:=qo5 qpf ls;have hp:qas [PV.iptr (.slice z (ls.map encL) .any) 0]=true:=by simp[qas,PV.pure,p1]
 have hw:qaq [PV.iptr (.slice z (ls.map encL) .any) 0]=[PV.iptr (.slice z (ls.map encL) .any) 0]:=by simp only[qaq,PV.weak,p2]
 have ho:qo1 (ls.map encL) z=true:=by simp only[qo1,bA0,dE0,Bool.or_eq_true,List.isEmpty_iff,beq_iff_eq,List.all_eq_true];refine⟨⟨by simpa using hn,hz.imp (fun h=>by simp[h]) id⟩,fun v hv=>?_⟩;obtain⟨l,h1,rfl⟩:=mM0.1 hv;exact okYV_encL (hl l h1)
 unfold itG;rw[if_pos hp,hw];simp only[ho,if_true];have hr:(ls.map encL).map qb4=ls.map (List.map encT):=by rw[List.map_map];rfl
 unfold qpu;rw[hr,qqj,List.map_map]
 congr 2
 funext us
 simp only[Function.comp,outV,outT];have hw2:qaq (us.map encT)=us.map encT:=(qo5 qtd us).2;rw[hw2];cases ls<;>rfl
structure OpenX9 where
 i:Int
 z:Nat
 es:PL
 is:Bool
 e:Int
def OpenX9.v(x:OpenX9):PV:=.tuple [.int .i64 x.i,.slice x.z x.es .any,.bool x.is,.int .i64 x.e]
theorem Dom1.sorted{dom:LT}(D:Dom1 s dom){k:Nat}{l:Ts}(h:dom[k]?=some l):SortedT l∧∀x∈l,qa1 x=true:=by have hr:=D.2 k l h;refine⟨fun i j x y hij hx hy=>sorted_ne hr hij hx hy,fun x hx=>?_⟩;obtain⟨i,hi,rfl⟩:=List.getElem_of_mem hx;exact(hr.2 i _ (gE0 hi)).1.tree
structure OpenB (H:Hp)(n0:Nat)(t:GTy)(dom:LT):Prop where
 k2:H[n0]?=some (.row 3 [qai t])
 k3:H[n0+1]?=some (.row 1 [domV dom])
 k4:H[n0+2]?=some (.row 1 [.int .i64 0])
 k5:H[n0+3]?=some (.row 1 [.sn])
 k6:H[n0+4]?=some (.row 1 [.bool false])
 k7:H[n0+5]?=some (.row 1 [.int .i64 0])
theorem OpenB.low{H H':Hp}{n0:Nat}{t:GTy}{dom:LT}(B:OpenB H n0 t dom)(L:Low (n0+6) H H'):OpenB H' n0 t dom:=
 ⟨L.get (by omega) B.k2,L.get (by omega) B.k3,L.get (by omega) B.k4,L.get (by omega) B.k5,L.get (by omega) B.k6,L.get (by omega) B.k7⟩
include hT in
theorem qrn{F:Tm→Bool}{g:FuncId}{cap:PL}{h:Hp}(hg:T.prim g=none){l:Ts}{sz:Nat}{es:PL}{m:SM}(hs:es=[]∨sz=3)(hE:EncL l es)
 (hf:∀(x:Tm)(p:PV),x∈l→Enc x p→Ev T g (p::cap) h (ba (.bool (F x)) h))(hal:es.length<1000000):
 ∃b:Bool,Ev T 48 [.slice sz es m,.func (.func g) [] cap] h (ba (.bool b) h)∧(b=true↔∃x∈l,F x=true):=by
 obtain⟨b,ev,h1,h2⟩:=qks hT (P:=fun x=>F x=false) (Q:=fun x=>F x=false) (m:=m) hg hs hE (fun i x p hx hp=>⟨F x,hf x p (mG0 hx) (hE.2 i x p hx hp),id,id⟩) hal;refine⟨b,ev,fun hb=>?_,fun⟨x,hx,hF⟩=>?_⟩
 ·grind
 ·grind
structure Val7 (H:Hp)(k3 k4 k11 k16:Nat)(t:GTy)(dom:LT):Prop where
 q3:H[k3]?=some (.row 3 [qai t])
 q4:H[k4]?=some (.row 1 [domV dom])
 q11:H[k11]?=some (.row 1 [.func (.func 47) [] [.pb k4]])
 q16:H[k16]?=some (.row 1 [.func (.func 52) [] [.pb k16,.pb k3,.pb k11]])
theorem Val7.low{h H:Hp}{k3 k4 k11 k16:Nat}{t:GTy}{dom:LT}(V:Val7 h k3 k4 k11 k16 t dom)(L:Low h.length h H):Val7 H k3 k4 k11 k16 t dom:=by obtain⟨a,b,c,d⟩:=V;exact⟨L.get (gI0.1 a).1 a,L.get (gI0.1 b).1 b,L.get (gI0.1 c).1 c,L.get (gI0.1 d).1 d⟩
end Go.Proofs.Tryz
namespace Go.Proofs.Tryz
open Go Go.AE
def a37b0:ACode:=(sr0 [lo 9 8 7] (.seq (cn0 9 .skip (.exit 0)) (.seq (.block 1 (sr0 [ro 10 (ix 6 6 8),rp 11 (la true 6 10),rp 5 (.box 6 (.c zq6)),ws 6 5 11] (.reg [mv 12 3,ro 13 (fa 0 5),rp 14 (l3 13),ro 15 (fa 3 5),rp 16 (l3 15),ro 17 (.buildSlice 3 zq3 2 [(0,(.t 14)),(1,(.t 16))]),rp 18 (.append 3 40 (.t 12) (.t 17)),mv 3 18]))) (.reg [nx 19 8,mv 8 19]))))
def a37:AFunc:=⟨1,22,(sr0 [ro 2 (.move cF)] (sr0 [ro 3 (.move (.c .sn))] (.seq (sr0 [mv 6 0,ro 7 (ll 6),c0 8] (bl0 0 a37b0)) (sr0 [mv 20 3,rp 21 (.call (.f 17) [(ci 100),(.t 20)]),mv 2 21] .ret)))),[.t 2]⟩
theorem fn37:fnOf 37=some a37:=by kernel_rfl
def qtp:ACode:=(sr0 [lo 45 44 43] (.seq (cn0 45 .skip (.exit 0)) (.seq (.block 1 (sr0 [ro 46 (ix 6 42 44),rp 47 (la true 6 46),rp 12 (.box 6 (.c zq6)),ws 6 12 47] (sr0 [ro 49 (fa 0 4),rp 50 (la true 2 49),mv 51 2,ro 52 (fa 0 12),rp 53 (l3 52),rp 54 (.call (.f 45) [(.t 50),(.t 51),(.t 53)]),mv 48 54,ro 55 (et 48 0),ro 56 (et 48 1),mv 13 55,mv 14 56] (sr0 [ro 58 (fa 0 4),rp 59 (la true 2 58),mv 60 2,ro 61 (fa 3 12),rp 62 (l3 61),rp 63 (.call (.f 45) [(.t 59),(.t 60),(.t 62)]),mv 57 63,ro 64 (et 57 0),ro 65 (et 57 1),mv 15 64,mv 16 65] (sr0 [mv 66 14,ro 67 (bc .neq 66 0),mv 68 67,rg 69 (mo 16) 68 false,rg 70 (bc .neq 69 0) 68 false,ro 71 (.pick (.t 68) cT (.t 70)),mv 72 71,rg 73 (mo 13) 72 false,rg 74 (mo 15) 72 false,rg 75 (bi .neq 73 74) 72 false,ro 76 (.pick (.t 72) cT (.t 75))] (cn0 76 (sr0 [wr (.store 1 (.t 8) (.c .sn)) 0 0 false,wr (.store 1 (.t 9) (ci 4)) 0 0 false] .ret) .skip)))))) (.reg [nx 77 44,mv 44 77]))))
def a39:AFunc:=⟨4,109,(sr0 [rp 4 (.box 3 (.t 0)),rp 7 (.box 1 (.t 3)),rp 8 (.box 1 (.c .sn)),rp 9 (.box 1 (ci 0))] (.seq (sr0 [rp 23 (l3 4),mv 24 1,rp 25 (.call (.f 114) [(.t 23),(.t 24)]),mv 10 25] (sr0 [mv 26 10,ro 27 (bc .neq 26 0)] (cn0 27 (sr0 [mv 28 10,wr (.store 1 (.t 8) (.c .sn)) 0 0 false,ws 1 9 28] .ret) .skip))) (.seq (sr0 [mv 29 2,ro 30 (ll 29),ro 31 (bc .gtr 30 64),mv 32 31,rh 33 (l1 7) 32 false,rg 34 (ll 33) 32 false,rg 35 (bc .gtr 34 8) 32 false,ro 36 (.pick (.t 32) cT (.t 35)),mv 37 36,rg 38 (mo 2) 37 false,rg 39 (.mkFunc (.func 115) [] [(.t 4)]) 37 false,rh 40 (.call (.f 65) [(.t 38),(.t 39)]) 37 false,ro 41 (.pick (.t 37) cT (.t 40))] (cn0 41 (sr0 [wr (.store 1 (.t 8) (.c .sn)) 0 0 false,wr (.store 1 (.t 9) (ci 1)) 0 0 false] .ret) .skip)) (.seq (sr0 [rp 42 (l1 7),ro 43 (ll 42),c0 44] (bl0 0 qtp)) (sr0 [mv 79 1,mv 80 2,rp 81 (.call (.f 116) [(.t 79),(.t 80)]),mv 78 81,ro 82 (et 78 0),ro 83 (et 78 1),mv 17 82,mv 18 83] (.seq (sr0 [mv 84 18,ro 85 (bc .gtr 84 200000)] (cn0 85 (sr0 [wr (.store 1 (.t 8) (.c .sn)) 0 0 false,wr (.store 1 (.t 9) (ci 2)) 0 0 false] .ret) .skip)) (sr0 [rp 19 (.box 1 (.c .sn))] (.seq (sr0 [mv 86 17,rp 87 (.call (.f 117) [(.t 86)])] (.block 2 (.range (.t 87) [88] (.reg [mv 20 88]) (.block 3 (sr0 [rp 90 (l3 4),rp 91 (l1 7),mv 92 20,rp 93 (.call (.f 118) [(.t 90),(.t 91),(.t 92)]),mv 89 93,ro 94 (et 89 0),ro 95 (et 89 1),mv 21 94,mv 22 95] (.seq (sr0 [mv 96 22,ro 97 (bc .neq 96 0)] (cn0 97 (sr0 [mv 98 22,wr (.store 1 (.t 8) (.c .sn)) 0 0 false,ws 1 9 98] .ret) .skip)) (.seq (sr0 [mv 99 21] (cn0 99 (.regD [rp 100 (l1 19),rd 101 (mo 20) false 1 0 true,rd 102 (.call (.f 119) [(.t 101)]) true 2 2 true,rd 103 (.buildSlice 1 .sn 1 [(0,(.t 102))]) false 3 6 true,rd 104 (.append 1 24 (.t 100) (.t 103)) true 4 15 true,wr (so 1 19 104) 5 31 true]) .skip)) (sr0 [rp 105 (l1 19),ro 106 (ll 105),ro 107 (bc .gtr 106 4000)] (cn0 107 (sr0 [wr (.store 1 (.t 8) (.c .sn)) 0 0 false,wr (.store 1 (.t 9) (ci 2)) 0 0 false] .ret) .skip))))))))) (sr0 [rp 108 (l1 19),ws 1 8 108,wr (.store 1 (.t 9) (ci 0)) 0 0 false] .ret))))))))),[.cell 8 false 1,.cell 9 false 1]⟩
theorem fn39:fnOf 39=some a39:=by kernel_rfl
def a115:AFunc:=⟨2,9,(sr0 [ro 3 (.move cF)] (sr0 [ro 4 (fa 0 1),rp 5 (la true 2 4),mv 6 0,rp 7 (.call (.f 88) [(.t 5),(.t 6)]),ro 8 (no 7),mv 3 8] .ret)),[.t 3]⟩
theorem fn115:fnOf 115=some a115:=by kernel_rfl
def qku:ACode:=(sr0 [lo 28 27 26] (.seq (cn0 28 .skip (.exit 2)) (.seq (.block 3 (sr0 [mv 29 27,ro 30 (ix 3 25 27),rp 31 (l3 30),rp 12 (.box 3 (.c zq3)),mv 11 29,ws 3 12 31] (sr0 [rp 33 (l3 12),mv 34 2,rp 35 (.call (.f 151) [(.t 33),(.t 34)]),mv 32 35,ro 36 (et 32 0),ro 37 (et 32 1),rp 13 (.box 3 (.c zq3)),ws 3 13 36,mv 14 37] (.seq (sr0 [mv 38 14,ro 39 (bc .neq 38 0)] (cn0 39 (sr0 [ro 6 (.move cF),ro 7 (.move (ci 2))] .ret) .skip)) (sr0 [mv 41 11,rp 42 (l3 3),rp 43 (l3 13),rp 44 (.call (.f 50) [(.t 42),(.t 43)]),mv 40 44,ro 45 (et 40 0),ro 46 (et 40 1),ro 47 (.idxArr 2 3 (.t 10) (.t 41)),ws 3 47 45,mv 14 46] (sr0 [mv 48 14,ro 49 (bc .neq 48 0)] (cn0 49 (sr0 [ro 6 (.move cF),ro 7 (.move (ci 2))] .ret) .skip))))))) (.reg [nx 50 27,mv 27 50]))))
def a118b1:ACode:=(sr0 [lo 18 17 16] (.seq (cn0 18 .skip (.exit 0)) (.seq (.block 1 (sr0 [ro 19 (ix 6 15 17),rp 20 (la true 6 19),rp 9 (.box 6 (.c zq6)),ws 6 9 20] (sr0 [rp 10 (.box 6 (.c zq6))] (.seq (sr0 [ro 21 (fa 0 9),rp 22 (l3 21),ro 23 (fa 3 9),rp 24 (l3 23),ro 25 (.buildSlice 3 zq3 2 [(0,(.t 22)),(1,(.t 24))]),ro 26 (ll 25),c0 27] (bl0 2 qku)) (sr0 [ro 51 (.idxArr 2 3 (.t 10) (ci 0)),rp 52 (l3 51),ro 53 (.idxArr 2 3 (.t 10) (ci 1)),rp 54 (l3 53),rp 55 (.call (.f 22) [(.t 52),(.t 54)]),ro 56 (no 55)] (cn0 56 (sr0 [ro 6 (.move cF),c0 7] .ret) .skip)))))) (.reg [nx 57 17,mv 17 57]))))
def a118:AFunc:=⟨3,58,(sr0 [rp 3 (.box 3 (.t 0)),ro 6 (.move cF),c0 7] (.seq (sr0 [mv 15 1,ro 16 (ll 15),c0 17] (bl0 0 a118b1)) (sr0 [ro 6 (.move cT),c0 7] .ret))),[.t 6,.t 7]⟩
theorem fn118:fnOf 118=some a118:=by kernel_rfl
def qr3:ACode:=(sr0 [lo 35 34 33] (.seq (cn0 35 .skip (.exit 0)) (.seq (.block 1 (sr0 [ro 36 (ix 3 32 34),rp 37 (l3 36),rp 8 (.box 3 (.c zq3)),ws 3 8 37] (sr0 [rp 39 (l3 8),rp 40 (.call (.f 46) [(.t 39)]),mv 38 40,ro 41 (et 38 0),ro 42 (et 38 1),mv 9 41,mv 10 42] (.reg [mv 43 6,mv 44 6,ro 45 (nc 44),ro 46 (fa 1 45),rp 47 (l1 46),mv 48 9,ro 49 (.buildSlice 1 (.int .i64 0) 1 [(0,(.t 48))]),rp 50 (.append 1 8 (.t 47) (.t 49)),ro 51 (nc 43),ro 52 (fa 1 51),ws 1 52 50])))) (.reg [nx 53 34,mv 34 53]))))
def a151:AFunc:=⟨2,67,(sr0 [rp 2 (.box 3 (.t 0)),rp 4 (.box 3 (.c zq3)),c0 5] (.seq (sr0 [rp 13 (l3 2),rp 14 (.call (.f 130) [(.t 13)]),ro 15 (no 14),mv 16 15,rg 17 (mo 1) 16 false,rh 18 (.call (.f 195) [(.t 17)]) 16 false,rg 19 (bc .neq 18 0) 16 false,ro 20 (.pick (.t 16) cT (.t 19))] (cn0 20 (sr0 [ro 21 (.build [(.int .i64 0),(.int .i64 0),.sn] []),ws 3 4 21,ro 5 (.move (ci 4))] .ret) .skip)) (.seq (sr0 [rp 22 (l3 2),ro 23 (.buildSlice 3 zq3 1 [(0,(.t 22))]),rp 24 (.call (.f 196) [(.t 23)]),mv 25 1,ro 26 (ll 25),ro 27 (bi .geq 24 26)] (cn0 27 (sr0 [ro 28 (.build [(.int .i64 0),(.int .i64 0),.sn] []),ws 3 4 28,ro 5 (.move (ci 1))] .ret) .skip)) (sr0 [mv 29 1,ro 30 (.build [.sn,.sn,(.int .i64 0)] [(0,1,(.t 29)),(2,1,(ci 2000))]),rp 31 (.box 3 (.t 30)),mv 6 31] (.seq (sr0 [mv 32 1,ro 33 (ll 32),c0 34] (bl0 0 qr3)) (sr0 [mv 55 6,rp 56 (l3 2),rp 57 (.call (.f 197) [(.t 55),(.t 56)]),mv 54 57,ro 58 (et 54 0),ro 59 (et 54 1),rp 11 (.box 3 (.c zq3)),ws 3 11 58,mv 12 59] (.seq (sr0 [mv 60 12,ro 61 (no 60)] (cn0 61 (sr0 [ro 62 (.build [(.int .i64 0),(.int .i64 0),.sn] []),ws 3 4 62,ro 5 (.move (ci 2))] .ret) .skip)) (sr0 [rp 63 (l3 11),rp 64 (.call (.f 198) [(.t 63)]),ro 65 (et 64 0),ro 66 (et 64 1),ws 3 4 65,mv 5 66] .ret)))))))),[.cell 4 true 3,.t 5]⟩
theorem fn151:fnOf 151=some a151:=by kernel_rfl
def a197b0:ACode:=(sr0 [lo 66 65 64] (.seq (cn0 66 .skip (.exit 0)) (.seq (.block 1 (sr0 [ro 67 (ix 3 63 65),rp 68 (l3 67),rp 8 (.box 3 (.c zq3)),ws 3 8 68] (sr0 [mv 70 0,rp 71 (l3 8),rp 72 (.call (.f 197) [(.t 70),(.t 71)]),mv 69 72,ro 73 (et 69 0),ro 74 (et 69 1),rp 9 (.box 3 (.c zq3)),ws 3 9 73,mv 10 74] (.seq (sr0 [mv 75 10,ro 76 (no 75)] (cn0 76 (sr0 [ro 77 (.build [(.int .i64 0),(.int .i64 0),.sn] []),ws 3 4 77,ro 5 (.move cF)] .ret) .skip)) (.reg [ro 78 (fa 2 6),rp 79 (l1 78),rp 80 (l3 9),ro 81 (.buildSlice 3 zq3 1 [(0,(.t 80))]),rp 82 (.append 3 40 (.t 79) (.t 81)),ro 83 (fa 2 6),ws 1 83 82]))))) (.reg [nx 84 65,mv 65 84]))))
def a197:AFunc:=⟨2,86,(sr0 [rp 3 (.box 3 (.t 1)),rp 4 (.box 3 (.c zq3)),ro 5 (.move cF)] (.seq (sr0 [ro 11 (fa 0 3),rp 12 (l1 11),ro 13 (bc .eql 12 1)] (cn0 13 (.seq (sd0 [mv 14 0,rd 15 (nc 14) false 1 1 false,rd 16 (fa 2 15) false 2 3 false,rd 17 (l1 16) true 3 7 false,rd 18 (mo 0) false 4 0 false,rd 19 (nc 18) false 5 16 false,rd 20 (fa 1 19) false 6 48 false,rd 21 (l1 20) true 7 112 false,rd 22 (fa 1 3) false 8 0 true,rd 23 (l1 22) true 9 256 true,rd 24 (ix 1 21 23) false 10 1008 true,rd 25 (l1 24) true 11 2032 true,rd 26 (bi .sub 17 25) false 12 4095 true,rd 27 (nc 14) false 13 8191 true,rd 28 (fa 2 27) false 14 16383 true,wr (so 1 28 26) 15 32767 true] (sr0 [mv 29 0,ro 30 (nc 29),ro 31 (fa 2 30),rp 32 (l1 31),ro 33 (bc .lss 32 0)] (cn0 33 (sr0 [ro 34 (.build [(.int .i64 0),(.int .i64 0),.sn] []),ws 3 4 34,ro 5 (.move cF)] .ret) .skip))) (sd0 [mv 35 0,rd 36 (nc 35) false 1 1 false,rd 37 (fa 0 36) false 2 3 false,rd 38 (l1 37) true 3 7 false,rd 39 (fa 1 3) false 4 0 true,rd 40 (l1 39) true 5 16 true,rd 41 (ix 3 38 40) false 6 63 true,rd 42 (l3 41) true 7 127 true,rd 43 (.call (.f 226) [(.t 42)]) true 8 255 true,wr (so 3 4 43) 9 511 true,rd 5 (.move cT) false 10 1023 true] .ret)) .skip)) (.seq (sr0 [mv 44 0,ro 45 (nc 44),ro 46 (fa 2 45),rp 47 (l1 46),ro 48 (bc .sub 47 1),ro 49 (nc 44),ro 50 (fa 2 49),ws 1 50 48] (sr0 [mv 51 0,ro 52 (nc 51),ro 53 (fa 2 52),rp 54 (l1 53),ro 55 (bc .lss 54 0)] (cn0 55 (sr0 [ro 56 (.build [(.int .i64 0),(.int .i64 0),.sn] []),ws 3 4 56,ro 5 (.move cF)] .ret) .skip))) (sr0 [ro 57 (fa 0 3),rp 58 (l1 57),ro 59 (fa 1 3),rp 60 (l1 59),ro 61 (.build [(.int .i64 0),(.int .i64 0),.sn] [(0,1,(.t 58)),(1,1,(.t 60))]),rp 6 (.box 3 (.c zq3)),ws 3 6 61] (.seq (sr0 [ro 62 (fa 2 3),rp 63 (l1 62),ro 64 (ll 63),c0 65] (bl0 0 a197b0)) (sr0 [rp 85 (l3 6),ws 3 4 85,ro 5 (.move cT)] .ret)))))),[.cell 4 true 3,.t 5]⟩
theorem fn197:fnOf 197=some a197:=by kernel_rfl
def a198:AFunc:=⟨1,9,(sr0 [rp 1 (.box 3 (.t 0)),rp 2 (.box 3 (.c zq3)),c0 3] (.seq (sr0 [rp 4 (l3 1),rp 5 (.call (.f 130) [(.t 4)]),ro 6 (no 5)] (cn0 6 (sr0 [ro 7 (.build [(.int .i64 0),(.int .i64 0),.sn] []),ws 3 2 7,ro 3 (.move (ci 2))] .ret) .skip)) (sr0 [rp 8 (l3 1),ws 3 2 8,c0 3] .ret))),[.cell 2 true 3,.t 3]⟩
theorem fn198:fnOf 198=some a198:=by kernel_rfl
end Go.Proofs.Tryz
namespace Go.Proofs.Tryz
open Go Go.AE
open Go.AE.Obj (row)
variable {T:Tbl}(hT:Std T){s:GSig}
def zTm:Tm:=.mk 0 0 []
mutual
def subT(l:Ts):Tm→Tm
 |.mk k n ts=>if k=1 then l.getD n.toNat zTm else .mk k n (subL l ts)
def subL(l:Ts):Ts→Ts
 |[]=>[]
 |t::ts=>subT l t::subL l ts
end
mutual
def qlh(m:Nat):Tm→Prop
 |.mk k n ts=>if k=1 then 0≤n∧n< (m:Int)else qkf m ts
def qkf(m:Nat):Ts→Prop
 |[]=>True
 |t::ts=>qlh m t∧qkf m ts
end
theorem qnb{m:Nat}:∀{ts:Ts}{x:Tm},qkf m ts→x∈ts→qlh m x
 |t::ts,x,h,hx=>by
   rcases mN0.1 hx with rfl|hx
   ·exact h.1
   ·exact qnb h.2 hx
theorem qot(l:Ts):∀ts:Ts,subL l ts=ts.map (subT l)
 |[]=>rfl
 |t::ts=>by rw[subL,qot l ts];rfl
theorem qgw{h H:Hp}{km:Nat}{o:AE.Obj}{v:PV}{ws:NL}{ups:UL}(hp:v.pure=true)(M:Mod h H km o)(W:okWs h km ws)(hu:∀x∈ups,h.length≤x.1):∃ws',tidy 0 h.length (.val v) ⟨H,ws,ups⟩=(.val v.weak,⟨h.set km o,ws',[]⟩)∧∀x∈ws',x=km:=by
 refine⟨AE.below h.length ws,?_,fun x hx=>?_⟩
 · have hua:(ups.any fun(k,j)=>k<h.length&&h.length≤j)=false:=by rw[List.any_eq_false];rintro⟨k,j⟩ hx;have:=hu _ hx;simp at this⊢;omega
   have huf:ups.filter (fun(k,_)=>k<h.length)=[]:=List.filter_eq_nil_iff.2 fun x hx=>by have:=hu x hx;simp;omega
   have hf:frz H h.length 64 v=some v.weak:=qb0 hp;unfold tidy;rw[if_neg (by decide),if_neg (by simpa using hua)];simp only[OR.v,hf,huf,M.take,OR.put];rfl
 · obtain⟨h1,h2⟩:=List.mem_filter.1 hx;have h2:x<h.length:=by simpa using h2
   rcases W x h1 with h|h
   ·exact h
   ·omega
theorem st_f2i{H:Hp}{ws:NL}{ups:UL}{k:Nat}{a b:PV}{c v:Int}(hk:H[k]?=some (.row 3 [.agg [a,b,iv0 c]])):
 storeAt 1 (.ptr k 0 2 1) (iv0 v) ⟨H,ws,ups⟩=some ⟨H.set k (.row 3 [.agg [a,b,iv0 v]]),wadd k ws,ups⟩:=by
 have hu:upd (.agg [a,b,iv0 c]) 2 (iv0 v)=some (.agg [a,b,iv0 v]):=rfl;simp only[storeAt,hk,ll0,PV.cells,List.all_cons,List.all_nil,PV.isCell,Bool.and_self,and_self,if_true,List.getElem?_cons_zero,hu,Option.map,sC0,PV.top,qau]
def qfl(lv sv:PV)(left:Int):AE.Obj:=.row 3 [.agg [lv,sv,iv0 left]]
theorem Mod.lowM{h H H':Hp}{km:Nat}{o:AE.Obj}(M:Mod h H km o)(L:Low h.length H H'):Mod h H' km o:=⟨by rw[L.take];exact M.take,nT0 M.len L.len,M.lt⟩
theorem append_K{H:Hp}{v p:PV}{es:PL}{lo:Nat}(A:AppL H v es lo)(hp:p.cells.all PV.isCell=true)(hl:es.length<100000)(hlo:lo≤H.length):
 ∃(H':Hp)(fw:NL→NL)(kt:Nat),(∀ws ups,appendop 3 40 v (.slice 3 [p] .lit) ⟨H,ws,ups⟩=some (.slice 3 (es++[p]) (.tok kt),⟨H',fw ws,ups⟩))∧AppL H' (.slice 3 (es++[p]) (.tok kt)) (es++[p]) lo∧(∀(j sz:Nat)(r:PL),H[j]?=some (.row sz r)→H'[j]?=some (.row sz r))∧Low lo H H'∧∀ws,∀x∈fw ws,x∈ws∨lo≤x:=by
 have hroom:(es.length+1) *40≤room∧es.length+1≤room:=by
  have:10000000≤room:=by decide
  constructor<;>omega
 rcases A with⟨rfl,rfl⟩|⟨kt,rfl,h2,h3⟩
 · simp at hroom;refine⟨H++[.tok 3 1],fun ws=>ws,H.length,fun ws ups=>?_,.inr ⟨H.length,rfl,by simp,hlo⟩,fun j sz r hj=>qah hj,(Low.refl _ _).push hlo,fun ws x hx=>.inl hx⟩;simp[appendop,qch,hp,hroom,alloc]
 · refine⟨H.set kt (.tok 3 (es.length+1)),wadd kt,kt,fun ws ups=>?_,.inr ⟨kt,rfl,by rw[qak h2];simp,h3⟩,fun j sz r hj=>qaa hj ?_,.set h3,fun ws x hx=>?_⟩
   ·simp[appendop,qch,hp,hroom,h2,qau]
   ·grind
   · rcases qa3 hx with rfl|h
     ·omega
     ·exact .inl h
theorem qgf{h:Hp}{km:Nat}:okWs h km []:=fun x hx=>by cases hx
set_option maxRecDepth 8000 in
include hT in
theorem put_ev{l:Ts}{zl:Nat}{ls:PL}{ml:SM}(hzl:ls=[]∨zl=3)(hL:EncL l ls)(hlt:∀x∈l,qa1 x=true){sv:PV}{zs:Nat}{ms:SM}(hsv:sv=.slice zs ((l.map fun x=>(x.nodes:Int)).map encI) ms)(hzs:l=[]∨zs=1){t:Tm}{p:PV}(ht:Enc t p):
 t.nodes≤2000→qav t=true→qlh l.length t→∀(h:Hp)(kf:Nat)(left:Int),h[kf]?=some (qfl (.slice zl ls ml) sv left)→0≤left∧left≤2000→
 ∃x:PV×Bool×Int×NL,Ev T 197 [.pb kf,p] h (.val (.tuple [x.1,.bool x.2.1]),⟨h.set kf (qfl (.slice zl ls ml) sv x.2.2.1),x.2.2.2,[]⟩)∧((x.2.1=false∧x.1=qdd)∨(x.2.1=true∧Enc (subT l t) x.1∧0≤x.2.2.1))∧x.2.2.1≤left∧∀y∈x.2.2.2,y=kf:=by
 have hc:=ht.cells;have hsb:=ht.sub;induction ht with
 |mk k n ts sz es hz hl he ih=>
   intro hnd hsh hvb h kf left hkf hleft;simp only[qav,bA0,dE0,qb2]at hsh;obtain⟨⟨⟨⟨hn,_⟩,_⟩,hl8⟩,hall⟩:=hsh;refine Ev.walkP (r:=fun x:PV×Bool×Int×NL=>(.val (.tuple [x.1,.bool x.2.1]),⟨h.set kf (qfl (.slice zl ls ml) sv x.2.2.1),x.2.2.2,[]⟩)) (hT.sp _ (by decide)) ((hT.fn _).trans fn197) (hT.mode _) rfl ?_;obtain⟨c1,c2,c3,c4⟩:=hc;simp only[Tm.nodes]at hnd;have hP0:∃P,P=PV.agg [iv0 k,iv0 n,.slice sz es .any]:=⟨_,rfl⟩;obtain⟨P,hP⟩:=hP0;rw[←hP]at hsb c1 c2 c3 c4⊢;have hkl:=(gI0.1 hkf).1;have k1:=gC0 (l:=h) (a:=row 3 [P]);have M1:Mod h (h++[row 3 [P]]) kf (qfl (.slice zl ls ml) sv left):=(Mod.refl hkf).push;have hl1:(h++[row 3 [P]]).length=h.length+1:=by simp
   generalize hH1:h++[row 3 [P]]=H1 at*;have k2:=gC0 (l:=H1) (a:=row 3 [zN]);have k12:=qah (o2:=row 3 [zN]) k1;have M2:Mod h (H1++[row 3 [zN]]) kf (qfl (.slice zl ls ml) sv left):=M1.push;have hl2:(H1++[row 3 [zN]]).length=h.length+2:=by simp;omega
   have e2:H1++[row 3 [zq3]]=H1++[row 3 [zN]]:=rfl;generalize H1++[row 3 [zN]]=H2 at*;generalize hkr:H1.length=kr at*;have l0:loadAt false 1 (.pb h.length) H2=some (iv0 k):=by rw[qad k12,hP];rfl
   have l1:loadAt false 1 (.ptr h.length 0 1 1) H2=some (iv0 n):=by rw[qad k12,hP];rfl
   have f2:=M2.get;have lf2:loadAt false 1 (.ptr kf 0 2 1) H2=some (iv0 left):=by rw[qad f2];rfl
   by_cases hk:k=1
   · have hkb:(k==1)=true:=by simpa using hk
     have hv:0≤n∧n< (l.length:Int):=by simp only[qlh,if_pos hk]at hvb;exact hvb
     obtain⟨N,rfl⟩:=iZ0 hv.1;have hN:N<l.length:=by omega
     have lf1:loadAt false 1 (.ptr kf 0 1 1) H2=some sv:=by rw[qad f2];rw[hsv];rfl
     have hne:l≠[]:=fun h=>by rw[h]at hN;simp at hN
     have hzs1:zs=1:=hzs.resolve_left hne;subst hzs1;have hll':=hL.1;have hzl3:zl=3:=by grind
     subst hzl3;have hNn:N< (l.map fun x=>(x.nodes:Int)).length:=by simpa using hN
     have gn:=qee hNn;have gnv:(l.map fun x=>(x.nodes:Int))[N]=(l[N].nodes:Int):=by simp
     rw[gnv]at gn;have gl:=qbt (show N<ls.length by omega);have hlN:l[N]?=some l[N]:=gE0 hN;have hEN:=hL.2 N _ _ hlN gl;have hxt:=hlt _ (gX0 hN);have hxn:=qbi hxt;have hsub1:subT l (.mk k (N:Int) ts)=l[N]:=by simp only[subT,if_pos hk,Int.toNat_natCast,gD0,hlN,Option.getD_some]
     have ix:qcq 1 sv (iv0 (N:Int))=some (.iptr (iv0 (l[N].nodes:Int)) 0):=by rw[hsv,qc2,if_pos rfl,gn];rfl
     generalize l[N]=u at*;generalize ls[N]=U at*;have us:=hEN.sub;simp only[lM0]at hNn;have hlen1:((l.map fun x=>(x.nodes:Int)).map encI).length=l.length:=by simp
     have s1:=fun ws=>st_f2i (ws:=ws) (ups:=[]) (v:=left - (u.nodes:Int)) f2;have f3:=qak (o':=row 3 [.agg [.slice 3 ls ml,sv,iv0 (left - (u.nodes:Int))]]) f2;have k23:=qaa (o':=row 3 [.agg [.slice 3 ls ml,sv,iv0 (left - (u.nodes:Int))]]) k2 (show kf≠kr by omega);have k13:=qaa (o':=row 3 [.agg [.slice 3 ls ml,sv,iv0 (left - (u.nodes:Int))]]) k12 (show kf≠h.length by omega);have M3:Mod h (H2.set kf (.row 3 [.agg [.slice 3 ls ml,sv,iv0 (left - (u.nodes:Int))]])) kf (qfl (.slice 3 ls ml) sv (left - (u.nodes:Int))):=M2.put;have hl3:(H2.set kf (.row 3 [.agg [.slice 3 ls ml,sv,iv0 (left - (u.nodes:Int))]])).length=h.length+2:=by simp[hl2]
     generalize hH3:H2.set kf (.row 3 [.agg [.slice 3 ls ml,sv,iv0 (left - (u.nodes:Int))]])=H3 at*;have lf3:loadAt false 1 (.ptr kf 0 2 1) H3=some (iv0 (left - (u.nodes:Int))):=by rw[qad f3];rfl
     by_cases hneg:left - (u.nodes:Int)<0
     · have fb:qdt [PV.int .i64 0,iv0 0,.sn] []=some [iv0 0,iv0 0,.sn]:=rfl;obtain⟨u4,sv4,hu4⟩:=qf0 (ups:=[]) (x:=0) (y:=0) (sz:=0) (es:=[]) (m:=.nil) k23;have l8:loadAt true 3 (.pb kr) (H3.set kr (.row 3 [.agg [iv0 0,iv0 0,.sn]]))=some (.agg [iv0 0,iv0 0,.sn]):=by rw[qad (qak k23)];rfl
       simp(disch:=first|omega|decide|simp only[go_sem]) only[go_sem,hH1,e2,hkr,c1,c3,ll0,l0,l1,hkb,lf2,lf1,ix,s1,lf3,hneg,fb,sv4,resv,l8,hT.prim]
       obtain⟨wz,t1,t2⟩:=qgw (v:=.tuple [.agg [iv0 0,iv0 0,.sn],.bool false]) rfl (M3.putNew (k:=kr) (o':=.row 3 [.agg [iv0 0,iv0 0,.sn]]) (by omega)) (ws:=wadd kr (wall (wadd kf []) [])) (okWs.add (okWs.wall (okWs.add qgf (.inl rfl)) qgf) (.inr (by omega))) (fun x hx=>by
        rcases hu4 x hx with h|h
        ·cases h
        ·omega)
       exact⟨(qdd,false,left - (u.nodes:Int),wz),t1,.inl ⟨rfl,rfl⟩,by simp only;omega,t2⟩
     · obtain⟨q,evc,hq⟩:=qml hT hEN hxn (qaw hxt) H3;obtain⟨x1,x2,_,x4⟩:=hq.cells;have lfa:loadAt false 1 (.pb kf) H3=some (.slice 3 ls ml):=by rw[qad f3];rfl
       have ln3:loadAt false 1 (.ptr h.length 0 1 1) H3=some (iv0 (N:Int)):=by rw[qad k13,hP];rfl
       have hNs:N<ls.length:=by omega
       have sv5:=fun ws ups=>qdc (ws:=ws) (ups:=ups) (n:=1) (N:=0) k23 rfl rfl ⟨rfl,_,rfl⟩ ⟨x1,x2,x4⟩ hq.facts.1;simp only[sC0]at sv5;have l8:loadAt true 3 (.pb kr) (H3.set kr (.row 3 [q]))=some q:=by rw[qad (qak k23)];exact hq.sub
       simp(disch:=first|omega|decide|simp only[go_sem]) only[go_sem,hH1,e2,hkr,c1,c3,l0,l1,hkb,lf2,lf1,ix,s1,lf3,hneg,lfa,ln3,gl,us,cb evc,sv5,resv,l8,hT.q];obtain⟨wz,t1,t2⟩:=qgw (v:=.tuple [q,.bool true]) (ups:=[]) (by simp[PV.pure,qas,hq.facts.2.1]) (M3.putNew (k:=kr) (o':=.row 3 [q]) (by omega)) (ws:=wall (wadd kr []) (wall (wadd kf []) [])) (okWs.wall (okWs.add qgf (.inr (by omega))) (okWs.wall (okWs.add qgf (.inl rfl)) qgf)) (by simp);simp only[PV.weak,qaq,hq.facts.2.2]at t1;exact⟨(q,true,left - (u.nodes:Int),wz),t1,.inr ⟨rfl,by rw[hsub1];exact hq,by simp only;omega⟩,by simp only;omega,t2⟩
   have hkb:(k==1)=false:=by simpa using hk
   have hsub1:subT l (.mk k n ts)=.mk k n (subL l ts):=by simp only[subT,if_neg hk]
   have hvs:qkf l.length ts:=by simpa only[qlh,if_neg hk]using hvb
   have s1:=fun ws=>st_f2i (ws:=ws) (ups:=[]) (v:=left - 1) f2;have k23:=qaa (o':=row 3 [.agg [.slice zl ls ml,sv,iv0 (left - 1)]]) k2 (show kf≠kr by omega);have k13:=qaa (o':=row 3 [.agg [.slice zl ls ml,sv,iv0 (left - 1)]]) k12 (show kf≠h.length by omega);have f3:=qak (o':=row 3 [.agg [.slice zl ls ml,sv,iv0 (left - 1)]]) f2;have M3:Mod h (H2.set kf (.row 3 [.agg [.slice zl ls ml,sv,iv0 (left - 1)]])) kf (qfl (.slice zl ls ml) sv (left - 1)):=M2.put;have hl3:(H2.set kf (.row 3 [.agg [.slice zl ls ml,sv,iv0 (left - 1)]])).length=h.length+2:=by simp[hl2]
   generalize hH3:H2.set kf (.row 3 [.agg [.slice zl ls ml,sv,iv0 (left - 1)]])=H3 at*;have lf3:loadAt false 1 (.ptr kf 0 2 1) H3=some (iv0 (left - 1)):=by rw[qad f3];rfl
   have fb0:qdt [PV.int .i64 0,iv0 0,.sn] []=some [iv0 0,iv0 0,.sn]:=rfl;by_cases hneg:left - 1<0
   · obtain⟨u4,sv4,hu4⟩:=qf0 (ups:=[]) (x:=0) (y:=0) (sz:=0) (es:=[]) (m:=.nil) k23;have l8:loadAt true 3 (.pb kr) (H3.set kr (.row 3 [.agg [iv0 0,iv0 0,.sn]]))=some (.agg [iv0 0,iv0 0,.sn]):=by rw[qad (qak k23)];rfl
     simp(disch:=omega) only[go_sem,hH1,e2,hkr,c1,c3,ll0,l0,hkb,lf2,s1,lf3,hneg,fb0,sv4,resv,l8,hT.prim]
     obtain⟨wz,t1,t2⟩:=qgw (v:=.tuple [.agg [iv0 0,iv0 0,.sn],.bool false]) rfl (M3.putNew (k:=kr) (o':=.row 3 [.agg [iv0 0,iv0 0,.sn]]) (by omega)) (ws:=wadd kr (wadd kf [])) (okWs.add (okWs.add qgf (.inl rfl)) (.inr (by omega))) (fun x hx=>by
      rcases hu4 x hx with h|h
      ·cases h
      ·omega)
     exact⟨(qdd,false,left - 1,wz),t1,.inl ⟨rfl,rfl⟩,by simp only;omega,t2⟩
   have fb:qdt [PV.int .i64 0,iv0 0,.sn] [(0,1,iv0 k),(1,1,iv0 n)]=some [iv0 k,iv0 n,.sn]:=rfl;have l03:loadAt false 1 (.pb h.length) H3=some (iv0 k):=by rw[qad k13,hP];rfl
   have l13:loadAt false 1 (.ptr h.length 0 1 1) H3=some (iv0 n):=by rw[qad k13,hP];rfl
   have sb:=fun ws=>qa5 (h:=H3) (ws:=ws) (ups:=[]) (z:=zq3) (sz:=3) (c:=.agg [iv0 k,iv0 n,.sn]) rfl rfl rfl rfl ⟨_,rfl⟩ ⟨_,rfl⟩;have k3:=gC0 (l:=H3) (a:=row 3 [.agg [iv0 k,iv0 n,.sn]]);have k24:=qah (o2:=row 3 [.agg [iv0 k,iv0 n,.sn]]) k23;have k14:=qah (o2:=row 3 [.agg [iv0 k,iv0 n,.sn]]) k13;have M4:Mod h (H3++[row 3 [.agg [iv0 k,iv0 n,.sn]]]) kf (qfl (.slice zl ls ml) sv (left - 1)):=M3.push;generalize hH4:H3++[row 3 [.agg [iv0 k,iv0 n,.sn]]]=H4 at*;generalize hkx:H3.length=kx at*;have lts:loadAt false 1 (.ptr h.length 0 2 1) H4=some (.slice sz es .any):=by rw[qad k14,hP];rfl
   simp(disch:=omega) only[go_sem,hH1,e2,hkr,c1,c3,ll0,l0,hkb,lf2,s1,lf3,hneg,l03,l13,fb,hkx,sb,lts,hT.prim]
   refine wpC.loopM (fun g e st=> ∃(i:Nat)(v:PV)(qs:PL)(H:Hp)(ws:NL)(ups:UL)(lf:Int),i+g=es.length∧EncL ((subL l ts).take i) qs∧AppL H v qs h.length∧H[kx]?=some (.row 3 [.agg [iv0 k,iv0 n,v]])∧H[kr]?=some (.row 3 [zN])∧Mod h H kf (qfl (.slice zl ls ml) sv lf)∧okWs h kf ws∧(∀x∈ups,h.length≤x.1)∧(0≤lf∧lf≤left - 1)∧(eget e 0=.pb kf∧eget e 4=.pb kr∧eget e 6=.pb kx∧eget e 63=.slice sz es .any∧eget e 64=iv0 (es.length:Int)∧eget e 65=iv0 (i:Int))∧st=⟨H,ws,ups⟩) ?_ es.length _ _
    ⟨0,_,[],H4,_,[],left - 1,by omega,⟨by simp,by simp⟩,.inl ⟨rfl,rfl⟩,k3,k24,M4,okWs.add (okWs.add qgf (.inl rfl)) (.inr (by omega)),by simp,by omega,by simp only[go_sem,zN0],rfl⟩
   rintro g e st ⟨i,v,qs,H,ws,ups,lf,hi,hEq,hA,kx',kr',M,hw,hu,hlf,⟨e0,e4,e6,e63,e64,e65⟩,rfl⟩;have hHl:=M.len;have hsl:(subL l ts).length=ts.length:=by rw[qot];simp
   by_cases h1:i<es.length
   · have h1':(i:Int)< (es.length:Int):=by omega
     have ga:=qbt h1;have hx:ts[i]?=some ts[i]:=gE0 (by omega);have hEx:=he i _ _ hx ga;have hmx:=mG0 hx;have hndx:=qc6 hmx;have hsx:(subL l ts)[i]?=some (subT l ts[i]):=by rw[qot,gM0,hx];rfl
     have hsz:sz=3:=by grind
     subst hsz;have ihx:=ih i _ _ hx ga hEx.cells hEx.sub (by omega) (List.all_eq_true.1 hall _ hmx) (qnb hvs hmx);generalize ts[i]=u at*;generalize es[i]=y at*;obtain⟨b1,b2,_,b4⟩:=hEx.cells;have bs:=hEx.sub;have sb:=qa5 (h:=H) (ws:=ws) (ups:=ups) (z:=zq3) (sz:=3) (c:=y) b1 rfl b2 hEx.facts.1 ⟨_,rfl⟩ b4;have kq:=gC0 (l:=H) (a:=row 3 [y]);have kx5:=qah (o2:=row 3 [y]) kx';have kr5:=qah (o2:=row 3 [y]) kr';have M5:Mod h (H++[row 3 [y]]) kf (qfl (.slice zl ls ml) sv lf):=M.push;have A5:=hA.push (o:=.row 3 [y]);have hw5:okWs h kf (wadd H.length ws):=okWs.add hw (.inr hHl);have hl5:(H++[row 3 [y]]).length=H.length+1:=by simp
     generalize hH5:H++[row 3 [y]]=H5 at*;generalize hkk:H.length=kk at*;have lq:loadAt true 3 (.pb kk) H5=some y:=by rw[qad kq];exact bs
     obtain⟨⟨V,b,lf',wz⟩,ev,hV,hle,hwz⟩:=ihx H5 kf lf M5.get ⟨hlf.1,by omega⟩;simp only at ev hV hle hwz;have f5:=M5.get;have A6:=A5.set (r':=[.agg [.slice zl ls ml,sv,iv0 lf']]) f5;have kx6:=qaa (o':=qfl (.slice zl ls ml) sv lf') kx5 (show kf≠kx by omega);have kr6:=qaa (o':=qfl (.slice zl ls ml) sv lf') kr5 (show kf≠kr by omega);have M6:Mod h (H5.set kf (qfl (.slice zl ls ml) sv lf')) kf (qfl (.slice zl ls ml) sv lf'):=M5.put;have hl6:(H5.set kf (qfl (.slice zl ls ml) sv lf')).length=H5.length:=by simp
     have hw6:okWs h kf (wall wz (wadd kk ws)):=okWs.wall (fun x hx=>.inl (hwz x hx)) hw5;have A6:AppL (H5.set kf (qfl (.slice zl ls ml) sv lf')) v qs h.length:=A6;generalize hH6:H5.set kf (qfl (.slice zl ls ml) sv lf')=H6 at*
     have hVf:V.cells.length=3∧V.cells.all PV.isCell=true∧(∃cs,V=.agg cs)∧V.top=none∧V.isDef=true∧AE.sub true 3 V 0=some V:=by
      rcases hV with⟨_,rfl⟩|⟨_,hE',_⟩
      ·exact⟨rfl,rfl,⟨_,rfl⟩,rfl,rfl,rfl⟩
      · obtain⟨y1,y2,y3,y4⟩:=hE'.cells;exact⟨y1,y2,y4,hE'.facts.1,y3,hE'.sub⟩
     obtain⟨v1,v2,v3,v4,v5,v6⟩:=hVf;have sb2:=fun ws=>qa5 (h:=H6) (ws:=ws) (ups:=ups) (z:=zq3) (sz:=3) (c:=V) v1 rfl v2 v4 ⟨_,rfl⟩ v3;have k7:=gC0 (l:=H6) (a:=row 3 [V]);have kx7:=qah (o2:=row 3 [V]) kx6;have kr7:=qah (o2:=row 3 [V]) kr6;have M7:Mod h (H6++[row 3 [V]]) kf (qfl (.slice zl ls ml) sv lf'):=M6.push;have A7:=A6.push (o:=.row 3 [V]);have hw7:okWs h kf (wadd H6.length (wall wz (wadd kk ws))):=okWs.add hw6 (.inr (by omega));generalize hH7:H6++[row 3 [V]]=H7 at*;generalize hkq:H6.length=kq' at*;have hHl7:=M7.len;have lV:loadAt true 3 (.pb kq') H7=some V:=by rw[qad k7];exact v6
     rcases hV with⟨rfl,rfl⟩|⟨rfl,hE',h0⟩
     · obtain⟨u4,sv4,hu4⟩:=qf0 (ups:=ups) (x:=0) (y:=0) (sz:=0) (es:=[]) (m:=.nil) kr7;have l8:loadAt true 3 (.pb kr) (H7.set kr (.row 3 [.agg [iv0 0,iv0 0,.sn]]))=some (.agg [iv0 0,iv0 0,.sn]):=by rw[qad (qak kr7)];rfl
       simp(disch:=omega) only[go_sem,a197b0,e0,e4,e63,e64,e65,h1',ga,bs,hkk,sb,lq,cb ev,hkq,sb2,fb0,sv4,resv,l8,hT.q]
       obtain⟨wy,t1,t2⟩:=qgw (v:=.tuple [.agg [iv0 0,iv0 0,.sn],.bool false]) rfl (M7.putNew (k:=kr) (o':=.row 3 [.agg [iv0 0,iv0 0,.sn]]) (by omega)) (ws:=wadd kr (wadd kq' (wall wz (wadd kk ws)))) (okWs.add hw7 (.inr (by omega))) (fun x hx=>by
        rcases hu4 x hx with h|h
        ·exact hu x h
        ·omega)
       exact⟨(qdd,false,lf',wy),t1,.inl ⟨rfl,rfl⟩,by simp only;omega,t2⟩
     · have lv:loadAt false 1 (.ptr kx 0 2 1) H7=some v:=by rw[qad kx7];rfl
       have fe:=fe_1 (p:=V) ⟨v1,v5⟩;have hql:=hEq.1;rw[lT0]at hql;obtain⟨H',fw,kt,ap,A',keep',low',hfw⟩:=append_K A7 v2 (by omega) hHl7;have kx8:=keep' _ _ _ kx7;have kr8:=keep' _ _ _ kr7;obtain⟨u3,sv3,hu3⟩:=st_f2W (ups:=ups) (kt:=kt) (es:=qs++[V]) kx8;simp(disch:=omega) only[go_sem,a197b0,e0,e4,e6,e63,e64,e65,h1',ga,bs,hkk,sb,lq,cb ev,hkq,sb2,lv,lV,fe,ap,sv3,hT.q];refine⟨g - 1,by omega,i+1,_,qs++[V],_,_,_,lf',by omega,hEq.snocT hsx hE',A'.set kx8,qak kx8,qaa kr8 (by omega),(M7.lowM low').putNew (by omega),okWs.add (fun x hx=>?_) (.inr (by omega)),fun x hx=>?_,⟨h0,by omega⟩,rfl,rfl⟩
       · rcases hfw _ x hx with h|h
         ·exact hw7 x h
         ·omega
       · rcases hu3 x hx with h|h
         ·exact hu x h
         ·omega
   · have h1':¬(i:Int)< (es.length:Int):=by omega
     rw[tL0 (by omega)]at hEq;obtain⟨sz',m,rfl,hsz'⟩:=hA.slice;have lx:loadAt true 3 (.pb kx) H=some (.agg [iv0 k,iv0 n,.slice sz' qs m]):=by rw[qad kx'];rfl
     obtain⟨u4,sv4,hu4⟩:=qf0 (ups:=ups) (x:=k) (y:=n) (sz:=sz') (es:=qs) (m:=m) kr';have l8:loadAt true 3 (.pb kr) (H.set kr (.row 3 [.agg [iv0 k,iv0 n,.slice sz' qs m]]))=some (.agg [iv0 k,iv0 n,.slice sz' qs m]):=by rw[qad (qak kr')];rfl
     obtain⟨w1,w2⟩:=EncM.weak (t:=.mk k n (subL l ts)) (p:=.agg [iv0 k,iv0 n,.slice sz' qs m]) ⟨k,n,subL l ts,sz',qs,m,rfl,rfl,hsz',hEq⟩;simp(disch:=omega) only[go_sem,a197b0,e4,e6,e64,e65,h1',lx,sv4,resv,l8]
     obtain⟨wy,t1,t2⟩:=qgw (v:=.tuple [.agg [iv0 k,iv0 n,.slice sz' qs m],.bool true]) (by simpa[PV.pure,qas]using w1) (M.putNew (k:=kr) (o':=.row 3 [.agg [iv0 k,iv0 n,.slice sz' qs m]]) (by omega)) (ws:=wadd kr ws) (okWs.add hw (.inr (by omega))) (fun x hx=>by
      rcases hu4 x hx with h|h
      ·grind
      ·omega)
     simp only[PV.weak,qaq]at t1 w2;exact⟨(_,true,lf,wy),t1,.inr ⟨rfl,by rw[hsub1];exact w2,hlf.1⟩,by simp only;omega,t2⟩
include hT in
theorem sizeG_ev{t:Tm}{p:PV}(ht:Enc t p)(hb:qa1 t=true)(h:Hp):∃d:Int,Ev T 46 [p] h (ba (.tuple [.int .i64 (t.nodes:Int),.int .i64 d]) h)∧True:=by
 refine Ev.walkP (r:=fun d:Int=>(ba (.tuple [.int .i64 (t.nodes:Int),.int .i64 d]) h)) (hT.sp _ (by decide)) ((hT.fn _).trans fn46) (hT.mode _) rfl ?_;obtain⟨c1,_,c3,_⟩:=ht.cells;have hs:=ht.sub;simp only[qa1,bA0,dE0]at hb;have kp:=gC0 (l:=h) (a:=row 3 [p]);have low1:Low h.length h (h++[row 3 [p]]):=(Low.refl _ _).push (nR0 _);have hl1:(h++[row 3 [p]]).length=h.length+1:=by simp
 generalize hH1:h++[row 3 [p]]=H1 at*;have km:(H1++[row 2 [PV.agg [.int .i64 0,.int .i64 0]]])[H1.length]?=some (mRow 0 0):=by simp[mRow]
 have kp2:=qah (o2:=row 2 [PV.agg [.int .i64 0,.int .i64 0]]) kp;have low2:=low1.push (o:=row 2 [PV.agg [.int .i64 0,.int .i64 0]]) (by omega);generalize hH2:H1++[row 2 [PV.agg [.int .i64 0,.int .i64 0]]]=H2 at*;have lp:loadAt true 3 (.pb h.length) H2=some p:=by rw[qad kp2];exact hs
 obtain⟨nd,dp,ws,ev,C,hw⟩:=countG_ev hT ht H2 H1.length 0 0 1 km (by omega) (by omega) (by omega);have km3:(H2.set H1.length (mRow nd dp))[H1.length]?=some (mRow nd dp):=qak km;have low3:Low h.length h (H2.set H1.length (mRow nd dp)):=low2.trans (.set (by omega));generalize hH3:H2.set H1.length (mRow nd dp)=H3 at*;have ov:=overG_ev hT km3
 have hnd:nd=(t.nodes:Int)∧dp≤200:=by
  rcases C with⟨_,_,a3,a4⟩|⟨a1,a2⟩
  ·omega
  ·exfalso;omega
 obtain⟨rfl,hdp⟩:=hnd;have o1:(decide ((2000:Int)< (t.nodes:Int))||decide ((200:Int)<dp))=false:=by grind
 rw[o1]at ov;have l0:loadAt false 1 (.pb H1.length) H3=some (.int .i64 (t.nodes:Int)):=by rw[qad km3];rfl
 have l1:loadAt false 1 (.ptr H1.length 0 1 1) H3=some (.int .i64 dp):=by rw[qad km3];rfl
 simp(disch:=first|omega|decide|simp only[go_sem]) only[go_sem,hH1,c1,c3,hH2,lp,cb ev,cb ov,l0,l1,hT.q];refine⟨dp,?_,trivial⟩
 exact qan rfl rfl low3 (fun x hx=>by
  repeat' first|(have:=hw x hx;omega)|(cases hx;done)|(rcases qat hx with hx|hx))
include hT in
theorem bounded_ev{t:Tm}{p:PV}(ht:Enc t p)(h:Hp):Ev T 198 [p] h (ba (.tuple [if qa1 t=true then p else qdd,.int .i64 (if qa1 t=true then 0 else 2)]) h):=by
 refine Ev.walk (hT.sp _ (by decide)) ((hT.fn _).trans fn198) (hT.mode _) rfl ?_;obtain⟨c1,c2,c3,c4⟩:=ht.cells;have k1:=gC0 (l:=h) (a:=row 3 [p]);have low1:Low h.length h (h++[row 3 [p]]):=(Low.refl _ _).push (nR0 _);have hl1:(h++[row 3 [p]]).length=h.length+1:=by simp
 generalize hH1:h++[row 3 [p]]=H1 at*;have z2:=gC0 (l:=H1) (a:=row 3 [zN]);have k2:=qah (o2:=row 3 [zN]) k1;have low2:=low1.push (o:=row 3 [zN]) (by omega);have e2:H1++[row 3 [zq3]]=H1++[row 3 [zN]]:=rfl;generalize H1++[row 3 [zN]]=H2 at*;generalize hkr:H1.length=kr at*;have lp:loadAt true 3 (.pb h.length) H2=some p:=by rw[qad k2];exact ht.sub
 have evt:=qiv hT ht H2;by_cases hb:qa1 t=true
 · rw[if_pos hb,if_pos hb];rw[hb]at evt;have sv:=fun ws ups=>qdc (ws:=ws) (ups:=ups) (n:=1) (N:=0) z2 rfl rfl ⟨rfl,_,rfl⟩ ⟨c1,c2,c4⟩ ht.facts.1;simp only[sC0]at sv;have l8:loadAt true 3 (.pb kr) (H2.set kr (.row 3 [p]))=some p:=by rw[qad (qak z2)];exact ht.sub
   have td:=qan (v:=.tuple [p,.int .i64 0]) (ws:=wadd kr []) (by simp[PV.pure,qas,ht.facts.2.1]) (by simp[PV.weak,qaq,ht.facts.2.2]) (low2.trans (.set (show h.length≤kr by omega)):Low h.length h (H2.set kr (.row 3 [p]))) (qae (by omega) (by simp));simp(disch:=omega) only[go_sem,hH1,e2,hkr,c1,c3,lp,cb evt,Bool.not_true,sv,resv,l8,hT.q,td]
 · rw[if_neg hb,if_neg hb];have hb':qa1 t=false:=by simpa using hb
   rw[hb']at evt;have fb0:qdt [PV.int .i64 0,.int .i64 0,.sn] []=some [.int .i64 0,.int .i64 0,.sn]:=rfl;obtain⟨u4,sv4,hu4⟩:=qf0 (ups:=[]) (x:=0) (y:=0) (sz:=0) (es:=[]) (m:=.nil) z2;have l8:loadAt true 3 (.pb kr) (H2.set kr (.row 3 [.agg [.int .i64 0,.int .i64 0,.sn]]))=some (.agg [.int .i64 0,.int .i64 0,.sn]):=by rw[qad (qak z2)];rfl
   simp(disch:=omega) only[go_sem,hH1,e2,hkr,c1,c3,lp,cb evt,Bool.not_false,fb0,sv4,resv,l8,hT.q]
   exact qa9 rfl (low2.trans (.set (by omega))) (qae (by omega) (by simp)) (fun x hx=>by
    rcases hu4 x hx with h|h
    ·cases h
    ·omega)
theorem varsB_of{m:Nat}:∀{t:Tm},qav t=true→grtF t< (m:Int)→qlh m t
 |.mk k n ts,hs,hg=>by
   simp only[qav,bA0,dE0,qb2]at hs;obtain⟨⟨⟨⟨hn,hk1⟩,hk12⟩,hl8⟩,hall⟩:=hs;simp only[grtF]at hg;unfold qlh;split
   ·omega
   · have key:∀l:Ts,(∀x∈l,x∈ts)→grtL l< (m:Int)→qkf m l:=by
      intro l;induction l with
      |nil=>intro _ _;trivial
      |cons x l ih=>
        intro hx hl;simp only[grtL]at hl;have hm:=hx x (List.mem_cons_self);have:x.nodes< (Tm.mk k n ts).nodes:=by have:=qc6 hm;simp only[Tm.nodes];omega
        exact⟨varsB_of (List.all_eq_true.1 hall x hm) (by omega),ih (fun y hy=>hx y (mC0 _ hy)) (by omega)⟩
     exact key ts (fun _ h=>h) (by omega)
termination_by t=>t.nodes
def SubX(l:Ts)(t:Tm)(x:PV×Int):Prop:=(x.2=0∧qa1 t=true∧l.all qa1=true∧grtF t< (l.length:Int)∧Enc (subT l t) x.1∧qa1 (subT l t)=true)∨(x.2≠0∧x.1=qdd)
theorem AppN.set'{H:Hp}{v:PV}{L:IL}{lo k:Nat}{o o':AE.Obj}(A:AppN H v L lo)(hk:H[k]?=some o)(ho:o.isTok=false):AppN (H.set k o') v L lo:=by
 rcases A with h|⟨kt,h1,h2,h3⟩
 ·exact .inl h
 · refine .inr ⟨kt,h1,qaa h2 ?_,h3⟩;rintro rfl;rw[h2]at hk;cases hk;cases ho
theorem AppN.form{H:Hp}{v:PV}{L:IL}{lo:Nat}(A:AppN H v L lo):∃z m,v=.slice z (L.map encI) m∧(L=[]∨z=1):=by
 rcases A with⟨rfl,rfl⟩|⟨k,rfl,_⟩
 ·simp_all
 ·grind
theorem st_f1W{H:Hp}{ups:UL}{kx kt:Nat}{a b v:PV}{es:PL}(hk:H[kx]?=some (.row 3 [.agg [a,v,b]])):
 ∃ups',(∀ws,storeAt 1 (.ptr kx 0 1 1) (.slice 1 es (.tok kt)) ⟨H,ws,ups⟩=some ⟨H.set kx (.row 3 [.agg [a,.slice 1 es (.tok kt),b]]),wadd kx ws,ups'⟩)∧∀x∈ups',x∈ups∨x.1=kx:=by
 have hu:upd (.agg [a,v,b]) 1 (.slice 1 es (.tok kt))=some (.agg [a,.slice 1 es (.tok kt),b]):=rfl;obtain⟨u,h1,h2⟩:=qiq (k:=kx) (o:=.row 3 [.agg [a,.slice 1 es (.tok kt),b]]) (up:=(PV.slice 1 es (.tok kt)).top) (H:=H) (ups:=ups);refine⟨u,fun ws=>?_,h2⟩;rw[←h1 ws];simp only[storeAt,hk,ll0,PV.cells,List.all_cons,List.all_nil,PV.isCell,Bool.and_self,and_self,if_true,List.getElem?_cons_zero,hu,Option.map,sC0]
set_option maxRecDepth 8000 in
include hT in
theorem subst_ev(h151:T.sp 151=none){l:Ts}{zl:Nat}{ls:PL}{ml:SM}(hzl:ls=[]∨zl=3)(hL:EncL l ls)(hln:l.length≤1000){t:Tm}{p:PV}(ht:Enc t p)(h:Hp):
 ∃x:PV×Int,Ev T 151 [p,.slice zl ls ml] h (ba (.tuple [x.1,iv0 x.2]) h)∧SubX l t x:=by
 refine Ev.walkP (r:=fun x:PV×Int=>(ba (.tuple [x.1,iv0 x.2]) h)) h151 ((hT.fn _).trans fn151) (hT.mode _) rfl ?_;obtain⟨c1,_,c3,_⟩:=ht.cells;have hll:=hL.1;have k1:=gC0 (l:=h) (a:=row 3 [p]);have low1:Low h.length h (h++[row 3 [p]]):=(Low.refl _ _).push (nR0 _);have hl1:(h++[row 3 [p]]).length=h.length+1:=by simp
 generalize hH1:h++[row 3 [p]]=H1 at*;have z2:=gC0 (l:=H1) (a:=row 3 [zN]);have k2:=qah (o2:=row 3 [zN]) k1;have low2:=low1.push (o:=row 3 [zN]) (by omega);have hl2:(H1++[row 3 [zN]]).length=h.length+2:=by simp;omega
 have e2:H1++[row 3 [zq3]]=H1++[row 3 [zN]]:=rfl;generalize H1++[row 3 [zN]]=H2 at*;generalize hkr:H1.length=kr at*;have lp:loadAt true 3 (.pb h.length) H2=some p:=by rw[qad k2];exact ht.sub
 have evt:=qiv hT ht H2;have fb0:qdt [PV.int .i64 0,iv0 0,.sn] []=some [iv0 0,iv0 0,.sn]:=rfl
 have err:∀(H:Hp)(hk:H[kr]?=some (.row 3 [zN])),∃u4,(∀ws,storeAt 3 (.pb kr) (.agg [iv0 0,iv0 0,.sn]) ⟨H,ws,[]⟩=some ⟨H.set kr (.row 3 [.agg [iv0 0,iv0 0,.sn]]),wadd kr ws,u4⟩)∧loadAt true 3 (.pb kr) (H.set kr (.row 3 [.agg [iv0 0,iv0 0,.sn]]))=some (.agg [iv0 0,iv0 0,.sn])∧
  ∀(r:Int)(ws:NL),Low h.length h H→(∀x∈ws,h.length≤x)→tidy 0 h.length (.val (.tuple [.agg [iv0 0,iv0 0,.sn],iv0 r])) ⟨H.set kr (.row 3 [.agg [iv0 0,iv0 0,.sn]]),ws,u4⟩=(ba (.tuple [qdd,iv0 r]) h):=fun H hk=>by
  obtain⟨u4,sv4,hu4⟩:=qf0 (ups:=[]) (x:=0) (y:=0) (sz:=0) (es:=[]) (m:=.nil) hk
  exact⟨u4,sv4,by rw[qad (qak hk)];rfl,fun r ws L hw=>qa9 rfl (L.trans (.set (by omega))) hw (fun x hx=>by
   rcases hu4 x hx with h|h
   ·cases h
   ·omega)⟩
 obtain⟨u2,sv2,l82,td2⟩:=err H2 z2;by_cases hb:qa1 t=true;rotate_left
 · have hb':qa1 t=false:=by simpa using hb
   rw[hb']at evt;have t1:=td2 4 (wadd kr []) low2 (qae (by omega) (by simp));simp(disch:=omega) only[go_sem,hH1,e2,hkr,c1,c3,lp,cb evt,Bool.not_false,fb0,sv2,resv,l82,hT.q,t1];exact⟨(qdd,4),rfl,.inr ⟨by simp,rfl⟩⟩
 rw[hb]at evt;have evs:=qk0 hT (m:=ml) hzl hL (by omega) H2;by_cases hls:l.all qa1=true;rotate_left
 · rw[if_neg hls]at evs;have t1:=td2 4 (wadd kr []) low2 (qae (by omega) (by simp));simp(disch:=omega) only[go_sem,hH1,e2,hkr,c1,c3,lp,cb evt,Bool.not_true,cb evs,fb0,sv2,resv,l82,hT.q,t1];exact⟨(qdd,4),rfl,.inr ⟨by simp,rfl⟩⟩
 rw[if_pos hls]at evs;have f1:=fe_1 (p:=p) ⟨c1,c3⟩;have hn2:=qbi hb
 have evg:=qii hT 2000 [t] 3 [p] .lit (by simp[qba];omega) (by omega) (.inr rfl) ⟨rfl,fun i y q h1 h2=>by
  cases i with
  |zero=>simp at h1 h2;subst h1 h2;exact ht
  |succ i=>simp at h1⟩ H2
 have hgl:grtL [t]=grtF t:=by have:=(qs3 t).1;simp only[grtL];omega
 rw[hgl]at evg;by_cases hg:grtF t< (l.length:Int);rotate_left
 · have hg':(ls.length:Int)≤grtF t:=by omega
   have t1:=td2 1 (wadd kr []) low2 (qae (by omega) (by simp));simp(disch:=omega) only[go_sem,hH1,e2,hkr,c1,c3,lp,cb evt,Bool.not_true,cb evs,f1,cb evg,hg',fb0,sv2,resv,l82,hT.q,t1];exact⟨(qdd,1),rfl,.inr ⟨by simp,rfl⟩⟩
 have hg':¬(ls.length:Int)≤grtF t:=by omega
 have hb0:((0:Int) !=0)=false:=rfl;have fbF:qdt [PV.sn,.sn,iv0 0] [(0,1,.slice zl ls ml),(2,1,iv0 2000)]=some [.slice zl ls ml,.sn,iv0 2000]:=rfl;have kf3:=gC0 (l:=H2) (a:=row 3 [.agg [.slice zl ls ml,.sn,iv0 2000]]);have kr3:=qah (o2:=row 3 [.agg [.slice zl ls ml,.sn,iv0 2000]]) z2;have kp3:=qah (o2:=row 3 [.agg [.slice zl ls ml,.sn,iv0 2000]]) k2;have low3:=low2.push (o:=row 3 [.agg [.slice zl ls ml,.sn,iv0 2000]]) (by omega);generalize hH3:H2++[row 3 [.agg [.slice zl ls ml,.sn,iv0 2000]]]=H3 at*;generalize hkf:H2.length=kf at*;have cf:(PV.agg [.slice zl ls ml,.sn,iv0 2000]).cells.length=3∧(PV.agg [.slice zl ls ml,.sn,iv0 2000]).isDef=true:=⟨rfl,rfl⟩;simp(disch:=omega) only[go_sem,hH1,e2,hkr,c1,c3,lp,cb evt,Bool.not_true,cb evs,f1,cb evg,hg',hb0,fbF,cf.1,cf.2,hkf,hH3,hT.q]
 refine wpC.loopM (fun g e st=> ∃(i:Nat)(H:Hp)(ws:NL)(ups:UL)(v:PV),i+g=ls.length∧Low h.length h H∧(∀x∈ws,h.length≤x)∧(∀x∈ups,h.length≤x.1)∧AppN H v ((l.take i).map fun x=>(x.nodes:Int)) h.length∧H[kf]?=some (.row 3 [.agg [.slice zl ls ml,v,iv0 2000]])∧H[kr]?=some (.row 3 [zN])∧H[h.length]?=some (.row 3 [p])∧(eget e 2=.pb h.length∧eget e 4=.pb kr∧eget e 6=.pb kf∧eget e 32=.slice zl ls ml∧eget e 33=iv0 (ls.length:Int)∧eget e 34=iv0 (i:Int))∧st=⟨H,ws,ups⟩) ?_ ls.length _ _
  ⟨0,H3,_,[],_,by omega,low3,by simp,by simp,.inl ⟨rfl,rfl⟩,kf3,kr3,kp3,by simp only[go_sem,zN0],rfl⟩
 rintro g e st ⟨i,H,ws,ups,v,hi,low,hw,hu,hA,kf',kr',kp',⟨e2',e4,e6,e32,e33,e34⟩,rfl⟩;have hHl:=low.len;by_cases h1:i<ls.length
 · have h1':(i:Int)< (ls.length:Int):=by omega
   have ga:=qbt h1;have hx:l[i]?=some l[i]:=gE0 (by omega);have hEx:=hL.2 i _ _ hx ga;have htx:=List.all_eq_true.1 hls _ (mG0 hx);have htk:l.take (i+1)=l.take i++[l[i]]:=by rw[tS0 (by omega)]
   have hzl3:zl=3:=by grind
   subst hzl3;generalize l[i]=u at*;generalize ls[i]=y at*;obtain⟨b1,b2,_,b4⟩:=hEx.cells;have bs:=hEx.sub;have sb:=qa5 (h:=H) (ws:=ws) (ups:=ups) (z:=zq3) (sz:=3) (c:=y) b1 rfl b2 hEx.facts.1 ⟨_,rfl⟩ b4;have kq:=gC0 (l:=H) (a:=row 3 [y]);have kf5:=qah (o2:=row 3 [y]) kf';have kr5:=qah (o2:=row 3 [y]) kr';have kp5:=qah (o2:=row 3 [y]) kp';have low5:=low.push (o:=row 3 [y]) hHl;have hw5:∀z∈wadd H.length ws,h.length≤z:=qae hHl hw
   have A5:AppN (H++[row 3 [y]]) v ((l.take i).map fun x=>(x.nodes:Int)) h.length:=by
    rcases hA with h|⟨kt,q1,q2,q3⟩
    ·exact .inl h
    ·exact .inr ⟨kt,q1,qah q2,q3⟩
   generalize hH5:H++[row 3 [y]]=H5 at*;have hHl5:=low5.len;generalize hkk:H.length=kk at*;have lq:loadAt true 3 (.pb kk) H5=some y:=by rw[qad kq];exact bs
   have lv:loadAt false 1 (.ptr kf 0 1 1) H5=some v:=by rw[qad kf5];rcases hA with⟨_,h⟩|⟨_,h,_⟩<;>rw[h]<;>rfl
   obtain⟨d,ev,_⟩:=sizeG_ev hT hEx htx H5;have fe:qda 1 (List.replicate 1 (iv0 0)) [(0,iv0 (u.nodes:Int))]=some [iv0 (u.nodes:Int)]:=rfl;obtain⟨H',fw,kt,ap,A',keep',low',hfw,_⟩:=append_N A5 (u.nodes:Int) (by simp;omega) hHl5;have kf6:=keep' _ _ rfl kf5;have kr6:=keep' _ _ rfl kr5;have kp6:=keep' _ _ rfl kp5;obtain⟨u3,sv3,hu3⟩:=st_f1W (ups:=ups) (kt:=kt) (es:=((((l.take i).map fun x=>(x.nodes:Int))++[(u.nodes:Int)]).map encI)) kf6;simp(disch:=omega) only[go_sem,qr3,e2',e4,e6,e32,e33,e34,h1',ga,bs,hkk,sb,lq,cb ev,lv,fe,ap,sv3,hT.q];refine⟨g - 1,by omega,i+1,_,_,_,_,by omega,(low5.trans low').trans (.set (by omega)),qae (by omega) (hfw _ hw5),fun x hx=>?_,?_,qak kf6,qaa kr6 (by omega),qaa kp6 (by omega),rfl,rfl⟩
   ·grind
   · have hm:(l.take (i+1)).map (fun x=>(x.nodes:Int))=(l.take i).map (fun x=>(x.nodes:Int))++[(u.nodes:Int)]:=by rw[htk];simp
     rw[hm];exact A'.set' kf6 rfl
 · have h1':¬(i:Int)< (ls.length:Int):=by omega
   rw[tL0 (by omega)]at hA;obtain⟨zs,ms,hv,hzs⟩:=hA.form;have lp':loadAt true 3 (.pb h.length) H=some p:=by rw[qad kp'];exact ht.sub
   have hkl:=(gI0.1 kf').1;obtain⟨⟨V,b,left',wz⟩,ev,hV,hle,hwz⟩:=put_ev hT (ml:=ml) hzl hL (fun x hx=>List.all_eq_true.1 hls x hx) hv (hzs.imp (fun h=>by simpa using h) id) ht hn2 (qaw hb) (varsB_of (qaw hb) hg) H kf 2000 kf' ⟨by omega,by omega⟩;simp only at ev hV hwz;have kr6:=qaa (o':=qfl (.slice zl ls ml) v left') kr' (show kf≠kr by omega);have low6:Low h.length h (H.set kf (qfl (.slice zl ls ml) v left')):=low.trans (.set (by omega));have hl6:(H.set kf (qfl (.slice zl ls ml) v left')).length=H.length:=by simp
   have hw6:∀x∈wall wz ws,h.length≤x:=qhj (fun x hx=>by rw[hwz x hx];omega) hw;generalize hH6:H.set kf (qfl (.slice zl ls ml) v left')=H6 at*
   have hVf:V.cells.length=3∧V.cells.all PV.isCell=true∧(∃cs,V=.agg cs)∧V.top=none∧V.isDef=true∧AE.sub true 3 V 0=some V:=by
    rcases hV with⟨_,rfl⟩|⟨_,hE',_⟩
    ·exact⟨rfl,rfl,⟨_,rfl⟩,rfl,rfl,rfl⟩
    · obtain⟨y1,y2,y3,y4⟩:=hE'.cells;exact⟨y1,y2,y4,hE'.facts.1,y3,hE'.sub⟩
   obtain⟨v1,v2,v3,v4,v5,v6⟩:=hVf;have sb2:=fun ws=>qa5 (h:=H6) (ws:=ws) (ups:=ups) (z:=zq3) (sz:=3) (c:=V) v1 rfl v2 v4 ⟨_,rfl⟩ v3;have k7:=gC0 (l:=H6) (a:=row 3 [V]);have kr7:=qah (o2:=row 3 [V]) kr6;have low7:=low6.push (o:=row 3 [V]) (by omega);have hw7:∀x∈wadd H6.length (wall wz ws),h.length≤x:=qae (by omega) hw6;generalize hH7:H6++[row 3 [V]]=H7 at*;generalize hkq:H6.length=kq' at*;have lV:loadAt true 3 (.pb kq') H7=some V:=by rw[qad k7];exact v6
   rcases hV with⟨rfl,rfl⟩|⟨rfl,hE',_⟩
   · obtain⟨u4,sv4,hu4⟩:=qf0 (ups:=ups) (x:=0) (y:=0) (sz:=0) (es:=[]) (m:=.nil) kr7;have l8:loadAt true 3 (.pb kr) (H7.set kr (.row 3 [.agg [iv0 0,iv0 0,.sn]]))=some (.agg [iv0 0,iv0 0,.sn]):=by rw[qad (qak kr7)];rfl
     simp(disch:=omega) only[go_sem,qr3,e2',e4,e6,e33,e34,h1',lp',cb ev,hkq,sb2,Bool.not_false,fb0,sv4,resv,l8,hT.q];refine⟨(qdd,2),qa9 rfl (low7.trans (.set (by omega))) (qae (by omega) hw7) (fun x hx=>?_),.inr ⟨by simp,rfl⟩⟩;rcases hu4 x hx with h|h
     ·exact hu x h
     ·omega
   · have evb:=bounded_ev hT hE' H7;by_cases hbs:qa1 (subT l t)=true
     · rw[if_pos hbs,if_pos hbs]at evb;have sv:=fun ws ups=>qdc (ws:=ws) (ups:=ups) (n:=1) (N:=0) kr7 rfl rfl ⟨rfl,_,rfl⟩ ⟨v1,v2,v3⟩ v4;simp only[sC0]at sv;have l8:loadAt true 3 (.pb kr) (H7.set kr (.row 3 [V]))=some V:=by rw[qad (qak kr7)];exact v6
       simp(disch:=omega) only[go_sem,qr3,e2',e4,e6,e33,e34,h1',lp',cb ev,hkq,sb2,Bool.not_true,lV,cb evb,sv,resv,l8,hT.q];have t1:=qa9 (v:=.tuple [V,iv0 0]) (ups:=ups) (by simp[PV.pure,qas,hE'.facts.2.1]) (low7.trans (.set (show h.length≤kr by omega)):Low h.length h (H7.set kr (.row 3 [V]))) (qae (k:=kr) (by omega) hw7) hu;simp only[PV.weak,qaq,hE'.facts.2.2]at t1;exact⟨(V,0),t1,.inl ⟨rfl,hb,hls,hg,hE',hbs⟩⟩
     · rw[if_neg hbs,if_neg hbs]at evb;have sv:=fun ws ups=>qdc (Q:=qdd) (ws:=ws) (ups:=ups) (n:=1) (N:=0) kr7 rfl rfl ⟨rfl,_,rfl⟩ ⟨rfl,rfl,_,rfl⟩ rfl;simp only[sC0]at sv;have l8:loadAt true 3 (.pb kr) (H7.set kr (.row 3 [qdd]))=some qdd:=by rw[qad (qak kr7)];rfl
       simp(disch:=omega) only[go_sem,qr3,e2',e4,e6,e33,e34,h1',lp',cb ev,hkq,sb2,Bool.not_true,lV,cb evb,sv,resv,l8,hT.q];have t1:=qa9 (v:=.tuple [qdd,iv0 2]) (ups:=ups) rfl (low7.trans (.set (show h.length≤kr by omega)):Low h.length h (H7.set kr (.row 3 [qdd]))) (qae (k:=kr) (by omega) hw7) hu;exact⟨(qdd,2),t1,.inr ⟨by simp,rfl⟩⟩
end Go.Proofs.Tryz
namespace Go.Proofs.Tryz
open Go Go.AE
mutual
def shT(d:Nat):Tm→Tm
 |.mk k n ts=>if k=1 then .mk k (n+d) []else .mk k n (shL d ts)
def shL(d:Nat):Ts→Ts
 |[]=>[]
 |t::ts=>shT d t::shL d ts
end
mutual
def posV:Tm→Prop
 |.mk k n ts=>if k=1 then 0≤n else posL ts
def posL:Ts→Prop
 |[]=>True
 |t::ts=>posV t∧posL ts
end
noncomputable def valN(nt:Tm→PV×Int)(u:Tm):Tm:=by
 classical
 exact if h:∃w,Enc w (nt u).1 then h.choose else zTm
theorem qsf{nt:Tm→PV×Int}{u w:Tm}(h:Enc w (nt u).1):valN nt u=w:=by have hx:∃w,Enc w (nt u).1:=⟨w,h⟩;unfold valN;rw[dif_pos hx,hx.choose_spec.inj h]
noncomputable def qbn(nt:Tm→PV×Int)(l:Ts):List (Tm×Tm)→Bool
 |[]=>true
 |c::cs=>tmB (valN nt (subT l c.1)) (valN nt (subT l c.2))&&qbn nt l cs
theorem qc8{nt:Tm→PV×Int}{l:Ts}:∀cs ds:List (Tm×Tm),qbn nt l (cs++ds)=(qbn nt l cs&&qbn nt l ds)
 |[],ds=>by simp[qbn]
 |c::cs,ds=>by simp only[List.cons_append,qbn,qc8 cs ds,Bool.and_assoc]
def shP(d:Nat)(c:Tm×Tm):Tm×Tm:=(shT d c.1,shT d c.2)
end Go.Proofs.Tryz
namespace Go.Proofs.Tryz
open Go Go.AE
open Go.AE.Obj (row)
variable {T:Tbl}(hT:Std T){s:GSig}
def EncP(c:Tm×Tm)(p:PV):Prop:=∃ka na za ea kb nb zb eb,p=.agg [.int .i64 ka,.int .i64 na,.slice za ea .any,.int .i64 kb,.int .i64 nb,.slice zb eb .any]∧Enc c.1 (.agg [.int .i64 ka,.int .i64 na,.slice za ea .any])∧Enc c.2 (.agg [.int .i64 kb,.int .i64 nb,.slice zb eb .any])
def qmx(cs:List (Tm×Tm))(ps:PL):Prop:=ps.length=cs.length∧∀(i:Nat)(c:Tm×Tm)(p:PV),cs[i]?=some c→ps[i]?=some p→EncP c p
theorem EncP.of{a b:Tm}{A B:PV}(ha:Enc a A)(hb:Enc b B):∃p,EncP (a,b) p∧p.cells=A.cells++B.cells:=by obtain⟨k,n,l,sz,es,rfl,rfl,_,_⟩:=ha.eq;obtain⟨k',n',l',sz',es',rfl,rfl,_,_⟩:=hb.eq;exact⟨_,⟨k,n,sz,es,k',n',sz',es',rfl,ha,hb⟩,rfl⟩
theorem qje(c:Tm×Tm):EncP c (qag c):=by obtain⟨a,b⟩:=c;obtain⟨k,n,l⟩:=a;obtain⟨k',n',l'⟩:=b;have h1:=qa6 (.mk k n l);have h2:=qa6 (.mk k' n' l');simp only[encT]at h1 h2;exact⟨k,n,_,_,k',n',_,_,rfl,h1,h2⟩
theorem st6_0{H:Hp}{ws:NL}{ups:UL}{k:Nat}{a b c d e f:PV}{x y:Int}{sz:Nat}{es:PL}(hk:H[k]?=some (.row 6 [.agg [a,b,c,d,e,f]]))(ht:(PV.agg [.int .i64 x,.int .i64 y,.slice sz es .any]).top=none):
 storeAt 3 (.pb k) (.agg [.int .i64 x,.int .i64 y,.slice sz es .any]) ⟨H,ws,ups⟩=some ⟨H.set k (.row 6 [.agg [.int .i64 x,.int .i64 y,.slice sz es .any,d,e,f]]),wadd k ws,ups⟩:=by
 have hu:upd (.agg [a,b,c,d,e,f]) 0 (.agg [.int .i64 x,.int .i64 y,.slice sz es .any])=some (.agg [.int .i64 x,.int .i64 y,.slice sz es .any,d,e,f]):=rfl;simp only[storeAt,hk,ll0,PV.cells,List.all_cons,List.all_nil,PV.isCell,Bool.and_self,and_self,if_true,List.getElem?_cons_zero,hu,Option.map,sC0,ht,qau]
theorem st6_3{H:Hp}{ws:NL}{ups:UL}{k:Nat}{a b c d e f:PV}{x y:Int}{sz:Nat}{es:PL}(hk:H[k]?=some (.row 6 [.agg [a,b,c,d,e,f]]))(ht:(PV.agg [.int .i64 x,.int .i64 y,.slice sz es .any]).top=none):
 storeAt 3 (.ptr k 0 3 1) (.agg [.int .i64 x,.int .i64 y,.slice sz es .any]) ⟨H,ws,ups⟩=some ⟨H.set k (.row 6 [.agg [a,b,c,.int .i64 x,.int .i64 y,.slice sz es .any]]),wadd k ws,ups⟩:=by
 have hu:upd (.agg [a,b,c,d,e,f]) 3 (.agg [.int .i64 x,.int .i64 y,.slice sz es .any])=some (.agg [a,b,c,.int .i64 x,.int .i64 y,.slice sz es .any]):=rfl;simp only[storeAt,hk,ll0,PV.cells,List.all_cons,List.all_nil,PV.isCell,Bool.and_self,and_self,if_true,List.getElem?_cons_zero,hu,Option.map,sC0,ht,qau]
def qej(R:Tm→Prop)(nt:Tm→PV×Int)(l:Ts):List (Tm×Tm)→Prop
 |[]=>True
 |c::cs=>(R c.1∧R c.2∧(nt (subT l c.1)).2=0∧(nt (subT l c.2)).2=0)∧(tmB (valN nt (subT l c.1)) (valN nt (subT l c.2))=true→qej R nt l cs)
theorem qg7{R:Tm→Prop}{nt:Tm→PV×Int}{l:Ts}:∀{cs ds:List (Tm×Tm)},qbn nt l cs=true→qej R nt l cs→qej R nt l ds→qej R nt l (cs++ds)
 |[],ds,_,_,h=>h
 |c::cs,ds,hh,h,hd=>by simp only[qbn,bA0]at hh;exact⟨h.1,fun _=>qg7 hh.2 (h.2 hh.1) hd⟩
theorem ql7{R:Tm→Prop}{nt:Tm→PV×Int}{l:Ts}:∀{aa:List (Tm×Tm)}{cs:List (Tm×Tm)},qbn nt l aa=true→qej R nt l (aa++cs)→qej R nt l cs
 |[],_,_,h=>h
 |c::aa,cs,hh,h=>by simp only[qbn,bA0]at hh;exact ql7 hh.2 (h.2 hh.1)
set_option maxRecDepth 8000 in
include hT in
theorem holdsG_ev{t:GTy}{nt:Tm→PV×Int}(N:NTm T t nt){l:Ts}{zl:Nat}{ls:PL}{ml:SM}{R R':Tm→Prop}(SE:∀(u:Tm)(p:PV),Enc u p→∀h,∃x:PV×Int,Ev T 151 [p,.slice zl ls ml] h (ba (.tuple [x.1,iv0 x.2]) h)∧SubX l u x∧(x.2=0→R u)∧(R' u→x.2=0)){cs:List (Tm×Tm)}{zc:Nat}{ps:PL}{mc:SM}(hzc:ps=[]∨zc=6)(hC:qmx cs ps)(hcn:cs.length≤1000)(h:Hp):
 ∃x:Bool×Int,Ev T 118 [qai t,.slice zc ps mc,.slice zl ls ml] h (ba (.tuple [.bool x.1,iv0 x.2]) h)∧(x.2=0→x.1=qbn nt l cs∧qej R nt l cs)∧(x.2=0∨x.2=2)∧(qej R' nt l cs→x.2=0):=by
 refine Ev.walkP (r:=fun x:Bool×Int=>(ba (.tuple [.bool x.1,iv0 x.2]) h)) (hT.sp _ (by decide)) ((hT.fn _).trans fn118) (hT.mode _) rfl ?_;have k1:=gC0 (l:=h) (a:=row 3 [qai t]);have low1:Low h.length h (h++[row 3 [qai t]]):=(Low.refl _ _).push (nR0 _);have hl1:(h++[row 3 [qai t]]).length=h.length+1:=by simp
 generalize hH1:h++[row 3 [qai t]]=H1 at*;have hcl:=hC.1;simp(disch:=omega) only[go_sem,hH1,qbx,qby,List.length_cons]
 refine wpC.loopM (fun g e st=> ∃(i:Nat)(H:Hp)(ws:NL),i+g=ps.length∧Low (h.length+1) H1 H∧(∀x∈ws,h.length≤x)∧(qbn nt l (cs.take i)=true∧qej R nt l (cs.take i))∧(eget e 2=.slice zl ls ml∧eget e 3=.pb h.length∧eget e 15=.slice zc ps mc∧eget e 16=iv0 (ps.length:Int)∧eget e 17=iv0 (i:Int))∧st=⟨H,ws,[]⟩) ?_ ps.length _ _
  ⟨0,H1,[],by omega,Low.refl _ _,by simp,⟨rfl,trivial⟩,by simp only[go_sem,zN0],rfl⟩
 rintro g e st ⟨i,H,ws,hi,low,hw,⟨hh,hgd⟩,⟨e2,e3,e15,e16,e17⟩,rfl⟩;have hHl:=low.len;have lowh:Low h.length h H:=low1.comp low (by omega);have kt:=low.get (by omega) k1;by_cases h1:i<ps.length;rotate_left
 · have h1':¬(i:Int)< (ps.length:Int):=by omega
   rw[tL0 (by omega)]at hh hgd;have td:=qan (v:=.tuple [.bool true,iv0 0]) rfl rfl lowh hw;simp(disch:=omega) only[go_sem,a118b1,e16,e17,h1',td];exact⟨(true,0),rfl,fun _=>⟨hh.symm,hgd⟩,.inl rfl,fun _=>rfl⟩
 have h1':(i:Int)< (ps.length:Int):=by omega
 have ga:=qbt h1;have hx:cs[i]?=some cs[i]:=gE0 (by omega);have htk:cs.take (i+1)=cs.take i++[cs[i]]:=by rw[tS0 (by omega)]
 have hEP:=hC.2 i _ _ hx ga;have hzc6:zc=6:=by grind
 subst hzc6;generalize cs[i]=c at*;obtain⟨ca,cb'⟩:=c;have hcat:cs=cs.take i++((ca,cb')::cs.drop (i+1)):=by have:=List.take_append_drop (i+1) cs;rw[htk,List.append_assoc]at this;exact this.symm
 have hgm:qej R' nt l cs→(R' ca∧R' cb'∧(nt (subT l ca)).2=0∧(nt (subT l cb')).2=0):=fun h=>by rw[hcat]at h;exact(ql7 hh h).1
 obtain⟨ka,na,za,ea,kb,nb,zb,eb,hp,hEa,hEb⟩:=hEP;simp only at hEa hEb;rw[hp]at ga;obtain⟨P,hP⟩:∃P,P=PV.agg [iv0 ka,iv0 na,.slice za ea .any,iv0 kb,iv0 nb,.slice zb eb .any]:=⟨_,rfl⟩;rw[←hP]at ga;have pf:P.cells.length=6∧P.cells.all PV.isCell=true∧(∃cs,P=.agg cs)∧P.top=none∧AE.sub true 6 P 0=some P:=by refine⟨by rw[hP];rfl,by rw[hP];rfl,⟨_,hP⟩,?_,by rw[hP];rfl⟩;have h1:=hEa.facts.1;have h2:=hEb.facts.1;rw[hP];simp only[PV.top,tops]at h1 h2⊢;revert h1 h2;cases tops ea<;>cases tops eb<;>simp[omax]
 obtain⟨p1,p2,p3,p4,p5⟩:=pf;have sb:=qa5 (h:=H) (ws:=ws) (ups:=[]) (z:=zq6) (sz:=6) (c:=P) p1 rfl p2 p4 ⟨_,rfl⟩ p3;have k9:=gC0 (l:=H) (a:=row 6 [P]);have kt9:=qah (o2:=row 6 [P]) kt;have low9:=low.push (o:=row 6 [P]) (by omega);have hw9:∀y∈wadd H.length ws,h.length≤y:=qae (by omega) hw;have hl9:(H++[row 6 [P]]).length=H.length+1:=by simp
 generalize hH9:H++[row 6 [P]]=H9 at*;generalize hk9:H.length=n9 at*;obtain⟨A,hA⟩:∃A,A=PV.agg [iv0 ka,iv0 na,.slice za ea .any]:=⟨_,rfl⟩;obtain⟨B,hB⟩:∃B,B=PV.agg [iv0 kb,iv0 nb,.slice zb eb .any]:=⟨_,rfl⟩;rw[←hA]at hEa;rw[←hB]at hEb;have kz:=gC0 (l:=H9) (a:=row 6 [zq6]);have k99:=qah (o2:=row 6 [zq6]) k9;have low10:=low9.push (o:=row 6 [zq6]) (by omega);generalize hH10:H9++[row 6 [zq6]]=H10 at*;generalize hk10:H9.length=n10 at*;have lA:loadAt true 3 (.pb n9) H10=some A:=by rw[qad k99,hP,hA];rfl
 have lB:loadAt true 3 (.ptr n9 0 3 1) H10=some B:=by rw[qad k99,hP,hB];rfl
 have fe2:qda 3 (List.replicate 2 (.agg [iv0 0,iv0 0,.sn])) [(0,A),(1,B)]=some [A,B]:=by obtain⟨x1,_,x3,_⟩:=hEa.cells;obtain⟨y1,_,y3,_⟩:=hEb.cells;simp[qda,x1,x3,y1,y3]
 simp(disch:=omega) only[go_sem,a118b1,e15,e16,e17,h1',ga,p5,hk9,sb,hk10,hH10,lA,lB,fe2,ll0];clear lA lB fe2
 refine wpC.loopM (fun g' e st=> ∃(j:Nat)(H:Hp)(ws:NL)(a0 a1 a2 b0 b1 b2:PV),j+g'=2∧Low (h.length+1) H1 H∧(∀x∈ws,h.length≤x)∧H[n10]?=some (.row 6 [.agg [a0,a1,a2,b0,b1,b2]])∧(1≤j→Enc (valN nt (subT l ca)) (.agg [a0,a1,a2])∧qa1 (valN nt (subT l ca))=true∧R ca∧(nt (subT l ca)).2=0)∧(2≤j→Enc (valN nt (subT l cb')) (.agg [b0,b1,b2])∧qa1 (valN nt (subT l cb'))=true∧R cb'∧(nt (subT l cb')).2=0)∧(eget e 2=.slice zl ls ml∧eget e 3=.pb h.length∧eget e 10=.pb n10∧eget e 15=.slice 6 ps mc∧eget e 16=iv0 (ps.length:Int)∧eget e 17=iv0 (i:Int)∧eget e 25=.slice 3 [A,B] .lit∧eget e 26=iv0 2∧eget e 27=iv0 (j:Int))∧st=⟨H,ws,[]⟩) ?_ 2 _ _
  ⟨0,H10,_,_,_,_,_,_,_,by omega,low10,hw9,kz,by omega,by omega,by simp only[go_sem,e2,e3,e15,e16,e17,zN0];exact⟨rfl,trivial⟩,rfl⟩
 clear e2 e3 e15 e16 e17 kz low10 k99 hw;rintro g' e st ⟨j,H',ws',a0,a1',a2',b0,b1,b2,hj,low',hw',kz,hVa,hVb,⟨e2,e3,e10,e15,e16,e17,e25,e26,e27⟩,rfl⟩;have hHl':=low'.len;have lowh':Low h.length h H':=low1.comp low' (by omega);by_cases hj2:j<2
 · have hj2':(j:Int)<2:=by omega
   obtain⟨y,u,hy,hEy,hu⟩:∃y u,[A,B][j]?=some y∧Enc u y∧((j=0∧u=ca)∨(j=1∧u=cb')):=by
    match j,hj2 with
    |0,_=>exact⟨A,ca,rfl,hEa,.inl ⟨rfl,rfl⟩⟩
    |1,_=>exact⟨B,cb',rfl,hEb,.inr ⟨rfl,rfl⟩⟩
   have kt':=low'.get (by omega) k1;obtain⟨b1',b2',_,b4'⟩:=hEy.cells;have bs:=hEy.sub;have sbA:=qa5 (h:=H') (ws:=ws') (ups:=[]) (z:=zq3) (sz:=3) (c:=y) b1' rfl b2' hEy.facts.1 ⟨_,rfl⟩ b4';have kA:=gC0 (l:=H') (a:=row 3 [y]);have kzA:=qah (o2:=row 3 [y]) kz;have ktA:=qah (o2:=row 3 [y]) kt';have lowA:Low (h.length+1) H1 (H'++[row 3 [y]]):=low'.push (by omega);have hwA:∀z∈wadd H'.length ws',h.length≤z:=qae (by omega) hw';have hlA:(H'++[row 3 [y]]).length=H'.length+1:=by simp
   generalize hHA:H'++[row 3 [y]]=HA at*;generalize hkA:H'.length=nA at*;have ly:loadAt true 3 (.pb nA) HA=some y:=by rw[qad kA];exact bs
   obtain⟨⟨V,e1⟩,evS,hS,hRu,hRe⟩:=SE u y hEy HA;simp only at evS hRu hRe
   have hVf:V.cells.length=3∧V.cells.all PV.isCell=true∧(∃cs,V=.agg cs)∧V.top=none∧V.isDef=true∧AE.sub true 3 V 0=some V:=by
    rcases hS with⟨_,_,_,_,hE',_⟩|⟨_,h⟩
    · obtain⟨y1,y2,y3,y4⟩:=hE'.cells;exact⟨y1,y2,y4,hE'.facts.1,y3,hE'.sub⟩
    · simp only at h;rw[h];exact⟨rfl,rfl,⟨_,rfl⟩,rfl,rfl,rfl⟩
   obtain⟨v1,v2,v3,v4,_,v6⟩:=hVf;have sbV:=fun ws=>qa5 (h:=HA) (ws:=ws) (ups:=[]) (z:=zq3) (sz:=3) (c:=V) v1 rfl v2 v4 ⟨_,rfl⟩ v3;have kV:=gC0 (l:=HA) (a:=row 3 [V]);have kzV:=qah (o2:=row 3 [V]) kzA;have ktV:=qah (o2:=row 3 [V]) ktA;have lowV:=lowA.push (o:=row 3 [V]) (by omega);have hwV:∀z∈wadd HA.length (wadd nA ws'),h.length≤z:=qae (by omega) hwA;generalize hHV:HA++[row 3 [V]]=HV at*;generalize hkV:HA.length=nV at*;have lowVh:Low h.length h HV:=low1.comp lowV (by omega);have td2:=qan (v:=.tuple [.bool false,iv0 2]) rfl rfl lowVh hwV;by_cases he1:e1=0;rotate_left
   · have hb1:(e1 !=0)=true:=by simpa using he1
     simp(disch:=omega) only[go_sem,qku,e2,e25,e26,e27,hj2',hy,bs,hkA,sbA,ly,cb evS,hkV,sbV,hb1,hT.q,td2];refine⟨(false,2),rfl,fun h=>by simp at h,.inr rfl,fun h=>absurd (hRe ?_) he1⟩;obtain⟨g1,g2,_,_⟩:=hgm h;rcases hu with⟨_,rfl⟩|⟨_,rfl⟩
     ·exact g1
     ·exact g2
   subst he1;have hb1:((0:Int) !=0)=false:=rfl;have hRu:=hRu rfl
   obtain⟨hES,_⟩:Enc (subT l u) V∧qa1 (subT l u)=true:=by
    rcases hS with⟨_,_,_,_,q1,q2⟩|⟨q,_⟩
    ·exact⟨q1,q2⟩
    ·exact absurd rfl q
   have ltV:loadAt true 3 (.pb h.length) HV=some (qai t):=by rw[qad ktV];rfl
   have lV:loadAt true 3 (.pb nV) HV=some V:=by rw[qad kV];exact v6
   have evN:=N.ev (subT l u) V hES HV;have hnx:=N.nx (subT l u)
   obtain⟨x,y2,sz2,es2,hV2,htop⟩:∃x y2 sz2 es2,(nt (subT l u)).1=.agg [iv0 x,iv0 y2,.slice sz2 es2 .any]∧(PV.agg [iv0 x,iv0 y2,.slice sz2 es2 .any]).top=none:=by
    have htp:=hnx.facts.2.2.2.1;rcases hnx with⟨_,w,hw1,_⟩|⟨_,hz⟩
    · obtain⟨k',n',l',sz',es',_,hq,_,_⟩:=hw1.eq;exact⟨k',n',sz',es',hq,by rw[←hq];exact htp⟩
    ·exact⟨0,0,0,[],hz,rfl⟩
   rw[hV2]at evN;rcases hu with⟨rfl,rfl⟩|⟨rfl,rfl⟩
   · have ia:qh7 2 3 (.pb n10) (iv0 ((0:Nat):Int))=some (.pb n10):=rfl;have s6:=fun ws=>st6_0 (ws:=ws) (ups:=[]) (x:=x) (y:=y2) (sz:=sz2) (es:=es2) kzV htop;have kz2:=qak (o':=row 6 [.agg [iv0 x,iv0 y2,.slice sz2 es2 .any,b0,b1,b2]]) kzV;have low2:Low (h.length+1) H1 (HV.set n10 (.row 6 [.agg [iv0 x,iv0 y2,.slice sz2 es2 .any,b0,b1,b2]])):=lowV.trans (.set (by omega));have low2h:Low h.length h (HV.set n10 (.row 6 [.agg [iv0 x,iv0 y2,.slice sz2 es2 .any,b0,b1,b2]])):=low1.comp low2 (by omega);generalize hHW:HV.set n10 (.row 6 [.agg [iv0 x,iv0 y2,.slice sz2 es2 .any,b0,b1,b2]])=HW at*;have hwW:∀z∈wadd n10 (wadd nV (wadd nA ws')),h.length≤z:=qae (by omega) hwV;by_cases he2:(nt (subT l u)).2=0;rotate_left
     · have hb2:((nt (subT l u)).2 !=0)=true:=by simpa using he2
       have td3:=qan (v:=.tuple [.bool false,iv0 2]) rfl rfl low2h hwW;simp(disch:=omega) only[go_sem,qku,e2,e3,e10,e25,e26,e27,hj2',hy,bs,hkA,sbA,ly,cb evS,hkV,sbV,hb1,ltV,lV,cb evN,ia,s6,hb2,hT.q,td3];exact⟨(false,2),rfl,fun h=>by simp at h,.inr rfl,fun h=>absurd (hgm h).2.2.1 he2⟩
     have hb2:((nt (subT l u)).2 !=0)=false:=by simpa using he2
     have hfin:Enc (valN nt (subT l u)) (.agg [iv0 x,iv0 y2,.slice sz2 es2 .any])∧qa1 (valN nt (subT l u))=true∧R u∧(nt (subT l u)).2=0:=by
      rcases hnx with⟨_,w,hw1,hw2⟩|⟨hh1,_⟩
      ·rw[qsf hw1,←hV2];exact⟨hw1,hw2,hRu,he2⟩
      ·exact absurd he2 hh1
     simp(disch:=omega) only[go_sem,qku,e2,e3,e10,e15,e16,e17,e25,e26,e27,hj2',hy,bs,hkA,sbA,ly,cb evS,hkV,sbV,hb1,ltV,lV,cb evN,ia,s6,hb2,hT.q];exact⟨g' - 1,by omega,0+1,HW,_,_,_,_,_,_,_,by omega,low2,hwW,kz2,fun _=>hfin,fun h=>by omega,rfl,rfl⟩
   · have ia:qh7 2 3 (.pb n10) (iv0 ((1:Nat):Int))=some (.ptr n10 0 3 1):=rfl;have s6:=fun ws=>st6_3 (ws:=ws) (ups:=[]) (x:=x) (y:=y2) (sz:=sz2) (es:=es2) kzV htop;have kz2:=qak (o':=row 6 [.agg [a0,a1',a2',iv0 x,iv0 y2,.slice sz2 es2 .any]]) kzV;have low2:Low (h.length+1) H1 (HV.set n10 (.row 6 [.agg [a0,a1',a2',iv0 x,iv0 y2,.slice sz2 es2 .any]])):=lowV.trans (.set (by omega));have low2h:Low h.length h (HV.set n10 (.row 6 [.agg [a0,a1',a2',iv0 x,iv0 y2,.slice sz2 es2 .any]])):=low1.comp low2 (by omega);generalize hHW:HV.set n10 (.row 6 [.agg [a0,a1',a2',iv0 x,iv0 y2,.slice sz2 es2 .any]])=HW at*;have hwW:∀z∈wadd n10 (wadd nV (wadd nA ws')),h.length≤z:=qae (by omega) hwV;by_cases he2:(nt (subT l u)).2=0;rotate_left
     · have hb2:((nt (subT l u)).2 !=0)=true:=by simpa using he2
       have td3:=qan (v:=.tuple [.bool false,iv0 2]) rfl rfl low2h hwW;simp(disch:=omega) only[go_sem,qku,e2,e3,e10,e25,e26,e27,hj2',hy,bs,hkA,sbA,ly,cb evS,hkV,sbV,hb1,ltV,lV,cb evN,ia,s6,hb2,hT.q,td3];exact⟨(false,2),rfl,fun h=>by simp at h,.inr rfl,fun h=>absurd (hgm h).2.2.2 he2⟩
     have hb2:((nt (subT l u)).2 !=0)=false:=by simpa using he2
     have hfin:Enc (valN nt (subT l u)) (.agg [iv0 x,iv0 y2,.slice sz2 es2 .any])∧qa1 (valN nt (subT l u))=true∧R u∧(nt (subT l u)).2=0:=by
      rcases hnx with⟨_,w,hw1,hw2⟩|⟨hh1,_⟩
      ·rw[qsf hw1,←hV2];exact⟨hw1,hw2,hRu,he2⟩
      ·exact absurd he2 hh1
     simp(disch:=omega) only[go_sem,qku,e2,e3,e10,e15,e16,e17,e25,e26,e27,hj2',hy,bs,hkA,sbA,ly,cb evS,hkV,sbV,hb1,ltV,lV,cb evN,ia,s6,hb2,hT.q];exact⟨g' - 1,by omega,1+1,HW,_,_,_,_,_,_,_,by omega,low2,hwW,kz2,fun _=>hVa (by omega),fun _=>hfin,rfl,rfl⟩
 · have hj2':¬(j:Int)<2:=by omega
   obtain⟨hEA,htA,hRa,hna⟩:=hVa (by omega);obtain⟨hEB,_,hRb,hnb⟩:=hVb (by omega);have lA:loadAt true 3 (.pb n10) H'=some (.agg [a0,a1',a2']):=by rw[qad kz];rfl
   have lB:loadAt true 3 (.ptr n10 0 3 1) H'=some (.agg [b0,b1,b2]):=by rw[qad kz];rfl
   have evs:=qfm hT hEA _ _ hEB (by have:=qbi htA;omega) H';have ia1:qh7 2 3 (.pb n10) (iv0 1)=some (.ptr n10 0 3 1):=rfl;have ia0:qh7 2 3 (.pb n10) (iv0 0)=some (.pb n10):=rfl;cases hsm:tmB (valN nt (subT l ca)) (valN nt (subT l cb'))
   · rw[hsm]at evs;have td:=qan (v:=.tuple [.bool false,iv0 0]) rfl rfl lowh' hw';simp(disch:=omega) only[go_sem,qku,e10,e26,e27,hj2',ia0,ia1,lA,lB,cb evs,hT.prim,qab,td];refine⟨(false,0),rfl,fun _=>?_,.inl rfl,fun _=>rfl⟩;rw[hcat];refine⟨?_,qg7 hh hgd ⟨⟨hRa,hRb,hna,hnb⟩,fun h=>by simp only[hsm]at h;cases h⟩⟩;rw[qc8];simp[qbn,hsm]
   · rw[hsm]at evs;simp(disch:=omega) only[go_sem,qku,e2,e3,e10,e15,e16,e17,e26,e27,hj2',ia0,ia1,lA,lB,cb evs,hT.prim,qab];refine⟨g - 1,by omega,i+1,H',ws',by omega,low',hw',?_,rfl,rfl⟩;rw[htk];refine⟨?_,qg7 hh hgd ⟨⟨hRa,hRb,hna,hnb⟩,fun _=>trivial⟩⟩;rw[qc8,hh];simp[qbn,hsm]
end Go.Proofs.Tryz
namespace Go.Proofs.Tryz
open Go Go.AE
noncomputable def T9u:Tbl:={T0 with sp:=fun f=>if f=137 then some qgy else T0.sp f,iter:=fun f=>if f=182 then some itG else if f=153 then some itB else none}
theorem qol:T9u.sp=fun f=>if f=137 then some qgy else T0.sp f:=by unfold T9u;with_reducible rfl
theorem T9u_fn:T9u.fn=T0.fn:=by unfold T9u;with_reducible rfl
theorem T9u_prim:T9u.prim=T0.prim:=by unfold T9u;with_reducible rfl
theorem T9u_mode:T9u.mode=T0.mode:=by unfold T9u;with_reducible rfl
theorem T9u_iter:T9u.iter=fun f=>if f=182 then some itG else if f=153 then some itB else none:=by unfold T9u;with_reducible rfl
theorem T9u_spok{f:FuncId}{sp:SpFn}(h:T9u.sp f=some sp):SpOK Tryz.prog f sp:=by
 rw[qol]at h;have h:(if f=137 then some qgy else T0.sp f)=some sp:=h;split at h
 next e=>
   cases e;cases h;exact sp137_ok
 ·exact⟨qm9.step f sp h,qm9.sp f sp h⟩
theorem T9u_ok:TblOK Tryz.prog T9u:=by
 have O:=qm9
 have it:qkb Tryz.prog T9u:=fun f it h captured yss hc=>by
  rw[T9u_iter]at h;have h:(if f=182 then some itG else if f=153 then some itB else none)=some it:=h;split at h
  next e=>
    cases e;cases h;exact itG_ok hc
  split at h
  next e=>
    cases e;cases h;exact itB_ok hc
  ·cases h
 exact⟨O.mixed,fun f p h=>O.prim f p (by rw[←T9u_prim];exact h),it,fun f af h=>O.fn f af (by rw[←T9u_fn];exact h),fun f sp h=>(T9u_spok h).step,fun f sp h=>(T9u_spok h).sp⟩
noncomputable def canL(X:PV):PV:=by
 classical
 exact if h:∃l z es m,X=.slice z es m∧(es=[]∨z=3)∧EncL l es then encL h.choose else X
theorem canL_eq{l:Ts}{z:Nat}{es:PL}{m:SM}(hz:es=[]∨z=3)(hE:EncL l es):canL (.slice z es m)=encL l:=by have hx:∃l' z' es' m',PV.slice z es m=.slice z' es' m'∧(es'=[]∨z'=3)∧EncL l' es':=⟨l,z,es,m,rfl,hz,hE⟩;unfold canL;rw[dif_pos hx];obtain⟨z',es',m',he,_,hE'⟩:=hx.choose_spec;cases he;rw[qlb hE' hE]
noncomputable def kapS(f:FuncId)(args:PL):PL:=if f=50 then(match args with|[a,X]=>[a,canT X]|l=>qaq l)else if f=151 then(match args with|[X,L]=>[canT X,canL L]|l=>qaq l)else qaq args
theorem qhv{f:FuncId}(h:f≠50)(h':f≠151)(args:PL):kapS f args=qaq args:=by simp[kapS,h,h']
def good50S(key:PL)(v:PV):Prop:=∃x:PV×Int,v=.tuple [x.1,.int .i64 x.2]∧qtr x∧∀t u,key=[qai t,encT u]→x.2=0→x=valC t u
def good151(key:PL)(v:PV):Prop:=∃x:PV×Int,v=.tuple [x.1,.int .i64 x.2]∧∀u l,key=[encT u,encL l]→SubX l u x
def qn7(f:FuncId):Option (PL→PV→Prop):=if f=50 then some good50S else if f=151 then some good151 else qn8 f
theorem qs5{f:FuncId}(h:f∉qgx):qn7 f=none:=by have h1:=qij h;simp only[qgx,mN0,List.not_mem_nil,or_false,not_or]at h;simp[qn7,h,h1]
noncomputable def TU:Tbl:=T9u.knowsK Tryz.prog 200 qn8 kapS
noncomputable def TZ:Tbl:=T9u.knowsK Tryz.prog 200 qn7 kapS
theorem TU_ok:TblOK Tryz.prog TU:=Tbl.knowsK_ok T9u_ok
theorem TZ_ok:TblOK Tryz.prog TZ:=Tbl.knowsK_ok T9u_ok
theorem stdK{m:FuncId→Option (PL→PV→Prop)}(hm:∀f,f∉qgx→m f=none):Std (T9u.knowsK Tryz.prog 200 m kapS)where
 sp f h:=by
  rw[Tbl.knowsK_sp (hm f h),qol];have:f≠137:=fun e=>by subst e;exact h (by decide)
  simp only[this,if_false];exact qfi.sp f h
 fn f:=by rw[Tbl.knowsK_fn,T9u_fn];exact qfi.fn f
 prim:=by rw[Tbl.knowsK_prim,T9u_prim];exact qfi.prim
 mode f:=by rw[Tbl.knowsK_mode,T9u_mode];exact qfi.mode f
theorem TU_std:Std TU:=stdK fun _ h=>qij h
theorem TZ_std:Std TZ:=stdK fun _ h=>qs5 h
theorem TU_sp137:TU.sp 137=some qgy:=by rw[TU,Tbl.knowsK_sp rfl,qol];rfl
theorem TU_sp151:TU.sp 151=none:=by rw[TU,Tbl.knowsK_sp rfl,qol];show T0.sp 151=none;rw[qm8];rfl
theorem TU_sp50:TU.sp 50=none:=by rw[TU,Tbl.knowsK_sp rfl,qol];show T0.sp 50=none;rw[qm8];rfl
theorem TZ_sp137:TZ.sp 137=some qgy:=by rw[TZ,Tbl.knowsK_sp rfl,qol];rfl
theorem TZ_iter:TZ.iter 182=some itG∧TZ.iter 153=some itB:=by rw[TZ,Tbl.knowsK_iter,T9u_iter];exact⟨rfl,rfl⟩
theorem saneS_ev(h:Hp):Ev TZ 15 [] h (ba (.bool true) h):=by obtain⟨v,hv,_,ev⟩:=Ev.knowsK (T:=T9u) (N:=200) (m:=qn7) (κ:=kapS) (f:=15) (good:=good15) rfl sane_known rfl;cases hv;exact ev [] rfl rfl (.inl rfl) h
theorem tyinG{B:Tbl}{m:FuncId→Option (PL→PV→Prop)}{κ:FuncId→PL→PL}(h87:m 87=some good87)(h103:m 103=some ql8)(k87:∀args,κ 87 args=qaq args)(k103:∀args,κ 103 args=qaq args){t:GTy}(hs:Fits t.sig):∃r,TyIn (B.knowsK Tryz.prog 200 m κ) t r:=by
 obtain⟨r0,ev0,kr0⟩:=qrq qfi T0_sp87 T0_sp208 hs [];obtain⟨p1,p2⟩:=qmj t.sig;obtain⟨v,⟨r1,rfl,k1⟩,_,ev1⟩:=Ev.knowsK (T:=B) (N:=200) (m:=m) (κ:=κ) (f:=87) (good:=good87) h87 (qbd.of_ev qm9 rfl ev0) ⟨r0,rfl,fun s' he=>by have:=qj6 (List.cons.inj he).1;subst this;exact kr0⟩;have e87:=fun h=>ev1 [qaf t.sig] (by simp[qas,p1]) (by rw[k87];simp[qaq,p2]) (.inl (by simp[qaq,p2])) h;obtain⟨r2,hr2,ev2⟩:=tcheck_of (m:=qn8) rfl hs;obtain⟨q1,q2⟩:=qk9 t;obtain⟨v,⟨r3,rfl,k3⟩,_,ev3⟩:=Ev.knowsK (T:=B) (N:=200) (m:=m) (κ:=κ) (f:=103) (good:=ql8) h103 (qbd.of_ev TB_ok rfl (ev2 [])) ⟨r2,rfl,fun t' he=>by have:=qjd (List.cons.inj he).1;subst this;exact hr2⟩
 have hok:r3=0→TypP t:=fun h=>by
  rcases k3 t rfl with⟨_,h2⟩|h2
  ·exact h2
  ·omega
 refine⟨r3,fun h=>ev3 [qai t] (by simp[qas,q1]) (by rw[k103];simp[qaq,q2]) (.inl (by simp[qaq,q2])) h,hok,fun h=>(hok h).sig.gok,fun h=>?_⟩;rcases k1 t.sig rfl with⟨h1,_⟩|⟨_,h1⟩
 ·rw[←h1];exact e87
 ·exact absurd (hok h).sig h1
theorem tyinU{t:GTy}(hs:Fits t.sig):∃r,TyIn TU t r:=tyinG rfl rfl (qhv (by decide) (by decide)) (qhv (by decide) (by decide)) hs
theorem tyinS{t:GTy}(hs:Fits t.sig):∃r,TyIn TZ t r:=tyinG rfl rfl (qhv (by decide) (by decide)) (qhv (by decide) (by decide)) hs
theorem val_ex{t:GTy}(hP:TypP t){u:Tm}(hu:qa1 u=true):∃x,IsVal t u x:=isVal_of TB_std TB_ok TB_sp137 TB_sp189 hP hu
theorem valC_ok(t:GTy)(u:Tm):ValOK (valC t u):=by
 unfold valC;split
 next h=>
   exact h.choose_spec.1
 ·exact .inr ⟨rfl,rfl⟩
theorem qli{T:Tbl}(h137:T.sp 137=some qgy){t:GTy}(hP:TypP t){u:Tm}(hu:qa1 u=true){X:PV}(hX:Enc u X){H:Hp}{ks kf kb:Nat}{L:List Ent}(E:SysE H ks kf kb t L):
 Ev T 137 [.pb ks,X] H (ba (.tuple [(valC t u).1,.int .i64 (valC t u).2]) H):=by
 refine⟨1,fun n hn=>?_⟩;obtain⟨n,rfl⟩:∃k,n=k+1:=⟨n - 1,by omega⟩;simp only[qbz,h137];exact sp137_eq ⟨ks,kf,kb,L,X,rfl,hX,E,val_ex hP hu⟩
theorem normX_of{t:GTy}{u:Tm}{x:PV×Int}(h:x=valC t u∨(x.2≠0∧x.1=qdd)):qtr x:=by
 rcases h with rfl|h
 · rcases valC_ok t u with h|⟨h1,h2⟩
   ·exact .inl h
   ·exact .inr ⟨by omega,h2⟩
 ·exact .inr h
structure NTv (T:Tbl)(t:GTy)(nt:Tm→PV×Int):Prop where
 N:NTm T t nt
 v:∀u,(nt u).2=0→nt u=valC t u
theorem ntmS{t:GTy}(hs:Fits t.sig):∃nt,NTv TZ t nt:=by
 classical
 have key:∀u:Tm,∃x:PV×Int,(qtr x∧(x.2=0→x=valC t u))∧∀X,Enc u X→∀h,Ev TZ 50 [qai t,X] h (ba (.tuple [x.1,.int .i64 x.2]) h):=fun u=>by
  obtain⟨r',I'⟩:=tyinU hs;obtain⟨x,ev,hx⟩:=normalG_ev TU_std TU_sp50 I' (qa6 u) (VP:=fun x=>x=valC t u) (fun x h=>by rw[h];exact valC_ok t u) (fun hr hu H ks kf kb L E _=>⟨valC t u,qli TU_sp137 (I'.ok hr) hu (qa6 u) E,rfl⟩) [];have hnx:=normX_of hx;obtain⟨p1,p2⟩:=qk9 t;obtain⟨_,_,_,_,f1,_,_⟩:=hnx.facts
  obtain⟨v,⟨y,rfl,hy,hyv⟩,_,ev'⟩:=Ev.knowsK (T:=T9u) (N:=200) (m:=qn7) (κ:=kapS) (f:=50) (good:=good50S) rfl (qbd.of_ev TU_ok (by simp[PV.pure,qas,f1]) ev) ⟨x,rfl,hnx,fun t' u' he h0=>by
   simp only[List.cons.injEq,and_true]at he;have e1:=qjd he.1;have e2:=qhx he.2;subst e1 e2;rcases hx with h|h
   ·exact h
   ·exact absurd h0 h.1⟩
  obtain⟨_,_,_,_,_,g2,_⟩:=hy.facts;refine⟨y,⟨hy,hyv t u rfl⟩,fun X hX h=>?_⟩;obtain⟨_,q1,q2⟩:=hX.facts;have hw:qaq [qai t,X]=[qai t,X]:=by simp[qaq,p2,q2]
  have:=ev' [qai t,X] (by simp[qas,p1,q1]) (by simp only[kapS,if_true];rw[canT_eq hX]) (.inr (by rw[hw];simp only[qbw,alike_ty,qhf hX,Bool.and_self])) h;have hv:(PV.tuple [y.1,.int .i64 y.2]).weak=.tuple [y.1,.int .i64 y.2]:=by simp[PV.weak,qaq,g2]
  rw[hv]at this;exact this
 exact⟨fun u=>(key u).choose,⟨fun u=>(key u).choose_spec.1.1,fun u=>(key u).choose_spec.2⟩,fun u=>(key u).choose_spec.1.2⟩
structure STm (T:Tbl)(st:Ts→Tm→PV×Int):Prop where
 sx:∀l u,l.length≤1000→SubX l u (st l u)
 ev:∀(l:Ts)(u:Tm)(X:PV)(z:Nat)(es:PL)(m:SM),l.length≤1000→Enc u X→EncL l es→(es=[]∨z=3)→∀h,Ev T 151 [X,.slice z es m] h (ba (.tuple [(st l u).1,.int .i64 (st l u).2]) h)
theorem SubX.pw{l:Ts}{u:Tm}{x:PV×Int}(h:SubX l u x):x.1.pure=true∧x.1.weak=x.1:=by
 rcases h with⟨_,_,_,_,h,_⟩|⟨_,h⟩
 ·exact⟨h.facts.2.1,h.facts.2.2⟩
 ·rw[h];exact⟨rfl,rfl⟩
theorem stS:∃st,STm TZ st:=by
 classical
 have key:∀(l:Ts)(u:Tm),∃x:PV×Int,l.length≤1000→SubX l u x∧∀(X:PV)(z:Nat)(es:PL)(m:SM),Enc u X→EncL l es→(es=[]∨z=3)→∀h,Ev TZ 151 [X,.slice z es m] h (ba (.tuple [x.1,.int .i64 x.2]) h):=fun l u=>by
  by_cases hl:l.length≤1000;rotate_left
  ·exact⟨(qdd,0),fun h=>absurd h hl⟩
  obtain⟨x,ev,hx⟩:=subst_ev TU_std TU_sp151 (l:=l) (zl:=3) (ls:=l.map encT) (ml:=.any) (.inr rfl) (encL_map' l) hl (qa6 u) [];obtain⟨f1,_⟩:=hx.pw;have ev:Ev TU 151 [encT u,encL l] [] _:=ev
  obtain⟨v,⟨y,rfl,hy⟩,_,ev'⟩:=Ev.knowsK (T:=T9u) (N:=200) (m:=qn7) (κ:=kapS) (f:=151) (good:=good151) rfl (qbd.of_ev TU_ok (by simp[PV.pure,qas,f1]) ev) ⟨x,rfl,fun u' l' he=>by
   simp only[List.cons.injEq,and_true]at he;have e1:=qhx he.1;have e2:l=l':=by have h2:=he.2;simp only[encL,PV.slice.injEq,true_and,and_true]at h2;exact qlb (encL_map' l) (by rw[h2];exact encL_map' l')
   subst e1 e2;exact hx⟩
  have hyx:=hy u l rfl;obtain⟨_,g2⟩:=hyx.pw;refine⟨y,fun _=>⟨hyx,fun X z es m hX hE hz h=>?_⟩⟩;obtain⟨_,q1,q2⟩:=hX.facts;obtain⟨r1,r2⟩:=qmk hE;have hw:qaq [X,.slice z es m]=[X,.slice z es .any]:=by simp[qaq,PV.weak,q2,r2]
  have hal:alike (.slice z es .any) (encL l)=true:=by
   have:=qj8 hE;rw[qmi]at this;rcases hz with rfl|rfl
   · have hl0:l=[]:=lZ0.1 hE.1.symm;subst hl0;rfl
   ·simp[alike,encL,this]
  have:=ev' [X,.slice z es m] (by simp[qas,PV.pure,q1,r1]) (by simp only[kapS];rw[if_neg (by decide),if_pos trivial,canT_eq hX,canL_eq hz hE]) (.inr (by rw[hw];simp only[qbw,qhf hX,hal,Bool.and_self])) h;have hv:(PV.tuple [y.1,.int .i64 y.2]).weak=.tuple [y.1,.int .i64 y.2]:=by simp[PV.weak,qaq,g2]
  rw[hv]at this;exact this
 exact⟨fun l u=>(key l u).choose,fun l u hl=>((key l u).choose_spec hl).1,fun l u X z es m hl hX hE hz h=>((key l u).choose_spec hl).2 X z es m hX hE hz h⟩
end Go.Proofs.Tryz
namespace Go.Proofs.Tryz
open Go Go.AE
open Go.AE.Obj (row)
variable {T:Tbl}(hT:Std T){s:GSig}
theorem SysE.low{h H:Hp}{ks kf kb:Nat}{t:GTy}{L:List Ent}(E:SysE h ks kf kb t L)(W:Low h.length h H):SysE H ks kf kb t L:=by have g:∀{k:Nat}{o:AE.Obj},h[k]?=some o→H[k]?=some o:=fun hk=>W.get (gI0.1 hk).1 hk;exact⟨⟨g E.S.sys,g E.S.fb,g E.S.mp⟩,E.con,fun x hx=>g (E.tok x hx),E.nd⟩
structure ClT (t:GTy)(q:Int)(u:Tm):Prop where
 tree:qa1 u=true
 typ:qbq t.sig u q=true
theorem ClT.kind{t:GTy}{q:Int}{u:Tm}(h:ClT t q u):(u.kind !=1)=true:=by obtain⟨k,n,l⟩:=u;have:=h.typ;simp only[qbq,bA0]at this;exact this.1
structure HasV (t:GTy)(u w:Tm):Prop where
 ok:(valC t u).2=0
 enc:Enc w (valC t u).1
 tree:qa1 w=true
set_option maxRecDepth 8000 in
include hT in
theorem qtb(h137:T.sp 137=some qgy){t:GTy}(I:TyIn T t 0){q:Int}{a b va vb:Tm}{X Y:PV}(hX:Enc a X)(hY:Enc b Y)(ca:ClT t q a)(cb':ClT t q b)(wa:HasV t a va)(wb:HasV t b vb)(h:Hp):
 Ev T 152 [qai t,X,Y] h (ba (.tuple [.bool (tmB va vb),iv0 0]) h):=by
 refine Ev.walk (mode:=0) (hT.sp _ (by decide)) ((hT.fn _).trans fn152) (show T.mode 152=0 from hT.mode 152) rfl ?_;obtain⟨x1,_,x3,_⟩:=hX.cells;obtain⟨y1,_,y3,_⟩:=hY.cells;obtain⟨H0,hH0⟩:∃H0,((h++[row 3 [qai t]])++[row 3 [X]])++[row 3 [Y]]=H0:=⟨_,rfl⟩;have low0:Low h.length h H0:=by rw[←hH0];exact(((Low.refl _ _).push (nR0 _)).push (by simp)).push (by simp)
 have k3:H0[h.length]?=some (.row 3 [qai t]):=by rw[←hH0];simp[]
 have k4:H0[h.length+1]?=some (.row 3 [X]):=by rw[←hH0];simp[]
 have k5:H0[h.length+2]?=some (.row 3 [Y]):=by rw[←hH0];simp[]
 have hl0:H0.length=h.length+3:=by rw[←hH0];simp
 have w1:(h++[row 3 [qai t]]).length=h.length+1:=by simp
 have w2:((h++[row 3 [qai t]])++[row 3 [X]]).length=h.length+2:=by simp
 have l3:loadAt true 3 (.pb h.length) H0=some (qai t):=by rw[qad k3];rfl
 have l4:loadAt true 3 (.pb (h.length+1)) H0=some X:=by rw[qad k4];exact hX.sub
 have l5:loadAt true 3 (.pb (h.length+2)) H0=some Y:=by rw[qad k5];exact hY.sub
 have fe2:qda 3 (List.replicate 2 (.agg [iv0 0,iv0 0,.sn])) [(0,X),(1,Y)]=some [X,Y]:=by simp[qda,x1,x3,y1,y3]
 have EXY:EncL [a,b] [X,Y]:=⟨rfl,fun i x p h1 h2=>by
  match i with
  |0=>simp at h1 h2;subst h1 h2;exact hX
  |1=>simp at h1 h2;subst h1 h2;exact hY
  |i+2=>simp at h1⟩
 have n0:((0:Int) !=0)=false:=rfl;rcases asked_ok hT I (us:=[a,b]) (es:=[X,Y]) (m:=.lit) EXY (by simp) H0 with⟨hno,_⟩|⟨⟨ks,kf,kb,es',H1,ups⟩,R,_,ev⟩
 · exact absurd (fun u hu=>by
    rcases mN0.1 hu with rfl|hu
    ·exact⟨ca.tree,q,ca.typ⟩
    · rw[mS0]at hu;rw[hu];exact⟨cb'.tree,q,cb'.typ⟩) hno
 obtain⟨low1,S,hBy,hups,hks,hkb,L,hL,hcon,hO⟩:=R;simp only at low1 S hBy hups hks hkb ev hL hO;subst hL;have E1:SysE H1 ks kf kb t L:=⟨S,hcon,fun x hx=>(hO.tok x hx).1,hO.nd⟩;have hl1:=low1.len
 have hk1:∀{H:Hp},Low H1.length H1 H→loadAt true 3 (.pb (h.length+1)) H=some X∧loadAt true 3 (.pb (h.length+2)) H=some Y∧loadAt true 2 (.pb h.length) H=some (qaf t.sig)∧SysE H ks kf kb t L∧Low h.length h H:=fun{H} W=>by
  have W0:=low1.comp W (by omega);refine⟨?_,?_,?_,E1.low W,low0.comp W0 (by omega)⟩
  ·rw[qad (W0.get (by omega) k4)];exact hX.sub
  ·rw[qad (W0.get (by omega) k5)];exact hY.sub
  ·rw[qad (W0.get (by omega) k3)];rfl
 obtain⟨lX1,lY1,_,_,_⟩:=hk1 (Low.refl _ _);simp(disch:=omega) only[go_sem,w1,w2,hH0,x1,x3,y1,y3,qbx,qby,l3,l4,l5,fe2,cb ev,lX1,lY1,n0,hT.q];have hu1:∀y∈ups,h.length≤y.1:=fun y hy=>by have:=hups y hy;omega
 have get2:∀{j:Nat},j<2→∃y u,[X,Y][j]?=some y∧Enc u y∧ClT t q u:=fun{j} hj=>by
  match j,hj with
  |0,_=>exact⟨X,a,rfl,hX,ca⟩
  |1,_=>exact⟨Y,b,rfl,hY,cb'⟩
 clear l3 l4 l5 ev lX1 lY1
 refine wpC.loopM (fun g e st=> ∃(j:Nat)(H:Hp)(ws:NL),j+g=2∧Low H1.length H1 H∧(∀x∈ws,h.length≤x)∧(eget e 3=.pb h.length∧eget e 4=.pb (h.length+1)∧eget e 5=.pb (h.length+2)∧eget e 8=.pb ks∧eget e 34=.slice 3 [X,Y] .lit∧eget e 35=iv0 2∧eget e 36=iv0 (j:Int))∧st=⟨H,ws,ups⟩) ?_ 2 _ _
  ⟨0,H1,_,by omega,Low.refl _ _,by simp,by simp only[go_sem,zN0];exact⟨rfl,trivial⟩,rfl⟩
 rintro g e st ⟨j,H,ws,hj,low,hw,⟨e3,e4,e5,e8,e34,e35,e36⟩,rfl⟩;obtain⟨lX,lY,_,E2,lowh⟩:=hk1 low;have hHl:=low.len;by_cases hj2:j<2;rotate_left
 · have hj2':¬(j:Int)<2:=by omega
   have ev1:=qli h137 (I.ok rfl) ca.tree hX E2;obtain⟨v1,v2,_,v4⟩:=wa.enc.cells;have sb1:=fun ws=>qa5 (h:=H) (ws:=ws) (ups:=ups) (z:=zq3) (sz:=3) (c:=(valC t a).1) v1 rfl v2 wa.enc.facts.1 ⟨_,rfl⟩ v4;have q1:=gC0 (l:=H) (a:=row 3 [(valC t a).1]);have lowA:=low.push (o:=row 3 [(valC t a).1]) hHl;have hlA:(H++[row 3 [(valC t a).1]]).length=H.length+1:=by simp
   generalize hHA:H++[row 3 [(valC t a).1]]=HA at*;obtain⟨_,lYA,_,EA,_⟩:=hk1 lowA;have ev2:=qli h137 (I.ok rfl) cb'.tree hY EA;obtain⟨u1,u2,_,u4⟩:=wb.enc.cells;have sb2:=fun ws=>qa5 (h:=HA) (ws:=ws) (ups:=ups) (z:=zq3) (sz:=3) (c:=(valC t b).1) u1 rfl u2 wb.enc.facts.1 ⟨_,rfl⟩ u4;have q2:=gC0 (l:=HA) (a:=row 3 [(valC t b).1]);have q1':=qah (o2:=row 3 [(valC t b).1]) q1;have lowB:=lowA.push (o:=row 3 [(valC t b).1]) (by omega);generalize hHB:HA++[row 3 [(valC t b).1]]=HB at*;obtain⟨_,_,_,_,lowBh⟩:=hk1 lowB;have la:loadAt true 3 (.pb H.length) HB=some (valC t a).1:=by rw[qad q1'];exact wa.enc.sub
   have lb:loadAt true 3 (.pb HA.length) HB=some (valC t b).1:=by rw[qad q2];exact wb.enc.sub
   have evs:=qfm hT wa.enc _ _ wb.enc (by have:=qbi wa.tree;omega) HB;have hb1:((valC t a).2 !=0)=false:=by simp[wa.ok]
   have hb2:((valC t b).2==0)=true:=by simp[wb.ok]
   have td:=qa9 (v:=.tuple [.bool (tmB va vb),iv0 (valC t b).2]) (ups:=ups) (ws:=wadd HA.length (wadd H.length ws)) rfl lowBh (qae (by omega) (qae (by omega) hw)) hu1;simp(disch:=omega) only[go_sem,a152b1,e4,e5,e8,e35,e36,hj2',lX,cb ev1,sb1,hb1,lYA,cb ev2,sb2,hb2,la,lb,cb evs,hT.q,td];simp only[PV.weak,qaq,wb.ok]
 have hj2':(j:Int)<2:=by omega
 obtain⟨y,u,hy,hEy,cu⟩:=get2 hj2;obtain⟨b1,b2,b3,b4⟩:=hEy.cells;have bs:=hEy.sub;have sbA:=qa5 (h:=H) (ws:=ws) (ups:=ups) (z:=zq3) (sz:=3) (c:=y) b1 rfl b2 hEy.facts.1 ⟨_,rfl⟩ b4;have kA:=gC0 (l:=H) (a:=row 3 [y]);have lowA:=low.push (o:=row 3 [y]) hHl;have hwA:∀z∈wadd H.length ws,h.length≤z:=qae (by omega) hw;generalize hHA:H++[row 3 [y]]=HA at*;generalize hkA:H.length=nA at*;obtain⟨lXA,lYA,_,EA,_⟩:=hk1 lowA;have ly:loadAt true 3 (.pb nA) HA=some y:=by rw[qad kA];exact bs
 obtain⟨⟨r,is⟩,evr,hrt⟩:=res_ev hT EA.S hEy cu.tree;obtain⟨rfl,rfl⟩:=Prod.mk.inj (hrt q cu.typ);simp only at evr;simp(disch:=omega) only[go_sem,a152b1,e4,e5,e8,e34,e35,e36,hj2',hy,bs,hkA,sbA,ly,cb evr,lXA,lYA,fe2,hT.q];clear hy hEy cu b1 b2 b3 b4 bs sbA ly evr lXA lYA kA hrt
 refine wpC.loopM (fun g' e st=> ∃(k:Nat)(H:Hp)(ws:NL)(v:PV),k+g'=2∧Low H1.length H1 H∧(∀x∈ws,h.length≤x)∧AppL H v ([X,Y].take k) H1.length∧(eget e 3=.pb h.length∧eget e 4=.pb (h.length+1)∧eget e 5=.pb (h.length+2)∧eget e 8=.pb ks∧eget e 12=iv0 r∧eget e 13=.bool true∧eget e 14=v∧eget e 34=.slice 3 [X,Y] .lit∧eget e 35=iv0 2∧eget e 36=iv0 (j:Int)∧eget e 48=.slice 3 [X,Y] .lit∧eget e 49=iv0 2∧eget e 50=iv0 (k:Int))∧st=⟨H,ws,ups⟩) ?_ 2 _ _
  ⟨0,HA,_,_,by omega,lowA,hwA,.inl ⟨rfl,rfl⟩,by simp only[go_sem,e3,e4,e5,e8,e34,e35,e36,zN0];exact⟨rfl,trivial⟩,rfl⟩
 clear e3 e4 e5 e8 e34 e35 e36 lowA hwA EA hHA hkA low lowh hw hHl E2 lX lY;rintro g' e st ⟨k,H',ws',v,hk,low',hw',hA,⟨e3,e4,e5,e8,e12,e13,e14,e34,e35,e36,e48,e49,e50⟩,rfl⟩;have hHl':=low'.len;by_cases hk2:k<2
 · have hk2':(k:Int)<2:=by omega
   obtain⟨y,u,hy,hEy,cu⟩:=get2 hk2;have htk:[X,Y].take (k+1)=[X,Y].take k++[y]:=by grind
   obtain⟨b1,b2,b3,b4⟩:=hEy.cells;have bs:=hEy.sub;have sbC:=qa5 (h:=H') (ws:=ws') (ups:=ups) (z:=zq3) (sz:=3) (c:=y) b1 rfl b2 hEy.facts.1 ⟨_,rfl⟩ b4;have kC:=gC0 (l:=H') (a:=row 3 [y])
   have hAC:AppL (H'++[row 3 [y]]) v ([X,Y].take k) H1.length:=by
    rcases hA with hA|⟨kt,a1,a2,a3⟩
    ·exact .inl hA
    ·exact .inr ⟨kt,a1,qah a2,a3⟩
   have lowC:Low H1.length H1 (H'++[row 3 [y]]):=low'.push hHl';have hwC:∀z∈wadd H'.length ws',h.length≤z:=qae (by omega) hw';have hlC:(H'++[row 3 [y]]).length=H'.length+1:=by simp
   generalize hHC:H'++[row 3 [y]]=HC at*;generalize hkC:H'.length=nC at*;have l0:loadAt false 1 (.pb nC) HC=some (iv0 u.kind):=by rw[qad kC];exact hEy.kind
   have ly:loadAt true 3 (.pb nC) HC=some y:=by rw[qad kC];exact bs
   have f1:=fe_1 (p:=y) ⟨b1,b3⟩;have hknd:=cu.kind;obtain⟨HD,fw,kt,ap,AD,_,lowD,hfw⟩:=append_E' (p:=y) hAC b2 (by rw[lT0];omega) (by omega);have lowD1:=lowC.trans lowD;simp(disch:=omega) only[go_sem,a152b0,e3,e4,e5,e8,e12,e13,e14,e34,e35,e36,e48,e49,e50,hk2',hy,bs,hkC,sbC,l0,hknd,ly,f1,ap,ll0];refine⟨g' - 1,by omega,k+1,HD,_,_,by omega,lowD1,?_,by rw[htk];exact AD,⟨rfl,rfl⟩,rfl⟩
   first
    |(intro x hx;rcases hfw _ x hx with hx|hx;exact hwC x hx;omega)
    |(intro x hx;repeat' first|exact hwC x hx|(cases hx;done)|(rcases qat hx with hx|hx)|(rcases qa3 hx with hx|hx)|(rcases hfw _ x hx with hx|hx)|omega)
 · have hk2':¬(k:Int)<2:=by omega
   rw[tL0 (by simp;omega)]at hA;obtain⟨z,m,rfl,hz⟩:=hA.form;have hz:z=3:=by grind
   subst hz;obtain⟨_,_,lS,_,_⟩:=hk1 low';have c138:=qnt hT (n:=2) (m:=.lit) (by omega) r H';have kr:=gC0 (l:=H') (a:=row 1 ((List.replicate 2 r).map encI));have lowR:Low H1.length H1 (H'++[row 1 ((List.replicate 2 r).map encI)]):=low'.push hHl';generalize hHR:H'++[row 1 ((List.replicate 2 r).map encI)]=HR at*;obtain⟨⟨zs,e'⟩,evi,hie⟩:=infer_ev hT (I.G rfl) (I.E87 rfl) (l:=[a,b]) (sz:=3) (es:=[X,Y]) (m:=m) (sV:=.aref H'.length 1 0 2 2) (.inr rfl) EXY (by simp) (sorts:=[r,r]) (by simp) (h:=HR) (.inr ⟨H'.length,rfl,kr⟩)
   have he0:e'=0:=hie ⟨rfl,fun v hv=>by
    have hs:=qlm (I.G rfl) ca.typ;rcases mN0.1 hv with rfl|hv
    ·exact hs
    · rw[mS0]at hv;rw[hv];exact hs,by simp[ca.tree,cb'.tree],fun i u' b' h2 h3=>by
    match i with
    |0=>simp at h2 h3;subst h2 h3;exact ca.typ
    |1=>simp at h2 h3;subst h2 h3;exact cb'.typ
    |i+2=>simp at h2⟩
   subst he0;simp only[infV]at evi;have f1:qda 1 (List.replicate 1 (iv0 0)) [(0,iv0 r)]=some [iv0 r]:=rfl;simp(disch:=first|omega|decide|simp only[go_sem]) only[go_sem,a152b0,e3,e4,e5,e8,e12,e13,e14,e34,e35,e36,e49,e50,hk2',lS,f1,cb c138,cb evi,n0,hT.q];refine⟨g - 1,by omega,j+1,HR,_,by omega,lowR,?_,rfl,rfl⟩
   first
    |exact hw'
    |(intro x hx;repeat' first|exact hw' x hx|(cases hx;done)|(rcases qat hx with hx|hx)|(rcases qa3 hx with hx|hx))
def RowV(us:List Tm)(v:PV):Prop:=∃z es,v=.slice z es .any∧(es=[]∨z=3)∧EncL us es
def qgm(L:List (List Tm))(vs:List PV):Prop:=vs.length=L.length∧∀(i:Nat)(us:List Tm)(v:PV),L[i]?=some us→vs[i]?=some v→RowV us v
theorem qgm.snoc{L:List (List Tm)}{vs:List PV}{us:List Tm}{v:PV}(h:qgm L vs)(hv:RowV us v):qgm (L++[us]) (vs++[v]):=by
 have hl:=h.1;refine⟨by simp[hl],fun i us' v' h1 h2=>?_⟩;by_cases hi:i<L.length
 · rw[gL0 hi]at h1;rw[gL0 (by omega)]at h2;exact h.2 i _ _ h1 h2
 ·grind
theorem RowV.pw{us:List Tm}{v:PV}(h:RowV us v):v.pure=true∧v.weak=v:=by obtain⟨z,es,rfl,_,hE⟩:=h;obtain⟨h1,h2⟩:=qmk hE;exact⟨h1,by simp only[PV.weak,h2]⟩
theorem rowsV_pw:∀{L:List (List Tm)}{vs:List PV},qgm L vs→qas vs=true∧qaq vs=vs
 |[],vs,h=>by
   have:vs=[]:=lZ0.1 h.1;subst this;exact⟨rfl,rfl⟩
 |us::L,[],h=>by have:=h.1;simp at this
 |us::L,v::vs,h=>by obtain⟨h1,h2⟩:=rowsV_pw (L:=L) (vs:=vs) ⟨by have:=h.1;simpa using this,fun i x p hx hp=>h.2 (i+1) x p hx hp⟩;obtain⟨h3,h4⟩:=(h.2 0 us v rfl rfl).pw;simp[qas,qaq,h1,h2,h3,h4]
theorem EncP.facts{c:Tm×Tm}{P:PV}(h:EncP c P):P.cells.length=6∧P.cells.all PV.isCell=true∧(∃cs,P=.agg cs)∧P.top=none∧AE.sub true 6 P 0=some P∧P.isDef=true:=by obtain⟨ka,na,za,ea,kb,nb,zb,eb,hP,hEa,hEb⟩:=h;refine⟨by rw[hP];rfl,by rw[hP];rfl,⟨_,hP⟩,?_,by rw[hP];rfl,by rw[hP];rfl⟩;have h1:=hEa.facts.1;have h2:=hEb.facts.1;rw[hP];simp only[PV.top,tops]at h1 h2⊢;revert h1 h2;cases tops ea<;>cases tops eb<;>simp[omax]
theorem qou{H:Hp}{ups:List (Nat×Nat)}{k n A:Nat}{xs:List PV}{z v:PV}(hk:H[k]?=some (.row 1 xs))(hn:xs.length=n)(hz:xs[A]?=some z)(hzc:∀cs,z≠.agg cs)(hv:v.cells=[v]∧v.isCell=true):
 ∃ups',(∀ws,storeAt 1 (.ptr k A 0 n) v ⟨H,ws,ups⟩=some ⟨H.set k (.row 1 (xs.set A v)),wadd k ws,ups'⟩)∧∀x∈ups',x∈ups∨x.1=k:=by
 have hva:∀cs,v≠.agg cs:=fun cs h=>by rw[h]at hv;cases hv.2
 have hu:upd z 0 v=some v:=by
  unfold upd;split
  ·grind
  ·grind
 obtain⟨u,h1,h2⟩:=qiq (k:=k) (o:=.row 1 (xs.set A v)) (up:=v.top) (H:=H) (ups:=ups);refine⟨u,fun ws=>?_,h2⟩;rw[←h1 ws];simp only[storeAt,hk,hn,hv.1,ll0,Nat.zero_add,List.all_cons,List.all_nil,hv.2,Bool.and_self,and_self,if_true,hz,hu,Option.map]
theorem AppS.set{H:Hp}{v:PV}{es:List PV}{lo k n:Nat}{r r':List PV}(A:AppS H v es lo)(hk:H[k]?=some (.row n r)):AppS (H.set k (.row n r')) v es lo:=by
 rcases A with h|⟨kt,h1,h2,h3⟩
 ·exact .inl h
 · refine .inr ⟨kt,h1,qaa h2 ?_,h3⟩;rintro rfl;rw[h2]at hk;cases hk
include hT in
theorem sort115_ev{t:GTy}{H:Hp}{kg:Nat}(hk:H[kg]?=some (.row 3 [qai t]))(a:Int):Ev T 115 [iv0 a,.pb kg] H (ba (.bool (!qa8 a t.sig.sorts.length)) H):=by
 refine Ev.walk (hT.sp _ (by decide)) ((hT.fn _).trans fn115) (hT.mode _) rfl ?_;have lg:loadAt true 2 (.pb kg) H=some (qaf t.sig):=by rw[qad hk];rfl
 have ei:=isSort_ev hT (s:=t.sig) a H;simp(disch:=omega) only[go_sem,lg,cb ei,hT.prim,qab]
include hT in
theorem vars115_ev{t:GTy}{H:Hp}{kg:Nat}(hk:H[kg]?=some (.row 3 [qai t])){vs:List Int}{zv:Nat}{mv:SM}(hzv:vs=[]∨zv=1)(hl:vs.length<1000000):
 ∃r:Bool,Ev T 65 [.slice zv (vs.map encI) mv,.func (.func 115) [] [.pb kg]] H (ba (.bool r) H)∧(r=false↔∀v∈vs,0≤v∧v< (t.sig.sorts.length:Int)):=by
 rcases hzv with rfl|rfl
 ·exact⟨false,qhc hT H,by simp⟩
 · obtain⟨r,ev,hr⟩:=qem hT (g:=115) (cap:=[.pb kg]) (p:=fun a=>!qa8 a t.sig.sorts.length) (m:=mv) (by rw[hT.prim];rfl) (fun a=>sort115_ev hT hk a) hl;refine⟨r,ev,hr.trans ⟨fun h v hv=>?_,fun h v hv=>?_⟩⟩
   · have:=h v hv;simpa[qa8]using this
   · have:=h v hv;simpa[qa8]using this
def qmv(s:GSig)(vs:List Int)(c:Tm×Tm):Prop:=(qco s vs c.1).2=0∧(qco s vs c.2).2=0∧(qco s vs c.1).1=(qco s vs c.2).1
structure SolOk (t:GTy)(nv:PV→PV×Int)(r:Int)(dom:List (List Tm))(vs:List Int)(cs:List (Tm×Tm)):Prop where
 r0:r=0
 dom:DomR t.sig nv dom (vssOf dom) 0
 nV:vs.length≤64
 nC:cs.length≤8
 vars:∀v∈vs,0≤v∧v< (t.sig.sorts.length:Int)
 conds:∀c∈cs,qmv t.sig vs c
structure SolX where
 z:Nat
 vs:List PV
 e:Int
def SolX.v(x:SolX):PV:=.tuple [.slice x.z x.vs .any,iv0 x.e]
noncomputable def solL(nt:Tm→PV×Int)(dom:List (List Tm))(vs:List Int)(cs:List (Tm×Tm)):List (List Tm):=(qca (vs.map (atL dom))).filter fun l=>qbn nt l cs
structure SolB (H:Hp)(n0:Nat)(t:GTy)(P:PV):Prop where
 k4:H[n0]?=some (.row 3 [qai t])
 k7:H[n0+1]?=some (.row 1 [P])
 k8:H[n0+2]?=some (.row 1 [.sn])
 k9:H[n0+3]?=some (.row 1 [iv0 0])
theorem SolB.low{H H':Hp}{n0:Nat}{t:GTy}{P:PV}(B:SolB H n0 t P)(L:Low (n0+4) H H'):SolB H' n0 t P:=
 ⟨L.get (by omega) B.k4,L.get (by omega) B.k7,L.get (by omega) B.k8,L.get (by omega) B.k9⟩
theorem ret2{h H:Hp}{t:GTy}{P:PV}(low:Low h.length h H)(B:SolB H h.length t P)(d:Int){z:Nat}{es:List PV}{m:SM}(hp:qas es=true∧qaq es=es){ups:List (Nat×Nat)}(hu:∀x∈ups,h.length≤x.1):
 ∃H4 H5 u4,(∀ws,storeAt 1 (.pb (h.length+2)) (.slice z es m) ⟨H,ws,ups⟩=some ⟨H4,wadd (h.length+2) ws,u4⟩)∧(∀ws,storeAt 1 (.pb (h.length+3)) (iv0 d) ⟨H4,ws,u4⟩=some ⟨H5,wadd (h.length+3) ws,u4⟩)∧
   loadAt false 1 (.pb (h.length+2)) H5=some (.slice z es m)∧loadAt false 1 (.pb (h.length+3)) H5=some (iv0 d)∧
   ∀ws,(∀x∈ws,h.length≤x)→tidy 0 h.length (.val (.tuple [.slice z es m,iv0 d])) ⟨H5,ws,u4⟩=(ba (.tuple [.slice z es .any,iv0 d]) h):=by
 obtain⟨_,_,k8,k9⟩:=B;obtain⟨u4,s4,hu4⟩:=qou (v:=.slice z es m) (ups:=ups) (n:=1) (A:=0) k8 rfl rfl (fun cs h=>by cases h) ⟨rfl,rfl⟩;simp only[sC0]at s4;have k49:=qaa (o':=row 1 [.slice z es m]) k9 (show h.length+2≠h.length+3 by omega);have k48:=qak (o':=row 1 [.slice z es m]) k8;have low4:Low h.length h (H.set (h.length+2) (.row 1 [.slice z es m])):=low.trans (.set (by omega));generalize H.set (h.length+2) (.row 1 [.slice z es m])=H4 at*;have s5:=fun ws=>qsi (v:=iv0 d) (ws:=ws) (ups:=u4) (n:=1) (A:=0) k49 rfl rfl (fun cs h=>by cases h) ⟨rfl,rfl⟩ (fun j hj=>by cases hj);simp only[sC0]at s5;have k58:=qaa (o':=row 1 [iv0 d]) k48 (show h.length+3≠h.length+2 by omega);have k59:=qak (o':=row 1 [iv0 d]) k49;have low5:Low h.length h (H4.set (h.length+3) (.row 1 [iv0 d])):=low4.trans (.set (by omega));generalize H4.set (h.length+3) (.row 1 [iv0 d])=H5 at*;refine⟨H4,H5,u4,s4,s5,by rw[qad k58];rfl,by rw[qad k59];rfl,fun ws hw=>?_⟩
 have:=qa9 (v:=.tuple [.slice z es m,iv0 d]) (ups:=u4) (by simp only[PV.pure,qas,hp.1,Bool.and_self]) low5 hw (fun x hx=>by
  rcases hu4 x hx with h|h
  ·exact hu x h
  ·omega)
 rw[this];simp only[PV.weak,qaq,hp.2]
theorem qlp{α:Type}{F:α→Bool}{l:List α}{j:Nat}{x:α}(h:l[j]?=some x):(l.take (j+1)).filter F=(l.take j).filter F++if F x then [x]else []:=by
 obtain⟨hj,rfl⟩:=gI0.1 h;rw[tS0 hj,List.filter_append]
 congr 1
 cases hF:F l[j]<;>simp[hF]
set_option maxRecDepth 8000 in
include hT in
theorem solveG_ev(hI:T.iter 182=some itG){t:GTy}{r:Int}(I:TyIn T t r){nt:Tm→PV×Int}(N:NTm T t nt){nv:PV→PV×Int}(NV:NVal T t nv){dom:List (List Tm)}(hd:dom.length<1000){vs:List Int}{zv:Nat}{mv:SM}(hzv:vs=[]∨zv=1)(hvl:vs.length≤1000){cs:List (Tm×Tm)}{zc:Nat}{ps:List PV}{mc:SM}(hzc:ps=[]∨zc=6)(hC:qmx cs ps)(hcn:cs.length≤1000){R R':List Tm→Tm→Prop}(HE:∀(l:List Tm)(zl:Nat),(l.map encT=[]∨zl=3)→l.length≤1000→∀H,∃x:Bool×Int,Ev T 118 [qai t,.slice zc ps mc,.slice zl (l.map encT) .any] H (ba (.tuple [.bool x.1,iv0 x.2]) H)∧(x.2=0→x.1=qbn nt l cs∧qej (R l) nt l cs)∧(x.2=0∨x.2=2)∧(qej (R' l) nt l cs→x.2=0))(h:Hp):
 ∃x:SolX,Ev T 39 [qai t,domV dom,.slice zv (vs.map encI) mv,.slice zc ps mc] h (ba x.v h)∧((x.e=0→SolOk t nv r dom vs cs∧(x.vs=[]∨x.z=1)∧qgm (solL nt dom vs cs) x.vs∧x.vs.length≤4000∧(∀l∈qca (vs.map (atL dom)),qej (R l) nt l cs)∧ovN dom vs≤200000)∧(SolOk t nv r dom vs cs→x.e=0∨x.e=2)∧(SolOk t nv r dom vs cs→ovN dom vs≤200000→(qca (vs.map (atL dom))).length≤4000→(∀l∈qca (vs.map (atL dom)),qej (R' l) nt l cs)→x.e=0)):=by
 refine Ev.walkP (r:=fun x:SolX=>(ba x.v h)) (mode:=0) (hT.sp _ (by decide)) ((hT.fn _).trans fn39) (show T.mode 39=0 from hT.mode 39) rfl ?_;have cp:(PV.slice zc ps mc).cells.length=1∧(PV.slice zc ps mc).isDef=true:=⟨rfl,rfl⟩;have hcl:=hC.1;obtain⟨H0,hH0⟩:∃H0,(((h++[row 3 [qai t]])++[row 1 [.slice zc ps mc]])++[row 1 [.sn]])++[row 1 [iv0 0]]=H0:=⟨_,rfl⟩;have low0:Low h.length h H0:=by rw[←hH0];exact((((Low.refl _ _).push (nR0 _)).push (by simp)).push (by simp)).push (by simp)
 have hl0:H0.length=h.length+4:=by rw[←hH0];simp
 have B0:SolB H0 h.length t (.slice zc ps mc):=by rw[←hH0];refine⟨?_,?_,?_,?_⟩<;>simp[]
 have w1:(h++[row 3 [qai t]]).length=h.length+1:=by simp
 have w2:((h++[row 3 [qai t]])++[row 1 [.slice zc ps mc]]).length=h.length+2:=by simp
 have w3:(((h++[row 3 [qai t]])++[row 1 [.slice zc ps mc]])++[row 1 [.sn]]).length=h.length+3:=by simp
 have lt:loadAt true 3 (.pb h.length) H0=some (qai t):=by rw[qad B0.k4];rfl
 have lc:loadAt false 1 (.pb (h.length+1)) H0=some (.slice zc ps mc):=by rw[qad B0.k7];rfl
 obtain⟨r',ev1,hr⟩:=askedV_ev hT I NV (domV_ok dom H0) (by omega);have hb0:((0:Int) !=0)=false:=rfl;by_cases hr0:r'=0;rotate_left
 · have hb:(r' !=0)=true:=by simpa using hr0
   obtain⟨H4,H5,u4,s4,s5,l4,l5,td⟩:=ret2 low0 B0 r' (z:=0) (es:=[]) (m:=.nil) ⟨rfl,rfl⟩ (ups:=[]) (by simp);have t1:=td (wadd (h.length+3) (wadd (h.length+2) [])) (qae (by omega) (qae (by omega) (by simp)));simp(disch:=omega) only[go_sem,w1,w2,w3,hH0,cp.1,cp.2,qbx,qby,lt,cb ev1,hb,s4,s5,resv,l4,l5,hT.prim,qab,t1];refine⟨⟨0,[],r'⟩,rfl,fun h=>absurd h hr0,fun S=>?_,fun S=>?_⟩;rcases hr with⟨h1,_⟩|⟨_,hD⟩
   ·exact absurd S.r0 h1
   · rcases hD.c with h|h|h
     ·omega
     ·exact .inr h
     ·exact absurd (S.dom.yes (by decide)) (hD.no h)
   · rcases hr with⟨h1,_⟩|⟨_,hD⟩
     ·exact absurd S.r0 h1
     · rcases hD.c with h|h|h
       ·omega
       · obtain⟨i,k,hn⟩:=hD.nz h;exact absurd (S.dom.z rfl i k) hn
       ·exact absurd (S.dom.yes (by decide)) (hD.no h)
 subst hr0;obtain⟨rfl,hD⟩:r=0∧DomR t.sig nv dom (vssOf dom) 0:=by grind
 have D1:=(hD.yes (by decide)).1;have hs:=I.G rfl;have hnS:=hs.nS;have E87:=I.E87 rfl;have hdl:∀l∈dom,l.length≤64:=fun l hl=>by obtain⟨i,hi,rfl⟩:=List.getElem_of_mem hl;exact(D1.2 i _ (gE0 hi)).1
 obtain⟨rv,evv,hrv⟩:=vars115_ev hT B0.k4 (vs:=vs) (zv:=zv) (mv:=mv) hzv (by omega);by_cases hvb:64<vs.length
 · have hvb':(64:Int)< (vs.length:Int):=by omega
   obtain⟨H4,H5,u4,s4,s5,l4,l5,td⟩:=ret2 low0 B0 1 (z:=0) (es:=[]) (m:=.nil) ⟨rfl,rfl⟩ (ups:=[]) (by simp);have t1:=td (wadd (h.length+3) (wadd (h.length+2) [])) (qae (by omega) (qae (by omega) (by simp)));simp(disch:=omega) only[go_sem,w1,w2,w3,hH0,cp.1,cp.2,qbx,qby,lt,cb ev1,hb0,hvb',s4,s5,resv,l4,l5,hT.prim,qab,lM0,t1];exact⟨⟨0,[],1⟩,rfl,fun h=>by simp at h,fun S=>by have:=S.nV;omega,fun S=>by have:=S.nV;omega⟩
 have hvb':¬(64:Int)< (vs.length:Int):=by omega
 by_cases hcb:8<ps.length
 · have hcb':(8:Int)< (ps.length:Int):=by omega
   obtain⟨H4,H5,u4,s4,s5,l4,l5,td⟩:=ret2 low0 B0 1 (z:=0) (es:=[]) (m:=.nil) ⟨rfl,rfl⟩ (ups:=[]) (by simp);have t1:=td (wadd (h.length+3) (wadd (h.length+2) [])) (qae (by omega) (qae (by omega) (by simp)));simp(disch:=omega) only[go_sem,w1,w2,w3,hH0,cp.1,cp.2,qbx,qby,lt,cb ev1,hb0,hvb',lc,hcb',s4,s5,resv,l4,l5,hT.prim,qab,lM0,t1];exact⟨⟨0,[],1⟩,rfl,fun h=>by simp at h,fun S=>by have:=S.nC;omega,fun S=>by have:=S.nC;omega⟩
 have hcb':¬(8:Int)< (ps.length:Int):=by omega
 cases rv;rotate_left
 · obtain⟨H4,H5,u4,s4,s5,l4,l5,td⟩:=ret2 low0 B0 1 (z:=0) (es:=[]) (m:=.nil) ⟨rfl,rfl⟩ (ups:=[]) (by simp);have t1:=td (wadd (h.length+3) (wadd (h.length+2) [])) (qae (by omega) (qae (by omega) (by simp)));simp(disch:=omega) only[go_sem,w1,w2,w3,hH0,cp.1,cp.2,qbx,qby,lt,cb ev1,hb0,hvb',lc,hcb',cb evv,s4,s5,resv,l4,l5,hT.prim,qab,lM0,t1];exact⟨⟨0,[],1⟩,rfl,fun h=>by simp at h,fun S=>by have:=hrv.2 S.vars;simp at this,fun S=>by have:=hrv.2 S.vars;simp at this⟩
 have hvars:=hrv.1 rfl;clear hrv;simp(disch:=omega) only[go_sem,w1,w2,w3,hH0,cp.1,cp.2,qbx,qby,lt,cb ev1,hb0,hvb',lc,hcb',cb evv,hT.prim,qab,lM0]
 refine wpC.loopM (fun g e st=> ∃(i:Nat)(H:Hp)(ws:List Nat),i+g=ps.length∧Low (h.length+4) H0 H∧(∀x∈ws,h.length≤x)∧(∀c∈cs.take i,qmv t.sig vs c)∧(eget e 1=domV dom∧eget e 2=.slice zv (vs.map encI) mv∧eget e 4=.pb h.length∧eget e 7=.pb (h.length+1)∧eget e 8=.pb (h.length+2)∧eget e 9=.pb (h.length+3)∧eget e 42=.slice zc ps mc∧eget e 43=iv0 (ps.length:Int)∧eget e 44=iv0 (i:Int))∧st=⟨H,ws,[]⟩) ?_ ps.length _ _
  ⟨0,H0,[],by omega,⟨rfl,nR0 _⟩,by simp,by simp,by simp only[go_sem,zN0],rfl⟩
 clear lt lc ev1 evv;rintro g e st ⟨i,H,ws,hi,low,hw,hso,⟨e1,e2,e4,e7,e8,e9,e42,e43,e44⟩,rfl⟩;have hHl:=low.len;have B:=B0.low low;have lowh:Low h.length h H:=low0.comp low (by omega);by_cases h1:i<ps.length
 · have h1':(i:Int)< (ps.length:Int):=by omega
   have ga:=qbt h1;have hx:cs[i]?=some cs[i]:=gE0 (by omega);have htk:cs.take (i+1)=cs.take i++[cs[i]]:=by rw[tS0 (by omega)]
   have hmc:=mG0 hx;have hEP:=hC.2 i _ _ hx ga;have hzc6:zc=6:=by grind
   subst hzc6;generalize cs[i]=c at*;obtain⟨p1,p2,p3,p4,p5,_⟩:=hEP.facts;obtain⟨ka,na,za,ea,kb,nb,zb,eb,hp,hEa,hEb⟩:=hEP;generalize ps[i]=P at*;have sb:=qa5 (h:=H) (ws:=ws) (ups:=[]) (z:=zq6) (sz:=6) (c:=P) p1 rfl p2 p4 ⟨_,rfl⟩ p3;have k12:=gC0 (l:=H) (a:=row 6 [P]);have low9:=low.push (o:=row 6 [P]) (by omega);have hw9:∀y∈wadd H.length ws,h.length≤y:=qae (by omega) hw;have hl9:(H++[row 6 [P]]).length=H.length+1:=by simp
   generalize hH9:H++[row 6 [P]]=H9 at*;generalize hk9:H.length=n12 at*;have B9:=B0.low low9;have low9h:Low h.length h H9:=low0.comp low9 (by omega);obtain⟨A,hA⟩:∃A,A=PV.agg [iv0 ka,iv0 na,.slice za ea .any]:=⟨_,rfl⟩;obtain⟨B',hB'⟩:∃B',B'=PV.agg [iv0 kb,iv0 nb,.slice zb eb .any]:=⟨_,rfl⟩;rw[←hA]at hEa;rw[←hB']at hEb;have lA:loadAt true 3 (.pb n12) H9=some A:=by rw[qad k12,hp,hA];rfl
   have lB:loadAt true 3 (.ptr n12 0 3 1) H9=some B':=by rw[qad k12,hp,hB'];rfl
   have lg:loadAt true 2 (.pb h.length) H9=some (qaf t.sig):=by rw[qad B9.k4];rfl
   have evA:=qov hT hs E87 (mv:=mv) hzv hvars (by omega) (by omega) hEa H9;have evB:=qov hT hs E87 (mv:=mv) hzv hvars (by omega) (by omega) hEb H9;by_cases hok:qmv t.sig vs c
   · obtain⟨q1,q2,q3⟩:=hok;have hb1:((qco t.sig vs c.1).2 !=0)=false:=by simpa using q1
     have hb2:((qco t.sig vs c.2).2 !=0)=false:=by simpa using q2
     have hb3:((qco t.sig vs c.1).1 !=(qco t.sig vs c.2).1)=false:=by simpa using q3
     simp(disch:=omega) only[go_sem,qtp,e1,e2,e4,e7,e8,e9,e42,e43,e44,h1',ga,p5,hk9,sb,lA,lB,lg,cb evA,cb evB,hb1,hb2,hb3,hT.q];refine⟨g - 1,by omega,i+1,H9,_,by omega,low9,hw9,fun d hd=>?_,rfl,rfl⟩;rw[htk]at hd;rcases mA0.1 hd with hd|hd
     ·grind
     · rw[mS0]at hd;rw[hd];exact⟨q1,q2,q3⟩
   · obtain⟨H4,H5,u4,s4,s5,l4,l5,td⟩:=ret2 low9h B9 4 (z:=0) (es:=[]) (m:=.nil) ⟨rfl,rfl⟩ (ups:=[]) (by simp);have t1:=td (wadd (h.length+3) (wadd (h.length+2) (wadd n12 ws))) (qae (by omega) (qae (by omega) hw9));by_cases q1:(qco t.sig vs c.1).2=0
     · have hb1:((qco t.sig vs c.1).2 !=0)=false:=by simpa using q1
       by_cases q2:(qco t.sig vs c.2).2=0
       · have hb2:((qco t.sig vs c.2).2 !=0)=false:=by simpa using q2
         have hb3:((qco t.sig vs c.1).1 !=(qco t.sig vs c.2).1)=true:=by have:(qco t.sig vs c.1).1≠(qco t.sig vs c.2).1:=fun q3=>hok ⟨q1,q2,q3⟩;simpa using this
         simp(disch:=omega) only[go_sem,qtp,e2,e4,e8,e9,e42,e43,e44,h1',ga,p5,hk9,sb,lA,lB,lg,cb evA,cb evB,hb1,hb2,hb3,s4,s5,resv,l4,l5,hT.q,t1];exact⟨⟨0,[],4⟩,rfl,fun h=>by simp at h,fun S=>absurd (S.conds c hmc) hok,fun S=>absurd (S.conds c hmc) hok⟩
       · have hb2:((qco t.sig vs c.2).2 !=0)=true:=by simpa using q2
         simp(disch:=omega) only[go_sem,qtp,e2,e4,e8,e9,e42,e43,e44,h1',ga,p5,hk9,sb,lA,lB,lg,cb evA,cb evB,hb1,hb2,s4,s5,resv,l4,l5,hT.q,t1];exact⟨⟨0,[],4⟩,rfl,fun h=>by simp at h,fun S=>absurd (S.conds c hmc) hok,fun S=>absurd (S.conds c hmc) hok⟩
     · have hb1:((qco t.sig vs c.1).2 !=0)=true:=by simpa using q1
       simp(disch:=omega) only[go_sem,qtp,e2,e4,e8,e9,e42,e43,e44,h1',ga,p5,hk9,sb,lA,lB,lg,cb evA,cb evB,hb1,s4,s5,resv,l4,l5,hT.q,t1];exact⟨⟨0,[],4⟩,rfl,fun h=>by simp at h,fun S=>absurd (S.conds c hmc) hok,fun S=>absurd (S.conds c hmc) hok⟩
 have h1':¬(i:Int)< (ps.length:Int):=by omega
 rw[tL0 (by omega)]at hso;have SO:SolOk t nv 0 dom vs cs:=⟨rfl,hD,by omega,by omega,hvars,hso⟩;have hkd:∀k∈vs,0≤k∧k< (dom.length:Int):=fun k hk=>by rw[D1.1];exact hvars k hk
 obtain⟨⟨z,q⟩,evo,hz,⟨hq0,hq1⟩,hqv⟩:=overZ_ev hT (dom:=dom) (ks:=vs) (m:=mv) hzv hkd (by omega) (fun l hl=>by have:=hdl l hl;omega) H;simp only at evo hz hq0 hq1 hqv;by_cases hbig:200000<q
 · obtain⟨H4,H5,u4,s4,s5,l4,l5,td⟩:=ret2 lowh B 2 (z:=0) (es:=[]) (m:=.nil) ⟨rfl,rfl⟩ (ups:=[]) (by simp);have t1:=td (wadd (h.length+3) (wadd (h.length+2) ws)) (qae (by omega) (qae (by omega) hw));simp(disch:=omega) only[go_sem,qtp,e1,e2,e8,e9,e43,e44,h1',cb evo,hbig,s4,s5,resv,l4,l5,t1];exact⟨⟨0,[],2⟩,rfl,fun h=>by simp at h,fun _=>.inr rfl,fun _ h=>by omega⟩
 have k19:=gC0 (l:=H) (a:=row 1 [.sn]);have low6:=low.push (o:=row 1 [.sn]) (by omega);have hl6:(H++[row 1 [.sn]]).length=H.length+1:=by simp
 generalize hH6:H++[row 1 [.sn]]=H6 at*;generalize hk19:H.length=n19 at*;have eva:=assign_ev hT (z:=z) (m:=.any) (qo5 qpf (vs.map (atL dom))) H6
 have hls:∀l∈vs.map (atL dom),l.length≤64∧∀x∈l,qa1 x=true:=fun l hl=>by
  obtain⟨k,hk,rfl⟩:=mM0.1 hl;have hka:=hkd k hk;obtain⟨K,rfl⟩:=iZ0 hka.1;have hKd:K<dom.length:=by omega
  exact⟨hdl _ (mG0 (qmq hKd)),(D1.sorted (qmq hKd)).2⟩
 have hit:=iter_dom (z:=z) (ls:=vs.map (atL dom)) (hz.imp (fun h=>by simp[h]) id) (by simp;omega) (fun l hl=>by have:=(hls l hl).1;omega);have hll:(vs.map (atL dom)).length≤64:=by simp;omega
 unfold solL;generalize vs.map (atL dom)=ls at*;simp(disch:=omega) only[go_sem,qtp,e1,e2,e43,e44,h1',cb evo,hbig,hk19,hH6,cb eva,hT.q];refine rangeI (gf:=182) (captured:=[.iptr (.slice z (ls.map encL) .any) 0]) (it:=itG) (by simp only[go_sem]) hI hit (fun j st=> ∃(H:Hp)(ws:List Nat)(ups:List (Nat×Nat))(v:PV)(rs:List PV),st=⟨H,ws,ups⟩∧Low n19 H6 H∧H[n19]?=some (.row 1 [v])∧AppS H v rs n19∧qgm (((qca ls).take j).filter fun l=>qbn nt l cs) rs∧(rs.length≤4000∧∀l∈(qca ls).take j,qej (R l) nt l cs)∧(∀x∈ws,h.length≤x)∧∀x∈ups,h.length≤x.1) ⟨H6,_,_,_,[],rfl,Low.refl _ _,k19,.inl ⟨rfl,rfl⟩,⟨rfl,fun i us v h=>by simp at h⟩,by simp,hw,by simp⟩ ?_ ?_;rotate_left
 · rintro st ⟨H',ws',ups',v,rs,rfl,low',hv,hA,hR,⟨hrl,hgd⟩,hw',hu'⟩;rw[tL0 (by simp)]at hR hgd;have low06:=low6.comp low' (by omega);have B':=B0.low low06;have lowh':Low h.length h H':=low0.comp low06 (by omega);obtain⟨z',m',rfl,hz'⟩:=hA.form;have l19:loadAt false 1 (.pb n19) H'=some (.slice z' rs m'):=by rw[qad hv];rfl
   obtain⟨H4,H5,u4,s4,s5,l4,l5,td⟩:=ret2 lowh' B' 0 (z:=z') (es:=rs) (m:=m') (rowsV_pw hR) hu';have t1:=td (wadd (h.length+3) (wadd (h.length+2) ws')) (qae (by omega) (qae (by omega) hw'));simp(disch:=omega) only[go_sem,e8,e9,l19,s4,s5,resv,l4,l5,t1];exact⟨⟨z',rs,0⟩,rfl,fun _=>⟨SO,hz',hR,hrl,hgd,by omega⟩,fun _=>.inl rfl,fun _ _ _ _=>rfl⟩
 · rintro j ys st K hys ⟨H',ws',ups',v,rs,rfl,low',hv,hA,hR,⟨hrl,hgd⟩,hw',hu'⟩ hK;have hus:∃us,(qca ls)[j]?=some us∧ys=[outT ls.length us]:=by grind
   obtain⟨us,hpu,rfl⟩:=hus;have hmu:us∈qca ls:=mG0 hpu;obtain⟨hul,hum⟩:=ql3 hmu;refine⟨rfl,?_⟩;have hpt:∀(e:List PV)(v:PV),puts e [88] [v]=eput e 88 v:=fun e v=>rfl;have low06:=low6.comp low' (by omega);have B':=B0.low low06;have hHl':=low'.len;have lowh':Low h.length h H':=low0.comp low06 (by omega);have hz0:us.map encT=[]∨(if ls.length=0 then 0 else 3)=3:=by grind
   have htu:∀u∈us,qa1 u=true:=fun u hu=>by
    obtain⟨q,hq,rfl⟩:=List.getElem_of_mem hu;have hql:q<ls.length:=by omega
    have hlq:ls[q]?=some ls[q]:=gE0 hql;exact(hls _ (gX0 hql)).2 _ (hum q _ _ (gE0 hq) hlq)
   obtain⟨⟨b,d⟩,evh,hbh,hdh,hdx⟩:=HE us _ hz0 (by omega) H';simp only at evh hbh hdh hdx;have evh:Ev T 118 [qai t,.slice zc ps mc,outT ls.length us] H' (ba (.tuple [.bool b,iv0 d]) H'):=evh;have lt:loadAt true 3 (.pb h.length) H'=some (qai t):=by rw[qad B'.k4];rfl
   have lc:loadAt false 1 (.pb (h.length+1)) H'=some (.slice zc ps mc):=by rw[qad B'.k7];rfl
   by_cases hd0:d=0;rotate_left
   · have hd2:d=2:=hdh.resolve_left hd0;subst hd2;have hb2:((2:Int) !=0)=true:=rfl;obtain⟨H4,H5,u4,s4,s5,l4,l5,td⟩:=ret2 lowh' B' 2 (z:=0) (es:=[]) (m:=.nil) ⟨rfl,rfl⟩ hu';have t1:=td (wadd (h.length+3) (wadd (h.length+2) ws')) (qae (by omega) (qae (by omega) hw'));simp(disch:=omega) only[hpt,go_sem,e4,e7,e8,e9,lt,lc,cb evh,hb2,s4,s5,resv,l4,l5,hT.prim,qab,t1];exact⟨⟨0,[],2⟩,rfl,fun h=>by simp at h,fun _=>.inr rfl,fun _ _ _ hg=>absurd (hdx (hg us hmu)) hd0⟩
   subst hd0;obtain⟨hbh,hgu⟩:=hbh rfl
   have hgd':∀l∈(qca ls).take (j+1),qej (R l) nt l cs:=fun l hl=>by
    obtain⟨hj,hje⟩:=gI0.1 hpu;rw[tS0 hj,hje]at hl;rcases mA0.1 hl with h|h
    ·exact hgd l h
    ·grind
   have htf:=qlp (F:=fun l=>qbn nt l cs) hpu;cases b
   · rw[if_neg (by rw[←hbh];simp),List.append_nil]at htf;obtain⟨z',m',rfl,_⟩:=hA.form;have l19:loadAt false 1 (.pb n19) H'=some (.slice z' rs m'):=by rw[qad hv];rfl
     have hsm:¬(4000:Int)< (rs.length:Int):=by omega
     simp(disch:=omega) only[hpt,go_sem,e4,e7,lt,lc,cb evh,hb0,l19,hsm,hT.q];exact hK _ ⟨H',_,_,_,rs,rfl,low',hv,hA,by rw[htf];exact hR,⟨hrl,hgd'⟩,hw',hu'⟩
   · rw[if_pos hbh.symm]at htf;obtain⟨⟨zf,qs⟩,evf,hqz,hqs⟩:=freshL_ev hT (m:=.any) hz0 (encL_map' us) htu (by omega) H';simp only at evf hqz hqs;have evf:Ev T 119 [outT ls.length us] H' (ba (.slice zf qs .any) H'):=evf;have l19:loadAt false 1 (.pb n19) H'=some v:=by rw[qad hv];obtain⟨z',m',rfl,_⟩:=hA.form;rfl
     have fe:qda 1 (List.replicate 1 .sn) [(0,PV.slice zf qs .any)]=some [.slice zf qs .any]:=rfl;obtain⟨H7,fw,kt,ap,A7,keep7,low7,hfw⟩:=append_S (p:=.slice zf qs .any) hA rfl (by omega) (show n19≤H'.length by omega);have k7:=keep7 _ _ rfl hv;obtain⟨u8,s8,hu8⟩:=qou (v:=.slice 1 (rs++[.slice zf qs .any]) (.tok kt)) (ups:=ups') (n:=1) (A:=0) k7 rfl rfl (fun cs h=>by obtain⟨z',m',rfl,_⟩:=hA.form;cases h) ⟨rfl,rfl⟩;simp only[sC0]at s8;have k8:=qak (o':=row 1 [.slice 1 (rs++[.slice zf qs .any]) (.tok kt)]) k7;have A8:=A7.set (r':=[.slice 1 (rs++[.slice zf qs .any]) (.tok kt)]) k7;have low8:Low n19 H6 (H7.set n19 (.row 1 [.slice 1 (rs++[.slice zf qs .any]) (.tok kt)])):=(low'.trans low7).trans (.set (nR0 _));generalize hH8:H7.set n19 (.row 1 [.slice 1 (rs++[.slice zf qs .any]) (.tok kt)])=H8 at*;have l198:loadAt false 1 (.pb n19) H8=some (.slice 1 (rs++[.slice zf qs .any]) (.tok kt)):=by rw[qad k8];rfl
     have hu8':∀x∈u8,h.length≤x.1:=fun x hx=>by
      rcases hu8 x hx with h|h
      ·grind
      ·omega
     have hfw0:∀x∈fw [],h.length≤x:=fun x hx=>by have:=hfw [] (by simp) x hx;omega
     have hR8:qgm (((qca ls).take (j+1)).filter fun l=>qbn nt l cs) (rs++[.slice zf qs .any]):=by rw[htf];exact hR.snoc ⟨zf,qs,rfl,hqz,hqs⟩
     have low08:=low6.comp low8 (by omega);have B8:=B0.low low08;have lowh8:Low h.length h H8:=low0.comp low08 (by omega);have hlen:(rs++[PV.slice zf qs .any]).length=rs.length+1:=by simp
     by_cases hbg:4000< (rs++[PV.slice zf qs .any]).length
     · have hbg':(4000:Int)< ((rs++[PV.slice zf qs .any]).length:Int):=by omega
       obtain⟨H4,H5,u4,s4,s5,l4,l5,td⟩:=ret2 lowh8 B8 2 (z:=0) (es:=[]) (m:=.nil) ⟨rfl,rfl⟩ hu8';simp(disch:=first|omega|decide|simp only[go_sem]) only[hpt,go_sem,e4,e7,e8,e9,lt,lc,cb evh,hb0,l19,cb evf,fe,ap,s8,l198,hbg',s4,s5,resv,l4,l5,hT.q];refine⟨⟨0,[],2⟩,td _ (fun x hx=>?_),fun h=>by simp at h,fun _=>.inr rfl,fun _ _ hp _=>?_⟩;rotate_left
       · exfalso;have h1:=hR8.1;have h2:=List.length_filter_le (α:=List Tm) (fun l=>qbn nt l cs) ((qca ls).take (j+1));have h4:((qca ls).take (j+1)).length≤(qca ls).length:=by rw[lT0];omega
         omega
       repeat' first|exact hw' x hx|exact hfw0 x hx|(cases hx;done)|(rcases qat hx with hx|hx)|(rcases qa3 hx with hx|hx)|omega
     · have hbg':¬(4000:Int)< ((rs++[PV.slice zf qs .any]).length:Int):=by omega
       simp(disch:=first|omega|decide|simp only[go_sem]) only[hpt,go_sem,e4,e7,lt,lc,cb evh,hb0,l19,cb evf,fe,ap,s8,l198,hbg',hT.q];refine hK _ ⟨H8,_,u8,_,_,rfl,low8,k8,A8,hR8,⟨by omega,hgd'⟩,fun x hx=>?_,hu8'⟩
       repeat' first|exact hw' x hx|exact hfw0 x hx|(cases hx;done)|(rcases qat hx with hx|hx)|(rcases qa3 hx with hx|hx)|omega
end Go.Proofs.Tryz
namespace Go.Proofs.Tryz
open Go Go.AE
open Go.AE.Obj (row)
variable {s:GSig}{vs ws:IL}
theorem qcl{k n:Int}{l:Ts}(h:qav (.mk k n l)=true):0≤n∧(k=1→l=[])∧qb3 l=true∧(k=1∨k=2)∧l.length≤8:=by simp only[qav,bA0,dE0]at h;obtain⟨⟨⟨⟨hn,hk1⟩,hk12⟩,hl8⟩,hl⟩:=h;refine⟨hn,fun hk=>?_,hl,by simpa using hk12,hl8⟩;simpa[hk]using hk1
theorem qjt(d:Nat):∀l:Ts,(shL d l).length=l.length
 |[]=>rfl
 |t::l=>by simp only[shL,List.length_cons,qjt d l]
mutual
theorem qgt:∀(t:Tm)(a:Int),qav t=true→qb1 s vs t a=true→qlh vs.length t
 |.mk k n l,a,hs,h=>by
   obtain⟨hn,_,hl,_⟩:=qcl hs;unfold qlh;unfold qb1 at h;by_cases hk:k=1
   ·grind
   · rw[if_neg hk]at h⊢;cases ho:s.ops[n.toNat]? with
     |none=>rw[ho]at h;cases h
     |some o=>
       rw[ho]at h;simp only[bA0]at h;exact qir l _ hl h.2
theorem qir:∀(l:Ts)(bs:IL),qb3 l=true→qb9 s vs l bs=true→qkf vs.length l
 |[],_,_,_=>by unfold qkf;trivial
 |t::l,bs,hs,h=>by simp only[qb3,bA0]at hs;simp only[qb9,bA0]at h;unfold qkf;exact⟨qgt t _ hs.1 h.1,qir l _ hs.2 h.2⟩
end
mutual
theorem qki:∀(t:Tm)(a:Int),qav t=true→qb1 s vs t a=true→qb1 s (vs++ws) t a=true
 |.mk k n l,a,hs,h=>by
   obtain⟨hn,_,hl,_⟩:=qcl hs;unfold qb1 at h⊢;by_cases hk:k=1
   ·grind
   · rw[if_neg hk]at h⊢;cases ho:s.ops[n.toNat]? with
     |none=>rw[ho]at h;cases h
     |some o=>
       rw[ho]at h;simp only[bA0]at h⊢;exact⟨h.1,qit l _ hl h.2⟩
theorem qit:∀(l:Ts)(bs:IL),qb3 l=true→qb9 s vs l bs=true→qb9 s (vs++ws) l bs=true
 |[],_,_,_=>rfl
 |t::l,bs,hs,h=>by simp only[qb3,bA0]at hs;simp only[qb9,bA0]at h⊢;exact⟨qki t _ hs.1 h.1,qit l _ hs.2 h.2⟩
end
mutual
theorem qkh:∀(t:Tm)(a:Int),qav t=true→qb1 s ws t a=true→qb1 s (vs++ws) (shT vs.length t) a=true
 |.mk k n l,a,hs,h=>by
   obtain⟨hn,_,hl,_⟩:=qcl hs;unfold qb1 at h;unfold shT;by_cases hk:k=1
   · rw[if_pos hk]at h⊢;simp only[bA0,dE0]at h;obtain⟨h1,h2⟩:=h;unfold qb1;rw[if_pos hk];simp only[bA0,dE0];refine⟨by simp;omega,?_⟩;have hn':(n+(vs.length:Int)).toNat=vs.length+n.toNat:=by omega
     rw[gD0]at h2⊢;rw[hn',List.getElem?_append_right (by omega),Nat.add_sub_cancel_left];exact h2
   · rw[if_neg hk]at h⊢;unfold qb1;rw[if_neg hk];cases ho:s.ops[n.toNat]? with
     |none=>rw[ho]at h;cases h
     |some o=>
       rw[ho]at h;simp only[bA0,qjt]at h⊢;exact⟨h.1,qis l _ hl h.2⟩
theorem qis:∀(l:Ts)(bs:IL),qb3 l=true→qb9 s ws l bs=true→qb9 s (vs++ws) (shL vs.length l) bs=true
 |[],_,_,_=>by unfold shL;rfl
 |t::l,bs,hs,h=>by simp only[qb3,bA0]at hs;simp only[qb9,bA0]at h;unfold shL;simp only[qb9,bA0];exact⟨qkh t _ hs.1 h.1,qis l _ hs.2 h.2⟩
end
mutual
theorem shT_like(d:Nat):∀t:Tm,qav t=true→(shT d t).nodes=t.nodes∧(shT d t).deep=t.deep∧qav (shT d t)=true
 |.mk k n l,hs=>by
   obtain⟨hn,hk1,hl,hk12,hl8⟩:=qcl hs;by_cases hk:k=1
   · have hl0:=hk1 hk;subst hl0;subst hk;have:shT d (.mk 1 n [])=.mk 1 (n+d) []:=by unfold shT;rw[if_pos rfl]
     rw[this];refine⟨rfl,rfl,?_⟩;have:0≤n+(d:Int):=by omega
     simp[qav,qb3,this]
   · have:shT d (.mk k n l)=.mk k n (shL d l):=by unfold shT;rw[if_neg hk]
     rw[this];obtain⟨h1,h2,h3⟩:=shL_like d l hl;refine⟨by simp only[Tm.nodes,h1],by simp only[Tm.deep,h2],?_⟩;simp only[qav,qjt,h3,Bool.and_true];simp only[qav,hl,Bool.and_true]at hs;exact hs
theorem shL_like(d:Nat):∀l:Ts,qb3 l=true→qba (shL d l)=qba l∧qf7 (shL d l)=qf7 l∧qb3 (shL d l)=true
 |[],_=>⟨rfl,rfl,rfl⟩
 |t::l,hs=>by simp only[qb3,bA0]at hs;obtain⟨a1,a2,a3⟩:=shT_like d t hs.1;obtain⟨b1,b2,b3⟩:=shL_like d l hs.2;refine⟨by simp only[shL,qba,a1,b1],by simp only[shL,qf7,a2,b2],by simp only[shL,qb3,a3,b3,Bool.and_self]⟩
end
theorem shT_tree{d:Nat}{t:Tm}(h:qa1 t=true):qa1 (shT d t)=true:=by have hs:=qaw h;obtain⟨h1,h2,h3⟩:=shT_like d t hs;simp only[qa1,h1,h2,h3,Bool.and_true];simp only[qa1,hs,Bool.and_true]at h;exact h
theorem topV_front{t:Tm}(hs:qav t=true)(h:0≤topV s vs t):topV s (vs++ws) t=topV s vs t:=by
 obtain⟨k,n,l⟩:=t;obtain⟨hn,_⟩:=qcl hs;simp only[topV]at h⊢;by_cases hk:k=1
 ·grind
 ·omega
theorem topV_shift{t:Tm}(hs:qav t=true):topV s (vs++ws) (shT vs.length t)=topV s ws t:=by
 obtain⟨k,n,l⟩:=t;obtain⟨hn,_⟩:=qcl hs;unfold shT;by_cases hk:k=1
 · rw[if_pos hk];simp only[topV,if_pos hk];by_cases hv:n< (ws.length:Int)
   ·grind
   ·grind
 · rw[if_neg hk];simp only[topV,if_neg hk]
theorem qhl{t:Tm}(h:(qco s vs t).2=0):qa1 t=true∧0≤topV s vs t∧qb1 s vs t (topV s vs t)=true∧(qco s vs t).1=topV s vs t:=by
 unfold qco at h⊢;split at h
 ·grind
 ·cases h
theorem qlt{t:Tm}(h:(qco s vs t).2=0):qco s (vs++ws) t=qco s vs t:=by obtain⟨h1,h2,h3,_⟩:=qhl h;have ht:=topV_front (ws:=ws) (qaw h1) h2;have a:qco s vs t=(topV s vs t,0):=if_pos ⟨h1,h2,h3⟩;have b:qco s (vs++ws) t=(topV s (vs++ws) t,0):=if_pos ⟨h1,by rw[ht];exact h2,by rw[ht];exact qki t _ (qaw h1) h3⟩;rw[a,b,ht]
theorem qls{t:Tm}(h:(qco s ws t).2=0):qco s (vs++ws) (shT vs.length t)=qco s ws t:=by obtain⟨h1,h2,h3,_⟩:=qhl h;have ht:=topV_shift (s:=s) (vs:=vs) (ws:=ws) (qaw h1);have a:qco s ws t=(topV s ws t,0):=if_pos ⟨h1,h2,h3⟩;have b:qco s (vs++ws) (shT vs.length t)=(topV s (vs++ws) (shT vs.length t),0):=if_pos ⟨shT_tree h1,by rw[ht];exact h2,by rw[ht];exact qkh t _ (qaw h1) h3⟩;rw[a,b,ht]
mutual
theorem qso:∀t:Tm,qav t=true→posV t
 |.mk k n l,hs=>by
   obtain⟨hn,_,hl,_⟩:=qcl hs;unfold posV;by_cases hk:k=1
   ·grind
   ·rw[if_neg hk];exact posL_of l hl
theorem posL_of:∀l:Ts,qb3 l=true→posL l
 |[],_=>by unfold posL;trivial
 |t::l,hs=>by simp only[qb3,bA0]at hs;unfold posL;exact⟨qso t hs.1,posL_of l hs.2⟩
end
theorem qmv.facts{c:Tm×Tm}(h:qmv s vs c):(qa1 c.1=true∧qa1 c.2=true)∧(qlh vs.length c.1∧qlh vs.length c.2)∧(posV c.1∧posV c.2):=by obtain⟨h1,h2,_⟩:=h;obtain⟨a1,_,a3,_⟩:=qhl h1;obtain⟨b1,_,b3,_⟩:=qhl h2;exact⟨⟨a1,b1⟩,⟨qgt _ _ (qaw a1) a3,qgt _ _ (qaw b1) b3⟩,qso _ (qaw a1),qso _ (qaw b1)⟩
theorem SolOk.both{t:GTy}{nv:PV→PV×Int}{r:Int}{dom:LT}{cs ds:List (Tm×Tm)}(A:SolOk t nv r dom vs cs)(B:SolOk t nv r dom ws ds)(h1:vs.length+ws.length≤64)(h2:cs.length+ds.length≤8):SolOk t nv r dom (vs++ws) (cs++ds.map (shP vs.length)):=by
 refine⟨A.r0,A.dom,by simp;omega,by simp;omega,fun v hv=>?_,fun c hc=>?_⟩
 · rcases mA0.1 hv with h|h
   ·exact A.vars v h
   ·exact B.vars v h
 · rcases mA0.1 hc with h|h
   · obtain⟨q1,q2,q3⟩:=A.conds c h;unfold qmv;rw[qlt q1,qlt q2];exact⟨q1,q2,q3⟩
   · obtain⟨d,hd,rfl⟩:=mM0.1 h;obtain⟨q1,q2,q3⟩:=B.conds d hd;unfold qmv shP;simp only;rw[qls q1,qls q2];exact⟨q1,q2,q3⟩
end Go.Proofs.Tryz
namespace Go.Proofs.Tryz
open Go Go.AE
open Go.AE.Obj (row)
variable {T:Tbl}(hT:Std T){s:GSig}
def AppW(H:Hp)(v:PV)(es:PL)(sz lo:Nat):Prop:=(es=[]∧∃z m,v=.slice z [] m∧m.flush=true)∨∃kt,v=.slice sz es (.tok kt)∧H[kt]?=some (.tok sz es.length)∧lo≤kt
theorem AppW.form{H:Hp}{v:PV}{es:PL}{sz lo:Nat}(A:AppW H v es sz lo):∃z m,v=.slice z es m∧(es=[]∨z=sz):=by
 rcases A with⟨rfl,z,m,rfl,_⟩|⟨kt,rfl,_,_⟩
 ·grind
 ·grind
theorem AppW.set{H:Hp}{v:PV}{es:PL}{sz lo k n:Nat}{r r':PL}(A:AppW H v es sz lo)(hk:H[k]?=some (.row n r)):AppW (H.set k (.row n r')) v es sz lo:=by
 rcases A with h|⟨kt,h1,h2,h3⟩
 ·exact .inl h
 · refine .inr ⟨kt,h1,qaa h2 ?_,h3⟩;rintro rfl;rw[h2]at hk;cases hk
theorem AppW.push{H:Hp}{v:PV}{es:PL}{sz lo:Nat}{o:AE.Obj}(A:AppW H v es sz lo):AppW (H++[o]) v es sz lo:=by
 rcases A with h|⟨kt,h1,h2,h3⟩
 ·exact .inl h
 ·exact .inr ⟨kt,h1,qah h2,h3⟩
theorem qrw{H:Hp}{v:PV}{es xs:PL}{sz bytes zx lo:Nat}{mx:SM}(A:AppW H v es sz lo)(hx:xs=[]∨zx=sz)(hc:xs.all (fun e=>e.cells.all PV.isCell)=true)(hb:bytes≤100)(hl:es.length+xs.length≤10000)(hsz:0<sz)(hlo:lo≤H.length):
 ∃(H':Hp)(fw:NL→NL)(v':PV),(∀ws ups,appendop sz bytes v (.slice zx xs mx) ⟨H,ws,ups⟩=some (v',⟨H',fw ws,ups⟩))∧AppW H' v' (es++xs) sz lo∧Low lo H H'∧∀{b:Nat},b≤lo→∀ws,(∀x∈ws,b≤x)→∀x∈fw ws,b≤x:=by
 cases xs with
 |nil=>
   obtain⟨z,m,rfl,_⟩:=A.form;exact⟨H,fun ws=>ws,.slice z es m,fun ws ups=>by simp[appendop,qch],by simpa using A,Low.refl _ _,fun _ ws h=>h⟩
 |cons x xs=>
   have hzx:zx=sz:=hx.resolve_left (by simp);subst hzx
   have hroom:(es.length+(x::xs).length) *bytes≤room∧es.length+(x::xs).length≤room:=by
    have h1:10000000≤room:=by decide
    have h2:(es.length+(x::xs).length) *bytes≤10000*100:=Nat.mul_le_mul hl hb;constructor<;>omega
   rcases A with⟨rfl,z,m,rfl,hm⟩|⟨kt,rfl,h2,h3⟩
   · refine⟨H++[.tok zx (x::xs).length],fun ws=>ws,.slice zx (x::xs) (.tok H.length),fun ws ups=>?_,.inr ⟨H.length,rfl,by simp,hlo⟩,(Low.refl _ _).push hlo,fun _ ws h=>h⟩;simp only[List.length_nil,Nat.zero_add]at hroom;have:m=.nil∨m=.full∨m=.lit:=by cases m<;>simp[SM.flush]at hm⊢
     rcases this with rfl|rfl|rfl<;>simp only[appendop,qch,List.isEmpty_cons,bF0,if_false,List.isEmpty_nil,or_true,hsz,hc,List.length_nil,Nat.zero_add,hroom,and_self,if_true,List.nil_append,alloc]
   · refine⟨H.set kt (.tok zx (es.length+(x::xs).length)),wadd kt,.slice zx (es++x::xs) (.tok kt),fun ws ups=>?_,.inr ⟨kt,rfl,by rw[qak h2];simp,h3⟩,.set h3,fun hb ws hx=>qae (by omega) hx⟩;simp only[appendop,qch,List.isEmpty_cons,bF0,if_false,true_or,hsz,hc,hroom,and_self,if_true,h2,qau]
def qm5:List (Tm×Tm)→Ts
 |[]=>[]
 |c::cs=>c.1::c.2::qm5 cs
theorem qko:∀cs ds:List (Tm×Tm),qm5 (cs++ds)=qm5 cs++qm5 ds
 |[],ds=>rfl
 |c::cs,ds=>by simp only[List.cons_append,qm5,qko cs ds]
theorem qkn:∀cs:List (Tm×Tm),(qm5 cs).length=2*cs.length
 |[]=>rfl
 |c::cs=>by simp only[qm5,List.length_cons,qkn cs];omega
set_option maxRecDepth 8000 in
include hT in
theorem qs7{cs:List (Tm×Tm)}{zc:Nat}{ps:PL}{mc:SM}(hzc:ps=[]∨zc=6)(hC:qmx cs ps)(hcn:cs.length≤100)(h:Hp):
 ∃b:Bool,Ev T 37 [.slice zc ps mc] h (ba (.bool b) h)∧True:=by
 refine Ev.walkP (r:=fun b:Bool=>(ba (.bool b) h)) (hT.sp _ (by decide)) ((hT.fn _).trans fn37) (hT.mode _) rfl ?_;have hcl:=hC.1;simp(disch:=omega) only[go_sem]
 refine wpC.loopM (fun g e st=> ∃(i:Nat)(H:Hp)(ws:NL)(v:PV)(es:PL),i+g=ps.length∧Low h.length h H∧(∀x∈ws,h.length≤x)∧AppW H v es 3 h.length∧EncL (qm5 (cs.take i)) es∧(eget e 3=v∧eget e 6=.slice zc ps mc∧eget e 7=iv0 (ps.length:Int)∧eget e 8=iv0 (i:Int))∧st=⟨H,ws,[]⟩) ?_ ps.length _ _
  ⟨0,h,[],.sn,[],by omega,Low.refl _ _,by simp,.inl ⟨rfl,0,.nil,rfl,rfl⟩,⟨rfl,fun i x p hx=>by simp[qm5]at hx⟩,by simp only[go_sem,zN0],rfl⟩
 rintro g e st ⟨i,H,ws,v,es,hi,low,hw,hA,hE,⟨e3,e6,e7,e8⟩,rfl⟩;have hHl:=low.len;by_cases h1:i<ps.length
 · have h1':(i:Int)< (ps.length:Int):=by omega
   have ga:=qbt h1;have hx:cs[i]?=some cs[i]:=gE0 (by omega);have htk:cs.take (i+1)=cs.take i++[cs[i]]:=by rw[tS0 (by omega)]
   have hEP:=hC.2 i _ _ hx ga;have hzc6:zc=6:=by grind
   subst hzc6;generalize cs[i]=c at*;obtain⟨p1,p2,p3,p4,p5,_⟩:=hEP.facts;obtain⟨ka,na,za,ea,kb,nb,zb,eb,hp,hEa,hEb⟩:=hEP;generalize ps[i]=P at*;have sb:=qa5 (h:=H) (ws:=ws) (ups:=[]) (z:=zq6) (sz:=6) (c:=P) p1 rfl p2 p4 ⟨_,rfl⟩ p3;have k5:=gC0 (l:=H) (a:=row 6 [P]);have low9:=low.push (o:=row 6 [P]) (by omega);have hw9:∀y∈wadd H.length ws,h.length≤y:=qae (by omega) hw;have A9:=hA.push (o:=row 6 [P]);generalize hH9:H++[row 6 [P]]=H9 at*;generalize hk9:H.length=n5 at*;obtain⟨A,hA'⟩:∃A,A=PV.agg [iv0 ka,iv0 na,.slice za ea .any]:=⟨_,rfl⟩;obtain⟨B,hB'⟩:∃B,B=PV.agg [iv0 kb,iv0 nb,.slice zb eb .any]:=⟨_,rfl⟩;rw[←hA']at hEa;rw[←hB']at hEb;have lA:loadAt true 3 (.pb n5) H9=some A:=by rw[qad k5,hp,hA'];rfl
   have lB:loadAt true 3 (.ptr n5 0 3 1) H9=some B:=by rw[qad k5,hp,hB'];rfl
   obtain⟨x1,x2,x3,_⟩:=hEa.cells;obtain⟨y1,y2,y3,_⟩:=hEb.cells;have fe2:qda 3 (List.replicate 2 (.agg [iv0 0,iv0 0,.sn])) [(0,A),(1,B)]=some [A,B]:=by simp[qda,x1,x3,y1,y3]
   have hEl:=hE.1;rw[qkn,lT0]at hEl;obtain⟨H',fw,v',ap,A',low',hfw⟩:=qrw (bytes:=40) (xs:=[A,B]) (zx:=3) (mx:=.lit) A9 (.inr rfl) (by simp only[List.all_cons,List.all_nil,x2,y2,Bool.and_self]) (by omega) (by simp;omega) (by decide) low9.len;simp(disch:=omega) only[go_sem,a37b0,e3,e6,e7,e8,h1',ga,p5,hk9,sb,lA,lB,fe2,ap,ll0];refine⟨g - 1,by omega,i+1,H',_,_,_,by omega,low9.trans low',hfw (nR0 _) _ hw9,A',?_,⟨rfl,rfl⟩,rfl⟩;rw[htk,qko];have:=(hE.snoc hEa).snoc hEb;simpa[qm5]using this
 · have h1':¬(i:Int)< (ps.length:Int):=by omega
   obtain⟨z,m,rfl,hz⟩:=hA.form;obtain⟨b,ev,_⟩:=qs8 hT (lim:=100) ⟨by omega,by omega⟩ (m:=m) hz hE.1 hE.2 H;have td:=qan (v:=.bool b) (ws:=ws) rfl rfl low hw;simp(disch:=omega) only[go_sem,a37b0,e3,e7,e8,h1',cb ev,hT.prim,qab,td];exact⟨b,rfl,trivial⟩
theorem qjf(cs:List (Tm×Tm)):qmx cs (cs.map qag):=⟨by simp,fun i c p hc hp=>by rw[gM0,hc]at hp;cases hp;exact qje c⟩
theorem qmx.snoc{cs:List (Tm×Tm)}{ps:PL}{c:Tm×Tm}{p:PV}(h:qmx cs ps)(hp:EncP c p):qmx (cs++[c]) (ps++[p]):=by
 have hl:=h.1;refine⟨by simp[hl],fun i d q h1 h2=>?_⟩;by_cases hi:i<cs.length
 · rw[gL0 hi]at h1;rw[gL0 (by omega)]at h2;exact h.2 i _ _ h1 h2
 ·grind
theorem EncP.pw{c:Tm×Tm}{P:PV}(h:EncP c P):P.pure=true∧P.weak=P:=by
 obtain⟨ka,na,za,ea,kb,nb,zb,eb,hP,hEa,hEb⟩:=h;obtain⟨_,a2,a3⟩:=hEa.facts;obtain⟨_,b2,b3⟩:=hEb.facts;rw[hP];simp only[PV.pure,qas,PV.weak,qaq,Bool.and_true,PV.agg.injEq,List.cons.injEq,and_true,true_and,Bool.true_and]at a2 a3 b2 b3⊢;refine⟨?_,?_⟩
 ·rw[a2,b2];rfl
 ·exact⟨a3,b3⟩
theorem encPL_pw:∀{cs:List (Tm×Tm)}{ps:PL},qmx cs ps→qas ps=true∧qaq ps=ps
 |[],ps,h=>by
   have:ps=[]:=lZ0.1 h.1;subst this;exact⟨rfl,rfl⟩
 |c::cs,[],h=>by have:=h.1;simp at this
 |c::cs,p::ps,h=>by obtain⟨h1,h2⟩:=encPL_pw (cs:=cs) (ps:=ps) ⟨by have:=h.1;simpa using this,fun i x p hx hp=>h.2 (i+1) x p hx hp⟩;obtain⟨h3,h4⟩:=(h.2 0 c p rfl rfl).pw;simp[qas,qaq,h1,h2,h3,h4]
theorem SubX.good{l:Ts}{u:Tm}{x:PV×Int}(h:SubX l u x)(h0:x.2=0):Enc (subT l u) x.1∧qa1 (subT l u)=true:=by
 rcases h with⟨_,_,_,_,h1,h2⟩|⟨h,_⟩
 ·exact⟨h1,h2⟩
 ·omega
set_option maxRecDepth 8000 in
include hT in
theorem holds71_ev(h137:T.sp 137=some qgy){t:GTy}(I:TyIn T t 0){st:Ts→Tm→PV×Int}(ST:STm T st){l:Ts}{z:Nat}{es:PL}{m:SM}(hz:es=[]∨z=3)(hE:EncL l es)(hl:l.length≤1000){c:Tm×Tm}{P:PV}(hP:EncP c P){q:Int}{va vb:Tm}(sa:(st l c.1).2=0)(sb:(st l c.2).2=0)(ca:qbq t.sig (subT l c.1) q=true)(cb':qbq t.sig (subT l c.2) q=true)(wa:HasV t (subT l c.1) va)(wb:HasV t (subT l c.2) vb)(h:Hp):
 Ev T 71 [qai t,P,.slice z es m] h (ba (.tuple [.bool (tmB va vb),.bool true]) h):=by
 refine Ev.walk (mode:=0) (hT.sp _ (by decide)) ((hT.fn _).trans fn71) (show T.mode 71=0 from hT.mode 71) rfl ?_;obtain⟨p1,_,_,_,_,p6⟩:=hP.facts;obtain⟨ka,na,za,ea,kb,nb,zb,eb,hp,hEa,hEb⟩:=hP;have k3:=gC0 (l:=h) (a:=row 3 [qai t]);have low1:Low h.length h (h++[row 3 [qai t]]):=(Low.refl _ _).push (nR0 _);have w1:(h++[row 3 [qai t]]).length=h.length+1:=by simp
 generalize hH1:h++[row 3 [qai t]]=H1 at*;have k4:=gC0 (l:=H1) (a:=row 6 [P]);have k32:=qah (o2:=row 6 [P]) k3;have low2:=low1.push (o:=row 6 [P]) (by omega);have w2:(H1++[row 6 [P]]).length=h.length+2:=by simp;omega
 generalize hH2:H1++[row 6 [P]]=H2 at*;generalize hn4:H1.length=n4 at*;obtain⟨A,hA⟩:∃A,A=PV.agg [iv0 ka,iv0 na,.slice za ea .any]:=⟨_,rfl⟩;obtain⟨B,hB⟩:∃B,B=PV.agg [iv0 kb,iv0 nb,.slice zb eb .any]:=⟨_,rfl⟩;rw[←hA]at hEa;rw[←hB]at hEb;have lA:loadAt true 3 (.pb n4) H2=some A:=by rw[qad k4,hp,hA];rfl
 have evA:=ST.ev l c.1 A z es m hl hEa hE hz H2;obtain⟨hV1,ht1⟩:=(ST.sx l c.1 hl).good sa;generalize(st l c.1).1=V1 at*;obtain⟨a1,a2,_,a4⟩:=hV1.cells;have sb1:=fun ws=>qa5 (h:=H2) (ws:=ws) (ups:=[]) (z:=zq3) (sz:=3) (c:=V1) a1 rfl a2 hV1.facts.1 ⟨_,rfl⟩ a4;have k8:=gC0 (l:=H2) (a:=row 3 [V1]);have k43:=qah (o2:=row 3 [V1]) k4;have k33:=qah (o2:=row 3 [V1]) k32;have low3:=low2.push (o:=row 3 [V1]) (by omega);have w3:(H2++[row 3 [V1]]).length=h.length+3:=by simp;omega
 generalize hH3:H2++[row 3 [V1]]=H3 at*;generalize hn8:H2.length=n8 at*;have lB:loadAt true 3 (.ptr n4 0 3 1) H3=some B:=by rw[qad k43,hp,hB];rfl
 have evB:=ST.ev l c.2 B z es m hl hEb hE hz H3;obtain⟨hV2,ht2⟩:=(ST.sx l c.2 hl).good sb;generalize(st l c.2).1=V2 at*;obtain⟨b1,b2,_,b4⟩:=hV2.cells;have sb2:=fun ws=>qa5 (h:=H3) (ws:=ws) (ups:=[]) (z:=zq3) (sz:=3) (c:=V2) b1 rfl b2 hV2.facts.1 ⟨_,rfl⟩ b4;have k10:=gC0 (l:=H3) (a:=row 3 [V2]);have k84:=qah (o2:=row 3 [V2]) k8;have k34:=qah (o2:=row 3 [V2]) k33;have low4:=low3.push (o:=row 3 [V2]) (by omega);generalize hH4:H3++[row 3 [V2]]=H4 at*;generalize hn10:H3.length=n10 at*;have lt:loadAt true 3 (.pb h.length) H4=some (qai t):=by rw[qad k34];rfl
 have l8:loadAt true 3 (.pb n8) H4=some V1:=by rw[qad k84];exact hV1.sub
 have l10:loadAt true 3 (.pb n10) H4=some V2:=by rw[qad k10];exact hV2.sub
 have evE:=qtb hT h137 I hV1 hV2 ⟨ht1,ca⟩ ⟨ht2,cb'⟩ wa wb H4;have e1:((st l c.1).2 !=0)=false:=by simp[sa]
 have e2:((st l c.2).2 !=0)=false:=by simp[sb]
 have n0:((0:Int)==0)=true:=rfl;have td:=qan (v:=.tuple [.bool (tmB va vb),.bool true]) rfl rfl low4 (ws:=wadd n10 (wadd n8 [])) (qae (by omega) (qae (by omega) (by simp)));simp(disch:=omega) only[go_sem,hH1,hn4,hH2,hn8,hn10,p1,p6,qbx,qby,lA,cb evA,sb1,lB,cb evB,sb2,e1,e2,lt,l8,l10,cb evE,n0,hT.q,td]
include hT in
theorem same70_ev{H:Hp}{kp:Nat}{x u:Tm}{P X:PV}(hP:Enc x P)(hX:Enc u X)(hx:u.nodes≤4000)(k1:H[kp]?=some (.row 3 [X])):Ev T 70 [P,.pb kp] H (ba (.bool (tmB u x)) H):=by
 refine Ev.walk (hT.sp _ (by decide)) ((hT.fn _).trans fn70) (hT.mode _) rfl ?_;obtain⟨c1,_,c3,_⟩:=hP.cells;have k2:=gC0 (l:=H) (a:=row 3 [P]);have k3:=qah (o2:=row 3 [P]) k1;have low1:Low H.length H (H++[row 3 [P]]):=(Low.refl _ _).push (nR0 _);generalize hH1:H++[row 3 [P]]=H1 at*;have lp:loadAt true 3 (.pb H.length) H1=some P:=by rw[qad k2];exact hP.sub
 have lx:loadAt true 3 (.pb kp) H1=some X:=by rw[qad k3];exact hX.sub
 have ev:=qfm hT hX x P hP hx H1;have td:=fun b:Bool=>qan (v:=.bool b) rfl rfl low1 (ws:=[]) (by simp);simp(disch:=omega) only[go_sem,hH1,c1,c3,lp,lx,cb ev,hT.prim,qab,td]
def SmR(us:Ts):Prop:=us.length≤64∧∀u∈us,u.nodes≤4000
include hT in
theorem qk2{us ws:Ts}{v w:PV}(hv:RowV us v)(hw:RowV ws w)(hu:SmR us)(h:Hp):Ev T 32 [v,w,.func (.func 22) [] []] h (ba (.bool (tmBL us ws)) h):=by obtain⟨z,es,rfl,hz,hE⟩:=hv;obtain⟨z',fs,rfl,hz',hF⟩:=hw;exact qrd hT hz hz' hE.1 hF.1 (by have:=hu.1;omega) hE.2 hF.2 (fun i x y p q hx hy hp hq h=>qfm hT (hE.2 i x p hx hp) _ _ (hF.2 i y q hy hq) (hu.2 x (mG0 hx)) h) h
include hT in
theorem same113_ev{us ws:Ts}{v w:PV}(hv:RowV us v)(hw:RowV ws w)(hu:SmR us)(h:Hp):Ev T 113 [v,w] h (ba (.bool (tmBL us ws)) h):=by refine Ev.walk (hT.sp _ (by decide)) ((hT.fn _).trans fn113) (hT.mode _) rfl ?_;have ev:=qk2 hT hv hw hu h;simp(disch:=omega) only[go_sem,cb ev,hT.prim,qab]
theorem RowV.sub{us:Ts}{v:PV}(h:RowV us v):AE.sub false 1 v 0=some v:=by obtain⟨z,es,rfl,_,_⟩:=h;rfl
include hT in
theorem sameDom_ev{L:LT}{z z':Nat}{vs ws:PL}(hz:vs=[]∨z=1)(hz':ws=[]∨z'=1)(hV:qgm L vs)(hW:qgm L ws)(hL:∀us∈L,SmR us)(hn:L.length≤4000)(h:Hp):Ev T 36 [.slice z vs .any,.slice z' ws .any] h (ba (.bool true) h):=by
 have hvl:=hV.1;have hwl:=hW.1
 have W:Ev T 112 [.slice z vs .any,.slice z' ws .any,.func (.func 113) [] []] h (ba (.bool true) h):=by
  refine Ev.walk (hT.sp _ (by decide)) ((hT.fn _).trans fn112) (hT.mode _) rfl ?_;have hne:((vs.length:Int) !=(ws.length:Int))=false:=by simp;omega
  simp(disch:=omega) only[go_sem,hne];refine wpC.loopM (fun g e st=> ∃i:Nat,i+g=vs.length∧(eget e 1=.slice z' ws .any∧eget e 2=.func (.func 113) [] []∧eget e 15=.slice z vs .any∧eget e 16=iv0 (vs.length:Int)∧eget e 17=iv0 (i:Int))∧st=⟨h,[],[]⟩) ?_ vs.length _ _ ⟨0,by omega,by simp only[go_sem,zN0],rfl⟩;rintro g e st ⟨i,hi,⟨e1,e2,e15,e16,e17⟩,rfl⟩;by_cases h1:i<vs.length
  · have h1':(i:Int)< (vs.length:Int):=by omega
    have ga:=qbt h1;have gb:=qbt (show i<ws.length by omega);have hx:L[i]?=some L[i]:=gE0 (by omega);have hm:=mG0 hx;have rv:=hV.2 i _ _ hx ga;have rw':=hW.2 i _ _ hx gb;have ev:=same113_ev hT rv rw' (hL _ hm) h;rw[(qek _ _).2 rfl]at ev;have hz1:z=1:=by grind
    have hz2:z'=1:=by grind
    subst hz1 hz2;simp(disch:=omega) only[go_sem,a112b0,e1,e2,e15,e16,e17,h1',ga,gb,rv.sub,rw'.sub,cb ev,hT.prim,qab];exact⟨g - 1,by omega,i+1,by omega,rfl,trivial⟩
  · have h1':¬(i:Int)< (vs.length:Int):=by omega
    simp(disch:=omega) only[go_sem,a112b0,e16,e17,h1']
 refine Ev.walk (hT.sp _ (by decide)) ((hT.fn _).trans fn36) (hT.mode _) rfl ?_;simp(disch:=omega) only[go_sem,cb W,hT.prim,qab]
include hT in
theorem back72_ev{z:Nat}{vs:PL}{m:SM}(hp:qas vs=true∧qaq vs=vs)(h:Hp):Ev T 72 [.slice z vs m] h (ba (.func (.func 153) [] [.iptr (.slice z vs .any) 0]) h):=by
 refine Ev.walk (mode:=0) (hT.sp _ (by decide)) ((hT.fn _).trans fn72) (show T.mode 72=0 from hT.mode 72) rfl ?_;have k1:=gC0 (l:=h) (a:=row 1 [.slice z vs m])
 have td:tidy 0 h.length (.val (.func (.func 153) [] [.pb h.length])) ⟨h++[row 1 [.slice z vs m]],[],[]⟩=(ba (.func (.func 153) [] [.iptr (.slice z vs .any) 0]) h):=by
  have f1:∀n,frz (h++[row 1 [.slice z vs m]]) h.length (n+1) (.slice z vs m)=some (.slice z vs .any):=fun n=>by rw[qb0 (by exact hp.1)];simp only[PV.weak,hp.2]
  have f2:∀n,frz (h++[row 1 [.slice z vs m]]) h.length (n+2) (.pb h.length)=some (.iptr (.slice z vs .any) 0):=fun n=>by rw[frz];simp only[PV.pure,bF0,if_false,k1,ll0,List.getElem?_cons_zero,f1,Option.map];rw[if_neg (by omega)];rfl
  have f3:frz (h++[row 1 [.slice z vs m]]) h.length 64 (.func (.func 153) [] [.pb h.length])=some (.func (.func 153) [] [.iptr (.slice z vs .any) 0]):=by rw[frz];simp only[PV.pure,qas,Bool.false_and,Bool.and_false,bF0,if_false,List.map_cons,List.map_nil,f2,qbs,Option.map]
  unfold tidy;simp[OR.v,f3,OR.put,AE.below]
 simp(disch:=omega) only[go_sem,td]
end Go.Proofs.Tryz
namespace Go.Proofs.Tryz
open Go Go.AE
open Go.AE.Obj (row)
variable {s:GSig}
theorem qp9(us:Ts):∀l:Ts,(subL us l).length=l.length
 |[]=>rfl
 |t::l=>by simp only[subL,List.length_cons,qp9 us l]
mutual
theorem qjq{vs:IL}{us:Ts}(hl:us.length=vs.length)(hu:∀(i:Nat)(x:Tm),us[i]?=some x→qbq s x (vs.getD i (-1))=true):∀(t:Tm)(a:Int),qav t=true→qb1 s vs t a=true→qbq s (subT us t) a=true
 |.mk k n l,a,hs,h=>by
   obtain⟨hn,_,hsl,_⟩:=qcl hs;unfold qb1 at h;unfold subT;by_cases hk:k=1
   ·grind
   · rw[if_neg hk]at h⊢;cases ho:s.ops[n.toNat]? with
     |none=>rw[ho]at h;cases h
     |some o=>
       rw[ho]at h;have hk':(k==1)=false:=by simpa using hk
       simp only[bA0,dE0]at h;simp only[qbq,hk',ho,Bool.not_false,Bool.true_and,qp9,bA0,dE0];exact⟨h.1,qnl hl hu l _ hsl h.2⟩
theorem qnl{vs:IL}{us:Ts}(hl:us.length=vs.length)(hu:∀(i:Nat)(x:Tm),us[i]?=some x→qbq s x (vs.getD i (-1))=true):∀(l:Ts)(bs:IL),qb3 l=true→qb9 s vs l bs=true→qgu s (subL us l) bs=true
 |[],_,_,_=>rfl
 |t::l,bs,hs,h=>by simp only[qb3,bA0]at hs;simp only[qb9,bA0]at h;simp only[subL,qgu,qjq hl hu t _ hs.1 h.1,qnl hl hu l _ hs.2 h.2,Bool.and_self]
end
theorem SOk.typ{i:Nat}{x:Tm}(h:SOk s i x):qbq s x (i:Int)=true:=by
 obtain⟨h1,h2⟩:=h;have ht:qa1 x=true:=SOk.tree ⟨h1,h2⟩;unfold qiy at h1 h2;rw[if_pos ht]at h1 h2;obtain⟨k,n,l⟩:=x;simp only[sortR]at h1 h2;split at h1
 ·grind
 ·simp at h1
structure Asg (s:GSig)(dom:LT)(vs:IL)(us:Ts):Prop where
 len:us.length=vs.length
 mem:∀(i:Nat)(x:Tm),us[i]?=some x→∃K:Nat,vs[i]?=some (K:Int)∧K<dom.length∧x∈atL dom (K:Int)
 typ:∀(i:Nat)(x:Tm),us[i]?=some x→qbq s x (vs.getD i (-1))=true
 sm:SmR us
theorem asg_of{t:GTy}{nv:PV→PV×Int}{r:Int}{dom:LT}{vs:IL}{cs:List (Tm×Tm)}(A:SolOk t nv r dom vs cs){us:Ts}(hu:us∈qca (vs.map (atL dom))):Asg t.sig dom vs us:=by
 obtain⟨h1,h2⟩:=ql3 hu;rw[lM0]at h1;have D1:=(A.dom.yes (by decide)).1
 have key:∀(i:Nat)(x:Tm),us[i]?=some x→∃K:Nat,vs[i]?=some (K:Int)∧K<dom.length∧x∈atL dom (K:Int):=fun i x hx=>by
  have hi:=(gI0.1 hx).1;have hv:i<vs.length:=by omega
  have hvi:=A.vars _ (gX0 hv);obtain⟨K,hK⟩:=iZ0 hvi.1;refine⟨K,by rw[gE0 hv,hK],by rw[D1.1];omega,?_⟩;rw[←hK];exact h2 i _ _ hx (by rw[gM0,gE0 hv];rfl)
 have key2:∀(i:Nat)(x:Tm),us[i]?=some x→∃K:Nat,vs[i]?=some (K:Int)∧SOk t.sig K x:=fun i x hx=>by obtain⟨K,k1,k2,k3⟩:=key i x hx;obtain⟨j,hj,rfl⟩:=List.getElem_of_mem k3;exact⟨K,k1,((D1.2 K _ (qmq k2)).2 j _ (gE0 hj)).1⟩
 refine⟨h1,key,fun i x hx=>?_,by have:=A.nV;omega,fun u hu=>?_⟩
 · obtain⟨K,k1,k2⟩:=key2 i x hx;rw[gD0,k1];exact k2.typ
 · obtain⟨i,hi,rfl⟩:=List.getElem_of_mem hu;obtain⟨K,_,k2⟩:=key2 i _ (gE0 hi);have:=qbi k2.tree;omega
theorem tmB_comm(a b:Tm):tmB a b=tmB b a:=by rw[Bool.eq_iff_iff,qgb,qgb];exact eq_comm
def swp(c:Tm×Tm):Tm×Tm:=(c.2,c.1)
section
variable {R:Tm→Prop}{nt:Tm→PV×Int}{l:Ts}
theorem qn4:∀cs:List (Tm×Tm),qbn nt l (cs.map swp)=qbn nt l cs
 |[]=>rfl
 |c::cs=>by simp only[List.map_cons,qbn,qn4 cs,swp];rw[tmB_comm]
theorem qn5:∀cs:List (Tm×Tm),qbn nt l cs.reverse=qbn nt l cs
 |[]=>rfl
 |c::cs=>by simp only[List.reverse_cons,qc8,qn5 cs,qbn,Bool.and_true];rw[Bool.and_comm]
theorem qn9:∀{cs:List (Tm×Tm)}(n:Nat),qej R nt l cs→qej R nt l (cs.take n)
 |[],n,h=>by simpa using h
 |c::cs,0,h=>trivial
 |c::cs,n+1,h=>⟨h.1,fun hh=>qn9 n (h.2 hh)⟩
theorem cat_at{cs:List (Tm×Tm)}{k:Nat}{c:Tm×Tm}(hc:cs[k]?=some c):cs=cs.take k++(c::cs.drop (k+1)):=by obtain⟨hk,rfl⟩:=gI0.1 hc;have:=List.take_append_drop k cs;rw[List.drop_eq_getElem_cons hk]at this;exact this.symm
theorem goodF_at{cs:List (Tm×Tm)}{k:Nat}{c:Tm×Tm}(hc:cs[k]?=some c)(hh:qbn nt l (cs.take k)=true)(hg:qej R nt l cs):R c.1∧R c.2∧(nt (subT l c.1)).2=0∧(nt (subT l c.2)).2=0:=by rw[cat_at hc]at hg;exact(ql7 hh hg).1
theorem holdsF_at{cs:List (Tm×Tm)}{k:Nat}{c:Tm×Tm}(hc:cs[k]?=some c)(hh:qbn nt l (cs.take k)=true):qbn nt l (cs.take (k+1))=tmB (valN nt (subT l c.1)) (valN nt (subT l c.2)):=by obtain⟨hk,rfl⟩:=gI0.1 hc;rw[tS0 hk,qc8,hh];simp only[qbn,Bool.true_and,Bool.and_true]
theorem qq7{cs:List (Tm×Tm)}(k:Nat)(h:qbn nt l (cs.take k)=false):qbn nt l cs=false:=by have:=qc8 (nt:=nt) (l:=l) (cs.take k) (cs.drop k);rw[List.take_append_drop,h]at this;simpa using this
end
theorem cnt_get{α:Type}{F:α→Bool}{P:List α}{i:Nat}{x:α}(h:P[i]?=some x)(hF:F x=true):(P.filter F)[((P.take i).filter F).length]?=some x:=by
 obtain⟨hi,rfl⟩:=gI0.1 h;have e:P.filter F=(P.take i).filter F++(P.drop i).filter F:=by rw[←List.filter_append,List.take_append_drop]
 rw[e,List.getElem?_append_right (nR0 _),Nat.sub_self,List.drop_eq_getElem_cons hi,List.filter_cons_of_pos hF];rfl
theorem sub_hit{α:Type}{x:α}{A B:List α}(h:(x::A).Sublist (x::B)):A.Sublist B:=List.cons_sublist_cons.1 h
theorem sub_miss{α:Type}{w x:α}{A B:List α}(hn:w≠x)(h:(w::A).Sublist (x::B)):(w::A).Sublist B:=by grind
theorem qob{α:Type}{F G:α→Bool}(h:∀x,F x=true→G x=true):∀P:List α,(P.filter F).Sublist (P.filter G)
 |[]=>List.Sublist.refl _
 |x::P=>by
   have ih:=qob h P;cases hF:F x
   ·grind
   ·grind
theorem SolOk.sub{t:GTy}{nv:PV→PV×Int}{r:Int}{dom:LT}{vs:IL}{cs ds:List (Tm×Tm)}(A:SolOk t nv r dom vs cs)(hn:ds.length≤8)(h:∀c∈ds,c∈cs):SolOk t nv r dom vs ds:=⟨A.r0,A.dom,A.nV,hn,A.vars,fun c hc=>A.conds c (h c hc)⟩
variable {T:Tbl}(hT:Std T)
theorem hasV_of{t:GTy}{nt:Tm→PV×Int}(V:NTv T t nt){u:Tm}(h0:(nt u).2=0):HasV t u (valN nt u):=by
 have e:=V.v u h0;rcases V.N.nx u with⟨_,w,hw,ht⟩|⟨h,_⟩
 · rw[qsf hw];exact⟨by rw[←e];exact h0,by rw[←e];exact hw,ht⟩
 ·omega
def Sok(st:Ts→Tm→PV×Int)(l:Ts)(u:Tm):Prop:=(st l u).2=0
include hT in
theorem qiz(hI:T.iter 182=some itG){t:GTy}{r:Int}(I:TyIn T t r){nt:Tm→PV×Int}(V:NTv T t nt){st:Ts→Tm→PV×Int}(ST:STm T st){nv:PV→PV×Int}(NV:NVal T t nv){dom:LT}(hd:dom.length<1000){vs:IL}{zv:Nat}{mv:SM}(hzv:vs=[]∨zv=1)(hvl:vs.length≤1000){cs:List (Tm×Tm)}{zc:Nat}{ps:PL}{mc:SM}(hzc:ps=[]∨zc=6)(hC:qmx cs ps)(hcn:cs.length≤1000)(h:Hp):
 ∃x:SolX,Ev T 39 [qai t,domV dom,.slice zv (vs.map encI) mv,.slice zc ps mc] h (ba x.v h)∧((x.e=0→SolOk t nv r dom vs cs∧(x.vs=[]∨x.z=1)∧qgm (solL nt dom vs cs) x.vs∧x.vs.length≤4000∧(∀l∈qca (vs.map (atL dom)),qej (Sok st l) nt l cs)∧ovN dom vs≤200000)∧(SolOk t nv r dom vs cs→x.e=0∨x.e=2)∧(SolOk t nv r dom vs cs→ovN dom vs≤200000→(qca (vs.map (atL dom))).length≤4000→(∀l∈qca (vs.map (atL dom)),qej (Sok st l) nt l cs)→x.e=0)):=
 solveG_ev hT hI I V.N NV hd hzv hvl hzc hC hcn (R:=Sok st) (R':=Sok st) (fun l zl hz hl H=>holdsG_ev hT V.N (fun u p hp h=>⟨st l u,ST.ev l u p zl _ _ hl hp (encL_map' l) hz h,ST.sx l u hl,id,id⟩) hzc hC hcn H) h
end Go.Proofs.Tryz
namespace Go.Proofs.Tryz
open Go Go.AE
open Go.AE.Obj (row)
variable {T:Tbl}(hT:Std T)
def Kp(e e':PL):Prop:=∀k,k<16∨(80≤k∧k<91)→eget e' k=eget e k
set_option maxRecDepth 8000 in
include hT in
theorem b0_ok{s:GSig}{dom:LT}{vs:IL}{us:Ts}{v:PV}(hd:∀l∈dom,l.length≤1000)(hv:RowV us v)(A:Asg s dom vs us){lo:Nat}{H:Hp}{ws:NL}(hlo:lo≤H.length)(hw:∀x∈ws,lo≤x){e:PL}(e1:eget e 1=domV dom)(e2:eget e 2=.slice 1 (vs.map encI) .any)(e91:eget e 91=v)(e92:eget e 92=iv0 (us.length:Int))(e93:eget e 93=iv0 0){Q:AExit→PL→St→Prop}
 (hQ:∀e' H' ws',Low lo H H'→(∀x∈ws',lo≤x)→Kp e e'→Q (.exit 2) e' ⟨H',ws',[]⟩):wpC T (.loop a13b0) e ⟨H,ws,[]⟩ Q:=by
 obtain⟨z,es,rfl,hz,hE⟩:=hv;have hel:=hE.1;have hsm:=A.sm.1;refine wpC.loopM (fun g e' st=> ∃(i:Nat)(H':Hp)(ws':NL),i+g=us.length∧Low lo H H'∧(∀x∈ws',lo≤x)∧Kp e e'∧(eget e' 91=.slice z es .any∧eget e' 92=iv0 (us.length:Int)∧eget e' 93=iv0 (i:Int))∧st=⟨H',ws',[]⟩) ?_ us.length _ _ ⟨0,H,ws,by omega,Low.refl _ _,hw,fun _ _=>rfl,⟨e91,e92,e93⟩,rfl⟩;rintro g e' st ⟨i,H',ws',hi,low,hw',hk,⟨f91,f92,f93⟩,rfl⟩;have f1:=(hk 1 (by omega)).trans e1;have f2:=(hk 2 (by omega)).trans e2;have hHl:=low.len;by_cases h1:i<us.length;rotate_left
 · have h1':¬(i:Int)< (us.length:Int):=by omega
   simp(disch:=omega) only[go_sem,a13b0,f92,f93,h1'];refine hQ _ _ _ low hw' fun k hk'=>?_;rw[←hk k hk'];simp(disch:=omega) only[qac]
 have h1':(i:Int)< (us.length:Int):=by omega
 have ga:=qbt (show i<es.length by omega);have hx:us[i]?=some us[i]:=gE0 h1;have hEx:=hE.2 i _ _ hx ga;have hxn:=A.sm.2 _ (gX0 h1);obtain⟨K,hK,hKd,hxm⟩:=A.mem i _ hx;have hz3:z=3:=by grind
 subst hz3;generalize us[i]=x at*;generalize es[i]=y at*;obtain⟨b1,b2,_,b4⟩:=hEx.cells;have bs:=hEx.sub;have sb:=qa5 (h:=H') (ws:=ws') (ups:=[]) (z:=zq3) (sz:=3) (c:=y) b1 rfl b2 hEx.facts.1 ⟨_,rfl⟩ b4;have k17:=gC0 (l:=H') (a:=row 3 [y]);have low2:=low.push (o:=row 3 [y]) (by omega);have hw2:∀z∈wadd H'.length ws',lo≤z:=qae (by omega) hw';generalize hH2:H'++[row 3 [y]]=H2 at*;generalize hn:H'.length=n17 at*;have gv:(vs.map encI)[i]?=some (iv0 (K:Int)):=by rw[gM0,hK];rfl
 have hge:¬(dom.length:Int)≤(K:Int):=by omega
 have hdk:=qmq hKd;have gd:(dom.map encL)[K]?=some (encL (atL dom (K:Int))):=by rw[gM0,hdk];rfl
 have hdl:=hd _ (mG0 hdk);obtain⟨b,ev,hb⟩:=qrn hT (F:=fun u=>tmB x u) (g:=70) (cap:=[.pb n17]) (h:=H2) (m:=.any) (sz:=3) (by rw[hT.prim];rfl) (.inr rfl) (qft (atL dom (K:Int))) (fun u p _ hp=>same70_ev hT hp hEx hxn k17) (by simp;omega);obtain rfl:b=true:=hb.2 ⟨x,hxm,(qgb _ _).2 rfl⟩;have ev:Ev T 48 [encL (atL dom (K:Int)),.func (.func 70) [] [.pb n17]] H2 (ba (.bool true) H2):=ev;have ixd:qcq 1 (domV dom) (iv0 (K:Int))=some (.iptr (encL (atL dom (K:Int))) 0):=by rw[domV,qc2,if_pos rfl,gd];rfl
 have ld:lenOf (domV dom)=some dom.length:=by simp[domV,lenOf]
 simp(disch:=omega) only[go_sem,a13b0,f1,f2,f91,f92,f93,h1',ga,bs,hn,sb,gv,ld,hge,ixd,qfs,cb ev,hT.q];refine⟨g - 1,by omega,i+1,H2,_,by omega,low2,?_,fun k hk'=>?_,rfl,rfl⟩
 ·omega
 · rw[←hk k hk'];simp(disch:=omega) only[qac]
set_option maxRecDepth 8000 in
include hT in
theorem b1_ok(h137:T.sp 137=some qgy){t:GTy}(I:TyIn T t 0){nt:Tm→PV×Int}(V:NTv T t nt){st:Ts→Tm→PV×Int}(ST:STm T st){nv:PV→PV×Int}{r:Int}{dom:LT}{vs:IL}{cs:List (Tm×Tm)}(S:SolOk t nv r dom vs cs){us:Ts}{v:PV}(hv:RowV us v)(A:Asg t.sig dom vs us)(hg:qej (Sok st us) nt us cs){lo k4:Nat}{H:Hp}{ws:NL}(hlo:lo≤H.length)(hk4:k4<lo)(q4:H[k4]?=some (.row 3 [qai t]))(hw:∀x∈ws,lo≤x){e:PL}(e4:eget e 4=.pb k4)(e15:eget e 15=v)(e18:eget e 18=.bool true)(e118:eget e 118=.slice 6 (cs.map qag) .any)(e119:eget e 119=iv0 (cs.length:Int))(e120:eget e 120=iv0 0){Q:AExit→PL→St→Prop}
 (hQ:∀e' H' ws',Low lo H H'→(∀x∈ws',lo≤x)→Kp e e'→eget e' 18=.bool (qbn nt us cs)→Q (.exit 4) e' ⟨H',ws',[]⟩):wpC T (.loop a13b1) e ⟨H,ws,[]⟩ Q:=by
 have hus:=A.sm;have hnC:=S.nC;refine wpC.loopM (fun g e' st=> ∃(i:Nat)(H':Hp)(ws':NL),i+g=cs.length∧Low lo H H'∧(∀x∈ws',lo≤x)∧Kp e e'∧qbn nt us (cs.take i)=true∧(eget e' 18=.bool true∧eget e' 118=.slice 6 (cs.map qag) .any∧eget e' 119=iv0 (cs.length:Int)∧eget e' 120=iv0 (i:Int))∧st=⟨H',ws',[]⟩) ?_ cs.length _ _ ⟨0,H,ws,by omega,Low.refl _ _,hw,fun _ _=>rfl,rfl,⟨e18,e118,e119,e120⟩,rfl⟩;rintro g e' s0 ⟨i,H',ws',hi,low,hw',hk,hh,⟨f18,f118,f119,f120⟩,rfl⟩;have f4:=(hk 4 (by omega)).trans e4;have f15:=(hk 15 (by omega)).trans e15;have hHl:=low.len;by_cases h1:i<cs.length;rotate_left
 · have h1':¬(i:Int)< (cs.length:Int):=by omega
   rw[tL0 (by omega)]at hh;simp(disch:=omega) only[go_sem,a13b1,f119,f120,h1'];refine hQ _ _ _ low hw' (fun k hk'=>?_) ?_
   · rw[←hk k hk'];simp(disch:=omega) only[qac]
   · rw[hh];simp(disch:=omega) only[qac,f18]
 have h1':(i:Int)< (cs.length:Int):=by omega
 have hx:cs[i]?=some cs[i]:=gE0 h1;have ga:(cs.map qag)[i]?=some (qag cs[i]):=by rw[gM0,hx];rfl
 obtain⟨g1,g2,g3,g4⟩:=goodF_at hx hh hg;have hat:=holdsF_at hx hh;have hso:=S.conds _ (gX0 h1);generalize cs[i]=c at*;have hEP:=qje c;generalize qag c=P at*;obtain⟨p1,p2,p3,p4,p5,_⟩:=hEP.facts;obtain⟨o1,o2,o3⟩:=hso;obtain⟨t1,_,ty1,to1⟩:=qhl o1;obtain⟨t2,_,ty2,to2⟩:=qhl o2;rw[←to1]at ty1;rw[←to2,←o3]at ty2;have c1:=qjq A.len A.typ _ _ (qaw t1) ty1;have c2:=qjq A.len A.typ _ _ (qaw t2) ty2;have sb:=qa5 (h:=H') (ws:=ws') (ups:=[]) (z:=zq6) (sz:=6) (c:=P) p1 rfl p2 p4 ⟨_,rfl⟩ p3;have k20:=gC0 (l:=H') (a:=row 6 [P]);have low2:=low.push (o:=row 6 [P]) (by omega);have hw2:∀z∈wadd H'.length ws',lo≤z:=qae (by omega) hw';generalize hH2:H'++[row 6 [P]]=H2 at*;generalize hn:H'.length=n20 at*;have lt:loadAt true 3 (.pb k4) H2=some (qai t):=by rw[qad (low2.get hk4 q4)];rfl
 have lp:loadAt true 6 (.pb n20) H2=some P:=by rw[qad k20];exact p5
 obtain⟨z,es,rfl,hz,hE⟩:=hv;have ev:=holds71_ev hT h137 I ST (m:=.any) hz hE (by have:=hus.1;omega) hEP g1 g2 c1 c2 (hasV_of V g3) (hasV_of V g4) H2;rw[←hat]at ev;cases hb:qbn nt us (cs.take (i+1))
 · rw[hb]at ev;simp(disch:=omega) only[go_sem,a13b1,f4,f15,f18,f118,f119,f120,h1',ga,p5,hn,sb,lt,lp,cb ev,hT.q];refine hQ _ _ _ low2 ?_ (fun k hk'=>?_) ?_
   ·omega
   · rw[←hk k hk'];simp(disch:=omega) only[qac]
   · rw[qq7 _ hb];simp(disch:=omega) only[qac,qal]
 · rw[hb]at ev;simp(disch:=omega) only[go_sem,a13b1,f4,f15,f18,f118,f119,f120,h1',ga,p5,hn,sb,lt,lp,cb ev,hT.q];refine⟨g - 1,by omega,i+1,H2,_,by omega,low2,?_,fun k hk'=>?_,hb,rfl,rfl⟩
   ·omega
   · rw[←hk k hk'];simp(disch:=omega) only[qac]
structure EnvA (e:PL)(dom:LT)(vs:IL)(cs:List (Tm×Tm))(k4:Nat)(l a:PV)(n c i:Int):Prop where
 x1:eget e 1=domV dom
 x2:eget e 2=.slice 1 (vs.map encI) .any
 x3:eget e 3=.slice 6 (cs.map qag) .any
 x4:eget e 4=.pb k4
 x9:eget e 9=l
 x13:eget e 13=iv0 c
 x80:eget e 80=a
 x81:eget e 81=iv0 n
 x82:eget e 82=iv0 i
theorem EnvA.kp{e e':PL}{dom:LT}{vs:IL}{cs:List (Tm×Tm)}{k4:Nat}{l a:PV}{n c i:Int}(E:EnvA e dom vs cs k4 l a n c i)(k:Kp e e'):EnvA e' dom vs cs k4 l a n c i:=
 ⟨(k _ (by omega)).trans E.x1,(k _ (by omega)).trans E.x2,(k _ (by omega)).trans E.x3,(k _ (by omega)).trans E.x4,(k _ (by omega)).trans E.x9,(k _ (by omega)).trans E.x13,(k _ (by omega)).trans E.x80,(k _ (by omega)).trans E.x81,(k _ (by omega)).trans E.x82⟩
theorem RowV.len{us:Ts}{v:PV}(h:RowV us v):lenOf v=some us.length:=by obtain⟨z,es,rfl,_,hE⟩:=h;show some es.length=_;rw[hE.1]
def Kq(e e':PL):Prop:=∀k,k<13→eget e' k=eget e k
set_option maxRecDepth 8000 in
include hT in
theorem b2_ok(h137:T.sp 137=some qgy){t:GTy}(I:TyIn T t 0){nt:Tm→PV×Int}(V:NTv T t nt){st:Ts→Tm→PV×Int}(ST:STm T st){nv:PV→PV×Int}{r:Int}{dom:LT}(hd:∀l∈dom,l.length≤1000){vs:IL}{cs:List (Tm×Tm)}(S:SolOk t nv r dom vs cs)(hg:∀us∈qca (vs.map (atL dom)),qej (Sok st us) nt us cs){za zl:Nat}{av lv:PL}(hza:av=[]∨za=1)(hzl:lv=[]∨zl=1)(RA:qgm (qca (vs.map (atL dom))) av)(RL:qgm (solL nt dom vs cs) lv)(la:av.length≤4000){lo k4:Nat}{H:Hp}{ws:NL}(hlo:lo≤H.length)(hk4:k4<lo)(q4:H[k4]?=some (.row 3 [qai t]))(hw:∀x∈ws,lo≤x){e:PL}(E:EnvA e dom vs cs k4 (.slice zl lv .any) (.slice za av .any) av.length 0 0){Q:AExit→PL→St→Prop}
 (hQ:∀e' H' ws',Low lo H H'→(∀x∈ws',lo≤x)→Kq e e'→eget e' 13=iv0 (lv.length:Int)→Q (.exit 0) e' ⟨H',ws',[]⟩):wpC T (.loop a13b2) e ⟨H,ws,[]⟩ Q:=by
 have hal:=RA.1;have hll:=RL.1;have hasg:=fun us hu=>asg_of S (us:=us) hu;unfold solL at RL hll;generalize qca (vs.map (atL dom))=P at*;generalize hF:(fun l=>qbn nt l cs)=F at*;have hFx:∀us,qbn nt us cs=F us:=fun us=>by rw[←hF]
 have hPF:=List.length_filter_le F P;refine wpC.loopM (fun g e' s=> ∃(i:Nat)(H':Hp)(ws':NL),i+g=av.length∧Low lo H H'∧(∀x∈ws',lo≤x)∧Kq e e'∧EnvA e' dom vs cs k4 (.slice zl lv .any) (.slice za av .any) av.length ((P.take i).filter F).length i∧s=⟨H',ws',[]⟩) ?_ av.length _ _ ⟨0,H,ws,by omega,Low.refl _ _,hw,fun _ _=>rfl,by simpa using E,rfl⟩;rintro g e' s ⟨i,H',ws',hi,low,hw',hk,E',rfl⟩;obtain⟨f1,f2,f3,f4,f9,f13,f80,f81,f82⟩:=E';have hHl:=low.len;by_cases h1:i<av.length;rotate_left
 · have h1':¬(i:Int)< (av.length:Int):=by omega
   simp(disch:=omega) only[go_sem,a13b2,f81,f82,h1'];refine hQ _ _ _ low hw' (fun k hk'=>?_) ?_
   · rw[←hk k hk'];simp(disch:=omega) only[qac]
   · rw[tL0 (by omega)]at f13;simp(disch:=omega) only[qac];rw[f13,hll]
 have h1':(i:Int)< (av.length:Int):=by omega
 have ga:=qbt h1;have hx:P[i]?=some P[i]:=gE0 (by omega);have hrow:=RA.2 i _ _ hx ga;have hza1:za=1:=by grind
 subst hza1;have hmP:=mG0 hx;have hcnt:=cnt_get (F:=F) hx;have htf:=qlp (F:=F) hx;generalize P[i]=us at*;generalize av[i]=v at*;have A:=hasg us hmP;have hgd:=hg us hmP;have hlen:((us.length:Int) !=(vs.length:Int))=false:=by simp[A.len]
 have hcl:((P.take i).filter F).length≤lv.length:=by
  have e1:P.filter F=(P.take i).filter F++(P.drop i).filter F:=by rw[←List.filter_append,List.take_append_drop]
  have:=congrArg List.length e1;rw[lA0]at this;omega
 simp(disch:=omega) only[go_sem,a13b2,f2,f80,f81,f82,h1',ga,hrow.sub,hrow.len,hlen,lM0];refine b0_ok hT hd hrow A (lo:=lo) (by omega) hw' ?_ ?_ ?_ ?_ ?_ ?_
 iterate 5 (·simp only[go_sem,f1,f2])
 intro e2 H2 ws2 low2 hw2 k2;have E2:=EnvA.kp (dom:=dom) (vs:=vs) (cs:=cs) (k4:=k4) (l:=.slice zl lv .any) (a:=.slice 1 av .any) (n:=av.length) (c:=((P.take i).filter F).length) (i:=i) (by constructor<;>simp only[go_sem,f1,f2,f3,f4,f9,f13,f80,f81,f82]) k2;have g15:eget e2 15=v:=(k2 15 (by omega)).trans (by simp only[go_sem]);have kq2:Kq e e2:=fun k hk'=>by rw[←hk k hk',k2 k (by omega)];simp(disch:=omega) only[qac]
 obtain⟨g1,g2,g3,g4,g9,g13,g80,g81,g82⟩:=E2;clear k2;have hl2:=low2.len;have lowA:=low.trans low2;simp(disch:=omega) only[go_sem,g3,lM0];refine b1_ok hT h137 I V ST S hrow A hgd (lo:=lo) (k4:=k4) (by omega) hk4 (lowA.get hk4 q4) hw2 ?_ ?_ ?_ ?_ ?_ ?_ ?_
 iterate 6 (·simp only[go_sem,g4,g15])
 intro e3 H3 ws3 low3 hw3 k3 g18;have E3:=EnvA.kp (dom:=dom) (vs:=vs) (cs:=cs) (k4:=k4) (l:=.slice zl lv .any) (a:=.slice 1 av .any) (n:=av.length) (c:=((P.take i).filter F).length) (i:=i) (by constructor<;>simp only[go_sem,g1,g2,g3,g4,g9,g13,g80,g81,g82]) k3;have h15:eget e3 15=v:=(k3 15 (by omega)).trans (by simp only[go_sem,g15]);have kq3:Kq e e3:=fun k hk'=>by rw[←kq2 k hk',k3 k (by omega)];simp(disch:=omega) only[qac]
 obtain⟨d1,d2,d3,d4,d9,d13,d80,d81,d82⟩:=E3;clear k3 g1 g2 g3 g4 g9 g13 g15 g80 g81 g82 f1 f2 f3 f4 f9 f13 f80 f81 f82;rw[hFx us]at g18;have eqF:eqop .bool (.bool false) (.bool false)=some true:=rfl;have eqT:eqop .bool (.bool true) (.bool true)=some true:=rfl;have bt:(if true=true then !true else true)=false:=rfl;have lowB:=lowA.trans low3;generalize hc:((P.take i).filter F).length=c at*;cases hb:F us
 · rw[hb]at g18;rw[hb]at htf;simp only[bF0,if_false,List.append_nil]at htf;by_cases h2:c<lv.length
   · have h2':(c:Int)< (lv.length:Int):=by omega
     have gl:=qbt h2;have hy:(P.filter F)[c]?=some (P.filter F)[c]:=gE0 (by omega);have hry:=RL.2 c _ _ hy gl;have hmy:=List.mem_filter.1 (mG0 hy);have hzl1:zl=1:=by grind
     subst hzl1;generalize(P.filter F)[c]=wsx at*;generalize lv[c]=w at*;have ev:=qk2 hT hry hrow (hasg _ hmy.1).sm H3;have hne:tmBL wsx us=false:=by rw[Bool.eq_false_iff];intro h;rw[(qek _ _).1 h,hb]at hmy;cases hmy.2
     rw[hne]at ev;simp(disch:=omega) only[go_sem,d9,d13,h15,d82,g18,eqF,h2',gl,hry.sub,cb ev,hT.prim,qab];refine⟨g - 1,by omega,i+1,H3,_,by omega,lowB,?_,fun k hk'=>?_,?_,rfl⟩
     ·omega
     · rw[←kq3 k hk'];simp(disch:=omega) only[qac]
     · rw[htf,hc];constructor<;>simp only[go_sem,d1,d2,d3,d4,d9,d13,d80,d81]
   · have h2':¬(c:Int)< (lv.length:Int):=by omega
     simp(disch:=omega) only[go_sem,d9,d13,d82,g18,eqF,h2',hT.prim];refine⟨g - 1,by omega,i+1,H3,_,by omega,lowB,hw3,fun k hk'=>?_,?_,rfl⟩
     · rw[←kq3 k hk'];simp(disch:=omega) only[qac]
     · rw[htf,hc];constructor<;>simp only[go_sem,d1,d2,d3,d4,d9,d13,d80,d81]
 · rw[hb]at g18;have hy:=hcnt hb;rw[hb]at htf;simp only[if_true]at htf;have h2:c<lv.length:=by grind
   have h2':(c:Int)< (lv.length:Int):=by omega
   have gl:=qbt h2;have hry:=RL.2 c _ _ hy gl;have hzl1:zl=1:=by grind
   subst hzl1;generalize lv[c]=w at*;have ev:=qk2 hT hry hrow A.sm H3;rw[(qek _ _).2 rfl]at ev;simp(disch:=omega) only[go_sem,d9,d13,h15,d82,g18,eqT,h2',gl,hry.sub,cb ev,hT.prim,qab];refine⟨g - 1,by omega,i+1,H3,_,by omega,lowB,?_,fun k hk'=>?_,?_,rfl⟩
   ·omega
   · rw[←kq3 k hk'];simp(disch:=omega) only[qac]
   · rw[htf,lA0,hc,List.length_singleton];constructor<;>simp only[go_sem,d1,d2,d3,d4,d9,d80,d81]
set_option maxRecDepth 8000 in
include hT in
theorem b3_ok{L Qs:LT}{zl zq:Nat}{lv qv:PL}(hzl:lv=[]∨zl=1)(hzq:qv=[]∨zq=1)(RL:qgm L lv)(RQ:qgm Qs qv)(hsub:L.Sublist Qs)(hsm:∀us∈L,SmR us)(ll:lv.length≤4000)(lq:qv.length≤4000){H:Hp}{ws:NL}{ups:UL}{lo:Nat}(hw:∀x∈ws,lo≤x){e:PL}(e9:eget e 9=.slice zl lv .any)(e29:eget e 29=iv0 0)(e215:eget e 215=.slice zq qv .any)(e216:eget e 216=iv0 (qv.length:Int))(e217:eget e 217=iv0 0){Q:AExit→PL→St→Prop}
 (hQ:∀e' ws',(∀x∈ws',lo≤x)→eget e' 9=.slice zl lv .any→eget e' 29=iv0 (lv.length:Int)→Q (.exit 8) e' ⟨H,ws',ups⟩):wpC T (.loop a13b3) e ⟨H,ws,ups⟩ Q:=by
 have hll:=RL.1;have hql:=RQ.1;refine wpC.loopM (fun g e' s=> ∃(i k:Nat)(ws':NL),i+g=qv.length∧k≤lv.length∧(L.drop k).Sublist (Qs.drop i)∧(∀x∈ws',lo≤x)∧(eget e' 9=.slice zl lv .any∧eget e' 29=iv0 (k:Int)∧eget e' 215=.slice zq qv .any∧eget e' 216=iv0 (qv.length:Int)∧eget e' 217=iv0 (i:Int))∧s=⟨H,ws',ups⟩) ?_ qv.length _ _ ⟨0,0,ws,by omega,by omega,hsub,hw,⟨e9,e29,e215,e216,e217⟩,rfl⟩;clear e9 e29 e215 e216 e217;rintro g e' s ⟨i,k,ws',hi,hk,hs,hw',⟨e9,e29,e215,e216,e217⟩,rfl⟩;by_cases h1:i<qv.length;rotate_left
 · have h1':¬(i:Int)< (qv.length:Int):=by omega
   have hd:Qs.drop i=[]:=List.drop_of_length_le (by omega);rw[hd]at hs;have hd2:=List.sublist_nil.1 hs;have hkl:k=lv.length:=by have:=congrArg List.length hd2;rw[List.length_drop,List.length_nil]at this;omega
   subst hkl;simp(disch:=omega) only[go_sem,a13b3,e216,e217,h1'];exact hQ _ _ hw' (by simp(disch:=omega) only[qac,e9]) (by simp(disch:=omega) only[qac,e29])
 have h1':(i:Int)< (qv.length:Int):=by omega
 have ga:=qbt h1;have hx:Qs[i]?=some Qs[i]:=gE0 (by omega);have hrq:=RQ.2 i _ _ hx ga;have hzq1:zq=1:=by grind
 subst hzq1;have hdi:=List.drop_eq_getElem_cons (show i<Qs.length by omega);rw[hdi]at hs;generalize Qs[i]=us at*;generalize qv[i]=v at*;by_cases h2:k<lv.length;rotate_left
 · have h2':¬(k:Int)< (lv.length:Int):=by omega
   have hd:L.drop k=[]:=List.drop_of_length_le (by omega);simp(disch:=omega) only[go_sem,a13b3,e9,e29,e215,e216,e217,h1',ga,hrq.sub,h2',hT.prim];exact⟨g - 1,by omega,i+1,k,_,by omega,hk,by rw[hd];exact List.nil_sublist _,hw',⟨rfl,rfl⟩,rfl⟩
 have h2':(k:Int)< (lv.length:Int):=by omega
 have gl:=qbt h2;have hy:L[k]?=some L[k]:=gE0 (by omega);have hrl:=RL.2 k _ _ hy gl;have hmy:=hsm _ (mG0 hy);have hzl1:zl=1:=by grind
 subst hzl1;have hdk:=List.drop_eq_getElem_cons (show k<L.length by omega);rw[hdk]at hs;generalize L[k]=wsx at*;generalize lv[k]=w at*;have ev:=qk2 hT hrl hrq hmy H;cases hb:tmBL wsx us
 · rw[hb]at ev;have hne:wsx≠us:=fun h=>by rw[(qek _ _).2 h]at hb;cases hb
   simp(disch:=omega) only[go_sem,a13b3,e9,e29,e215,e216,e217,h1',ga,hrq.sub,h2',gl,hrl.sub,cb ev,hT.prim,qab];refine⟨g - 1,by omega,i+1,k,_,by omega,hk,by rw[hdk];exact sub_miss hne hs,?_,⟨rfl,rfl⟩,rfl⟩
   first
    |exact hw'
    |(intro x hx;repeat' first|exact hw' x hx|(cases hx;done)|(rcases qat hx with hx|hx)|(rcases qa3 hx with hx|hx))
 · rw[hb]at ev;have heq:=(qek _ _).1 hb;subst heq;simp(disch:=omega) only[go_sem,a13b3,e9,e29,e215,e216,e217,h1',ga,hrq.sub,h2',gl,hrl.sub,cb ev,hT.prim,qab];refine⟨g - 1,by omega,i+1,k+1,_,by omega,by omega,sub_hit hs,?_,⟨rfl,rfl⟩,rfl⟩
   first
    |exact hw'
    |(intro x hx;repeat' first|exact hw' x hx|(cases hx;done)|(rcases qat hx with hx|hx)|(rcases qa3 hx with hx|hx))
theorem qsj{cs:List (Tm×Tm)}{n:Nat}(h:cs.length=n+1):qgc 6 (.slice 6 (cs.map qag) .any) none (some (iv0 (n:Int))) none=some (.slice 6 ((cs.take n).map qag) .any):=by
 have h0:(0:Int)≤(n:Int)∧(n:Int)≤((cs.map qag).length:Int):=by simp;omega
 have hne:¬(n=(cs.map qag).length):=by simp;omega
 simp only[qgc,true_or,if_true,qd3,h0,and_self,Int.toNat_natCast,hne,if_false,List.drop_zero,Nat.sub_zero,List.map_take]
set_option maxRecDepth 8000 in
include hT in
theorem fewer13_ok(hI:T.iter 182=some itG){t:GTy}{r:Int}(I:TyIn T t r){nt:Tm→PV×Int}(V:NTv T t nt){st:Ts→Tm→PV×Int}(ST:STm T st){nv:PV→PV×Int}(NV:NVal T t nv){dom:LT}(hd:dom.length<1000){vs:IL}{cs:List (Tm×Tm)}(S:SolOk t nv r dom vs cs)(hcs:cs≠[])(hov:ovN dom vs≤200000)(hpl:(qca (vs.map (atL dom))).length≤4000)(hg:∀us∈qca (vs.map (atL dom)),qej (Sok st us) nt us cs){zl:Nat}{lv:PL}(hzl:lv=[]∨zl=1)(RL:qgm (solL nt dom vs cs) lv)(ll:lv.length≤4000)
 {h H:Hp}{ws:NL}{ups:UL}(low:Low h.length h H)(hw:∀x∈ws,h.length≤x)(hu:∀x∈ups,h.length≤x.1)(k4:H[h.length]?=some (.row 3 [qai t]))
 {e:PL}(e1:eget e 1=domV dom)(e2:eget e 2=.slice 1 (vs.map encI) .any)(e3:eget e 3=.slice 6 (cs.map qag) .any)(e4:eget e 4=.pb h.length)(e9:eget e 9=.slice zl lv .any):
 wpC T a13f e ⟨H,ws,ups⟩ (fin [.t 8] 0 h.length fun p=>p=(ba (.bool true) h)):=by
 unfold a13f
 obtain⟨n,hn⟩:∃n,cs.length=n+1:=⟨cs.length - 1,by
  have:0<cs.length:=List.length_pos_iff.2 hcs;omega⟩
 have hnC:=S.nC;have hnV:=S.nV;have lt:loadAt true 3 (.pb h.length) H=some (qai t):=by rw[qad k4];rfl
 have hn1:(cs.length:Int) - 1=(n:Int):=by omega
 have sf:=qsj hn;obtain⟨⟨xz,xs,xe⟩,ev,hx0,_,hx3⟩:=qiz hT hI I V ST NV hd (vs:=vs) (zv:=1) (mv:=.any) (.inr rfl) (by omega) (cs:=cs.take n) (zc:=6) (ps:=(cs.take n).map qag) (mc:=.any) (.inr rfl) (qjf _) (by rw[lT0];omega) H;have hxe:=hx3 (S.sub (by rw[lT0];omega) fun c hc=>List.mem_of_mem_take hc) hov hpl fun l hl=>qn9 n (hg l hl);simp only[SolX.v]at ev hx0 hxe;subst hxe;obtain⟨_,hxz,RX,lx,_,_⟩:=hx0 rfl
 have hsub:(solL nt dom vs cs).Sublist (solL nt dom vs (cs.take n)):=qob (fun l hl=>by
  cases hb:qbn nt l (cs.take n)
  ·rw[qq7 n hb]at hl;cases hl
  ·rfl) _
 have hsm:∀us∈solL nt dom vs cs,SmR us:=fun us hus=>(asg_of S (List.mem_filter.1 hus).1).sm;have hb0:((0:Int) !=0)=false:=rfl;simp(disch:=first|omega|decide|simp only[go_sem]) only[go_sem,e1,e2,e3,e4,lt,hn1,sf,cb ev,hb0,hT.prim,qab,lM0];refine b3_ok hT hzl hxz RL RX hsub hsm ll lx (lo:=h.length) ?_ ?_ ?_ ?_ ?_ ?_ ?_
 ·omega
 iterate 5 (·simp only[go_sem,e9])
 intro e' ws' hw' f9 f29;have hbe:((lv.length:Int)==(lv.length:Int))=true:=by simp
 have td:=qa9 (v:=.bool true) (ups:=ups) (ws:=ws') rfl low hw' hu;simp(disch:=omega) only[go_sem,f9,f29,hbe,fin,td]
set_option maxRecDepth 8000 in
include hT in
theorem back13_ok(hI:T.iter 182=some itG){t:GTy}{r:Int}(I:TyIn T t r){nt:Tm→PV×Int}(V:NTv T t nt){st:Ts→Tm→PV×Int}(ST:STm T st){nv:PV→PV×Int}(NV:NVal T t nv){dom:LT}(hd:dom.length<1000){vs:IL}{cs:List (Tm×Tm)}(S:SolOk t nv r dom vs cs)(hov:ovN dom vs≤200000)(hpl:(qca (vs.map (atL dom))).length≤4000)(hg:∀us∈qca (vs.map (atL dom)),qej (Sok st us) nt us cs){zl zq:Nat}{lv qs:PL}{mq:SM}(hzl:lv=[]∨zl=1)(RL:qgm (solL nt dom vs cs) lv)(ll:lv.length≤4000)(hzq:qs=[]∨zq=6)(hQ:qmx (cs.reverse.map swp) qs)
 {h H:Hp}{ws:NL}{ups:UL}{n24:Nat}(low:Low h.length h H)(hw:∀x∈ws,h.length≤x)(hu:∀x∈ups,h.length≤x.1)(k4:H[h.length]?=some (.row 3 [qai t]))(k24:H[n24]?=some (.row 1 [.slice zq qs mq]))
 {e:PL}(e1:eget e 1=domV dom)(e2:eget e 2=.slice 1 (vs.map encI) .any)(e3:eget e 3=.slice 6 (cs.map qag) .any)(e4:eget e 4=.pb h.length)(e9:eget e 9=.slice zl lv .any)(e24:eget e 24=.pb n24):
 wpC T a13m e ⟨H,ws,ups⟩ (fin [.t 8] 0 h.length fun p=>p=(ba (.bool true) h)):=by
 unfold a13m;have hnC:=S.nC;have hnV:=S.nV;have lt:loadAt true 3 (.pb h.length) H=some (qai t):=by rw[qad k4];rfl
 have l24:loadAt false 1 (.pb n24) H=some (.slice zq qs mq):=by rw[qad k24];rfl
 obtain⟨⟨xz,xs,xe⟩,ev,hx0,_,_⟩:=qiz hT hI I V ST NV hd (vs:=vs) (zv:=1) (mv:=.any) (.inr rfl) (by omega) (mc:=mq) hzq hQ (by simp;omega) H;simp only[SolX.v]at ev hx0;have hsm:∀us∈solL nt dom vs cs,SmR us:=fun us hus=>(asg_of S (List.mem_filter.1 hus).1).sm;have hsl:solL nt dom vs (cs.reverse.map swp)=solL nt dom vs cs:=List.filter_congr fun l _=>by rw[qn4,qn5]
 have hll:=RL.1;have td:=fun ws hw=>qa9 (v:=.bool true) (ups:=ups) (ws:=ws) rfl low hw hu
 have tail:∀e' ws',(∀x∈ws',h.length≤x)→eget e' 1=domV dom→eget e' 2=.slice 1 (vs.map encI) .any→eget e' 3=.slice 6 (cs.map qag) .any→eget e' 4=.pb h.length→eget e' 9=.slice zl lv .any→cs≠[]→wpC T a13f e' ⟨H,ws',ups⟩ (fin [.t 8] 0 h.length fun p=>p=(ba (.bool true) h)):=
  fun e' ws' hw' f1 f2 f3 f4 f9 hne=>fewer13_ok hT hI I V ST NV hd S hne hov hpl hg hzl RL ll low hw' hu k4 f1 f2 f3 f4 f9
 have hw0:∀x∈wall [] ws,h.length≤x:=fun x hx=>by
  rcases qat hx with hx|hx
  ·cases hx
  ·exact hw x hx
 by_cases hxe:xe=0
 · subst hxe;obtain⟨_,hxz,RX,lx,_,_⟩:=hx0 rfl;rw[hsl]at RX;have evs:=sameDom_ev hT hzl hxz RL RX hsm (by omega) H;have hb0:((0:Int)==0)=true:=rfl;by_cases hc:cs.length=0
   · have hb:((cs.length:Int)==0)=true:=by simp[hc]
     simp(disch:=omega) only[go_sem,e1,e2,e3,e4,e9,e24,lt,l24,cb ev,hb0,cb evs,hb,hT.prim,qab,lM0,fin,td ws hw]
   · have hb:((cs.length:Int)==0)=false:=by simpa using hc
     simp(disch:=omega) only[go_sem,e1,e2,e3,e4,e9,e24,lt,l24,cb ev,hb0,cb evs,hb,hT.prim,qab,lM0];refine tail _ _ ?_ ?_ ?_ ?_ ?_ ?_ (fun h=>hc (by rw[h];rfl))
     ·omega
     all_goals simp only[go_sem,e1,e2,e3,e4,e9]
 · have hb0:(xe==0)=false:=by simpa using hxe
   by_cases hc:cs.length=0
   · have hb:((cs.length:Int)==0)=true:=by simp[hc]
     simp(disch:=omega) only[go_sem,e1,e2,e3,e4,e24,lt,l24,cb ev,hb0,hb,hT.prim,qab,lM0,fin,td ws hw]
   · have hb:((cs.length:Int)==0)=false:=by simpa using hc
     simp(disch:=omega) only[go_sem,e1,e2,e3,e4,e24,lt,l24,cb ev,hb0,hb,hT.prim,qab,lM0];refine tail _ _ ?_ ?_ ?_ ?_ ?_ ?_ (fun h=>hc (by rw[h];rfl))
     ·omega
     all_goals simp only[go_sem,e1,e2,e3,e4,e9]
theorem bkE_get{ps:PL}:∀{n j:Nat}{ys:PL},(bkE ps n)[j]?=some ys→j<n∧ys=[iv0 ((n - 1 - j:Nat):Int),ps.getD (n - 1 - j) .undef]
 |0,j,ys,h=>by simp[bkE]at h
 |n+1,0,ys,h=>by
   simp only[bkE,List.getElem?_cons_zero,Option.some.injEq]at h;exact⟨by omega,by rw[←h];rfl⟩
 |n+1,j+1,ys,h=>by obtain⟨h1,h2⟩:=bkE_get (n:=n) (j:=j) (by simpa[bkE]using h);refine⟨by omega,?_⟩;rw[h2,show n+1 - 1 - (j+1)=n - 1 - j by omega]
theorem bkE_len{ps:PL}:∀n:Nat,(bkE ps n).length=n
 |0=>rfl
 |n+1=>by simp only[bkE,List.length_cons,bkE_len n]
set_option maxRecDepth 8000 in
include hT in
theorem pairs13_ok(hI:T.iter 182=some itG)(hJ:T.iter 153=some itB){t:GTy}{r:Int}(I:TyIn T t r){nt:Tm→PV×Int}(V:NTv T t nt){st:Ts→Tm→PV×Int}(ST:STm T st){nv:PV→PV×Int}(NV:NVal T t nv){dom:LT}(hd:dom.length<1000){vs:IL}{cs:List (Tm×Tm)}(S:SolOk t nv r dom vs cs)(hov:ovN dom vs≤200000)(hpl:(qca (vs.map (atL dom))).length≤4000)(hg:∀us∈qca (vs.map (atL dom)),qej (Sok st us) nt us cs){zl:Nat}{lv:PL}(hzl:lv=[]∨zl=1)(RL:qgm (solL nt dom vs cs) lv)(ll:lv.length≤4000)
 {h H:Hp}{ws:NL}(low:Low h.length h H)(hw:∀x∈ws,h.length≤x)(k4:H[h.length]?=some (.row 3 [qai t]))
 {e:PL}(e1:eget e 1=domV dom)(e2:eget e 2=.slice 1 (vs.map encI) .any)(e3:eget e 3=.slice 6 (cs.map qag) .any)(e4:eget e 4=.pb h.length)(e9:eget e 9=.slice zl lv .any):
 wpC T a13k e ⟨H,ws,[]⟩ (fin [.t 8] 0 h.length fun p=>p=(ba (.bool true) h)):=by
 unfold a13k;have hnC:=S.nC;have hHl:=low.len;have hlt:=(gI0.1 k4).1;have k24:=gC0 (l:=H) (a:=row 1 [.sn]);have low6:Low H.length H (H++[row 1 [.sn]]):=(Low.refl _ _).push (nR0 _);have hl6:(H++[row 1 [.sn]]).length=H.length+1:=by simp
 generalize hH6:H++[row 1 [.sn]]=H6 at*;generalize hn24:H.length=n24 at*;have hpw:=encPL_pw (qjf cs);have evb:=back72_ev hT (z:=6) (m:=.any) hpw H6;have BO:BkOk 6 (cs.map qag) .any:=⟨rfl,.inr rfl,hpw,fun p hp=>by obtain⟨c,_,rfl⟩:=mM0.1 hp;exact(qje c).facts.2.2.2.2.1,by simp;omega⟩;simp(disch:=omega) only[go_sem,hn24,hH6,e3,cb evb,hT.q];refine rangeI (gf:=153) (captured:=[.iptr (.slice 6 (cs.map qag) .any) 0]) (it:=itB) (by simp only[go_sem]) hJ (itB_eq BO) (fun j s=> ∃(H':Hp)(ws':NL)(ups:UL)(v:PV)(qs:PL),s=⟨H',ws',ups⟩∧Low n24 H6 H'∧H'[n24]?=some (.row 1 [v])∧AppW H' v qs 6 (n24+1)∧qmx ((cs.reverse.take j).map swp) qs∧(∀x∈ws',h.length≤x)∧∀x∈ups,h.length≤x.1) ⟨H6,_,_,_,[],rfl,Low.refl _ _,k24,.inl ⟨rfl,0,.nil,rfl,rfl⟩,⟨rfl,fun i c p h=>by simp at h⟩,hw,by simp⟩ ?_ ?_;rotate_left
 · rintro s ⟨H',ws',ups,v,qs,rfl,low',hv,hA,hQ,hw',hu'⟩;rw[bkE_len,lM0,tL0 (by simp)]at hQ;obtain⟨z',m',rfl,hz'⟩:=hA.form;have lowA:=low6.trans low';refine back13_ok hT hI I V ST NV hd S hov hpl hg hzl RL ll hz' hQ (low.comp lowA (by omega)) hw' hu' (lowA.get (by omega) k4) hv ?_ ?_ ?_ ?_ ?_ ?_<;>simp only[go_sem,e1,e2,e3,e4,e9]
 · rintro j ys s K hys ⟨H',ws',ups,v,qs,rfl,low',hv,hA,hQ,hw',hu'⟩ hK;obtain⟨hj,rfl⟩:=bkE_get hys;rw[lM0]at hj;have hpt:∀(e:PL)(v w:PV),puts e [172,173] [v,w]=eput (eput e 172 v) 173 w:=fun e v w=>rfl;refine⟨rfl,?_⟩;have hgc:cs[cs.length - 1 - j]?=some cs[cs.length - 1 - j]:=gE0 (by omega);have hgp:(cs.map qag).getD ((cs.map qag).length - 1 - j) .undef=qag cs[cs.length - 1 - j]:=by grind
   have htk:cs.reverse.take (j+1)=cs.reverse.take j++[cs[cs.length - 1 - j]]:=by rw[tS0 (by simpa using hj),List.getElem_reverse]
   rw[hgp];generalize cs[cs.length - 1 - j]=c at*;have hEP:=qje c;generalize qag c=P at*;obtain⟨p1,p2,p3,p4,p5,_⟩:=hEP.facts;obtain⟨ka,na,za,ea,kb,nb,zb,eb,hp,hEa,hEb⟩:=hEP;have hHl':=low'.len;obtain⟨z',m',rfl,_⟩:=hA.form;have sb:=qa5 (h:=H') (ws:=ws') (ups:=ups) (z:=zq6) (sz:=6) (c:=P) p1 rfl p2 p4 ⟨_,rfl⟩ p3;have k26:=gC0 (l:=H') (a:=row 6 [P]);have hv8:=qah (o2:=row 6 [P]) hv;have low8:Low n24 H6 (H'++[row 6 [P]]):=low'.push (by omega);have hw8:∀x∈wadd H'.length ws',h.length≤x:=qae (by omega) hw';have A8:=hA.push (o:=row 6 [P]);have hl8:(H'++[row 6 [P]]).length=H'.length+1:=by simp
   generalize hH8:H'++[row 6 [P]]=H8 at*;generalize hn26:H'.length=n26 at*;obtain⟨A',hA'⟩:∃A,A=PV.agg [iv0 ka,iv0 na,.slice za ea .any]:=⟨_,rfl⟩;obtain⟨B',hB'⟩:∃B,B=PV.agg [iv0 kb,iv0 nb,.slice zb eb .any]:=⟨_,rfl⟩;have lA:loadAt true 3 (.pb n26) H8=some A':=by rw[qad k26,hp,hA'];rfl
   have lB:loadAt true 3 (.ptr n26 0 3 1) H8=some B':=by rw[qad k26,hp,hB'];rfl
   have l24:loadAt false 1 (.pb n24) H8=some (.slice z' qs m'):=by rw[qad hv8];rfl
   obtain⟨X,hX,xs,hXs,fb⟩:∃X,EncP (swp c) X∧∃xs,X=.agg xs∧qdt [PV.int .i64 0,iv0 0,.sn,iv0 0,iv0 0,.sn] [(0,3,B'),(3,3,A')]=some xs:=
    ⟨_,⟨kb,nb,zb,eb,ka,na,za,ea,rfl,hEb,hEa⟩,_,rfl,by rw[hA',hB'];rfl⟩
   obtain⟨X1,X2,_,_,_,X6⟩:=hX.facts;have fe6:qda 6 (List.replicate 1 zq6) [(0,PV.agg xs)]=some [.agg xs]:=by rw[←hXs];simp[qda,X1,X6]
   rw[hXs]at hX X2;have hQl:=hQ.1;rw[lM0,lT0]at hQl;obtain⟨H9,fw,v9,ap,A9,low9,hfw⟩:=qrw (bytes:=80) (xs:=[.agg xs]) (zx:=6) (mx:=.lit) A8 (.inr rfl) (by simp only[List.all_cons,List.all_nil,X2,Bool.and_self]) (by omega) (by simp;omega) (by decide) (by omega);have hv9:=low9.get (by omega) hv8;obtain⟨z9,m9,rfl,_⟩:=A9.form;obtain⟨u10,s10,hu10⟩:=qou (v:=.slice z9 (qs++[.agg xs]) m9) (ups:=ups) (n:=1) (A:=0) hv9 rfl rfl (fun cs h=>by cases h) ⟨rfl,rfl⟩;simp only[sC0]at s10;have k10:=qak (o':=row 1 [.slice z9 (qs++[.agg xs]) m9]) hv9;have A10:=A9.set (r':=[.slice z9 (qs++[.agg xs]) m9]) hv9;have low10:Low n24 H6 (H9.set n24 (.row 1 [.slice z9 (qs++[.agg xs]) m9])):=(low8.comp low9 (by omega)).trans (.set (nR0 _));generalize hH10:H9.set n24 (.row 1 [.slice z9 (qs++[.agg xs]) m9])=H10 at*;simp(disch:=omega) only[hpt,go_sem,hn26,sb,l24,lA,lB,fb,fe6,ap,s10,ll0];refine hK _ ⟨H10,_,u10,_,_,rfl,low10,k10,A10,by rw[htk,List.map_append];exact hQ.snoc hX,fun x hx=>?_,fun x hx=>?_⟩
   ·repeat' first|exact hw8 x hx|exact hfw (b:=h.length) (by omega) _ hw8 x hx|(cases hx;done)|(rcases qat hx with hx|hx)|(rcases qa3 hx with hx|hx)|omega
   ·grind
set_option maxRecDepth 8000 in
include hT in
theorem rest13_ok(h137:T.sp 137=some qgy)(hI:T.iter 182=some itG)(hJ:T.iter 153=some itB){t:GTy}{r:Int}(I:TyIn T t r){nt:Tm→PV×Int}(V:NTv T t nt){st:Ts→Tm→PV×Int}(ST:STm T st){nv:PV→PV×Int}(NV:NVal T t nv){dom:LT}(hd:dom.length<1000)(hdl:∀l∈dom,l.length≤1000){vs:IL}{cs:List (Tm×Tm)}(S:SolOk t nv r dom vs cs)(hov:ovN dom vs≤200000)(hg:∀us∈qca (vs.map (atL dom)),qej (Sok st us) nt us cs){za zl:Nat}{av lv:PL}(hza:av=[]∨za=1)(hzl:lv=[]∨zl=1)(RA:qgm (qca (vs.map (atL dom))) av)(RL:qgm (solL nt dom vs cs) lv)(la:av.length≤4000)(ll:lv.length≤4000)
 {h H:Hp}{ws:NL}(low:Low h.length h H)(hw:∀x∈ws,h.length≤x)(hlH:h.length<H.length)(k4:H[h.length]?=some (.row 3 [qai t]))(hws:ws=[])
 {e:PL}(e1:eget e 1=domV dom)(e2:eget e 2=.slice 1 (vs.map encI) .any)(e3:eget e 3=.slice 6 (cs.map qag) .any)(e4:eget e 4=.pb h.length)(e9:eget e 9=.slice zl lv .any)(e11:eget e 11=.slice za av .any):
 wpC T a13r e ⟨H,ws,[]⟩ (fin [.t 8] 0 h.length fun p=>p=(ba (.bool true) h)):=by
 unfold a13r;subst hws;have hr0:=S.r0;subst hr0;have hal:=RA.1;have lena:lenOf (.slice za av .any)=some av.length:=rfl;simp(disch:=omega) only[go_sem,e11,lena];refine b2_ok hT h137 I V ST hdl S hg hza hzl RA RL la (lo:=h.length+1) (k4:=h.length) (by omega) (by omega) k4 (by simp) ?_ ?_
 ·constructor<;>simp only[go_sem,e1,e2,e3,e4,e9,e11]
 intro e' H' ws' low' hw' hk f13;have f1:eget e' 1=domV dom:=(hk 1 (by omega)).trans (by simp only[go_sem,e1]);have f2:eget e' 2=.slice 1 (vs.map encI) .any:=(hk 2 (by omega)).trans (by simp only[go_sem,e2]);have f3:eget e' 3=.slice 6 (cs.map qag) .any:=(hk 3 (by omega)).trans (by simp only[go_sem,e3]);have f4:eget e' 4=.pb h.length:=(hk 4 (by omega)).trans (by simp only[go_sem,e4]);have f9:eget e' 9=.slice zl lv .any:=(hk 9 (by omega)).trans (by simp only[go_sem,e9]);have hne:((lv.length:Int) !=(lv.length:Int))=false:=by simp
 simp(disch:=omega) only[go_sem,f9,f13,hne];refine pairs13_ok hT hI hJ I V ST NV hd S hov (by omega) hg hzl RL ll (low.comp low' (by omega)) (fun x hx=>by have:=hw' x hx;omega) (low'.get (by omega) k4) ?_ ?_ ?_ ?_ ?_<;>simp only[go_sem,f1,f2,f3,f4,f9]
set_option maxRecDepth 20000 in
include hT in
theorem qow(h137:T.sp 137=some qgy)(hI:T.iter 182=some itG)(hJ:T.iter 153=some itB)(E15:∀h,Ev T 15 [] h (ba (.bool true) h)){st:Ts→Tm→PV×Int}(ST:STm T st){t:GTy}(ETy:LittleP t→∃r,TyIn T t r∧∃nt,NTv T t nt)(dom:LT){vs:IL}{cs:List (Tm×Tm)}(h:Hp):
 Ev T 13 [qai t,domV dom,.slice 1 (vs.map encI) .any,.slice 6 (cs.map qag) .any] h (ba (.bool true) h):=by
 refine Ev.walk (mode:=0) (hT.sp _ (by decide)) ((hT.fn _).trans fn13) (show T.mode 13=0 from hT.mode 13) rfl ?_;have k1:=gC0 (l:=h) (a:=row 3 [qai t]);have low1:Low h.length h (h++[row 3 [qai t]]):=(Low.refl _ _).push (nR0 _);have hl1:(h++[row 3 [qai t]]).length=h.length+1:=by simp
 generalize hH1:h++[row 3 [qai t]]=H1 at*;have lt:loadAt true 3 (.pb h.length) H1=some (qai t):=by rw[qad k1];rfl
 have td:tidy 0 h.length (.val (.bool true)) ⟨H1,[],[]⟩=(ba (.bool true) h):=qan rfl rfl low1 (by simp);have e15:=cb (E15 H1);have lcs:lenOf (.slice 6 (cs.map qag) .any)=some cs.length:=by simp[lenOf]
 obtain⟨b1,ev1,hb1⟩:=little_ev hT t H1;cases b1
 ·simp(disch:=omega) only[go_sem,hH1,qbx,qby,e15,lt,cb ev1,Bool.not_false,Bool.not_true,hT.prim,qab,td]
 have hLit:=hb1 rfl;obtain⟨r,I,nt,V⟩:=ETy hLit;obtain⟨b2,ev2,hb2⟩:=plain_ev hT dom H1;have ev2:Ev T 24 [domV dom] H1 _:=ev2;cases b2
 ·simp(disch:=omega) only[go_sem,hH1,qbx,qby,e15,lt,cb ev1,cb ev2,Bool.not_false,Bool.not_true,hT.prim,qab,td]
 obtain⟨hd,hpl⟩:=hb2 rfl;have hdl:∀l∈dom,l.length≤1000:=fun l hl=>by have:=(hpl l hl).1;omega
 by_cases h8:(8:Int)< (cs.length:Int)
 ·simp(disch:=omega) only[go_sem,hH1,qbx,qby,e15,lt,cb ev1,cb ev2,lcs,h8,Bool.not_true,hT.prim,qab,td]
 obtain⟨b4,ev4,_⟩:=qs7 hT (zc:=6) (mc:=.any) (.inr rfl) (qjf cs) (by omega) H1;cases b4
 ·simp(disch:=omega) only[go_sem,hH1,qbx,qby,e15,lt,cb ev1,cb ev2,lcs,h8,cb ev4,Bool.not_false,Bool.not_true,hT.prim,qab,td]
 obtain⟨b6,ev6,hb6⟩:=lightZ_ev hT (dom:=dom) hdl (lists:=[vs]) (f:=fun _=>1) (fun _ _=>.inr rfl) (z:=1) (m:=.lit) (.inr rfl) (by simp) H1;have ev6:Ev T 38 [domV dom,.slice 1 [.slice 1 (vs.map encI) .any] .lit] H1 _:=ev6;have fe6:qda 1 (List.replicate 1 .sn) [(0,PV.slice 1 (vs.map encI) .any)]=some [.slice 1 (vs.map encI) .any]:=rfl;cases b6
 ·simp(disch:=omega) only[go_sem,hH1,qbx,qby,e15,lt,cb ev1,cb ev2,lcs,h8,cb ev4,fe6,cb ev6,Bool.not_false,Bool.not_true,hT.prim,qab,td]
 have hvl:=hb6 rfl vs (by simp);obtain⟨nv,NV,_⟩:=V.N.val;obtain⟨⟨lz,lv,le⟩,ev7,hl,_,_⟩:=qiz hT hI I V ST NV (dom:=dom) (by omega) (vs:=vs) (zv:=1) (mv:=.any) (.inr rfl) (by omega) (cs:=cs) (zc:=6) (mc:=.any) (.inr rfl) (qjf cs) (by omega) H1;obtain⟨⟨az,av,ae⟩,ev8,ha,_,_⟩:=qiz hT hI I V ST NV (dom:=dom) (by omega) (vs:=vs) (zv:=1) (mv:=.any) (.inr rfl) (by omega) (cs:=[]) (zc:=0) (ps:=[]) (mc:=.nil) (.inl rfl) ⟨rfl,fun i c p h=>by simp at h⟩ (by simp) H1;simp only[SolX.v]at ev7 ev8 hl ha;have hb0:((0:Int) !=0)=false:=rfl;by_cases hle:le=0;rotate_left
 · have hab:(le !=0)=true:=by simpa using hle
   simp(disch:=omega) only[go_sem,hH1,qbx,qby,e15,lt,cb ev1,cb ev2,lcs,h8,cb ev4,fe6,cb ev6,cb ev7,cb ev8,hab,Bool.not_true,hT.prim,qab,td]
 subst hle;by_cases hae:ae=0;rotate_left
 · have hab:(ae !=0)=true:=by simpa using hae
   simp(disch:=omega) only[go_sem,hH1,qbx,qby,e15,lt,cb ev1,cb ev2,lcs,h8,cb ev4,fe6,cb ev6,cb ev7,cb ev8,hb0,hab,Bool.not_true,hT.prim,qab,td]
 subst hae;obtain⟨S,hlz,RL,ll,hg,hov⟩:=hl rfl;obtain⟨_,haz,RA,la,_,_⟩:=ha rfl;have hsl:solL nt dom vs []=qca (vs.map (atL dom)):=by unfold solL;exact List.filter_eq_self.2 fun _ _=>rfl
 rw[hsl]at RA;simp(disch:=omega) only[go_sem,hH1,qbx,qby,e15,lt,cb ev1,cb ev2,lcs,h8,cb ev4,fe6,cb ev6,cb ev7,cb ev8,hb0,Bool.not_true,hT.q];refine rest13_ok hT h137 hI hJ I V ST NV (by omega) hdl S hov hg haz hlz RA RL la ll low1 (by simp) (by omega) k1 rfl ?_ ?_ ?_ ?_ ?_ ?_<;>simp only[go_sem]
end Go.Proofs.Tryz
