/- Texts of the proof, one behind the other: ValQO, ValQP, ValQR, ValQS, ValQT, ValQL, ValQM, ValQN, ValQU, ValN13, ValN14, ValQV. -/
import Derived.Test.YtekepgfmgeophaaGreatPartAN
import Derived.Test.YtekepgfmgeophaaGreatPartAL
set_option linter.unusedVariables false
set_option linter.unusedSimpArgs false
namespace Go.Proofs.Tryz
open Go Go.AE
variable {T:Tbl}(hT:Std T){s:GSig}
theorem st_mch{H:Hp}{ws:List Nat}{ups:List (Nat×Nat)}{km ks:Nat}{c v:Int}(hk:H[km]?=some (mchO ks c)):
 storeAt 1 (.ptr km 0 1 1) (.int .i64 v) ⟨H,ws,ups⟩=some ⟨H.set km (mchO ks v),wadd km ws,ups⟩:=by
 unfold mchO at hk⊢;have hu:upd (.agg [.ptr ks 0 0 1,.int .i64 c,.bool false]) 1 (.int .i64 v)=some (.agg [.ptr ks 0 0 1,.int .i64 v,.bool false]):=rfl;simp only[storeAt,hk,List.length_cons,List.length_nil,PV.cells,List.all_cons,List.all_nil,PV.isCell,Bool.and_self,and_self,if_true,List.getElem?_cons_zero,hu,Option.map,List.set_cons_zero,PV.top,wrote_none]
theorem AppL.set'{H:Hp}{v:PV}{es:List PV}{lo k:Nat}{o o':AE.Obj}(A:AppL H v es lo)(hk:H[k]?=some o)(ho:o.isTok=false):AppL (H.set k o') v es lo:=by
 rcases A with h|⟨kt,h1,h2,h3⟩
 ·exact .inl h
 · refine .inr ⟨kt,h1,get_set_ne h2 ?_,h3⟩;rintro rfl;rw[hk]at h2;cases h2;cases ho
theorem AppL.form{H:Hp}{v:PV}{es:List PV}{lo:Nat}(A:AppL H v es lo):∃z m,v=.slice z es m∧(es=[]∨z=3):=by
 rcases A with⟨rfl,rfl⟩|⟨kt,rfl,_,_⟩
 ·exact⟨_,_,rfl,.inl rfl⟩
 ·exact⟨_,_,rfl,.inr rfl⟩
theorem append_E'{H:Hp}{v p:PV}{es:List PV}{lo:Nat}(A:AppL H v es lo)(hp:p.cells.all PV.isCell=true)(hl:es.length<100000)(hlo:lo≤H.length):
 ∃(H':Hp)(fw:List Nat→List Nat)(kt:Nat),(∀ws ups,appendop 3 40 v (.slice 3 [p] .lit) ⟨H,ws,ups⟩=some (.slice 3 (es++[p]) (.tok kt),⟨H',fw ws,ups⟩))∧AppL H' (.slice 3 (es++[p]) (.tok kt)) (es++[p]) lo∧(∀(j:Nat)(o:AE.Obj),o.isTok=false→H[j]?=some o→H'[j]?=some o)∧Low lo H H'∧∀ws,∀x∈fw ws,x∈ws∨lo≤x:=by
 have hroom:(es.length+1) *40≤room∧es.length+1≤room:=by
  have:10000000≤room:=by decide
  constructor<;>omega
 rcases A with⟨rfl,rfl⟩|⟨kt,rfl,h2,h3⟩
 · simp at hroom;refine⟨H++[.tok 3 1],fun ws=>ws,H.length,fun ws ups=>?_,.inr ⟨H.length,rfl,by simp,hlo⟩,fun j o _ hj=>keepL hj,(Low.refl _ _).push hlo,fun ws x hx=>.inl hx⟩;simp[appendop,elems,hp,hroom,alloc]
 · refine⟨H.set kt (.tok 3 (es.length+1)),wadd kt,kt,fun ws ups=>?_,.inr ⟨kt,rfl,by rw[get_set h2];simp,h3⟩,fun j o ho hj=>get_set_ne hj ?_,.set h3,fun ws x hx=>?_⟩
   ·simp[appendop,elems,hp,hroom,h2,wrote_none]
   · rintro rfl;rw[h2]at hj;cases hj;cases ho
   · rcases mem_wadd hx with h|h
     ·rw[h];exact .inr h3
     ·exact .inl h
theorem EncL.snocX{us:List Tm}{qs:List PV}{u:Tm}{q:PV}(h:EncL us qs)(hq:Enc u q):EncL (us++[u]) (qs++[q]):=by
 have:=EncL.snocT (l:=us++[u]) (i:=us.length) (es:=qs) (x:=u) (q:=q) (by simpa using h) (by simp) hq
 rwa [List.take_of_length_le (by simp)]at this
theorem rowW_pure{L:List PV}(h:∀y∈L,RowW y):pures L=true∧weaks L=L:=by
 induction L with
 |nil=>exact⟨rfl,rfl⟩
 |cons y L ih=>
   obtain⟨h1,h2⟩:=ih fun z hz=>h z (by simp[hz])
   have h3:y.pure=true∧y.weak=y:=by
    rcases h y (by simp)with rfl|⟨u,hu,_⟩
    ·exact⟨rfl,rfl⟩
    ·exact hu.facts.2
   simp[pures,weaks,h1,h2,h3]
theorem eqn_B'{e:GEqn}:AE.sub true 3 (encEqn e) 5=some (encT e.B):=eqn_B
theorem mch_sys{H:Hp}{km ks:Nat}{c:Int}(hk:H[km]?=some (mchO ks c)):loadAt false 1 (.ptr km 0 0 1) H=some (.ptr ks 0 0 1):=by unfold mchO at hk;rw[ld_at hk];rfl
theorem mch_tries{H:Hp}{km ks:Nat}{c:Int}(hk:H[km]?=some (mchO ks c)):loadAt false 1 (.ptr km 0 1 1) H=some (.int .i64 c):=by unfold mchO at hk;rw[ld_at hk];rfl
theorem mch_write{H:Hp}{km ks:Nat}{c:Int}(hk:H[km]?=some (mchO ks c)):loadAt false 1 (.ptr km 0 2 1) H=some (.bool false):=by unfold mchO at hk;rw[ld_at hk];rfl
theorem mchO_tok{ks:Nat}{c:Int}:(mchO ks c).isTok=false:=rfl
set_option maxRecDepth 4000 in
include hT in
theorem normal_step{t:GTy}{km ks kf kb d:Nat}(hty:∀e∈t.eqns,EqnP s e)(A:Apart km ks kf kb)(IH:NormIH T t km ks kf kb d):NormIH T t km ks kf kb (d+1):=by
 intro X x hx;have hc:=hx.cells;have hsb:=hx.sub;have htop:=hx.facts;have hX:=hx;induction hx with
 |mk k n l sz es hz hl he ih=>
   intro htr lv hlv a o ha h es' c S hBy hk hc0 hc1 hcd
   have W:∃x:OR×Int×List Nat,Ev T 191 [.ptr km 0 0 1,.agg [.int .i64 k,.int .i64 n,.slice sz es .any],lv,a,o] h (x.1,⟨h.set km (mchO ks x.2.1),x.2.2,[]⟩)∧(NormR c x.1 x.2.1∧∀y∈x.2.2,y=km):=by
    refine hT.wp (r:=fun x:OR×Int×List Nat=>(x.1,⟨h.set km (mchO ks x.2.1),x.2.2,[]⟩)) fn191 (by decide) ?_;obtain⟨c1,c2,c3,c4⟩:=hc;obtain⟨xt,xp,xw⟩:=htop;have hsh:=treeB_shaped htr;simp only[shapedF,Bool.and_eq_true,decide_eq_true_eq,shapedL_all]at hsh;obtain⟨⟨⟨⟨hn,hkl⟩,hk12⟩,hl8⟩,hall⟩:=hsh;have hnd:=treeB_nodes htr;have hll:=nodesL_len l;simp only[Tm.nodes]at hnd;obtain⟨N,rfl⟩:=Int.eq_ofNat_of_zero_le hn;have hkml:=(List.getElem?_eq_some_iff.1 hk).1;have hrow:RowE (.agg [.int .i64 k,.int .i64 (N:Int),.slice sz es .any]):=⟨_,hX,htr⟩;generalize hP:PV.agg [.int .i64 k,.int .i64 (N:Int),.slice sz es .any]=P at*;have M0:=Mod.refl hk;have p1:(h++[AE.Obj.row 3 [P]])[h.length]?=some (.row 3 [P]):=by simp
    have M1:=M0.push (o':=AE.Obj.row 3 [P]);have hl1:(h++[AE.Obj.row 3 [P]]).length=h.length+1:=by simp
    generalize hH1:h++[AE.Obj.row 3 [P]]=H1 at*;have z2:(H1++[AE.Obj.row 3 [zN]])[H1.length]?=some (.row 3 [zN]):=by simp
    have p2:(H1++[AE.Obj.row 3 [zN]])[h.length]?=some (.row 3 [P]):=keepL p1;have M2:=M1.push (o':=AE.Obj.row 3 [zN]);have hl2:(H1++[AE.Obj.row 3 [zN]]).length=h.length+2:=by simp[hl1]
    have e2:H1++[AE.Obj.row 3 [zq3]]=H1++[AE.Obj.row 3 [zN]]:=rfl;generalize hH2:H1++[AE.Obj.row 3 [zN]]=H2 at*;generalize hkr:H1.length=kr at*;have l0:loadAt false 1 (.ptr h.length 0 0 1) H2=some (.int .i64 k):=by rw[ld_at p2,←hP];rfl
    have l1:loadAt false 1 (.ptr h.length 0 1 1) H2=some (.int .i64 (N:Int)):=by rw[ld_at p2,←hP];rfl
    have l2:loadAt false 1 (.ptr h.length 0 2 1) H2=some (.slice sz es .any):=by rw[ld_at p2,←hP];rfl
    have la:loadAt true 3 (.ptr h.length 0 0 1) H2=some P:=by rw[ld_at p2];exact hsb
    have out:∀(H:Hp)(ci:Int)(ws:List Nat)(q:PV),Mod h H km (mchO ks ci)→H[kr]?=some (.row 3 [zN])→okWs h km ws→RowE q→c≤ci→ci≤20000→
     (∀ws ups,storeAt 3 (.ptr kr 0 0 1) q ⟨H,ws,ups⟩=some ⟨H.set kr (.row 3 [q]),wadd kr ws,ups⟩)∧loadAt true 3 (.ptr kr 0 0 1) (H.set kr (.row 3 [q]))=some q∧∀ws',okWs h km ws'→∃b:OR×Int×List Nat,tidy 0 h.length (.val q) ⟨H.set kr (.row 3 [q]),ws',[]⟩=(b.1,⟨h.set km (mchO ks b.2.1),b.2.2,[]⟩)∧(NormR c b.1 b.2.1∧∀y∈b.2.2,y=km):=by
     intro H ci ws q M hz W hq h1 h2;obtain⟨u,hu,hut⟩:=hq;obtain⟨x1,x2,x3,x4⟩:=hu.cells;have sv:=fun ws ups=>st_slot (ws:=ws) (ups:=ups) (n:=1) (N:=0) hz rfl rfl ⟨rfl,_,rfl⟩ ⟨x1,x2,x4⟩ hu.facts.1;simp only[List.set_cons_zero]at sv;refine⟨sv,by rw[ld_at (get_set hz)];exact hu.sub,fun ws' W'=>?_⟩;have M':=M.putNew (k:=kr) (o':=.row 3 [q]) (by omega);obtain⟨w2,t1,t2⟩:=tidy_mod (v:=q) hu.facts.2.1 M' W';rw[hu.facts.2.2]at t1;exact⟨(.val q,ci,w2),t1,.inl ⟨q,rfl,⟨u,hu,hut⟩,h1,h2⟩,t2⟩
    by_cases hk1:k=1
    · subst hk1;have b11:((1:Int)==1)=true:=rfl;rcases hlv with rfl|⟨L,rfl,hB⟩
      · have en:eqop .slice (.slice 0 [] .nil) (.slice 0 [] .nil)=some true:=rfl;obtain⟨sv,lo,td⟩:=out H2 c [] P M2 z2 (fun x hx=>by cases hx) hrow (by omega) hc1;obtain⟨b,t1,t2⟩:=td (wadd kr []) (okWs.add (fun x hx=>by cases hx) (.inr (by omega)));simp(disch:=first|omega|decide|simp only[go_sem]) only[go_sem,hH1,e2,hkr,c1,c3,List.length_cons,List.length_nil,l0,b11,en,la,sv,resv,lo,t1];exact⟨b,rfl,t2⟩
      · have hl0:l=[]:=by simpa using hkl
        obtain⟨y,gy,hy⟩:=hB (N:Int) (by rw[hl0];simp[varsF,varsFL]);rw[Int.toNat_natCast]at gy;have hNL:=(List.getElem?_eq_some_iff.1 gy).1
        have en:eqop .slice (.slice 3 L .any) (.slice 0 [] .nil)=some false:=by
         cases L with
         |nil=>simp at hNL
         |cons=>rfl
        obtain⟨sv,lo,td⟩:=out H2 c [] y M2 z2 (fun x hx=>by cases hx) hy (by omega) hc1;obtain⟨b,t1,t2⟩:=td (wadd kr []) (okWs.add (fun x hx=>by cases hx) (.inr (by omega)));obtain⟨u,hu,_⟩:=hy;have ys:=hu.sub;simp(disch:=first|omega|decide|simp only[go_sem]) only[go_sem,hH1,e2,hkr,c1,c3,List.length_cons,List.length_nil,l0,l1,b11,en,gy,hNL,ys,sv,resv,lo,t1];exact⟨b,rfl,t2⟩
    have hkb:(k==1)=false:=by simpa using hk1
    have hvk:varsF (.mk k (N:Int) l)=varsFL l:=by simp[varsF,hk1]
    have hsub:∀x∈l,LOk x lv:=fun x hx=>by
     rcases hlv with rfl|⟨L,rfl,hB⟩
     ·exact .inl rfl
     ·exact .inr ⟨L,rfl,hB.sub fun v hv=>by rw[hvk];exact mem_varsFL hx hv⟩
    simp(disch:=first|omega|decide|simp only[go_sem]) only[go_sem,hH1,e2,hkr,c1,c3,List.length_cons,List.length_nil,l0,l2,hkb]
    refine wpC.loopM (fun g e st=> ∃(i:Nat)(H:Hp)(ws:List Nat)(v:PV)(qs:List PV)(us:List Tm)(ci:Int),i+g=es.length∧Mod h H km (mchO ks ci)∧c≤ci∧ci≤20000∧AppL H v qs h.length∧EncL us qs∧qs.length=i∧H[h.length]?=some (.row 3 [P])∧H[kr]?=some (.row 3 [zN])∧okWs h km ws∧(eget e 0=.ptr km 0 0 1∧eget e 2=lv∧eget e 3=a∧eget e 4=o∧eget e 6=.ptr h.length 0 0 1∧eget e 10=.ptr kr 0 0 1∧eget e 11=v∧eget e 35=.slice sz es .any∧eget e 36=.int .i64 (es.length:Int)∧eget e 37=.int .i64 (i:Int))∧st=⟨H,ws,[]⟩) ?_ es.length _ _
     ⟨0,H2,[],_,[],[],c,by omega,M2,by omega,hc1,.inl ⟨rfl,rfl⟩,⟨rfl,by simp⟩,rfl,p2,z2,(fun x hx=>by cases hx),by simp only[go_sem,Int.natCast_zero],rfl⟩
    rintro g e st ⟨i,H,ws,v,qs,us,ci,hi,M,hci,hcm,hA,hE,hql,pH,zH,hw,⟨e0,e2',e3,e4,e6,e10,e11,e35,e36,e37⟩,rfl⟩;have hHl:=M.len;by_cases h1:i<es.length
    · have h1':(i:Int)< (es.length:Int):=by omega
      have ga:=get_lt h1;have hx:l[i]?=some l[i]:=List.getElem?_eq_getElem (by omega);have hE1:=he i l[i] es[i] hx ga;have hml:=List.mem_of_getElem? hx;have ihx:=ih i l[i] es[i] hx ga hE1.cells hE1.sub hE1.facts hE1 (treeB_sub htr hml) lv (hsub _ hml)
      have hsz:sz=3:=by
       rcases hz with rfl|h
       ·simp at h1
       ·exact h
      subst hsz;obtain⟨b1,b2,b3,b4⟩:=hE1.cells;have bt:=hE1.facts.1;have bs:=hE1.sub;generalize l[i]=y at*;generalize es[i]=Y at*;have sb:=st_box (h:=H) (ws:=ws) (ups:=[]) (z:=zq3) (sz:=3) (c:=Y) b1 rfl b2 bt ⟨_,rfl⟩ b4;have kq:(H++[AE.Obj.row 3 [Y]])[H.length]?=some (.row 3 [Y]):=by simp
      have pH3:(H++[AE.Obj.row 3 [Y]])[h.length]?=some (.row 3 [P]):=keepL pH;have zH3:(H++[AE.Obj.row 3 [Y]])[kr]?=some (.row 3 [zN]):=keepL zH;have M3:=M.push (o':=AE.Obj.row 3 [Y]);have A3:=hA.push (o:=AE.Obj.row 3 [Y]);have hl3:(H++[AE.Obj.row 3 [Y]]).length=H.length+1:=by simp
      generalize hH3:H++[AE.Obj.row 3 [Y]]=H3 at*;generalize hk13:H.length=k13 at*;have ly:loadAt true 3 (.ptr k13 0 0 1) H3=some Y:=by rw[ld_at kq];exact bs
      have fp:fillC [PV.nilptr,.int .i64 0] [(0,1,a),(1,1,.int .i64 (i:Int))]=some [a,.int .i64 (i:Int)]:=by rcases ha with rfl|⟨j,rfl⟩<;>rfl
      have pH4:(H3++[AE.Obj.row 2 [.agg [a,.int .i64 (i:Int)]]])[h.length]?=some (.row 3 [P]):=keepL pH3;have zH4:(H3++[AE.Obj.row 2 [.agg [a,.int .i64 (i:Int)]]])[kr]?=some (.row 3 [zN]):=keepL zH3;have M4:=M3.push (o':=AE.Obj.row 2 [.agg [a,.int .i64 (i:Int)]]);have A4:=A3.push (o:=AE.Obj.row 2 [.agg [a,.int .i64 (i:Int)]]);have hl4:(H3++[AE.Obj.row 2 [.agg [a,.int .i64 (i:Int)]]]).length=k13+2:=by simp;omega
      generalize hH4:H3++[AE.Obj.row 2 [.agg [a,.int .i64 (i:Int)]]]=H4 at*;generalize hk49:H3.length=k49 at*;obtain⟨r,c2',ws2,ev,hR,hw2⟩:=ihx (.ptr k49 0 0 1) o (.inr ⟨_,rfl⟩) H4 es' ci (S.mod A M4) hBy M4.get (by omega) hcm (by omega);have M5:=M4.put (o':=mchO ks c2');have W5:okWs h km (wall ws2 (wadd k13 ws)):=okWs.wall (fun y hy=>.inl (hw2 y hy)) (hw.add (.inr (by omega)));rcases hR with⟨q,rfl,hq,hc2,hc2'⟩|rfl
      rotate_left
      · obtain⟨ws',t1,t2⟩:=tidy_modP M5 W5;simp(disch:=first|omega|decide|simp only[go_sem]) only[go_sem,a191b0,e0,e2',e3,e4,e6,e10,e11,e35,e36,e37,h1,h1',ga,bs,hk13,sb,hH3,ly,fp,hk49,hH4,cb ev,hT.prim,primOf,List.length_cons,List.length_nil,panV];exact⟨(panV,c2',ws'),t1,.inr rfl,t2⟩
      obtain⟨u,hu,hut⟩:=hq;obtain⟨x1,x2,x3,x4⟩:=hu.cells;have f1:=fe_1 (p:=q) ⟨x1,x3⟩;have A5:=A4.set' (o':=mchO ks c2') M4.get mchO_tok;have pH5:=get_set_ne (o':=mchO ks c2') pH4 (show km≠h.length by omega);have zH5:=get_set_ne (o':=mchO ks c2') zH4 (show km≠kr by omega);have hl5:(H4.set km (mchO ks c2')).length=k13+2:=by simp[hl4]
      generalize hH5:H4.set km (mchO ks c2')=H5 at*;obtain⟨H6,fw,kt,ap,A6,hrow6,low6,hfw⟩:=append_E' A5 x2 (by omega) (show h.length≤H5.length by omega);simp(disch:=first|omega|decide|simp only[go_sem]) only[go_sem,a191b0,e0,e2',e3,e4,e6,e10,e11,e35,e36,e37,h1,h1',ga,bs,hk13,sb,hH3,ly,fp,hk49,hH4,cb ev,hH5,f1,ap,hT.prim,primOf,List.length_cons,List.length_nil];refine⟨g - 1,by omega,i+1,H6,_,_,qs++[q],us++[u],c2',by omega,M5.low low6,by omega,hc2',A6,hE.snocX hu,by simp[hql],hrow6 _ _ rfl pH5,hrow6 _ _ rfl zH5,fun x hx=>?_,⟨rfl,rfl⟩,rfl⟩;rcases hfw _ x hx with h|h
      ·exact W5 x h
      ·exact .inr h
    · have h1':¬(i:Int)< (es.length:Int):=by omega
      clear ih;obtain⟨z,m,rfl,hz3⟩:=hA.form;have lP:loadAt true 3 (.ptr h.length 0 0 1) H=some P:=by rw[ld_at pH];exact hsb
      obtain⟨r,ev,hR⟩:=made_ev hT hX (m:=m) hz3 hE H;rcases hR with⟨Y,rfl,hY,hYt⟩|rfl
      rotate_left
      · obtain⟨ws',t1,t2⟩:=tidy_modP M hw;simp(disch:=first|omega|decide|simp only[go_sem]) only[go_sem,a191b0,e0,e2',e3,e4,e6,e10,e11,e35,e36,e37,h1',lP,cb ev,hT.prim,primOf,List.length_cons,List.length_nil,panV];exact⟨(panV,ci,ws'),t1,.inr rfl,t2⟩
      obtain⟨y1,y2,y3,y4⟩:=hY.cells;have yt:=hY.facts.1;have ys:=hY.sub;have sb:=st_box (h:=H) (ws:=ws) (ups:=[]) (z:=zq3) (sz:=3) (c:=Y) y1 rfl y2 yt ⟨_,rfl⟩ y4;have kY:(H++[AE.Obj.row 3 [Y]])[H.length]?=some (.row 3 [Y]):=by simp
      have zH3:(H++[AE.Obj.row 3 [Y]])[kr]?=some (.row 3 [zN]):=keepL zH;have M3:=M.push (o':=AE.Obj.row 3 [Y]);have hl3:(H++[AE.Obj.row 3 [Y]]).length=H.length+1:=by simp
      generalize hH3:H++[AE.Obj.row 3 [Y]]=H3 at*;generalize hk14:H.length=k14 at*;have S3:=S.mod A M3;have lY:loadAt true 3 (.ptr k14 0 0 1) H3=some Y:=by rw[ld_at kY];exact ys
      have lm:=mch_sys M3.get;have lf:loadAt false 1 (.ptr ks 0 4 1) H3=some (.func (.func 233) [] [.ptr kf 0 0 1]):=by rw[ld_at S3.sys];rfl
      obtain⟨⟨z3,is⟩,evf,hzi,hil,his⟩:=find_ev hT S3 hBy hY;simp only at evf hzi hil his;simp(disch:=first|omega|decide|simp only[go_sem]) only[go_sem,a191b0,e0,e2',e3,e4,e6,e10,e11,e35,e36,e37,h1',lP,cb ev,hk14,sb,hH3,lY,lm,lf,cb evf,hT.prim,primOf,List.length_cons,List.length_nil,List.length_map]
      refine wpC.loopM (fun g e st=> ∃(i:Nat)(H:Hp)(ws:List Nat)(ci:Int),i+g=is.length∧Mod h H km (mchO ks ci)∧c≤ci∧ci≤20000∧H[k14]?=some (.row 3 [Y])∧H[kr]?=some (.row 3 [zN])∧okWs h km ws∧(eget e 0=.ptr km 0 0 1∧eget e 3=a∧eget e 4=o∧eget e 10=.ptr kr 0 0 1∧eget e 14=.ptr k14 0 0 1∧eget e 66=.slice z3 (is.map encI) .any∧eget e 67=.int .i64 (is.length:Int)∧eget e 68=.int .i64 (i:Int))∧st=⟨H,ws,[]⟩) ?_ is.length _ _
       ⟨0,H3,_,ci,by omega,M3,hci,hcm,kY,zH3,?_,by simp only[go_sem,e0,e3,e4,e10,Int.natCast_zero],rfl⟩
      rotate_left
      ·exact hw.add (.inr (by omega))
      clear e0 e2' e3 e4 e6 e10 e11 e35 e36 e37 ev evf sb hA;rintro g e st ⟨i,H,ws,ci,hi,M,hci,hcm,kY,zH,hw,⟨e0,e3,e4,e10,e14,e66,e67,e68⟩,rfl⟩;have hHl:=M.len;by_cases h1:i<is.length
      · have h1':(i:Int)< (is.length:Int):=by omega
        have gj:(is.map encI)[i]?=some (.int .i64 is[i]):=by rw[List.getElem?_map,List.getElem?_eq_getElem h1];rfl
        have hj:=his is[i] (List.getElem_mem h1);generalize is[i]=j at*;obtain⟨hj0,hj1⟩:=hj;obtain⟨J,rfl⟩:=Int.eq_ofNat_of_zero_le hj0;have hJ:J<t.eqns.length:=by omega
        have hge:t.eqns[J]?=some t.eqns[J]:=List.getElem?_eq_getElem hJ;have hPe:=hty _ (List.getElem_mem hJ);have gE:(t.eqns.map encEqn)[J]?=some (encEqn t.eqns[J]):=by rw[List.getElem?_map,hge];rfl
        generalize t.eqns[J]=q at*
        have hz1:z3=1:=by
         rcases hzi with rfl|h
         ·simp at h1
         ·exact h
        subst hz1;have S4:=S.mod A M;have lm:=mch_sys M.get;have lq:loadAt false 1 (.ptr ks 0 2 1) H=some (.slice 8 (t.eqns.map encEqn) .any):=by rw[ld_at S4.sys];rfl
        obtain⟨b1,b2,b3⟩:=eqn_box q;have sb:=st_box (h:=H) (ws:=ws) (ups:=[]) (z:=zq8) (sz:=8) (c:=encEqn q) b1 rfl b2 (eqn_top q) ⟨_,rfl⟩ ⟨_,rfl⟩;have kE:(H++[AE.Obj.row 8 [encEqn q]])[H.length]?=some (.row 8 [encEqn q]):=by simp
        have kY6:(H++[AE.Obj.row 8 [encEqn q]])[k14]?=some (.row 3 [Y]):=keepL kY;have zH6:(H++[AE.Obj.row 8 [encEqn q]])[kr]?=some (.row 3 [zN]):=keepL zH;have hk14l:=(List.getElem?_eq_some_iff.1 kY).1;have M6:=M.push (o':=AE.Obj.row 8 [encEqn q]);have hl6:(H++[AE.Obj.row 8 [encEqn q]]).length=H.length+1:=by simp
        generalize hH6:H++[AE.Obj.row 8 [encEqn q]]=H6 at*;generalize hk17:H.length=k17 at*;have lA:loadAt true 3 (.ptr k17 0 2 1) H6=some (encT q.A):=by rw[ld_at kE];exact eqn_A
        have lY:loadAt true 3 (.ptr k14 0 0 1) H6=some Y:=by rw[ld_at kY6];exact ys
        obtain⟨⟨L,z2,b,er⟩,evm,R⟩:=mtch_ev hT (enc_encT q.A) hY H6;simp only[mtchV]at evm;simp only at R;have W6:okWs h km (wadd k17 ws):=hw.add (.inr (by omega));by_cases her:er=0;rotate_left
        · have hb1:(er !=0)=true:=by simpa using her
          simp(disch:=first|omega|decide|simp only[go_sem]) only[go_sem,a191b1,e0,e3,e4,e10,e14,e66,e67,e68,h1,h1',gj,lm,lq,gE,hJ,hj1,eqn_all,hk17,sb,hH6,lA,lY,cb evm,hb1,hT.prim,primOf,List.length_cons,List.length_nil,List.length_map];exact⟨g - 1,by omega,i+1,H6,_,ci,by omega,M6,hci,hcm,kY6,zH6,W6,rfl,rfl⟩
        subst her;have hb0:((0:Int) !=0)=false:=rfl;cases b
        · simp(disch:=first|omega|decide|simp only[go_sem]) only[go_sem,a191b1,e0,e3,e4,e10,e14,e66,e67,e68,h1,h1',gj,lm,lq,gE,hJ,hj1,eqn_all,hk17,sb,hH6,lA,lY,cb evm,hb0,Bool.not_false,hT.prim,primOf,List.length_cons,List.length_nil,List.length_map];exact⟨g - 1,by omega,i+1,H6,_,ci,by omega,M6,hci,hcm,kY6,zH6,W6,rfl,rfl⟩
        obtain⟨rfl,hRW,hBv,_⟩:=R.ok rfl rfl;simp only[if_true]at evm;have hLp:=rowW_pure hRW;have ln:=mch_tries M6.get;have st:=fun ws ups=>st_mch (ws:=ws) (ups:=ups) (v:=ci+1) M6.get;have M7:=M6.put (o':=mchO ks (ci+1));have kE7:=get_set_ne (o':=mchO ks (ci+1)) kE (show km≠k17 by omega);have kY7:=get_set_ne (o':=mchO ks (ci+1)) kY6 (show km≠k14 by omega);have zH7:=get_set_ne (o':=mchO ks (ci+1)) zH6 (show km≠kr by omega);have hl7:(H6.set km (mchO ks (ci+1))).length=k17+1:=by simp[hl6]
        have W7:okWs h km (wadd km (wadd k17 ws)):=W6.add (.inl rfl);generalize hH7:H6.set km (mchO ks (ci+1))=H7 at*;have ln7:=mch_tries M7.get;by_cases hov:20000<ci+1
        · have f0:fillC ([]:List PV) []=some []:=rfl;obtain⟨ws',t1,t2⟩:=tidy_modP M7 W7;simp(disch:=first|omega|decide|simp only[go_sem]) only[go_sem,a191b1,e0,e3,e4,e10,e14,e66,e67,e68,h1,h1',gj,lm,lq,gE,hJ,hj1,eqn_all,hk17,sb,hH6,lA,lY,cb evm,hb0,Bool.not_true,ln,st,hH7,ln7,hov,f0,hT.prim,primOf,List.length_cons,List.length_nil,List.length_map];exact⟨(panV,ci+1,ws'),t1,.inr rfl,t2⟩
        have l17:loadAt true 8 (.ptr k17 0 0 1) H7=some (encEqn q):=by rw[ld_at kE7];exact eqn_all
        obtain⟨r,c3,ws3,evc,hR3,hw3⟩:=conds_ev hT A IH hPe hLp hBv H7 es' (ci+1) (S.mod A M7) hBy M7.get (by omega) (by omega) (by omega);have M8:=M7.put (o':=mchO ks c3);have W8:okWs h km (wall ws3 (wadd km (wadd k17 ws))):=okWs.wall (fun y hy=>.inl (hw3 y hy)) W7;rcases hR3 with⟨v3,b3,rfl,hc3,hc3'⟩|rfl
        rotate_left
        · obtain⟨ws',t1,t2⟩:=tidy_modP M8 W8;simp(disch:=first|omega|decide|simp only[go_sem]) only[go_sem,a191b1,e0,e3,e4,e10,e14,e66,e67,e68,h1,h1',gj,lm,lq,gE,hJ,hj1,eqn_all,hk17,sb,hH6,lA,lY,cb evm,hb0,Bool.not_true,ln,st,hH7,ln7,hov,l17,cb evc,hT.prim,primOf,List.length_cons,List.length_nil,List.length_map,panV];exact⟨(panV,c3,ws'),t1,.inr rfl,t2⟩
        have kE8:=get_set_ne (o':=mchO ks c3) kE7 (show km≠k17 by omega);have kY8:=get_set_ne (o':=mchO ks c3) kY7 (show km≠k14 by omega);have zH8:=get_set_ne (o':=mchO ks c3) zH7 (show km≠kr by omega);have hl8:(H7.set km (mchO ks c3)).length=k17+1:=by simp[hl7]
        generalize hH8:H7.set km (mchO ks c3)=H8 at*;cases b3
        · simp(disch:=first|omega|decide|simp only[go_sem]) only[go_sem,a191b1,e0,e3,e4,e10,e14,e66,e67,e68,h1,h1',gj,lm,lq,gE,hJ,hj1,eqn_all,hk17,sb,hH6,lA,lY,cb evm,hb0,Bool.not_true,ln,st,hH7,ln7,hov,l17,cb evc,hH8,Bool.not_false,hT.prim,primOf,List.length_cons,List.length_nil,List.length_map];exact⟨g - 1,by omega,i+1,H8,_,c3,by omega,M8,by omega,hc3',kY8,zH8,W8,rfl,rfl⟩
        have lw:=mch_write M8.get;have lB:loadAt true 3 (.ptr k17 0 5 1) H8=some (encT q.B):=by rw[ld_at kE8];exact eqn_B'
        have fl:=filled_ev hT (L:=L) rfl hLp H8;obtain⟨r,c4,ws4,evn,hR4,hw4⟩:=IH q.B _ (enc_encT q.B) (pairB_tree hPe.ab).2 (.slice 3 L .any) (.inr ⟨L,rfl,hBv.sub hPe.vB⟩) a o ha H8 es' c3 (S.mod A M8) hBy M8.get (by omega) hc3' (by omega);have M9:=M8.put (o':=mchO ks c4);have W9:okWs h km (wall (wall ws4 []) (wall ws3 (wadd km (wadd k17 ws)))):=okWs.wall (okWs.wall (fun y hy=>.inl (hw4 y hy)) (fun x hx=>by cases hx)) W8;rcases hR4 with⟨w,rfl,hw',hc4,hc4'⟩|rfl
        rotate_left
        · obtain⟨ws',t1,t2⟩:=tidy_modP M9 W9;simp(disch:=first|omega|decide|simp only[go_sem]) only[go_sem,a191b1,e0,e3,e4,e10,e14,e66,e67,e68,h1,h1',gj,lm,lq,gE,hJ,hj1,eqn_all,hk17,sb,hH6,lA,lY,cb evm,hb0,Bool.not_true,ln,st,hH7,ln7,hov,l17,cb evc,hH8,lw,lB,cb fl,cb evn,hT.prim,primOf,List.length_cons,List.length_nil,List.length_map,panV];exact⟨(panV,c4,ws'),t1,.inr rfl,t2⟩
        · have zH9:=get_set_ne (o':=mchO ks c4) zH8 (show km≠kr by omega);obtain⟨sv,lo,td⟩:=out _ c4 _ w M9 zH9 W9 hw' (by omega) hc4';obtain⟨b,t1,t2⟩:=td (wall (wadd kr []) (wall (wall ws4 []) (wall ws3 (wadd km (wadd k17 ws))))) (okWs.wall (okWs.add (fun x hx=>by cases hx) (.inr (by omega))) W9);simp(disch:=first|omega|decide|simp only[go_sem]) only[go_sem,a191b1,e0,e3,e4,e10,e14,e66,e67,e68,h1,h1',gj,lm,lq,gE,hJ,hj1,eqn_all,hk17,sb,hH6,lA,lY,cb evm,hb0,Bool.not_true,ln,st,hH7,ln7,hov,l17,cb evc,hH8,lw,lB,cb fl,cb evn,sv,resv,lo,hT.prim,primOf,List.length_cons,List.length_nil,List.length_map,t1];exact⟨b,rfl,t2⟩
      · have h1':¬(i:Int)< (is.length:Int):=by omega
        have lY:loadAt true 3 (.ptr k14 0 0 1) H=some Y:=by rw[ld_at kY];exact ys
        obtain⟨sv,lo,td⟩:=out H ci ws Y M zH hw ⟨_,hY,hYt⟩ hci hcm;obtain⟨b,t1,t2⟩:=td (wadd kr ws) (hw.add (.inr (by omega)));simp(disch:=first|omega|decide|simp only[go_sem]) only[go_sem,a191b1,e0,e3,e4,e10,e14,e66,e67,e68,h1',lY,sv,resv,lo,t1];exact⟨b,rfl,t2⟩
   obtain⟨x,h1,h2,h3⟩:=W;exact⟨x.1,x.2.1,x.2.2,h1,h2,h3⟩
theorem tidy_take{n0:Nat}{H:Hp}{v:PV}{ws:List Nat}(hp:v.pure=true):tidy 0 n0 (.val v) ⟨H,ws,[]⟩=(.val v.weak,⟨H.take n0,AE.below n0 ws,[]⟩):=by unfold tidy;simp[OR.v,frz_pure hp,OR.put]
theorem tidy_takeP{n0:Nat}{H:Hp}{ws:List Nat}:tidy 0 n0 panV ⟨H,ws,[]⟩=(panV,⟨H.take n0,AE.below n0 ws,[]⟩):=by have hf:frz H n0 64 (.iface 260 (.agg []))=some (.iface 260 (.agg [])):=frz_pure rfl;unfold tidy panV;simp[OR.v,hf,OR.put]
theorem SysH.push{H:Hp}{ks kf kb:Nat}{t:GTy}{es:List (PV×PV)}{o:AE.Obj}(S:SysH H ks kf kb t es):SysH (H++[o]) ks kf kb t es:=⟨keepL S.sys,keepL S.fb,keepL S.mp⟩
theorem SysH.lt{H:Hp}{ks kf kb:Nat}{t:GTy}{es:List (PV×PV)}(S:SysH H ks kf kb t es):ks<H.length∧kf<H.length∧kb<H.length:=⟨(List.getElem?_eq_some_iff.1 S.sys).1,(List.getElem?_eq_some_iff.1 S.fb).1,(List.getElem?_eq_some_iff.1 S.mp).1⟩
theorem normal_ev{t:GTy}{km ks kf kb:Nat}(hT:Std T)(hty:∀e∈t.eqns,EqnP s e)(A:Apart km ks kf kb):∀d,NormIH T t km ks kf kb d
 |0=>fun X x hx htr lv hlv a o ha h es c S hBy hk h0 h1 h2=>by omega
 |d+1=>normal_step hT hty A (normal_ev hT hty A d)
structure Val1 (T:Tbl)(h:Hp)(km k6:Nat)(H:Hp)(ws:List Nat):Prop where
 len:H.length=h.length
 keep:∀(j:Nat)(o:AE.Obj),j≠km→j≠k6→h[j]?=some o→H[j]?=some o
 ws:∀y∈ws,y=km∨y=k6
theorem take_get{H:Hp}{n j:Nat}(h:j<n):(H.take n)[j]?=H[j]?:=by rw[List.getElem?_take,if_pos h]
include hT in
theorem value1_ev{t:GTy}{es:List (PV×PV)}{h:Hp}{km ks kf kb k3 k6 k7:Nat}{u:Tm}{X:PV}(hty:∀e∈t.eqns,EqnP s e)(A:Apart km ks kf kb)(S:SysH h ks kf kb t es)(hBy:ByOk es t.eqns.length)(hk:h[km]?=some (mchO ks 0))(h7:h[k7]?=some (.row 1 [.ptr km 0 0 1]))(h3:h[k3]?=some (.row 3 [X]))(h6:h[k6]?=some (.row 3 [zN]))(hX:Enc u X)(hu:treeB u=true)(hne:km≠k6):
 ∃x:OR×Hp×List Nat,Ev T 190 [.ptr k7 0 0 1,.ptr k3 0 0 1,.ptr k6 0 0 1] h (x.1,⟨x.2.1,x.2.2,[]⟩)∧(Val1 T h km k6 x.2.1 x.2.2∧((x.1=.val (.tuple [])∧∃q,RowE q∧x.2.1[k6]?=some (.row 3 [q]))∨x.1=panV)):=by
 refine hT.wp (r:=fun x:OR×Hp×List Nat=>(x.1,⟨x.2.1,x.2.2,[]⟩)) fn190 (by decide) ?_;have hkml:=(List.getElem?_eq_some_iff.1 hk).1;have hk6l:=(List.getElem?_eq_some_iff.1 h6).1;have l7:loadAt false 1 (.ptr k7 0 0 1) h=some (.ptr km 0 0 1):=by rw[ld_at h7];rfl
 have l3:loadAt true 3 (.ptr k3 0 0 1) h=some X:=by rw[ld_at h3];exact hX.sub
 have fb:fillC [PV.slice 0 [] .nil,.slice 0 [] .nil] []=some [.slice 0 [] .nil,.slice 0 [] .nil]:=rfl;have M1:=(Mod.refl hk).push (o':=stp0);have z1:(h++[stp0])[k6]?=some (.row 3 [zN]):=keepL h6;have S1:=S.push (o:=stp0);have e1:h++[AE.Obj.row 2 [.agg [.slice 0 [] .nil,.slice 0 [] .nil]]]=h++[stp0]:=rfl;have keep1:∀(j:Nat)(o:AE.Obj),h[j]?=some o→(h++[stp0])[j]?=some o:=fun j o hj=>keepL hj;have hl1:(h++[stp0]).length=h.length+1:=by simp
 generalize hH1:h++[stp0]=H1 at*;obtain⟨r,c',ws,ev,hR,hw⟩:=normal_ev hT hty A 20001 u X hX hu (.slice 0 [] .nil) (.inl rfl) .nilptr (.ptr h.length 0 0 1) (.inl rfl) H1 es 0 S1 hBy M1.get (by omega) (by omega) (by omega);have base:∀(H:Hp)(wz:List Nat),(∀(j:Nat)(o:AE.Obj),j≠km→j≠k6→h[j]?=some o→H[j]?=some o)→h.length≤H.length→(∀y∈wz,y=km∨y=k6)→Val1 T h km k6 (H.take h.length) (AE.below h.length wz):=fun H wz hk hl hw=>⟨by simp;omega,fun j o h1 h2 h3=>by rw[take_get (List.getElem?_eq_some_iff.1 h3).1];exact hk j o h1 h2 h3,fun y hy=>hw y (List.mem_filter.1 hy).1⟩;rcases hR with⟨q,rfl,hq,hc1,hc2⟩|rfl
 · obtain⟨w,hw1,hw2⟩:=hq;obtain⟨x1,x2,x3,x4⟩:=hw1.cells;have z2:=get_set_ne (o':=mchO ks c') z1 (show km≠k6 from hne);have sv:=fun ws ups=>st_slot (ws:=ws) (ups:=ups) (n:=1) (N:=0) z2 rfl rfl ⟨rfl,_,rfl⟩ ⟨x1,x2,x4⟩ hw1.facts.1;simp only[List.set_cons_zero]at sv;have z3:=get_set (o':=AE.Obj.row 3 [q]) z2;have td:=tidy_take (n0:=h.length) (H:=(H1.set km (mchO ks c')).set k6 (.row 3 [q])) (v:=.tuple []) (ws:=wadd k6 (wall ws [])) rfl;simp(disch:=first|omega|decide|simp only[go_sem]) only[go_sem,l7,l3,fb,e1,cb ev,sv,hT.prim,primOf,List.length_cons,List.length_nil];refine⟨(.val (.tuple []),_,_),td,base _ _ (fun j o h1 h2 h3=>?_) (by simp;omega) (fun y hy=>?_),.inl ⟨rfl,q,⟨w,hw1,hw2⟩,?_⟩⟩
   ·rw[List.getElem?_set_ne (Ne.symm h2),List.getElem?_set_ne (Ne.symm h1)];exact keep1 j o h3
   · rcases mem_wadd hy with h|h
     ·exact .inr h
     · rcases mem_wall h with h|h
       ·exact .inl (hw y h)
       ·cases h
   ·simp only;rw[take_get hk6l];exact z3
 · have td:=tidy_takeP (n0:=h.length) (H:=H1.set km (mchO ks c')) (ws:=wall ws []);unfold panV at td;simp(disch:=first|omega|decide|simp only[go_sem]) only[go_sem,l7,l3,fb,e1,cb ev,hT.prim,primOf,List.length_cons,List.length_nil,panV];refine⟨(panV,_,_),td,base _ _ (fun j o h1 h2 h3=>?_) (by simp;omega) (fun y hy=>?_),.inr rfl⟩
   ·rw[List.getElem?_set_ne (Ne.symm h1)];exact keep1 j o h3
   · rcases mem_wall hy with h|h
     ·exact .inl (hw y h)
     ·cases h
theorem guard_val(h189:T.sp 189=some (AE'.guardedSp 260 2)){g:FuncId}{caps:List PV}{h:Hp}{v:PV}{st:St}(ev:Ev T g caps h (.val v,st)):Ev T 189 [.func (.func g) [] caps] h (.val (.int .i64 0),st):=by obtain⟨N,hN⟩:=ev;refine⟨N+1,fun n hn=>?_⟩;obtain⟨n,rfl⟩:∃k,n=k+1:=⟨n - 1,by omega⟩;simp only[evCall,h189,AE'.guardedSp,List.nil_append,hN n (by omega)]
theorem guard_pan(h189:T.sp 189=some (AE'.guardedSp 260 2)){g:FuncId}{caps:List PV}{h:Hp}{st:St}(ev:Ev T g caps h (panV,st)):Ev T 189 [.func (.func g) [] caps] h (.val (.int .i64 2),st):=by obtain⟨N,hN⟩:=ev;refine⟨N+1,fun n hn=>?_⟩;obtain⟨n,rfl⟩:∃k,n=k+1:=⟨n - 1,by omega⟩;simp only[panV]at hN;simp only[evCall,h189,AE'.guardedSp,List.nil_append,hN n (by omega),if_true]
include hT in
theorem value_ev(h189:T.sp 189=some (AE'.guardedSp 260 2)){t:GTy}{es:List (PV×PV)}{h:Hp}{ks kf kb:Nat}{u:Tm}{X:PV}(hty:∀e∈t.eqns,EqnP s e)(S:SysH h ks kf kb t es)(hBy:ByOk es t.eqns.length)(hX:Enc u X)(hu:treeB u=true):
 ∃x:PV×Int,Ev T 137 [.ptr ks 0 0 1,X] h (.val (.tuple [x.1,.int .i64 x.2]),⟨h,[],[]⟩)∧((x.2=0∧RowE x.1)∨(x.2=2∧x.1=zTerm)):=by
 refine hT.wp (r:=fun x:PV×Int=>(.val (.tuple [x.1,.int .i64 x.2]),⟨h,[],[]⟩)) fn137 (by decide) ?_;obtain⟨b1,b2,b3,b4⟩:=hX.cells;obtain⟨hs1,hs2,hs3⟩:=S.lt;have p1:(h++[AE.Obj.row 3 [X]])[h.length]?=some (.row 3 [X]):=by simp
 have S1:=S.push (o:=AE.Obj.row 3 [X]);have low1:Low h.length h (h++[AE.Obj.row 3 [X]]):=(Low.refl _ _).push (Nat.le_refl _);have hl1:(h++[AE.Obj.row 3 [X]]).length=h.length+1:=by simp
 generalize hH1:h++[AE.Obj.row 3 [X]]=H1 at*;have q2:(H1++[AE.Obj.row 3 [zN]])[H1.length]?=some (.row 3 [zN]):=by simp
 have p2:(H1++[AE.Obj.row 3 [zN]])[h.length]?=some (.row 3 [X]):=keepL p1;have S2:=S1.push (o:=AE.Obj.row 3 [zN]);have low2:Low h.length h (H1++[AE.Obj.row 3 [zN]]):=low1.push (by omega);have hl2:(H1++[AE.Obj.row 3 [zN]]).length=h.length+2:=by simp;omega
 have e2:H1++[AE.Obj.row 3 [zq3]]=H1++[AE.Obj.row 3 [zN]]:=rfl;generalize hH2:H1++[AE.Obj.row 3 [zN]]=H2 at*;generalize hk4:H1.length=k4 at*;have r3:(H2++[AE.Obj.row 3 [zN]])[H2.length]?=some (.row 3 [zN]):=by simp
 have q3:(H2++[AE.Obj.row 3 [zN]])[k4]?=some (.row 3 [zN]):=keepL q2;have p3:(H2++[AE.Obj.row 3 [zN]])[h.length]?=some (.row 3 [X]):=keepL p2;have S3:=S2.push (o:=AE.Obj.row 3 [zN]);have low3:Low h.length h (H2++[AE.Obj.row 3 [zN]]):=low2.push (by omega);have hl3:(H2++[AE.Obj.row 3 [zN]]).length=h.length+3:=by simp;omega
 have e3:H2++[AE.Obj.row 3 [zq3]]=H2++[AE.Obj.row 3 [zN]]:=rfl;generalize hH3:H2++[AE.Obj.row 3 [zN]]=H3 at*;generalize hk6:H2.length=k6 at*;have fb:fillC [PV.nilptr,.int .i64 0,.bool false] [(0,1,.ptr ks 0 0 1)]=some [.ptr ks 0 0 1,.int .i64 0,.bool false]:=rfl;have m4:(H3++[mchO ks 0])[H3.length]?=some (mchO ks 0):=by simp
 have r4:(H3++[mchO ks 0])[k6]?=some (.row 3 [zN]):=keepL r3;have q4:(H3++[mchO ks 0])[k4]?=some (.row 3 [zN]):=keepL q3;have p4:(H3++[mchO ks 0])[h.length]?=some (.row 3 [X]):=keepL p3;have S4:=S3.push (o:=mchO ks 0);have low4:Low h.length h (H3++[mchO ks 0]):=low3.push (by omega);have hl4:(H3++[mchO ks 0]).length=h.length+4:=by simp;omega
 have e4:H3++[AE.Obj.row 3 [.agg [.ptr ks 0 0 1,.int .i64 0,.bool false]]]=H3++[mchO ks 0]:=rfl;generalize hH4:H3++[mchO ks 0]=H4 at*;generalize hkm:H3.length=km at*;have sb:=st_last (h:=H4) (sz:=1) (ws:=[]) (ups:=[]) (c:=.nilptr) (v:=.ptr km 0 0 1) rfl ⟨rfl,rfl⟩ (fun j hj=>by cases hj;omega);have k75:(H4++[AE.Obj.row 1 [.ptr km 0 0 1]])[H4.length]?=some (.row 1 [.ptr km 0 0 1]):=by simp
 have m5:(H4++[AE.Obj.row 1 [.ptr km 0 0 1]])[km]?=some (mchO ks 0):=keepL m4;have r5:(H4++[AE.Obj.row 1 [.ptr km 0 0 1]])[k6]?=some (.row 3 [zN]):=keepL r4;have q5:(H4++[AE.Obj.row 1 [.ptr km 0 0 1]])[k4]?=some (.row 3 [zN]):=keepL q4;have p5:(H4++[AE.Obj.row 1 [.ptr km 0 0 1]])[h.length]?=some (.row 3 [X]):=keepL p4;have S5:=S4.push (o:=AE.Obj.row 1 [.ptr km 0 0 1]);have low5:Low h.length h (H4++[AE.Obj.row 1 [.ptr km 0 0 1]]):=low4.push (by omega);have hl5:(H4++[AE.Obj.row 1 [.ptr km 0 0 1]]).length=h.length+5:=by simp;omega
 generalize hH5:H4++[AE.Obj.row 1 [.ptr km 0 0 1]]=H5 at*;generalize hk7:H4.length=k7 at*;obtain⟨⟨r,H6,ws⟩,ev,V,hR⟩:=value1_ev hT hty ⟨by omega,by omega,by omega⟩ S5 hBy m5 k75 p5 r5 hX hu (show km≠k6 by omega);simp only at ev V hR;have q6:=V.keep _ _ (show k4≠km by omega) (show k4≠k6 by omega) q5;have hl6:=V.len
 have low6:Low h.length h H6:=by
  refine⟨?_,by omega⟩;rw[←low5.take];refine List.ext_getElem? fun j=>?_;by_cases hj:j<h.length
  · rw[take_get hj,take_get hj];have hg:=List.getElem?_eq_getElem (show j<H5.length by omega);rw[hg];exact V.keep j _ (by omega) (by omega) hg
  ·rw[List.getElem?_eq_none (by simp;omega),List.getElem?_eq_none (by simp;omega)]
 have hws:∀y∈wall ws (wadd k7 []),h.length≤y:=fun y hy=>by
  rcases mem_wall hy with h|h
  ·rcases V.ws y h with h|h<;>omega
  · rcases mem_wadd h with h|h
    ·omega
    ·cases h
 have b00:((0:Int) !=0)=false:=rfl;have b20:((2:Int) !=0)=true:=rfl;rcases hR with⟨rfl,q,⟨w,hw1,hw2⟩,hq6⟩|rfl
 · have evg:=guard_val h189 ev;have lq:loadAt true 3 (.ptr k6 0 0 1) H6=some q:=by rw[ld_at hq6];exact hw1.sub
   obtain⟨q',evf,hq'⟩:=fresh_ev hT hw1 (treeB_nodes hw2) H6;obtain⟨x1,x2,x3,x4⟩:=hq'.cells;have sv:=fun ws ups=>st_slot (ws:=ws) (ups:=ups) (n:=1) (N:=0) q6 rfl rfl ⟨rfl,_,rfl⟩ ⟨x1,x2,x4⟩ hq'.facts.1;simp only[List.set_cons_zero]at sv;have lo:loadAt true 3 (.ptr k4 0 0 1) (H6.set k4 (.row 3 [q']))=some q':=by rw[ld_at (get_set q6)];exact hq'.sub
   have td:=tidy_low (v:=.tuple [q',.int .i64 0]) (ws:=wadd k4 (wall ws (wadd k7 []))) (by simp[PV.pure,pures,hq'.facts.2.1]) (by simp[PV.weak,weaks,hq'.facts.2.2]) (low6.trans (.set (show h.length≤k4 by omega)):Low h.length h (H6.set k4 (.row 3 [q']))) (wadd_low (by omega) hws);simp(disch:=first|omega|decide|simp only[go_sem]) only[go_sem,hH1,hk4,e2,e3,hk6,fb,e4,hkm,hk7,sb,hH5,cb evg,b00,lq,cb evf,sv,resv,lo,b1,b3,hT.prim,primOf,List.length_cons,List.length_nil,td];exact⟨(q',0),rfl,.inl ⟨rfl,w,hq',hw2⟩⟩
 · have evg:=guard_pan h189 ev;have f0:fillC [PV.int .i64 0,.int .i64 0,.slice 0 [] .nil] []=some [.int .i64 0,.int .i64 0,.slice 0 [] .nil]:=rfl;have sv:=fun ws ups=>st_slot (Q:=.agg [.int .i64 0,.int .i64 0,.slice 0 [] .nil]) (ws:=ws) (ups:=ups) (n:=1) (N:=0) q6 rfl rfl ⟨rfl,_,rfl⟩ ⟨rfl,rfl,_,rfl⟩ rfl;simp only[List.set_cons_zero]at sv;have lo:loadAt true 3 (.ptr k4 0 0 1) (H6.set k4 (.row 3 [.agg [.int .i64 0,.int .i64 0,.slice 0 [] .nil]]))=some zN:=by rw[ld_at (get_set q6)];rfl
   have td:=tidy_ups (v:=.tuple [zN,.int .i64 2]) (ups:=[]) (ws:=wadd k4 (wall ws (wadd k7 []))) rfl (low6.trans (.set (show h.length≤k4 by omega)):Low h.length h (H6.set k4 (.row 3 [.agg [.int .i64 0,.int .i64 0,.slice 0 [] .nil]]))) (wadd_low (by omega) hws) (by simp);simp(disch:=first|omega|decide|simp only[go_sem]) only[go_sem,hH1,hk4,e2,e3,hk6,fb,e4,hkm,hk7,sb,hH5,cb evg,b20,f0,sv,resv,lo,b1,b3,hT.prim,primOf,List.length_cons,List.length_nil,td];exact⟨(zTerm,2),rfl,.inr ⟨rfl,rfl⟩⟩
abbrev Ent:=Int×List Int×Nat
def setE(L:List Ent):List (PV×PV):=L.map fun x=>(.int .i64 x.1,.slice 1 (x.2.1.map encI) (.tok x.2.2))
def getE(n:Int):List Ent→Option (List Int×Nat)
 |[]=>none
 |x::L=>if n=x.1 then some x.2 else getE n L
def putE(n:Int)(y:List Int×Nat):List Ent→List Ent
 |[]=>[(n,y)]
 |x::L=>if n=x.1 then(n,y)::L else x::putE n y L
theorem findE{n:Int}:∀L:List Ent,findK (.int .i64 n) (setE L)=some ((getE n L).map fun y=>.slice 1 (y.1.map encI) (.tok y.2))
 |[]=>rfl
 |x::L=>by
   simp only[setE,List.map_cons,findK,sameKey,if_true,getE];by_cases h:n=x.1
   ·simp[h]
   · have h':(n==x.1)=false:=by simpa using h
     rw[h'];have:=findE (n:=n) L;simp only[setE]at this;simp[this,h]
theorem putKE{n:Int}{y:List Int×Nat}:∀L:List Ent,putK (.int .i64 n) (.slice 1 (y.1.map encI) (.tok y.2)) (setE L)=some (setE (putE n y L))
 |[]=>rfl
 |x::L=>by
   simp only[setE,List.map_cons,putK,sameKey,if_true,putE];by_cases h:n=x.1
   ·simp[h,setE]
   · have h':(n==x.1)=false:=by simpa using h
     rw[h'];have:=putKE (n:=n) (y:=y) L;simp only[setE]at this;simp[this,h,setE]
theorem putE_new{n:Int}{y:List Int×Nat}:∀{L:List Ent},getE n L=none→putE n y L=L++[(n,y)]
 |[],_=>rfl
 |x::L,h=>by
   simp only[getE]at h;split at h
   ·cases h
   · rename_i hn;simp only[putE,if_neg hn,List.cons_append,putE_new h]
theorem getE_mem{n:Int}{y:List Int×Nat}:∀{L:List Ent},getE n L=some y→(n,y)∈L
 |[],h=>by cases h
 |x::L,h=>by
   simp only[getE]at h;split at h
   · rename_i hn;cases h;rw[hn];exact List.mem_cons_self
   ·exact List.mem_cons_of_mem _ (getE_mem h)
theorem putE_kt{n:Int}{l l':List Int}{kt:Nat}:∀{L:List Ent},getE n L=some (l,kt)→(putE n (l',kt) L).map (·.2.2)=L.map (·.2.2)
 |[],h=>by cases h
 |x::L,h=>by
   simp only[getE]at h;split at h
   · rename_i hn;simp only[Option.some.injEq]at h;simp only[putE,if_pos hn,List.map_cons,h]
   · rename_i hn;simp only[putE,if_neg hn,List.map_cons,putE_kt h]
theorem putE_old{n:Int}{l l':List Int}{kt:Nat}:∀{L:List Ent},getE n L=some (l,kt)→(L.map (·.2.2)).Nodup→∀x∈putE n (l',kt) L,x=(n,l',kt)∨(x∈L∧x.2.2≠kt)
 |[],h,_,_,_=>by cases h
 |z::L,h,hd,x,hx=>by
   simp only[getE]at h;simp only[List.map_cons,List.nodup_cons]at hd;split at h
   · rename_i hn;simp only[Option.some.injEq]at h;simp only[putE,if_pos hn,List.mem_cons]at hx;rcases hx with rfl|hx
     ·exact .inl rfl
     · refine .inr ⟨List.mem_cons_of_mem _ hx,fun hk=>hd.1 ?_⟩;rw[h];exact List.mem_map.2 ⟨x,hx,hk⟩
   · rename_i hn;simp only[putE,if_neg hn,List.mem_cons]at hx;rcases hx with rfl|hx
     · refine .inr ⟨List.mem_cons_self,fun hk=>hd.1 ?_⟩;rw[hk];exact List.mem_map.2 ⟨_,getE_mem h,rfl⟩
     · rcases putE_old h hd.2 x hx with h|h
       ·exact .inl h
       ·exact .inr ⟨List.mem_cons_of_mem _ h.1,h.2⟩
structure OkE (H:Hp)(lo N i:Nat)(L:List Ent):Prop where
 tok:∀x∈L,H[x.2.2]?=some (.tok 1 x.2.1.length)∧lo≤x.2.2
 idx:∀x∈L,(∀j∈x.2.1,0≤j∧j< (N:Int))∧x.2.1.length≤i
 nd:(L.map (·.2.2)).Nodup
theorem OkE.by_{H:Hp}{lo N i:Nat}{L:List Ent}(O:OkE H lo N i L)(hi:i≤1000):ByOk (setE L) N:=fun n H kb hk=>by
 simp only[lookupv,hk,isKey,if_true,findE];cases hg:getE n L with
 |none=>exact⟨0,[],.nil,rfl,.inl rfl,by simp,by simp⟩
 |some y=>
   obtain⟨h1,h2⟩:=O.idx _ (getE_mem hg);exact⟨1,y.1,.tok y.2,rfl,.inr rfl,by simp only at h2;omega,h1⟩
theorem OkE.keep{H H':Hp}{lo N i:Nat}{L:List Ent}(O:OkE H lo N i L)(h:∀(j:Nat)(m:Nat),H[j]?=some (.tok 1 m)→H'[j]?=some (.tok 1 m)):OkE H' lo N i L:=⟨fun x hx=>⟨h _ _ (O.tok x hx).1,(O.tok x hx).2⟩,O.idx,O.nd⟩
theorem look_E{H:Hp}{kb:Nat}{L:List Ent}{n:Int}(hk:H[kb]?=some (.map (setE L))):lookupv .int (.slice 0 [] .nil) false (.map (some kb)) (.int .i64 n) H=some (match getE n L with|some y=>.slice 1 (y.1.map encI) (.tok y.2)|none=>.slice 0 [] .nil):=by simp only[lookupv,hk,isKey,if_true,findE];cases getE n L<;>rfl
theorem wrote_upsK{k:Nat}{o:AE.Obj}{up:Option Nat}{H:Hp}{ws:List Nat}{ups:List (Nat×Nat)}:∃ups',wrote k o up ⟨H,ws,ups⟩=⟨H.set k o,wadd k ws,ups'⟩∧∀x∈ups',x∈ups∨x.1=k:=by
 cases up with
 |none=>exact⟨ups,by rw[wrote_none],fun x hx=>.inl hx⟩
 |some j=>
   refine⟨_,by rw[wrote_some],fun x hx=>?_⟩;split at hx
   · rcases List.mem_cons.1 hx with rfl|h
     ·exact .inr rfl
     ·exact .inl h
   ·exact .inl hx
theorem upd_E{H:Hp}{kb:Nat}{L:List Ent}{n:Int}{y:List Int×Nat}(hk:H[kb]?=some (.map (setE L)))(ups:List (Nat×Nat)):∃ups',(∀ws,mapupdv .int (.map (some kb)) (.int .i64 n) (.slice 1 (y.1.map encI) (.tok y.2)) ⟨H,ws,ups⟩=some ⟨H.set kb (.map (setE (putE n y L))),wadd kb ws,ups'⟩)∧∀x∈ups',x∈ups∨x.1=kb:=by
 obtain⟨ups',h1,h2⟩:=wrote_upsK (k:=kb) (o:=.map (setE (putE n y L))) (up:=(PV.slice 1 (y.1.map encI) (.tok y.2)).top) (H:=H) (ws:=[]) (ups:=ups);refine⟨ups',fun ws=>?_,h2⟩;simp only[mapupdv,hk,isKey,if_true,putKE,Option.map];cases ht:(PV.slice 1 (y.1.map encI) (.tok y.2)).top with
 |none=>
   rw[ht,wrote_none]at h1;rw[wrote_none];have:=congrArg St.ups h1;simp only at this;rw[this]
 |some j=>
   rw[ht,wrote_some]at h1;rw[wrote_some];have:=congrArg St.ups h1;simp only at this;rw[this]
theorem app_new{H:Hp}{ws:List Nat}{ups:List (Nat×Nat)}{n:Int}:appendop 1 8 (.slice 0 [] .nil) (.slice 1 [.int .i64 n] .lit) ⟨H,ws,ups⟩=some (.slice 1 [.int .i64 n] (.tok H.length),⟨H++[.tok 1 1],ws,ups⟩):=by
 have h1:8≤room:=by decide
 have h2:1≤room:=by decide
 simp[appendop,elems,alloc,PV.cells,PV.isCell,h1,h2]
theorem app_old{H:Hp}{ws:List Nat}{ups:List (Nat×Nat)}{n:Int}{l:List Int}{kt:Nat}(hk:H[kt]?=some (.tok 1 l.length))(hl:l.length<100000):appendop 1 8 (.slice 1 (l.map encI) (.tok kt)) (.slice 1 [.int .i64 n] .lit) ⟨H,ws,ups⟩=some (.slice 1 ((l++[n]).map encI) (.tok kt),⟨H.set kt (.tok 1 (l.length+1)),wadd kt ws,ups⟩):=by
 have hroom:(l.length+1) *8≤room∧l.length+1≤room:=by
  have:10000000≤room:=by decide
  constructor<;>omega
 simp[appendop,elems,hk,hroom,wrote_none,PV.cells,PV.isCell,encI]
theorem tidy_keep{n0 k:Nat}{H:Hp}{ws:List Nat}{ups:List (Nat×Nat)}{a b d e:PV}{kb:Nat}(hk:H[k]?=some (.row 5 [.agg [a,b,d,.map (some kb),e]]))(h1:n0≤k)(h2:n0≤kb)(hw:∀x∈ws,n0≤x)(hu:∀x∈ups,n0≤x.1):tidy 0 n0 (.val (.tuple [.ptr k 0 0 1,.int .i64 0])) ⟨H,ws,ups⟩=(.val (.tuple [.ptr k 0 0 1,.int .i64 0]),⟨H,[],ups⟩):=by
 have hb:AE.below n0 ws=[]:=List.filter_eq_nil_iff.2 fun k hk=>by have:=hw k hk;simp;omega
 have hua:(ups.any fun(k,j)=>k<n0&&n0≤j)=false:=by rw[List.any_eq_false];rintro⟨k,j⟩ hx;have:=hu _ hx;simp at this⊢;omega
 have f0:∀n,frz H n0 (n+1) (.map (some kb))=none:=fun n=>by rw[frz];simp only[PV.pure,Option.isNone,Bool.false_eq_true,if_false];rw[if_neg (by omega)]
 have f1:∀n,frz H n0 (n+2) (.agg [a,b,d,.map (some kb),e])=none:=fun n=>by
  have hp:(PV.agg [a,b,d,.map (some kb),e]).pure=false:=by have:(PV.map (some kb)).pure=false:=rfl;simp[PV.pure,pures]
  rw[frz];simp only[hp,Bool.false_eq_true,if_false,List.map_cons,f0];cases frz H n0 (n+1) a<;>simp only[optAll,Option.map];cases frz H n0 (n+1) b<;>simp only[optAll,Option.map];cases frz H n0 (n+1) d<;>simp only[optAll,Option.map]
 have f2:∀n,frz H n0 (n+3) (.ptr k 0 0 1)=none:=fun n=>by rw[frz];simp only[PV.pure,Bool.false_eq_true,if_false,hk,List.length_cons,List.length_nil,List.getElem?_cons_zero,f1,Option.map];rw[if_neg (by omega)];rfl
 have f3:frz H n0 64 (.tuple [.ptr k 0 0 1,.int .i64 0])=none:=by rw[frz];simp only[PV.pure,pures,Bool.false_and,Bool.false_eq_true,if_false,List.map_cons,f2,optAll,Option.map]
 unfold tidy;rw[if_neg (by decide),if_neg (by simpa using hua)];simp only[OR.v,f3,hb]
structure TyIn (T:Tbl)(t:GTy)(r:Int):Prop where
 E103:∀h,Ev T 103 [encTy t] h (.val (.int .i64 r),⟨h,[],[]⟩)
 ok:r=0→TypP t
 G:r=0→GOk t.sig
 E87:r=0→∀h,Ev T 87 [encSig t.sig] h (.val (.int .i64 0),⟨h,[],[]⟩)
@[go_sem] theorem writes_lookup{kk:KK}{z:PV}{ok:Bool}{m i:AX}{ws:List Nat}:writesOf (.lookup kk z ok m i) ws=ws:=rfl
@[go_sem] theorem reads_lookup{kk:KK}{z:PV}{ok:Bool}{m i:AX}{e:List PV}{n:Nat}:readsOf (.lookup kk z ok m i) true e n=refl1 (ax e m)++refl1 (ax e i):=by simp[readsOf,allocOp,AOp.axs,filt_refl]
def sysN(t:GTy)(kb:Nat):PV:=.agg [.slice 1 (t.sig.sorts.map .str) .any,.slice 3 (t.sig.ops.map encOp) .any,.slice 8 (t.eqns.map encEqn) .any,.map (some kb),.nilFunc]
theorem st_sys{H:Hp}{t:GTy}{k kb kf:Nat}(hk:H[k]?=some (.row 5 [sysN t kb]))(ups:List (Nat×Nat)):
 ∃ups',(∀ws,storeAt 1 (.ptr k 0 4 1) (.func (.func 233) [] [.ptr kf 0 0 1]) ⟨H,ws,ups⟩=some ⟨H.set k (.row 5 [sysV t kb kf]),wadd k ws,ups'⟩)∧∀x∈ups',x∈ups∨x.1=k:=by
 have hu:upd (sysN t kb) 4 (.func (.func 233) [] [.ptr kf 0 0 1])=some (sysV t kb kf):=rfl;have h1:∀ws,storeAt 1 (.ptr k 0 4 1) (.func (.func 233) [] [.ptr kf 0 0 1]) ⟨H,ws,ups⟩=some (wrote k (.row 5 [sysV t kb kf]) (PV.func (.func 233) [] [.ptr kf 0 0 1]).top ⟨H,ws,ups⟩):=fun ws=>by simp only[storeAt,hk,List.length_cons,List.length_nil,PV.cells,List.all_cons,List.all_nil,PV.isCell,Bool.and_self,and_self,if_true,List.getElem?_cons_zero,hu,Option.map,List.set_cons_zero]
 cases ht:(PV.func (.func 233) [] [.ptr kf 0 0 1]).top with
 |none=>exact⟨ups,fun ws=>by rw[h1,ht,wrote_none],fun x hx=>.inl hx⟩
 |some j=>
   refine⟨_,fun ws=>by rw[h1,ht,wrote_some],fun x hx=>?_⟩;split at hx
   · rcases List.mem_cons.1 hx with rfl|h
     ·exact .inr rfl
     ·exact .inl h
   ·exact .inl hx
structure OpenX where
 ks:Nat
 kf:Nat
 kb:Nat
 es:List (PV×PV)
 H:Hp
 ups:List (Nat×Nat)
structure OpenR (h:Hp)(t:GTy)(x:OpenX):Prop where
 low:Low h.length h x.H
 sys:SysH x.H x.ks x.kf x.kb t x.es
 by_:ByOk x.es t.eqns.length
 ups:∀y∈x.ups,h.length≤y.1
 ks:h.length≤x.ks
 kb:h.length≤x.kb
include hT in
theorem open_err{t:GTy}{r:Int}(I:TyIn T t r)(hr:r≠0)(h:Hp):Ev T 186 [encTy t] h (.val (.tuple [.nilptr,.int .i64 r]),⟨h,[],[]⟩):=by
 refine hT.wk fn186 (by decide) ?_;have k1:(h++[AE.Obj.row 3 [encTy t]])[h.length]?=some (.row 3 [encTy t]):=by simp
 have low1:Low h.length h (h++[AE.Obj.row 3 [encTy t]]):=(Low.refl _ _).push (Nat.le_refl _);generalize hH1:h++[AE.Obj.row 3 [encTy t]]=H1 at*;have l1:loadAt true 3 (.ptr h.length 0 0 1) H1=some (encTy t):=by rw[ld_at k1];rfl
 have hb:(r !=0)=true:=by simpa using hr
 have td:=tidy_low (v:=.tuple [.nilptr,.int .i64 r]) (ws:=[]) rfl rfl low1 (by simp);simp(disch:=first|omega|decide|simp only[go_sem]) only[go_sem,hH1,ty_len,ty_def,List.length_cons,List.length_nil,l1,cb (I.E103 H1),hb,hT.prim,primOf,td]
include hT in
theorem open_ok{t:GTy}(I:TyIn T t 0)(h:Hp):∃x:OpenX,Ev T 186 [encTy t] h (.val (.tuple [.ptr x.ks 0 0 1,.int .i64 0]),⟨x.H,[],x.ups⟩)∧OpenR h t x:=by
 refine hT.wp (r:=fun x:OpenX=>(.val (.tuple [.ptr x.ks 0 0 1,.int .i64 0]),⟨x.H,[],x.ups⟩)) fn186 (by decide) ?_;have hnE:=(I.ok rfl).nE;have k1:(h++[AE.Obj.row 3 [encTy t]])[h.length]?=some (.row 3 [encTy t]):=by simp
 have low1:Low h.length h (h++[AE.Obj.row 3 [encTy t]]):=(Low.refl _ _).push (Nat.le_refl _);have hl1:(h++[AE.Obj.row 3 [encTy t]]).length=h.length+1:=by simp
 generalize hH1:h++[AE.Obj.row 3 [encTy t]]=H1 at*;have l1:loadAt true 3 (.ptr h.length 0 0 1) H1=some (encTy t):=by rw[ld_at k1];rfl
 have n0:((0:Int) !=0)=false:=rfl;have b2:(H1++[AE.Obj.map (setE [])])[H1.length]?=some (.map (setE [])):=by simp
 have k12:(H1++[AE.Obj.map (setE [])])[h.length]?=some (.row 3 [encTy t]):=keepL k1;have low2:Low h.length h (H1++[AE.Obj.map (setE [])]):=low1.push (by omega);have hl2:(H1++[AE.Obj.map (setE [])]).length=h.length+2:=by simp;omega
 have e2:H1++[AE.Obj.map []]=H1++[AE.Obj.map (setE [])]:=rfl;generalize hH2:H1++[AE.Obj.map (setE [])]=H2 at*;generalize hkb:H1.length=kb at*;have fb:fillC [PV.slice 0 [] .nil,.slice 0 [] .nil,.slice 0 [] .nil,.map none,.nilFunc] [(0,3,encTy t),(3,1,.map (some kb))]=some [.slice 1 (t.sig.sorts.map .str) .any,.slice 3 (t.sig.ops.map encOp) .any,.slice 8 (t.eqns.map encEqn) .any,.map (some kb),.nilFunc]:=rfl;have s3:(H2++[AE.Obj.row 5 [sysN t kb]])[H2.length]?=some (.row 5 [sysN t kb]):=by simp
 have b3:(H2++[AE.Obj.row 5 [sysN t kb]])[kb]?=some (.map (setE [])):=keepL b2;have k13:(H2++[AE.Obj.row 5 [sysN t kb]])[h.length]?=some (.row 3 [encTy t]):=keepL k12;have low3:Low h.length h (H2++[AE.Obj.row 5 [sysN t kb]]):=low2.push (by omega);have hl3:(H2++[AE.Obj.row 5 [sysN t kb]]).length=h.length+3:=by simp;omega
 have e3:H2++[AE.Obj.row 5 [.agg [.slice 1 (t.sig.sorts.map .str) .any,.slice 3 (t.sig.ops.map encOp) .any,.slice 8 (t.eqns.map encEqn) .any,.map (some kb),.nilFunc]]]=H2++[AE.Obj.row 5 [sysN t kb]]:=rfl;generalize hH3:H2++[AE.Obj.row 5 [sysN t kb]]=H3 at*;generalize hks:H2.length=ks at*;have sb:=st_last (h:=H3) (sz:=1) (ws:=[]) (ups:=[]) (c:=.nilptr) (v:=.ptr ks 0 0 1) rfl ⟨rfl,rfl⟩ (fun j hj=>by cases hj;omega);have f4:(H3++[AE.Obj.row 1 [.ptr ks 0 0 1]])[H3.length]?=some (.row 1 [.ptr ks 0 0 1]):=by simp
 have s4:(H3++[AE.Obj.row 1 [.ptr ks 0 0 1]])[ks]?=some (.row 5 [sysN t kb]):=keepL s3;have b4:(H3++[AE.Obj.row 1 [.ptr ks 0 0 1]])[kb]?=some (.map (setE [])):=keepL b3;have k14:(H3++[AE.Obj.row 1 [.ptr ks 0 0 1]])[h.length]?=some (.row 3 [encTy t]):=keepL k13;have low4:Low h.length h (H3++[AE.Obj.row 1 [.ptr ks 0 0 1]]):=low3.push (by omega);have hl4:(H3++[AE.Obj.row 1 [.ptr ks 0 0 1]]).length=h.length+4:=by simp;omega
 generalize hH4:H3++[AE.Obj.row 1 [.ptr ks 0 0 1]]=H4 at*;generalize hkf:H3.length=kf at*;have l2:loadAt false 1 (.ptr h.length 0 2 1) H4=some (.slice 8 (t.eqns.map encEqn) .any):=by rw[ld_at k14];rfl
 simp(disch:=first|omega|decide|simp only[go_sem]) only[go_sem,hH1,ty_len,ty_def,List.length_cons,List.length_nil,l1,cb (I.E103 H1),n0,e2,hkb,fb,e3,hks,hkf,sb,hH4,l2,hT.prim,primOf,List.length_map]
 refine wpC.loopM (fun g e st=> ∃(i:Nat)(H:Hp)(ws:List Nat)(ups:List (Nat×Nat))(L:List Ent),i+g=t.eqns.length∧Low h.length h H∧H[kb]?=some (.map (setE L))∧H[ks]?=some (.row 5 [sysN t kb])∧H[kf]?=some (.row 1 [.ptr ks 0 0 1])∧OkE H h.length t.eqns.length i L∧(∀x∈ws,h.length≤x)∧(∀x∈ups,h.length≤x.1)∧(eget e 5=.ptr kf 0 0 1∧eget e 18=.slice 8 (t.eqns.map encEqn) .any∧eget e 19=.int .i64 (t.eqns.length:Int)∧eget e 20=.int .i64 (i:Int))∧st=⟨H,ws,ups⟩) ?_ t.eqns.length _ _
  ⟨0,H4,_,_,[],by omega,low4,b4,s4,f4,⟨by simp,by simp,by simp⟩,wadd_low (by omega) (by simp),by simp,by simp only[go_sem,Int.natCast_zero],rfl⟩
 rintro g e st ⟨i,H,ws,ups,L,hi,low,hb,hs,hf,O,hw,hu,⟨e5,e18,e19,e20⟩,rfl⟩;have hHl:=low.len;by_cases h1:i<t.eqns.length
 · have h1':(i:Int)< (t.eqns.length:Int):=by omega
   have hx:t.eqns[i]?=some t.eqns[i]:=List.getElem?_eq_getElem h1;have ga:(t.eqns.map encEqn)[i]?=some (encEqn t.eqns[i]):=by rw[List.getElem?_map,hx];rfl
   generalize t.eqns[i]=q at*;obtain⟨c1,c2,c3⟩:=eqn_box q;have sb:=st_box (h:=H) (ws:=ws) (ups:=ups) (z:=zq8) (sz:=8) (c:=encEqn q) c1 rfl c2 (eqn_top q) ⟨_,rfl⟩ ⟨_,rfl⟩;have k5:(H++[AE.Obj.row 8 [encEqn q]])[H.length]?=some (.row 8 [encEqn q]):=by simp
   have b5:(H++[AE.Obj.row 8 [encEqn q]])[kb]?=some (.map (setE L)):=keepL hb;have s5:(H++[AE.Obj.row 8 [encEqn q]])[ks]?=some (.row 5 [sysN t kb]):=keepL hs;have f5:(H++[AE.Obj.row 8 [encEqn q]])[kf]?=some (.row 1 [.ptr ks 0 0 1]):=keepL hf;have O5:=O.keep (H':=H++[AE.Obj.row 8 [encEqn q]]) fun j m hj=>keepL hj;have low5:Low h.length h (H++[AE.Obj.row 8 [encEqn q]]):=low.push hHl;generalize hH5:H++[AE.Obj.row 8 [encEqn q]]=H5 at*;generalize hk7:H.length=k7 at*;have hl5:=low5.len;have lf:loadAt false 1 (.ptr kf 0 0 1) H5=some (.ptr ks 0 0 1):=by rw[ld_at f5];rfl
   have lm:loadAt false 1 (.ptr ks 0 3 1) H5=some (.map (some kb)):=by rw[ld_at s5];rfl
   have ln:loadAt false 1 (.ptr k7 0 3 1) H5=some (.int .i64 q.A.num0):=by rw[ld_at k5];exact eqn_An
   generalize q.A.num0=n at*;have lk:=look_E (n:=n) b5;have fe:fillE 1 (List.replicate 1 (.int .i64 0)) [(0,.int .i64 (i:Int))]=some [.int .i64 (i:Int)]:=rfl;cases hg:getE n L with
   |none=>
     rw[hg]at lk;simp only at lk;have ap:=fun ws=>app_new (H:=H5) (ws:=ws) (ups:=ups) (n:=(i:Int));have b6:(H5++[AE.Obj.tok 1 1])[kb]?=some (.map (setE L)):=keepL b5;have s6:(H5++[AE.Obj.tok 1 1])[ks]?=some (.row 5 [sysN t kb]):=keepL s5;have f6:(H5++[AE.Obj.tok 1 1])[kf]?=some (.row 1 [.ptr ks 0 0 1]):=keepL f5;have t6:(H5++[AE.Obj.tok 1 1])[H5.length]?=some (.tok 1 1):=by simp
     have O6:=O5.keep (H':=H5++[AE.Obj.tok 1 1]) fun j m hj=>keepL hj;have low6:Low h.length h (H5++[AE.Obj.tok 1 1]):=low5.push hl5;have hfr:∀x∈L,x.2.2<H5.length:=fun x hx=>(List.getElem?_eq_some_iff.1 (O5.tok x hx).1).1;generalize hH6:H5++[AE.Obj.tok 1 1]=H6 at*;generalize hkt:H5.length=kt at*;obtain⟨ups',up,hu'⟩:=upd_E (n:=n) (y:=([(i:Int)],kt)) b6 ups;have up:∀ws,mapupdv .int (.map (some kb)) (.int .i64 n) (.slice 1 [.int .i64 (i:Int)] (.tok kt)) ⟨H6,ws,ups⟩=some ⟨H6.set kb (.map (setE (putE n ([(i:Int)],kt) L))),wadd kb ws,ups'⟩:=up;have hL:=putE_new (y:=([(i:Int)],kt)) hg;simp(disch:=first|omega|decide|simp only[go_sem]) only[go_sem,a186b0,e5,e18,e19,e20,h1,h1',ga,eqn_all,hk7,sb,hH5,lf,lm,ln,lk,fe,ap,hH6,hkt,up,List.length_cons,List.length_nil,List.length_map];refine⟨g - 1,by omega,i+1,_,_,_,_,by omega,low6.trans (.set (by omega)),get_set b6,get_set_ne s6 (by omega),get_set_ne f6 (by omega),?_,?_,fun x hx=>?_,rfl,rfl⟩
     · rw[hL];have hne:∀(j m:Nat),H6[j]?=some (.tok 1 m)→kb≠j:=fun j m hj he=>by subst he;rw[b6]at hj;cases hj
       refine⟨fun x hx=>?_,fun x hx=>?_,?_⟩
       · rcases List.mem_append.1 hx with hx|hx
         ·exact⟨get_set_ne (O6.tok x hx).1 (hne _ _ (O6.tok x hx).1),(O6.tok x hx).2⟩
         · rw[List.mem_singleton.1 hx];exact⟨get_set_ne t6 (hne _ _ t6),by simp only;omega⟩
       · rcases List.mem_append.1 hx with hx|hx
         ·exact⟨(O.idx x hx).1,by have:=(O.idx x hx).2;omega⟩
         · rw[List.mem_singleton.1 hx];refine⟨fun j hj=>?_,by simp⟩;rw[List.mem_singleton.1 hj];omega
       · rw[List.map_append,List.nodup_append];refine⟨O.nd,by simp,fun a ha b hb=>?_⟩;obtain⟨x,hx,rfl⟩:=List.mem_map.1 ha;have:=hfr x hx;simp only[List.map_cons,List.map_nil,List.mem_singleton]at hb;omega
     · first
        |exact wall_low (wadd_low (by omega) (by simp)) (wadd_low (by omega) hw)
        |done
     · rcases hu' x hx with h|h
       ·exact hu x h
       ·omega
   |some y=>
     obtain⟨l,kt⟩:=y;rw[hg]at lk;simp only at lk;obtain⟨t5,hkt⟩:=O5.tok _ (getE_mem hg);obtain⟨i5,n5⟩:=O.idx _ (getE_mem hg);simp only at t5 hkt i5 n5;have ap:=fun ws=>app_old (H:=H5) (ws:=ws) (ups:=ups) (n:=(i:Int)) t5 (by omega);have hne:∀(o:AE.Obj)(j:Nat),o.isTok=false→H5[j]?=some o→kt≠j:=fun o j ho hj he=>by subst he;rw[t5]at hj;cases hj;cases ho
     have b6:=get_set_ne (o':=AE.Obj.tok 1 (l.length+1)) b5 (hne _ _ rfl b5);have s6:=get_set_ne (o':=AE.Obj.tok 1 (l.length+1)) s5 (hne _ _ rfl s5);have f6:=get_set_ne (o':=AE.Obj.tok 1 (l.length+1)) f5 (hne _ _ rfl f5);have t6:=get_set (o':=AE.Obj.tok 1 (l.length+1)) t5;have r6:∀(j m:Nat),j≠kt→H5[j]?=some (.tok 1 m)→(H5.set kt (.tok 1 (l.length+1)))[j]?=some (.tok 1 m):=fun j m hj h=>get_set_ne h (Ne.symm hj);have low6:Low h.length h (H5.set kt (.tok 1 (l.length+1))):=low5.trans (.set hkt);generalize hH6:H5.set kt (.tok 1 (l.length+1))=H6 at*;obtain⟨ups',up,hu'⟩:=upd_E (n:=n) (y:=(l++[(i:Int)],kt)) b6 ups;simp only at up;simp(disch:=first|omega|decide|simp only[go_sem]) only[go_sem,a186b0,e5,e18,e19,e20,h1,h1',ga,eqn_all,hk7,sb,hH5,lf,lm,ln,lk,fe,ap,hH6,up,List.length_cons,List.length_nil,List.length_map];refine⟨g - 1,by omega,i+1,_,_,_,_,by omega,low6.trans (.set (by omega)),get_set b6,get_set_ne s6 (by omega),get_set_ne f6 (by omega),?_,?_,fun x hx=>?_,rfl,rfl⟩
     · have hnb:∀(j m:Nat),H6[j]?=some (.tok 1 m)→kb≠j:=fun j m hj he=>by subst he;rw[b6]at hj;cases hj
       refine⟨fun x hx=>?_,fun x hx=>?_,by rw[putE_kt hg];exact O.nd⟩
       · rcases putE_old hg O.nd x hx with rfl|⟨hx,hk⟩
         ·exact⟨get_set_ne (by simpa using t6) (hnb _ _ t6),hkt⟩
         · have:=r6 _ _ hk (O5.tok x hx).1;exact⟨get_set_ne this (hnb _ _ this),(O5.tok x hx).2⟩
       · rcases putE_old hg O.nd x hx with rfl|⟨hx,hk⟩
         · refine⟨fun j hj=>?_,by simp;omega⟩;rcases List.mem_append.1 hj with h|h
           ·exact i5 j h
           · rw[List.mem_singleton.1 h];omega
         ·exact⟨(O.idx x hx).1,by have:=(O.idx x hx).2;omega⟩
     · first
        |exact wall_low (wadd_low (by omega) (by simp)) (wall_low (wadd_low (by omega) (by simp)) (wadd_low (by omega) hw))
        |done
     · rcases hu' x hx with h|h
       ·exact hu x h
       ·omega
 · have h1':¬(i:Int)< (t.eqns.length:Int):=by omega
   have lf:loadAt false 1 (.ptr kf 0 0 1) H=some (.ptr ks 0 0 1):=by rw[ld_at hf];rfl
   obtain⟨ups',sv,hu'⟩:=st_sys (kf:=kf) hs ups;have s9:=get_set (o':=AE.Obj.row 5 [sysV t kb kf]) hs;have f9:=get_set_ne (o':=AE.Obj.row 5 [sysV t kb kf]) hf (show ks≠kf by omega);have b9:=get_set_ne (o':=AE.Obj.row 5 [sysV t kb kf]) hb (show ks≠kb by omega);have lf9:loadAt false 1 (.ptr kf 0 0 1) (H.set ks (.row 5 [sysV t kb kf]))=some (.ptr ks 0 0 1):=by rw[ld_at f9];rfl
   have hu9:∀x∈ups',h.length≤x.1:=fun x hx=>by
    rcases hu' x hx with h|h
    ·exact hu x h
    ·omega
   have td:=tidy_keep (n0:=h.length) (ws:=wadd ks ws) (ups:=ups') s9 (by omega) (by omega) (wadd_low (by omega) hw) hu9;simp(disch:=first|omega|decide|simp only[go_sem]) only[go_sem,a186b0,e5,e18,e19,e20,h1',lf,sv,lf9,td];exact⟨⟨ks,kf,kb,setE L,_,ups'⟩,rfl,low.trans (.set (by omega)),⟨s9,f9,b9⟩,O.by_ (by omega),hu9,by simp only;omega,by simp only;omega⟩
include hT in
theorem res_ev{t:GTy}{H:Hp}{ks kf kb:Nat}{es:List (PV×PV)}(S:SysH H ks kf kb t es){u:Tm}{X:PV}(hX:Enc u X)(hu:treeB u=true):
 ∃x:Int×Bool,Ev T 199 [.ptr ks 0 0 1,X] H (.val (.tuple [.int .i64 x.1,.bool x.2]),⟨H,[],[]⟩)∧True:=by
 refine hT.wp (r:=fun x:Int×Bool=>(.val (.tuple [.int .i64 x.1,.bool x.2]),⟨H,[],[]⟩)) fn199 (by decide) ?_;obtain⟨c1,c2,c3,c4⟩:=hX.cells;obtain⟨k,n,l,sz,qs,rfl,hXe,hz,hE⟩:=hX.eq;have hsh:=treeB_shaped hu;simp only[shapedF,Bool.and_eq_true,decide_eq_true_eq]at hsh;obtain⟨N,rfl⟩:=Int.eq_ofNat_of_zero_le hsh.1.1.1.1;have k1:(H++[AE.Obj.row 3 [X]])[H.length]?=some (.row 3 [X]):=by simp
 have low1:Low H.length H (H++[AE.Obj.row 3 [X]]):=(Low.refl _ _).push (Nat.le_refl _);have S1:=S.push (o:=AE.Obj.row 3 [X]);generalize hH1:H++[AE.Obj.row 3 [X]]=H1 at*;have l0:loadAt false 1 (.ptr H.length 0 0 1) H1=some (.int .i64 k):=by rw[ld_at k1,hXe];rfl
 have l1:loadAt false 1 (.ptr H.length 0 1 1) H1=some (.int .i64 (N:Int)):=by rw[ld_at k1,hXe];rfl
 have ls:loadAt false 1 (.ptr ks 0 1 1) H1=some (.slice 3 (t.sig.ops.map encOp) .any):=by rw[ld_at S1.sys];rfl
 have td:∀(a:Int)(b:Bool),tidy 0 H.length (.val (.tuple [.int .i64 a,.bool b])) ⟨H1,[],[]⟩=(.val (.tuple [.int .i64 a,.bool b]),⟨H,[],[]⟩):=fun a b=>tidy_low rfl rfl low1 (by simp);by_cases hk:k=2
 · have hb:(k !=2)=false:=by simpa using hk
   have hn:¬(N:Int)<0:=by omega
   by_cases hN:t.sig.ops.length≤N
   · simp(disch:=first|omega|decide|simp only[go_sem]) only[go_sem,hH1,c1,c3,List.length_cons,List.length_nil,List.length_map,l0,l1,ls,hb,hn,hN,hT.prim,primOf,td];exact⟨(0,false),rfl,trivial⟩
   · have hN':N<t.sig.ops.length:=by omega
     have go:=get_op hN';have so2:AE.sub false 1 (encOp t.sig.ops[N]) 2=some (.int .i64 t.sig.ops[N].res):=rfl;simp(disch:=first|omega|decide|simp only[go_sem]) only[go_sem,hH1,c1,c3,List.length_cons,List.length_nil,List.length_map,l0,l1,ls,hb,hn,hN,hN',go,so2,hT.prim,primOf,td];exact⟨(t.sig.ops[N].res,true),rfl,trivial⟩
 · have hb:(k !=2)=true:=by simpa using hk
   simp(disch:=first|omega|decide|simp only[go_sem]) only[go_sem,hH1,c1,c3,List.length_cons,List.length_nil,List.length_map,l0,l1,ls,hb,hT.prim,primOf,td];exact⟨(0,false),rfl,trivial⟩
include hT in
theorem term_ev{t:GTy}(I:TyIn T t 0){H:Hp}{ks kf kb:Nat}{es:List (PV×PV)}(S:SysH H ks kf kb t es){u:Tm}{X:PV}(hX:Enc u X):
 ∃b:Bool,Ev T 188 [.ptr ks 0 0 1,X] H (.val (.bool b),⟨H,[],[]⟩)∧(b=true→treeB u=true):=by
 refine hT.wp (r:=fun b:Bool=>(.val (.bool b),⟨H,[],[]⟩)) fn188 (by decide) ?_;obtain⟨c1,c2,c3,c4⟩:=hX.cells;have k1:(H++[AE.Obj.row 3 [X]])[H.length]?=some (.row 3 [X]):=by simp
 have low1:Low H.length H (H++[AE.Obj.row 3 [X]]):=(Low.refl _ _).push (Nat.le_refl _);have S1:=S.push (o:=AE.Obj.row 3 [X]);generalize hH1:H++[AE.Obj.row 3 [X]]=H1 at*;have la:loadAt true 3 (.ptr H.length 0 0 1) H1=some X:=by rw[ld_at k1];exact hX.sub
 have l0:loadAt false 1 (.ptr H.length 0 0 1) H1=some (.int .i64 u.kind):=by rw[ld_at k1];exact hX.kind
 have td:∀(b:Bool),tidy 0 H.length (.val (.bool b)) ⟨H1,[],[]⟩=(.val (.bool b),⟨H,[],[]⟩):=fun b=>tidy_low rfl rfl low1 (by simp);have ev:=treeX_ev hT hX.m H1;have n0:((0:Int) !=0)=false:=rfl;have n4:((4:Int) !=0)=true:=rfl;cases hb:treeB u
 · rw[hb]at ev;simp only[Bool.false_eq_true,if_false]at ev;simp(disch:=first|omega|decide|simp only[go_sem]) only[go_sem,hH1,c1,c3,List.length_cons,List.length_nil,la,cb ev,n4,hT.prim,primOf,td];exact⟨false,rfl,by simp⟩
 · rw[hb]at ev;simp only[if_true]at ev;by_cases hk:u.kind=1
   · have hk':(u.kind==1)=true:=by simpa using hk
     simp(disch:=first|omega|decide|simp only[go_sem]) only[go_sem,hH1,c1,c3,List.length_cons,List.length_nil,la,l0,cb ev,n0,hk',hT.prim,primOf,td];exact⟨true,rfl,by simp⟩
   · have hk':(u.kind==1)=false:=by simpa using hk
     obtain⟨⟨r,b⟩,evr,_⟩:=res_ev hT S1 hX hb;simp only at evr;cases b
     · simp(disch:=first|omega|decide|simp only[go_sem]) only[go_sem,hH1,c1,c3,List.length_cons,List.length_nil,la,l0,cb ev,n0,hk',cb evr,Bool.not_false,hT.prim,primOf,td];exact⟨false,rfl,by simp⟩
     · have ls:loadAt true 2 (.ptr ks 0 0 1) H1=some (encSig t.sig):=by rw[ld_at S1.sys];rfl
       have f1:=fe_1 (p:=X) ⟨c1,c3⟩;have f2:fillE 1 (List.replicate 1 (.int .i64 0)) [(0,.int .i64 r)]=some [.int .i64 r]:=rfl
       obtain⟨⟨zs,e⟩,evi,_⟩:=infer_ev hT (I.G rfl) (I.E87 rfl) (l:=[u]) (sz:=3) (es:=[X]) (m:=.lit) (m2:=.lit) (.inr rfl) ⟨rfl,fun i x q h1 h2=>by
        cases i with
        |zero=>simp at h1 h2;subst h1 h2;exact hX
        |succ i=>simp at h1⟩ (by simp) (sorts:=[r]) (by simp) H1
       simp only[infV]at evi;have evi:Ev T 200 [encSig t.sig,.slice 3 [X] .lit,.slice 1 [.int .i64 r] .lit] H1 _:=evi;simp(disch:=first|omega|decide|simp only[go_sem]) only[go_sem,hH1,c1,c3,List.length_cons,List.length_nil,la,l0,cb ev,n0,hk',cb evr,Bool.not_true,ls,f1,f2,cb evi,hT.prim,primOf,td];exact⟨_,rfl,by simp⟩
include hT in
theorem term187_ev{t:GTy}(I:TyIn T t 0){H:Hp}{ks kf kb kp:Nat}{es:List (PV×PV)}(S:SysH H ks kf kb t es)(hp:H[kp]?=some (.row 1 [.ptr ks 0 0 1])){u:Tm}{X:PV}(hX:Enc u X):
 ∃b:Bool,Ev T 187 [X,.ptr kp 0 0 1] H (.val (.bool b),⟨H,[],[]⟩)∧(b=false→treeB u=true):=by
 refine hT.wp (r:=fun b:Bool=>(.val (.bool b),⟨H,[],[]⟩)) fn187 (by decide) ?_;obtain⟨c1,c2,c3,c4⟩:=hX.cells;have k1:(H++[AE.Obj.row 3 [X]])[H.length]?=some (.row 3 [X]):=by simp
 have p1:(H++[AE.Obj.row 3 [X]])[kp]?=some (.row 1 [.ptr ks 0 0 1]):=keepL hp;have low1:Low H.length H (H++[AE.Obj.row 3 [X]]):=(Low.refl _ _).push (Nat.le_refl _);have S1:=S.push (o:=AE.Obj.row 3 [X]);generalize hH1:H++[AE.Obj.row 3 [X]]=H1 at*;have la:loadAt true 3 (.ptr H.length 0 0 1) H1=some X:=by rw[ld_at k1];exact hX.sub
 have lp:loadAt false 1 (.ptr kp 0 0 1) H1=some (.ptr ks 0 0 1):=by rw[ld_at p1];rfl
 have td:∀(b:Bool),tidy 0 H.length (.val (.bool b)) ⟨H1,[],[]⟩=(.val (.bool b),⟨H,[],[]⟩):=fun b=>tidy_low rfl rfl low1 (by simp);obtain⟨b,ev,hb⟩:=term_ev hT I S1 hX;simp(disch:=first|omega|decide|simp only[go_sem]) only[go_sem,hH1,c1,c3,List.length_cons,List.length_nil,la,lp,cb ev,hT.prim,primOf,td];exact⟨!b,rfl,fun h=>hb (by simpa using h)⟩
include hT in
theorem contains48_p{P:Tm→Prop}{g:FuncId}{cap:List PV}{h:Hp}(hg:T.prim g=none){l:List Tm}{sz:Nat}{es:List PV}{m:SM}(hs:es=[]∨sz=3)(hE:EncL l es)
 (hf:∀(i:Nat)(x:Tm)(p:PV),l[i]?=some x→es[i]?=some p→∃b:Bool,Ev T g (p::cap) h (.val (.bool b),⟨h,[],[]⟩)∧(b=false→P x))(hal:es.length<1000000):
 ∃b:Bool,Ev T 48 [.slice sz es m,.func (.func g) [] cap] h (.val (.bool b),⟨h,[],[]⟩)∧(b=false→∀x∈l,P x):=by
 have hl:=hE.1
 have W:∃r:Int,Ev T 135 [.slice sz es m,.func (.func g) [] cap] h (.val (.int .i64 r),⟨h,[],[]⟩)∧(¬0≤r→∀x∈l,P x):=by
  refine hT.wp fn135 (by decide) ?_;simp(disch:=first|omega|decide|simp only[go_sem]) only[go_sem];refine wpC.loopM (fun n e s=> ∃i:Nat,i+n=es.length∧eget e 0=.slice sz es m∧eget e 1=.func (.func g) [] cap∧eget e 7=.int .i64 (es.length:Int)∧eget e 8=.int .i64 (i:Int)∧(∀j (hj:j<l.length),j<i→P l[j])∧s=⟨h,[],[]⟩) ?_ es.length _ _ ⟨0,by simp,by simp only[go_sem],by simp only[go_sem],by simp only[go_sem],by simp only[go_sem];rfl,fun j _ hj=>by omega,rfl⟩;rintro n e s ⟨i,hi,e0,e1,e7,e8,hp,rfl⟩;by_cases h1:i<es.length
  · have ga:=get_lt h1;have hx:l[i]?=some l[i]:=List.getElem?_eq_getElem (by omega);obtain⟨b,ev,hb⟩:=hf i l[i] es[i] hx ga;have bs:=(hE.2 i l[i] es[i] hx ga).sub
    have hsz:sz=3:=by
     rcases hs with rfl|h
     ·simp at h1
     ·exact h
    subst hsz;cases b
    · simp(disch:=first|omega|decide|simp only[go_sem]) only[go_sem,a135b0,e0,e1,e7,e8,h1,ga,bs,hg,cb ev];refine⟨n - 1,by omega,i+1,by omega,rfl,fun j hj hji=>?_,trivial⟩;by_cases hjj:j=i
      ·subst hjj;exact hb rfl
      ·exact hp j hj (by omega)
    · simp(disch:=first|omega|decide|simp only[go_sem]) only[go_sem,a135b0,e0,e1,e7,e8,h1,ga,bs,hg,cb ev];exact⟨(i:Int),rfl,fun h=>by omega⟩
  · simp(disch:=first|omega|decide|simp only[go_sem]) only[go_sem,a135b0,e0,e1,e7,e8,h1];refine⟨_,rfl,fun _ x hx=>?_⟩;obtain⟨j,hj,rfl⟩:=List.getElem_of_mem hx;exact hp j hj (by omega)
 obtain⟨r,ev,hr⟩:=W;refine hT.wp (r:=fun b:Bool=>(.val (.bool b),⟨h,[],[]⟩)) fn48 (by decide) ?_;simp(disch:=first|omega|decide|simp only[go_sem]) only[go_sem,cb ev,hT.prim,primOf];exact⟨_,rfl,fun h=>hr (by simpa using h)⟩
include hT in
theorem asked_err{t:GTy}{r:Int}(I:TyIn T t r)(hr:r≠0)(l:PV)(h:Hp):Ev T 136 [encTy t,l] h (.val (.tuple [.nilptr,.int .i64 r]),⟨h,[],[]⟩):=by
 refine hT.wk fn136 (by decide) ?_;have k1:(h++[AE.Obj.row 3 [encTy t]])[h.length]?=some (.row 3 [encTy t]):=by simp
 have low1:Low h.length h (h++[AE.Obj.row 3 [encTy t]]):=(Low.refl _ _).push (Nat.le_refl _);generalize hH1:h++[AE.Obj.row 3 [encTy t]]=H1 at*;have l1:loadAt true 3 (.ptr h.length 0 0 1) H1=some (encTy t):=by rw[ld_at k1];rfl
 have hb:(r !=0)=true:=by simpa using hr
 have sb:=st_last (h:=H1) (sz:=1) (ws:=[]) (ups:=[]) (c:=.nilptr) (v:=.nilptr) rfl ⟨rfl,rfl⟩ (fun j hj=>by cases hj);have hHl:=low1.len;have td:=tidy_low (v:=.tuple [.nilptr,.int .i64 r]) (ws:=wadd H1.length []) rfl rfl (low1.push (o:=AE.Obj.row 1 [.nilptr]) hHl) (wadd_low hHl (by simp));simp(disch:=first|omega|decide|simp only[go_sem]) only[go_sem,hH1,ty_len,ty_def,List.length_cons,List.length_nil,l1,cb (open_err hT I hr H1),sb,hb,hT.prim,primOf,td]
inductive AskR (T:Tbl)(t:GTy)(us:List Tm)(h:Hp)(l:PV):Prop
 |no (ev:Ev T 136 [encTy t,l] h (.val (.tuple [.nilptr,.int .i64 4]),⟨h,[],[]⟩)):AskR T t us h l
 |yes (x:OpenX)(R:OpenR h t x)(hu:∀u∈us,treeB u=true)(ev:Ev T 136 [encTy t,l] h (.val (.tuple [.ptr x.ks 0 0 1,.int .i64 0]),⟨x.H,[],x.ups⟩)):AskR T t us h l
include hT in
theorem asked_ok{t:GTy}(I:TyIn T t 0){us:List Tm}{es:List PV}{m:SM}(hE:EncL us es)(hl:es.length<1000)(h:Hp):AskR T t us h (.slice 3 es m):=by
 have k1:(h++[AE.Obj.row 3 [encTy t]])[h.length]?=some (.row 3 [encTy t]):=by simp
 have low1:Low h.length h (h++[AE.Obj.row 3 [encTy t]]):=(Low.refl _ _).push (Nat.le_refl _);have hl1:(h++[AE.Obj.row 3 [encTy t]]).length=h.length+1:=by simp
 have W:∃x:OR×St,Ev T 136 [encTy t,.slice 3 es m] h x∧((x.1=.val (.tuple [.nilptr,.int .i64 4])∧x.2=⟨h,[],[]⟩)∨∃y:OpenX,OpenR h t y∧(∀u∈us,treeB u=true)∧x.1=.val (.tuple [.ptr y.ks 0 0 1,.int .i64 0])∧x.2=⟨y.H,[],y.ups⟩):=by
  refine hT.wp (r:=fun x:OR×St=>x) fn136 (by decide) ?_;generalize hH1:h++[AE.Obj.row 3 [encTy t]]=H1 at*;have l1:loadAt true 3 (.ptr h.length 0 0 1) H1=some (encTy t):=by rw[ld_at k1];rfl
  obtain⟨⟨ks,kf,kb,es',H,ups⟩,evo,low,S,hBy,hups,hks,hkb⟩:=open_ok hT I H1;simp only at evo low S hBy hups hks hkb;have hHl:=low.len;have low2:Low h.length h H:=low1.comp low (by omega);obtain⟨s1,s2,s3⟩:=S.lt;have sb:=fun ws ups=>st_last (h:=H) (sz:=1) (ws:=ws) (ups:=ups) (c:=.nilptr) (v:=.ptr ks 0 0 1) rfl ⟨rfl,rfl⟩ (fun j hj=>by cases hj;omega);have p3:(H++[AE.Obj.row 1 [.ptr ks 0 0 1]])[H.length]?=some (.row 1 [.ptr ks 0 0 1]):=by simp
  have S3:=S.push (o:=AE.Obj.row 1 [.ptr ks 0 0 1]);have low3:Low h.length h (H++[AE.Obj.row 1 [.ptr ks 0 0 1]]):=low2.push (by omega);generalize hH3:H++[AE.Obj.row 1 [.ptr ks 0 0 1]]=H3 at*;generalize hkp:H.length=kp at*;have n0:((0:Int) !=0)=false:=rfl;obtain⟨b,ev,hb⟩:=contains48_p hT (P:=fun x=>treeB x=true) (g:=187) (cap:=[.ptr kp 0 0 1]) (h:=H3) (m:=m) (by rw[hT.prim];rfl) (.inr rfl) hE (fun i x p hx hp=>term187_ev hT I S3 p3 (hE.2 i x p hx hp)) (by omega);have lp:loadAt false 1 (.ptr kp 0 0 1) H3=some (.ptr ks 0 0 1):=by rw[ld_at p3];rfl
  have hu3:∀y∈ups,h.length≤y.1:=fun y hy=>by have:=hups y hy;omega
  have hw3:∀x∈wadd kp [],h.length≤x:=wadd_low (by omega) (by simp);cases b
  · have td:=tidy_keep (n0:=h.length) (ws:=wadd kp []) (ups:=ups) S3.sys (by omega) (by omega) hw3 hu3;simp(disch:=first|omega|decide|simp only[go_sem]) only[go_sem,hH1,ty_len,ty_def,List.length_cons,List.length_nil,l1,cb evo,sb,hkp,hH3,n0,cb ev,lp,hT.prim,primOf,td];exact⟨(_,_),rfl,.inr ⟨⟨ks,kf,kb,es',H3,ups⟩,⟨low3,S3,hBy,hu3,by simp only;omega,by simp only;omega⟩,hb rfl,rfl,rfl⟩⟩
  · have td:=tidy_ups (v:=.tuple [.nilptr,.int .i64 4]) (ups:=ups) (ws:=wadd kp []) rfl low3 hw3 hu3;simp(disch:=first|omega|decide|simp only[go_sem]) only[go_sem,hH1,ty_len,ty_def,List.length_cons,List.length_nil,l1,cb evo,sb,hkp,hH3,n0,cb ev,lp,hT.prim,primOf,td];exact⟨(_,_),rfl,.inl ⟨rfl,rfl⟩⟩
 obtain⟨⟨r,st⟩,ev,⟨h1,h2⟩|⟨y,h1,h2,h3,h4⟩⟩:=W
 · simp only at h1 h2;subst h1 h2;exact .no ev
 · simp only at h3 h4;subst h3 h4;exact .yes y h1 h2 ev
def NormX(x:PV×Int):Prop:=(x.2=0∧RowE x.1)∨(x.2≠0∧x.1=zTerm)
include hT in
theorem normal50_ev(h50:T.sp 50=none)(h189:T.sp 189=some (AE'.guardedSp 260 2)){t:GTy}{r:Int}(I:TyIn T t r){u:Tm}{X:PV}(hX:Enc u X)(h:Hp):
 ∃x:PV×Int,Ev T 50 [encTy t,X] h (.val (.tuple [x.1,.int .i64 x.2]),⟨h,[],[]⟩)∧NormX x:=by
 refine Ev.walkP (r:=fun x:PV×Int=>(.val (.tuple [x.1,.int .i64 x.2]),⟨h,[],[]⟩)) h50 ((hT.fn _).trans fn50) (hT.mode _) rfl ?_;obtain⟨c1,c2,c3,c4⟩:=hX.cells;have k1:(h++[AE.Obj.row 3 [encTy t]])[h.length]?=some (.row 3 [encTy t]):=by simp
 have low1:Low h.length h (h++[AE.Obj.row 3 [encTy t]]):=(Low.refl _ _).push (Nat.le_refl _);have hl1:(h++[AE.Obj.row 3 [encTy t]]).length=h.length+1:=by simp
 generalize hH1:h++[AE.Obj.row 3 [encTy t]]=H1 at*;have x2:(H1++[AE.Obj.row 3 [X]])[H1.length]?=some (.row 3 [X]):=by simp
 have k2:(H1++[AE.Obj.row 3 [X]])[h.length]?=some (.row 3 [encTy t]):=keepL k1;have low2:Low h.length h (H1++[AE.Obj.row 3 [X]]):=low1.push (by omega);have hl2:(H1++[AE.Obj.row 3 [X]]).length=h.length+2:=by simp;omega
 generalize hH2:H1++[AE.Obj.row 3 [X]]=H2 at*;generalize hkx:H1.length=kx at*;have z3:(H2++[AE.Obj.row 3 [zN]])[H2.length]?=some (.row 3 [zN]):=by simp
 have x3:(H2++[AE.Obj.row 3 [zN]])[kx]?=some (.row 3 [X]):=keepL x2;have k3:(H2++[AE.Obj.row 3 [zN]])[h.length]?=some (.row 3 [encTy t]):=keepL k2;have low3:Low h.length h (H2++[AE.Obj.row 3 [zN]]):=low2.push (by omega);have hl3:(H2++[AE.Obj.row 3 [zN]]).length=h.length+3:=by simp;omega
 have e3:H2++[AE.Obj.row 3 [zq3]]=H2++[AE.Obj.row 3 [zN]]:=rfl;generalize hH3:H2++[AE.Obj.row 3 [zN]]=H3 at*;generalize hkr:H2.length=kr at*;have l1:loadAt true 3 (.ptr h.length 0 0 1) H3=some (encTy t):=by rw[ld_at k3];rfl
 have lx:loadAt true 3 (.ptr kx 0 0 1) H3=some X:=by rw[ld_at x3];exact hX.sub
 have f1:=fe_1 (p:=X) ⟨c1,c3⟩;have f0:fillC [PV.int .i64 0,.int .i64 0,.slice 0 [] .nil] []=some [.int .i64 0,.int .i64 0,.slice 0 [] .nil]:=rfl;have n0:((0:Int) !=0)=false:=rfl
 have er:∀e:Int,e≠0→Ev T 136 [encTy t,.slice 3 [X] .lit] H3 (.val (.tuple [.nilptr,.int .i64 e]),⟨H3,[],[]⟩)→wpC T a50.code [encTy t,X] ⟨h,[],[]⟩ (fin a50.res 0 h.length fun x=> ∃a:PV×Int,x=(.val (.tuple [a.1,.int .i64 a.2]),⟨h,[],[]⟩)∧NormX a):=fun e he ev=>by
  have hb:(e !=0)=true:=by simpa using he
  have sv:=fun ws ups=>st_slot (Q:=.agg [.int .i64 0,.int .i64 0,.slice 0 [] .nil]) (ws:=ws) (ups:=ups) (n:=1) (N:=0) z3 rfl rfl ⟨rfl,_,rfl⟩ ⟨rfl,rfl,_,rfl⟩ rfl;simp only[List.set_cons_zero]at sv;have lo:loadAt true 3 (.ptr kr 0 0 1) (H3.set kr (.row 3 [.agg [.int .i64 0,.int .i64 0,.slice 0 [] .nil]]))=some zN:=by rw[ld_at (get_set z3)];rfl
  have td:=tidy_ups (v:=.tuple [zN,.int .i64 e]) (ups:=[]) (ws:=wadd kr []) rfl (low3.trans (.set (show h.length≤kr by omega)):Low h.length h (H3.set kr (.row 3 [.agg [.int .i64 0,.int .i64 0,.slice 0 [] .nil]]))) (wadd_low (by omega) (by simp)) (by simp);simp(disch:=first|omega|decide|simp only[go_sem]) only[go_sem,a50,hH1,hkx,hH2,e3,hkr,c1,c3,ty_len,ty_def,l1,lx,f1,cb ev,hb,f0,sv,resv,lo,hT.prim,primOf,List.length_cons,List.length_nil,td];exact⟨(zTerm,e),rfl,.inr ⟨he,rfl⟩⟩
 by_cases hr:r=0;rotate_left
 ·exact er r hr (asked_err hT I hr _ H3)
 subst hr
 rcases asked_ok hT I (us:=[u]) (es:=[X]) (m:=.lit) ⟨rfl,fun i x q h1 h2=>by
  cases i with
  |zero=>simp at h1 h2;subst h1 h2;exact hX
  |succ i=>simp at h1⟩ (by simp) H3 with ev|⟨⟨ks,kf,kb,es',H,ups⟩,R,hu,ev⟩
 ·exact er 4 (by decide) ev
 obtain⟨low,S,hBy,hups,hks,hkb⟩:=R;simp only at low S hBy hups hks hkb ev;have hHl:=low.len;have low4:Low h.length h H:=low3.comp low (by omega);have x4:=low.get (show kx<H3.length by omega) x3;have z4:=low.get (show kr<H3.length by omega) z3;have lx4:loadAt true 3 (.ptr kx 0 0 1) H=some X:=by rw[ld_at x4];exact hX.sub
 obtain⟨⟨q,e⟩,evv,hq⟩:=value_ev hT h189 (I.ok rfl).eqns S hBy hX (hu u (by simp));simp only at evv hq
 have hq3:q.cells.length=3∧q.cells.all PV.isCell=true∧(∃cs,q=.agg cs)∧q.top=none∧q.pure=true∧q.weak=q∧AE.sub true 3 q 0=some q:=by
  rcases hq with⟨_,w,hw,_⟩|⟨_,rfl⟩
  · obtain⟨y1,y2,y3,y4⟩:=hw.cells;exact⟨y1,y2,y4,hw.facts.1,hw.facts.2.1,hw.facts.2.2,hw.sub⟩
  ·exact⟨rfl,rfl,⟨_,rfl⟩,rfl,rfl,rfl,rfl⟩
 obtain⟨q1,q2,q4,q5,q6,q7,q8⟩:=hq3;have sv:=fun ws ups=>st_slot (ws:=ws) (ups:=ups) (n:=1) (N:=0) z4 rfl rfl ⟨rfl,_,rfl⟩ ⟨q1,q2,q4⟩ q5;simp only[List.set_cons_zero]at sv;have lo:loadAt true 3 (.ptr kr 0 0 1) (H.set kr (.row 3 [q]))=some q:=by rw[ld_at (get_set z4)];exact q8
 have hu3:∀y∈ups,h.length≤y.1:=fun y hy=>by have:=hups y hy;omega
 have td:=tidy_ups (v:=.tuple [q,.int .i64 e]) (ups:=ups) (ws:=wadd kr []) (by simp[PV.pure,pures,q6]) (low4.trans (.set (show h.length≤kr by omega)):Low h.length h (H.set kr (.row 3 [q]))) (wadd_low (by omega) (by simp)) hu3;simp only[PV.weak,weaks,q7]at td;simp(disch:=first|omega|decide|simp only[go_sem]) only[go_sem,hH1,hkx,hH2,e3,hkr,c1,c3,ty_len,ty_def,l1,lx,f1,cb ev,n0,lx4,cb evv,sv,resv,lo,hT.prim,primOf,List.length_cons,List.length_nil,td];refine⟨(q,e),rfl,?_⟩;rcases hq with⟨h1,h2⟩|⟨h1,h2⟩
 ·exact .inl ⟨h1,h2⟩
 ·exact .inr ⟨by simp only;omega,h2⟩
def cmpI(a b:Int):Int:=if a<b then -1 else if b<a then 1 else 0
mutual
def tmC:Tm→Tm→Int
 |.mk k n l,.mk k' n' l'=>if cmpI k k'≠0 then cmpI k k' else if cmpI n n'≠0 then cmpI n n' else if cmpI l.length l'.length≠0 then cmpI l.length l'.length else tmCL l l'
def tmCL:List Tm→List Tm→Int
 |[],[]=>0
 |[],_::_=> -1
 |_::_,[]=>1
 |x::l,y::l'=>if tmC x y≠0 then tmC x y else tmCL l l'
end
theorem cmpI_refl(a:Int):cmpI a a=0:=by simp[cmpI]
theorem cmpI_zero{a b:Int}:cmpI a b=0↔a=b:=by
 unfold cmpI;split
 · constructor
   ·intro h;cases h
   ·intro h;omega
 · split
   · constructor
     ·intro h;cases h
     ·intro h;omega
   · constructor
     ·intro _;omega
     ·intro _;rfl
theorem cmpI_neg{a b:Int}:cmpI a b<0↔a<b:=by
 unfold cmpI;split
 · constructor
   ·intro _;assumption
   ·intro _;decide
 · split
   · constructor
     ·intro h;exact absurd h (by decide)
     ·intro h;omega
   · constructor
     ·intro h;exact absurd h (by decide)
     ·intro h;omega
mutual
theorem tmC_refl:∀t:Tm,tmC t t=0
 |.mk k n l=>by simp[tmC,cmpI_refl,tmCL_refl l]
theorem tmCL_refl:∀l:List Tm,tmCL l l=0
 |[]=>by simp[tmCL]
 |x::l=>by simp[tmCL,tmC_refl x,tmCL_refl l]
end
mutual
theorem tmC_eq:∀t u:Tm,tmC t u=0→t=u
 |.mk k n l,.mk k' n' l',h=>by
   simp only[tmC]at h;split at h
   ·rename_i h1;exact absurd h h1
   · split at h
     ·rename_i h1;exact absurd h h1
     · split at h
       ·rename_i h1;exact absurd h h1
       · rename_i h1 h2 h3;have e1:k=k':=cmpI_zero.1 (by simpa using h1);have e2:n=n':=cmpI_zero.1 (by simpa using h2);rw[e1,e2,tmCL_eq l l' h]
theorem tmCL_eq:∀l l':List Tm,tmCL l l'=0→l=l'
 |[],[],_=>rfl
 |[],_::_,h=>by simp[tmCL]at h
 |_::_,[],h=>by simp[tmCL]at h
 |x::l,y::l',h=>by
   simp only[tmCL]at h;split at h
   ·rename_i h1;exact absurd h h1
   · rename_i h1;rw[tmC_eq x y (by simpa using h1),tmCL_eq l l' h]
end
mutual
theorem tmC_trans:∀t u v:Tm,tmC t u<0→tmC u v<0→tmC t v<0
 |.mk k n l,.mk k' n' l',.mk k'' n'' l'',h,g=>by
   simp only[tmC]at h g⊢;by_cases a1:cmpI k k'=0
   · have:=cmpI_zero.1 a1;subst this;simp only[a1,ne_eq,not_true_eq_false,if_false]at h;by_cases b1:cmpI k k''=0
     · have:=cmpI_zero.1 b1;subst this;simp only[cmpI_refl,ne_eq,not_true_eq_false,if_false]at g⊢;by_cases a2:cmpI n n'=0
       · have:=cmpI_zero.1 a2;subst this;simp only[a2,ne_eq,not_true_eq_false,if_false]at h;by_cases b2:cmpI n n''=0
         · have:=cmpI_zero.1 b2;subst this;simp only[cmpI_refl,ne_eq,not_true_eq_false,if_false]at g⊢;by_cases a3:cmpI (l.length:Int) l'.length=0
           · have e3:=cmpI_zero.1 a3;simp only[a3,ne_eq,not_true_eq_false,if_false]at h;rw[←e3]at g;by_cases b3:cmpI (l.length:Int) l''.length=0
             · simp only[b3,ne_eq,not_true_eq_false,if_false]at g⊢;exact tmCL_trans l l' l'' h g
             · simp only[b3,ne_eq,not_false_eq_true,if_true]at g⊢;exact g
           · simp only[a3,ne_eq,not_false_eq_true,if_true]at h;have h':=cmpI_neg.1 h
             have hlt:cmpI (l.length:Int) l''.length<0:=by
              by_cases b3:cmpI (l'.length:Int) l''.length=0
              · have:=cmpI_zero.1 b3;exact cmpI_neg.2 (by omega)
              · simp only[b3,ne_eq,not_false_eq_true,if_true]at g;have:=cmpI_neg.1 g;exact cmpI_neg.2 (by omega)
             have hne:cmpI (l.length:Int) l''.length≠0:=by omega
             simp only[hne,ne_eq,not_false_eq_true,if_true];exact hlt
         · simp only[b2,ne_eq,not_false_eq_true,if_true]at g⊢;exact g
       · simp only[a2,ne_eq,not_false_eq_true,if_true]at h;have h':=cmpI_neg.1 h
         have hlt:cmpI n n''<0:=by
          by_cases b2:cmpI n' n''=0
          · have:=cmpI_zero.1 b2;exact cmpI_neg.2 (by omega)
          · simp only[b2,ne_eq,not_false_eq_true,if_true]at g;have:=cmpI_neg.1 g;exact cmpI_neg.2 (by omega)
         have hne:cmpI n n''≠0:=by omega
         simp only[hne,ne_eq,not_false_eq_true,if_true];exact hlt
     · simp only[b1,ne_eq,not_false_eq_true,if_true]at g⊢;exact g
   · simp only[a1,ne_eq,not_false_eq_true,if_true]at h;have h':=cmpI_neg.1 h
     have hlt:cmpI k k''<0:=by
      by_cases b1:cmpI k' k''=0
      · have:=cmpI_zero.1 b1;exact cmpI_neg.2 (by omega)
      · simp only[b1,ne_eq,not_false_eq_true,if_true]at g;have:=cmpI_neg.1 g;exact cmpI_neg.2 (by omega)
     have hne:cmpI k k''≠0:=by omega
     simp only[hne,ne_eq,not_false_eq_true,if_true];exact hlt
theorem tmCL_trans:∀l l' l'':List Tm,tmCL l l'<0→tmCL l' l''<0→tmCL l l''<0
 |[],[],l'',h,_=>by simp[tmCL]at h
 |[],_::_,[],_,g=>by simp[tmCL]at g
 |[],_::_,_::_,_,_=>by simp[tmCL]
 |_::_,[],_,h,_=>by simp[tmCL]at h
 |_::_,_::_,[],_,g=>by simp[tmCL]at g
 |x::l,y::l',z::l'',h,g=>by
   simp only[tmCL]at h g⊢;by_cases a1:tmC x y=0
   · have:=tmC_eq x y a1;subst this;simp only[a1,ne_eq,not_true_eq_false,if_false]at h;by_cases b1:tmC x z=0
     · simp only[b1,ne_eq,not_true_eq_false,if_false]at g⊢;exact tmCL_trans l l' l'' h g
     · simp only[b1,ne_eq,not_false_eq_true,if_true]at g⊢;exact g
   · simp only[a1,ne_eq,not_false_eq_true,if_true]at h
     have hlt:tmC x z<0:=by
      by_cases b1:tmC y z=0
      ·rw[←tmC_eq y z b1];exact h
      · simp only[b1,ne_eq,not_false_eq_true,if_true]at g;exact tmC_trans x y z h g
     have hne:tmC x z≠0:=by omega
     simp only[hne,ne_eq,not_false_eq_true,if_true];exact hlt
end
include hT in
theorem nan_ev(a:Int)(h:Hp):Ev T 194 [.int .i64 a] h (.val (.bool false),⟨h,[],[]⟩):=by
 refine hT.wk fn194 (by decide) ?_;have e:(a !=a)=false:=by simp
 simp(disch:=first|omega|decide|simp only[go_sem]) only[go_sem,e]
include hT in
theorem cmpI_ev(a b:Int)(h:Hp):Ev T 147 [.int .i64 a,.int .i64 b] h (.val (.int .i64 (cmpI a b)),⟨h,[],[]⟩):=by
 refine hT.wk fn147 (by decide) ?_;unfold cmpI;by_cases h1:a<b
 ·simp(disch:=first|omega|decide|simp only[go_sem]) only[go_sem,cb (nan_ev hT a _),cb (nan_ev hT b _),hT.prim,primOf,h1,if_true]
 · by_cases h2:b<a
   ·simp(disch:=first|omega|decide|simp only[go_sem]) only[go_sem,cb (nan_ev hT a _),cb (nan_ev hT b _),hT.prim,primOf,h1,h2,if_true,if_false]
   ·simp(disch:=first|omega|decide|simp only[go_sem]) only[go_sem,cb (nan_ev hT a _),cb (nan_ev hT b _),hT.prim,primOf,h1,h2,if_false]
include hT in
theorem or3_ev(a b c:Int)(h:Hp):Ev T 146 [.slice 1 [.int .i64 a,.int .i64 b,.int .i64 c] .lit] h (.val (.int .i64 (if a≠0 then a else if b≠0 then b else c)),⟨h,[],[]⟩):=by
 refine hT.wk fn146 (by decide) ?_;have g0:([.int .i64 a,.int .i64 b,.int .i64 c]:List PV)[0]?=some (.int .i64 a):=rfl;have g1:([.int .i64 a,.int .i64 b,.int .i64 c]:List PV)[1]?=some (.int .i64 b):=rfl;have g2:([.int .i64 a,.int .i64 b,.int .i64 c]:List PV)[2]?=some (.int .i64 c):=rfl;simp(disch:=first|omega|decide|simp only[go_sem]) only[go_sem,List.length_cons,List.length_nil];refine wpC.loopM (fun g e st=> ∃i:Nat,i+g=3∧(∀x∈[a,b,c].take i,x=0)∧eget e 3=.int .i64 0∧eget e 6=.slice 1 [.int .i64 a,.int .i64 b,.int .i64 c] .lit∧eget e 7=.int .i64 3∧eget e 8=.int .i64 (i:Int)∧st=⟨h,[],[]⟩) ?_ 3 _ _ ⟨0,by omega,by simp,by simp only[go_sem],by simp only[go_sem],by simp only[go_sem];rfl,by simp only[go_sem];rfl,rfl⟩;rintro g e st ⟨i,hi,hz,e3,e6,e7,e8,rfl⟩;rcases(show i=0∨i=1∨i=2∨i=3 by omega)with rfl|rfl|rfl|rfl
 · by_cases ha:a=0
   · have ha':(a !=0)=false:=by simpa using ha
     simp(disch:=first|omega|decide|simp only[go_sem]) only[go_sem,a146b0,e3,e6,e7,e8,g0,ha',List.length_cons,List.length_nil];exact⟨2,by omega,1,by omega,by simpa using ha,rfl,trivial⟩
   · have ha':(a !=0)=true:=by simpa using ha
     simp(disch:=first|omega|decide|simp only[go_sem]) only[go_sem,a146b0,e3,e6,e7,e8,g0,ha',List.length_cons,List.length_nil];simp[ha]
 · have ha:a=0:=hz a (by simp);by_cases hb:b=0
   · have hb':(b !=0)=false:=by simpa using hb
     simp(disch:=first|omega|decide|simp only[go_sem]) only[go_sem,a146b0,e3,e6,e7,e8,g1,hb',List.length_cons,List.length_nil];exact⟨1,by omega,2,by omega,by simp[ha,hb],rfl,trivial⟩
   · have hb':(b !=0)=true:=by simpa using hb
     simp(disch:=first|omega|decide|simp only[go_sem]) only[go_sem,a146b0,e3,e6,e7,e8,g1,hb',List.length_cons,List.length_nil];simp[ha,hb]
 · have ha:a=0:=hz a (by simp);have hb:b=0:=hz b (by simp);by_cases hc:c=0
   · have hc':(c !=0)=false:=by simpa using hc
     simp(disch:=first|omega|decide|simp only[go_sem]) only[go_sem,a146b0,e3,e6,e7,e8,g2,hc',List.length_cons,List.length_nil];exact⟨0,by omega,3,by omega,by simp[ha,hb,hc],rfl,trivial⟩
   · have hc':(c !=0)=true:=by simpa using hc
     simp(disch:=first|omega|decide|simp only[go_sem]) only[go_sem,a146b0,e3,e6,e7,e8,g2,hc',List.length_cons,List.length_nil];simp[ha,hb]
 · have ha:a=0:=hz a (by simp);have hb:b=0:=hz b (by simp);have hc:c=0:=hz c (by simp);simp(disch:=first|omega|decide|simp only[go_sem]) only[go_sem,a146b0,e3,e6,e7,e8];simp[ha,hb,hc]
set_option maxHeartbeats 1000000 in
include hT in
theorem compare_ev{t:Tm}{p:PV}(ht:Enc t p):t.nodes≤100000→∀(u:Tm)(q:PV),Enc u q→∀h:Hp,Ev T 62 [p,q] h (.val (.int .i64 (tmC t u)),⟨h,[],[]⟩):=by
 have hc:=ht.cells;have hsb:=ht.sub;induction ht with
 |mk k n l sz es hz hl he ih=>
   intro hnd u q hq h;simp only[Tm.nodes]at hnd;have hll:=nodesL_len l;obtain⟨k',n',l',sz',es',rfl,hQ,hz',hE'⟩:=hq.eq;obtain⟨d1,d2,d3,d4⟩:=hq.cells;obtain⟨c1,c2,c3,c4⟩:=hc;have hl':=hE'.1;refine hT.wk fn62 (by decide) ?_
   have E148:es.length=es'.length→∀h,Ev T 148 [.slice sz es .any,.slice sz' es' .any,.func (.func 62) [] []] h (.val (.int .i64 (tmCL l l')),⟨h,[],[]⟩):=fun hee h=>by
    refine hT.wk fn148 (by decide) ?_;simp(disch:=first|omega|decide|simp only[go_sem]) only[go_sem]
    refine wpC.loopM (fun g e st=> ∃(i:Nat)(H:Hp)(ws:List Nat),i+g=es.length∧tmCL l l'=tmCL (l.drop i) (l'.drop i)∧Low h.length h H∧(∀x∈ws,h.length≤x)∧eget e 0=.slice sz es .any∧eget e 1=.slice sz' es' .any∧eget e 2=.func (.func 62) [] []∧eget e 11=.slice sz es .any∧eget e 12=.int .i64 (es.length:Int)∧eget e 13=.int .i64 (i:Int)∧st=⟨H,ws,[]⟩) ?_ es.length _ _
     ⟨0,h,[],by omega,rfl,Low.refl _ _,by simp,by simp only[go_sem],by simp only[go_sem],by simp only[go_sem],by simp only[go_sem],by simp only[go_sem],by simp only[go_sem];rfl,rfl⟩
    rintro g e st ⟨i,H,ws,hi,hC,low,hw,e0,e1,e2,e11,e12,e13,rfl⟩;by_cases h1:i<es.length
    · have ga:=get_lt h1;have hx:l[i]?=some l[i]:=List.getElem?_eq_getElem (by omega);have hE:=he i l[i] es[i] hx ga;have hi':i<es'.length:=by omega
      have ga':=get_lt hi';have hx':l'[i]?=some l'[i]:=List.getElem?_eq_getElem (by omega);have hEy:=hE'.2 i l'[i] es'[i] hx' ga';have ev:=ih i l[i] es[i] hx ga hE.cells hE.sub (by have:=nodesL_mem (List.mem_of_getElem? hx);omega) _ _ hEy;have hd:l.drop i=l[i]::l.drop (i+1):=List.drop_eq_getElem_cons (by omega);have hd':l'.drop i=l'[i]::l'.drop (i+1):=List.drop_eq_getElem_cons (by omega);rw[hd,hd']at hC;simp only[tmCL]at hC
      have hsz:sz=3:=by
       rcases hz with rfl|h
       ·simp at h1
       ·exact h
      have hsz':sz'=3:=by
       rcases hz' with rfl|h
       ·simp at hi'
       ·exact h
      subst hsz hsz';obtain⟨b1,b2,b3,b4⟩:=hE.cells;obtain⟨y1,y2,y3,y4⟩:=hEy.cells;have bt:=hE.facts.1;have yt:=hEy.facts.1;have bs:=hE.sub;have ys:=hEy.sub;generalize l[i]=x at*;generalize l'[i]=y at*;generalize es[i]=a at*;generalize es'[i]=b at*;have sb:=st_box (h:=H) (ws:=ws) (ups:=[]) (z:=zq3) (sz:=3) (c:=a) b1 rfl b2 bt ⟨_,rfl⟩ b4;have ka:(H++[AE.Obj.row 3 [a]])[H.length]?=some (.row 3 [a]):=by simp
      have hHl:=low.len;have low5:Low h.length h (H++[AE.Obj.row 3 [a]]):=low.push hHl;have hl5:(H++[AE.Obj.row 3 [a]]).length=H.length+1:=by simp
      generalize hH5:H++[AE.Obj.row 3 [a]]=H5 at*;have sb2:=fun ws=>st_box (h:=H5) (ws:=ws) (ups:=[]) (z:=zq3) (sz:=3) (c:=b) y1 rfl y2 yt ⟨_,rfl⟩ y4;have kb:(H5++[AE.Obj.row 3 [b]])[H5.length]?=some (.row 3 [b]):=by simp
      have ka2:(H5++[AE.Obj.row 3 [b]])[H.length]?=some (.row 3 [a]):=keepL ka;have low6:Low h.length h (H5++[AE.Obj.row 3 [b]]):=low5.push (by omega);generalize hH6:H5++[AE.Obj.row 3 [b]]=H6 at*;generalize hk1:H.length=k1 at*;generalize hk2:H5.length=k2 at*;have la:loadAt true 3 (.ptr k1 0 0 1) H6=some a:=by rw[ld_at ka2];exact bs
      have lb:loadAt true 3 (.ptr k2 0 0 1) H6=some b:=by rw[ld_at kb];exact ys
      have h1':(i:Int)< (es.length:Int):=by omega
      have h2':¬(es'.length:Int)≤(i:Int):=by omega
      have hw6:∀x∈wadd k2 (wadd k1 ws),h.length≤x:=wadd_low (by omega) (wadd_low (by omega) hw);by_cases h0:tmC x y=0
      · have h0':(tmC x y !=0)=false:=by simpa using h0
        simp only[h0,ne_eq,not_true_eq_false,if_false]at hC;simp(disch:=first|omega|decide|simp only[go_sem]) only[go_sem,a148b0,e0,e1,e2,e11,e12,e13,h1',h2',ga,ga',hi',bs,ys,hk1,sb,hH5,hk2,sb2,hH6,la,lb,cb (ev H6),hT.prim,primOf,h0',List.length_cons,List.length_nil];exact⟨g - 1,by omega,i+1,_,_,by omega,hC,low6,hw6,rfl,rfl⟩
      · have h0':(tmC x y !=0)=true:=by simpa using h0
        simp only[h0,ne_eq,not_false_eq_true,if_true]at hC;rw[hC];simp(disch:=first|omega|decide|simp only[go_sem]) only[go_sem,a148b0,e0,e1,e2,e11,e12,e13,h1',h2',ga,ga',hi',bs,ys,hk1,sb,hH5,hk2,sb2,hH6,la,lb,cb (ev H6),hT.prim,primOf,h0',List.length_cons,List.length_nil];exact tidy_low rfl rfl low6 hw6
    · have h1':¬(i:Int)< (es.length:Int):=by omega
      have h3':¬(es.length:Int)< (es'.length:Int):=by omega
      rw[List.drop_of_length_le (by omega),List.drop_of_length_le (by omega)]at hC;simp only[tmCL]at hC;rw[hC];simp(disch:=first|omega|decide|simp only[go_sem]) only[go_sem,a148b0,e0,e1,e2,e11,e12,e13,h1',h3'];exact tidy_low rfl rfl low hw
   generalize hP:PV.agg [.int .i64 k,.int .i64 n,.slice sz es .any]=P at*;have kp1:(h++[AE.Obj.row 3 [P]])[h.length]?=some (.row 3 [P]):=by simp
   have low1:Low h.length h (h++[AE.Obj.row 3 [P]]):=(Low.refl _ _).push (Nat.le_refl _);have hl1:(h++[AE.Obj.row 3 [P]]).length=h.length+1:=by simp
   generalize hH1:h++[AE.Obj.row 3 [P]]=H1 at*;have kq:(H1++[AE.Obj.row 3 [q]])[H1.length]?=some (.row 3 [q]):=by simp
   have kp:(H1++[AE.Obj.row 3 [q]])[h.length]?=some (.row 3 [P]):=keepL kp1;have low2:Low h.length h (H1++[AE.Obj.row 3 [q]]):=low1.push (by omega);generalize hH2:H1++[AE.Obj.row 3 [q]]=H2 at*;generalize hkQ:H1.length=kQ at*;have l0:loadAt false 1 (.ptr h.length 0 0 1) H2=some (.int .i64 k):=by rw[ld_at kp,←hP];rfl
   have l1:loadAt false 1 (.ptr h.length 0 1 1) H2=some (.int .i64 n):=by rw[ld_at kp,←hP];rfl
   have l2:loadAt false 1 (.ptr h.length 0 2 1) H2=some (.slice sz es .any):=by rw[ld_at kp,←hP];rfl
   have q0:loadAt false 1 (.ptr kQ 0 0 1) H2=some (.int .i64 k'):=by rw[ld_at kq,hQ];rfl
   have q1:loadAt false 1 (.ptr kQ 0 1 1) H2=some (.int .i64 n'):=by rw[ld_at kq,hQ];rfl
   have q2:loadAt false 1 (.ptr kQ 0 2 1) H2=some (.slice sz' es' .any):=by rw[ld_at kq,hQ];rfl
   have td:∀a,tidy 0 h.length (.val (.int .i64 a)) ⟨H2,[],[]⟩=(.val (.int .i64 a),⟨h,[],[]⟩):=fun a=>tidy_low rfl rfl low2 (by simp);have fe:∀a b c:Int,fillE 1 (List.replicate 3 (PV.int .i64 0)) [(0,.int .i64 a),(1,.int .i64 b),(2,.int .i64 c)]=some [.int .i64 a,.int .i64 b,.int .i64 c]:=fun a b c=>rfl;have o3:=or3_ev hT (cmpI k k') (cmpI n n') (cmpI (es.length:Int) es'.length) H2;have hee:cmpI (es.length:Int) es'.length=cmpI (l.length:Int) l'.length:=by rw[hl,hl']
   have hr:tmC (.mk k n l) (.mk k' n' l')=if(if cmpI k k'≠0 then cmpI k k' else if cmpI n n'≠0 then cmpI n n' else cmpI (es.length:Int) es'.length)≠0 then(if cmpI k k'≠0 then cmpI k k' else if cmpI n n'≠0 then cmpI n n' else cmpI (es.length:Int) es'.length)else tmCL l l':=by
    simp only[tmC,hee];by_cases a1:cmpI k k'=0
    · by_cases a2:cmpI n n'=0
      · by_cases a3:cmpI (l.length:Int) l'.length=0
        ·simp[a1,a2,a3]
        ·simp[a1,a2,a3]
      ·simp[a1,a2]
    ·simp[a1]
   have hz0:(if cmpI k k'≠0 then cmpI k k' else if cmpI n n'≠0 then cmpI n n' else cmpI (es.length:Int) es'.length)=0→es.length=es'.length:=fun h0=>by
    by_cases a1:cmpI k k'=0
    · by_cases a2:cmpI n n'=0
      · simp only[a1,a2,ne_eq,not_true_eq_false,if_false]at h0;have:=cmpI_zero.1 h0;omega
      ·simp[a1,a2]at h0
    ·simp[a1]at h0
   rw[hr];generalize(if cmpI k k'≠0 then cmpI k k' else if cmpI n n'≠0 then cmpI n n' else cmpI (es.length:Int) es'.length)=c at*;by_cases h0:c=0
   · have h0':(c !=0)=false:=by simpa using h0
     have ev:=E148 (hz0 h0) H2;have hr0:(if c≠0 then c else tmCL l l')=tmCL l l':=by simp[h0]
     rw[hr0];simp(disch:=first|omega|decide|simp only[go_sem]) only[go_sem,hH1,hkQ,hH2,c1,c3,d1,d3,List.length_cons,List.length_nil,l0,l1,l2,q0,q1,q2,cb (cmpI_ev hT _ _ _),fe,cb o3,h0',cb ev,hT.prim,primOf,td]
   · have h0':(c !=0)=true:=by simpa using h0
     have hr0:(if c≠0 then c else tmCL l l')=c:=by simp[h0]
     rw[hr0];simp(disch:=first|omega|decide|simp only[go_sem]) only[go_sem,hH1,hkQ,hH2,c1,c3,d1,d3,List.length_cons,List.length_nil,l0,l1,l2,q0,q1,q2,cb (cmpI_ev hT _ _ _),fe,cb o3,h0',hT.prim,primOf,td]
def sortX(s:GSig)(t:Tm):Int×Int:=if treeB t=true then sortR s t else(0,4)
include hT in
theorem sortX_ev(hs:GOk s)(E87:∀h,Ev T 87 [encSig s] h (.val (.int .i64 0),⟨h,[],[]⟩)){t:Tm}{p:PV}(ht:Enc t p)(h:Hp):
 Ev T 45 [encSig s,.slice 0 [] .nil,p] h (.val (.tuple [.int .i64 (sortX s t).1,.int .i64 (sortX s t).2]),⟨h,[],[]⟩):=by
 refine hT.wk fn45 (by decide) ?_;have htr:=treeG_ev hT ht;have hty:=fun hsh a h kv hv=>typed_ev hT hs ht hsh a h kv hv;have hsub:=ht.sub;obtain⟨c1,c2,c3,c4⟩:=ht.cells;have hnO:=hs.nO;have kg:(((h++[AE.Obj.row 2 [encSig s]])++[AE.Obj.row 1 [PV.slice 0 [] .nil]])++[AE.Obj.row 3 [p]])[h.length]?=some (.row 2 [encSig s]):=keepL (keepL (by simp));have hl1:(h++[AE.Obj.row 2 [encSig s]]).length=h.length+1:=by simp
 have kv:(((h++[AE.Obj.row 2 [encSig s]])++[AE.Obj.row 1 [PV.slice 0 [] .nil]])++[AE.Obj.row 3 [p]])[(h++[AE.Obj.row 2 [encSig s]]).length]?=some (.row 1 [.slice 0 [] .nil]):=keepL (by simp);have kp:(((h++[AE.Obj.row 2 [encSig s]])++[AE.Obj.row 1 [PV.slice 0 [] .nil]])++[AE.Obj.row 3 [p]])[((h++[AE.Obj.row 2 [encSig s]])++[AE.Obj.row 1 [PV.slice 0 [] .nil]]).length]?=some (.row 3 [p]):=by simp
 have low:Low h.length h (((h++[AE.Obj.row 2 [encSig s]])++[AE.Obj.row 1 [PV.slice 0 [] .nil]])++[AE.Obj.row 3 [p]]):=(((Low.refl _ _).push (Nat.le_refl _)).push (by simp)).push (by simp);generalize hk1:(h++[AE.Obj.row 2 [encSig s]]).length=k1 at*;generalize hk2:((h++[AE.Obj.row 2 [encSig s]])++[AE.Obj.row 1 [PV.slice 0 [] .nil]]).length=k2 at*;generalize hH:((h++[AE.Obj.row 2 [encSig s]])++[AE.Obj.row 1 [PV.slice 0 [] .nil]])++[AE.Obj.row 3 [p]]=H at*;have lg:loadAt true 2 (.ptr h.length 0 0 1) H=some (encSig s):=by rw[ld_at kg];rfl
 have lg1:loadAt false 1 (.ptr h.length 0 1 1) H=some (.slice 3 (s.ops.map encOp) .any):=by rw[ld_at kg];rfl
 have lv:loadAt false 1 (.ptr k1 0 0 1) H=some (.slice 0 [] .nil):=by rw[ld_at kv];rfl
 have lp:loadAt true 3 (.ptr k2 0 0 1) H=some p:=by rw[ld_at kp];exact hsub
 have c65':=contains65_nil hT (g:=129) (cap:=[.ptr (h.length) 0 0 1]) (m:=.nil) H;have td:∀a b,tidy 0 h.length (.val (.tuple [.int .i64 a,.int .i64 b])) ⟨H,[],[]⟩=(.val (.tuple [.int .i64 a,.int .i64 b]),⟨h,[],[]⟩):=fun a b=>tidy_low rfl rfl low (by simp);cases hbt:treeB t
 · have hF:sortX s t=(0,4):=by simp[sortX,hbt]
   rw[hF];rw[hbt]at htr;simp(disch:=first|omega|decide|simp only[go_sem]) only[go_sem,hk1,hk2,hH,c1,c3,lg,cb (E87 _),lv,cb c65',lp,cb (htr _),bne_self_eq_false,hT.prim,primOf,List.length_cons,List.length_nil,td]
 · have hF0:sortX s t=sortR s t:=by simp[sortX,hbt]
   rw[hF0];have hsh:=treeB_shaped hbt;rw[hbt]at htr;clear hF0 hbt;cases ht with
   |mk k n l sz es hz hl he=>
     have lp0:loadAt false 1 (.ptr k2 0 0 1) H=some (.int .i64 k):=by rw[ld_at kp];rfl
     have lp1:loadAt false 1 (.ptr k2 0 1 1) H=some (.int .i64 n):=by rw[ld_at kp];rfl
     have hsh':=hsh;simp only[shapedF,Bool.and_eq_true,decide_eq_true_eq,Bool.or_eq_true,beq_iff_eq]at hsh;obtain⟨⟨⟨⟨hn0,_⟩,hk12⟩,_⟩,_⟩:=hsh;obtain⟨N,rfl⟩:=Int.eq_ofNat_of_zero_le hn0;have b10:¬((N:Int)< ((0:Nat):Int)):=by omega
     have m1:((-1:Int)<0):=by omega
     rcases hk12 with rfl|rfl
     · have hF:sortR s (.mk 1 N l)=(0,4):=by simp[sortR]
       rw[hF];have b11:((1:Int)==1)=true:=rfl;have b12:((1:Int)==2)=false:=rfl;simp(disch:=first|omega|decide|simp only[go_sem]) only[go_sem,hk1,hk2,hH,c1,c3,lg,cb (E87 _),lv,cb c65',lp,cb (htr _),bne_self_eq_false,hT.prim,primOf,List.length_cons,List.length_nil,td,lp0,lp1,b11,b12,b10,m1]
     · have b11:((2:Int)==1)=false:=rfl;have b12:((2:Int)==2)=true:=rfl;by_cases hNO:N<s.ops.length
       · have go:=get_op hNO;have ho:s.ops[N]?=some s.ops[N]:=List.getElem?_eq_getElem hNO;obtain⟨a1,a2,a3⟩:=hs.ops _ (List.mem_of_getElem? ho);generalize s.ops[N]=o at*;have so2:sub false 1 (encOp o) 2=some (.int .i64 o.res):=rfl;have r0:¬o.res<0:=by omega
         have ety:=hty hsh' o.res H k1 kv;cases hb:typedF s (.mk 2 N l) o.res
         · have hF:sortR s (.mk 2 N l)=(0,4):=by simp[sortR,hsh',ho,hb]
           rw[hF];rw[hb]at ety;simp(disch:=first|omega|decide|simp only[go_sem]) only[go_sem,hk1,hk2,hH,c1,c3,lg,lg1,cb (E87 _),lv,cb c65',lp,cb (htr _),bne_self_eq_false,hT.prim,primOf,List.length_cons,List.length_nil,td,lp0,lp1,b11,b12,hNO,go,so2,r0,cb ety]
         · have hF:sortR s (.mk 2 N l)=(o.res,0):=by simp[sortR,hsh',ho,hb]
           rw[hF];rw[hb]at ety;simp(disch:=first|omega|decide|simp only[go_sem]) only[go_sem,hk1,hk2,hH,c1,c3,lg,lg1,cb (E87 _),lv,cb c65',lp,cb (htr _),bne_self_eq_false,hT.prim,primOf,List.length_cons,List.length_nil,td,lp0,lp1,b11,b12,hNO,go,so2,r0,cb ety]
       · have hF:sortR s (.mk 2 N l)=(0,4):=by simp[sortR,hsh',List.getElem?_eq_none (show s.ops.length≤N by omega)]
         rw[hF];simp(disch:=first|omega|decide|simp only[go_sem]) only[go_sem,hk1,hk2,hH,c1,c3,lg,lg1,cb (E87 _),lv,cb c65',lp,cb (htr _),bne_self_eq_false,hT.prim,primOf,List.length_cons,List.length_nil,td,lp0,lp1,b11,b12,hNO,m1]
def Rds(H:Hp)(v:PV)(sz:Nat)(es:List PV):Prop:=(∃z m,v=.slice z es m∧(es=[]∨z=sz))∨∃k,v=.aref k sz 0 es.length es.length∧H[k]?=some (.row sz es)
theorem Rds.len{H:Hp}{v:PV}{sz:Nat}{es:List PV}(h:Rds H v sz es):lenOf v=some es.length:=by rcases h with⟨z,m,rfl,_⟩|⟨k,rfl,_⟩<;>rfl
theorem Rds.low{h H:Hp}{v:PV}{sz:Nat}{es:List PV}(R:Rds h v sz es)(L:Low h.length h H):Rds H v sz es:=by
 rcases R with h|⟨k,h1,h2⟩
 ·exact .inl h
 ·exact .inr ⟨k,h1,L.get (List.getElem?_eq_some_iff.1 h2).1 h2⟩
theorem Rds.idx{h:Hp}{v:PV}{sz:Nat}{es:List PV}(R:Rds h v sz es){i:Nat}{x:PV}(hx:es[i]?=some x):∃p,idxaddr sz v (.int .i64 (i:Int))=some p∧∀(H:Hp)(agg:Bool)(z:Nat),Low h.length h H→loadAt agg z p H=AE.sub agg z x 0:=by
 have hi:=(List.getElem?_eq_some_iff.1 hx).1;rcases R with⟨z,m,rfl,hz⟩|⟨k,rfl,hk⟩
 · have hz':z=sz:=by
    rcases hz with rfl|h
    ·simp at hi
    ·exact h
   subst hz';exact⟨.iptr x 0,by rw[idx_slice,if_pos rfl,hx];rfl,fun H agg z _=>rfl⟩
 · refine⟨.ptr k (0+i) 0 es.length,by rw[idx_aref,if_pos ⟨hi,rfl⟩],fun H agg z L=>?_⟩;have hk':=L.get (List.getElem?_eq_some_iff.1 hk).1 hk;simp only[loadAt,hk',if_true,Nat.zero_add,hx]
mutual
theorem Enc.inj:∀{t t':Tm}{p:PV},Enc t p→Enc t' p→t=t'
 |.mk k n l,t',p,h,h'=>by obtain⟨k1,n1,l1,sz,es,e1,rfl,_,hE⟩:=h.eq;cases e1;obtain⟨k2,n2,l2,sz2,es2,rfl,e2,_,hE2⟩:=h'.eq;simp only[PV.agg.injEq,List.cons.injEq,PV.int.injEq,PV.slice.injEq,true_and,and_true]at e2;obtain⟨rfl,rfl,_,rfl⟩:=e2;rw[encL_inj hE hE2]
theorem encL_inj:∀{l l':List Tm}{es:List PV},EncL l es→EncL l' es→l=l'
 |[],l',es,h,h'=>by
   exact(List.length_eq_zero_iff.1 (h'.1.symm.trans h.1)).symm
 |t::l,l',es,h,h'=>by
   have h1:=h.1;cases es with
   |nil=>simp at h1
   |cons e es=>
     have h2:=h'.1;cases l' with
     |nil=>simp at h2
     |cons t' l'=>
       have a:=Enc.inj (h.2 0 t e rfl rfl) (h'.2 0 t' e rfl rfl);have b:=encL_inj (l:=l) (l':=l') (es:=es) ⟨by simpa using h1,fun i x p hx hp=>h.2 (i+1) x p hx hp⟩ ⟨by simpa using h2,fun i x p hx hp=>h'.2 (i+1) x p hx hp⟩;rw[a,b]
end
structure DomV (H:Hp)(dv:PV)(dom:List (List Tm))(vs:List PV)(vss:List (List PV)):Prop where
 top:Rds H dv 1 vs
 l1:vs.length=dom.length
 l2:vss.length=dom.length
 row:∀(i:Nat)(v:PV)(es:List PV),vs[i]?=some v→vss[i]?=some es→Rds H v 3 es
 enc:∀(i:Nat)(l:List Tm)(es:List PV),dom[i]?=some l→vss[i]?=some es→EncL l es
 cell:∀v∈vs,AE.sub false 1 v 0=some v
theorem DomV.low{h H:Hp}{dv:PV}{dom:List (List Tm)}{vs:List PV}{vss:List (List PV)}(D:DomV h dv dom vs vss)(L:Low h.length h H):DomV H dv dom vs vss:=⟨D.top.low L,D.l1,D.l2,fun i v es h1 h2=>(D.row i v es h1 h2).low L,D.enc,D.cell⟩
def SOk(s:GSig)(i:Nat)(x:Tm):Prop:=(sortX s x).2=0∧(sortX s x).1=(i:Int)
def ItemOk(s:GSig)(i:Nat)(l:List Tm)(k:Nat):Prop:=∀x,l[k]?=some x→SOk s i x∧∀y,0<k→l[k - 1]?=some y→tmC y x<0
def RowOk(s:GSig)(i:Nat)(l:List Tm):Prop:=l.length≤64∧∀k,ItemOk s i l k
def Dom1(s:GSig)(dom:List (List Tm)):Prop:=dom.length=s.sorts.length∧∀i l,dom[i]?=some l→RowOk s i l
def OkX(nv:PV→PV×Int)(dom:List (List Tm))(vss:List (List PV))(i k:Nat):Prop:=∀l es x X,dom[i]?=some l→vss[i]?=some es→l[k]?=some x→es[k]?=some X→(nv X).2=0→Enc x (nv X).1
def ZX(nv:PV→PV×Int)(vss:List (List PV))(i k:Nat):Prop:=∀es X,vss[i]?=some es→es[k]?=some X→(nv X).2=0
structure DomR (s:GSig)(nv:PV→PV×Int)(dom:List (List Tm))(vss:List (List PV))(r:Int):Prop where
 c:r=0∨r=2∨r=90
 no:r=90→¬(Dom1 s dom∧∀i k,OkX nv dom vss i k)
 yes:r≠90→Dom1 s dom∧∀i k,OkX nv dom vss i k
 z:r=0→∀i k,ZX nv vss i k
 nz:r=2→∃i k,¬ZX nv vss i k
def NVal(T:Tbl)(t:GTy)(nv:PV→PV×Int):Prop:=∀(u:Tm)(X:PV),Enc u X→NormX (nv X)∧∀h,Ev T 50 [encTy t,X] h (.val (.tuple [(nv X).1,.int .i64 (nv X).2]),⟨h,[],[]⟩)
theorem SOk.tree{i:Nat}{x:Tm}(h:SOk s i x):treeB x=true:=by
 have h1:=h.1;unfold sortX at h1;split at h1
 ·assumption
 ·cases h1
theorem DomR.err{nv:PV→PV×Int}{dom:List (List Tm)}{vss:List (List PV)}(h:¬(Dom1 s dom∧∀i k,OkX nv dom vss i k)):DomR s nv dom vss 90:=⟨.inr (.inr rfl),fun _=>h,fun h=>absurd rfl h,(fun h=>by cases h),(fun h=>by cases h)⟩
theorem NormX.facts{x:PV×Int}(h:NormX x):x.1.cells.length=3∧x.1.cells.all PV.isCell=true∧(∃cs,x.1=.agg cs)∧x.1.top=none∧x.1.pure=true∧x.1.weak=x.1∧AE.sub true 3 x.1 0=some x.1:=by
 rcases h with⟨_,w,hw,_⟩|⟨_,h⟩
 · obtain⟨y1,y2,y3,y4⟩:=hw.cells;exact⟨y1,y2,y4,hw.facts.1,hw.facts.2.1,hw.facts.2.2,hw.sub⟩
 ·rw[h];exact⟨rfl,rfl,⟨_,rfl⟩,rfl,rfl,rfl,rfl⟩
set_option maxRecDepth 4000 in
include hT in
theorem domain_ev{t:GTy}(I:TyIn T t 0){nv:PV→PV×Int}(N:NVal T t nv){h:Hp}{dv:PV}{dom:List (List Tm)}{vs:List PV}{vss:List (List PV)}(D:DomV h dv dom vs vss)(hd:dom.length<100000):
 ∃r:Int,Ev T 104 [encTy t,dv] h (.val (.int .i64 r),⟨h,[],[]⟩)∧DomR t.sig nv dom vss r:=by
 refine hT.wp (r:=fun r:Int=>(.val (.int .i64 r),⟨h,[],[]⟩)) fn104 (by decide) ?_;have k1:(h++[AE.Obj.row 3 [encTy t]])[h.length]?=some (.row 3 [encTy t]):=by simp
 have low1:Low h.length h (h++[AE.Obj.row 3 [encTy t]]):=(Low.refl _ _).push (Nat.le_refl _);have hl1:(h++[AE.Obj.row 3 [encTy t]]).length=h.length+1:=by simp
 generalize hH1:h++[AE.Obj.row 3 [encTy t]]=H1 at*;have ls:loadAt false 1 (.ptr h.length 0 0 1) H1=some (.slice 1 (t.sig.sorts.map .str) .any):=by rw[ld_at k1];rfl
 have hlv:lenOf dv=some dom.length:=by rw[D.top.len,D.l1]
 have td:∀(H:Hp)(ws:List Nat)(r:Int),Low h.length h H→(∀x∈ws,h.length≤x)→tidy 0 h.length (.val (.int .i64 r)) ⟨H,ws,[]⟩=(.val (.int .i64 r),⟨h,[],[]⟩):=fun H ws r L hw=>tidy_low rfl rfl L hw;by_cases hlen:dom.length=t.sig.sorts.length;rotate_left
 · have hb:((dom.length:Int) !=(t.sig.sorts.length:Int))=true:=by simp;omega
   simp(disch:=first|omega|decide|simp only[go_sem]) only[go_sem,hH1,ty_len,ty_def,List.length_cons,List.length_nil,List.length_map,ls,hlv,hb,td H1 [] 90 low1 (by simp)];exact⟨90,rfl,.err fun h=>hlen h.1.1⟩
 have hb:((dom.length:Int) !=(t.sig.sorts.length:Int))=false:=by simp;omega
 simp(disch:=first|omega|decide|simp only[go_sem]) only[go_sem,hH1,ty_len,ty_def,List.length_cons,List.length_nil,List.length_map,ls,hlv,hb]
 refine wpC.loopM (fun g e st=> ∃(i:Nat)(H:Hp)(ws:List Nat),i+g=dom.length∧Low h.length h H∧H[h.length]?=some (.row 3 [encTy t])∧(∀x∈ws,h.length≤x)∧(∀j,j<i→∀l,dom[j]?=some l→RowOk t.sig j l)∧(eget e 1=dv∧eget e 2=.ptr h.length 0 0 1∧eget e 25=dv∧eget e 26=.int .i64 (dom.length:Int)∧eget e 27=.int .i64 (i:Int))∧st=⟨H,ws,[]⟩) ?_ dom.length _ _
  ⟨0,H1,[],by omega,low1,k1,by simp,fun j hj=>by omega,by simp only[go_sem,Int.natCast_zero],rfl⟩
 rintro g e st ⟨i,H,ws,hi,low,kt,hw,hrow,⟨e1,e2,e25,e26,e27⟩,rfl⟩;have hHl:=low.len;by_cases h1:i<dom.length
 · have h1':(i:Int)< (dom.length:Int):=by omega
   have gl:dom[i]?=some dom[i]:=List.getElem?_eq_getElem h1;have gv:vs[i]?=some (vs[i]'(by rw[D.l1];exact h1)):=List.getElem?_eq_getElem _;have ge:vss[i]?=some (vss[i]'(by rw[D.l2];exact h1)):=List.getElem?_eq_getElem _;generalize dom[i]=l at*;generalize vs[i]'(by rw[D.l1];exact h1)=v at*;generalize vss[i]'(by rw[D.l2];exact h1)=es at*;have Rv:=D.row i v es gv ge;have hE:=D.enc i l es gl ge;have hel:=hE.1;have cv:=D.cell v (List.mem_of_getElem? gv);obtain⟨p,ip,lp⟩:=D.top.idx gv;have lp1:=lp H false 1 low;rw[cv]at lp1;have hle:lenOf v=some l.length:=by rw[Rv.len,hel]
   by_cases h64:64<l.length
   · have h64':(64:Int)< (l.length:Int):=by omega
     simp(disch:=first|omega|decide|simp only[go_sem]) only[go_sem,a104b1,e1,e2,e25,e26,e27,h1,h1',ip,lp1,hle,h64',td H ws 90 low hw];exact⟨90,rfl,.err fun h=>by have:=(h.1.2 i l gl).1;omega⟩
   have h64':¬(64:Int)< (l.length:Int):=by omega
   simp(disch:=first|omega|decide|simp only[go_sem]) only[go_sem,a104b1,e1,e2,e25,e26,e27,h1,h1',ip,lp1,hle,h64']
   refine wpC.loopM (fun g e st=> ∃(k:Nat)(H:Hp)(ws:List Nat),k+g=l.length∧Low h.length h H∧H[h.length]?=some (.row 3 [encTy t])∧(∀x∈ws,h.length≤x)∧(∀j,j<k→ItemOk t.sig i l j)∧(eget e 1=dv∧eget e 2=.ptr h.length 0 0 1∧eget e 5=.int .i64 (i:Int)∧eget e 6=v∧eget e 25=dv∧eget e 26=.int .i64 (dom.length:Int)∧eget e 27=.int .i64 (i:Int)∧eget e 35=v∧eget e 36=.int .i64 (l.length:Int)∧eget e 37=.int .i64 (k:Int))∧st=⟨H,ws,[]⟩) ?_ l.length _ _
    ⟨0,H,ws,by omega,low,kt,hw,fun j hj=>by omega,by simp only[go_sem,e1,e2,e25,e26,e27,Int.natCast_zero],rfl⟩
   clear low kt hw e1 e2 e25 e26 e27 lp1 hHl;rintro g' e st ⟨k,H,ws,hk,low,kt,hw,hit,⟨e1,e2,e5,e6,e25,e26,e27,e35,e36,e37⟩,rfl⟩;have hHl:=low.len;by_cases h2:k<l.length
   · have h2':(k:Int)< (l.length:Int):=by omega
     have gx:l[k]?=some l[k]:=List.getElem?_eq_getElem h2;have gX:es[k]?=some (es[k]'(by omega)):=List.getElem?_eq_getElem _;have hX:=hE.2 k _ _ gx gX;generalize hx0:l[k]=x at*;generalize hX0:es[k]'(by omega)=X at*;obtain⟨px,ipx,lpx⟩:=Rv.idx gX;have lx1:=lpx H true 3 low;rw[hX.sub]at lx1;obtain⟨b1,b2,b3,b4⟩:=hX.cells;have sb:=st_box (h:=H) (ws:=ws) (ups:=[]) (z:=zq3) (sz:=3) (c:=X) b1 rfl b2 hX.facts.1 ⟨_,rfl⟩ b4;have kX:(H++[AE.Obj.row 3 [X]])[H.length]?=some (.row 3 [X]):=by simp
     have kt5:(H++[AE.Obj.row 3 [X]])[h.length]?=some (.row 3 [encTy t]):=keepL kt;have low5:Low h.length h (H++[AE.Obj.row 3 [X]]):=low.push hHl;have hw5:∀y∈wadd H.length ws,h.length≤y:=wadd_low hHl hw;generalize hH5:H++[AE.Obj.row 3 [X]]=H5 at*;generalize hk8:H.length=k8 at*;have lg:loadAt true 2 (.ptr h.length 0 0 1) H5=some (encSig t.sig):=by rw[ld_at kt5];rfl
     have lX:loadAt true 3 (.ptr k8 0 0 1) H5=some X:=by rw[ld_at kX];exact hX.sub
     have evs:=sortX_ev hT (I.G rfl) (I.E87 rfl) hX H5;by_cases he:(sortX t.sig x).2=0;rotate_left
     · have hb:((sortX t.sig x).2 !=0)=true:=by simpa using he
       simp(disch:=first|omega|decide|simp only[go_sem]) only[go_sem,a104b0,e1,e2,e5,e6,e25,e26,e27,e35,e36,e37,h2,h2',ipx,lx1,hk8,sb,hH5,lg,lX,cb evs,hb,hT.prim,primOf,List.length_cons,List.length_nil,td H5 _ 90 low5 hw5];exact⟨90,rfl,.err fun h=>he ((h.1.2 i l gl).2 k x gx).1.1⟩
     have hb:((sortX t.sig x).2 !=0)=false:=by simpa using he
     by_cases hs:(sortX t.sig x).1=(i:Int);rotate_left
     · have hb2:((sortX t.sig x).1 !=(i:Int))=true:=by simpa using hs
       simp(disch:=first|omega|decide|simp only[go_sem]) only[go_sem,a104b0,e1,e2,e5,e6,e25,e26,e27,e35,e36,e37,h2,h2',ipx,lx1,hk8,sb,hH5,lg,lX,cb evs,hb,hb2,hT.prim,primOf,List.length_cons,List.length_nil,td H5 _ 90 low5 hw5];exact⟨90,rfl,.err fun h=>hs ((h.1.2 i l gl).2 k x gx).1.2⟩
     have hb2:((sortX t.sig x).1 !=(i:Int))=false:=by simpa using hs
     rcases Nat.eq_zero_or_pos k with rfl|hkp
     · have h0:¬(0:Int)< ((0:Nat):Int):=by decide
       simp(disch:=first|omega|decide|simp only[go_sem]) only[go_sem,a104b0,e1,e2,e5,e6,e25,e26,e27,e35,e36,e37,h2,h2',h0,ipx,lx1,hk8,sb,hH5,lg,lX,cb evs,hb,hb2,hT.prim,primOf,List.length_cons,List.length_nil];refine⟨g' - 1,by omega,0+1,_,_,by omega,low5,kt5,hw5,fun j hj=>?_,rfl,rfl⟩;have:j=0:=by omega
       subst this;intro x' hx';rw[gx]at hx';cases hx';exact⟨⟨he,hs⟩,fun y hy=>by omega⟩
     · obtain⟨k',rfl⟩:∃k',k=k'+1:=⟨k - 1,by omega⟩;have h0:(0:Int)< ((k'+1:Nat):Int):=by omega
       have hkm:((k'+1:Nat):Int) - 1=(k':Int):=by omega
       have gy:l[k']?=some (l[k']'(by omega)):=List.getElem?_eq_getElem _;have gY:es[k']?=some (es[k']'(by omega)):=List.getElem?_eq_getElem _;have hY:=hE.2 k' _ _ gy gY;have hyOk:=(hit k' (by omega) _ gy).1;generalize l[k']'(by omega)=y at*;generalize es[k']'(by omega)=Y at*;obtain⟨py,ipy,lpy⟩:=Rv.idx gY;have ly1:=lpy H5 true 3 low5;rw[hY.sub]at ly1;have evc:=compare_ev hT hY (by have:=treeB_nodes hyOk.tree;omega) x X hX H5;by_cases hc:0≤tmC y x
       · simp(disch:=first|omega|decide|simp only[go_sem]) only[go_sem,a104b0,e1,e2,e5,e6,e25,e26,e27,e35,e36,e37,h2,h2',h0,hkm,ipx,lx1,hk8,sb,hH5,lg,lX,cb evs,hb,hb2,ipy,ly1,cb evc,hc,hT.prim,primOf,List.length_cons,List.length_nil,td H5 _ 90 low5 hw5];exact⟨90,rfl,.err fun h=>by have:=((h.1.2 i l gl).2 (k'+1) x gx).2 y (by omega) gy;omega⟩
       · simp(disch:=first|omega|decide|simp only[go_sem]) only[go_sem,a104b0,e1,e2,e5,e6,e25,e26,e27,e35,e36,e37,h2,h2',h0,hkm,ipx,lx1,hk8,sb,hH5,lg,lX,cb evs,hb,hb2,ipy,ly1,cb evc,hc,hT.prim,primOf,List.length_cons,List.length_nil];refine⟨g' - 1,by omega,k'+1+1,_,_,by omega,low5,kt5,hw5,fun j hj=>?_,rfl,rfl⟩;by_cases hjk:j=k'+1
         · subst hjk;intro x' hx';rw[gx]at hx';cases hx';exact⟨⟨he,hs⟩,fun y' _ hy'=>by rw[Nat.add_sub_cancel,gy]at hy';cases hy';omega⟩
         ·exact hit j (by omega)
   · have h2':¬(k:Int)< (l.length:Int):=by omega
     simp(disch:=first|omega|decide|simp only[go_sem]) only[go_sem,a104b0,e1,e2,e5,e6,e25,e26,e27,e35,e36,e37,h2'];refine⟨g - 1,by omega,i+1,_,_,by omega,low,kt,hw,fun j hj=>?_,rfl,rfl⟩;by_cases hji:j=i
     · subst hji;intro l' hl';rw[gl]at hl';cases hl';refine⟨by omega,fun q=>?_⟩;by_cases hq:q<l.length
       ·exact hit q (by omega)
       · intro x hx;rw[List.getElem?_eq_none (by omega)]at hx;cases hx
     ·exact hrow j (by omega)
 · have h1':¬(i:Int)< (dom.length:Int):=by omega
   have D1:Dom1 t.sig dom:=⟨hlen,fun j l hj=>hrow j (by have:=(List.getElem?_eq_some_iff.1 hj).1;omega) l hj⟩;clear hrow;simp(disch:=first|omega|decide|simp only[go_sem]) only[go_sem,a104b1,e1,e2,e25,e26,e27,h1',hlv]
   refine wpC.loopM (fun g e st=> ∃(i:Nat)(H:Hp)(ws:List Nat)(o:Int),i+g=dom.length∧Low h.length h H∧H[h.length]?=some (.row 3 [encTy t])∧(∀x∈ws,h.length≤x)∧(o=0∨o=2)∧(o=0→∀j,j<i→∀k,ZX nv vss j k)∧(o=2→∃j k,¬ZX nv vss j k)∧(∀j,j<i→∀k,OkX nv dom vss j k)∧(eget e 2=.ptr h.length 0 0 1∧eget e 11=.int .i64 o∧eget e 72=dv∧eget e 73=.int .i64 (dom.length:Int)∧eget e 74=.int .i64 (i:Int))∧st=⟨H,ws,[]⟩) ?_ dom.length _ _
    ⟨0,H,ws,0,by omega,low,kt,hw,.inl rfl,(fun _ j hj=>by omega),(fun h=>by cases h),(fun j hj=>by omega),by simp only[go_sem,e1,e2,Int.natCast_zero],rfl⟩
   clear low kt hw e1 e2 e25 e26 e27 hHl h1 h1' hi;rintro g e st ⟨i,H,ws,o,hi,low,kt,hw,ho,hz0,hz2,hok,⟨e2,e11,e72,e73,e74⟩,rfl⟩;have hHl:=low.len;by_cases h1:i<dom.length
   · have h1':(i:Int)< (dom.length:Int):=by omega
     have gl:dom[i]?=some dom[i]:=List.getElem?_eq_getElem h1;have gv:vs[i]?=some (vs[i]'(by rw[D.l1];exact h1)):=List.getElem?_eq_getElem _;have ge:vss[i]?=some (vss[i]'(by rw[D.l2];exact h1)):=List.getElem?_eq_getElem _;generalize dom[i]=l at*;generalize vs[i]'(by rw[D.l1];exact h1)=v at*;generalize vss[i]'(by rw[D.l2];exact h1)=es at*;have Rv:=D.row i v es gv ge;have hE:=D.enc i l es gl ge;have hel:=hE.1;have cv:=D.cell v (List.mem_of_getElem? gv);obtain⟨p,ip,lp⟩:=D.top.idx gv;have lp1:=lp H false 1 low;rw[cv]at lp1;have hle:lenOf v=some l.length:=by rw[Rv.len,hel]
     obtain⟨h64,hItm⟩:=D1.2 i l gl;simp(disch:=first|omega|decide|simp only[go_sem]) only[go_sem,a104b3,e2,e11,e72,e73,e74,h1,h1',ip,lp1,hle]
     refine wpC.loopM (fun g e st=> ∃(k:Nat)(H:Hp)(ws:List Nat)(o:Int),k+g=l.length∧Low h.length h H∧H[h.length]?=some (.row 3 [encTy t])∧(∀x∈ws,h.length≤x)∧(o=0∨o=2)∧(o=0→(∀j,j<i→∀k,ZX nv vss j k)∧∀q,q<k→ZX nv vss i q)∧(o=2→∃j k,¬ZX nv vss j k)∧(∀q,q<k→OkX nv dom vss i q)∧(eget e 2=.ptr h.length 0 0 1∧eget e 11=.int .i64 o∧eget e 72=dv∧eget e 73=.int .i64 (dom.length:Int)∧eget e 74=.int .i64 (i:Int)∧eget e 78=v∧eget e 79=.int .i64 (l.length:Int)∧eget e 80=.int .i64 (k:Int))∧st=⟨H,ws,[]⟩) ?_ l.length _ _
      ⟨0,H,ws,o,by omega,low,kt,hw,ho,fun h=>⟨hz0 h,fun q hq=>by omega⟩,hz2,fun q hq=>by omega,by simp only[go_sem,e2,e11,e72,e73,e74,Int.natCast_zero],rfl⟩
     clear low kt hw e2 e11 e72 e73 e74 lp1 hHl ho hz0 hz2;rintro g' e st ⟨k,H,ws,o,hk,low,kt,hw,ho,hz0,hz2,hokk,⟨e2,e11,e72,e73,e74,e78,e79,e80⟩,rfl⟩;have hHl:=low.len;by_cases h2:k<l.length
     · have h2':(k:Int)< (l.length:Int):=by omega
       have gx:l[k]?=some l[k]:=List.getElem?_eq_getElem h2;have gX:es[k]?=some (es[k]'(by omega)):=List.getElem?_eq_getElem _;have hX:=hE.2 k _ _ gx gX;have hSO:=(hItm k _ gx).1;generalize l[k]=x at*;generalize es[k]'(by omega)=X at*;obtain⟨px,ipx,lpx⟩:=Rv.idx gX;have lx1:=lpx H true 3 low;rw[hX.sub]at lx1;obtain⟨b1,b2,b3,b4⟩:=hX.cells;have sb:=st_box (h:=H) (ws:=ws) (ups:=[]) (z:=zq3) (sz:=3) (c:=X) b1 rfl b2 hX.facts.1 ⟨_,rfl⟩ b4;have kX:(H++[AE.Obj.row 3 [X]])[H.length]?=some (.row 3 [X]):=by simp
       have kt5:(H++[AE.Obj.row 3 [X]])[h.length]?=some (.row 3 [encTy t]):=keepL kt;have low5:Low h.length h (H++[AE.Obj.row 3 [X]]):=low.push hHl;have hw5:∀y∈wadd H.length ws,h.length≤y:=wadd_low hHl hw;have hl5:(H++[AE.Obj.row 3 [X]]).length=H.length+1:=by simp
       generalize hH5:H++[AE.Obj.row 3 [X]]=H5 at*;generalize hk15:H.length=k15 at*;have lt5:loadAt true 3 (.ptr h.length 0 0 1) H5=some (encTy t):=by rw[ld_at kt5];rfl
       have lX:loadAt true 3 (.ptr k15 0 0 1) H5=some X:=by rw[ld_at kX];exact hX.sub
       obtain⟨hNX,evn⟩:=N x X hX;have evn:=evn H5;obtain⟨q1,q2,q4,q5,q6,q7,q8⟩:=hNX.facts
       have hzk:∀{o':Int},((nv X).2=0∧o'=o)∨((nv X).2≠0∧o'=2)→(o'=0→(∀j,j<i→∀k,ZX nv vss j k)∧∀q,q<k+1→ZX nv vss i q)∧(o'=2→∃j k,¬ZX nv vss j k):=fun{o'} hc=>by
        rcases hc with⟨h0,rfl⟩|⟨h0,rfl⟩
        · refine⟨fun h=>⟨(hz0 h).1,fun q hq=>?_⟩,hz2⟩;by_cases hqk:q=k
          · subst hqk;intro es' X' he hX';rw[ge]at he;cases he;rw[gX]at hX';cases hX';exact h0
          ·exact(hz0 h).2 q (by omega)
        ·exact⟨fun h=>by omega,fun _=>⟨i,k,fun hz=>h0 (hz es X ge gX)⟩⟩
       have hoX:((nv X).2=0→Enc x (nv X).1)→∀q,q<k+1→OkX nv dom vss i q:=fun hx q hq=>by
        by_cases hqk:q=k
        · subst hqk;intro l' es' x' X' h1 h2 h3 h4 h5;rw[gl]at h1;cases h1;rw[ge]at h2;cases h2;rw[gx]at h3;cases h3;rw[gX]at h4;cases h4;exact hx h5
        ·exact hokk q (by omega)
       have hno:¬((nv X).2=0→Enc x (nv X).1)→¬(Dom1 t.sig dom∧∀i k,OkX nv dom vss i k):=fun hn h=>hn fun h0=>h.2 i k l es x X gl ge gx gX h0;generalize hq0:(nv X).1=Q at*;generalize he0:(nv X).2=er at*;have sb2:=fun ws=>st_box (h:=H5) (ws:=ws) (ups:=[]) (z:=zq3) (sz:=3) (c:=Q) q1 rfl q2 q5 ⟨_,rfl⟩ q4;have kQ:(H5++[AE.Obj.row 3 [Q]])[H5.length]?=some (.row 3 [Q]):=by simp
       have kX6:(H5++[AE.Obj.row 3 [Q]])[k15]?=some (.row 3 [X]):=keepL kX;have kt6:(H5++[AE.Obj.row 3 [Q]])[h.length]?=some (.row 3 [encTy t]):=keepL kt5;have low6:Low h.length h (H5++[AE.Obj.row 3 [Q]]):=low5.push (by omega);have hw6:∀y∈wadd H5.length (wadd k15 ws),h.length≤y:=wadd_low (by omega) hw5;generalize hH6:H5++[AE.Obj.row 3 [Q]]=H6 at*;generalize hk16:H5.length=k16 at*;by_cases her:er=0
       · have hb:(er !=0)=false:=by simpa using her
         obtain⟨u,hu,hut⟩:∃u,Enc u Q∧treeB u=true:=by
          rcases hNX with⟨_,u,hu,hut⟩|⟨h,_⟩
          ·exact⟨u,hq0▸hu,hut⟩
          ·exact absurd (he0.trans her) h
         have lQ:loadAt true 3 (.ptr k16 0 0 1) H6=some Q:=by rw[ld_at kQ];exact q8
         have lX6:loadAt true 3 (.ptr k15 0 0 1) H6=some X:=by rw[ld_at kX6];exact hX.sub
         have evs:=sameX_ev hT hX u Q hu (by have:=treeB_nodes hSO.tree;omega) H6;cases htm:tmB x u
         · rw[htm]at evs;simp(disch:=first|omega|decide|simp only[go_sem]) only[go_sem,a104b2,e2,e11,e72,e73,e74,e78,e79,e80,h2,h2',ipx,lx1,hk15,sb,hH5,lt5,lX,cb evn,hk16,sb2,hH6,hb,lX6,lQ,cb evs,Bool.not_false,hT.prim,primOf,List.length_cons,List.length_nil,td H6 _ 90 low6 hw6];refine⟨90,rfl,.err (hno fun h=>?_)⟩;have:=(tmB_iff x u).2 ((h her).inj hu);rw[htm]at this;cases this
         · rw[htm]at evs;have hxu:=(tmB_iff x u).1 htm;subst hxu;obtain⟨z1,z2⟩:=hzk (o':=o) (.inl ⟨her,rfl⟩);simp(disch:=first|omega|decide|simp only[go_sem]) only[go_sem,a104b2,e2,e11,e72,e73,e74,e78,e79,e80,h2,h2',ipx,lx1,hk15,sb,hH5,lt5,lX,cb evn,hk16,sb2,hH6,hb,lX6,lQ,cb evs,Bool.not_true,hT.prim,primOf,List.length_cons,List.length_nil];exact⟨g' - 1,by omega,k+1,_,_,o,by omega,low6,kt6,hw6,ho,z1,z2,hoX fun _=>hu,⟨rfl,rfl⟩,rfl⟩
       · have hb:(er !=0)=true:=by simpa using her
         obtain⟨z1,z2⟩:=hzk (o':=2) (.inr ⟨her,rfl⟩);simp(disch:=first|omega|decide|simp only[go_sem]) only[go_sem,a104b2,e2,e11,e72,e73,e74,e78,e79,e80,h2,h2',ipx,lx1,hk15,sb,hH5,lt5,lX,cb evn,hk16,sb2,hH6,hb,hT.prim,primOf,List.length_cons,List.length_nil];exact⟨g' - 1,by omega,k+1,_,_,2,by omega,low6,kt6,hw6,.inr rfl,z1,z2,hoX fun h=>absurd h her,⟨rfl,rfl⟩,rfl⟩
     · have h2':¬(k:Int)< (l.length:Int):=by omega
       simp(disch:=first|omega|decide|simp only[go_sem]) only[go_sem,a104b2,e2,e11,e72,e73,e74,e78,e79,e80,h2'];refine⟨g - 1,by omega,i+1,_,_,o,by omega,low,kt,hw,ho,fun h j hj q=>?_,hz2,fun j hj q=>?_,⟨rfl,rfl⟩,rfl⟩
       · by_cases hji:j=i
         · subst hji;by_cases hq:q<l.length
           ·exact(hz0 h).2 q (by omega)
           · intro es' X he hX;rw[ge]at he;cases he;rw[List.getElem?_eq_none (by omega)]at hX;cases hX
         ·exact(hz0 h).1 j (by omega) q
       · by_cases hji:j=i
         · subst hji;by_cases hq:q<l.length
           ·exact hokk q (by omega)
           · intro l' es' x X h1 h2 h3;rw[gl]at h1;cases h1;rw[List.getElem?_eq_none (by omega)]at h3;cases h3
         ·exact hok j (by omega) q
   · have h1':¬(i:Int)< (dom.length:Int):=by omega
     simp(disch:=first|omega|decide|simp only[go_sem]) only[go_sem,a104b3,e2,e11,e72,e73,e74,h1',td H ws o low hw]
     have all:∀j k,OkX nv dom vss j k:=fun j k=>by
      by_cases hj:j<i
      ·exact hok j hj k
      · intro l es x X h1;rw[List.getElem?_eq_none (by omega)]at h1;cases h1
     refine⟨o,rfl,by omega,fun h=>by omega,fun _=>⟨D1,all⟩,fun h j k=>?_,hz2⟩;by_cases hj:j<i
     ·exact hz0 h j hj k
     · intro es X he;rw[List.getElem?_eq_none (by rw[D.l2];omega)]at he;cases he
end Go.Proofs.Tryz
namespace Go.Proofs.Tryz
open Go Go.AE
variable {T:Tbl}(hT:Std T)
def lRow(x:Int):AE.Obj:=.row 1 [.int .i64 x]
def fRow(kl kw:Nat):AE.Obj:=.row 1 [.func (.func 84) [] [.ptr kl 0 0 1,.ptr kw 0 0 1]]
theorem st1_0{H:Hp}{ws:List Nat}{ups:List (Nat×Nat)}{k:Nat}{x v:Int}(hk:H[k]?=some (lRow x)):
 storeAt 1 (.ptr k 0 0 1) (.int .i64 v) ⟨H,ws,ups⟩=some ⟨H.set k (lRow v),wadd k ws,ups⟩:=by
 unfold lRow at*;have hu:upd (.int .i64 x) 0 (.int .i64 v)=some (.int .i64 v):=rfl;simp only[storeAt,hk,List.length_cons,List.length_nil,PV.cells,List.all_cons,List.all_nil,PV.isCell,Bool.and_self,and_self,if_true,List.getElem?_cons_zero,hu,Option.map,List.set_cons_zero,PV.top,wrote_none]
def FewR(T:Tbl)(f:FuncId)(args:List PV)(H:Hp)(kl:Nat)(lf:Int)(nd:Nat)(neg:Bool):Prop:=∃x:Bool×Int×List Nat,Ev T f args H (.val (.bool (neg ^^x.1)),⟨H.set kl (lRow x.2.1),x.2.2,[]⟩)∧(-1≤x.2.1∧x.2.1<lf)∧(x.1=true→0≤x.2.1∧x.2.1+nd=lf)∧∀y∈x.2.2,y=kl
include hT in
theorem index135_w{g:FuncId}{cap:List PV}{H0:Hp}{kl:Nat}{left0:Int}(hg:T.prim g=none)(hk:H0[kl]?=some (lRow left0))(h0:0≤left0∧left0≤1000){l:List Tm}{sz:Nat}{es:List PV}{m:SM}(hs:es=[]∨sz=3)(hl:es.length=l.length)(he:∀(i:Nat)(x:Tm)(p:PV),l[i]?=some x→es[i]?=some p→Enc x p)
 (hf:∀(i:Nat)(x:Tm)(p:PV),l[i]?=some x→es[i]?=some p→∀lf,0≤lf→lf≤left0→FewR T g (p::cap) (H0.set kl (lRow lf)) kl lf x.nodes true):
 ∃r:Int×Int×List Nat,Ev T 135 [.slice sz es m,.func (.func g) [] cap] H0 (.val (.int .i64 r.1),⟨H0.set kl (lRow r.2.1),r.2.2,[]⟩)∧(-1≤r.2.1∧r.2.1≤left0)∧(¬0≤r.1→0≤r.2.1∧r.2.1+nodesL l=left0)∧∀y∈r.2.2,y=kl:=by
 refine hT.wp (r:=fun(r:Int×Int×List Nat)=>(.val (.int .i64 r.1),⟨H0.set kl (lRow r.2.1),r.2.2,[]⟩)) fn135 (by decide) ?_;simp(disch:=first|omega|decide|simp only[go_sem]) only[go_sem];have hH0:(⟨H0,[],[]⟩:St)=⟨H0.set kl (lRow left0),[],[]⟩:=by rw[set_self hk]
 rw[hH0];refine wpC.loopM (fun n e s=> ∃(i:Nat)(lf:Int)(ws:List Nat),i+n=es.length∧eget e 0=.slice sz es m∧eget e 1=.func (.func g) [] cap∧eget e 7=.int .i64 (es.length:Int)∧eget e 8=.int .i64 (i:Int)∧0≤lf∧lf+nodesL (l.take i)=left0∧(∀y∈ws,y=kl)∧s=⟨H0.set kl (lRow lf),ws,[]⟩) ?_ es.length _ _ ⟨0,left0,[],by simp,by simp only[go_sem],by simp only[go_sem],by simp only[go_sem],by simp only[go_sem];rfl,h0.1,by simp[nodesL],by simp,rfl⟩;rintro n e s ⟨i,lf,ws,hi,e0,e1,e7,e8,hlf,hsum,hw,rfl⟩;have M:∀z,Mod H0 (H0.set kl (lRow z)) kl (lRow z):=fun z=>(Mod.refl hk).put;have W0:∀ws:List Nat,(∀y∈ws,y=kl)→okWs H0 kl ws:=fun ws h x hx=>.inl (h x hx);by_cases h1:i<es.length
 · have ga:=get_lt h1;have hx:l[i]?=some l[i]:=List.getElem?_eq_getElem (by omega);have hE:=he i l[i] es[i] hx ga;have hlen:=nodesL_len (l.take i);rw[List.length_take]at hlen;obtain⟨⟨b,lf',ws'⟩,ev,hb1,hb2,hb3⟩:=hf i l[i] es[i] hx ga lf hlf (by omega);have htk:=nodesL_take hx;have bs:=hE.sub
   have hsz:sz=3:=by
    rcases hs with rfl|h
    ·simp at h1
    ·exact h
   subst hsz;simp only[List.set_set,Bool.true_xor]at ev hb1 hb2 hb3
   have hww:∀y∈wall ws' ws,y=kl:=fun y hy=>by
    rcases mem_wall hy with h|h
    ·exact hb3 y h
    ·exact hw y h
   cases b
   · obtain⟨wz,t1,t2⟩:=tidy_mod (v:=.int .i64 (i:Int)) rfl (M lf') (W0 _ hww);simp(disch:=first|omega|decide|simp only[go_sem]) only[go_sem,a135b0,e0,e1,e7,e8,h1,ga,bs,hg,cb ev,Bool.not_false,t1];exact⟨((i:Int),lf',wz),rfl,⟨hb1.1,by dsimp only;omega⟩,fun h=>absurd (by dsimp only;omega) h,t2⟩
   · obtain⟨q1,q2⟩:=hb2 rfl;simp(disch:=first|omega|decide|simp only[go_sem]) only[go_sem,a135b0,e0,e1,e7,e8,h1,ga,bs,hg,cb ev,Bool.not_true];exact⟨n - 1,by omega,i+1,lf',wall ws' ws,by omega,rfl,q1,by omega,hww,rfl⟩
 · obtain⟨wz,t1,t2⟩:=tidy_mod (v:=.int .i64 (-1)) rfl (M lf) (W0 _ hw);have hil:i=l.length:=by omega
   subst hil;rw[List.take_length]at hsum;simp(disch:=first|omega|decide|simp only[go_sem]) only[go_sem,a135b0,e0,e1,e7,e8,h1,t1];exact⟨(-1,lf,wz),rfl,⟨by dsimp only;omega,by dsimp only;omega⟩,fun _=>⟨hlf,hsum⟩,t2⟩
include hT in
theorem contains48_w{g:FuncId}{cap:List PV}{H0:Hp}{kl:Nat}{left0:Int}(hg:T.prim g=none)(hk:H0[kl]?=some (lRow left0))(h0:0≤left0∧left0≤1000){l:List Tm}{sz:Nat}{es:List PV}{m:SM}(hs:es=[]∨sz=3)(hl:es.length=l.length)(he:∀(i:Nat)(x:Tm)(p:PV),l[i]?=some x→es[i]?=some p→Enc x p)
 (hf:∀(i:Nat)(x:Tm)(p:PV),l[i]?=some x→es[i]?=some p→∀lf,0≤lf→lf≤left0→FewR T g (p::cap) (H0.set kl (lRow lf)) kl lf x.nodes true):
 ∃r:Bool×Int×List Nat,Ev T 48 [.slice sz es m,.func (.func g) [] cap] H0 (.val (.bool r.1),⟨H0.set kl (lRow r.2.1),r.2.2,[]⟩)∧(-1≤r.2.1∧r.2.1≤left0)∧(r.1=false→0≤r.2.1∧r.2.1+nodesL l=left0)∧∀y∈r.2.2,y=kl:=by
 obtain⟨⟨r,lf,ws⟩,ev,h1,h2,h3⟩:=index135_w hT (m:=m) hg hk h0 hs hl he hf;refine hT.wp (r:=fun(r:Bool×Int×List Nat)=>(.val (.bool r.1),⟨H0.set kl (lRow r.2.1),r.2.2,[]⟩)) fn48 (by decide) ?_
 obtain⟨wz,t1,t2⟩:=tidy_mod (v:=.bool (decide (0≤r))) (ws:=wall ws []) rfl ((Mod.refl hk).put (o':=lRow lf)) (fun x hx=>.inl (by
  rcases mem_wall hx with h|h
  ·exact h3 x h
  ·cases h))
 simp(disch:=first|omega|decide|simp only[go_sem]) only[go_sem,cb ev,hT.prim,primOf,t1];exact⟨(decide (0≤r),lf,wz),rfl,h1,fun h=>h2 (by simpa using h),t2⟩
theorem ld_l{H:Hp}{k:Nat}{x:Int}(hk:H[k]?=some (lRow x)):loadAt false 1 (.ptr k 0 0 1) H=some (.int .i64 x):=by rw[ld_at hk];rfl
theorem ld_f{H:Hp}{k kl kw:Nat}(hk:H[k]?=some (fRow kl kw)):loadAt false 1 (.ptr k 0 0 1) H=some (.func (.func 84) [] [.ptr kl 0 0 1,.ptr kw 0 0 1]):=by rw[ld_at hk];rfl
include hT in
theorem few85{x:Tm}{p:PV}(hx:Enc x p){H:Hp}{kl kw kd:Nat}{lf deep:Int}(h1:H[kl]?=some (lRow lf))(h2:H[kw]?=some (fRow kl kw))(h3:H[kd]?=some (lRow deep))(hd:0≤deep∧deep<100)
 (E84:∀H',H'[kl]?=some (lRow lf)→H'[kw]?=some (fRow kl kw)→FewR T 84 [p,.int .i64 (deep+1),.ptr kl 0 0 1,.ptr kw 0 0 1] H' kl lf x.nodes false):FewR T 85 [p,.ptr kw 0 0 1,.ptr kd 0 0 1] H kl lf x.nodes true:=by
 refine hT.wp (r:=fun(x:Bool×Int×List Nat)=>(.val (.bool (true ^^x.1)),⟨H.set kl (lRow x.2.1),x.2.2,[]⟩)) fn85 (by decide) ?_;obtain⟨c1,c2,c3,c4⟩:=hx.cells;have hsub:=hx.sub;have M1:Mod H (H++[AE.Obj.row 3 [p]]) kl (lRow lf):=(Mod.refl h1).push;have k1:(H++[AE.Obj.row 3 [p]])[kl]?=some (lRow lf):=keepL h1;have k2:(H++[AE.Obj.row 3 [p]])[kw]?=some (fRow kl kw):=keepL h2;have k3:(H++[AE.Obj.row 3 [p]])[kd]?=some (lRow deep):=keepL h3;have k4:(H++[AE.Obj.row 3 [p]])[H.length]?=some (.row 3 [p]):=by simp
 generalize hH1:H++[AE.Obj.row 3 [p]]=H1 at*;have lp:loadAt true 3 (.ptr H.length 0 0 1) H1=some p:=by rw[ld_at k4];exact hsub
 obtain⟨⟨b,lf',ws⟩,ev,q1,q2,q3⟩:=E84 H1 k1 k2;simp only[Bool.false_xor]at ev q1 q2 q3
 obtain⟨wz,t1,t2⟩:=tidy_mod (v:=.bool (!b)) (ws:=wall ws []) rfl (M1.put (o':=lRow lf')) (fun x hx=>.inl (by
  rcases mem_wall hx with h|h
  ·exact q3 x h
  ·cases h))
 simp(disch:=first|omega|decide|simp only[go_sem]) only[go_sem,hH1,c1,c3,ld_l k3,ld_f k2,lp,cb ev,hT.prim,primOf,t1];exact⟨(b,lf',wz),by simp only[Bool.true_xor],q1,q2,t2⟩
include hT in
theorem few84{t:Tm}{p:PV}(ht:Enc t p):∀(H:Hp)(kl kw:Nat)(lf deep:Int),H[kl]?=some (lRow lf)→H[kw]?=some (fRow kl kw)→kl≠kw→0≤lf∧lf≤1000→0≤deep∧deep≤100→FewR T 84 [p,.int .i64 deep,.ptr kl 0 0 1,.ptr kw 0 0 1] H kl lf t.nodes false:=by
 have hc:=ht.cells;induction ht with
 |mk k n l sz es hs hl he ih=>
   intro H kl kw lf deep h1 h2 hne hlf hdp;refine hT.wp (r:=fun(x:Bool×Int×List Nat)=>(.val (.bool (false ^^x.1)),⟨H.set kl (lRow x.2.1),x.2.2,[]⟩)) fn84 (by decide) ?_;obtain⟨c1,c2,c3,c4⟩:=hc;generalize hP:PV.agg [.int .i64 k,.int .i64 n,.slice sz es .any]=P at*;have hlt:=(List.getElem?_eq_some_iff.1 h1).1;have hltw:=(List.getElem?_eq_some_iff.1 h2).1;have M2:Mod H ((H++[AE.Obj.row 3 [P]])++[AE.Obj.row 1 [.int .i64 deep]]) kl (lRow lf):=(Mod.refl h1).push.push;have k1:((H++[AE.Obj.row 3 [P]])++[AE.Obj.row 1 [.int .i64 deep]])[kl]?=some (lRow lf):=keepL (keepL h1);have k2:((H++[AE.Obj.row 3 [P]])++[AE.Obj.row 1 [.int .i64 deep]])[kw]?=some (fRow kl kw):=keepL (keepL h2);have k3:((H++[AE.Obj.row 3 [P]])++[AE.Obj.row 1 [.int .i64 deep]])[(H++[AE.Obj.row 3 [P]]).length]?=some (lRow deep):=by simp[lRow]
   have k4:((H++[AE.Obj.row 3 [P]])++[AE.Obj.row 1 [.int .i64 deep]])[H.length]?=some (.row 3 [P]):=keepL (by simp);have hkd:kl< (H++[AE.Obj.row 3 [P]]).length:=by simp;omega
   have hkP:kl<H.length:=hlt;generalize hkd':(H++[AE.Obj.row 3 [P]]).length=kd at*;generalize hH2:(H++[AE.Obj.row 3 [P]])++[AE.Obj.row 1 [.int .i64 deep]]=H2 at*;have s1:=fun ws ups=>st1_0 (ws:=ws) (ups:=ups) (v:=lf - 1) k1;have M3:=M2.put (o':=lRow (lf - 1));have j1:(H2.set kl (lRow (lf - 1)))[kl]?=some (lRow (lf - 1)):=get_set k1;have j2:(H2.set kl (lRow (lf - 1)))[kw]?=some (fRow kl kw):=get_set_ne k2 hne;have j3:(H2.set kl (lRow (lf - 1)))[kd]?=some (lRow deep):=get_set_ne k3 (by omega);have j4:(H2.set kl (lRow (lf - 1)))[H.length]?=some (.row 3 [P]):=get_set_ne k4 (by omega);generalize hH3:H2.set kl (lRow (lf - 1))=H3 at*;have lP:loadAt false 1 (.ptr H.length 0 2 1) H3=some (.slice sz es .any):=by rw[ld_at j4,←hP];rfl
   obtain⟨wz,t1,t2⟩:=tidy_mod (v:=.bool false) (ws:=wadd kl []) rfl M3 (fun x hx=>by
    rcases mem_wadd hx with h|h
    ·exact .inl h
    ·cases h)
   by_cases hz:lf=0
   · have b0:¬(0:Int)≤lf - 1:=by omega
     simp(disch:=first|omega|decide|simp only[go_sem]) only[go_sem,c1,c3,hkd',hH2,ld_l k1,s1,hH3,ld_l j1,b0,t1];exact⟨(false,lf - 1,wz),rfl,⟨by dsimp only;omega,by dsimp only;omega⟩,(fun h=>by cases h),t2⟩
   · have b0:(0:Int)≤lf - 1:=by omega
     by_cases hd:deep<100
     · obtain⟨⟨r,lf',ws⟩,ev,q1,q2,q3⟩:=contains48_w hT (g:=85) (cap:=[.ptr kw 0 0 1,.ptr kd 0 0 1]) (left0:=lf - 1) (m:=.any) (by rw[hT.prim];rfl) j1 ⟨b0,by omega⟩ hs hl he fun i x p hx hp lf' hl0 hl1=>few85 hT (he i x p hx hp) (get_set j1) (get_set_ne j2 hne) (get_set_ne j3 (by omega)) ⟨hdp.1,hd⟩ fun H' g1 g2=>ih i x p hx hp (he i x p hx hp).cells H' kl kw lf' (deep+1) g1 g2 hne ⟨hl0,by omega⟩ ⟨by omega,by omega⟩
       obtain⟨wy,u1,u2⟩:=tidy_mod (v:=.bool (!r)) (ws:=wall ws (wadd kl [])) rfl (M3.put (o':=lRow lf')) (fun x hx=>.inl (by
        rcases mem_wall hx with h|h
        ·exact q3 x h
        · rcases mem_wadd h with h|h
          ·exact h
          ·cases h))
       simp(disch:=first|omega|decide|simp only[go_sem]) only[go_sem,c1,c3,hkd',hH2,ld_l k1,s1,hH3,ld_l j1,b0,ld_l j3,hd,lP,cb ev,hT.prim,primOf,u1];refine⟨(!r,lf',wy),by simp only[Bool.false_xor],⟨q1.1,by have:=q1.2;dsimp only at*;omega⟩,fun h=>?_,u2⟩;have hr:r=false:=by simpa using h
       obtain⟨a1,a2⟩:=q2 hr;simp only[Tm.nodes];dsimp only at*;omega
     · simp(disch:=first|omega|decide|simp only[go_sem]) only[go_sem,c1,c3,hkd',hH2,ld_l k1,s1,hH3,ld_l j1,b0,ld_l j3,hd,t1];exact⟨(false,lf - 1,wz),rfl,⟨by dsimp only;omega,by dsimp only;omega⟩,(fun h=>by cases h),t2⟩
include hT in
theorem few86{x:Tm}{p:PV}(hx:Enc x p){H:Hp}{kl kw:Nat}{lf:Int}(h1:H[kl]?=some (lRow lf))(h2:H[kw]?=some (fRow kl kw))(hne:kl≠kw)(hlf:0≤lf∧lf≤1000):FewR T 86 [p,.ptr kw 0 0 1] H kl lf x.nodes true:=by
 refine hT.wp (r:=fun(x:Bool×Int×List Nat)=>(.val (.bool (true ^^x.1)),⟨H.set kl (lRow x.2.1),x.2.2,[]⟩)) fn86 (by decide) ?_;obtain⟨c1,c2,c3,c4⟩:=hx.cells;have hsub:=hx.sub;have M1:Mod H (H++[AE.Obj.row 3 [p]]) kl (lRow lf):=(Mod.refl h1).push;have k1:(H++[AE.Obj.row 3 [p]])[kl]?=some (lRow lf):=keepL h1;have k2:(H++[AE.Obj.row 3 [p]])[kw]?=some (fRow kl kw):=keepL h2;have k4:(H++[AE.Obj.row 3 [p]])[H.length]?=some (.row 3 [p]):=by simp
 generalize hH1:H++[AE.Obj.row 3 [p]]=H1 at*;have lp:loadAt true 3 (.ptr H.length 0 0 1) H1=some p:=by rw[ld_at k4];exact hsub
 obtain⟨⟨b,lf',ws⟩,ev,q1,q2,q3⟩:=few84 hT hx H1 kl kw lf 0 k1 k2 hne hlf ⟨by omega,by omega⟩;simp only[Bool.false_xor]at ev q1 q2 q3
 obtain⟨wz,t1,t2⟩:=tidy_mod (v:=.bool (!b)) (ws:=wall ws []) rfl (M1.put (o':=lRow lf')) (fun x hx=>.inl (by
  rcases mem_wall hx with h|h
  ·exact q3 x h
  ·cases h))
 simp(disch:=first|omega|decide|simp only[go_sem]) only[go_sem,hH1,c1,c3,ld_f k2,lp,cb ev,hT.prim,primOf,t1];exact⟨(b,lf',wz),by simp only[Bool.true_xor],q1,q2,t2⟩
theorem st_fn{H:Hp}{ws:List Nat}{ups:List (Nat×Nat)}{k kl kw:Nat}(hk:H[k]?=some (.row 1 [.nilFunc])):
 ∃ups',storeAt 1 (.ptr k 0 0 1) (.func (.func 84) [] [.ptr kl 0 0 1,.ptr kw 0 0 1]) ⟨H,ws,ups⟩=some ⟨H.set k (fRow kl kw),wadd k ws,ups'⟩∧∀x∈ups',x∈ups∨x.1=k:=by
 have hu:upd .nilFunc 0 (.func (.func 84) [] [.ptr kl 0 0 1,.ptr kw 0 0 1])=some (.func (.func 84) [] [.ptr kl 0 0 1,.ptr kw 0 0 1]):=rfl;have h1:storeAt 1 (.ptr k 0 0 1) (.func (.func 84) [] [.ptr kl 0 0 1,.ptr kw 0 0 1]) ⟨H,ws,ups⟩=some (wrote k (fRow kl kw) (PV.func (.func 84) [] [.ptr kl 0 0 1,.ptr kw 0 0 1]).top ⟨H,ws,ups⟩):=by simp only[storeAt,hk,List.length_cons,List.length_nil,PV.cells,List.all_cons,List.all_nil,PV.isCell,Bool.and_self,and_self,if_true,List.getElem?_cons_zero,hu,Option.map,List.set_cons_zero,fRow]
 rw[h1];cases(PV.func (.func 84) [] [.ptr kl 0 0 1,.ptr kw 0 0 1]).top with
 |none=>exact⟨ups,by rw[wrote_none],fun x hx=>.inl hx⟩
 |some j=>
   refine⟨_,by rw[wrote_some],fun x hx=>?_⟩;split at hx
   · rcases List.mem_cons.1 hx with rfl|h
     ·exact .inr rfl
     ·exact .inl h
   ·exact .inl hx
include hT in
theorem fewL_ev{lim:Int}(hlim:0≤lim∧lim≤1000){l:List Tm}{sz:Nat}{es:List PV}{m:SM}(hs:es=[]∨sz=3)(hl:es.length=l.length)(he:∀(i:Nat)(x:Tm)(p:PV),l[i]?=some x→es[i]?=some p→Enc x p)(h:Hp):∃b:Bool,Ev T 17 [.int .i64 lim,.slice sz es m] h (.val (.bool b),⟨h,[],[]⟩)∧(b=true→nodesL l≤lim.toNat):=by
 refine hT.wp (r:=fun(b:Bool)=>(.val (.bool b),⟨h,[],[]⟩)) fn17 (by decide) ?_;have low:Low h.length h ((h++[AE.Obj.row 1 [.int .i64 lim]])++[AE.Obj.row 1 [.nilFunc]]):=((Low.refl _ _).push (Nat.le_refl _)).push (by simp);have k1:((h++[AE.Obj.row 1 [.int .i64 lim]])++[AE.Obj.row 1 [.nilFunc]])[h.length]?=some (lRow lim):=keepL (by simp[lRow]);have k2:((h++[AE.Obj.row 1 [.int .i64 lim]])++[AE.Obj.row 1 [.nilFunc]])[(h++[AE.Obj.row 1 [.int .i64 lim]]).length]?=some (.row 1 [.nilFunc]):=by simp
 have hkw:(h++[AE.Obj.row 1 [.int .i64 lim]]).length=h.length+1:=by simp
 generalize hkw':(h++[AE.Obj.row 1 [.int .i64 lim]]).length=kw at*;generalize hH:(h++[AE.Obj.row 1 [.int .i64 lim]])++[AE.Obj.row 1 [.nilFunc]]=H at*;obtain⟨ups,sf,hu⟩:=st_fn (ws:=[]) (ups:=[]) (kl:=h.length) (kw:=kw) k2;have j1:(H.set kw (fRow h.length kw))[h.length]?=some (lRow lim):=get_set_ne k1 (by omega);have j2:(H.set kw (fRow h.length kw))[kw]?=some (fRow h.length kw):=get_set k2;have low2:Low h.length h (H.set kw (fRow h.length kw)):=low.trans (.set (by omega));generalize hH1:H.set kw (fRow h.length kw)=H1 at*;obtain⟨⟨r,lf',ws⟩,ev,q1,q2,q3⟩:=contains48_w hT (g:=86) (cap:=[.ptr kw 0 0 1]) (left0:=lim) (m:=m) (sz:=sz) (by rw[hT.prim];rfl) j1 hlim hs hl he fun i x q hx hq lf' hl0 hl1=>few86 hT (he i x q hx hq) (get_set j1) (get_set_ne j2 (by omega)) (by omega) ⟨hl0,by omega⟩;dsimp only at ev q1 q2 q3
 have td:tidy 0 h.length (.val (.bool (!r))) ⟨H1.set h.length (lRow lf'),wall ws (wadd kw []),ups⟩=(.val (.bool (!r)),⟨h,[],[]⟩):=tidy_ups rfl (low2.trans (.set (Nat.le_refl _))) (fun x hx=>by
  rcases mem_wall hx with h|h
  ·have:=q3 x h;omega
  · rcases mem_wadd h with h|h
    ·omega
    ·cases h) (fun x hx=>by
  rcases hu x hx with h|h
  ·cases h
  ·omega)
 simp(disch:=first|omega|decide|simp only[go_sem]) only[go_sem,hkw',hH,sf,hH1,cb ev,hT.prim,primOf,td];refine⟨!r,rfl,fun h=>?_⟩;have hr:r=false:=by simpa using h
 obtain⟨a1,a2⟩:=q2 hr;omega
end Go.Proofs.Tryz
namespace Go.Proofs.Tryz
open Go Go.AE
variable {T:Tbl}(hT:Std T){s:GSig}
def encL(l:List Tm):PV:=.slice 3 (l.map encT) .any
theorem encL_sub{l:List Tm}:AE.sub false 1 (encL l) 0=some (encL l):=rfl
theorem encL_map'(l:List Tm):EncL l (l.map encT):=encL_map l
def PlainL(l:List Tm):Prop:=l.length≤80∧nodesL l≤1000
include hT in
theorem plain1_ev(l:List Tm)(h:Hp):∃b:Bool,Ev T 102 [encL l] h (.val (.bool b),⟨h,[],[]⟩)∧(b=false→PlainL l):=by
 refine hT.wp (r:=fun b:Bool=>(.val (.bool b),⟨h,[],[]⟩)) fn102 (by decide) ?_;by_cases h80:80<l.length
 · have hb:(80:Int)< (l.length:Int):=by omega
   simp(disch:=first|omega|decide|simp only[go_sem]) only[go_sem,encL,List.length_map,hb];exact⟨true,rfl,by simp⟩
 · have hb:¬(80:Int)< (l.length:Int):=by omega
   obtain⟨b,ev,hn⟩:=fewL_ev hT (lim:=1000) ⟨by omega,by omega⟩ (l:=l) (sz:=3) (es:=l.map encT) (m:=.any) (.inr rfl) (encL_map l).1 (encL_map l).2 h;simp(disch:=first|omega|decide|simp only[go_sem]) only[go_sem,encL,List.length_map,hb,cb ev,hT.prim,primOf];exact⟨!b,rfl,fun h=>⟨by omega,hn (by simpa using h)⟩⟩
include hT in
theorem plain_ev(dom:List (List Tm))(h:Hp):∃b:Bool,Ev T 24 [.slice 1 (dom.map encL) .any] h (.val (.bool b),⟨h,[],[]⟩)∧(b=true→dom.length≤30∧∀l∈dom,PlainL l):=by
 refine hT.wp (r:=fun b:Bool=>(.val (.bool b),⟨h,[],[]⟩)) fn24 (by decide) ?_;by_cases h30:dom.length≤30
 · have hb:(dom.length:Int)≤30:=by omega
   have W:∃r:Int,Ev T 175 [.slice 1 (dom.map encL) .any,.func (.func 102) [] []] h (.val (.int .i64 r),⟨h,[],[]⟩)∧(¬0≤r→∀l∈dom,PlainL l):=by
    refine hT.wp (r:=fun r:Int=>(.val (.int .i64 r),⟨h,[],[]⟩)) fn175 (by decide) ?_;simp(disch:=first|omega|decide|simp only[go_sem]) only[go_sem,List.length_map];refine wpC.loopM (fun n e s=> ∃i:Nat,i+n=dom.length∧(∀j (hj:j<dom.length),j<i→PlainL dom[j])∧(eget e 0=.slice 1 (dom.map encL) .any∧eget e 1=.func (.func 102) [] []∧eget e 7=.int .i64 (dom.length:Int)∧eget e 8=.int .i64 (i:Int))∧s=⟨h,[],[]⟩) ?_ dom.length _ _ ⟨0,by simp,fun j _ hj=>by omega,by simp only[go_sem,Int.natCast_zero],rfl⟩;rintro n e s ⟨i,hi,hp,⟨e0,e1,e7,e8⟩,rfl⟩;by_cases h1:i<dom.length
    · have h1':(i:Int)< (dom.length:Int):=by omega
      have ga:(dom.map encL)[i]?=some (encL dom[i]):=by rw[List.getElem?_map,List.getElem?_eq_getElem h1];rfl
      obtain⟨b,ev,hb⟩:=plain1_ev hT dom[i] h;cases b
      · simp(disch:=first|omega|decide|simp only[go_sem]) only[go_sem,a175b0,e0,e1,e7,e8,h1,h1',ga,encL_sub,cb ev,hT.prim,primOf];refine⟨n - 1,by omega,i+1,by omega,fun j hj hji=>?_,rfl,trivial⟩;by_cases hjj:j=i
        ·subst hjj;exact hb rfl
        ·exact hp j hj (by omega)
      · simp(disch:=first|omega|decide|simp only[go_sem]) only[go_sem,a175b0,e0,e1,e7,e8,h1,h1',ga,encL_sub,cb ev,hT.prim,primOf];exact⟨(i:Int),rfl,fun h=>by omega⟩
    · have h1':¬(i:Int)< (dom.length:Int):=by omega
      simp(disch:=first|omega|decide|simp only[go_sem]) only[go_sem,a175b0,e0,e1,e7,e8,h1'];refine⟨_,rfl,fun _ x hx=>?_⟩;obtain⟨j,hj,rfl⟩:=List.getElem_of_mem hx;exact hp j hj (by omega)
   obtain⟨r,ev,hr⟩:=W;have ev2:Ev T 101 [.slice 1 (dom.map encL) .any,.func (.func 102) [] []] h (.val (.bool (decide (0≤r))),⟨h,[],[]⟩):=by refine hT.wk fn101 (by decide) ?_;simp(disch:=first|omega|decide|simp only[go_sem]) only[go_sem,cb ev,hT.prim,primOf]
   simp(disch:=first|omega|decide|simp only[go_sem]) only[go_sem,List.length_map,hb,cb ev2,hT.prim,primOf];exact⟨_,rfl,fun h=>⟨h30,hr (by simpa using h)⟩⟩
 · have hb:¬(dom.length:Int)≤30:=by omega
   simp(disch:=first|omega|decide|simp only[go_sem]) only[go_sem,List.length_map,hb];exact⟨false,rfl,by simp⟩
theorem append_L2{H:Hp}{v p q:PV}{es:List PV}{lo:Nat}(A:AppL H v es lo)(hp:p.cells.all PV.isCell=true)(hq:q.cells.all PV.isCell=true)(hl:es.length<100000)(hlo:lo≤H.length):
 ∃(H':Hp)(fw:List Nat→List Nat)(kt:Nat),(∀ws ups,appendop 3 40 v (.slice 3 [p,q] .lit) ⟨H,ws,ups⟩=some (.slice 3 (es++[p,q]) (.tok kt),⟨H',fw ws,ups⟩))∧AppL H' (.slice 3 (es++[p,q]) (.tok kt)) (es++[p,q]) lo∧(∀(j:Nat)(o:AE.Obj),o.isTok=false→H[j]?=some o→H'[j]?=some o)∧Low lo H H'∧∀ws,(∀x∈ws,lo≤x)→∀x∈fw ws,lo≤x:=by
 have hroom:(es.length+2) *40≤room∧es.length+2≤room:=by
  have:10000000≤room:=by decide
  constructor<;>omega
 rcases A with⟨rfl,rfl⟩|⟨kt,rfl,h2,h3⟩
 · simp at hroom;refine⟨H++[.tok 3 2],fun ws=>ws,H.length,fun ws ups=>?_,.inr ⟨H.length,rfl,by simp,hlo⟩,fun j o _ hj=>keepL hj,(Low.refl _ _).push hlo,fun ws hx=>hx⟩;simp[appendop,elems,hp,hq,hroom,alloc]
 · refine⟨H.set kt (.tok 3 (es.length+2)),wadd kt,kt,fun ws ups=>?_,.inr ⟨kt,rfl,by rw[get_set h2];simp,h3⟩,fun j o ho hj=>get_set_ne hj ?_,.set h3,fun ws hx=>wadd_low h3 hx⟩
   ·simp[appendop,elems,hp,hq,hroom,h2,wrote_none]
   · rintro rfl;rw[h2]at hj;cases hj;cases ho
structure LittleP (t:GTy):Prop where
 small:smallB t.sig=true
 n:t.eqns.length≤30
set_option maxRecDepth 4000 in
include hT in
theorem little_ev(t:GTy)(h:Hp):∃b:Bool,Ev T 23 [encTy t] h (.val (.bool b),⟨h,[],[]⟩)∧(b=true→LittleP t):=by
 refine hT.wp (r:=fun b:Bool=>(.val (.bool b),⟨h,[],[]⟩)) fn23 (by decide) ?_;have k1:(h++[AE.Obj.row 3 [encTy t]])[h.length]?=some (.row 3 [encTy t]):=by simp
 have low1:Low h.length h (h++[AE.Obj.row 3 [encTy t]]):=(Low.refl _ _).push (Nat.le_refl _);generalize hH1:h++[AE.Obj.row 3 [encTy t]]=H1 at*;have l1:loadAt false 1 (.ptr h.length 0 2 1) H1=some (.slice 8 (t.eqns.map encEqn) .any):=by rw[ld_at k1];rfl
 have td:∀(H:Hp)(ws:List Nat)(b:Bool),Low h.length h H→(∀x∈ws,h.length≤x)→tidy 0 h.length (.val (.bool b)) ⟨H,ws,[]⟩=(.val (.bool b),⟨h,[],[]⟩):=fun H ws b L hw=>tidy_low rfl rfl L hw;by_cases h30:30<t.eqns.length
 · have hb:(30:Int)< (t.eqns.length:Int):=by omega
   simp(disch:=first|omega|decide|simp only[go_sem]) only[go_sem,hH1,ty_len,ty_def,List.length_cons,List.length_nil,List.length_map,l1,hb,td H1 [] false low1 (by simp)];exact⟨false,rfl,by simp⟩
 have hb:¬(30:Int)< (t.eqns.length:Int):=by omega
 simp(disch:=first|omega|decide|simp only[go_sem]) only[go_sem,hH1,ty_len,ty_def,List.length_cons,List.length_nil,List.length_map,l1,hb]
 refine wpC.loopM (fun g e st=> ∃(i:Nat)(H:Hp)(ws:List Nat)(v:PV)(us:List Tm)(es:List PV),i+g=t.eqns.length∧Low h.length h H∧H[h.length]?=some (.row 3 [encTy t])∧(∀x∈ws,h.length≤x)∧AppL H v es h.length∧EncL us es∧es.length≤i*100∧(eget e 1=.ptr h.length 0 0 1∧eget e 3=v∧eget e 13=.slice 8 (t.eqns.map encEqn) .any∧eget e 14=.int .i64 (t.eqns.length:Int)∧eget e 15=.int .i64 (i:Int))∧st=⟨H,ws,[]⟩) ?_ t.eqns.length _ _
  ⟨0,H1,[],_,[],[],by omega,low1,k1,by simp,.inl ⟨rfl,rfl⟩,⟨rfl,by simp⟩,by simp,by simp only[go_sem,Int.natCast_zero],rfl⟩
 rintro g e st ⟨i,H,ws,v,us,es,hi,low,kt,hw,hA,hE,hel,⟨e1,e3,e13,e14,e15⟩,rfl⟩;have hHl:=low.len;by_cases h1:i<t.eqns.length
 · have h1':(i:Int)< (t.eqns.length:Int):=by omega
   have hx:t.eqns[i]?=some t.eqns[i]:=List.getElem?_eq_getElem h1;have ga:(t.eqns.map encEqn)[i]?=some (encEqn t.eqns[i]):=by rw[List.getElem?_map,hx];rfl
   generalize t.eqns[i]=q at*;obtain⟨c1,c2,c3⟩:=eqn_box q;have sb:=st_box (h:=H) (ws:=ws) (ups:=[]) (z:=zq8) (sz:=8) (c:=encEqn q) c1 rfl c2 (eqn_top q) ⟨_,rfl⟩ ⟨_,rfl⟩;have k5:(H++[AE.Obj.row 8 [encEqn q]])[H.length]?=some (.row 8 [encEqn q]):=by simp
   have kt5:(H++[AE.Obj.row 8 [encEqn q]])[h.length]?=some (.row 3 [encTy t]):=keepL kt;have A5:=hA.push (o:=AE.Obj.row 8 [encEqn q]);have low5:Low h.length h (H++[AE.Obj.row 8 [encEqn q]]):=low.push hHl;have hw5:∀y∈wadd H.length ws,h.length≤y:=wadd_low hHl hw;have hl5:(H++[AE.Obj.row 8 [encEqn q]]).length=H.length+1:=by simp
   generalize hH5:H++[AE.Obj.row 8 [encEqn q]]=H5 at*;generalize hk5:H.length=kq at*;have lA:loadAt true 3 (.ptr kq 0 2 1) H5=some (encT q.A):=by rw[ld_at k5];exact eqn_A
   have lB:loadAt true 3 (.ptr kq 0 5 1) H5=some (encT q.B):=by rw[ld_at k5];exact eqn_B
   have fA:=encT_facts q.A;have fB:=encT_facts q.B;have f2:=fe_two (p:=encT q.A) (q:=encT q.B) ⟨encT_cells _,fA.2.1⟩ ⟨encT_cells _,fB.2.1⟩;obtain⟨H6,fw,kt6,ap,A6,keep6,low6,hfw⟩:=append_L2 A5 fA.1 fB.1 (by omega) (show h.length≤H5.length by omega);have k6:=keep6 _ _ rfl k5;have ktt6:=keep6 _ _ rfl kt5;have lowS:Low h.length h H6:=low5.trans low6;have hw6:=hfw _ hw5;have E6:=(hE.snoc (enc_encT q.A)).snoc (enc_encT q.B);rw[List.append_assoc,List.append_assoc]at E6;have lc:loadAt false 1 (.ptr kq 0 1 1) H6=some (.slice 6 (q.conds.map encPair) .any):=by rw[ld_at k6];exact eqn_conds
   have lv:loadAt false 1 (.ptr kq 0 0 1) H6=some (.slice 1 (q.vars.map encI) .any):=by rw[ld_at k6];exact eqn_vars
   by_cases h20:20<q.conds.length
   · have hb:(20:Int)< (q.conds.length:Int):=by omega
     simp(disch:=first|omega|decide|simp only[go_sem]) only[go_sem,a23b1,e1,e3,e13,e14,e15,h1,h1',ga,eqn_all,hk5,sb,hH5,lA,lB,f2,ap,lc,lv,hb,List.length_cons,List.length_nil,List.length_map,td H6 _ false lowS hw6];exact⟨false,rfl,by simp⟩
   have hb20:¬(20:Int)< (q.conds.length:Int):=by omega
   by_cases h100:100<q.vars.length
   · have hb:(100:Int)< (q.vars.length:Int):=by omega
     simp(disch:=first|omega|decide|simp only[go_sem]) only[go_sem,a23b1,e1,e3,e13,e14,e15,h1,h1',ga,eqn_all,hk5,sb,hH5,lA,lB,f2,ap,lc,lv,hb20,hb,List.length_cons,List.length_nil,List.length_map,td H6 _ false lowS hw6];exact⟨false,rfl,by simp⟩
   have hb100:¬(100:Int)< (q.vars.length:Int):=by omega
   simp(disch:=first|omega|decide|simp only[go_sem]) only[go_sem,a23b1,e1,e3,e13,e14,e15,h1,h1',ga,eqn_all,hk5,sb,hH5,lA,lB,f2,ap,lc,lv,hb20,hb100,List.length_cons,List.length_nil,List.length_map]
   refine wpC.loopM (fun g e st=> ∃(k:Nat)(H:Hp)(ws:List Nat)(v:PV)(us:List Tm)(es:List PV),k+g=q.conds.length∧Low h.length h H∧H[h.length]?=some (.row 3 [encTy t])∧(∀x∈ws,h.length≤x)∧AppL H v es h.length∧EncL us es∧es.length≤i*100+2+2*k∧(eget e 1=.ptr h.length 0 0 1∧eget e 3=v∧eget e 13=.slice 8 (t.eqns.map encEqn) .any∧eget e 14=.int .i64 (t.eqns.length:Int)∧eget e 15=.int .i64 (i:Int)∧eget e 37=.slice 6 (q.conds.map encPair) .any∧eget e 38=.int .i64 (q.conds.length:Int)∧eget e 39=.int .i64 (k:Int))∧st=⟨H,ws,[]⟩) ?_ q.conds.length _ _
    ⟨0,H6,_,_,_,_,by omega,lowS,ktt6,hw6,A6,E6,by simp;omega,by simp only[go_sem,e1,e3,e13,e14,e15,Int.natCast_zero],rfl⟩
   clear low kt hw hA hE hel e1 e3 e13 e14 e15 sb hHl;rintro g' e st ⟨k,H,ws,v,us,es,hk,low,kt,hw,hA,hE,hel,⟨e1,e3,e13,e14,e15,e37,e38,e39⟩,rfl⟩;have hHl:=low.len;by_cases h2:k<q.conds.length
   · have h2':(k:Int)< (q.conds.length:Int):=by omega
     have hx:q.conds[k]?=some q.conds[k]:=List.getElem?_eq_getElem h2;have ga:(q.conds.map encPair)[k]?=some (encPair q.conds[k]):=by rw[List.getElem?_map,hx];rfl
     generalize q.conds[k]=p at*;obtain⟨b1,b2,b3⟩:=pair_box p;have sb:=st_box (h:=H) (ws:=ws) (ups:=[]) (z:=zq6) (sz:=6) (c:=encPair p) b1 rfl b2 (pair_top p) ⟨_,rfl⟩ ⟨_,rfl⟩;have k7:(H++[AE.Obj.row 6 [encPair p]])[H.length]?=some (.row 6 [encPair p]):=by simp
     have kt7:(H++[AE.Obj.row 6 [encPair p]])[h.length]?=some (.row 3 [encTy t]):=keepL kt;have A7:=hA.push (o:=AE.Obj.row 6 [encPair p]);have low7:Low h.length h (H++[AE.Obj.row 6 [encPair p]]):=low.push hHl;have hw7:∀y∈wadd H.length ws,h.length≤y:=wadd_low hHl hw;have hl7:(H++[AE.Obj.row 6 [encPair p]]).length=H.length+1:=by simp
     generalize hH7:H++[AE.Obj.row 6 [encPair p]]=H7 at*;generalize hkp:H.length=kp at*;have pA:loadAt true 3 (.ptr kp 0 0 1) H7=some (encT p.1):=by rw[ld_at k7];exact pair_A
     have pB:loadAt true 3 (.ptr kp 0 3 1) H7=some (encT p.2):=by rw[ld_at k7];exact pair_B
     have f1:=encT_facts p.1;have f2:=encT_facts p.2;have ff:=fe_two (p:=encT p.1) (q:=encT p.2) ⟨encT_cells _,f1.2.1⟩ ⟨encT_cells _,f2.2.1⟩;obtain⟨H8,fw,kt8,ap,A8,keep8,low8,hfw⟩:=append_L2 A7 f1.1 f2.1 (by omega) (show h.length≤H7.length by omega);have E8:=(hE.snoc (enc_encT p.1)).snoc (enc_encT p.2);rw[List.append_assoc,List.append_assoc]at E8;simp(disch:=first|omega|decide|simp only[go_sem]) only[go_sem,a23b0,e1,e3,e13,e14,e15,e37,e38,e39,h2,h2',ga,pair_all,hkp,sb,hH7,pA,pB,ff,ap,List.length_cons,List.length_nil,List.length_map];exact⟨g' - 1,by omega,k+1,_,_,_,_,_,by omega,low7.trans low8,keep8 _ _ rfl kt7,hfw _ hw7,A8,E8,by simp;omega,⟨rfl,rfl⟩,rfl⟩
   · have h2':¬(k:Int)< (q.conds.length:Int):=by omega
     simp(disch:=first|omega|decide|simp only[go_sem]) only[go_sem,a23b0,e1,e3,e13,e14,e15,e37,e38,e39,h2'];exact⟨g - 1,by omega,i+1,_,_,_,_,_,by omega,low,kt,hw,hA,hE,by omega,⟨rfl,rfl⟩,rfl⟩
 · have h1':¬(i:Int)< (t.eqns.length:Int):=by omega
   have lg:loadAt true 2 (.ptr h.length 0 0 1) H=some (encSig t.sig):=by rw[ld_at kt];rfl
   have ev:=small_ev hT t.sig H;cases hsm:smallB t.sig
   · rw[hsm]at ev;simp(disch:=first|omega|decide|simp only[go_sem]) only[go_sem,a23b1,e1,e3,e13,e14,e15,h1',lg,cb ev,hT.prim,primOf,td H ws false low hw];exact⟨false,rfl,by simp⟩
   · rw[hsm]at ev;obtain⟨z,m,rfl,hz⟩:=hA.form;obtain⟨b,evf,_⟩:=fewL_ev hT (lim:=600) ⟨by omega,by omega⟩ (m:=m) hz hE.1 hE.2 H;simp(disch:=first|omega|decide|simp only[go_sem]) only[go_sem,a23b1,e1,e3,e13,e14,e15,h1',lg,cb ev,cb evf,hT.prim,primOf,td H ws b low hw];exact⟨b,rfl,fun _=>⟨hsm,by omega⟩⟩
end Go.Proofs.Tryz
