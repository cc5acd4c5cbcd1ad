/- Texts of the proof, one behind the other: ValL11, ValQZ. -/
import Derived.Test.YtekepgfmgeophaaGreatPartAM
import Derived.Test.YtekepgfmgeophaaGreatPartAQ
import Derived.Test.YtekepgfmgeophaaGreatPartBC
import Derived.Test.YtekepgfmgeophaaGreatPartAR
set_option linter.unusedVariables false
set_option linter.unusedSimpArgs false
/- The table for the laws: sane, sig.Check and nth answer each call by one value. -/
namespace Go.Proofs.Tryz
open Go Go.AE
def good15 (_:List PV) (v:PV):Prop:=v=.bool true
def good87 (key:List PV) (v:PV):Prop:=∃ r:Int,v=.int .i64 r∧∀ s:GSig,key=[encSig s]→(r=0∧sigP s)∨(r=40∧¬ sigP s)
def good91 (key:List PV) (v:PV):Prop:=∀ (s:GSig) (a m:Nat) (n:Int),key=[encTab s,.int .i64 (a:Int),.int .i64 (m:Int),.int .i64 n]→Nth91 s a m n v∧IsT v
def goods (f:FuncId):Option (List PV→PV→Prop):=if f=15 then some good15 else if f=87 then some good87 else if f=91 then some good91 else none
noncomputable def TL:Tbl:=T0.knows Tryz.prog 200 goods
theorem TL_ok:TblOK Tryz.prog TL:=Tbl.knows_ok T0_ok
theorem TL_std:Std TL where
 sp f h:=by
  have h2:f≠15∧f≠87∧f≠91:=by
   simp only [spList,List.mem_cons,List.not_mem_nil,or_false,not_or] at h
   exact ⟨h.2.2.2.2.2.1,h.2.2.2.2.2.2.1,h.2.2.2.2.2.2.2.1⟩
  have e:goods f=none:=by simp [goods,h2]
  rw [TL,Tbl.knows_sp e]
  exact T0_std.sp f h
 fn f:=by rw [TL,Tbl.knows_fn]; exact T0_std.fn f
 prim:=by rw [TL,Tbl.knows_prim]; exact T0_std.prim
 mode f:=by rw [TL,Tbl.knows_mode]; exact T0_std.mode f
theorem T0_sp87:T0.sp 87=none:=by rw [T0_sp]; rfl
theorem T0_sp208:T0.sp 208=some (cloneSp af208):=by rw [T0_sp]; rfl
theorem encSig_pw (s:GSig):(encSig s).pure=true∧(encSig s).weak=encSig s:=by
 obtain ⟨⟨a,b⟩,c,d⟩:=enc_pure s
 refine ⟨?_,?_⟩
 · simp only [encSig,PV.pure,pures,Bool.and_true] at a c ⊢
   rw [a,c]; rfl
 · simp only [encSig,PV.weak,weaks] at b d ⊢
   rw [(PV.slice.inj b).2.1,(PV.slice.inj d).2.1]
theorem encOp_inj {o o':GOp} (h:encOp o=encOp o'):o=o':=by
 obtain ⟨n,a,r⟩:=o
 obtain ⟨n',a',r'⟩:=o'
 simp only [encOp,PV.agg.injEq,List.cons.injEq,PV.str.injEq,PV.slice.injEq,PV.int.injEq] at h
 obtain ⟨rfl,⟨_,ha,_⟩,⟨_,rfl⟩,_⟩:=h
 have:a=a':=(List.map_inj_right (fun x y hxy => (PV.int.inj hxy).2)).1 ha
 subst this
 rfl
theorem encSig_inj {s s':GSig} (h:encSig s=encSig s'):s=s':=by
 obtain ⟨a,b⟩:=s
 obtain ⟨a',b'⟩:=s'
 simp only [encSig,PV.agg.injEq,List.cons.injEq,PV.slice.injEq] at h
 obtain ⟨⟨_,h1,_⟩,⟨_,h2,_⟩,_⟩:=h
 have e1:a=a':=(List.map_inj_right (fun x y hxy => PV.str.inj hxy)).1 h1
 have e2:b=b':=(List.map_inj_right (fun x y hxy => encOp_inj hxy)).1 h2
 subst e1 e2
 rfl
theorem check_exact {s:GSig} (hs:Fits s):∃ r:Int,((r=0∧sigP s)∨(r=40∧¬ sigP s))∧∀ h,Ev TL 87 [encSig s] h (.val (.int .i64 r),⟨h,[],[]⟩):=by
 obtain ⟨r,ev,kr⟩:=check_tot T0_std T0_sp87 T0_sp208 hs []
 obtain ⟨p1,p2⟩:=encSig_pw s
 obtain ⟨v,⟨r',rfl,h2⟩,_,ev'⟩:=Ev.knows (T:=T0) (N:=200) (m:=goods) (f:=87) (good:=good87) rfl (args:=[encSig s]) (by simp [pures,p1]) (by simp [weaks,p2]) (Known.of_ev T0_ok rfl ev) ⟨r,rfl,fun s' he => by
  have:=encSig_inj (List.cons.inj he).1
  subst this
  exact kr⟩
 exact ⟨r',h2 s rfl,ev'⟩
end Go.Proofs.Tryz
/- The table for the laws about types: sane, sig.Check, types.Check and rewr.Normal answer each call by one value. -/
namespace Go.Proofs.Tryz
open Go Go.AE
theorem encT_pw (t:Tm):(encT t).pure=true∧(encT t).weak=encT t:=(enc_encT t).facts.2
theorem pures_append {a b:List PV} (ha:pures a=true) (hb:pures b=true):pures (a ++ b)=true:=by
 induction a with
 | nil => exact hb
 | cons x a ih =>
   simp only [pures,Bool.and_eq_true] at ha
   simp only [List.cons_append,pures,ha.1,ih ha.2,Bool.and_self]
theorem weaks_append {a b:List PV}:weaks (a ++ b)=weaks a ++ weaks b:=by
 induction a with
 | nil => rfl
 | cons x a ih => simp only [List.cons_append,weaks,ih]
theorem encT_cpw (t:Tm):pures (encT t).cells=true∧weaks (encT t).cells=(encT t).cells:=by
 obtain ⟨h1,h2⟩:=encT_pw t
 obtain ⟨cs,hc⟩:=(enc_encT t).cells.2.2.2
 rw [hc] at h1 h2 ⊢
 exact ⟨h1,by simpa [PV.weak,PV.cells] using h2⟩
theorem map_pw {α:Type} {f:α→PV} (h:∀ x,(f x).pure=true∧(f x).weak=f x) (l:List α):pures (l.map f)=true∧weaks (l.map f)=l.map f:=by
 induction l with
 | nil => exact ⟨rfl,rfl⟩
 | cons x l ih => simp [pures,weaks,h x,ih]
theorem encPair_pw (p:Tm × Tm):(encPair p).pure=true∧(encPair p).weak=encPair p:=by
 obtain ⟨a1,a2⟩:=encT_cpw p.1
 obtain ⟨b1,b2⟩:=encT_cpw p.2
 exact ⟨pures_append a1 b1,by simp only [encPair,PV.weak,weaks_append,a2,b2]⟩
theorem encEqn_pw (e:GEqn):(encEqn e).pure=true∧(encEqn e).weak=encEqn e:=by
 obtain ⟨a1,a2⟩:=encT_cpw e.A
 obtain ⟨b1,b2⟩:=encT_cpw e.B
 obtain ⟨v1,v2⟩:=encI_weak e.vars
 obtain ⟨c1,c2⟩:=map_pw encPair_pw e.conds
 refine ⟨pures_append ?_ (pures_append a1 b1),?_⟩
 · simp [pures,PV.pure,v1,c1]
 · simp only [encEqn,PV.weak,weaks_append,a2,b2,weaks,v2,c2]
theorem encTy_pw (t:GTy):(encTy t).pure=true∧(encTy t).weak=encTy t:=by
 obtain ⟨h1,h2⟩:=encSig_pw t.sig
 obtain ⟨c1,c2⟩:=map_pw encEqn_pw t.eqns
 simp only [encSig,PV.pure,pures,Bool.and_true,Bool.and_eq_true] at h1
 simp only [encSig,PV.weak,weaks,PV.agg.injEq,List.cons.injEq,and_true] at h2
 refine ⟨?_,?_⟩
 · simp only [encTy,PV.pure,pures,h1.1,h1.2,c1,Bool.and_self]
 · simp only [encTy,PV.weak,weaks,h2.1,h2.2,c2]
theorem encT_inj {t t':Tm} (h:encT t=encT t'):t=t':=(enc_encT t).inj (h ▸ enc_encT t')
theorem encPair_inj {p p':Tm × Tm} (h:encPair p=encPair p'):p=p':=by
 obtain ⟨⟨k,n,l⟩,⟨k',n',l'⟩⟩:=p
 obtain ⟨⟨j,m,r⟩,⟨j',m',r'⟩⟩:=p'
 have h1:encT (.mk k n l)=encT (.mk j m r)∧encT (.mk k' n' l')=encT (.mk j' m' r'):=by
  simp only [encPair,encT,PV.cells,PV.agg.injEq,List.cons_append,List.nil_append,List.cons.injEq,and_true] at h ⊢
  exact ⟨⟨h.1,h.2.1,h.2.2.1⟩,h.2.2.2⟩
 rw [encT_inj h1.1,encT_inj h1.2]
theorem encEqn_inj {e e':GEqn} (h:encEqn e=encEqn e'):e=e':=by
 obtain ⟨v,c,⟨k,n,l⟩,⟨k',n',l'⟩⟩:=e
 obtain ⟨w,d,⟨j,m,r⟩,⟨j',m',r'⟩⟩:=e'
 simp only [encEqn,encT,PV.cells,PV.agg.injEq,List.cons_append,List.nil_append,List.cons.injEq,and_true,PV.slice.injEq,true_and] at h
 obtain ⟨h1,h2,h3,h4,h5,h6,h7,h8⟩:=h
 have e1:v=w:=(List.map_inj_right (fun x y hxy => (PV.int.inj hxy).2)).1 h1
 have e2:c=d:=(List.map_inj_right (fun x y hxy => encPair_inj hxy)).1 h2
 have e3:encT (.mk k n l)=encT (.mk j m r):=by simp only [encT,h3,h4,h5]
 have e4:encT (.mk k' n' l')=encT (.mk j' m' r'):=by simp only [encT,h6,h7,h8]
 rw [e1,e2,encT_inj e3,encT_inj e4]
theorem encTy_inj {t t':GTy} (h:encTy t=encTy t'):t=t':=by
 obtain ⟨s,e⟩:=t
 obtain ⟨s',e'⟩:=t'
 simp only [encTy,PV.agg.injEq,List.cons.injEq,and_true,PV.slice.injEq,true_and] at h
 obtain ⟨h1,h2,h3⟩:=h
 have e1:s=s':=encSig_inj (by simp only [encSig,h1,h2])
 have e2:e=e':=(List.map_inj_right (fun x y hxy => encEqn_inj hxy)).1 h3
 rw [e1,e2]
def good103 (key:List PV) (v:PV):Prop:=∃ r:Int,v=.int .i64 r∧∀ t:GTy,key=[encTy t]→(r=0∧TypP t)∨r=5
def good50 (_:List PV) (v:PV):Prop:=∃ x:PV × Int,v=.tuple [x.1,.int .i64 x.2]∧NormX x
def goodsB (f:FuncId):Option (List PV→PV→Prop):=if f=103 then some good103 else goods f
def goodsC (f:FuncId):Option (List PV→PV→Prop):=if f=50 then some good50 else goodsB f
noncomputable def TB:Tbl:=T0.knows Tryz.prog 200 goodsB
noncomputable def TC:Tbl:=T0.knows Tryz.prog 200 goodsC
theorem TB_ok:TblOK Tryz.prog TB:=Tbl.knows_ok T0_ok
theorem TC_ok:TblOK Tryz.prog TC:=Tbl.knows_ok T0_ok
theorem std_of {m:FuncId→Option (List PV→PV→Prop)} (hm:∀ f,f ∉ spList→m f=none):Std (T0.knows Tryz.prog 200 m) where
 sp f h:=by
  rw [Tbl.knows_sp (hm f h)]
  exact T0_std.sp f h
 fn f:=by rw [Tbl.knows_fn]; exact T0_std.fn f
 prim:=by rw [Tbl.knows_prim]; exact T0_std.prim
 mode f:=by rw [Tbl.knows_mode]; exact T0_std.mode f
theorem goodsC_none {f:FuncId} (h:f ∉ spList):goodsC f=none:=by
 simp only [spList,List.mem_cons,List.not_mem_nil,or_false,not_or] at h
 simp [goodsC,goodsB,goods,h]
theorem goodsB_none {f:FuncId} (h:f ∉ spList):goodsB f=none:=by
 simp only [spList,List.mem_cons,List.not_mem_nil,or_false,not_or] at h
 simp [goodsB,goods,h]
theorem TB_std:Std TB:=std_of fun _ h => goodsB_none h
theorem TC_std:Std TC:=std_of fun _ h => goodsC_none h
theorem T0_sp189:T0.sp 189=some (AE'.guardedSp 260 2):=by rw [T0_sp]; rfl
theorem T0_sp54:T0.sp 54=some (cloneSp ar54):=by rw [T0_sp]; rfl
theorem T0_sp55:T0.sp 55=some (cloneSp ar55):=by rw [T0_sp]; rfl
theorem T0_sp50:T0.sp 50=none:=by rw [T0_sp]; rfl
theorem T0_sp103:T0.sp 103=none:=by rw [T0_sp]; rfl
theorem TL_sp103:TL.sp 103=none:=by rw [TL,Tbl.knows_sp rfl]; exact T0_sp103
theorem TB_sp50:TB.sp 50=none:=by rw [TB,Tbl.knows_sp rfl]; exact T0_sp50
theorem TB_sp189:TB.sp 189=some (AE'.guardedSp 260 2):=by rw [TB,Tbl.knows_sp rfl]; exact T0_sp189
theorem TC_sp54:TC.sp 54=some (cloneSp ar54):=by rw [TC,Tbl.knows_sp rfl]; exact T0_sp54
theorem TC_sp55:TC.sp 55=some (cloneSp ar55):=by rw [TC,Tbl.knows_sp rfl]; exact T0_sp55
theorem sane_of {m:FuncId→Option (List PV→PV→Prop)} (hm:m 15=some good15) (h:Hp):Ev (T0.knows Tryz.prog 200 m) 15 [] h (.val (.bool true),⟨h,[],[]⟩):=by
 obtain ⟨v,hv,_,ev⟩:=Ev.knows (T:=T0) (N:=200) (m:=m) (f:=15) (good:=good15) hm (args:=[]) rfl rfl sane_known rfl
 cases hv
 exact ev h
theorem check_of {m:FuncId→Option (List PV→PV→Prop)} (hm:m 87=some good87) {s:GSig} (hs:Fits s):∃ r:Int,((r=0∧sigP s)∨(r=40∧¬ sigP s))∧∀ h,Ev (T0.knows Tryz.prog 200 m) 87 [encSig s] h (.val (.int .i64 r),⟨h,[],[]⟩):=by
 obtain ⟨r,ev,kr⟩:=check_tot T0_std T0_sp87 T0_sp208 hs []
 obtain ⟨p1,p2⟩:=encSig_pw s
 obtain ⟨v,⟨r',rfl,h2⟩,_,ev'⟩:=Ev.knows (T:=T0) (N:=200) (m:=m) (f:=87) (good:=good87) hm (args:=[encSig s]) (by simp [pures,p1]) (by simp [weaks,p2]) (Known.of_ev T0_ok rfl ev) ⟨r,rfl,fun s' he => by
  have:=encSig_inj (List.cons.inj he).1
  subst this
  exact kr⟩
 exact ⟨r',h2 s rfl,ev'⟩
theorem tcheck_of {m:FuncId→Option (List PV→PV→Prop)} (hm:m 103=some good103) {t:GTy} (hs:Fits t.sig):∃ r:Int,((r=0∧TypP t)∨r=5)∧∀ h,Ev (T0.knows Tryz.prog 200 m) 103 [encTy t] h (.val (.int .i64 r),⟨h,[],[]⟩):=by
 obtain ⟨r0,kr,e87⟩:=check_exact hs
 obtain ⟨r,ev,hr⟩:=tcheck_ev TL_std TL_sp103 kr (fun h => by
  rcases kr with ⟨_,h⟩ | ⟨h,_⟩
  · exact h.gok
  · omega) e87 []
 obtain ⟨p1,p2⟩:=encTy_pw t
 obtain ⟨v,⟨r',rfl,h2⟩,_,ev'⟩:=Ev.knows (T:=T0) (N:=200) (m:=m) (f:=103) (good:=good103) hm (args:=[encTy t]) (by simp [pures,p1]) (by simp [weaks,p2]) (Known.of_ev TL_ok rfl ev) ⟨r,rfl,fun t' he => by
  have:=encTy_inj (List.cons.inj he).1
  subst this
  exact hr⟩
 exact ⟨r',h2 t rfl,ev'⟩
theorem tyin_of {m:FuncId→Option (List PV→PV→Prop)} (h87:m 87=some good87) (h103:m 103=some good103) {t:GTy} (hs:Fits t.sig):∃ r,TyIn (T0.knows Tryz.prog 200 m) t r:=by
 obtain ⟨r0,kr,e87⟩:=check_of h87 hs
 obtain ⟨r,hr,ev⟩:=tcheck_of h103 hs
 have hok:r=0→TypP t:=fun h => by
  rcases hr with ⟨_,h2⟩ | h2
  · exact h2
  · omega
 refine ⟨r,ev,hok,fun h => (hok h).sig.gok,fun h => ?_⟩
 rcases kr with ⟨h1,_⟩ | ⟨_,h1⟩
 · rw [← h1]; exact e87
 · exact absurd (hok h).sig h1
theorem normal_of {m:FuncId→Option (List PV→PV→Prop)} (h50:m 50=some good50) {t:GTy} {r:Int} (I:TyIn TB t r) {u:Tm} {X:PV} (hX:Enc u X):∃ x:PV × Int,NormX x∧∀ h,Ev (T0.knows Tryz.prog 200 m) 50 [encTy t,X] h (.val (.tuple [x.1,.int .i64 x.2]),⟨h,[],[]⟩):=by
 obtain ⟨x,ev,hx⟩:=normal50_ev TB_std TB_sp50 TB_sp189 I hX []
 obtain ⟨p1,p2⟩:=encTy_pw t
 obtain ⟨_,q1,q2⟩:=hX.facts
 obtain ⟨_,_,_,_,f1,f2,_⟩:=hx.facts
 obtain ⟨v,⟨y,rfl,hy⟩,_,ev'⟩:=Ev.knows (T:=T0) (N:=200) (m:=m) (f:=50) (good:=good50) h50 (args:=[encTy t,X]) (by simp [pures,p1,q1]) (by simp [weaks,p2,q2]) (Known.of_ev TB_ok (by simp [PV.pure,pures,f1]) ev) ⟨x,rfl,hx⟩
 obtain ⟨_,_,_,_,g1,g2,_⟩:=hy.facts
 refine ⟨y,hy,fun h => ?_⟩
 have:=ev' h
 simpa [PV.weak,weaks,g2] using this
theorem nval_of {m:FuncId→Option (List PV→PV→Prop)} (h50:m 50=some good50) {t:GTy} {r:Int} (I:TyIn TB t r):∃ nv,NVal (T0.knows Tryz.prog 200 m) t nv:=by
 classical
 refine ⟨fun X => if h:∃ x:PV × Int,NormX x∧∀ h,Ev (T0.knows Tryz.prog 200 m) 50 [encTy t,X] h (.val (.tuple [x.1,.int .i64 x.2]),⟨h,[],[]⟩) then h.choose else (zTerm,1),fun u X hX => ?_⟩
 have h:=normal_of h50 I hX
 simp only [dif_pos h]
 exact h.choose_spec
theorem type_law {t:GTy} (hs:Fits t.sig):∃ r,TyIn TC t r∧∃ nv,NVal TC t nv:=by
 obtain ⟨r,I⟩:=tyin_of (m:=goodsC) rfl rfl hs
 obtain ⟨r',I'⟩:=tyin_of (m:=goodsB) rfl rfl hs
 exact ⟨r,I,nval_of rfl I'⟩
end Go.Proofs.Tryz
