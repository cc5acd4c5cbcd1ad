/- Texts of the proof, one behind the other: AeCongr, AeDraw, AeMerge, AeDraw2, AeDraw3, AeFence, AeFrz, AeStp, AeYield, AeYield2, AeYield3, AeRounds, AeTidy, AeCode, AeRange, AeRange2, AeBody, AeCall. -/
import Derived.Test.YtekepgfmgeophaaGreatPartAA
import Derived.OrdersIn
import Derived.LoopNIn
import Derived.RangeFuncRecord
import Derived.Below
import Derived.CallsIn
import Derived.ControlIn
import Derived.RangeFuncIn
set_option linter.unusedVariables false
set_option linter.unusedSimpArgs false
namespace Go.AE
open Go
theorem qg4{e e':List PV}{o:Option AX}(h:∀x,o=some x→ax e x=ax e' x):oax e o=oax e' o:=by
 cases o with
 |none=>rfl
 |some x=>simp[oax,h x rfl]
theorem qj4{T:Tbl}{call:FuncId→List PV→List Obj→Option qam}{o:AOp}{e e':List PV}{s:St}(h:∀x∈o.axs,ax e x=ax e' x):evOp T call o e s=evOp T call o e' s:=by
 cases o with
 |build z parts=>
   have:(parts.map fun(o,n,x)=>(o,n,ax e x))=parts.map fun(o,n,x)=>(o,n,ax e' x):=
    List.map_congr_left fun p hp=>by obtain⟨a,b,c⟩:=p;simp only[h c (mM0.2 ⟨_,hp,rfl⟩)]
   simp only[evOp,this]
 |buildSlice sz z len parts=>
   have:(parts.map fun(i,x)=>(i,ax e x))=parts.map fun(i,x)=>(i,ax e' x):=
    List.map_congr_left fun p hp=>by obtain⟨a,c⟩:=p;simp only[h c (mM0.2 ⟨_,hp,rfl⟩)]
   simp only[evOp,this]
 |mkFunc fn f c=>
   have h1:f.map (ax e)=f.map (ax e'):=List.map_congr_left fun x hx=>h x (List.mem_append_left _ hx);have h2:c.map (ax e)=c.map (ax e'):=List.map_congr_left fun x hx=>h x (List.mem_append_right _ hx);simp only[evOp,h1,h2]
 |slice sz x lo hi mx=>
   simp only[AOp.axs,mN0,mA0,Option.mem_toList]at h;have h0:=h x (.inl rfl);have h1:oax e lo=oax e' lo:=qg4 fun y hy=>h y (.inr (.inl (.inl hy)));have h2:oax e hi=oax e' hi:=qg4 fun y hy=>h y (.inr (.inl (.inr hy)));have h3:oax e mx=oax e' mx:=qg4 fun y hy=>h y (.inr (.inr hy));simp only[evOp,h0,h1,h2,h3]
 |strSlice x lo hi=>
   simp only[AOp.axs,mN0,mA0,Option.mem_toList]at h;have h0:=h x (.inl rfl);have h1:oax e lo=oax e' lo:=qg4 fun y hy=>h y (.inr (.inl hy));have h2:oax e hi=oax e' hi:=qg4 fun y hy=>h y (.inr (.inr hy));simp only[evOp,h0,h1,h2]
 |min mx xs=>
   have h1:xs.map (ax e)=xs.map (ax e'):=List.map_congr_left fun x hx=>h x hx;simp only[evOp,h1]
 |call f args=>
   have h0:=h f (by simp[AOp.axs]);have h1:args.map (ax e)=args.map (ax e'):=List.map_congr_left fun x hx=>h x (by simp[AOp.axs,hx]);simp only[evOp,h0,h1]
 |_=>
   simp only[AOp.axs,mN0,List.not_mem_nil,or_false,forall_eq_or_imp,forall_eq]at h;simp only[evOp,h]
theorem elems_heap{p:PV}{h h':List Obj}{r:Nat×List PV}(he:qch p h=some r)(hk:∀k y,p.ref=some k→h[k]?=some y→y.isTok=false→h'[k]?=some y):qch p h'=some r:=by
 unfold qch at he⊢;split at he
 ·exact he
 next k asz off len tip=>
   split at he
   next sz es hkk=>
     rw[hk k _ rfl hkk rfl];exact he
   ·cases he
 ·cases he
theorem qsu{agg:Bool}{sz:Nat}{p q:PV}{h h':List Obj}(he:loadAt agg sz p h=some q)(hk:∀k y,p.ref=some k→h[k]?=some y→y.isTok=false→h'[k]?=some y):loadAt agg sz p h'=some q:=by
 unfold loadAt at he⊢;split at he
 ·exact he
 next k i off tip=>
   split at he
   next sz es hkk=>
     rw[hk k _ rfl hkk rfl];exact he
   ·cases he
 ·cases he
theorem qjc {T:Tbl} {call:FuncId→List PV→List Obj→Option qam} {o:AOp} {e:List PV} {s s':St} {r:OR} (ho:qly o=false) (h:evOp T call o e s=some (r,s')) :
 s'=s∧(∃ v,r=.val v)∧∀ t:St,(loudOp o=true→∀ x∈o.axs,∀ k y,(ax e x).ref=some k→s.h[k]?=some y→y.isTok=false→t.h[k]?=some y)→evOp T call o e t=some (r,t):=by
 have ov:∀ {x:Option PV},oval x s=some (r,s')→s'=s∧(∃ v,r=.val v)∧∀ t:St,oval x t=some (r,t):=by
  intro x hx;unfold oval at hx;cases x with
  | none => cases hx
  | some x => cases hx; exact ⟨rfl,⟨_,rfl⟩,fun _ => rfl⟩
 cases o with
 | box | store | bytesOf | makeMap | makeSlice | mapUpd | append | copy | call | pan | bad => simp [qly] at ho
 | load agg sz a =>
   simp only [evOp] at h ⊢;cases hl:loadAt agg sz (ax e a) s.h with
   | none => rw [hl] at h; cases h
   | some q =>
     rw [hl] at h;obtain ⟨h1,h2,h3⟩:=ov h;refine ⟨h1,h2,fun t ht => ?_⟩;rw [qsu hl fun k y hk hy hn => ht rfl a (by simp [AOp.axs]) k y hk hy hn];exact h3 t
 | strOf x =>
   simp only [evOp] at h ⊢;split at h
   next r' es hl =>
     obtain ⟨h1,h2,h3⟩:=ov h;refine ⟨h1,h2,fun t ht => ?_⟩;rw [elems_heap hl fun k y hk hy hn => ht rfl x (by simp [AOp.axs]) k y hk hy hn];exact h3 t
   · cases h
 | lookup kk z ok m i =>
   simp only [evOp] at h ⊢;split at h
   · grind
   next k hm =>
     split at h
     next es hes =>
       have hr:∀ t:St,(loudOp (.lookup kk z ok m i)=true→∀ x∈(AOp.lookup kk z ok m i).axs,∀ k y,(ax e x).ref=some k→s.h[k]?=some y→y.isTok=false→t.h[k]?=some y)→t.h[k]?=some (.map es) :=
        fun t ht => ht rfl m (by simp [AOp.axs]) k _ (by rw [hm]; rfl) hes rfl
       split at h
       · grind
       · cases h
     · cases h
   · cases h
 | lenM x =>
   simp only [evOp] at h ⊢;split at h
   · grind
   next k hm =>
     split at h
     next es hes =>
       cases h;exact ⟨rfl,⟨_,rfl⟩,fun t ht => by simp [ht rfl x (by simp [AOp.axs]) k _ (by rw [hm]; rfl) hes rfl]⟩
     · cases h
   · cases h
 | _ =>
   simp only [evOp] at h ⊢
   first
    | exact ⟨(ov h).1,(ov h).2.1,fun t _ => (ov h).2.2 t⟩
    | (cases h; exact ⟨rfl,⟨_,rfl⟩,fun t _ => rfl⟩; done)
    | (repeat' split at h
       all_goals first
        | (cases h; done)
        | (cases h; refine ⟨rfl,⟨_,rfl⟩,fun t _ => ?_⟩; first | rfl | (simp_all; done))
        | (refine ⟨(ov h).1,(ov h).2.1,fun t _ => ?_⟩; have h3:=(ov h).2.2 t; first | exact h3 | (simp_all; done)))
section
variable {P:Program}
theorem qfb{fs:Array Field}:∀{ps:List (Nat×Operand)}{l:List (Nat×Nat×AX)},qcx P fs ps=some l→l.map (·.2.2)=ps.map fun p=>cx p.2
 |[],l,h=>by simp[qcx]at h;subst h;rfl
 |(i,x)::ps,l,h=>by
   simp only[qcx]at h
   repeat' split at h
   all_goals first
    |(cases h;done)
    |(rename_i hl;cases h;simp[qfb hl];done)
    |(rename_i hl _;cases h;simp[qfb hl];done)
theorem qro{rm:Bool}{c:Call}:∀x∈(qdg P rm c).axs,(∃y∈c.operands.toList,x=cx y):=by
 intro x hx;unfold qdg at hx;split at hx
 next f hc=>
   simp only[AOp.axs,mN0,mM0]at hx;rcases hx with rfl|⟨y,hy,rfl⟩
   ·exact⟨f,by simp[Call.operands,hc],rfl⟩
   ·exact⟨y,by simp[Call.operands];right;simpa using hy,rfl⟩
 ·cases hx
 next b hc=>
   have key:∀y∈c.args.toList,y∈c.operands.toList:=fun y hy=>by simp only[Call.operands,hc];simpa using hy
   split at hx
   next y t hargs _=>
     have hy:=key y (by rw[hargs];simp)
     repeat' split at hx
     all_goals first
      |(cases hx;done)
      |(simp[AOp.axs]at hx;subst hx;exact⟨y,hy,rfl⟩)
   next s y t u hargs _=>
     have hs:=key s (by rw[hargs];simp);have hy:=key y (by rw[hargs];simp)
     repeat' split at hx
     all_goals first
      |(cases hx;done)
      |(simp[AOp.axs]at hx;rcases hx with rfl|rfl;exact⟨s,hs,rfl⟩;exact⟨y,hy,rfl⟩)
   next s y t u hargs _=>
     have hs:=key s (by rw[hargs];simp);have hy:=key y (by rw[hargs];simp)
     repeat' split at hx
     all_goals first
      |(cases hx;done)
      |(simp[AOp.axs]at hx;rcases hx with rfl|rfl;exact⟨s,hs,rfl⟩;exact⟨y,hy,rfl⟩)
   · simp only[AOp.axs,mM0]at hx;obtain⟨y,hy,rfl⟩:=hx;exact⟨y,key y hy,rfl⟩
   · simp only[AOp.axs,mM0]at hx;obtain⟨y,hy,rfl⟩:=hx;exact⟨y,key y hy,rfl⟩
   ·cases hx
theorem eqKind_axs{op:BinOp}{d:TypeDesc}{a b:Operand}:∀x∈(qmg op d a b).axs,x=cx a∨x=cx b:=by
 intro x hx;unfold qmg at hx
 repeat' split at hx
 all_goals first
  |(cases hx;done)
  |(simpa[AOp.axs]using hx)
theorem qoe {rm:Bool} {op:Op}:∀ x∈(qar P rm op).axs,(∃ y∈op.operands.toList,x=cx y)∨∃ z,x=.c z∧qly (qar P rm op)=true:=by
 intro x hx;cases op with
 | alloc t =>
   simp only [qar] at hx ⊢;split at hx
   · simp [AOp.axs] at hx; exact .inr ⟨_,hx,rfl⟩
   · cases hx
 | call c => exact .inl (qro x hx)
 | build t parts =>
   simp only [qar] at hx
   repeat' split at hx
   all_goals first
    | (cases hx; done)
    | (simp only [AOp.axs] at hx
       first
        | rw [qfb (by assumption)] at hx
        | (simp only [List.map_map] at hx)
       obtain ⟨p,hp,rfl⟩:=mM0.1 hx;exact .inl ⟨p.2,by simp [Op.operands]; exact ⟨p.1,by simpa using hp⟩,rfl⟩)
 | buildSlice t n parts =>
   simp only [qar] at hx
   repeat' split at hx
   all_goals first
    | (cases hx; done)
    | (simp only [AOp.axs,List.map_map] at hx
       obtain ⟨p,hp,rfl⟩:=mM0.1 hx;exact .inl ⟨p.2,by simp [Op.operands]; exact ⟨p.1,by simpa using hp⟩,rfl⟩)
 | makeFunc fn f c =>
   simp only [qar,AOp.axs,mA0,mM0] at hx;rcases hx with ⟨y,hy,rfl⟩ | ⟨y,hy,rfl⟩
   · exact .inl ⟨y,by simp [Op.operands]; left; simpa using hy,rfl⟩
   · exact .inl ⟨y,by simp [Op.operands]; right; simpa using hy,rfl⟩
 | binOp bop t a b r =>
   simp only [qar] at hx
   repeat' split at hx
   all_goals first
    | (cases hx; done)
    | (rcases eqKind_axs x hx with rfl | rfl
       · exact .inl ⟨a,by simp [Op.operands],rfl⟩
       · exact .inl ⟨b,by simp [Op.operands],rfl⟩)
    | (simp [AOp.axs] at hx
       rcases hx with rfl | rfl
       · exact .inl ⟨a,by simp [Op.operands],rfl⟩
       · exact .inl ⟨b,by simp [Op.operands],rfl⟩)
 | makeMap t r => cases r <;> simp [qar,AOp.axs] at hx
 | slice t a lo hi mx =>
   simp only [qar] at hx
   repeat' split at hx
   all_goals first
    | (cases hx; done)
    | (simp only [AOp.axs,mN0,mA0,Option.mem_toList,oM0] at hx
       simp only [Op.operands];refine .inl ?_;rcases hx with rfl | (⟨y,rfl,rfl⟩ | ⟨y,rfl,rfl⟩) | ⟨y,rfl,rfl⟩
       all_goals first
        | exact ⟨_,by simp,rfl⟩
        | exact ⟨a,by simp,rfl⟩)
    | (simp only [AOp.axs,mN0,mA0,Option.mem_toList,oM0] at hx
       simp only [Op.operands];refine .inl ?_;rcases hx with rfl | ⟨y,rfl,rfl⟩ | ⟨y,rfl,rfl⟩
       all_goals first
        | exact ⟨_,by simp,rfl⟩
        | exact ⟨a,by simp,rfl⟩)
 | _ =>
   simp only [qar] at hx
   all_goals (repeat' split at hx)
   all_goals first
    | (cases hx; done)
    | (simp only [AOp.axs,mN0,List.not_mem_nil,or_false] at hx
       refine .inl ?_;simp only [Op.operands]
       first
        | (subst hx; exact ⟨_,by simp,rfl⟩; done)
        | (rcases hx with rfl | rfl
           all_goals exact ⟨_,by simp,rfl⟩; done)
        | (rcases hx with rfl | rfl | rfl
           all_goals exact ⟨_,by simp,rfl⟩; done))
end
end Go.AE
namespace Go.AE
open Go
theorem one_bit(look:Nat→Nat)(k:Nat):∀(l:List Edge)(s:Nat),(l.foldl (fun s e=>if Region.binds .any e then s|||2 ^e.on|||look e.on else s) s).testBit k=true→
 s.testBit k=true∨∃e∈l,Region.binds .any e=true∧(k=e.on∨(look e.on).testBit k=true)
 |[],s,h=>.inl h
 |e::l,s,h=>by
   simp only[List.foldl_cons]at h;rcases one_bit look k l _ h with h1|⟨e',h1,h2⟩
   ·grind
   ·grind
theorem snoc_ind{α:Type}{M:List α→Prop}(h0:M [])(h1:∀l a,M l→M (l++[a]))(l:List α):M l:=by
 rw[←l.reverse_reverse];induction l.reverse with
 |nil=>exact h0
 |cons a l ih=>rw[List.reverse_cons];exact h1 _ _ ih
def befs(l:List Oper):Array Nat:=l.foldl (fun acc o=>acc.push (CheckFast.one (fun i=>acc.getD i 0) o)) #[]
theorem qhe(l:List Oper)(o:Oper):befs (l++[o])=(befs l).push (CheckFast.one (fun i=>(befs l).getD i 0) o):=by simp[befs,List.foldl_append]
theorem qrv(l:List Oper):(befs l).size=l.length:=by
 induction l using snoc_ind with
 |h0=>rfl
 |h1 l o ih=>rw[qhe];simp[ih]
theorem befs_bit(l:List Oper):∀j k,((befs l).getD j 0).testBit k=true→∃o,l[j]?=some o∧∃e∈o.after,Region.binds .any e=true∧(k=e.on∨((befs l).getD e.on 0).testBit k=true):=by
 induction l using snoc_ind with
 |h0=>intro j k h;simp[befs]at h
 |h1 l o ih=>
   intro j k h
   have up:∀i k,((befs l).getD i 0).testBit k=true→((befs (l++[o])).getD i 0).testBit k=true:=by
    intro i k hi;rw[qhe];by_cases hlt:i< (befs l).size
    · simp only[Array.getD_eq_getD_getElem?]at hi⊢;rw[Array.getElem?_push_lt hlt];rw[Array.getElem?_eq_getElem hlt]at hi;exact hi
    ·grind
   by_cases hlt:j< (befs l).size
   · have hj:((befs l).getD j 0).testBit k=true:=by rw[qhe]at h;simp only[Array.getD_eq_getD_getElem?]at h⊢;rw[Array.getElem?_push_lt hlt]at h;rw[Array.getElem?_eq_getElem hlt];exact h
     obtain⟨o',h1,e,h2,h3,h4⟩:=ih j k hj;rw[qrv]at hlt;exact⟨o',by rw[gL0 hlt];exact h1,e,h2,h3,h4.imp id (up _ _)⟩
   · by_cases he:j=(befs l).size
     · subst he;rw[qhe]at h;have hj:(CheckFast.one (fun i=>(befs l).getD i 0) o).testBit k=true:=by simpa[Array.getD_eq_getD_getElem?]using h
       unfold CheckFast.one at hj;rw[←Array.foldl_toList]at hj;rcases one_bit (fun i=>(befs l).getD i 0) k _ _ hj with h1|⟨e,h1,h2,h3⟩
       ·simp at h1
       ·exact⟨o,by rw[qrv];simp,e,by simpa using h1,h2,h3.imp id (up _ _)⟩
     · rw[qhe]at h;simp only[Array.getD_eq_getD_getElem?]at h;rw[Array.getElem?_eq_none (by simp;omega)]at h;simp at h
theorem before_bit{ops:Array Oper}{j k:Nat}(h:((CheckFast.beforeF ops).getD j 0).testBit k=true):
 ∃o,ops[j]?=some o∧∃e∈o.after,Region.binds .any e=true∧(k=e.on∨((CheckFast.beforeF ops).getD e.on 0).testBit k=true):=by
 have e1:CheckFast.beforeF ops=befs ops.toList:=by rw[CheckFast.beforeF_eq];unfold Region.before befs;rw[←Array.foldl_toList];rfl
 rw[e1]at h⊢;obtain⟨o,h1,h2⟩:=befs_bit _ j k h;exact⟨o,by simpa using h1,h2⟩
theorem qj5{T:Tbl}{call:FuncId→List PV→List Obj→Option qam}{o:AOp}{e:List PV}{s s':St}{r:OR}(ha:qbu o=true)(h:evOp T call o e s=some (r,s')):
 ∃ob v,r=.val v∧s'=alloc ob s∧ob.isTok=false∧∀e' t,(∀x∈o.axs,∀k n,ax e x=.int k n→ax e' x=.int k n)→t.h.length=s.h.length→evOp T call o e' t=some (.val v,alloc ob t):=by
 cases o with
 |box sz x=>
   cases x with
   |c z=>
     simp only[evOp]at h⊢;by_cases hc:(ax e (.c z)).cells.length=sz∧(ax e (.c z)).isDef=true
     · rw[if_pos hc]at h;cases h;refine⟨_,_,rfl,rfl,rfl,fun e' t _ ht=>?_⟩;have hc':(ax e' (.c z)).cells.length=sz∧(ax e' (.c z)).isDef=true:=hc;rw[if_pos hc',ht];rfl
     ·grind
   |_=>simp[qbu]at ha
 |makeSlice sz z bytes len cap=>
   simp only[evOp]at h⊢;split at h
   next k n k' m h1 h2=>
     split at h
     next hc=>
       cases h;refine⟨_,_,rfl,rfl,rfl,fun e' t hx ht=>?_⟩;rw[hx len (by simp[AOp.axs]) _ _ h1,hx cap (by simp[AOp.axs]) _ _ h2];simp only[];rw[if_pos hc,ht]
     ·cases h
   ·cases h
 |_=>simp[qbu]at ha
def Calm(k:Nat)(h h':List AE.Obj):Prop:=∀y:AE.Obj,h[k]?=some y→h'[k]?=some y∨(y.isTok=true∧∃y':AE.Obj,y'.isTok=true∧h'[k]?=some y')
theorem Calm.refl(k:Nat)(h:List AE.Obj):Calm k h h:=fun _ hk=>.inl hk
theorem Calm.trans{k:Nat}{h h' h'':List AE.Obj}(a:Calm k h h')(b:Calm k h' h''):Calm k h h'':=fun y hk=>by
 rcases a y hk with h1|⟨h1,y',h2,h3⟩
 ·exact b y h1
 · rcases b y' h3 with h4|⟨_,y'',h5,h6⟩
   ·grind
   ·grind
theorem evOp_calm{T:Tbl}{call:FuncId→List PV→List Obj→Option qam}{o:AOp}{e:List PV}{s s':St}{r:OR}(ha:tokOp o=true)(h:evOp T call o e s=some (r,s')):∀k,Calm k s.h s'.h:=by
 cases o with
 |append sz bytes a x=>
   simp only[evOp,oM0]at h;obtain⟨⟨v,s1⟩,h,he⟩:=h;cases he;unfold appendop at h;split at h
   · split at h
     ·cases h;exact fun k=>.refl k _
     · split at h
       · split at h
         · cases h;exact fun k y hk=>.inl (by have:=(gI0.1 hk).1;simp only[alloc];rw[gL0 this];exact hk)
         · cases h;exact fun k y hk=>.inl (by have:=(gI0.1 hk).1;simp only[alloc];rw[gL0 this];exact hk)
         · cases h;exact fun k y hk=>.inl (by have:=(gI0.1 hk).1;simp only[alloc];rw[gL0 this];exact hk)
         next k0 _=>
           split at h
           next tsz m' htok=>
             split at h
             · cases h;intro k y hk;by_cases hkk:k0=k
               · subst hkk;rw[htok]at hk;cases hk;refine .inr ⟨rfl,_,?_,by simp only[wrote];rw[List.getElem?_set_self (gI0.1 htok).1]⟩;rfl
               ·exact .inl (by simp only[wrote];rw[List.getElem?_set_ne hkk];exact hk)
             ·grind
           ·grind
         ·cases h
       ·cases h
   ·cases h
 |_=>simp[tokOp]at ha
section
variable {T:Tbl}{call:FuncId→List PV→List Obj→Option qam}
def qmy(a b:List Nat):Prop:=∀k,k∈a→k∉b
theorem qoh{a b:List Nat}(h:apart a b=true):qmy a b:=fun k hk hb=>by have:=List.all_eq_true.1 h k hk;simp[hb]at this
def Sees(bef i:Nat)(R W R' W':List Nat):Prop:=bef.testBit i=true∨(qmy R W'∧qmy W R')
theorem clear_spec{bef:Nat}{R W:List Nat}{past:Past}(h:clear bef R W past=true):∀p∈past,Sees bef p.1 p.2.1 p.2.2 R W:=fun p hp=>by have:=List.all_eq_true.1 h p hp;simp only[Bool.or_eq_true,bA0]at this;exact this.imp id fun h=>⟨qoh h.1,qoh h.2⟩
def Did(T:Tbl)(call:FuncId→List PV→List Obj→Option qam)(c:AOper)(e e':List PV)(h h':List Obj)(R W:List Nat):Prop:=
 (qbk c.guard e=some false∧e'=putD e c.dst (.tuple [])∧h'=h∧R=[]∧W=[])∨
 (qbk c.guard e=some true∧∃v s s',s.h=h∧s'.h=h'∧evOp T call c.op e s=some (.val v,s')∧e'=putD e c.dst v∧h.length≤h'.length∧
  R=qbb c.op c.loud e h.length∧(W≠[]→qly c.op=true∧qbu c.op=false)∧(∀k,k<h.length→k∉W→Calm k h h'))
def Trace(T:Tbl)(call:FuncId→List PV→List Obj→Option qam)(os:List AOper)(past:Past)(e:List PV)(s:St)(po:Option (PV×Bool))(e':List PV)(s':St):Prop:=
 ∃(N:Nat)(E:Nat→List PV)(H:Nat→List Obj)(R W:Nat→List Nat),N≤os.length∧E 0=e∧H 0=s.h∧
  (∀i,i<N→∃c,os[i]?=some c∧Did T call c (E i) (E (i+1)) (H i) (H (i+1)) (R i) (W i)∧(∀p∈past,Sees c.bef p.1 p.2.1 p.2.2 (R i) (W i))∧
   ∀k,k<i→∃ck,os[k]?=some ck∧Sees c.bef ck.idx (R k) (W k) (R i) (W i))∧
  ((po=none∧N=os.length∧e'=E N∧s'.h=H N)∨
    ∃p b c t t',po=some (p,b)∧os[N]?=some c∧c.hd=true∧(b=true→∀p∈past,c.bef.testBit p.1=true)∧(b=true→∀k,k<N→∃ck,os[k]?=some ck∧(R k≠[]→c.bef.testBit ck.idx=true))∧
      qbk c.guard (E N)=some true∧t.h=H N∧evOp T call c.op (E N) t=some (.pan p,t')∧t'.h=s'.h∧e'=E N)
theorem sees_nil{bef i:Nat}{R' W':List Nat}:Sees bef i [] [] R' W':=.inr ⟨fun _ h=>(by cases h),fun _ h=>(by cases h)⟩
theorem sees_nil'{bef i:Nat}{R W:List Nat}:Sees bef i R W [] []:=.inr ⟨fun _ _ h=>(by cases h),fun _ _ h=>(by cases h)⟩
theorem qkp(hS:qa7 call):∀(os:List AOper)(past:Past)(e:List PV)(s:St)(po:Option (PV×Bool))(e':List PV)(s':St),qey T call os past e s=some (po,e',s')→
 Trace T call os past e s po e' s'
 |[],past,e,s,po,e',s',h=>by
   simp only[qey]at h;cases h;exact⟨0,fun _=>e,fun _=>s.h,fun _=>[],fun _=>[],nR0 _,rfl,rfl,fun i hi=>by omega,.inl ⟨rfl,rfl,rfl,rfl⟩⟩
 |o::os,past,e,s,po,e',s',h=>by
   have cons:∀(R0 W0:List Nat)(past':Past)(e1:List PV)(s1:St),Did T call o e e1 s.h s1.h R0 W0→(∀p∈past,Sees o.bef p.1 p.2.1 p.2.2 R0 W0)→(∀p∈past,p∈past')→((o.idx,R0,W0)∈past'∨(R0=[]∧W0=[]))→
    qey T call os past' e1 s1=some (po,e',s')→Trace T call (o::os) past e s po e' s':=fun R0 W0 past' e1 s1 hd hp hpp hself hr=>by
    obtain⟨N,E,H,R,W,h1,h2,h3,h6,h7⟩:=qkp hS os _ _ _ _ _ _ hr;refine⟨N+1,fun|0=>e|i+1=>E i,fun|0=>s.h|i+1=>H i,fun|0=>R0|i+1=>R i,fun|0=>W0|i+1=>W i,by simp;omega,rfl,rfl,?_,?_⟩
    · intro i hi;cases i with
      |zero=>exact⟨o,rfl,by simpa[h2,h3]using hd,hp,fun k hk=>by omega⟩
      |succ i=>
        obtain⟨c,g1,g2,g3,g4⟩:=h6 i (by omega);refine⟨c,by simpa using g1,g2,fun p hp'=>g3 p (hpp p hp'),fun k hk=>?_⟩;cases k with
        |zero=>
          refine⟨o,rfl,?_⟩;rcases hself with hself|⟨r1,r2⟩
          ·grind
          ·rw[r1,r2];exact sees_nil
        |succ k=>
          obtain⟨ck,f1,f2⟩:=g4 k (by omega);exact⟨ck,by simpa using f1,f2⟩
    · rcases h7 with⟨g1,g2,g3,g4⟩|⟨p,b,c,t,t',g1,g2,g3,g4,g5,g6⟩
      ·grind
      ·grind
   simp only[qey]at h;split at h
   ·cases h
   next hw=>
     exact cons [] [] past _ s (.inl ⟨hw,rfl,rfl,rfl,rfl⟩) (fun _ _=>sees_nil') (fun _ h=>h) (.inr ⟨rfl,rfl⟩) h
   next hw=>
     split at h
     next v s1 hev=>
       split at h
       next hc=>
         have st:=qdy hS hev;refine cons (qbb o.op o.loud e s.h.length) (qbj o.op s1.ws) _ _ {s1 with ws:=wall s1.ws s.ws} (.inr ⟨hw,v,{s with ws:=[]},s1,rfl,rfl,hev,rfl,st.len,rfl,?_,?_⟩) (clear_spec hc) (fun p hp=>mC0 _ hp) (.inl (by simp)) h
         · intro h1;refine⟨?_,?_⟩
           · cases ho:qly o.op with
             |true=>rfl
             |false=>
               rw[(qjc ho hev).1]at h1;unfold qbj at h1;split at h1<;>exact absurd rfl h1
           · cases ho:qbu o.op with
             |false=>rfl
             |true=>
               obtain⟨ob,v',_,he,_,_⟩:=qj5 ho hev;rw[he]at h1;unfold qbj at h1;split at h1<;>exact absurd rfl h1
         · intro k hkl hk;cases ht:tokOp o.op with
           |true=>
             have hq:=evOp_calm (s:={s with ws:=[]}) ht hev;exact hq k
           |false=>
             intro y hy;by_cases heq:s1.h[k]?=s.h[k]?
             ·grind
             · have:=st.quiet k hkl heq;exact absurd (by unfold qbj;rw[ht];exact this) hk
       ·cases h
     next v s1 hev=>
       split at h
       next hc=>
         cases h;exact⟨0,fun _=>e,fun _=>s.h,fun _=>[],fun _=>[],Nat.zero_le _,rfl,rfl,fun i hi=>by omega,.inr ⟨v,_,o,{s with ws:=[]},s1,rfl,rfl,hc,fun hb p hp=>List.all_eq_true.1 hb p hp,fun _ k hk=>by omega,hw,rfl,hev,rfl,rfl⟩⟩
       ·cases h
     ·cases h
end
theorem qri{p q:Nat→Bool}{j:Nat}(hpq:∀x,q x=true→p x=true)(hp:p j=true)(hq:q j=false):∀l:List Nat,j∈l→l.countP q<l.countP p
 |[],h=>by simp at h
 |x::xs,h=>by
   have mono:∀l:List Nat,l.countP q≤l.countP p:=fun l=>List.countP_mono_left fun x _ hx=>hpq x hx;rw[List.countP_cons,List.countP_cons];rcases mN0.1 h with rfl|h
   ·grind
   · have:=qri hpq hp hq xs h;by_cases hx:q x=true
     ·grind
     ·grind
def unl(m:Nat)(L:Array Bool):Nat:=(List.range m).countP fun i=>!L.getD i false
end Go.AE
namespace Go.AE
open Go
open Classical in
noncomputable def both(D:Nat→Prop)(ρ ρ':Nat→Row):Nat→Row:=fun k=>if D k then ρ k else ρ' k
theorem qin{D:Nat→Prop}{ρ ρ':Nat→Row}{k:Nat}(h:D k):both D ρ ρ' k=ρ k:=by simp[both,h]
theorem qfu{D:Nat→Prop}{ρ ρ':Nat→Row}{k:Nat}(h:¬D k):both D ρ ρ' k=ρ' k:=by simp[both,h]
theorem merge{w w':World}{I I':Nat→Nat→Prop}{D A:Nat→Prop}{ρ ρ':Nat→Row}{h h' hN:List Obj}(S:Sim w I D ρ h)(N:Nxt w I (fun _=>False) ρ w' I' A ρ')(S':Sim w' I' A ρ' h')
 (hd:∀k,A k→¬D k)(h1:∀k,D k→hN[k]?=h[k]?)(h2:∀k,A k→hN[k]?=h'[k]?):
 Nxt w I D ρ w' I' (fun k=>D k∨A k) (both D ρ ρ')∧Sim w' I' (fun k=>D k∨A k) (both D ρ ρ') hN∧∀p v,VR w' I' A ρ' p v→VR w' I' (fun k=>D k∨A k) (both D ρ ρ') p v:=by
 have hblk:∀k,A k→w.heap.size≤(ρ' k).blk:=fun k hk=>N.blkN k hk (fun h=>h);have hlt:∀k,D k→(ρ k).blk<w.heap.size:=fun k hk=>S.blk_lt k hk
 have hN':Nxt w I D ρ w' I' (fun k=>D k∨A k) (both D ρ ρ'):={
  os:=N.os,tape:=N.tape,output:=N.output,size:=N.size
  keep:=fun b hb _=>N.keep b hb (fun _ h=>h.elim)
  immI:=N.immI
  immC:=N.immC
  immN:=fun b o hi=>by
   rcases N.immN b o hi with h|h|⟨_,h,_⟩
   ·exact .inl h
   ·omega
   ·exact h.elim
  dom:=fun k hk=>.inl hk
  rho:=fun k hk=>by rw[qin hk];exact⟨nR0 _,fun _=>rfl⟩
  blk:=fun k hk=>by rw[qin hk];exact .inl rfl
  blkN:=fun k hk hn=>by rw[qfu hn];exact hblk k (hk.resolve_left hn)}
 have up:∀p v,VR w' I' A ρ' p v→VR w' I' (fun k=>D k∨A k) (both D ρ ρ') p v:=fun p v hv=>
  hv.carry (fun b o hi=>⟨hi,rfl⟩) (fun k hk=>.inr hk) (fun k hk=>by rw[qfu (hd k hk)];exact⟨nR0 _,fun _=>rfl⟩)
 refine⟨hN',⟨fun k hk=>?_,fun k o hk ho=>?_,fun k k' hk hk' he=>?_,S'.imm⟩,up⟩
 · rcases hk with hk|hk
   · have hl:=S.lt k hk;have:=h1 k hk;rw[gE0 hl]at this;exact(gI0.1 this).1
   · have hl:=S'.lt k hk;have:=h2 k hk;rw[gE0 hl]at this;exact(gI0.1 this).1
 · by_cases hD:D k
   · rw[h1 k hD]at ho;refine(S.obj k o hD ho).carry (fun b o hi=>⟨N.immI b o hi,N.immC b o hi⟩) (fun k hk=>.inl hk) hN'.rho (qin hD) (N.keep _ (hlt k hD) (fun _ h=>h.elim)) fun o hi=>?_;rcases N.immN _ o hi with h|h|⟨_,h,_⟩
     ·exact h
     ·grind
     ·exact h.elim
   · have hA:=hk.resolve_left hD;rw[h2 k hA]at ho;exact(S'.obj k o hA ho).carry (fun b o hi=>⟨hi,rfl⟩) (fun k hk=>.inr hk) (fun k hk=>by rw[qfu (hd k hk)];exact⟨nR0 _,fun _=>rfl⟩) (qfu hD) rfl (fun _ h=>h)
 · by_cases hD:D k<;>by_cases hD':D k'
   · rw[qin hD,qin hD']at he;exact S.inj k k' hD hD' he
   · rw[qin hD,qfu hD']at he;have:=hlt k hD;have:=hblk k' (hk'.resolve_left hD');omega
   · rw[qfu hD,qin hD']at he;have:=hlt k' hD';have:=hblk k (hk.resolve_left hD);omega
   · rw[qfu hD,qfu hD']at he;exact S'.inj k k' (hk.resolve_left hD) (hk'.resolve_left hD') he
theorem Sim.none{w:World}{I:Nat→Nat→Prop}{D:Nat→Prop}{ρ:Nat→Row}{h:List Obj}(S:Sim w I D ρ h)(h':List Obj):Sim w I (fun _=>False) ρ h':=
 ⟨fun _ h=>h.elim,fun _ _ h=>h.elim,fun _ _ h=>h.elim,S.imm⟩
def qig:PV→PV
 |.int k n=>.int k n
 |_=>.undef
theorem EnvR.ints{w:World}{I:Nat→Nat→Prop}{D:Nat→Prop}{ρ:Nat→Row}{nt:Nat}{e:List PV}{a:Act}(E:EnvR w I D ρ nt e a):EnvR w I (fun _=>False) ρ nt (e.map qig) a:=by
 refine⟨E.size,by simpa using E.len,fun t=>?_⟩;have h1:=E.at_ t;have h2:eget (e.map qig) t=qig (eget e t):=by rw[qf6,qf6];simp only[gD0,gM0];cases e[t]? <;>rfl
 rw[h2];generalize eget e t=p at h1;generalize a.tmps.getD t Go.undef=v at h1;cases h1 with
 |int k n=>exact .int k n
 |_=>exact .undef _
theorem ints_int{e:List PV}{x:AX}{k:IntKind}{n:Int}(h:ax e x=.int k n):ax (e.map qig) x=.int k n:=by
 cases x with
 |t i=>
   have h2:eget (e.map qig) i=qig (eget e i):=by rw[qf6,qf6];simp only[gD0,gM0];cases e[i]? <;>rfl
   simp only[ax]at h⊢;rw[h2,h];rfl
 |_=>exact h
end Go.AE
namespace Go.AE
open Go
section
variable {P:Program}{T:Tbl}{call:FuncId→List PV→List Obj→Option qam}{rows:List Nat}{nt:Nat}
theorem Nxt.drawn{w:World}{I:Nat→Nat→Prop}{D:Nat→Prop}{ρ:Nat→Row}(n:Nat)(hn:w.drawn≤n):Nxt w I D ρ {w with drawn:=n} I D ρ:=
 ⟨rfl,⟨rfl,hn⟩,rfl,nR0 _,fun _ _ _=>rfl,fun _ _ h=>h,fun _ _ _=>rfl,fun _ _ h=>.inl h,fun _ h=>h,fun _ _=>⟨nR0 _,fun _=>rfl⟩,fun _ _=>.inl rfl,fun _ h h'=>absurd h h'⟩
theorem Sim.drawn{w:World}{I:Nat→Nat→Prop}{D:Nat→Prop}{ρ:Nat→Row}{h:List Obj}(n:Nat)(S:Sim w I D ρ h):Sim {w with drawn:=n} I D ρ h where
 lt:=S.lt
 obj k o hk ho:=OK.carry (w:=w) (w':={w with drawn:=n}) (fun _ _ h=>⟨h,rfl⟩) (fun _ h=>h) (fun _ _=>⟨nR0 _,fun _=>rfl⟩) rfl rfl (fun _ h=>h) (S.obj k o hk ho)
 inj:=S.inj
 imm:=S.imm
theorem VR.ref_in{w:World}{I:Nat→Nat→Prop}{D:Nat→Prop}{ρ:Nat→Row}{p:PV}{v:Value}(h:VR w I D ρ p v){k:Nat}(hk:p.ref=some k):D k:=by
 cases h<;>simp[PV.ref]at hk
 all_goals(subst hk;assumption)
abbrev pl(pm:List Nat)(n i:Nat):Nat:=pm.getD i n
theorem qdj{n:Nat}{pm:List Nat}(h:qh4 n pm=true):pm.length=n∧(∀i,i<n→pl pm n i<n)∧(∀j,j<n→∃i,i<n∧pl pm n i=j)∧∀i k,i<n→k<n→pl pm n i=pl pm n k→i=k:=by
 unfold qh4 at h;simp only[bA0,beq_iff_eq,List.all_eq_true,List.mem_range,dE0,List.any_eq_true,bne_iff_ne]at h;obtain⟨h1,h2⟩:=h;refine⟨h1,fun i hi=>(h2 i hi).1.1,fun j hj=>(h2 j hj).1.2,fun i k hi hk he=>?_⟩;rcases Nat.lt_trichotomy i k with hlt|rfl|hlt
 ·grind
 ·rfl
 ·grind
def Bef(ops:Array Oper)(i j:Nat):Prop:=((CheckFast.beforeF ops).getD j 0).testBit i=true
structure Run (P:Program)(T:Tbl)(call:FuncId→List PV→List Obj→Option qam)(rows:List Nat)(nt:Nat)(ops:Array Oper)(pm:List Nat)(N:Nat)(E:Nat→List PV)(H:Nat→List Obj)(Rd Wr:Nat→List Nat):Prop where
 le:N≤ops.size
 did:∀i,i<N→∃o c,ops[pl pm ops.size i]?=some o∧qbl P rows nt ops o=c∧
  Did T call {c with idx:=pl pm ops.size i,bef:=(CheckFast.beforeF ops).getD (pl pm ops.size i) 0,hd:=hdOf ops.size (CheckFast.beforeF ops) pm i} (E i) (E (i+1)) (H i) (H (i+1)) (Rd i) (Wr i)
 pair:∀i j,i<j→j<N→Bef ops (pl pm ops.size i) (pl pm ops.size j)∨(qmy (Rd i) (Wr j)∧qmy (Wr i) (Rd j))
 back:qjj ops=true
 perm:qh4 ops.size pm=true
 slots:qox ops (CheckFast.beforeF ops) pm=true
 ord:ordOk (ops.toList.map (qbl P rows nt ops)) (CheckFast.beforeF ops) pm=true
def qer(P:Program)(rows:List Nat)(nt:Nat)(ops:Array Oper)(pm:List Nat)(i:Nat):Bool:=qsp (ops.toList.map (qbl P rows nt ops)) (pl pm ops.size i)
def qbv(P:Program)(rows:List Nat)(nt:Nat)(ops:Array Oper)(pm:List Nat)(i:Nat):Bool:=qio (ops.toList.map (qbl P rows nt ops)) (pl pm ops.size i)
def qkc(ops:Array Oper)(pm:List Nat)(j t:Nat):Prop:=∃o,ops[pl pm ops.size j]?=some o∧o.dst=some t
theorem pl_lt{ops:Array Oper}{pm:List Nat}(hp:qh4 ops.size pm=true){j:Nat}{o:Oper}(h:ops[pl pm ops.size j]?=some o):j<ops.size:=by
 have h1:=(Array.getElem?_eq_some_iff.1 h).1;rcases Nat.lt_or_ge j ops.size with h2|h2
 ·exact h2
 · unfold pl at h1;rw[gD0,List.getElem?_eq_none (by rw[(qdj hp).1];exact h2)]at h1;simp at h1
theorem qhm{ops:Array Oper}{pm:List Nat}(hp:qh4 ops.size pm=true)(h:qox ops (CheckFast.beforeF ops) pm=true){i j:Nat}(hij:i<j){oi oj:Oper}(hi:ops[pl pm ops.size i]?=some oi)(hj:ops[pl pm ops.size j]?=some oj):
 Bef ops (pl pm ops.size i) (pl pm ops.size j)∨((∀d,oi.dst=some d→d∉qgn ops oj)∧(∀d,oj.dst=some d→d∉qgn ops oi)):=by
 have hlt:j<ops.size:=pl_lt hp hj;have h1:=List.all_eq_true.1 (List.all_eq_true.1 h j (List.mem_range.2 hlt)) i (List.mem_range.2 hij);have ei:ops.getD (pl pm ops.size i) default=oi:=by rw[Array.getD_eq_getD_getElem?,hi];rfl
 have ej:ops.getD (pl pm ops.size j) default=oj:=by rw[Array.getD_eq_getD_getElem?,hj];rfl
 rw[hi,hj,ei,ej]at h1;simp only[Bool.or_eq_true,bA0,List.all_eq_true,Option.bind_some,Option.mem_toList,Bool.not_eq_true',List.contains_eq_mem,decide_eq_false_iff_not]at h1;exact h1
theorem ord_spec{cs:List AOper}{bef:Array Nat}{pm:List Nat}(h:ordOk cs bef pm=true){i j:Nat}(hij:i<j)(hjl:j<cs.length)(hi:qsp cs (pl pm cs.length i)=true)(hj:qsp cs (pl pm cs.length j)=true):
 qio cs (pl pm cs.length i)=true∨(bef.getD (pl pm cs.length j) 0).testBit (pl pm cs.length i)=true:=by
 have h1:=List.all_eq_true.1 h j (List.mem_range.2 hjl);simp only[pl]at hi hj⊢;simp only[hj,Bool.not_true,Bool.false_or]at h1;have h2:=List.all_eq_true.1 h1 i (List.mem_range.2 hij);simp only[hi,Bool.not_true,Bool.false_or,Bool.or_eq_true]at h2;exact h2
theorem hd_spec{n:Nat}{bef:Array Nat}{pm:List Nat}{j:Nat}(h:hdOf n bef pm j=true){i:Nat}(hi:i<n)(hij:j<i):(bef.getD (pl pm n i) 0).testBit (pl pm n j)=true:=by
 have h1:=List.all_eq_true.1 h i (List.mem_range.2 hi);have:¬i≤j:=by omega
 simpa[this]using h1
theorem alloc_ord{o:AOp}(h:qbu o=true):qly o=true:=by cases o<;>simp[qbu]at h<;>rfl
variable {ops:Array Oper}{pm:List Nat}{N:Nat}{E:Nat→List PV}{H:Nat→List Obj}{Rd Wr:Nat→List Nat}
theorem qto{i:Nat}(h:qbv P rows nt ops pm i=true):qer P rows nt ops pm i=true:=by
 unfold qbv qio at h;unfold qer qsp;cases hc:(ops.toList.map (qbl P rows nt ops))[pl pm ops.size i]? with
 |none=>rw[hc]at h;simp at h
 |some c=>
   rw[hc]at h;simp at h⊢;exact alloc_ord h
theorem in_op{i:Nat}{o:Oper}{c:AOper}(h1:ops[pl pm ops.size i]?=some o)(h2:qbl P rows nt ops o=c):qer P rows nt ops pm i=qly c.op∧qbv P rows nt ops pm i=qbu c.op:=by unfold qer qsp qbv qio;rw[gM0,Array.getElem?_toList,h1];simp[h2]
theorem Run.ordB(R:Run P T call rows nt ops pm N E H Rd Wr){i j:Nat}(hij:i<j)(hj:j<ops.size)(hi:qer P rows nt ops pm i=true)(hjo:qer P rows nt ops pm j=true):
 qbv P rows nt ops pm i=true∨Bef ops (pl pm ops.size i) (pl pm ops.size j):=by
 have:=ord_spec R.ord hij (by simpa using hj) (by simpa[qer]using hi) (by simpa[qer]using hjo);simpa[qbv,Bef]using this
theorem Run.dst(R:Run P T call rows nt ops pm N E H Rd Wr){i:Nat}(hi:i<N):∃o V,ops[pl pm ops.size i]?=some o∧E (i+1)=putD (E i) o.dst V∧∀d,o.dst=some d→d<nt:=by
 obtain⟨o,c,h1,h2,h3⟩:=R.did i hi;rcases qe5 h2 with⟨hb,hg⟩|⟨rm,g,_,hdst,_,_,_,hd1,_⟩
 · rcases h3 with⟨hw,he,_⟩|⟨hw,v,s,s',_,_,hev,_⟩
   ·simp[hg,qbk]at hw
   · simp only[hb,evOp]at hev;cases hev
 · rcases h3 with⟨hw,he,_⟩|⟨hw,v,s,s',_,_,hev,he,_⟩
   ·grind
   ·grind
theorem Run.lens(R:Run P T call rows nt ops pm N E H Rd Wr)(h0:(E 0).length≤nt):∀{i:Nat},i≤N→(E i).length≤nt
 |0,_=>h0
 |i+1,hi=>by
   obtain⟨o,V,_,h2,h3⟩:=R.dst (i:=i) (by omega);rw[h2];cases hd:o.dst with
   |none=>exact R.lens h0 (by omega)
   |some d=>exact qmh _ _ _ _ (R.lens h0 (by omega)) (h3 d hd)
theorem Run.slot(R:Run P T call rows nt ops pm N E H Rd Wr){t:Nat}:∀{n i:Nat},i+n≤N→(∀j,i≤j→j<i+n→¬qkc ops pm j t)→eget (E (i+n)) t=eget (E i) t
 |0,i,_,_=>rfl
 |n+1,i,hle,hj=>by
   have ih:=R.slot (t:=t) (n:=n) (i:=i) (by omega) fun j h1 h2=>hj j h1 (by omega);obtain⟨o,V,h1,h2,_⟩:=R.dst (i:=i+n) (by omega);have hn:o.dst≠some t:=fun hd=>hj (i+n) (by omega) (by omega) ⟨o,h1,hd⟩;rw[←Nat.add_assoc,h2];cases hd:o.dst with
   |none=>exact ih
   |some d=>
     simp only[putD,qjg];rw[if_neg (by rintro rfl;exact hn hd)];exact ih
theorem Run.step(R:Run P T call rows nt ops pm N E H Rd Wr){i:Nat}(hi:i<N):(H i).length≤(H (i+1)).length∧(qer P rows nt ops pm i=false→H (i+1)=H i)∧(∀k,k< (H i).length→k∉Wr i→Calm k (H i) (H (i+1)))∧
 (qbv P rows nt ops pm i=true→H (i+1)=H i∨∃ob,H (i+1)=H i++[ob]):=by
 obtain⟨o,c,h1,h2,h3⟩:=R.did i hi;obtain⟨i1,i2⟩:=in_op h1 h2;rcases h3 with⟨_,_,hh,_,_⟩|⟨_,v,s,s',hs,hs',hev,_,hl,_,_,t3⟩
 · rw[hh];exact⟨nR0 _,fun _=>rfl,fun k _ _=>.refl k _,fun _=>.inl rfl⟩
 · refine⟨hl,fun ho=>?_,t3,fun ha=>.inr ?_⟩
   · rw[i1]at ho;rw[←hs,←hs',(qjc ho hev).1]
   · rw[i2]at ha;obtain⟨ob,_,_,he',_,_⟩:=qj5 ha hev;exact⟨ob,by rw[←hs,←hs',he'];rfl⟩
theorem Run.grow(R:Run P T call rows nt ops pm N E H Rd Wr):∀{n i:Nat},i+n≤N→(H i).length≤(H (i+n)).length
 |0,i,_=>nR0 _
 |n+1,i,hle=>nT0 (R.grow (n:=n) (i:=i) (by omega)) (R.step (i:=i+n) (by omega)).1
theorem Run.mono(R:Run P T call rows nt ops pm N E H Rd Wr){i j:Nat}(hij:i≤j)(hj:j≤N):(H i).length≤(H j).length:=by
 have:=R.grow (n:=j - i) (i:=i) (by omega)
 rwa [show i+(j - i)=j by omega]at this
theorem Run.calm(R:Run P T call rows nt ops pm N E H Rd Wr){k:Nat}:∀{n i:Nat},i+n≤N→k< (H i).length→(∀j,i≤j→j<i+n→k∉Wr j)→Calm k (H i) (H (i+n))
 |0,i,_,_,_=>.refl k _
 |n+1,i,hle,hk,hj=>by have ih:=R.calm (n:=n) (i:=i) (by omega) hk fun j h1 h2=>hj j h1 (by omega);obtain⟨_,_,h3,_⟩:=R.step (i:=i+n) (by omega);have hm:=R.mono (i:=i) (j:=i+n) (by omega) (by omega);rw[←Nat.add_assoc];exact ih.trans (h3 k (by omega) (hj (i+n) (by omega) (by omega)))
theorem Run.wr_ord(R:Run P T call rows nt ops pm N E H Rd Wr){i:Nat}(hw:Wr i≠[])(hi:i<N):qer P rows nt ops pm i=true∧qbv P rows nt ops pm i=false:=by
 obtain⟨o,c,h1,h2,h3⟩:=R.did i hi;obtain⟨i1,i2⟩:=in_op h1 h2;rcases h3 with⟨_,_,_,_,hwr⟩|⟨_,v,s,s',_,_,_,_,_,_,t2,_⟩
 ·grind
 ·grind
variable {w0:World}{I0:Nat→Nat→Prop}{D:Nat→Prop}{ρ0:Nat→Row}
theorem qma{L:Array Bool}{j:Nat}(h:j<L.size)(d d':Bool):L.getD j d=L.getD j d':=by grind
theorem qcu{L:Array Bool}{j i:Nat}(hj:j<L.size):(L.setIfInBounds j true).getD i false=true↔L.getD i false=true∨i=j:=by
 by_cases h:j=i
 ·simp_all
 · rw[getD_set_ne false h];exact⟨.inl,fun h'=>h'.resolve_right fun e=>h e.symm⟩
def Dn(ops:Array Oper)(pm:List Nat)(L:Array Bool)(i:Nat):Prop:=L.getD (pl pm ops.size i) false=true
theorem qhi{L:Array Bool}(hp:qh4 ops.size pm=true)(hs:L.size=ops.size){j i:Nat}(hj:j<ops.size)(hi:i<ops.size):Dn ops pm (L.setIfInBounds (pl pm ops.size j) true) i↔Dn ops pm L i∨i=j:=by unfold Dn;obtain⟨_,p2,_,p4⟩:=qdj hp;rw[qcu (by rw[hs];exact p2 j hj)];exact⟨fun h=>h.imp id (p4 i j hi hj),fun h=>h.imp id fun e=>by rw[e]⟩
theorem Dn_lt{L:Array Bool}(hp:qh4 ops.size pm=true)(hs:L.size=ops.size){i:Nat}(h:Dn ops pm L i):i<ops.size:=by
 rcases Nat.lt_or_ge i ops.size with h2|h2
 ·exact h2
 · unfold Dn pl at h;rw[gD0,List.getElem?_eq_none (by rw[(qdj hp).1];exact h2)]at h;rw[Array.getD_eq_getD_getElem?,Array.getElem?_eq_none (by simp;omega)]at h;cases h
def Hole(P:Program)(rows:List Nat)(nt:Nat)(ops:Array Oper)(pm:List Nat)(H:Nat→List Obj)(L:Array Bool)(q k:Nat):Prop:=
 ∃i,i<q∧qbv P rows nt ops pm i=true∧¬Dn ops pm L i∧(H i).length=k∧(H i).length< (H (i+1)).length
def DS(P:Program)(rows:List Nat)(nt:Nat)(ops:Array Oper)(pm:List Nat)(H:Nat→List Obj)(D:Nat→Prop)(L:Array Bool)(q:Nat):Nat→Prop:=
 fun k=>ext D (H 0).length (H q).length k∧¬Hole P rows nt ops pm H L q k
structure Inv (P:Program)(rows:List Nat)(nt:Nat)(ops:Array Oper)(pm:List Nat)(N:Nat)(E:Nat→List PV)(H:Nat→List Obj)
 (w0:World)(I0:Nat→Nat→Prop)(D:Nat→Prop)(ρ0:Nat→Row)(L:Array Bool)(a:Act)(w:World):Prop where
 size:L.size=ops.size
 closed:∀i j,L.getD j false=true→Bef ops i j→L.getD i false=true
 lt:∀i,Dn ops pm L i→i<N
 mem:∃q I ρ eS,q≤N∧(∀i,i<ops.size→qer P rows nt ops pm i=true→(Dn ops pm L i→i<q)∧(qbv P rows nt ops pm i=false→i<q→Dn ops pm L i))∧
  Nxt w0 I0 D ρ0 w I (DS P rows nt ops pm H D L q) ρ∧Sim w I (DS P rows nt ops pm H D L q) ρ (H q)∧EnvR w I (DS P rows nt ops pm H D L q) ρ nt eS a∧
  ∀t,∃i,i≤N∧eget eS t=eget (E i) t∧(∀j,j<i→qkc ops pm j t→Dn ops pm L j)∧(∀j,i≤j→qkc ops pm j t→¬Dn ops pm L j)
theorem qcy{L:Array Bool}{a:Act}{w:World}(V:Inv P rows nt ops pm N E H w0 I0 D ρ0 L a w){j:Nat}{o:Oper}(ho:ops[j]?=some o)(hall:∀e∈o.after,Region.binds .any e=true→L.getD e.on false=true){i:Nat}(hb:Bef ops i j):L.getD i false=true:=by
 obtain⟨o',h1,e,h2,h3,h4⟩:=before_bit hb;rw[ho]at h1;cases h1;rcases h4 with rfl|h4
 ·grind
 ·exact V.closed i e.on (hall e h2 h3) h4
theorem tmps_dst{o:Oper}{d:Nat}(h:o.dst=some d):d∈qgn ops o:=by simp[qgn,h]
theorem tmps_arg{o:Oper}{t:Nat}(h:Operand.tmp t∈o.op.operands.toList):t∈qgn ops o:=by unfold qgn;refine List.mem_append_left _ (List.mem_append_right _ (List.mem_filterMap.2 ⟨.tmp t,h,rfl⟩))
theorem tmps_guard{o:Oper}{d:Nat}{q:Bool}(h:qno ops o.guard=some (some (d,q))):d∈qgn ops o:=by
 unfold qgn;refine List.mem_append_right _ ?_;unfold qno at h;split at h
 ·cases h
 ·grind
theorem seen_slot(R:Run P T call rows nt ops pm N E H Rd Wr){L:Array Bool}{a:Act}{w:World}(V:Inv P rows nt ops pm N E H w0 I0 D ρ0 L a w){j:Nat}{o:Oper}(ho:ops[pl pm ops.size j]?=some o)(hj:¬Dn ops pm L j)(hjN:j≤N)
 (hall:∀e∈o.after,Region.binds .any e=true→L.getD e.on false=true){t:Nat}(ht:t∈qgn ops o){i:Nat}(hi:i≤N)
 (h1:∀k,k<i→qkc ops pm k t→Dn ops pm L k)(h2:∀k,i≤k→qkc ops pm k t→¬Dn ops pm L k):eget (E i) t=eget (E j) t:=by
 rcases Nat.le_total i j with hij|hij
 · have:=R.slot (t:=t) (n:=j - i) (i:=i) (by omega) fun k hk1 hk2 ⟨ok,hok,hkd⟩=>by
    have hkj:k<j:=by omega
    have hb:=(qhm R.perm R.slots hkj hok ho).resolve_right fun h=>h.1 t hkd ht;exact h2 k hk1 ⟨ok,hok,hkd⟩ (qcy V ho hall hb)
   rw[show i+(j - i)=j by omega]at this;exact this.symm
 · have:=R.slot (t:=t) (n:=i - j) (i:=j) (by omega) fun k hk1 hk2 ⟨ok,hok,hkd⟩=>by
    have hl:=h1 k (by omega) ⟨ok,hok,hkd⟩;rcases Nat.eq_or_lt_of_le hk1 with rfl|hlt
    ·exact hj hl
    · have hb:=(qhm R.perm R.slots hlt ho hok).resolve_right fun h=>h.2 t hkd ht;exact hj (V.closed _ _ hl hb)
   rw[show j+(i - j)=i by omega]at this;exact this
theorem Run.pass(R:Run P T call rows nt ops pm N E H Rd Wr){L:Array Bool}{w:World}{I:Nat→Nat→Prop}{ρ:Nat→Row}(h0:∀k,D k→k< (H 0).length):∀{n q:Nat},q+n≤N→(∀i,q≤i→i<q+n→qer P rows nt ops pm i=true→qbv P rows nt ops pm i=true∧¬Dn ops pm L i)→
 DS P rows nt ops pm H D L (q+n)=DS P rows nt ops pm H D L q∧(Sim w I (DS P rows nt ops pm H D L q) ρ (H q)→Sim w I (DS P rows nt ops pm H D L (q+n)) ρ (H (q+n)))
 |0,q,_,_=>⟨rfl,id⟩
 |n+1,q,hle,hj=>by
   obtain⟨e1,e2⟩:=R.pass (n:=n) (q:=q) (w:=w) (I:=I) (ρ:=ρ) (L:=L) h0 (by omega) fun i h1 h2=>hj i h1 (by omega);have hm:=hj (q+n) (by omega) (by omega);obtain⟨_,s2,_,s4⟩:=R.step (i:=q+n) (by omega);rw[←Nat.add_assoc];have hgr:(H 0).length≤(H (q+n)).length:=R.mono (Nat.zero_le _) (by omega);have key:H (q+n+1)=H (q+n)∨((∃ob,H (q+n+1)=H (q+n)++[ob])∧qbv P rows nt ops pm (q+n)=true∧¬Dn ops pm L (q+n)):=by grind
   have hd:DS P rows nt ops pm H D L (q+n+1)=DS P rows nt ops pm H D L (q+n):=by
    funext k
    apply propext;unfold DS;rcases key with hk|⟨⟨ob,hk⟩,ha,hn⟩
    · rw[hk];refine and_congr Iff.rfl (not_congr ⟨fun⟨i,g1,g2,g3,g4,g5⟩=>⟨i,?_,g2,g3,g4,g5⟩,fun⟨i,g1,g2⟩=>⟨i,by omega,g2⟩⟩);rcases Nat.lt_or_ge i (q+n)with h|h
      ·exact h
      ·grind
    · have hl:(H (q+n+1)).length=(H (q+n)).length+1:=by rw[hk];simp
      constructor
      · rintro⟨g1,g2⟩;refine⟨?_,fun⟨i,f1,f2⟩=>g2 ⟨i,by omega,f2⟩⟩;rcases g1 with g1|g1
        ·exact .inl g1
        · refine .inr ⟨g1.1,?_⟩;rcases Nat.lt_or_ge k (H (q+n)).length with h|h
          ·exact h
          ·exact absurd ⟨q+n,by omega,ha,hn,by omega,by omega⟩ g2
      · rintro⟨g1,g2⟩;refine⟨g1.imp id fun g=>⟨g.1,by omega⟩,fun⟨i,f1,f2,f3,f4,f5⟩=>?_⟩;rcases Nat.lt_or_ge i (q+n)with h|h
        ·exact g2 ⟨i,h,f2,f3,f4,f5⟩
        · have:i=q+n:=by omega
          subst this;rcases g1 with g1|g1
          ·grind
          ·omega
   refine⟨hd.trans e1,fun S=>?_⟩;have S1:=e2 S;rw[hd];rcases key with hk|⟨⟨ob,hk⟩,_⟩
   ·grind
   · refine S1.less (fun k h=>h) (fun k o _ _ h=>h) fun k hk'=>?_;have:=S1.lt k hk';rw[hk,gL0 this]
theorem Inv.next(R:Run P T call rows nt ops pm N E H Rd Wr){L:Array Bool}{a:Act}{w:World}(V:Inv P rows nt ops pm N E H w0 I0 D ρ0 L a w){j:Nat}{o:Oper}(ho:ops[pl pm ops.size j]?=some o)(hj:¬Dn ops pm L j)(hjN:j<N)
 (hall:∀e∈o.after,Region.binds .any e=true→L.getD e.on false=true){p:PV}(hE:E (j+1)=putD (E j) o.dst p){eS:List PV}
 (hs:∀t,∃i,i≤N∧eget eS t=eget (E i) t∧(∀j,j<i→qkc ops pm j t→Dn ops pm L j)∧(∀j,i≤j→qkc ops pm j t→¬Dn ops pm L j))
 {q:Nat}(hq:q≤N)(hqi:∀i,i<ops.size→qer P rows nt ops pm i=true→(Dn ops pm (L.setIfInBounds (pl pm ops.size j) true) i→i<q)∧(qbv P rows nt ops pm i=false→i<q→Dn ops pm (L.setIfInBounds (pl pm ops.size j) true) i))
 {a':Act}{w':World}{I:Nat→Nat→Prop}{ρ:Nat→Row}{D':Nat→Prop}(hD:D'=DS P rows nt ops pm H D (L.setIfInBounds (pl pm ops.size j) true) q)
 (hN:Nxt w0 I0 D ρ0 w' I D' ρ)(hS:Sim w' I D' ρ (H q))(hV:EnvR w' I D' ρ nt (putD eS o.dst p) a'):
 Inv P rows nt ops pm N E H w0 I0 D ρ0 (L.setIfInBounds (pl pm ops.size j) true) a' w':=by
 have hjm:j<ops.size:=pl_lt R.perm ho;have hjs:pl pm ops.size j<L.size:=by rw[V.size];exact(Array.getElem?_eq_some_iff.1 ho).1
 subst hD;refine⟨by simp[V.size],fun i k hk hb=>?_,fun i hi=>?_,q,I,ρ,_,hq,hqi,hN,hS,hV,?_⟩
 · rw[qcu hjs]at hk⊢;rcases hk with hk|rfl
   ·exact .inl (V.closed i k hk hb)
   ·exact .inl (qcy V ho hall hb)
 · have him:i<ops.size:=Dn_lt R.perm (by simp[V.size]) hi;rw[qhi R.perm V.size hjm him]at hi;rcases hi with hi|rfl
   ·exact V.lt i hi
   ·exact hjN
 · intro t;have up:∀{k},Dn ops pm L k→Dn ops pm (L.setIfInBounds (pl pm ops.size j) true) k:=fun h=>by unfold Dn at h⊢;exact(qcu hjs).2 (.inl h)
   by_cases hd:o.dst=some t
   · refine⟨j+1,hjN,?_,fun k hk ⟨ok,hok,hkd⟩=>?_,fun k hk ⟨ok,hok,hkd⟩ hl=>?_⟩
     ·rw[hE,hd];simp only[putD,qjg,if_true]
     · rcases Nat.eq_or_lt_of_le (show k≤j by omega)with rfl|hlt
       ·exact(qhi R.perm V.size hjm hjm).2 (.inr rfl)
       ·exact up (qcy V ho hall ((qhm R.perm R.slots hlt hok ho).resolve_right fun h=>h.1 t hkd (tmps_dst hd)))
     · have hlt:j<k:=hk;have hb:=(qhm R.perm R.slots hlt ho hok).resolve_right fun h=>h.1 t hd (tmps_dst hkd);rw[qhi R.perm V.size hjm (pl_lt R.perm hok)]at hl;rcases hl with hl|rfl
       ·exact hj (V.closed _ _ hl hb)
       ·omega
   · obtain⟨i,h1,h2,h3,h4⟩:=hs t;refine⟨i,h1,?_,fun k hk hw=>up (h3 k hk hw),fun k hk hw hl=>?_⟩
     · rw[←h2];cases hdd:o.dst with
       |none=>rfl
       |some d=>
         simp only[putD,qjg];rw[if_neg (by rintro rfl;exact hd hdd)]
     · have hkm:k<ops.size:=by obtain⟨ok,hok,_⟩:=hw;exact pl_lt R.perm hok
       rw[qhi R.perm V.size hjm hkm]at hl;rcases hl with hl|rfl
       ·grind
       · obtain⟨ok,hok,hkd⟩:=hw;rw[ho]at hok;cases hok;exact hd hkd
end
end Go.AE
namespace Go.AE
open Go
section
variable {P:Program}{T:Tbl}{call:FuncId→List PV→List Obj→Option qam}{rows:List Nat}{nt:Nat}
variable {ops:Array Oper}{pm:List Nat}{N:Nat}{E:Nat→List PV}{H:Nat→List Obj}{Rd Wr:Nat→List Nat}
variable {w0:World}{I0:Nat→Nat→Prop}{D:Nat→Prop}{ρ0:Nat→Row}
def Ends(P:Program)(T:Tbl)(call:FuncId→List PV→List Obj→Option qam)(rows:List Nat)(nt:Nat)(ops:Array Oper)(pm:List Nat)(N:Nat)(E:Nat→List PV)(H:Nat→List Obj)
    (w0:World)(I0:Nat→Nat→Prop)(D:Nat→Prop)(ρ0:Nat→Row)(ds:List Deferred)(Q:Exit→Act→World→Prop):Prop:=
 (N=ops.size∧∀a w I ρ,Nxt w0 I0 D ρ0 w I (ext D (H 0).length (H N).length) ρ→Sim w I (ext D (H 0).length (H N).length) ρ (H N)→EnvR w I (ext D (H 0).length (H N).length) ρ nt (E N) a→a.defers=ds→Q .normal a w)∨
 (∃o c p b t t',ops[pl pm ops.size N]?=some o∧qbl P rows nt ops o=c∧hdOf ops.size (CheckFast.beforeF ops) pm N=true∧qbk c.guard (E N)=some true∧t.h=H N∧evOp T call c.op (E N) t=some (.pan p,t')∧
  (b=true→∀i,i<N→qbv P rows nt ops pm i=true→(H i).length< (H (i+1)).length→Bef ops (pl pm ops.size i) (pl pm ops.size N))∧
  (b=true→∀a w I ρ v,Nxt w0 I0 D ρ0 w I (ext D (H 0).length t'.h.length) ρ→Sim w I (ext D (H 0).length t'.h.length) ρ t'.h→VR w I (ext D (H 0).length t'.h.length) ρ p v→a.defers=ds→Q (.panic [{v,recovered:=false}]) a w)∧
  (b=false→∀a w I ρ Dx v,(∀k,(Dx k∧k< (H 0).length)↔D k)→Nxt w0 I0 D ρ0 w I Dx ρ→Sim w I Dx ρ t'.h→VR w I Dx ρ p v→a.defers=ds→Q (.panic [{v,recovered:=false}]) a w))
theorem ready_nil{L:Array Bool}(hback:qjj ops=true)(hsz:L.size=ops.size)(h:Region.ready .any ops L=[]):∀i,i<ops.size→L.getD i false=true:=by
 intro i;induction i using Nat.strongRecOn with
 |_ i ih=>
   intro hi;cases hl:L.getD i false with
   |true=>rfl
   |false=>
     have hm:i∈Region.ready .any ops L:=by rw[mem_ready];refine⟨by rw[qma (by omega) true false];exact hl,ops[i],by simp[hi],fun e he hb=>?_⟩;have h1:=List.all_eq_true.1 hback i (List.mem_range.2 hi);rw[Array.getElem?_eq_getElem hi]at h1;simp only[Option.map_some,Option.getD_some,List.all_eq_true,Bool.or_eq_true,dE0]at h1;have h2:=h1 e (by simpa using he);simp only[hb,Bool.not_true,bF0,or_false]at h2;exact ih e.on h2 (by omega)
     rw[h]at hm;cases hm
theorem DS_full{L:Array Bool}(hd:∀i,i<N→qbv P rows nt ops pm i=true→(H i).length< (H (i+1)).length→Dn ops pm L i){q:Nat}(hq:q≤N):DS P rows nt ops pm H D L q=ext D (H 0).length (H q).length:=by
 funext k
 apply propext;exact⟨fun h=>h.1,fun h=>⟨h,fun⟨i,g1,g2,g3,_,g5⟩=>g3 (hd i (by omega) g2 g5)⟩⟩
theorem DS_same{L:Array Bool}(hp:qh4 ops.size pm=true)(hs:L.size=ops.size){j q:Nat}(hj:j<ops.size)(hq:q≤ops.size)(ha:qbv P rows nt ops pm j=false):
 DS P rows nt ops pm H D (L.setIfInBounds (pl pm ops.size j) true) q=DS P rows nt ops pm H D L q:=by
 funext k
 apply propext;refine and_congr Iff.rfl (not_congr ⟨fun⟨i,g1,g2,g3,g4⟩=>⟨i,g1,g2,fun h=>g3 ((qhi hp hs hj (by omega)).2 (.inl h)),g4⟩,fun⟨i,g1,g2,g3,g4⟩=>⟨i,g1,g2,fun h=>?_,g4⟩⟩);rcases(qhi hp hs hj (by omega)).1 h with h|rfl
 ·exact g3 h
 ·grind
theorem walk{ds:List Deferred}(hT:∀f p,T.prim f=some p→qev P f p)(hC:qd0 P call)(hS:qa7 call)(R:Run P T call rows nt ops pm N E H Rd Wr)(S0:Sim w0 I0 D ρ0 (H 0))(h0:(E 0).length≤nt){Q:Exit→Act→World→Prop}(hend:Ends P T call rows nt ops pm N E H w0 I0 D ρ0 ds Q):
 ∀(fuel:Nat)(L:Array Bool)(a:Act)(w:World),Inv P rows nt ops pm N E H w0 I0 D ρ0 L a w→a.defers=ds→unl ops.size L≤fuel→wpAny P .any ops Q fuel L a w:=by
 obtain⟨_,p2,p3,_⟩:=qdj R.perm;have hD0:∀k,D k→k< (H 0).length:=S0.lt
 have done:∀(L:Array Bool)(a:Act)(w:World),Inv P rows nt ops pm N E H w0 I0 D ρ0 L a w→a.defers=ds→(∀i,i<ops.size→L.getD i false=true)→Q .normal a w:=by
  intro L a w V hdf hl;have hld:∀i,i<ops.size→Dn ops pm L i:=fun i hi=>hl _ (p2 i hi)
  have hNs:N=ops.size:=by
   have h1:=R.le;rcases Nat.lt_or_ge N ops.size with h2|h2
   ·have:=V.lt N (hld N h2);omega
   ·omega
  rcases hend with⟨_,hq⟩|⟨o,c,p,b,t,t',h1,_⟩
  · obtain⟨q,I,ρ,eS,hq1,hq2,hN,hS',hE,hsl⟩:=V.mem;have hpass:=R.pass (n:=N - q) (q:=q) (L:=L) (w:=w) (I:=I) (ρ:=ρ) hD0 (by omega) fun i h1 h2 ho=>by have:=(hq2 i (by omega) ho).1 (hld i (by omega));omega
    rw[show q+(N - q)=N by omega]at hpass;obtain⟨hd,hs⟩:=hpass;have hfull:=DS_full (P:=P) (rows:=rows) (nt:=nt) (pm:=pm) (H:=H) (D:=D) (L:=L) (q:=N) (N:=N) (fun i hi _ _=>hld i (by omega)) (nR0 _);have hSN:=hs hS';rw[←hd,hfull]at hN hE;rw[hfull]at hSN;refine hq a w I ρ hN hSN ⟨hE.size,R.lens h0 (nR0 _),fun t=>?_⟩ hdf;obtain⟨i,h1,h2,_,h4⟩:=hsl t;have hs:=R.slot (t:=t) (n:=N - i) (i:=i) (by omega) fun j hj1 hj2 hw=>h4 j hj1 hw (hld j (by omega));rw[show i+(N - i)=N by omega]at hs;rw[hs,←h2];exact hE.at_ t
  · have:=pl_lt R.perm h1;omega
 intro fuel;induction fuel with
 |zero=>
   intro L a w V hdf hu
   have hl:∀i,i<ops.size→L.getD i false=true:=by
    intro i hi;cases h:L.getD i false with
    |true=>rfl
    |false=>
      have h1:(List.range ops.size).countP (fun i=>!L.getD i false)=0:=Nat.le_zero.1 hu;have:=List.countP_eq_zero.1 h1 i (List.mem_range.2 hi);simp[h]at this
   refine⟨?_,done L a w V hdf hl⟩;rw[List.eq_nil_iff_forall_not_mem];intro i hi;obtain⟨h1,o,ho,_⟩:=mem_ready.1 hi;have hio:=(Array.getElem?_eq_some_iff.1 ho).1;rw[qma (by rw[V.size];exact hio) true false,hl i hio]at h1;cases h1
 |succ fuel ih=>
   intro L a w V hdf hu;refine⟨fun hr=>done L a w V hdf (ready_nil R.back V.size hr),fun jo hjr=>?_⟩;obtain⟨hj',o,ho,hall⟩:=mem_ready.1 hjr;have hjom:=(Array.getElem?_eq_some_iff.1 ho).1;obtain⟨j,hjm,rfl⟩:=p3 jo hjom;have hjs:pl pm ops.size j<L.size:=by rw[V.size];exact hjom
   have hjf:L.getD (pl pm ops.size j) false=false:=by rw[qma hjs false true];exact hj'
   have hj:¬Dn ops pm L j:=by unfold Dn;rw[hjf];simp
   have hfuel:∀a' w',Inv P rows nt ops pm N E H w0 I0 D ρ0 (L.setIfInBounds (pl pm ops.size j) true) a' w'→a'.defers=ds→wpAny P .any ops Q fuel (L.setIfInBounds (pl pm ops.size j) true) a' w':=by
    intro a' w' V' hdf';refine ih _ a' w' V' hdf' ?_
    have:=qri (p:=fun i=>!L.getD i false) (q:=fun i=>!(L.setIfInBounds (pl pm ops.size j) true).getD i false) (j:=pl pm ops.size j) (fun x hx=>by
     cases hL:L.getD x false with
     |false=>rfl
     |true=>
       have:(L.setIfInBounds (pl pm ops.size j) true).getD x false=true:=(qcu hjs).2 (.inl hL);simp only[this]at hx;cases hx) (by simp only[hjf];rfl) (by
       have:(L.setIfInBounds (pl pm ops.size j) true).getD (pl pm ops.size j) false=true:=(qcu hjs).2 (.inr rfl);simp only[this];rfl) (List.range ops.size) (List.mem_range.2 hjom)
    unfold unl at hu⊢;omega
   have hupD:∀{i},Dn ops pm L i→Dn ops pm (L.setIfInBounds (pl pm ops.size j) true) i:=fun h=>by unfold Dn at h⊢;exact(qcu hjs).2 (.inl h)
   have hself:Dn ops pm (L.setIfInBounds (pl pm ops.size j) true) j:=(qhi R.perm V.size hjm hjm).2 (.inr rfl);obtain⟨q,I,ρ,eS,hq1,hq2,hN,hSq,hE,hsl⟩:=V.mem
   have hjN:j≤N:=by
    rcases hend with⟨hn,_⟩|⟨oN,c,p,b,t,t',_,_,g3,_⟩
    ·omega
    · rcases Nat.lt_or_ge N j with h1|h1
      · have:=qcy V ho hall (i:=pl pm ops.size N) (hd_spec g3 hjm h1);have:=V.lt N this;omega
      ·exact h1
   have hseen:∀t,t∈qgn ops o→eget eS t=eget (E j) t:=by intro t ht;obtain⟨i,h1,h2,h3,h4⟩:=hsl t;rw[h2];exact seen_slot R V ho hj hjN hall ht h1 h3 h4
   generalize hc:qbl P rows nt ops o=c;obtain⟨hordc,hallc⟩:=in_op (pm:=pm) ho hc;rcases qe5 hc with⟨hb,hg⟩|⟨rm,g,hslot,hdst,hop,hguard,hloud,hd1,hd2⟩
   · -- a bar:the run has not come through here
     rcases Nat.eq_or_lt_of_le hjN with rfl|hlt
     · rcases hend with⟨hn,_⟩|⟨oN,c',p,b,t,t',g1,g2,g3,g4,g5,g6,_⟩
       ·omega
       · rw[ho]at g1;cases g1;rw[hc]at g2;subst g2;rw[hb]at g6;simp only[evOp]at g6;cases g6
     · obtain⟨o',c',h1,h2,h3⟩:=R.did j hlt;rw[ho]at h1;cases h1;rw[hc]at h2;subst h2;rcases h3 with⟨hw,_⟩|⟨_,v,s,s',_,_,hev,_⟩
       ·simp[hg,qbk]at hw
       · simp only[hb,evOp]at hev;cases hev
   have hax:∀x∈c.op.axs,ax eS x=ax (E j) x:=by
    intro x hx;rw[hop]at hx;rcases qoe x hx with⟨y,hy,rfl⟩|⟨z,rfl,_⟩
    · cases y with
      |tmp t=>exact hseen t (tmps_arg hy)
      |const v=>simp only[cx];split<;>rfl
      |global x=>rfl
      |func f=>rfl
    ·rfl
   have hwant:qbk c.guard eS=qbk c.guard (E j):=by
    rw[hguard];cases g with
    |none=>rfl
    |some dq=>
      obtain⟨d,q⟩:=dq;simp only[qbk];rw[hseen d (tmps_guard hslot)]
   have hahead:∀m,m≤j+1→qer P rows nt ops pm j=true→(m≤j∨qbv P rows nt ops pm j=true)→∀i,q≤i→i<m→qer P rows nt ops pm i=true→qbv P rows nt ops pm i=true∧¬Dn ops pm L i:=by
    intro m hm hoj hmj i h1 h2 hoi;have hnd:¬Dn ops pm L i:=fun h=>by have:=(hq2 i (by omega) hoi).1 h;omega
    refine⟨?_,hnd⟩;rcases Nat.lt_or_ge i j with hij|hij
    · rcases R.ordB hij hjm hoi hoj with h|h
      ·exact h
      ·exact absurd (qcy V ho hall h) hnd
    · have:i=j:=by omega
      subst this;rcases hmj with h|h
      ·omega
      ·exact h
   have htrans:∀{w':World}{I':Nat→Nat→Prop}{D':Nat→Prop}{ρ':Nat→Row},Nxt w I (DS P rows nt ops pm H D L q) ρ w' I' D' ρ'→Nxt w0 I0 D ρ0 w' I' D' ρ':=
    fun h3=>Nxt.trans (fun k hk=>S0.blk_lt k hk) hN h3
   unfold wpOp;rw[ho];simp only[];rcases Nat.eq_or_lt_of_le hjN with hjN'|hlt
   · -- the run's end:a panic
     rcases hend with⟨hn,_⟩|⟨oN,c',p,b,t,t',g1,g2,g3,g4,g5,g6,g7,g8,g9⟩
     ·omega
     · rw[←hjN']at g1 g3 g4 g5 g6 g7;rw[ho]at g1;cases g1;rw[hc]at g2;subst g2;rw[←hwant,hguard]at g4;have hw:=qcw hE hslot hd2 g4 (o:=o) rfl;rw[if_pos hw];refine .inl ?_
       have hco:qly c.op=true:=by
        cases hco:qly c.op with
        |true=>rfl
        |false=>
          obtain⟨_,⟨v,hv⟩,_⟩:=qjc hco g6;cases hv
       have hoj:qer P rows nt ops pm j=true:=by rw[hordc];exact hco
       have hpass:=R.pass (n:=j - q) (q:=q) (L:=L) (w:=w) (I:=I) (ρ:=ρ) hD0 (by omega) fun i h1 h2=>hahead j (by omega) hoj (.inl (nR0 _)) i h1 (by omega);have hqj:q≤j:=by omega
       rw[show q+(j - q)=j by omega]at hpass;obtain⟨hd,hs⟩:=hpass;have hSj:=hs hSq;cases b with
       |true=>
         have hfull:=DS_full (P:=P) (rows:=rows) (nt:=nt) (pm:=pm) (H:=H) (D:=D) (L:=L) (q:=j) (N:=j) (fun i hi ha hl=>qcy V ho hall (g7 rfl i hi ha hl)) (nR0 _);rw[hfull]at hd hSj;rw[←hd]at hE htrans;rw[←qj4 hax,hop]at g6;have st:=qdy hS g6;refine qg9 hT hC (s:=t) (by rw[g5];exact hSj) hE g6 (fun p' hp=>by cases hp) (fun p' hp=>?_);cases hp;intro v w1 I1 ρ1 N1 S1 V1;have hgr:(H 0).length≤(H j).length:=R.mono (Nat.zero_le _) hjN;have hx:ext (ext D (H 0).length (H j).length) t.h.length t'.h.length=ext D (H 0).length t'.h.length:=by have:=st.len;rw[g5]at this⊢;exact qg8 D hgr this
         rw[hx]at N1 S1 V1;exact g8 rfl a w1 I1 ρ1 v (htrans N1) S1 V1 hdf
       |false=>
         rw[←hd]at hE htrans;rw[←qj4 hax,hop]at g6;refine qg9 hT hC (s:=t) (by rw[g5];exact hSj) hE g6 (fun p' hp=>by cases hp) (fun p' hp=>?_);cases hp;intro v w1 I1 ρ1 N1 S1 V1;have hgr:(H 0).length≤(H j).length:=R.mono (Nat.zero_le _) hjN;refine g9 rfl a w1 I1 ρ1 _ v (fun k=>?_) (htrans N1) S1 V1 hdf;rw[g5];constructor
         · rintro⟨h1|h1,h2⟩
           · rcases h1.1 with h3|h3
             ·exact h3
             ·omega
           ·omega
         · intro hk;have hk0:=hD0 k hk;refine⟨.inl ⟨.inl hk,?_⟩,hk0⟩;rintro⟨i,i1,_,_,i4,_⟩;have:=R.mono (Nat.zero_le i) (show i≤N by omega);omega
   · obtain⟨o',c',h1,h2,h3⟩:=R.did j hlt;rw[ho]at h1;cases h1;rw[hc]at h2;subst h2
     have hqo:qer P rows nt ops pm j=true→∀m,j<m→q≤m→(∀i,q≤i→i<m→i≠j→qer P rows nt ops pm i=true→qbv P rows nt ops pm i=true)→∀i,i<ops.size→qer P rows nt ops pm i=true→
      (Dn ops pm (L.setIfInBounds (pl pm ops.size j) true) i→i<m)∧(qbv P rows nt ops pm i=false→i<m→Dn ops pm (L.setIfInBounds (pl pm ops.size j) true) i):=by
      intro hoj m hm hqm hal i hi hio;refine⟨fun h=>?_,fun ha hlt=>?_⟩
      · rcases(qhi R.perm V.size hjm hi).1 h with h|rfl
        ·have:=(hq2 i hi hio).1 h;omega
        ·exact hm
      · by_cases hij:i=j
        ·subst hij;exact hself
        · rcases Nat.lt_or_ge i q with h|h
          ·exact hupD ((hq2 i hi hio).2 ha h)
          ·rw[hal i h hlt hij hio]at ha;cases ha
     have hqf:qer P rows nt ops pm j=false→∀i,i<ops.size→qer P rows nt ops pm i=true→
      (Dn ops pm (L.setIfInBounds (pl pm ops.size j) true) i→i<q)∧(qbv P rows nt ops pm i=false→i<q→Dn ops pm (L.setIfInBounds (pl pm ops.size j) true) i):=by
      intro hoj i hi hio;refine⟨fun h=>?_,fun ha hlt=>hupD ((hq2 i hi hio).2 ha hlt)⟩;rcases(qhi R.perm V.size hjm hi).1 h with h|rfl
      ·exact(hq2 i hi hio).1 h
      ·rw[hoj]at hio;cases hio
     have hmono:=R.step hlt;rcases h3 with⟨hw,he,hh,_,_⟩|⟨hw,v,s,s',hs,hs',hev,he,hlen,t1,t2,t3⟩
     · have hw':qbk c.guard (E j)=some false:=hw;rw[←hwant,hguard]at hw';have hww:=qcw hE hslot hd2 hw' (o:=o) rfl;rw[if_neg (by simp[hww])];have hEj:E (j+1)=putD (E j) o.dst (.tuple []):=by rw[he];simp only[hdst]
       have hds:∀m,m≤ops.size→DS P rows nt ops pm H D L m=DS P rows nt ops pm H D (L.setIfInBounds (pl pm ops.size j) true) m:=by
        intro m hm
        funext k
        apply propext;refine and_congr Iff.rfl (not_congr ⟨fun⟨i,g1,g2,g3,g4,g5⟩=>⟨i,g1,g2,fun h=>?_,g4,g5⟩,fun⟨i,g1,g2,g3,g4⟩=>⟨i,g1,g2,fun h=>g3 (hupD h),g4⟩⟩);rcases(qhi R.perm V.size hjm (by omega)).1 h with h|rfl
        ·exact g3 h
        ·rw[hh]at g5;omega
       cases hoj:qer P rows nt ops pm j with
       |false=>exact hfuel _ _ (V.next R ho hj hlt hall hEj hsl hq1 (hqf hoj) (hds q (by have:=R.le;omega)) hN hSq (qf1 hE o.dst hd1)) (by rw[qcc];exact hdf)
       |true=>
         rcases Nat.lt_or_ge j q with hjq|hjq
         ·refine hfuel _ _ (V.next R ho hj hlt hall hEj hsl hq1 (hqo hoj q hjq (nR0 _) fun i h1 h2=>by omega) (hds q (by have:=R.le;omega)) hN hSq (qf1 hE o.dst hd1)) (by rw[qcc];exact hdf)
         · have hpass:=R.pass (n:=j - q) (q:=q) (L:=L) (w:=w) (I:=I) (ρ:=ρ) hD0 (by omega) fun i h1 h2=>hahead j (by omega) hoj (.inl (nR0 _)) i h1 (by omega);rw[show q+(j - q)=j by omega]at hpass;obtain⟨hd,hsm⟩:=hpass;have hSj:=hsm hSq
           have hd1':DS P rows nt ops pm H D L (j+1)=DS P rows nt ops pm H D L j:=by
            funext k
            apply propext;unfold DS;rw[hh];refine and_congr Iff.rfl (not_congr ⟨fun⟨i,g1,g2,g3,g4,g5⟩=>⟨i,?_,g2,g3,g4,g5⟩,fun⟨i,g1,g2⟩=>⟨i,by omega,g2⟩⟩);rcases Nat.lt_or_ge i j with h|h
            ·exact h
            · have:i=j:=by omega
              subst this;rw[hh]at g5;omega
           rw[←hd]at hN hE;refine hfuel _ _ (V.next R ho hj hlt hall hEj hsl (q:=j+1) hlt (hqo hoj (j+1) (by omega) (by omega) fun i h1 h2 hne hio=>(hahead j (by omega) hoj (.inl (nR0 _)) i h1 (by omega) hio).1) (D':=DS P rows nt ops pm H D L j) ?_ hN (by rw[hh];exact hSj) (qf1 hE o.dst hd1)) (by rw[qcc];exact hdf);rw[←hds (j+1) (by have:=R.le;omega),hd1']
     · have hw':qbk c.guard (E j)=some true:=hw;rw[←hwant,hguard]at hw';have hww:=qcw hE hslot hd2 hw' (o:=o) rfl;rw[if_pos hww];refine .inl ?_;have hEj:E (j+1)=putD (E j) o.dst v:=by rw[he];simp only[hdst]
       have hev':evOp T call c.op (E j) s=some (.val v,s'):=hev;rw[←qj4 hax]at hev';cases hco:qly c.op with
       |true=>
         have hoj:qer P rows nt ops pm j=true:=by rw[hordc];exact hco
         cases hal:qbu c.op with
         |false=>
           have haj:qbv P rows nt ops pm j=false:=by rw[hallc];exact hal
           have hqj:q≤j:=by
            rcases Nat.lt_or_ge j q with h1|h1
            ·exact absurd ((hq2 j hjm hoj).2 haj h1) hj
            ·exact h1
           have hpass:=R.pass (n:=j - q) (q:=q) (L:=L) (w:=w) (I:=I) (ρ:=ρ) hD0 (by omega) fun i h1 h2=>hahead j (by omega) hoj (.inl (nR0 _)) i h1 (by omega);rw[show q+(j - q)=j by omega]at hpass;obtain⟨hd,hsm⟩:=hpass;have hSj:=hsm hSq;rw[←hd]at hE htrans;have st:=qdy hS hev';rw[hop]at hev';refine qg9 hT hC (s:=s) (by rw[hs];exact hSj) hE hev' (fun p' hp=>?_) (fun p' hp=>by cases hp);cases hp;intro u w1 I1 ρ1 N1 S1 V1;have hN1:=htrans N1;have hE1:=((hE.next N1).put o.dst hd1 V1);have S2:Sim w1 I1 (ext (DS P rows nt ops pm H D L j) s.h.length s'.h.length) ρ1 (H (j+1)):=by rw[←hs'];exact S1
           refine hfuel _ _ (V.next R ho hj hlt hall hEj hsl (q:=j+1) hlt (hqo hoj (j+1) (by omega) (by omega) fun i h1 h2 hne hio=>(hahead j (by omega) hoj (.inl (nR0 _)) i h1 (by omega) hio).1) ?_ hN1 S2 hE1) (by rw[qcc];exact hdf);rw[DS_same R.perm V.size hjm (by have:=R.le;omega) haj,hs,hs']
           funext k
           apply propext;have hgr:(H 0).length≤(H j).length:=R.mono (Nat.zero_le _) (by omega);constructor
           · rintro(⟨g1,g2⟩|g)
             · refine⟨g1.imp id fun g=>⟨g.1,by omega⟩,fun⟨i,f1,f2,f3,f4,f5⟩=>?_⟩;rcases Nat.lt_or_ge i j with h|h
               ·exact g2 ⟨i,h,f2,f3,f4,f5⟩
               · have:i=j:=by omega
                 subst this;rw[haj]at f2;cases f2
             · refine⟨.inr ⟨by omega,g.2⟩,fun⟨i,f1,f2,f3,f4,f5⟩=>?_⟩;rcases Nat.lt_or_ge i j with h|h
               · have:=R.mono (i:=i+1) (j:=j) h (by omega);omega
               · have:i=j:=by omega
                 subst this;rw[haj]at f2;cases f2
           · rintro⟨g1,g2⟩;by_cases hk:(H j).length≤k
             · rcases g1 with g1|g1
               ·have:=hD0 k g1;omega
               ·exact .inr ⟨hk,g1.2⟩
             ·refine .inl ⟨g1.imp id fun g=>⟨g.1,by omega⟩,fun⟨i,f1,f2⟩=>g2 ⟨i,by omega,f2⟩⟩
         |true=>
           have haj:qbv P rows nt ops pm j=true:=by rw[hallc];exact hal
           obtain⟨ob,v',hv',he',hob,hany⟩:=qj5 hal hev';cases hv';have hHj:H (j+1)=H j++[ob]:=by rw[←hs',he',←hs];rfl
           obtain⟨Q1,hQ1,hQ2,hQN,hQS,hQa⟩:∃Q1,q≤Q1∧j<Q1∧Q1≤N∧(DS P rows nt ops pm H D L Q1=DS P rows nt ops pm H D L q∧Sim w I (DS P rows nt ops pm H D L Q1) ρ (H Q1))∧
            (∀i,q≤i→i<Q1→qer P rows nt ops pm i=true→qbv P rows nt ops pm i=true):=by
            rcases Nat.lt_or_ge j q with hjq|hjq
            ·exact⟨q,nR0 _,hjq,hq1,⟨rfl,hSq⟩,fun i h1 h2=>by omega⟩
            · have hpass:=R.pass (n:=j+1 - q) (q:=q) (L:=L) (w:=w) (I:=I) (ρ:=ρ) hD0 (by omega) fun i h1 h2=>hahead (j+1) (by omega) hoj (.inr haj) i h1 (by omega);rw[show q+(j+1 - q)=j+1 by omega]at hpass;exact⟨j+1,by omega,by omega,hlt,⟨hpass.1,hpass.2 hSq⟩,fun i h1 h2 hio=>(hahead (j+1) (by omega) hoj (.inr haj) i h1 h2 hio).1⟩
           obtain⟨hdd,hSQ⟩:=hQS;rw[←hdd]at hE htrans;have hev2:=hany (eS.map qig) {s with h:=H j} (fun x hx k n hk=>ints_int hk) (by rw[hs]);rw[hop]at hev2;refine qg9 hT hC (s:={s with h:=H j}) (D:=fun _=>False) (ρ:=ρ) (hSQ.none (H j)) hE.ints hev2 (fun p' hp=>?_) (fun p' hp=>by cases hp);cases hp;intro u w1 I1 ρ1 N1 S1 V1
           have hA:ext (fun _=>False) (H j).length (alloc ob {s with h:=H j}).h.length=fun k=>k=(H j).length:=by
            funext k
            apply propext;simp only[ext,alloc,lA0,List.length_cons,List.length_nil];constructor
            · rintro(h|h)
              ·exact h.elim
              ·omega
            ·exact fun h=>.inr (by omega)
           rw[hA]at N1 S1 V1;have hgr:(H 0).length≤(H j).length:=R.mono (Nat.zero_le _) (by omega);have hgr2:(H (j+1)).length≤(H Q1).length:=R.mono (by omega) hQN;have hl1:(H (j+1)).length=(H j).length+1:=by rw[hHj];simp
           have hole:Hole P rows nt ops pm H L Q1 (H j).length:=⟨j,hQ2,haj,hj,rfl,by omega⟩
           have hcontent:(H Q1)[(H j).length]?=some ob:=by
            have hrd:(H j).length∈Rd j:=by rw[t1];unfold qbb;rw[if_pos hal];simp
            have c2:=R.calm (k:=(H j).length) (n:=Q1 - (j+1)) (i:=j+1) (by omega) (by omega) fun i hi1 hi2 hki=>by
             obtain⟨hoi3,hoi4⟩:=R.wr_ord (i:=i) (fun h=>by rw[h]at hki;cases hki) (by omega)
             have hiq:i<q:=by
              rcases Nat.lt_or_ge i q with h|h
              ·exact h
              ·rw[hQa i h (by omega) hoi3]at hoi4;cases hoi4
             have hli:=(hq2 i (by have:=R.le;omega) hoi3).2 hoi4 hiq;rcases R.pair j i (by omega) (by omega)with hb|⟨ha,_⟩
             ·exact hj (V.closed _ _ hli hb)
             ·exact ha _ hrd hki
            rw[show j+1+(Q1 - (j+1))=Q1 by omega]at c2;rcases c2 ob (by rw[hHj];simp)with h|⟨h,_⟩
            ·exact h
            ·rw[hob]at h;cases h
           obtain⟨m1,m2,m3⟩:=merge (hN:=H Q1) hSQ N1 S1 (fun k hk hn=>by subst hk;exact hn.2 hole) (fun k _=>rfl) (fun k hk=>by subst hk;rw[hcontent];simp[alloc]);have hE1:=((hE.next m1).put o.dst hd1 (m3 _ _ V1));refine hfuel _ _ (V.next R ho hj hlt hall hEj hsl (q:=Q1) hQN (hqo hoj Q1 hQ2 hQ1 fun i h1 h2 hne hio=>hQa i h1 h2 hio) ?_ (htrans m1) m2 hE1) (by rw[qcc];exact hdf)
           funext k
           apply propext;constructor
           · rintro(⟨g1,g2⟩|rfl)
             ·exact⟨g1,fun⟨i,f1,f2,f3,f4⟩=>g2 ⟨i,f1,f2,fun h=>f3 (hupD h),f4⟩⟩
             · refine⟨.inr ⟨hgr,by omega⟩,fun⟨i,f1,f2,f3,f4,f5⟩=>?_⟩;rcases Nat.lt_trichotomy i j with h|rfl|h
               · have:=R.mono (i:=i+1) (j:=j) h (by omega);omega
               ·exact f3 hself
               · have:=R.mono (i:=j+1) (j:=i) h (by omega);omega
           · rintro⟨g1,g2⟩;by_cases hk:k=(H j).length
             ·exact .inr hk
             · refine .inl ⟨g1,fun⟨i,f1,f2,f3,f4,f5⟩=>g2 ⟨i,f1,f2,fun h=>?_,f4,f5⟩⟩;rcases(qhi R.perm V.size hjm (by have:=R.le;omega)).1 h with h|rfl
               ·exact f3 h
               ·exact hk f4.symm
       |false=>
         have hof:qer P rows nt ops pm j=false:=by rw[hordc];exact hco
         have haj:qbv P rows nt ops pm j=false:=by
          cases h:qbv P rows nt ops pm j with
          |false=>rfl
          |true=>rw[qto h]at hof;cases hof
         obtain⟨e1,_,e3⟩:=qjc hco hev'
         have hev2:=e3 {s with h:=H q} fun hl x hx k y hk hy hnt=>by
          rw[hs]at hy
          have hkl:k< (H q).length:=by
           have hx2:=hx;rw[hop]at hx2;rcases qoe x hx2 with⟨z,_,rfl⟩|⟨z,rfl,hz⟩
           ·exact hSq.lt k ((hE.eval z).ref_in hk)
           · rw[hop,hz]at hco;cases hco
          have hrd:k∈Rd j:=by
           rw[t1];unfold qbb;have hna:qbu c.op=false:=by rw[←hallc];exact haj
           rw[if_neg (by simp[hna]),if_pos (by rw[hloud];exact hl)];exact List.mem_filterMap.2 ⟨x,hx,by rw[←hax x hx];exact hk⟩
          have hkj:k< (H j).length:=(gI0.1 hy).1;rcases Nat.le_total q j with hqj|hqj
          · have c2:=R.calm (k:=k) (n:=j - q) (i:=q) (by omega) hkl fun i hi1 hi2 hki=>by
             obtain⟨hoi3,_⟩:=R.wr_ord (i:=i) (fun h=>by rw[h]at hki;cases hki) (by omega);rcases R.pair i j (by omega) hlt with hb|⟨_,ha⟩
             · have h5:=qcy V ho hall hb;have:=(hq2 i (by omega) hoi3).1 h5;omega
             ·exact ha _ hki hrd
            rw[show q+(j - q)=j by omega]at c2;show(H q)[k]?=some y;obtain⟨y',hy'⟩:∃y',(H q)[k]?=some y':=⟨_,gE0 hkl⟩;rcases c2 y' hy' with h|⟨_,y2,h2,h3⟩
            ·rw[hy]at h;cases h;exact hy'
            ·rw[hy]at h3;cases h3;rw[hnt]at h2;cases h2
          · have c2:=R.calm (k:=k) (n:=q - j) (i:=j) (by omega) hkj fun i hi1 hi2 hki=>by
             obtain⟨hoi3,hoi4⟩:=R.wr_ord (i:=i) (fun h=>by rw[h]at hki;cases hki) (by omega);have hli:=(hq2 i (by have:=R.le;omega) hoi3).2 hoi4 (by omega);rcases Nat.eq_or_lt_of_le hi1 with rfl|hji
             ·exact hj hli
             · rcases R.pair j i hji (by omega)with hb|⟨ha,_⟩
               ·exact hj (V.closed _ _ hli hb)
               ·exact ha _ hrd hki
            rw[show j+(q - j)=q by omega]at c2;show(H q)[k]?=some y;rcases c2 y hy with h|⟨h,_⟩
            ·exact h
            ·rw[hnt]at h;cases h
         rw[hop]at hev2;refine qg9 hT hC (s:={s with h:=H q}) hSq hE hev2 (fun p' hp=>?_) (fun p' hp=>by cases hp);cases hp;intro u w1 I1 ρ1 N1 S1 V1;have hx:∀X:Nat→Prop,ext X ({s with h:=H q}:St).h.length ({s with h:=H q}:St).h.length=X:=fun X=>qay X _;rw[hx]at N1 S1 V1;have hE1:=((hE.next N1).put o.dst hd1 V1);exact hfuel _ _ (V.next R ho hj hlt hall hEj hsl hq1 (hqf hof) (DS_same R.perm V.size hjm (by have:=R.le;omega) haj).symm (htrans N1) S1 hE1) (by rw[qcc];exact hdf)
theorem qhp(n i:Nat):(Array.replicate n false).getD i false=false:=by rw[Array.getD_eq_getD_getElem?,Array.getElem?_replicate];split<;>rfl
structure AfterD (w:World)(I:Nat→Nat→Prop)(D:Nat→Prop)(ρ:Nat→Row)(nt:Nat)(ds:List Deferred)(s s':St)(po:Option (PV×Bool))(e':List PV)(Q:Exit→Act→World→Prop):Prop where
 fin:po=none→∀a' w' I' ρ',Nxt w I D ρ w' I' (ext D s.h.length s'.h.length) ρ'→Sim w' I' (ext D s.h.length s'.h.length) ρ' s'.h→EnvR w' I' (ext D s.h.length s'.h.length) ρ' nt e' a'→a'.defers=ds→Q .normal a' w'
 pan:∀p,po=some (p,true)→∀a' w' I' ρ' v,Nxt w I D ρ w' I' (ext D s.h.length s'.h.length) ρ'→Sim w' I' (ext D s.h.length s'.h.length) ρ' s'.h→VR w' I' (ext D s.h.length s'.h.length) ρ' p v→a'.defers=ds→Q (.panic [{v,recovered:=false}]) a' w'
 flo:∀p,po=some (p,false)→∀a' w' I' ρ' Dx v,(∀k,(Dx k∧k<s.h.length)↔D k)→Nxt w I D ρ w' I' Dx ρ'→Sim w' I' Dx ρ' s'.h→VR w' I' Dx ρ' p v→a'.defers=ds→Q (.panic [{v,recovered:=false}]) a' w'
theorem qjb{ds:List Deferred}(hT:∀f p,T.prim f=some p→qev P f p)(hC:qd0 P call)(hS:qa7 call){Q:Exit→Act→World→Prop}
 {e:List PV}{s:St}{a:Act}{w:World}{I:Nat→Nat→Prop}{D:Nat→Prop}{ρ:Nat→Row}{po:Option (PV×Bool)}{e':List PV}{s':St}
 (hback:qjj ops=true)(hperm:qh4 ops.size pm=true)(hslots:qox ops (CheckFast.beforeF ops) pm=true)(hord:ordOk (ops.toList.map (qbl P rows nt ops)) (CheckFast.beforeF ops) pm=true)
 (h:qey T call (qhy ops.size (ops.toList.map (qbl P rows nt ops)) (CheckFast.beforeF ops) pm) [] e s=some (po,e',s'))(S:Sim w I D ρ s.h)(E:EnvR w I D ρ nt e a)
 (hds:a.defers=ds)(A:AfterD w I D ρ nt ds s s' po e' Q):wpAny P .any ops Q ops.size (Array.replicate ops.size false) a {w with drawn:=w.drawn+1}:=by
 obtain⟨N,Ef,H,Rd,Wr,h1,h2,h3,h6,h7⟩:=qkp hS _ _ _ _ _ _ _ h;have hlen:(qhy ops.size (ops.toList.map (qbl P rows nt ops)) (CheckFast.beforeF ops) pm).length=ops.size:=by simp[qhy,(qdj hperm).1]
 rw[hlen]at h1 h7
 have hget:∀i c,(qhy ops.size (ops.toList.map (qbl P rows nt ops)) (CheckFast.beforeF ops) pm)[i]?=some c→∃o c0,ops[pl pm ops.size i]?=some o∧qbl P rows nt ops o=c0∧
  c={c0 with idx:=pl pm ops.size i,bef:=(CheckFast.beforeF ops).getD (pl pm ops.size i) 0,hd:=hdOf ops.size (CheckFast.beforeF ops) pm i}:=by
  intro i c hc;unfold qhy at hc
  have hi:i<pm.length:=by
   rcases Nat.lt_or_ge i pm.length with h|h
   ·exact h
   ·rw[List.getElem?_eq_none (by simpa using h)]at hc;cases hc
  have hpl:pl pm ops.size i=pm[i]:=by simp[pl,hi]
  have hlt:pm[i]<ops.size:=by
   have:=(qdj hperm).2.1 i (by rw[←(qdj hperm).1];exact hi)
   rwa [hpl]at this
  rw[gM0,List.getElem?_zipIdx,gE0 hi]at hc;simp only[Option.map_some,Nat.zero_add,Option.some.injEq]at hc;have hcs:(ops.toList.map (qbl P rows nt ops)).getD pm[i] qpo=qbl P rows nt ops ops[pm[i]]:=by rw[gD0,gM0,Array.getElem?_toList,Array.getElem?_eq_getElem hlt];rfl
  rw[hcs]at hc;exact⟨ops[pm[i]],_,by rw[hpl];exact Array.getElem?_eq_getElem hlt,rfl,by rw[hpl];exact hc.symm⟩
 have R:Run P T call rows nt ops pm N Ef H Rd Wr:=⟨h1,fun i hi=>by
  obtain⟨c,g1,g2,_,_⟩:=h6 i hi;obtain⟨o,c0,k1,k2,rfl⟩:=hget i c g1;exact⟨o,c0,k1,k2,g2⟩,fun i j hij hj=>by
  obtain⟨c,g1,_,_,g4⟩:=h6 j hj;obtain⟨ci,f1,f2⟩:=g4 i hij;obtain⟨o,c0,_,_,rfl⟩:=hget j c g1;obtain⟨oi,ci0,_,_,rfl⟩:=hget i ci f1;exact f2,hback,hperm,hslots,hord⟩
 have S0:Sim {w with drawn:=w.drawn+1} I D ρ (H 0):=by rw[h3];exact S.drawn _
 have tr:∀{w':World}{I':Nat→Nat→Prop}{D':Nat→Prop}{ρ':Nat→Row},Nxt {w with drawn:=w.drawn+1} I D ρ w' I' D' ρ'→Nxt w I D ρ w' I' D' ρ':=
  fun n=>Nxt.trans (fun k hk=>S.blk_lt k hk) (Nxt.drawn (w.drawn+1) (Nat.le_succ _)) n
 have hend:Ends P T call rows nt ops pm N Ef H {w with drawn:=w.drawn+1} I D ρ ds Q:=by
  rcases h7 with⟨g1,g2,g3,g4⟩|⟨p,b,c,t,t',g1,g2,g3,_,g3t,g4,g5,g6,g7,_⟩
  · refine .inl ⟨g2,fun a' w' I' ρ' n1 n2 n3 hd=>?_⟩;rw[h3,←g4]at n1 n2 n3;rw[←g3]at n3;exact A.fin g1 a' w' I' ρ' (tr n1) n2 n3 hd
  · obtain⟨o,c0,k1,k2,rfl⟩:=hget N c g2;refine .inr ⟨o,c0,p,b,t,t',k1,k2,g3,g4,g5,g6,fun hb i hi ha hl=>?_,fun hb a' w' I' ρ' v n1 n2 n3 hd=>?_,fun hb a' w' I' ρ' Dx v hx n1 n2 n3 hd=>?_⟩
    · obtain⟨ck,f1,f2⟩:=g3t hb i hi;obtain⟨oi,ci0,l1,l2,rfl⟩:=hget i ck f1;refine f2 fun hne=>?_;obtain⟨o',c',d1,d2,d3⟩:=R.did i hi;have hal:=(in_op (pm:=pm) d1 d2).2;rw[ha]at hal;rcases d3 with⟨_,_,hh,_⟩|⟨_,v,t1,t2,_,_,_,_,_,hr,_⟩
      ·rw[hh]at hl;omega
      · rw[hne]at hr;unfold qbb at hr;rw[if_pos hal.symm]at hr;cases hr
    · rw[h3,g7]at n1 n2 n3;exact A.pan p (by rw[g1,hb]) a' w' I' ρ' v (tr n1) n2 n3 hd
    · rw[g7]at n2;exact A.flo p (by rw[g1,hb]) a' w' I' ρ' Dx v (fun k=>by rw[←h3];exact hx k) (tr n1) n2 n3 hd
 have hds0:DS P rows nt ops pm H D (Array.replicate ops.size false) 0=D:=by
  funext k
  apply propext;unfold DS;rw[qay];exact⟨fun h=>h.1,fun h=>⟨h,fun⟨i,g,_⟩=>by omega⟩⟩
 refine walk hT hC hS R S0 (by rw[h2];exact E.len) hend ops.size _ _ _ ?_ hds ?_
 · refine⟨by simp,fun i j hj=>?_,fun i hi=>?_,0,I,ρ,e,Nat.zero_le _,fun i hi _=>⟨fun hi=>?_,fun _ hi=>by omega⟩,?_,?_,?_,fun t=>⟨0,Nat.zero_le _,by rw[h2],fun j hj=>by omega,fun j _ _ hi=>?_⟩⟩
   ·rw[qhp]at hj;cases hj
   ·unfold Dn at hi;rw[qhp]at hi;cases hi
   ·unfold Dn at hi;rw[qhp]at hi;cases hi
   ·rw[hds0];exact Nxt.refl _ _ _ _
   ·rw[hds0];exact S0
   ·rw[hds0];exact E.next (Nxt.drawn _ (Nat.le_succ _))
   ·unfold Dn at hi;rw[qhp]at hi;cases hi
 · unfold unl;exact nT0 (List.countP_le_length) (by simp)
end
end Go.AE
namespace Go.AE
open Go
abbrev wr(r:Option Nat):Fence:={Fence.wide with round:=r}
variable {P:Program}
theorem calls_wr{r:Option Nat}{n:Nat}{f:FuncId}{args:Array Value}{w:World}{R:Ending→World→Prop}(h:Calls P f args w R):CallsIn (wr r) n P f args w R:=
 (callsIn_wide (n:=n)).2 h
theorem callsIn_wr{r r':Option Nat}{n n':Nat}{f:FuncId}{args:Array Value}{w:World}{R:Ending→World→Prop}(h:CallsIn (wr r) n P f args w R):CallsIn (wr r') n' P f args w R:=
 ⟨trivial,fun cs _=>h.2 cs (room_wide _)⟩
theorem rows_wr{r:Option Nat}{n:Nat}{row:String}{args:Array Value}{w:World}{R:Value→World→Prop}(h:Rows P row args w R):RowsIn (wr r) n P row args w R:=fun c cs _=>by obtain⟨v,w',h1,h2⟩:=h c cs;exact⟨v,w',h1,stepsIn_wide.2 h2⟩
theorem qi4{r:Option Nat}{n:Nat}{o:Oper}{a:Act}{w:World}{K:Act→World→Prop}{Q:Exit→Act→World→Prop}(hd:r=none∨∀c,o.op≠.defer c)(h:o.wp P a w K Q):o.wpIn (wr r) n P a w K Q:=by
 refine⟨fun _ _=>trivial,?_⟩
 have e:Oper.semAt (wr r).round a.eval o=execOp a.eval o:=by
  rcases hd with rfl|hd
  ·rfl
  ·exact Oper.semAt_eq _ _ _ hd
 rw[e];unfold Oper.wp at h;generalize(execOp a.eval o).run P w=x at h;unfold Oper.upon at h;split at h
 ·exact h
 ·exact h
 ·exact h
 ·exact⟨(fun h=>by cases h),calls_wr h⟩
 ·exact⟨(fun h=>by cases h),rows_wr h⟩
 ·exact h
 ·exact h.elim
theorem qi3{r:Option Nat}{n:Nat}{ops:Array Oper}{Q:Exit→Act→World→Prop}(hd:r=none∨∀(i:Nat)(o:Oper),ops[i]?=some o→∀c,o.op≠.defer c)(hQ:∀a w,¬Q .outgrown a w):
 ∀(l:List Nat)(a:Act)(w:World),wpOps P ops Q l a w→wpOpsIn (wr r) n P ops Q l a w
 |[],a,w,h=>h
 |i::rest,a,w,h=>by
   simp only[wpOps]at h;simp only[wpOpsIn];cases ho:ops[i]? with
   |none=>rw[ho]at h;exact qi3 hd hQ rest a w h
   |some o=>
     rw[ho]at h;simp only at h⊢;split at h
     next hw=>
       rw[if_pos hw];refine qi4 (hd.imp id fun hd=>hd i o ho) ?_;rcases h with h|⟨_,a0,w0,h⟩
       ·exact Oper.wp_mono (fun a w h=>qi3 hd hQ rest a w h) h
       ·grind
     next hw=>
       rw[if_neg hw];exact⟨fun _ _=>trivial,qi3 hd hQ rest _ _ h⟩
theorem qgl{r:Option Nat}{n:Nat}{ops:Array Oper}{md:Region.Mode}{Q:Exit→Act→World→Prop}(hd:r=none∨∀(i:Nat)(o:Oper),ops[i]?=some o→∀c,o.op≠.defer c)(hQ:∀a w,¬Q .outgrown a w):
 ∀(fuel:Nat)(L:Array Bool)(a:Act)(w:World),wpAny P md ops Q fuel L a w→wpAnyIn (wr r) n P md ops Q fuel L a w
 |0,L,a,w,h=>h
 |fuel+1,L,a,w,h=>by
   refine⟨h.1,fun i hi=>?_⟩;have h:=h.2 i hi;unfold wpOp at h;unfold wpOpIn;cases ho:ops[i]? with
   |none=>rw[ho]at h;exact qgl hd hQ fuel _ a w h
   |some o=>
     rw[ho]at h;simp only at h⊢;split at h
     next hw=>
       rw[if_pos hw];refine qi4 (hd.imp id fun hd=>hd i o ho) ?_;rcases h with h|⟨_,a0,w0,h⟩
       ·exact Oper.wp_mono (fun a w h=>qgl hd hQ fuel _ a w h) h
       ·grind
     next hw=>
       rw[if_neg hw];exact⟨fun _ _=>trivial,qgl hd hQ fuel _ _ _ h⟩
end Go.AE
namespace Go.AE
open Go
theorem qce:∀l:List PV,qaq l=l.map PV.weak
 |[]=>rfl
 |x::xs=>by simp[qaq,qce xs]
theorem qcz:∀l:List PV,qas l=true↔∀x∈l,x.pure=true
 |[]=>by simp[qas]
 |x::xs=>by simp[qas,qcz xs]
theorem qf8(p:PV):p.weak.cells=p.cells.map PV.weak:=by cases p<;>simp[PV.weak,PV.cells,qce]
theorem qrb(es:List PV):flat (es.map PV.weak)=(flat es).map PV.weak:=by
 induction es with
 |nil=>rfl
 |cons e es ih=>rw[List.map_cons,qbg,qbg,List.map_append,qf8,ih]
theorem qc3(l:List PV)(j:Nat):(l.map PV.weak).getD j .undef=(l.getD j .undef).weak:=by simp only[gD0,gM0];cases l[j]? <;>rfl
theorem qjy{p:PV}(h:p.pure=true):∀x∈p.cells,x.pure=true:=by
 cases p with
 |agg cs=>exact(qcz cs).1 h
 |_=>intro x hx;simp[PV.cells]at hx;subst hx;exact h
theorem pure_flat{es:List PV}(h:qas es=true):∀x∈flat es,x.pure=true:=by intro x hx;obtain⟨y,hy,hxy⟩:=List.mem_flatMap.1 hx;exact qjy ((qcz es).1 h y hy) x hxy
theorem qc0{l:List PV}(h:∀x∈l,x.pure=true)(j:Nat):(l.getD j .undef).pure=true:=by
 by_cases hj:j<l.length
 ·grind
 ·rw[qaz l j _ hj];rfl
section
variable {w:World}{I:Nat→Nat→Prop}{D:Nat→Prop}{ρ:Nat→Row}
theorem VR.pureWeak{D2:Nat→Prop}{ρ2:Nat→Row}{p:PV}{v:Value}(h:VR w I D ρ p v):p.pure=true→VR w I D2 ρ2 p.weak v:=by
 induction h with
 |undef v=>exact fun _=>.undef v
 |bool b=>exact fun _=>.bool b
 |int k n=>exact fun _=>.int k n
 |str s=>exact fun _=>.str s
 |slice sz es m a cap b o vs hsz hm hne hcap hlen hat hv ih=>
   intro hp;have hp':qas es=true:=by simpa[PV.pure]using hp
   simp only[PV.weak,qce]
   have key:=VR.slice (w:=w) (I:=I) (D:=D2) (ρ:=ρ2) sz (es.map PV.weak) .any a cap b o vs (fun e he=>by
    obtain⟨x,hx,rfl⟩:=mM0.1 he;rw[qf8];simpa using hsz x hx) trivial (fun hn=>hne (by rintro rfl;simp at hn)) (by simpa using hcap) (by rw[qrb];simpa using hlen) hat
    (fun j=>by rw[qrb,qc3];exact ih j (qc0 (pure_flat hp') j))
   simpa using key
 |aref=>intro hp;simp[PV.pure]at hp
 |ptr=>intro hp;simp[PV.pure]at hp
 |iptr c off b o vs hlen hat hv ih=>
   intro hp;have hp':c.pure=true:=by simpa[PV.pure]using hp
   exact .iptr c.weak off b o vs (by rw[qf8];simpa using hlen) hat fun j=>by rw[qf8,qc3];exact ih j (qc0 (qjy hp') j)
 |nilptr=>exact fun _=>.nilptr
 |mapNil=>exact fun _=>.mapNil
 |map=>intro hp;simp[PV.pure]at hp
 |func fn f c fv cv hf hc hfv hcv ih1 ih2=>
   intro hp;simp only[PV.pure,bA0]at hp;simp only[PV.weak,qce];exact .func fn _ _ fv cv (by simpa using hf) (by simpa using hc) (fun j=>by rw[qc3];exact ih1 j (qc0 ((qcz f).1 hp.1) j)) (fun j=>by rw[qc3];exact ih2 j (qc0 ((qcz c).1 hp.2) j))
 |nilFunc=>exact fun _=>.nilFunc
 |iface t p v h ih=>exact fun hp=>.iface t _ _ (ih (by simpa[PV.pure]using hp))
 |nilIface=>exact fun _=>.nilIface
 |agg cs vs hlen hv ih=>
   intro hp;simp only[PV.pure]at hp;simp only[PV.weak,qce];exact .agg _ vs (by simpa using hlen) fun j=>by rw[qc3];exact ih j (qc0 ((qcz cs).1 hp) j)
 |tuple ps vs hlen hv ih=>
   intro hp;simp only[PV.pure]at hp;simp only[PV.weak,qce];exact .tuple _ vs (by simpa using hlen) fun j=>by rw[qc3];exact ih j (qc0 ((qcz ps).1 hp) j)
theorem qfq{h:List Obj}{n0 n:Nat}{l r:List PV}(hl:qbs (l.map (frz h n0 n))=some r):r.length=l.length∧∀j,j<l.length→frz h n0 n (l.getD j .undef)=some (r.getD j .undef):=by have h1:=qge hl;refine⟨by simpa using h1,fun j hj=>?_⟩;have h2:=qnx hl j (by simpa using hj);simp only[gM0,oM0]at h2;obtain⟨x,hx,he⟩:=h2;rw[gD0,hx];exact he
theorem qmb{h:List Obj}{n0:Nat}:∀{n:Nat}{p p':PV},frz h n0 n p=some p'→p'.cells.length=p.cells.length∧∀j,j<p.cells.length→∃m,m≤n∧frz h n0 m (p.cells.getD j .undef)=some (p'.cells.getD j .undef)
 |0,p,p',hf=>by simp[frz]at hf
 |n+1,p,p',hf=>by
   have hf0:=hf;simp only[frz]at hf;split at hf
   next hp=>
     cases hf;rw[qf8];refine⟨by simp,fun j hj=>⟨n+1,nR0 _,?_⟩⟩;rw[qc3];simp only[frz];rw[if_pos (qc0 (qjy hp) j)]
   · cases p with
     |agg cs=>
       simp only[oM0]at hf;obtain⟨l,hl,rfl⟩:=hf;obtain⟨h1,h2⟩:=qfq hl;exact⟨h1,fun j hj=>⟨n,by omega,h2 j hj⟩⟩
     |_=>
       have hna:∀cs,p'≠.agg cs:=by
        rintro cs rfl
        try simp only at hf
        all_goals(repeat' split at hf)
        all_goals first
         |(cases hf;done)
         |contradiction
         |(simp at hf;done)
       have hc:p'.cells=[p']:=by cases p'<;>first|rfl|exact absurd rfl (hna _)
       rw[hc];refine⟨rfl,fun j hj=>?_⟩;have hj0:j=0:=by simpa[PV.cells]using hj
       subst hj0;exact⟨n+1,nR0 _,hf0⟩
theorem qpb{h:List Obj}{n0 n:Nat}:∀{es l:List PV},l.length=es.length→(∀j,j<es.length→frz h n0 n (es.getD j .undef)=some (l.getD j .undef))→
 (flat l).length=(flat es).length∧(∀j,j< (flat es).length→∃m,m≤n∧frz h n0 m ((flat es).getD j .undef)=some ((flat l).getD j .undef))∧∀sz,(∀e∈es,e.cells.length=sz)→∀e∈l,e.cells.length=sz
 |[],l,hl,_=>by
   have:l=[]:=List.eq_nil_of_length_eq_zero (by simpa using hl);subst this;exact⟨rfl,fun j hj=>by simp[flat]at hj,fun _ _ _ he=>by simp at he⟩
 |e::es,[],hl,_=>by simp at hl
 |e::es,x::l,hl,hj=>by
   have h0:=hj 0 (by simp);simp at h0;obtain⟨c1,c2⟩:=qmb h0;obtain⟨i1,i2,i3⟩:=qpb (es:=es) (l:=l) (by simpa using hl) (fun j hjj=>by simpa using hj (j+1) (by simpa using hjj));refine⟨by rw[qbg,qbg,lA0,lA0,c1,i1],fun j hjj=>?_,fun sz hsz y hy=>?_⟩
   · rw[qbg,qbg];rw[qbg,lA0]at hjj;simp only[gD0,List.getElem?_append,c1];split
     ·grind
     ·grind
   · rcases mN0.1 hy with rfl|hy
     ·grind
     ·simp_all
def qcv(I:Nat→Nat→Prop)(D:Nat→Prop)(ρ:Nat→Row)(n0:Nat):Nat→Nat→Prop:=fun b o=>I b o∨∃k,D k∧n0≤k∧b=(ρ k).blk
theorem qq9{h:List Obj}{n0:Nat}(S:Sim w I D ρ h):∀(n:Nat){p p':PV}{v:Value},frz h n0 n p=some p'→VR w I D ρ p v→VR w (qcv I D ρ n0) (fun k=>D k∧k<n0) ρ p' v:=by
 intro n;induction n using Nat.strongRecOn with
 |_ n ih=>
   intro p p' v hf hv;cases n with
   |zero=>simp[frz]at hf
   |succ n=>
     have cellsOf:∀{l r:List PV}{us:List Value},(∀j,j<l.length→∃m,m<n+1∧frz h n0 m (l.getD j .undef)=some (r.getD j .undef))→r.length=l.length→(∀j,VR w I D ρ (l.getD j .undef) (us.getD j undef))→
      ∀j,VR w (qcv I D ρ n0) (fun k=>D k∧k<n0) ρ (r.getD j .undef) (us.getD j undef):=by
      intro l r us h1 h2 h3 j;by_cases hj:j<l.length
      ·grind
      ·rw[qaz r j _ (by omega)];exact .undef _
     have hheld:∀{b o:Nat}{vs:List Value},Held w I b o vs→Held w (qcv I D ρ n0) b o vs:=fun hh j u hj=>⟨.inl (hh j u hj).1,(hh j u hj).2⟩;simp only[frz]at hf;split at hf
     next hp=>
       cases hf;exact(VR.pureWeak (D2:=fun k=>D k∧k<n0) (ρ2:=ρ) hv hp).carry (fun b o hi=>⟨.inl hi,rfl⟩) (fun _ h=>h) (fun _ _=>⟨nR0 _,fun _=>rfl⟩)
     · cases hv with
       |undef=>simp at hf
       |bool=>simp at hf
       |int=>simp at hf
       |str=>simp at hf
       |nilptr=>simp at hf
       |mapNil=>simp at hf
       |nilFunc=>simp at hf
       |nilIface=>simp at hf
       |slice sz es m A cap b oo vs hsz hm hne hcap hlen hat hvv=>
         simp only[oM0]at hf;obtain⟨l,hl,rfl⟩:=hf;obtain⟨l1,l2⟩:=qfq hl;obtain⟨f1,f2,f3⟩:=qpb l1 l2
         have key:=VR.slice (w:=w) (I:=qcv I D ρ n0) (D:=fun k=>D k∧k<n0) (ρ:=ρ) sz l .any A cap b oo vs (f3 sz hsz) trivial (fun hn=>hne (by rintro rfl;exact hn (List.eq_nil_of_length_eq_zero (by simpa using l1)))) (by rw[l1];exact hcap) (by rw[f1];exact hlen) (hheld hat)
          (cellsOf (fun j hj=>by obtain⟨m,h1,h2⟩:=f2 j hj;exact⟨m,by omega,h2⟩) f1 hvv)
         rw[l1]at key;exact key
       |aref k asz off len tip A cap hD htip hs hlc hA=>
         simp only at hf;split at hf
         next hk=>
           cases hf;exact .aref k asz off len tip A cap ⟨hD,hk⟩ htip hs hlc hA
         next hk=>
           split at hf
           next sz es hkk=>
             split at hf
             next hc=>
               obtain⟨rfl,hfit⟩:=hc;simp only[oM0]at hf;obtain⟨l,hl,rfl⟩:=hf;obtain⟨l1,l2⟩:=qfq hl;obtain⟨f1,f2,f3⟩:=qpb l1 l2;obtain⟨g1,g2,g3,g4,_,c,E,fr,g6,g7,_,g9⟩:=S.obj k _ hD hkk;obtain⟨_,_,a3,a4⟩:=hA g1;have hln:((es.drop off).take len).length=len:=by simp;omega
               have hfl:=qax g4;have hsub:off*sz+len*sz≤es.length*sz:=by rw[←Nat.add_mul];exact Nat.mul_le_mul_right _ hfit
               have hcp:es.length*sz≤(ρ k).cap*sz:=Nat.mul_le_mul_right _ g3;have hft:flat ((es.drop off).take len)=((flat es).drop (off*sz)).take (len*sz):=by rw[qes _ _ (fun e he=>g4 e (List.mem_of_mem_drop he)),qet _ _ g4]
               have hasz:asz=sz:=by rw[←a3,g2]
               have key:=VR.slice (w:=w) (I:=qcv I D ρ n0) (D:=fun k=>D k∧k<n0) (ρ:=ρ) sz l .any A cap (ρ k).blk (off*sz) ((c.toList.drop (off*sz)).take (len*sz))
                (f3 sz (fun e he=>g4 e (List.mem_of_mem_drop (List.mem_of_mem_take he)))) trivial (fun hn=>by
                 rw[a4 (.inl ?_),hasz];rcases Nat.eq_zero_or_pos len with h0|h0
                 ·grind
                 ·exact h0) (by rw[l1,hln];exact hlc) (by rw[f1,hft];simp;omega) (fun j u hj=>?_) (cellsOf (fun j hj=>by obtain⟨m,h1,h2⟩:=f2 j hj;exact⟨m,by omega,h2⟩) f1 (fun j=>?_))
               ·grind
               · refine⟨.inr ⟨k,hD,by omega,rfl⟩,?_⟩;simp only[List.getElem?_take,List.getElem?_drop,Array.getElem?_toList]at hj;split at hj
                 ·rw[cell_of_row w _ _ c E fr g6];exact hj
                 ·grind
               · rw[hft];by_cases hj:j<len*sz
                 ·simp_all
                 ·rw[qaz _ j _ (by simp;omega)];exact .undef _
             ·grind
           ·grind
       |ptr k i off tip A hD htip hA=>
         simp only at hf;split at hf
         next hk=>
           cases hf;exact .ptr k i off tip A ⟨hD,hk⟩ htip hA
         next hk=>
           split at hf
           next sz es hkk=>
             split at hf
             next ht=>
               split at hf
               next c hci=>
                 simp only[oM0]at hf;obtain⟨c',hc',rfl⟩:=hf;have hok:=S.obj k _ hD hkk;obtain⟨vs,v1,v2,v3,_⟩:=row_elem hok hci;have hA':=hA (by rw[hok.1,ht]);subst hA';rw[hok.2.1];obtain⟨c1,c2⟩:=qmb hc';exact .iptr c' off (ρ k).blk (i*sz) vs (by rw[c1];exact v1) (fun j u hj=>⟨.inr ⟨k,hD,by omega,rfl⟩,v2 j u hj⟩) (cellsOf (fun j hj=>by obtain⟨m,h1,h2⟩:=c2 j hj;exact⟨m,by omega,h2⟩) c1 v3)
               ·grind
             ·grind
           ·grind
       |iptr c off b oo vs hlen hat hvv=>
         simp only[oM0]at hf;obtain⟨c',hc',rfl⟩:=hf;obtain⟨c1,c2⟩:=qmb hc';exact .iptr c' off b oo vs (by rw[c1];exact hlen) (hheld hat) (cellsOf (fun j hj=>by obtain⟨m,h1,h2⟩:=c2 j hj;exact⟨m,by omega,h2⟩) c1 hvv)
       |map k rr hD hrr=>
         simp only at hf;split at hf
         next hk=>
           cases hf;exact .map k rr ⟨hD,hk⟩ hrr
         ·cases hf
       |func fn f c fv cv hfl hcl hfv hcv=>
         simp only at hf;split at hf
         next f' c' hf' hc'=>
           cases hf;obtain⟨l1,l2⟩:=qfq hf';obtain⟨m1,m2⟩:=qfq hc';exact .func fn f' c' fv cv (by rw[l1];exact hfl) (by rw[m1];exact hcl) (cellsOf (fun j hj=>⟨n,by omega,l2 j hj⟩) l1 hfv) (cellsOf (fun j hj=>⟨n,by omega,m2 j hj⟩) m1 hcv)
         ·cases hf
       |iface t q u hu=>
         simp only[oM0]at hf;obtain⟨q',hq',rfl⟩:=hf;exact .iface t q' u (ih n (by omega) hq' hu)
       |agg cs vs hlen hvv=>
         simp only[oM0]at hf;obtain⟨l,hl,rfl⟩:=hf;obtain⟨l1,l2⟩:=qfq hl;exact .agg l vs (by rw[l1];exact hlen) (cellsOf (fun j hj=>⟨n,by omega,l2 j hj⟩) l1 hvv)
       |tuple ps vs hlen hvv=>
         simp only[oM0]at hf;obtain⟨l,hl,rfl⟩:=hf;obtain⟨l1,l2⟩:=qfq hl;exact .tuple l vs (by rw[l1];exact hlen) (cellsOf (fun j hj=>⟨n,by omega,l2 j hj⟩) l1 hvv)
end
end Go.AE
namespace Go.AE
open Go
structure Stp (X:Nat→Prop)(w:World)(I:Nat→Nat→Prop)(w':World)(I':Nat→Nat→Prop):Prop where
 os:w'.os=w.os
 tape:w'.tape=w.tape∧w.drawn≤w'.drawn
 output:w'.output=w.output
 size:w.heap.size≤w'.heap.size
 keep:∀b,b<w.heap.size→¬X b→w'.heap[b]?=w.heap[b]?
 immI:∀b o,I b o→I' b o
 immC:∀b o,I b o→w'.cell? ⟨b,o,none⟩=w.cell? ⟨b,o,none⟩
 immN:∀b o,I' b o→I b o∨w.heap.size≤b∨X b
def qgz(D:Nat→Prop)(ρ:Nat→Row)(b:Nat):Prop:=∃k,D k∧b=(ρ k).blk
section
variable {w:World}{I:Nat→Nat→Prop}{D:Nat→Prop}{ρ:Nat→Row}{w':World}{I':Nat→Nat→Prop}{D':Nat→Prop}{ρ':Nat→Row}{X Y:Nat→Prop}{h:List Obj}
theorem Nxt.stp(N:Nxt w I D ρ w' I' D' ρ'):Stp (qgz D ρ) w I w' I':=
 ⟨N.os,N.tape,N.output,N.size,fun b hb hx=>N.keep b hb fun k hk e=>hx ⟨k,hk,e⟩,N.immI,N.immC,N.immN⟩
theorem Stp.refl(w:World)(I:Nat→Nat→Prop):Stp X w I w I:=⟨rfl,⟨rfl,nR0 _⟩,rfl,nR0 _,fun _ _ _=>rfl,fun _ _ h=>h,fun _ _ _=>rfl,fun _ _ h=>.inl h⟩
theorem Stp.mono(h:Stp X w I w' I')(hX:∀b,X b→Y b∨w.heap.size≤b):Stp Y w I w' I':=
 ⟨h.os,h.tape,h.output,h.size,fun b hb hy=>h.keep b hb fun hx=>(hX b hx).elim hy (by omega),h.immI,h.immC,fun b o hi=>by
  rcases h.immN b o hi with h|h|h
  ·exact .inl h
  ·omega
  ·exact(hX b h).elim (fun h=>.inr (.inr h)) (fun h=>.inr (.inl h))⟩
theorem Stp.trans{w'':World}{I'':Nat→Nat→Prop}(h:Stp X w I w' I')(h':Stp Y w' I' w'' I'')(hY:∀b,Y b→X b∨w.heap.size≤b):Stp X w I w'' I'' where
 os:=h'.os.trans h.os
 tape:=⟨h'.tape.1.trans h.tape.1,nT0 h.tape.2 h'.tape.2⟩
 output:=h'.output.trans h.output
 size:=nT0 h.size h'.size
 keep b hb hx:=(h'.keep b (Nat.lt_of_lt_of_le hb h.size) fun hy=>(hY b hy).elim hx (by omega)).trans (h.keep b hb hx)
 immI b o hi:=h'.immI _ _ (h.immI _ _ hi)
 immC b o hi:=(h'.immC _ _ (h.immI _ _ hi)).trans (h.immC _ _ hi)
 immN b o hi:=by
  rcases h'.immN b o hi with h1|h1|h1
  ·exact h.immN b o h1
  ·exact .inr (.inl (nT0 h.size h1))
  ·grind
theorem VR.stp(s:Stp X w I w' I'){p:PV}{v:Value}(h:VR w I D ρ p v):VR w' I' D ρ p v:=
 h.carry (fun b o hi=>⟨s.immI b o hi,s.immC b o hi⟩) (fun _ h=>h) fun _ _=>⟨nR0 _,fun _=>rfl⟩
theorem VRs.stp(s:Stp X w I w' I'){ps:List PV}{vs:List Value}(h:VRs w I D ρ ps vs):VRs w' I' D ρ ps vs:=⟨h.1,fun j=>(h.2 j).stp s⟩
theorem EnvR.stp(s:Stp X w I w' I'){nt:Nat}{e:List PV}{a:Act}(h:EnvR w I D ρ nt e a):EnvR w' I' D ρ nt e a:=⟨h.size,h.len,fun t=>(h.at_ t).stp s⟩
theorem Sim.stp(S:Sim w I D ρ h)(s:Stp X w I w' I')(hX:∀k,D k→¬X (ρ k).blk)(him:∀b o,I' b o→b<w'.heap.size):Sim w' I' D ρ h where
 lt:=S.lt
 obj k o hk ho:=by
  have hb:=S.blk_lt k hk;refine(S.obj k o hk ho).carry (fun b o hi=>⟨s.immI b o hi,s.immC b o hi⟩) (fun _ h=>h) (fun _ _=>⟨nR0 _,fun _=>rfl⟩) rfl (s.keep _ hb (hX k hk)) fun o' ho'=>?_;rcases s.immN _ _ ho' with h|h|h
  ·exact h
  ·omega
  ·grind
 inj:=S.inj
 imm:=him
theorem Nxt.stp_after(N:Nxt w I D ρ w' I' D' ρ'){w'':World}{I'':Nat→Nat→Prop}(s:Stp X w' I' w'' I'')(hX:∀b,X b→w.heap.size≤b):Nxt w I D ρ w'' I'' D' ρ' where
 os:=s.os.trans N.os
 tape:=⟨s.tape.1.trans N.tape.1,nT0 N.tape.2 s.tape.2⟩
 output:=s.output.trans N.output
 size:=nT0 N.size s.size
 keep b hb hk:=(s.keep b (Nat.lt_of_lt_of_le hb N.size) fun hx=>by have:=hX b hx;omega).trans (N.keep b hb hk)
 immI b o hi:=s.immI _ _ (N.immI _ _ hi)
 immC b o hi:=(s.immC _ _ (N.immI _ _ hi)).trans (N.immC _ _ hi)
 immN b o hi:=by
  rcases s.immN b o hi with h|h|h
  ·exact N.immN b o h
  ·exact .inr (.inl (nT0 N.size h))
  ·grind
 dom:=N.dom
 rho:=N.rho
 blk:=N.blk
 blkN:=N.blkN
theorem Sim.kind(S:Sim w I D ρ h){k:Nat}(hk:D k):(∃c E fr,w.heap[(ρ k).blk]?=some (.cells c E fr))∨∃e c,w.heap[(ρ k).blk]?=some (.map e c):=by
 have hl:=S.lt k hk;have ho:=S.obj k h[k] hk (by simp[hl]);cases hob:h[k]with
 |row sz es=>rw[hob]at ho;obtain⟨_,_,_,_,_,c,E,fr,hc,_⟩:=ho;exact .inl ⟨_,_,_,hc⟩
 |tok sz m=>rw[hob]at ho;obtain⟨_,_,_,_,c,E,fr,hc,_⟩:=ho;exact .inl ⟨_,_,_,hc⟩
 |map es=>rw[hob]at ho;obtain⟨_,_,ents,cl,hc,_⟩:=ho;exact .inr ⟨_,_,hc⟩
theorem qhk{r:Nat}{o o':Go.Obj}(ho:w.heap[r]?=some o)(hc:∀c E fr,o≠.cells c E fr)(hc':∀c E fr,o'≠.cells c E fr)(hI:∀o,¬I r o):Stp (fun b=>b=r) w I (w.putObj r o') I where
 os:=rfl
 tape:=⟨rfl,nR0 _⟩
 output:=rfl
 size:=by simp
 keep b _ hb:=World.putObj_heap_other hb
 immI _ _ h:=h
 immC b o h:=by have:b≠r:=fun e=>hI o (e▸h);unfold World.cell?;simp only[World.putObj_heap_other this]
 immN _ _ h:=.inl h
theorem qix(o:Go.Obj)(him:∀b o,I b o→b<w.heap.size):Stp X w I (w.alloc o) I where
 os:=rfl
 tape:=⟨rfl,nR0 _⟩
 output:=rfl
 size:=by simp
 keep b hb _:=Go.RowKit.Below.heap_alloc w o b hb
 immI _ _ h:=h
 immC b o h:=by unfold World.cell?;simp only[Go.RowKit.Below.heap_alloc w _ b (him b o h)]
 immN _ _ h:=.inl h
end
structure Marks (base:Nat)(w:World)(I:Nat→Nat→Prop)(D:Nat→Prop)(ρ:Nat→Row)(ds:List Deferred):Prop where
 nodup:(ds.map fun d=>d.target).Nodup
 at_:∀d∈ds,∃b,d={target:=.collected b,args:=#[]}∧w.heap[b]?=some (.deferred (some []))∧base≤b∧(∀o,¬I b o)∧∀k,D k→(ρ k).blk≠b
section
variable {base:Nat}{w:World}{I:Nat→Nat→Prop}{D:Nat→Prop}{ρ:Nat→Row}{w':World}{I':Nat→Nat→Prop}{D':Nat→Prop}{ρ':Nat→Row}{ds:List Deferred}
theorem Marks.nil:Marks base w I D ρ []:=⟨List.nodup_nil,fun _ h=>by cases h⟩
theorem Marks.next(n:Nxt w I D ρ w' I' D' ρ')(h:Marks base w I D ρ ds):Marks base w' I' D' ρ' ds:=by
 refine⟨h.nodup,fun d hm=>?_⟩;obtain⟨b,h1,h2,h0,h4,h3⟩:=h.at_ d hm;have hb:b<w.heap.size:=(Array.getElem?_eq_some_iff.1 h2).1;refine⟨b,h1,(n.keep b hb fun k hk e=>h3 k hk e.symm).trans h2,h0,fun o ho=>?_,fun k hk=>?_⟩
 · rcases n.immN b o ho with h|h|⟨k,hk,e⟩
   ·exact h4 o h
   ·omega
   ·grind
 · by_cases hd:D k
   · rcases n.blk k hd with h|h
     ·grind
     ·omega
   · have:=n.blkN k hk hd;omega
end
end Go.AE
namespace Go.AE
open Go
abbrev Log:=List (Nat×List PV)
abbrev Yss:=List (List PV)
def yOp(T:Tbl)(call:FuncId→List PV→List Obj→Option qam)(b:Nat→Bool)(o:AOp)(e:List PV)(s:St)(g:Log):Option (PV×St×Log):=
 match o with
 |.call f args=>match ax e f with
   |.func (.yield l') [] []=>if qas (args.map (ax e))=true then some (.bool (b g.length),s,g++[(l',qaq (args.map (ax e)))])else none
   |_=>match evOp T call (.call f args) e s with
     |some (.val v,s')=>some (v,s',g)
     |_=>none
 |.nilCheck x=>match ax e x with
   |.func (.yield l') [] []=>some (.func (.yield l') [] [],s,g)
   |_=>match evOp T call (.nilCheck x) e s with
     |some (.val v,s')=>some (v,s',g)
     |_=>none
 |o=>match evOp T call o e s with
   |some (.val v,s')=>some (v,s',g)
   |_=>none
def yOps(T:Tbl)(call:FuncId→List PV→List Obj→Option qam)(b:Nat→Bool):List AOper→List PV→St→Log→Option (List PV×St×Log)
 |[],e,s,g=>some (e,s,g)
 |o::os,e,s,g=>
   match qbk o.guard e with
   |none=>none
   |some false=>yOps T call b os (putD e o.dst (.tuple [])) s g
   |some true=>match yOp T call b o.op e s g with
     |some (v,s',g')=>yOps T call b os (putD e o.dst v) s' g'
     |none=>none
def qh2(f:List PV→St→Log→Option (AExit×List PV×St×Log)):Nat→List PV→St→Log→Option (AExit×List PV×St×Log)
 |0,_,_,_=>none
 |n+1,e,s,g=>match f e s g with
   |some (.normal,e',s',g')=>qh2 f n e' s' g'
   |r=>r
def qbe(T:Tbl)(call:FuncId→List PV→List Obj→Option qam)(b:Nat→Bool)(n:Nat):ACode→List PV→St→Log→Option (AExit×List PV×St×Log)
 |.skip,e,s,g=>some (.normal,e,s,g)
 |.reg ops,e,s,g=>match yOps T call b ops e s g with
   |some (e',s',g')=>some (.normal,e',s',g')
   |none=>none
 |.regD ops,e,s,g=>match qey T call ops [] e s with
   |some (none,e',s')=>some (.normal,e',s',g)
   |_=>none
 |.seq a c,e,s,g=>match qbe T call b n a e s g with
   |some (.normal,e',s',g')=>qbe T call b n c e' s' g'
   |r=>r
 |.cond c x y,e,s,g=>match ax e c with
   |.bool true=>qbe T call b n x e s g
   |.bool false=>qbe T call b n y e s g
   |_=>none
 |.block id c,e,s,g=>match qbe T call b n c e s g with
   |some (.exit i,e',s',g')=>if i=id then some (.normal,e',s',g')else some (.exit i,e',s',g')
   |r=>r
 |.loop c,e,s,g=>qh2 (qbe T call b n c) n e s g
 |.exit id,e,s,g=>some (.exit id,e,s,g)
 |.ret,e,s,g=>some (.ret,e,s,g)
 |.range ..,_,_,_=>none
 |.bad,_,_,_=>none
def yBody(T:Tbl)(call:FuncId→List PV→List Obj→Option qam)(b:Nat→Bool)(n:Nat)(f:AFunc)(args:List PV):Option Log:=
 if args.length=f.np∧f.res=[]then
  match qbe T call b n f.code args {h:=[],ws:=[],ups:=[]} []with
  |some (.ret,_,_,g)=>some g
  |some (.normal,_,_,g)=>some g
  |_=>none
 else none
section
variable {P:Program}{T:Tbl}{call:FuncId→List PV→List Obj→Option qam}{b:Nat→Bool}
theorem qtj {rm:Bool} {op:Op} {f:AX} {args:List AX} (h:qar P rm op=.call f args):∃ c x,op=.call c∧c.callee=.value x∧f=cx x∧args=c.args.toList.map cx:=by
 unfold qar at h
 repeat' split at h
 all_goals first
  | (cases h; done)
  | (unfold qmg at h; repeat' split at h
     all_goals (cases h; done))
  | skip
 rename_i c;unfold qdg at h;split at h
 · grind
 · cases h
 · grind
theorem qmm {rm:Bool} {op:Op} {x:AX} (h:qar P rm op=.nilCheck x):∃ y,op=.nilCheck y∧x=cx y:=by
 unfold qar at h
 repeat' split at h
 all_goals first
  | (cases h; done)
  | (unfold qmg at h; repeat' split at h
     all_goals (cases h; done))
  | (unfold qdg at h; repeat' split at h
     all_goals (cases h; done))
  | skip
 cases h;exact ⟨_,rfl,rfl⟩
theorem qpv{o:AOp}{e:List PV}{s s':St}{g g':Log}{v:PV}(h:yOp T call b o e s g=some (v,s',g')):
 (evOp T call o e s=some (.val v,s')∧g'=g)∨
 (∃f args k,o=.call f args∧ax e f=.func (.yield k) [] []∧qas (args.map (ax e))=true∧v=.bool (b g.length)∧s'=s∧g'=g++[(k,qaq (args.map (ax e)))])∨
 (∃x k,o=.nilCheck x∧ax e x=.func (.yield k) [] []∧v=.func (.yield k) [] []∧s'=s∧g'=g):=by
 have plain:∀{o':AOp},(match evOp T call o' e s with|some (.val v,s')=>some (v,s',g)|_=>none)=some (v,s',g')→evOp T call o' e s=some (.val v,s')∧g'=g:=by grind
 unfold yOp at h;split at h
 ·grind
 ·grind
 ·grind
theorem yOp_step(hC:qa7 call){o:AOp}{e:List PV}{s s':St}{g g':Log}{v:PV}(h:yOp T call b o e s g=some (v,s',g')):Step s s'∧∃t,g'=g++t:=by
 rcases qpv h with⟨h1,rfl⟩|⟨f,args,_,_,_,_,_,rfl,rfl⟩|⟨x,k,_,_,_,rfl,rfl⟩
 ·exact⟨qdy hC h1,[],by simp⟩
 ·exact⟨.refl _,_,rfl⟩
 ·exact⟨.refl _,[],by simp⟩
theorem qip(hC:qa7 call):∀{os:List AOper}{e:List PV}{s:St}{g:Log}{e':List PV}{s':St}{g':Log},yOps T call b os e s g=some (e',s',g')→Step s s'∧∃t,g'=g++t
 |[],e,s,g,e',s',g',h=>by simp only[yOps]at h;cases h;exact⟨.refl _,[],by simp⟩
 |o::os,e,s,g,e',s',g',h=>by
   simp only[yOps]at h;split at h
   ·cases h
   ·exact qip hC h
   · split at h
     next v s1 g1 h1=>
       obtain⟨a1,t1,rfl⟩:=yOp_step hC h1;obtain⟨a2,t2,rfl⟩:=qip hC h;exact⟨a1.trans a2,t1++t2,by simp⟩
     ·cases h
theorem qjo{f:List PV→St→Log→Option (AExit×List PV×St×Log)}(hf:∀{e s g x e' s' g'},f e s g=some (x,e',s',g')→Step s s'∧∃t,g'=g++t):
 ∀{n:Nat}{e:List PV}{s:St}{g:Log}{x:AExit}{e':List PV}{s':St}{g':Log},qh2 f n e s g=some (x,e',s',g')→Step s s'∧∃t,g'=g++t
 |0,e,s,g,x,e',s',g',h=>by simp[qh2]at h
 |n+1,e,s,g,x,e',s',g',h=>by
   simp only[qh2]at h;split at h
   next h1=>
     obtain⟨a1,t1,rfl⟩:=hf h1;obtain⟨a2,t2,rfl⟩:=qjo hf h;exact⟨a1.trans a2,t1++t2,by simp⟩
   ·exact hf h
theorem qcb(hC:qa7 call)(n:Nat):∀{c:ACode}{e:List PV}{s:St}{g:Log}{x:AExit}{e':List PV}{s':St}{g':Log},qbe T call b n c e s g=some (x,e',s',g')→Step s s'∧∃t,g'=g++t
 |.skip,e,s,g,x,e',s',g',h=>by simp only[qbe]at h;cases h;exact⟨.refl _,[],by simp⟩
 |.reg ops,e,s,g,x,e',s',g',h=>by
   simp only[qbe]at h;split at h<;>cases h;rename_i h1;exact qip hC h1
 |.regD ops,e,s,g,x,e',s',g',h=>by
   simp only[qbe]at h;split at h<;>cases h;rename_i h1;exact⟨qdm hC h1,[],by simp⟩
 |.seq a c,e,s,g,x,e',s',g',h=>by
   simp only[qbe]at h;split at h
   next h1=>
     obtain⟨a1,t1,rfl⟩:=qcb hC n h1;obtain⟨a2,t2,rfl⟩:=qcb hC n h;exact⟨a1.trans a2,t1++t2,by simp⟩
   ·exact qcb hC n h
 |.cond c x y,e,s,g,_,e',s',g',h=>by
   simp only[qbe]at h;split at h
   ·exact qcb hC n h
   ·exact qcb hC n h
   ·cases h
 |.block id c,e,s,g,x,e',s',g',h=>by
   simp only[qbe]at h;split at h
   next h1=>
     split at h<;>cases h<;>exact qcb hC n h1
   ·exact qcb hC n h
 |.loop c,e,s,g,x,e',s',g',h=>by
   simp only[qbe]at h;exact qjo (fun h=>qcb hC n h) h
 |.exit id,e,s,g,x,e',s',g',h=>by simp only[qbe]at h;cases h;exact⟨.refl _,[],by simp⟩
 |.ret,e,s,g,x,e',s',g',h=>by simp only[qbe]at h;cases h;exact⟨.refl _,[],by simp⟩
 |.range g1 ps a b,e,s,g,x,e',s',g',h=>by simp only[qbe]at h;cases h
 |.bad,e,s,g,x,e',s',g',h=>by simp only[qbe]at h;cases h
end
end Go.AE
namespace Go.AE
open Go
structure Party (P:Program)(l lo:Nat)(b:Nat→Bool)(yss:Yss)(R:Nat→World→(Nat→Nat→Prop)→(Nat→Prop)→Prop):Prop where
 stp:∀i w I X w' I' Y,R i w I X→Stp Y w I w' I'→(∀k,Y k→¬X k)→(∀k,Y k→lo≤k)→(∀k o,I' k o→k<w'.heap.size)→R i w' I' X
 lt:∀i w I X,R i w I X→∀k,X k→k<w.heap.size
 round:∀i w I X ys us,R i w I X→(∀k o,I k o→k<w.heap.size)→lo≤w.heap.size→yss[i]?=some ys→(∀D ρ,VRs w I D ρ ys us)→
  ∃fn tmps assign body,(Instr.yield l us.toArray).run P w=.ok (.round l fn tmps assign body) w∧∀n,RoundIn (wr none) n P l fn tmps assign body w fun e w'=>
    e=.returned (.bool (b i))∧∃I' X',R (i+1) w' I' X'∧Stp X w I w' I'∧(∀k,X' k→X k∨w.heap.size≤k)∧∀k o,I' k o→k<w'.heap.size
structure Joint (lo:Nat)(R:Nat→World→(Nat→Nat→Prop)→(Nat→Prop)→Prop)(i:Nat)(w:World)(I:Nat→Nat→Prop)(D:Nat→Prop)(ρ:Nat→Row)(h:List Obj)(X:Nat→Prop):Prop where
 sim:Sim w I D ρ h
 r:R i w I X
 apart:∀k,D k→¬X (ρ k).blk
 low:∀k,D k→lo≤(ρ k).blk
 size:lo≤w.heap.size
section
variable {P:Program}{T:Tbl}{call:FuncId→List PV→List Obj→Option qam}{rows:List Nat}{nt:Nat}{l lo:Nat}{b:Nat→Bool}{yss:Yss}{R:Nat→World→(Nat→Nat→Prop)→(Nat→Prop)→Prop}
variable {i:Nat}{w:World}{I:Nat→Nat→Prop}{D:Nat→Prop}{ρ:Nat→Row}{h:List Obj}{X:Nat→Prop}
theorem Joint.own(Pt:Party P l lo b yss R)(J:Joint lo R i w I D ρ h X){w':World}{I':Nat→Nat→Prop}{D':Nat→Prop}{ρ':Nat→Row}{h':List Obj}(N:Nxt w I D ρ w' I' D' ρ')(S':Sim w' I' D' ρ' h'):Joint lo R i w' I' D' ρ' h' X where
 sim:=S'
 r:=Pt.stp i w I X w' I' _ J.r N.stp (fun k ⟨j,hj,e⟩=>by subst e;exact J.apart j hj) (fun k ⟨j,hj,e⟩=>by subst e;exact J.low j hj) S'.imm
 apart k hk hx:=by
  have hlt:=Pt.lt _ _ _ _ J.r _ hx;by_cases hd:D k
  · rcases N.blk k hd with e|e
    ·rw[e]at hx;exact J.apart k hd hx
    ·omega
  · have:=N.blkN k hk hd;omega
 low k hk:=by
  by_cases hd:D k
  · rcases N.blk k hd with e|e
    ·rw[e];exact J.low k hd
    ·exact nT0 J.size e
  ·exact nT0 J.size (N.blkN k hk hd)
 size:=nT0 J.size N.size
theorem Joint.other(J:Joint lo R i w I D ρ h X){w':World}{I':Nat→Nat→Prop}{X':Nat→Prop}{i':Nat}(hr:R i' w' I' X')(s:Stp X w I w' I')(hX:∀k,X' k→X k∨w.heap.size≤k)(him:∀k o,I' k o→k<w'.heap.size):
 Joint lo R i' w' I' D ρ h X':=by
 have ha:∀k,D k→¬X' (ρ k).blk:=fun k hk hx=>by
  have:=J.sim.blk_lt k hk;rcases hX _ hx with h|h
  ·exact J.apart k hk h
  ·omega
 exact⟨J.sim.stp s J.apart him,hr,ha,J.low,nT0 J.size s.size⟩
theorem VRs_weak{vs:List Value}{ps:List PV}(h:VRs w I D ρ ps vs)(hp:qas ps=true)(D':Nat→Prop)(ρ':Nat→Row):VRs w I D' ρ' (qaq ps) vs:=by refine⟨by rw[qce];simpa using h.1,fun j=>?_⟩;rw[qce,qc3];exact(h.2 j).pureWeak (qc0 ((qcz ps).1 hp) j)
def qjn(lo:Nat)(R:Nat→World→(Nat→Nat→Prop)→(Nat→Prop)→Prop)(D:Nat→Prop)(nt:Nat)(ds:List Deferred)(s s':St)(g':Log)(e':List PV)(K:Act→World→Prop):Prop:=
 ∀a' w' I' ρ' X',Joint lo R g'.length w' I' (ext D s.h.length s'.h.length) ρ' s'.h X'→EnvR w' I' (ext D s.h.length s'.h.length) ρ' nt e' a'→a'.defers=ds→K a' w'
def Pre(l:Nat)(g:Log)(yss:Yss):Prop:=∀(i k:Nat)(ys:List PV),g[i]?=some (k,ys)→k=l∧yss[i]?=some ys
theorem Pre.of_append{g t:Log}(h:Pre l (g++t) yss):Pre l g yss:=fun i k ys hi=>h i k ys (by rw[gL0 (gI0.1 hi).1];exact hi)
theorem yOp_wp(hT:∀f p,T.prim f=some p→qev P f p)(hC:qd0 P call)(Pt:Party P l lo b yss R){n:Nat}{o:Oper}{rm:Bool}{e:List PV}{s s':St}{g g':Log}{v:PV}{a:Act}{ds:List Deferred}
 (hnd:∀c,o.op≠.defer c)(h:yOp T call b (qar P rm o.op) e s g=some (v,s',g'))(hp:Pre l g' yss)(J:Joint lo R g.length w I D ρ s.h X)(E:EnvR w I D ρ nt e a){K:Act→World→Prop}{Q:Exit→Act→World→Prop}
 (hd:∀i,o.dst=some i→i<nt)(hds:a.defers=ds)(A:qjn lo R D nt ds s s' g' (putD e o.dst v) K):o.wpIn (wr none) n P a w K Q:=by
 rcases qpv h with⟨h1,rfl⟩|⟨f,args,kk,hop,hf,hpu,rfl,rfl,rfl⟩|⟨x,k,hop,hf,rfl,rfl,rfl⟩
 · refine qi4 (.inl rfl) (qg9 hT hC J.sim E h1 (fun p hp=>?_) (fun p hp=>by cases hp));cases hp;intro u w1 I1 ρ1 N1 S1 V1;exact A _ _ I1 ρ1 X (J.own Pt N1 S1) ((E.next N1).put o.dst hd V1) (by rw[qcc];exact hds)
 · obtain⟨c,x,h1,h2,rfl,rfl⟩:=qtj hop;have hx:=E.eval x;rw[hf]at hx;generalize hv:a.eval x=vx at hx;cases hx with
   |func _ _ _ fv cv g1 g2 g3 g4=>
     have e1:fv=#[]:=Array.eq_empty_of_size_eq_zero (by simpa using g1);have e2:cv=#[]:=Array.eq_empty_of_size_eq_zero (by simpa using g2);subst e1 e2;have hargs:VRs w I D ρ ((c.args.toList.map cx).map (ax e)) (c.args.toList.map a.eval):=⟨by simp,by rw[List.map_map];exact fun j=>qj9 E _ j⟩;obtain⟨hkl,hy⟩:=hp g.length kk (qaq ((c.args.toList.map cx).map (ax e))) (by simp);subst hkl;obtain⟨fn,tmps,assign,body,hrun,hround⟩:=Pt.round g.length w I X _ _ J.r J.sim.imm J.size hy (fun D ρ=>VRs_weak hargs hpu D ρ);refine⟨fun _ _=>trivial,?_⟩
     have hr:(Oper.semAt (wr none).round a.eval o).run P w=.ok (.round kk fn tmps assign body) w:=by
      show(execOp a.eval o).run P w=_;have e3:c.args.map a.eval=(c.args.toList.map a.eval).toArray:=by grind
      rw[←hrun,←e3];unfold execOp;rw[h1];simp[resolve,h2,hv,Deferred.ofValue,invoke]
     rw[hr,Oper.uponIn_round];refine⟨(fun h=>by cases h),(hround _).mono fun en w' hh=>?_⟩;obtain⟨rfl,I',X',hR,hS,hX,him⟩:=hh;refine A _ _ I' ρ X' ?_ ?_ (by rw[qcc];exact hds)
     · rw[qay];have:(g++[(kk,qaq ((c.args.toList.map cx).map (ax e)))]).length=g.length+1:=by simp
       rw[this];exact J.other hR hS hX him
     · rw[qay];exact(E.stp hS).put o.dst hd (.bool _)
 · obtain⟨y,h1,rfl⟩:=qmm hop;have hx:=E.eval y;rw[hf]at hx;generalize hv:a.eval y=vx at hx;have hx':=hx;cases hx with
   |func _ _ _ fv cv g1 g2 g3 g4=>
     refine qi4 (.inl rfl) ?_;unfold Oper.wp;have hr:(execOp a.eval o).run P w=.ok (.value (.func (.yield k) fv cv)) w:=by unfold execOp;rw[h1];simp[hv]
     rw[hr];exact A _ _ I ρ X (by rw[qay];exact J) (by rw[qay];exact E.put o.dst hd hx') (by rw[qcc];exact hds)
theorem qr7(hT:∀f p,T.prim f=some p→qev P f p)(hC:qd0 P call)(hS:qa7 call)(Pt:Party P l lo b yss R){n:Nat}{ds:List Deferred}(ops:Array Oper)(hnd:∀(i:Nat)(o:Oper),ops[i]?=some o→∀c,o.op≠.defer c)(Q:Exit→Act→World→Prop):
 ∀(m k:Nat){e:List PV}{s:St}{g:Log}{a:Act}{w:World}{I:Nat→Nat→Prop}{D:Nat→Prop}{ρ:Nat→Row}{X:Nat→Prop}{e':List PV}{s':St}{g':Log},k+m=ops.size→a.defers=ds→
   yOps T call b ((ops.toList.drop k).map (qbl P rows nt ops)) e s g=some (e',s',g')→Pre l g' yss→Joint lo R g.length w I D ρ s.h X→EnvR w I D ρ nt e a→qjn lo R D nt ds s s' g' e' (Q .normal)→wpOpsIn (wr none) n P ops Q (List.range' k m) a w
 |0,k,e,s,g,a,w,I,D,ρ,X,e',s',g',hk,hds,h,hp,J,E,A=>by
   have hd:ops.toList.drop k=[]:=List.drop_eq_nil_of_le (by simp;omega);rw[hd]at h;simp only[List.map_nil,yOps]at h;cases h;exact A a w I ρ X (by rw[qay];exact J) (by rw[qay];exact E) hds
 |m+1,k,e,s,g,a,w,I,D,ρ,X,e',s',g',hk,hds,h,hp,J,E,A=>by
   have hlt:k<ops.toList.length:=by simp;omega
   have hget:ops[k]?=some ops.toList[k]:=by simp
   rw[List.drop_eq_getElem_cons hlt,List.map_cons]at h;generalize ops.toList[k]=o at h hget;generalize hcc:qbl P rows nt ops o=c at h;rw[List.range'_succ];simp only[wpOpsIn,hget];rcases qe5 hcc with⟨hb,hg⟩|⟨rm,gd,hslot,hdst,hop,hguard,_,hd1,hd2⟩
   · simp only[yOps,hg,qbk,hb]at h;simp only[yOp,evOp]at h;cases h
   · simp only[yOps]at h;rw[hguard]at h;split at h
     ·cases h
     next hw=>
       have hwant:=qcw E hslot hd2 hw (o:=o) rfl;rw[if_neg (by simp[hwant])];rw[hdst]at h;exact⟨fun _ _=>trivial,qr7 hT hC hS Pt ops hnd Q m (k+1) (by omega) (by rw[qcc];exact hds) h hp J (qf1 E o.dst hd1) A⟩
     next hw=>
       have hwant:=qcw E hslot hd2 hw (o:=o) rfl;rw[if_pos hwant];rw[hop]at h;split at h
       next v s1 g1 hev=>
         obtain⟨st1,t1,rfl⟩:=yOp_step hS hev;obtain⟨st2,t2,rfl⟩:=qip hS h;refine yOp_wp hT hC Pt (hnd k o hget) hev hp.of_append J E hd1 hds fun a1 w1 I1 ρ1 X1 J1 E1 hds1=>?_;rw[hdst]at h;refine qr7 hT hC hS Pt ops hnd Q m (k+1) (by omega) hds1 h hp J1 E1 fun a' w' I' ρ' X' J' E' hd'=>?_;rw[qg8 D st1.len st2.len]at J' E';exact A a' w' I' ρ' X' J' E' hd'
       ·cases h
end
end Go.AE
namespace Go.AE
open Go
section
variable {P:Program}{T:Tbl}{call:FuncId→List PV→List Obj→Option qam}{rows:List Nat}{nt:Nat}{l lo:Nat}{b:Nat→Bool}{yss:Yss}{R:Nat→World→(Nat→Nat→Prop)→(Nat→Prop)→Prop}
def exitOf:AExit→Exit
 |.normal=>.normal
 |.exit i=>.exit i
 |.ret=>.ret
 |.pan _=>.normal
theorem qdr{ops:Array Oper}(h:qo3 ops=true)(i:Nat)(o:Oper)(ho:ops[i]?=some o)(c:Call):o.op≠.defer c:=by intro hc;unfold qo3 at h;obtain⟨hi,rfl⟩:=Array.getElem?_eq_some_iff.1 ho;have:=(Array.all_eq_true.1 h) i hi;simp[hc]at this
theorem qcm{n:Nat}:∀{c:ACode}{e:List PV}{s:St}{g:Log}{p:PV}{e':List PV}{s':St}{g':Log},qbe T call b n c e s g≠some (.pan p,e',s',g')
 |.skip,e,s,g,p,e',s',g',h=>by simp[qbe]at h
 |.reg ops,e,s,g,p,e',s',g',h=>by
   simp only[qbe]at h;split at h<;>cases h
 |.regD ops,e,s,g,p,e',s',g',h=>by
   simp only[qbe]at h;split at h<;>cases h
 |.seq a c,e,s,g,p,e',s',g',h=>by
   simp only[qbe]at h;split at h
   ·exact qcm h
   ·exact qcm h
 |.cond c x y,e,s,g,p,e',s',g',h=>by
   simp only[qbe]at h;split at h
   ·exact qcm h
   ·exact qcm h
   ·cases h
 |.block id c,e,s,g,p,e',s',g',h=>by
   simp only[qbe]at h;split at h
   ·grind
   ·exact qcm h
 |.loop c,e,s,g,p,e',s',g',h=>by
   simp only[qbe]at h
   have key:∀(m:Nat)(e:List PV)(s:St)(g:Log),qh2 (qbe T call b n c) m e s g≠some (.pan p,e',s',g'):=by
    intro m;induction m with
    |zero=>intro e s g h;simp[qh2]at h
    |succ m ih=>
      intro e s g h;simp only[qh2]at h;split at h
      ·grind
      ·exact qcm h
   exact key _ _ _ _ h
 |.exit id,e,s,g,p,e',s',g',h=>by simp[qbe]at h
 |.ret,e,s,g,p,e',s',g',h=>by simp[qbe]at h
 |.range ..,e,s,g,p,e',s',g',h=>by simp[qbe]at h
 |.bad,e,s,g,p,e',s',g',h=>by simp[qbe]at h
theorem qjn.stay{D:Nat→Prop}{ds:List Deferred}{s:St}{g:Log}{e:List PV}{K:Act→World→Prop}{a:Act}{w:World}{I:Nat→Nat→Prop}{ρ:Nat→Row}{X:Nat→Prop}
 (A:qjn lo R D nt ds s s g e K)(J:Joint lo R g.length w I D ρ s.h X)(E:EnvR w I D ρ nt e a)(hds:a.defers=ds):K a w:=
 A a w I ρ X (by rw[qay];exact J) (by rw[qay];exact E) hds
theorem qjn.from{D:Nat→Prop}{ds:List Deferred}{s s1 s2:St}{g:Log}{e:List PV}{K:Act→World→Prop}(h1:s.h.length≤s1.h.length)(h2:s1.h.length≤s2.h.length)
 (A:qjn lo R D nt ds s s2 g e K):qjn lo R (ext D s.h.length s1.h.length) nt ds s1 s2 g e K:=by
 intro a' w' I' ρ' X' J E hd;rw[qg8 D h1 h2]at J E;exact A a' w' I' ρ' X' J E hd
theorem yCode_wp(hm:P.follows .mixedOrders=true)(hT:∀f p,T.prim f=some p→qev P f p)(hC:qd0 P call)(hS:qa7 call)(Pt:Party P l lo b yss R)(n:Nat){k:Nat}{ds:List Deferred}:
 ∀(c:Code){e:List PV}{s:St}{g:Log}{x:AExit}{e':List PV}{s':St}{g':Log}{a:Act}{w:World}{I:Nat→Nat→Prop}{D:Nat→Prop}{ρ:Nat→Row}{X:Nat→Prop}{Q:Exit→Act→World→Prop},
   qbe T call b n (comp P rows nt c) e s g=some (x,e',s',g')→Pre l g' yss→Joint lo R g.length w I D ρ s.h X→EnvR w I D ρ nt e a→a.defers=ds→(∀a w,¬Q .outgrown a w)→qjn lo R D nt ds s s' g' e' (Q (exitOf x))→c.wpIn (wr none) k P Q a w:=by
 intro c;induction c with
 |skip=>
   intro e s g x e' s' g' a w I D ρ X Q h hp J E hds hQ A;simp only[comp,qbe]at h;cases h;exact wpIn_skip (A.stay J E hds)
 |label l=>
   intro e s g x e' s' g' a w I D ρ X Q h hp J E hds hQ A;simp only[comp,qbe]at h;cases h;exact wpIn_label (A.stay J E hds)
 |region id ops d=>
   intro e s g x e' s' g' a w I D ρ X Q h hp J E hds hQ A;cases d with
   |false=>
     simp only[comp]at h;split at h
     next hnd=>
       simp only[qbe]at h;refine wpIn_region ?_;rw[List.range_eq_range'];split at h
       next e1 s1 g1 h1=>
         cases h;exact qr7 hT hC hS Pt ops (qdr hnd) Q ops.size 0 (by omega) hds (by simpa using h1) hp J E A
       ·cases h
     ·simp only[qbe]at h;cases h
   |true=>
     simp only[comp]at h;split at h
     next hc=>
       simp only[bA0]at hc;simp only[qbe]at h;split at h
       next e1 s1 h1=>
         cases h;refine wpIn_region_any hm (qgl (.inl rfl) hQ _ _ _ _ (qjb hT hC hS hc.1.1.1.2 hc.1.1.2 hc.1.2 hc.2 h1 J.sim E hds ⟨fun _ a' w' I' ρ' N S' E' hd'=>?_,fun p hp=>(by cases hp),fun p hp=>by cases hp⟩));exact A a' w' I' ρ' X (J.own Pt N S') E' hd'
       ·cases h
     ·simp only[qbe]at h;cases h
 |seq y z ihb ihc=>
   intro e s g x e' s' g' a w I D ρ X Q h hp J E hds hQ A;simp only[comp,qbe]at h;refine wpIn_seq ?_;split at h
   next e1 s1 g1 h1=>
     obtain⟨st1,t1,rfl⟩:=qcb hS n h1;obtain⟨st2,t2,rfl⟩:=qcb hS n h;refine ihb h1 hp.of_append J E hds (fun a w=>hQ a w) fun a1 w1 I1 ρ1 X1 J1 E1 hd1=>?_;exact ihc h hp J1 E1 hd1 hQ (A.from st1.len st2.len)
   next hne=>
     refine ihb h hp J E hds (fun a w=>hQ a w) ?_;cases x with
     |normal=>exact absurd h (hne _ _ _)
     |exit id=>exact A
     |ret=>exact A
     |pan p=>exact absurd h qcm
 |cond c t f iht ihf=>
   intro e s g x e' s' g' a w I D ρ X Q h hp J E hds hQ A;simp only[comp,qbe]at h;have hc:=E.eval c;split at h
   next hk=>
     rw[hk]at hc;generalize hv:a.eval c=v at hc;cases hc;exact wpIn_cond_true hv (iht h hp J E hds hQ A)
   next hk=>
     rw[hk]at hc;generalize hv:a.eval c=v at hc;cases hc;exact wpIn_cond_false hv (ihf h hp J E hds hQ A)
   ·cases h
 |block id c ih=>
   intro e s g x e' s' g' a w I D ρ X Q h hp J E hds hQ A;simp only[comp,qbe]at h;refine wpIn_block ?_;split at h
   next i e1 s1 g1 h1=>
     split at h
     next hi=>
       cases h;subst hi;refine ih h1 hp J E hds (fun a w=>hQ a w) fun a1 w1 I1 ρ1 X1 J1 E1 hd1=>?_;simp only[exitOf,Exit.inBlock,if_true];exact A a1 w1 I1 ρ1 X1 J1 E1 hd1
     next hi=>
       cases h;refine ih h1 hp J E hds (fun a w=>hQ a w) fun a1 w1 I1 ρ1 X1 J1 E1 hd1=>?_;simp only[exitOf,Exit.inBlock,if_neg hi];exact A a1 w1 I1 ρ1 X1 J1 E1 hd1
   next hne=>
     refine ih h hp J E hds (fun a w=>hQ a w) ?_;cases x with
     |normal=>exact A
     |exit id=>exact absurd h (hne _ _ _ _)
     |ret=>exact A
     |pan p=>exact absurd h qcm
 |loop c ih=>
   intro e s g x e' s' g' a w I D ρ X Q h hp J E hds hQ A;simp only[comp,qbe]at h;refine wpIn_loop_rounds n ?_
   have key:∀(m:Nat){e:List PV}{s:St}{g:Log}{a:Act}{w:World}{I:Nat→Nat→Prop}{D:Nat→Prop}{ρ:Nat→Row}{X:Nat→Prop},
    qh2 (qbe T call b n (comp P rows nt c)) m e s g=some (x,e',s',g')→Joint lo R g.length w I D ρ s.h X→EnvR w I D ρ nt e a→a.defers=ds→qjn lo R D nt ds s s' g' e' (Q (exitOf x))→Code.roundsIn (wr none) k P c Q m a w:=by
    intro m;induction m with
    |zero=>intro e s g a w I D ρ X h;simp[qh2]at h
    |succ m ihm=>
      intro e s g a w I D ρ X h J E hds A;simp only[qh2]at h;rw[roundsIn_succ];split at h
      next e1 s1 g1 h1=>
        obtain⟨st1,t1,rfl⟩:=qcb hS n h1;obtain⟨st2,t2,e2⟩:=qjo (fun h=>qcb hS n h) h;refine ih h1 (by rw[e2]at hp;exact hp.of_append) J E hds (fun a w=>hQ a w) fun a1 w1 I1 ρ1 X1 J1 E1 hd1=>?_;exact ihm h J1 E1 hd1 (A.from st1.len st2.len)
      next hne=>
        refine ih h hp J E hds (fun a w=>hQ a w) ?_;cases x with
        |normal=>exact absurd h (hne _ _ _)
        |exit id=>exact A
        |ret=>exact A
        |pan p=>exact absurd h qcm
   exact key n h J E hds A
 |exit id=>
   intro e s g x e' s' g' a w I D ρ X Q h hp J E hds hQ A;simp only[comp,qbe]at h;cases h;exact wpIn_exit (A.stay J E hds)
 |ret=>
   intro e s g x e' s' g' a w I D ρ X Q h hp J E hds hQ A;simp only[comp,qbe]at h;cases h;exact wpIn_ret (A.stay J E hds)
 |rangeFunc gf ps y z=>
   intro e s g x e' s' g' a w I D ρ X Q h hp J E hds hQ A;simp only[comp]at h;split at h<;>(simp only[qbe]at h;cases h)
 |_=>
   intro e s g x e' s' g' a w I D ρ X Q h hp J E hds hQ A;simp only[comp,qbe]at h;cases h
def upTo(stop:Option Nat)(yss:Yss):Yss:=match stop with|none=>yss|some k=>yss.take (k+1)
def upN(stop:Option Nat)(n:Nat):Nat:=match stop with|none=>n|some k=>min n (k+1)
theorem qlj(stop:Option Nat)(yss:Yss):(upTo stop yss).length=upN stop yss.length∧∀(i:Nat)(ys:List PV),(upTo stop yss)[i]?=some ys→yss[i]?=some ys:=by
 cases stop with
 |none=>exact⟨rfl,fun i ys h=>h⟩
 |some k=>
   refine⟨by simp[upTo,upN,Nat.min_comm],fun i ys h=>?_⟩;simp only[upTo,List.getElem?_take]at h;split at h
   ·exact h
   ·cases h
def qfz(P:Program)(gf:FuncId)(captured:List PV)(yss:Yss):Prop:=
 Enters P gf∧∀(stop:Option Nat)(l lo:Nat)(R:Nat→World→(Nat→Nat→Prop)→(Nat→Prop)→Prop)(w:World)(I:Nat→Nat→Prop)(D:Nat→Prop)(ρ:Nat→Row)(X:Nat→Prop)(vs:List Value),
  Party P l lo (fun i=>decide (stop≠some i)) (upTo stop yss) R→R 0 w I X→(∀k o,I k o→k<w.heap.size)→lo≤w.heap.size→VRs w I D ρ captured vs→
   CallsIn (wr none) 0 P gf (#[.func (.yield l) #[] #[]]++vs.toArray) w fun en w'=>(∃v,en=.returned v)∧∃I' X',R (upN stop yss.length) w' I' X'
theorem qj1 (hm : P.follows .mixedOrders = true) (hT : ∀ f p, T.prim f = some p → qev P f p) {gf : FuncId} {fn : Func} {af : AFunc} (hf : P.funcs[gf]? = some fn) (hname : (fn.name == "runtime.NumGoroutine") = false) (hcomp : qb8 P rows fn = some af)
 {captured:List PV}{yss:Yss}(hpu:qas captured=true)
 (hev:∀(l:Nat)(stop:Option Nat),∃call n,qd0 P call∧qa7 call∧yBody T call (fun i=>decide (stop≠some i)) n af (.func (.yield l) [] []::qaq captured)=some ((upTo stop yss).map fun ys=>(l,ys))):qfz P gf captured yss:=by
 refine⟨⟨fn,hf,hname,?_⟩,fun stop l lo R w I D ρ X vs Pt hR him hlo V=>?_⟩
 · unfold qb8 at hcomp
   split at hcomp
   ·grind
   ·cases hcomp
 · obtain⟨call,n,hC,hS,hy⟩:=hev l stop
   unfold qb8 at hcomp
   split at hcomp
   next c res hc hres=>
     split at hcomp
     next hnt=>
       cases hcomp
       unfold yBody at hy
       split at hy
       next hargs=>
         obtain⟨hargs,hnil⟩:=hargs
         have hV:=VRs_weak V hpu (fun _=>False) ρ
         have hsz:vs.length=(qaq captured).length:=hV.1
         have hle:vs.length+1≤fn.ntmps:=by simp at hargs;omega
         have E0:EnvR w I (fun _=>False) ρ fn.ntmps (.func (.yield l) [] []::qaq captured) {tmps:=(#[.func (.yield l) #[] #[]]++vs.toArray)++Array.replicate (fn.ntmps - (#[Value.func (.yield l) #[] #[]]++vs.toArray).size) undef,defers:=[]}:=by
          refine⟨by simp;omega,by simp;omega,fun t=>?_⟩
          rw[qf6]
          by_cases ht:t< (PV.func (.yield l) [] []::qaq captured).length
          · have e1:((#[Value.func (.yield l) #[] #[]]++vs.toArray)++Array.replicate (fn.ntmps - (#[Value.func (.yield l) #[] #[]]++vs.toArray).size) undef).getD t undef=(Value.func (.yield l) #[] #[]::vs).getD t undef:=by
             rw[Array.getD_eq_getD_getElem?,gD0,Array.getElem?_append_left (by simp at ht⊢;omega)]
             cases t<;>simp
            rw[e1]
            cases t with
            |zero=>exact .func _ [] [] #[] #[] rfl rfl (fun j=>.undef _) (fun j=>.undef _)
            |succ t=>exact hV.2 t
          ·rw[qaz _ t _ ht];exact .undef _
         have J0:Joint lo R ([]:Log).length w I (fun _=>False) ρ ({h:=[],ws:=[],ups:=[]}:St).h X:=
          ⟨⟨fun _ h=>h.elim,fun _ _ h=>h.elim,fun _ _ h=>h.elim,him⟩,hR,fun _ h=>h.elim,fun _ h=>h.elim,hlo⟩
         have hresn:fn.results.toList=[]:=by
          subst hnil
          cases hr:fn.results.toList with
          |nil=>rfl
          |cons r rs=>
            rw[hr]at hres
            cases r with
            |tmp t=>simp[qgk]at hres
            |cell t ty=>
              simp only[qgk]at hres
              split at hres<;>simp at hres
         have fin:∀{x:AExit}{e:List PV}{s:St}{g:Log},(x=.ret∨x=.normal)→qbe T call (fun i=>decide (stop≠some i)) n (comp P rows fn.ntmps c) (.func (.yield l) [] []::qaq captured) {h:=[],ws:=[],ups:=[]} []=some (x,e,s,g)→
          g=((upTo stop yss).map fun ys=>(l,ys))→CallsIn (wr none) 0 P gf (#[.func (.yield l) #[] #[]]++vs.toArray) w fun en w'=>(∃v,en=.returned v)∧∃I' X',R (upN stop yss.length) w' I' X':=by
          intro x e s g hx hy hg
          subst hg
          obtain⟨h1,_⟩:=qlj stop yss
          have hpre:Pre l ((upTo stop yss).map fun ys=>(l,ys)) (upTo stop yss):=fun i k ys hi=>by
           simp only[gM0,oM0]at hi
           obtain⟨y,hy,he⟩:=hi
           cases he
           exact⟨rfl,hy⟩
          have h1':((upTo stop yss).map fun ys=>(l,ys)).length=upN stop yss.length:=by rw[lM0];exact h1
          refine callsIn_of_wp hf hc trivial (yCode_wp hm hT hC hS Pt n c hy hpre J0 E0 rfl (fun a w h=>by obtain⟨⟨v,h⟩,_⟩:=h;cases h) fun a' w' I' ρ' X' J' E' hd'=>?_)
          have hrun:(results fn a'.tmps).run P w'=.ok (if hs:([]:List Value).toArray.size=1 then([]:List Value).toArray[0]else .tuple ([]:List Value).toArray) w':=qns (by rw[hresn];rfl)
          have key:bodyPost P fn (fun en w'=>(∃v,en=.returned v)∧∃I' X',R (upN stop yss.length) w' I' X') .ret a' w':=
           ⟨hd',_,hrun,⟨_,rfl⟩,I',X',by rw[←h1'];exact J'.r⟩
          rcases hx with rfl|rfl<;>exact key
         split at hy
         next e s g hcode=>
           exact fin (.inl rfl) hcode (Option.some.inj hy)
         next e s g hcode=>
           exact fin (.inr rfl) hcode (Option.some.inj hy)
         ·cases hy
       ·cases hy
     ·cases hcomp
   ·cases hcomp
end
end Go.AE
namespace Go.AE
open Go
structure Round1 (fa fb:List PV→St→Option (AExit×List PV×St))(ps:List Nat)(e:List PV)(ys:List PV)(s s':St)(x:AExit):Prop where
 len:ys.length=ps.length
 run:∃e1 s1 e2,fa (puts e ps ys) s=some (.normal,e1,s1)∧fb e1 s1=some (x,e2,s')
structure RTrace (fa fb:List PV→St→Option (AExit×List PV×St))(ps:List Nat)(e:List PV)(yss:List (List PV))(s:St)(x:AExit)(s':St)(stop:Option Nat)(H:Nat→St):Prop where
 first:H 0=s
 last:H (upN stop yss.length)=s'
 rounds:∀i ys,yss[i]?=some ys→i<upN stop yss.length→Round1 fa fb ps e ys (H i) (H (i+1)) (if stop=some i then x else .normal)
 out:(stop=none→x=.normal)∧(stop≠none→x=.ret∨∃j,x=.exit j)
 lt:∀j,stop=some j→j<yss.length
def hcons(s:St)(H:Nat→St):Nat→St
 |0=>s
 |i+1=>H i
theorem upN_succ(stop:Option Nat)(n:Nat):upN (stop.map (·+1)) (n+1)=upN stop n+1:=by
 cases stop with
 |none=>rfl
 |some k=>simp only[upN,Option.map_some];omega
theorem qh9{fa fb:List PV→St→Option (AExit×List PV×St)}{ps:List Nat}{e:List PV}:∀{yss:List (List PV)}{s:St}{x:AExit}{e':List PV}{s':St},qdf fa fb ps e yss s=some (x,e',s')→
 e'=e∧∃stop H,RTrace fa fb ps e yss s x s' stop H
 |[],s,x,e',s',h=>by
   simp only[qdf]at h;cases h;exact⟨rfl,none,fun _=>s,rfl,rfl,fun i ys hi=>by simp at hi,⟨fun _=>rfl,fun h=>absurd rfl h⟩,(fun _ h=>by cases h)⟩
 |ys::rest,s,x,e',s',h=>by
   simp only[qdf]at h;split at h
   next hlen=>
     split at h
     next e1 s1 h1=>
       have stopped:∀{x':AExit}{e2:List PV}{s2:St},fb e1 s1=some (x',e2,s2)→(x'=.ret∨∃j,x'=.exit j)→∃stop H,RTrace fa fb ps e (ys::rest) s x' s2 stop H:=by
        intro x' e2 s2 h2 hx;refine⟨some 0,hcons s fun _=>s2,rfl,by simp[upN,hcons],fun i ys' hi hlt=>?_,⟨(fun h=>by cases h),fun _=>hx⟩,fun j hj=>by cases hj;simp⟩;have:i=0:=by simp[upN]at hlt;omega
        subst this;simp at hi;subst hi;exact⟨hlen,e1,s1,e2,h1,by simpa[hcons]using h2⟩
       split at h
       next e2 s2 h2=>
         obtain⟨rfl,stop,H,Tr⟩:=qh9 h;refine⟨rfl,stop.map (·+1),hcons s H,rfl,?_,fun i ys' hi hlt=>?_,⟨fun h=>Tr.out.1 (by cases stop<;>simp_all),fun h=>Tr.out.2 (by cases stop<;>simp_all)⟩,fun j hj=>?_⟩
         · rw[List.length_cons,upN_succ];exact Tr.last
         · cases i with
           |zero=>
             simp at hi;subst hi;refine⟨hlen,e1,s1,e2,h1,?_⟩;have:(if(stop.map (·+1))=some 0 then x else AExit.normal)=.normal:=by cases stop<;>simp
             rw[this];show fb e1 s1=some (.normal,e2,H 0);rw[Tr.first];exact h2
           |succ i=>
             have hlt':i<upN stop rest.length:=by rw[List.length_cons,upN_succ]at hlt;omega
             have:=Tr.rounds i ys' (by simpa using hi) hlt';have he:(if(stop.map (·+1))=some (i+1)then x else AExit.normal)=(if stop=some i then x else .normal):=by cases stop<;>simp
             rw[he];exact this
         · cases stop with
           |none=>simp at hj
           |some k=>
             simp at hj;have:=Tr.lt k rfl;simp;omega
       ·grind
       ·simp_all
       ·cases h
     ·cases h
   ·cases h
end Go.AE
namespace Go.AE
open Go
section
variable {w:World}{I:Nat→Nat→Prop}{D:Nat→Prop}{ρ:Nat→Row}
theorem qn3{h:List Obj}{n0 n:Nat}(S:Sim w I D ρ h){I2:Nat→Nat→Prop}{D2:Nat→Prop}{o p:PV}{v:Value}(hf:frz h n0 n o=some p)(hv:VR w I D ρ o v)(hp:VR w I2 D2 ρ p v):VR w I2 D2 ρ (qo9 o p) v:=by
 cases n with
 |zero=>simp[frz]at hf
 |succ n=>
 unfold qo9;split
 next sz0 es0 m sz es m'=>
   cases hp with
   |slice _ _ _ a cap b oo vs hsz hm hne hcap hlen hat hvv=>
     generalize hL:es.length=L at hv;cases hv with
     |slice _ _ _ a2 cap2 b2 oo2 vs2 hsz2 hm2 hne2 hcap2 hlen2 hat2 hvv2=>
       rw[←hL];refine .slice sz es _ a cap b oo vs hsz ?_ hne hcap hlen hat hvv;cases m with
       |nil=>obtain⟨h1,h2,h3⟩:=hm2;exact⟨h1,h2,by omega⟩
       |lit=>obtain⟨h1,h2⟩:=hm2;exact⟨h1,by omega⟩
       |tok k=>exact hm2.2.1
       |nonnil=>exact hm2
       |any=>trivial
       |full=>trivial
 next k asz off len tip sz es m'=>
   cases hp with
   |slice _ _ _ a cap b oo vs hsz hm hne hcap hlen hat hvv=>
     cases hv with
     |aref _ _ _ _ _ a2 cap2 hD htip hs hlc hA=>
       refine .slice sz es _ a cap b oo vs hsz ?_ hne hcap hlen hat hvv;split
       next hc=>
         rcases hc with h0|h0
         · simp only[frz]at hf;rw[if_neg (by simp[PV.pure])]at hf;split at hf
           ·grind
           · split at hf
             next sz' es' hkk=>
               split at hf
               next ht=>
                 have hok:=S.obj k _ hD hkk;obtain⟨_,_,_,a4⟩:=hA (by rw[hok.1,ht.1]);show a.isSome=true;rw[a4 (.inr h0)];rfl
               ·grind
             ·grind
         ·exact hs h0
       ·trivial
 ·exact hp
theorem frz_tuple{h:List Obj}{n0 n:Nat}{os:List PV}{p:PV}(hf:frz h n0 n (.tuple os)=some p):∃ns,p=.tuple ns∧ns.length=os.length∧∀j,j<os.length→∃m,frz h n0 m (os.getD j .undef)=some (ns.getD j .undef):=by
 cases n with
 |zero=>simp[frz]at hf
 |succ n=>
   simp only[frz]at hf;split at hf
   next hp=>
     cases hf;simp only[PV.pure]at hp;refine⟨qaq os,rfl,by simp[qce],fun j hj=>⟨1,?_⟩⟩;rw[qce,qc3];simp only[frz];rw[if_pos (qc0 ((qcz os).1 hp) j)]
   · simp only[oM0]at hf;obtain⟨l,hl,rfl⟩:=hf;obtain⟨h1,h2⟩:=qfq hl;exact⟨l,rfl,h1,fun j hj=>⟨n,h2 j hj⟩⟩
theorem qsw{h:List Obj}{n0 n:Nat}(S:Sim w I D ρ h){I2:Nat→Nat→Prop}{D2:Nat→Prop}{o p:PV}{v:Value}(hf:frz h n0 n o=some p)(hv:VR w I D ρ o v)(hp:VR w I2 D2 ρ p v):VR w I2 D2 ρ (qhu o p) v:=by
 unfold qhu;split
 next os ns=>
   obtain⟨ns',he,hl,hj⟩:=frz_tuple hf;cases he;cases hv with
   |tuple _ vs hlen hvv=>
     cases hp with
     |tuple _ _ hlen2 hvv2=>
       refine .tuple _ vs (by simpa using hlen2) fun j=>?_;by_cases hjl:j<ns.length
       · obtain⟨m,hm⟩:=hj j (by omega);have key:=qn3 S hm (hvv j) (hvv2 j);rw[gD0]at key⊢;simp only[gM0,List.getElem?_zipIdx];rw[gD0,gE0 hjl]at key;rw[gE0 hjl];simpa using key
       ·grind
 ·exact qn3 S hf hv hp
theorem top_row{k:Nat}{o:Obj}{N:Nat}(hD:∀k,D k→k<N)(h:OK w I D ρ k o):¬ge N o.top:=by
 cases o with
 |row sz es=>
   obtain⟨_,_,_,_,_,c,E,fr,_,_,_,h9⟩:=h;simp only[Obj.top];intro hg;obtain⟨x,hx,hg⟩:=qb5.1 hg;obtain⟨y,hy,hgy⟩:=qfp.2 hg;have hmem:y∈flat es:=List.mem_flatMap.2 ⟨x,hx,hy⟩;obtain⟨j,hjl,rfl⟩:=List.mem_iff_getElem.1 hmem;have:=(h9 j).top_in hD;rw[gD0,gE0 hjl]at this;exact this hgy
 |tok sz m=>exact qfe
 |map es=>
   obtain⟨_,_,ents,cl,_,_,h8⟩:=h;simp only[Obj.top,qfx];rintro(hg|hg)
   · obtain⟨x,hx,hg⟩:=qb5.1 hg;obtain⟨y,hy,rfl⟩:=mM0.1 hx;obtain⟨j,hjl,rfl⟩:=List.mem_iff_getElem.1 hy;have:=(h8 j).1.top_in hD;rw[gD0,gE0 hjl]at this;exact this hg
   · obtain⟨x,hx,hg⟩:=qb5.1 hg;obtain⟨y,hy,rfl⟩:=mM0.1 hx;obtain⟨j,hjl,rfl⟩:=List.mem_iff_getElem.1 hy;have:=(h8 j).2.top_in hD;rw[gD0,gE0 hjl]at this;exact this hg
theorem VR.lower{I2:Nat→Nat→Prop}{N:Nat}(hI:∀b o,I b o→I2 b o){p:PV}{v:Value}(h:VR w I D ρ p v)(hn:¬ge N p.top):VR w I2 (fun k=>D k∧k<N) ρ p v:=
 (h.restrict hn).carry (fun b o hi=>⟨hI b o hi,rfl⟩) (fun _ h=>h) (fun _ _=>⟨nR0 _,fun _=>rfl⟩)
theorem OK.lower{k:Nat}{o:Obj}{I2:Nat→Nat→Prop}{N:Nat}(hI:∀b o,I b o→I2 b o)(hI2:∀o,I2 (ρ k).blk o→I (ρ k).blk o)(h:OK w I D ρ k o)(hn:¬ge N o.top):OK w I2 (fun k=>D k∧k<N) ρ k o:=by
 cases o with
 |row sz es=>
   obtain⟨h1,h2,h3,h4,h5,c,E,fr,h6,h7,h8,h9⟩:=h;refine⟨h1,h2,h3,h4,fun o ho=>h5 o (hI2 o ho),c,E,fr,h6,h7,h8,fun j=>(h9 j).lower hI fun hg=>hn ?_⟩;by_cases hj:j< (flat es).length
   · rw[gD0,gE0 hj]at hg;obtain⟨x,hx,hy⟩:=List.mem_flatMap.1 (gX0 hj);exact qb5.2 ⟨x,hx,qfp.1 ⟨_,hy,hg⟩⟩
   · rw[qaz (flat es) j _ hj]at hg;exact absurd hg qfe
 |tok sz m=>
   obtain⟨h1,h2,h3,h4,h5⟩:=h;exact⟨h1,h2,h3,fun o ho=>h4 o (hI2 o ho),h5⟩
 |map es=>
   obtain⟨h1,h5,ents,cl,h6,h7,h8⟩:=h;simp only[Obj.top,qfx,not_or]at hn
   have one:∀j,¬ge N (es.getD j (.undef,.undef)).1.top∧¬ge N (es.getD j (.undef,.undef)).2.top:=by
    intro j;by_cases hj:j<es.length
    · rw[gD0,gE0 hj];exact⟨fun hg=>hn.1 (qb5.2 ⟨_,mM0.2 ⟨_,gX0 hj,rfl⟩,hg⟩),fun hg=>hn.2 (qb5.2 ⟨_,mM0.2 ⟨_,gX0 hj,rfl⟩,hg⟩)⟩
    · rw[gD0,List.getElem?_eq_none (by omega)];exact⟨qfe,qfe⟩
   exact⟨h1,fun o ho=>h5 o (hI2 o ho),ents,cl,h6,h7,fun j=>⟨(h8 j).1.lower hI (one j).1,(h8 j).2.lower hI (one j).2⟩⟩
theorem qni{mode:Nat}{h:List Obj}{r r':OR}{s s':St}{en:Ending}{w':World}(S0:Sim w I D ρ h)(st:Step {h,ws:=[],ups:=[]} s)
 (hp:qfy w I D ρ h r s en w')(ht:tidy mode h.length r s=(r',s')):qfy w I D ρ h r' s' en w':=by
 have same:∀l,(r,{s with ws:=l})=(r',s')→qfy w I D ρ h r' s' en w':=by intro l he;cases he;exact hp
 unfold tidy at ht;split at ht
 ·exact same _ ht
 · split at ht
   ·grind
   next hups=>
     split at ht
     ·grind
     next p' hf=>
       cases ht;obtain⟨I',ρ',N,S,En⟩:=hp;have hlen:h.length≤s.h.length:=st.len;have hDlt:∀k,D k→k<h.length:=S0.lt
       have hDD:(fun k=>ext D h.length s.h.length k∧k<h.length)=D:=by
        funext k
        apply propext;constructor
        · rintro⟨h1|h1,h2⟩
          ·exact h1
          ·omega
        ·exact fun hk=>⟨.inl hk,hDlt k hk⟩
       have htk:(s.h.take h.length).length=h.length:=by simp;omega
       have hcl:∀b o,I' b o→qcv I' (ext D h.length s.h.length) ρ' h.length b o:=fun _ _ hi=>.inl hi
       have hclD:∀k,D k→∀o,qcv I' (ext D h.length s.h.length) ρ' h.length (ρ' k).blk o→I' (ρ' k).blk o:=by
        rintro k hk o (hi|⟨k',hk',hge,he⟩)
        ·exact hi
        · have:=S.inj k k' (.inl hk) hk' he;have:=hDlt k hk;omega
       have hval:VR w' (qcv I' (ext D h.length s.h.length) ρ' h.length) D ρ' (if mode=2 then qhu r.v p' else p') (match en with|.returned v=>v|.panicked (c::_)=>c.v|_=>undef):=by
        have key:∀v,VR w' I' (ext D h.length s.h.length) ρ' r.v v→VR w' (qcv I' (ext D h.length s.h.length) ρ' h.length) D ρ' (if mode=2 then qhu r.v p' else p') v:=by
         intro v hv;have h1:=qq9 S 64 hf hv;rw[hDD]at h1;split
         ·exact qsw S hf hv h1
         ·exact h1
        cases r<;>cases en<;>simp only[EndR]at En
        ·exact key _ En
        · obtain⟨v,rfl,hv⟩:=En;exact key _ hv
       refine⟨qcv I' (ext D h.length s.h.length) ρ' h.length,ρ',?_,?_,?_⟩
       all_goals simp only[htk,qay]
       · exact{
          os:=N.os,tape:=N.tape,output:=N.output,size:=N.size,keep:=N.keep
          immI:=fun b o hi=>.inl (N.immI b o hi)
          immC:=N.immC
          immN:=by
           rintro b o (hi|⟨k,hk,hge,rfl⟩)
           ·exact N.immN b o hi
           ·exact .inr (.inl (N.blkN k hk fun hd=>by have:=hDlt k hd;omega))
          dom:=fun _ h=>h
          rho:=N.rho
          blk:=N.blk
          blkN:=fun k h1 h2=>absurd h1 h2}
       · exact{
          lt:=fun k hk=>by rw[htk];exact hDlt k hk
          obj:=fun k o hk ho=>by
           have hkl:=hDlt k hk;rw[List.getElem?_take,if_pos hkl]at ho;have hok:=(S.obj k o (.inl hk) ho).lower (N:=h.length) hcl (hclD k hk) (fun hg=>?_)
           ·rw[hDD]at hok;exact hok
           · rcases st.up h.length (nR0 _) k hkl (by rw[ho];exact hg)with h1|⟨x,hx,h1,h2⟩
             · have h1':ge h.length ((h[k]?).bind Obj.top):=h1;rw[gE0 hkl]at h1';exact top_row hDlt (S0.obj k _ hk (gE0 hkl)) h1'
             · refine hups (List.any_eq_true.2 ⟨x,hx,?_⟩);obtain⟨x1,x2⟩:=x;simp at h1 h2⊢;exact⟨h1,h2⟩
          inj:=fun k k' hk hk' he=>S.inj k k' (.inl hk) (.inl hk') he
          imm:=by
           rintro b o (hi|⟨k,hk,_,rfl⟩)
           ·exact S.imm b o hi
           ·exact S.blk_lt k hk}
       · cases r<;>cases en<;>simp only[EndR]at En
         ·exact hval
         · obtain⟨v,rfl,hv⟩:=En;exact⟨v,rfl,hval⟩
end
end Go.AE
namespace Go.AE
open Go
section
variable {P:Program}{T:Tbl}{call:FuncId→List PV→List Obj→Option qam}{rows:List Nat}{nt base:Nat}
def qb6(base:Nat)(w:World)(I:Nat→Nat→Prop)(D:Nat→Prop)(ρ:Nat→Row)(nt:Nat)(s s':St)(x:AExit)(e':List PV)(Q:Exit→Act→World→Prop):Prop:=
 match x with
 |.normal=> ∀a' w' I' ρ',Nxt w I D ρ w' I' (ext D s.h.length s'.h.length) ρ'→Sim w' I' (ext D s.h.length s'.h.length) ρ' s'.h→EnvR w' I' (ext D s.h.length s'.h.length) ρ' nt e' a'→Marks base w' I' (ext D s.h.length s'.h.length) ρ' a'.defers→Q .normal a' w'
 |.exit id=> ∀a' w' I' ρ',Nxt w I D ρ w' I' (ext D s.h.length s'.h.length) ρ'→Sim w' I' (ext D s.h.length s'.h.length) ρ' s'.h→EnvR w' I' (ext D s.h.length s'.h.length) ρ' nt e' a'→Marks base w' I' (ext D s.h.length s'.h.length) ρ' a'.defers→Q (.exit id) a' w'
 |.ret=> ∀a' w' I' ρ',Nxt w I D ρ w' I' (ext D s.h.length s'.h.length) ρ'→Sim w' I' (ext D s.h.length s'.h.length) ρ' s'.h→EnvR w' I' (ext D s.h.length s'.h.length) ρ' nt e' a'→Marks base w' I' (ext D s.h.length s'.h.length) ρ' a'.defers→Q .ret a' w'
 |.pan p=> ∀a' w' I' ρ' v,Nxt w I D ρ w' I' (ext D s.h.length s'.h.length) ρ'→Sim w' I' (ext D s.h.length s'.h.length) ρ' s'.h→VR w' I' (ext D s.h.length s'.h.length) ρ' p v→Marks base w' I' (ext D s.h.length s'.h.length) ρ' a'.defers→Q (.panic [{v,recovered:=false}]) a' w'
variable {w:World}{I:Nat→Nat→Prop}{D:Nat→Prop}{ρ:Nat→Row}
theorem qb6.from{s s1 s2:St}(S:Sim w I D ρ s.h){w1:World}{I1:Nat→Nat→Prop}{ρ1:Nat→Row}(h1:s.h.length≤s1.h.length)(h2:s1.h.length≤s2.h.length)
 (N:Nxt w I D ρ w1 I1 (ext D s.h.length s1.h.length) ρ1){x:AExit}{e':List PV}{Q:Exit→Act→World→Prop}(A:qb6 base w I D ρ nt s s2 x e' Q):
 qb6 base w1 I1 (ext D s.h.length s1.h.length) ρ1 nt s1 s2 x e' Q:=by
 have he:=qg8 D h1 h2;have hb:∀k,D k→(ρ k).blk<w.heap.size:=fun k hk=>S.blk_lt k hk;cases x<;>simp only[qb6,he]at A⊢
 ·exact fun a' w' I' ρ' n S' E'=>A a' w' I' ρ' (Nxt.trans hb N n) S' E'
 ·exact fun a' w' I' ρ' n S' E'=>A a' w' I' ρ' (Nxt.trans hb N n) S' E'
 ·exact fun a' w' I' ρ' n S' E'=>A a' w' I' ρ' (Nxt.trans hb N n) S' E'
 ·exact fun a' w' I' ρ' v n S' E'=>A a' w' I' ρ' v (Nxt.trans hb N n) S' E'
theorem qb6.stay{e:List PV}{s:St}{a:Act}(S:Sim w I D ρ s.h)(E:EnvR w I D ρ nt e a)(M:Marks base w I D ρ a.defers){x:AExit}{Q:Exit→Act→World→Prop}(A:qb6 base w I D ρ nt s s x e Q):
 match x with|.normal=>Q .normal a w|.exit id=>Q (.exit id) a w|.ret=>Q .ret a w|.pan _=>True:=by
 cases x<;>simp only[qb6,qay]at A⊢
 ·exact A a w I ρ (Nxt.refl _ _ _ _) S E M
 ·exact A a w I ρ (Nxt.refl _ _ _ _) S E M
 ·exact A a w I ρ (Nxt.refl _ _ _ _) S E M
theorem AfterOps.of_code{s s':St}{po:Option PV}{e':List PV}{ds:List Deferred}(M:Marks base w I D ρ ds){Q:Exit→Act→World→Prop}(h:∀x,(po=none→x=.normal)→(∀p,po=some p→x=.pan p)→qb6 base w I D ρ nt s s' x e' Q):AfterOps w I D ρ nt ds s s' po e' Q where
 fin hp a' w' I' ρ' N S E hd:=by subst hp;exact h .normal (fun _=>rfl) (fun _ hp=>by cases hp) a' w' I' ρ' N S E (by rw[hd];exact M.next N)
 pan p hp a' w' I' ρ' v N S V hd:=by subst hp;exact h (.pan p) (fun hp=>by cases hp) (fun _ hp=>by cases hp;rfl) a' w' I' ρ' v N S V (by rw[hd];exact M.next N)
theorem cut_sound{h h1:List Obj}{w':World}{I':Nat→Nat→Prop}{ρ':Nat→Row}{Dx:Nat→Prop}(S0:Sim w I D ρ h)(hlen:h.length≤h1.length)(hx:∀k,(Dx k∧k<h.length)↔D k)(N:Nxt w I D ρ w' I' Dx ρ')(S:Sim w' I' Dx ρ' h1)
 (htop:∀k,D k→¬ge h.length ((h1[k]?).bind Obj.top)):Nxt w I D ρ w' (qcv I' Dx ρ' h.length) D ρ'∧Sim w' (qcv I' Dx ρ' h.length) D ρ' (h1.take h.length):=by
 have hDlt:∀k,D k→k<h.length:=S0.lt;have hDx:∀k,D k→Dx k:=fun k hk=>((hx k).2 hk).1;have hDD:(fun k=>Dx k∧k<h.length)=D:=funext fun k=>propext (hx k);have htk:(h1.take h.length).length=h.length:=by simp;omega
 have hcl:∀b o,I' b o→qcv I' Dx ρ' h.length b o:=fun _ _ hi=>.inl hi
 have hclD:∀k,D k→∀o,qcv I' Dx ρ' h.length (ρ' k).blk o→I' (ρ' k).blk o:=by
  rintro k hk o (hi|⟨k',hk',hge,he⟩)
  ·exact hi
  · have:=S.inj k k' (hDx k hk) hk' he;have:=hDlt k hk;omega
 refine⟨?_,?_⟩
 · exact{
    os:=N.os,tape:=N.tape,output:=N.output,size:=N.size,keep:=N.keep
    immI:=fun b o hi=>.inl (N.immI b o hi)
    immC:=N.immC
    immN:=by
     rintro b o (hi|⟨k,hk,hge,rfl⟩)
     ·exact N.immN b o hi
     ·exact .inr (.inl (N.blkN k hk fun hd=>by have:=hDlt k hd;omega))
    dom:=fun _ h=>h
    rho:=N.rho
    blk:=N.blk
    blkN:=fun k h1 h2=>absurd h1 h2}
 · exact{
    lt:=fun k hk=>by rw[htk];exact hDlt k hk
    obj:=fun k o hk ho=>by have hkl:=hDlt k hk;rw[List.getElem?_take,if_pos hkl]at ho;have hok:=(S.obj k o (hDx k hk) ho).lower (N:=h.length) hcl (hclD k hk) (fun hg=>htop k hk (by rw[ho];exact hg));rw[hDD]at hok;exact hok
    inj:=fun k k' hk hk' he=>S.inj k k' (hDx k hk) (hDx k' hk') he
    imm:=by
     rintro b o (hi|⟨k,hk,_,rfl⟩)
     ·exact S.imm b o hi
     ·exact S.blk_lt k hk}
theorem AfterD.ofN{s s':St}{e':List PV}{ds:List Deferred}(M:Marks base w I D ρ ds){Q:Exit→Act→World→Prop}(A:qb6 base w I D ρ nt s s' .normal e' Q):AfterD w I D ρ nt ds s s' none e' Q where
 fin _ a' w' I' ρ' N S E hd:=A a' w' I' ρ' N S E (by rw[hd];exact M.next N)
 pan p hp:=by cases hp
 flo p hp:=by cases hp
theorem AfterD.ofP{s s':St}{e':List PV}{ds:List Deferred}{v:PV}(M:Marks base w I D ρ ds){Q:Exit→Act→World→Prop}(A:qb6 base w I D ρ nt s s' (.pan v) e' Q):AfterD w I D ρ nt ds s s' (some (v,true)) e' Q where
 fin hp:=by cases hp
 pan p hp a' w' I' ρ' v N S V hd:=by cases hp;exact A a' w' I' ρ' v N S V (by rw[hd];exact M.next N)
 flo p hp:=by cases hp
theorem AfterD.ofF{s s1:St}{e':List PV}{ds:List Deferred}{v:PV}(M:Marks base w I D ρ ds){Q:Exit→Act→World→Prop}(S0:Sim w I D ρ s.h)(st:Step s s1)(ok:cutOk s.h.length v s1=true)(A:qb6 base w I D ρ nt s (cutAt s.h.length s1) (.pan v.weak) e' Q):AfterD w I D ρ nt ds s s1 (some (v,false)) e' Q where
 fin hp:=by cases hp
 pan p hp:=by cases hp
 flo p hp a' w' I' ρ' Dx x hx N S V hd:=by
  cases hp;simp only[cutOk,bA0,Bool.not_eq_true']at ok;obtain⟨hp,hu⟩:=ok;have hlen:=st.len;have hDlt:∀k,D k→k<s.h.length:=S0.lt;have hDD:(fun k=>Dx k∧k<s.h.length)=D:=funext fun k=>propext (hx k)
  obtain⟨N2,S2⟩:=cut_sound S0 hlen hx N S fun k hk hg=>by
   have hkl:=hDlt k hk;rcases st.up s.h.length (nR0 _) k hkl hg with h1|⟨y,hy,h1,h2⟩
   · rw[gE0 hkl]at h1;exact top_row hDlt (S0.obj k _ hk (gE0 hkl)) h1
   ·grind
  have hf:frz s1.h s.h.length 1 v=some v.weak:=by simp[frz,hp]
  have V2:=qq9 (n0:=s.h.length) S 1 hf V;rw[hDD]at V2;have hl:(cutAt s.h.length s1).h.length=s.h.length:=by simp[cutAt];omega
  have key:ext D s.h.length (cutAt s.h.length s1).h.length=D:=by rw[hl,qay]
  simp only[qb6,key]at A;exact A a' w' _ ρ' x N2 S2 V2 (by rw[hd];exact M.next N2)
def qkb(P:Program)(T:Tbl):Prop:=∀gf it,T.iter gf=some it→∀captured yss,it captured=some yss→qfz P gf captured yss
def qtq(P:Program)(T:Tbl)(call:FuncId→List PV→List Obj→Option qam)(rows:List Nat)(nt n k:Nat)(g:Operand)(ps:Array Tmp)(c1 c2:Code):Prop:=
 ∀{base:Nat}{e:List PV}{s:St}{x:AExit}{e':List PV}{s':St}{a:Act}{w:World}{I:Nat→Nat→Prop}{D:Nat→Prop}{ρ:Nat→Row}{Q:Exit→Act→World→Prop},
  qa0 T call n (comp P rows nt (.rangeFunc g ps c1 c2)) e s=some (x,e',s')→Sim w I D ρ s.h→EnvR w I D ρ nt e a→Marks base w I D ρ a.defers→base≤w.heap.size→(∀a w,¬Q .outgrown a w)→qb6 base w I D ρ nt s s' x e' Q→(Code.rangeFunc g ps c1 c2).wpIn (wr none) k P Q a w
theorem qhd(hm:P.follows .mixedOrders=true)(hT:∀f p,T.prim f=some p→qev P f p)(hC:qd0 P call)(hS:qa7 call)(n k:Nat){r:Option Nat}(hrange:r=none→∀g ps c1 c2,qbf c1=true→qbf c2=true→qtq P T call rows nt n k g ps c1 c2):
 ∀(c:Code),(r=none∨qbf c=true)→∀{base:Nat}{e:List PV}{s:St}{x:AExit}{e':List PV}{s':St}{a:Act}{w:World}{I:Nat→Nat→Prop}{D:Nat→Prop}{ρ:Nat→Row}{Q:Exit→Act→World→Prop},
   qa0 T call n (comp P rows nt c) e s=some (x,e',s')→Sim w I D ρ s.h→EnvR w I D ρ nt e a→Marks base w I D ρ a.defers→base≤w.heap.size→(∀a w,¬Q .outgrown a w)→qb6 base w I D ρ nt s s' x e' Q→c.wpIn (wr r) k P Q a w:=by
 intro c;induction c with
 |skip=>
   intro _ base e s x e' s' a w I D ρ Q h S E M hb hQ A;simp only[comp,qa0]at h;cases h;exact wpIn_skip (A.stay S E M)
 |label l=>
   intro _ base e s x e' s' a w I D ρ Q h S E M hb hQ A;simp only[comp,qa0]at h;cases h;exact wpIn_label (A.stay S E M)
 |region id ops d=>
   intro _ base e s x e' s' a w I D ρ Q h S E M hb hQ A;cases d with
   |false=>
     simp only[comp]at h;split at h
     next hnd=>
       simp only[qa0]at h;refine wpIn_region ?_;rw[List.range_eq_range'];split at h
       next e1 s1 h1=>
         cases h;exact qi3 (.inr (qdr hnd)) hQ _ _ _ (qpc hT hC hS ops Q ops.size 0 _ _ _ _ _ _ _ _ _ _ (by omega) rfl (by simpa using h1) S E (.of_code M fun x h1 _=>by rw[h1 rfl];exact A))
       next p e1 s1 h1=>
         cases h;exact qi3 (.inr (qdr hnd)) hQ _ _ _ (qpc hT hC hS ops Q ops.size 0 _ _ _ _ _ _ _ _ _ _ (by omega) rfl (by simpa using h1) S E (.of_code M fun x _ h1=>by rw[h1 _ rfl];exact A))
       ·cases h
     ·simp only[qa0]at h;cases h
   |true=>
     simp only[comp]at h;split at h
     next hc=>
       simp only[bA0]at hc;simp only[qa0]at h;split at h
       next e1 s1 h1=>
         cases h;exact wpIn_region_any hm (qgl (.inr (qdr hc.1.1.1.1)) hQ _ _ _ _ (qjb hT hC hS hc.1.1.1.2 hc.1.1.2 hc.1.2 hc.2 h1 S E rfl (.ofN M A)))
       next p e1 s1 h1=>
         cases h;exact wpIn_region_any hm (qgl (.inr (qdr hc.1.1.1.1)) hQ _ _ _ _ (qjb hT hC hS hc.1.1.1.2 hc.1.1.2 hc.1.2 hc.2 h1 S E rfl (.ofP M A)))
       next p e1 s1 h1=>
         split at h
         next hok=>
           cases h;exact wpIn_region_any hm (qgl (.inr (qdr hc.1.1.1.1)) hQ _ _ _ _ (qjb hT hC hS hc.1.1.1.2 hc.1.1.2 hc.1.2 hc.2 h1 S E rfl (.ofF M S (qdm hS h1) hok A)))
         ·cases h
       ·cases h
     ·simp only[qa0]at h;cases h
 |seq b c ihb ihc=>
   intro hr base e s x e' s' a w I D ρ Q h S E M hb hQ A;have hrb:r=none∨qbf b=true:=hr.imp id fun h=>by simp only[qbf,bA0]at h;exact h.1
   have hrc:r=none∨qbf c=true:=hr.imp id fun h=>by simp only[qbf,bA0]at h;exact h.2
   simp only[comp,qa0]at h;refine wpIn_seq ?_;split at h
   next e1 s1 h1=>
     have st1:=qa2 hS n h1;have st2:=qa2 hS n h;refine ihb hrb h1 S E M hb (fun a w=>hQ a w) fun a1 w1 I1 ρ1 N1 S1 E1 M1=>?_;exact ihc hrc h S1 E1 M1 (nT0 hb N1.size) hQ (A.from S st1.len st2.len N1)
   next hne=>
     refine ihb hrb h S E M hb (fun a w=>hQ a w) ?_;cases x with
     |normal=>exact absurd h (hne _ _)
     |exit id=>exact A
     |ret=>exact A
     |pan p=>exact A
 |cond c t f iht ihf=>
   intro hr base e s x e' s' a w I D ρ Q h S E M hb hQ A;have hrb:r=none∨qbf t=true:=hr.imp id fun h=>by simp only[qbf,bA0]at h;exact h.1
   have hrc:r=none∨qbf f=true:=hr.imp id fun h=>by simp only[qbf,bA0]at h;exact h.2
   simp only[comp,qa0]at h;have hc:=E.eval c;split at h
   next hk=>
     rw[hk]at hc;generalize hv:a.eval c=v at hc;cases hc;exact wpIn_cond_true hv (iht hrb h S E M hb hQ A)
   next hk=>
     rw[hk]at hc;generalize hv:a.eval c=v at hc;cases hc;exact wpIn_cond_false hv (ihf hrc h S E M hb hQ A)
   ·cases h
 |block id b ih=>
   intro hr base e s x e' s' a w I D ρ Q h S E M hb hQ A;have hrb:r=none∨qbf b=true:=hr.imp (fun h=>h) fun h=>by simpa only[qbf]using h
   simp only[comp,qa0]at h;refine wpIn_block ?_;split at h
   next i e1 s1 h1=>
     split at h
     next hi=>
       cases h;subst hi;refine ih hrb h1 S E M hb (fun a w=>hQ a w) fun a1 w1 I1 ρ1 N1 S1 E1 M1=>?_;simp only[Exit.inBlock,if_true];exact A a1 w1 I1 ρ1 N1 S1 E1 M1
     next hi=>
       cases h;refine ih hrb h1 S E M hb (fun a w=>hQ a w) fun a1 w1 I1 ρ1 N1 S1 E1 M1=>?_;simp only[Exit.inBlock,if_neg hi];exact A a1 w1 I1 ρ1 N1 S1 E1 M1
   next hne=>
     refine ih hrb h S E M hb (fun a w=>hQ a w) ?_;cases x with
     |normal=>exact A
     |exit id=>exact absurd h (hne _ _ _)
     |ret=>exact A
     |pan p=>exact A
 |loop b ih=>
   intro hr base e s x e' s' a w I D ρ Q h S E M hb hQ A;have hrb:r=none∨qbf b=true:=hr.imp (fun h=>h) fun h=>by simpa only[qbf]using h
   simp only[comp,qa0]at h;refine wpIn_loop_rounds n ?_
   have key:∀(m:Nat){e:List PV}{s:St}{a:Act}{w:World}{I:Nat→Nat→Prop}{D:Nat→Prop}{ρ:Nat→Row},
    qfr (qa0 T call n (comp P rows nt b)) m e s=some (x,e',s')→Sim w I D ρ s.h→EnvR w I D ρ nt e a→Marks base w I D ρ a.defers→base≤w.heap.size→qb6 base w I D ρ nt s s' x e' Q→Code.roundsIn (wr r) k P b Q m a w:=by
    intro m;induction m with
    |zero=>intro e s a w I D ρ h;simp[qfr]at h
    |succ m ihm=>
      intro e s a w I D ρ h S E M hb A;simp only[qfr]at h;rw[roundsIn_succ];split at h
      next e1 s1 h1=>
        have st1:=qa2 hS n h1;have st2:=qik (fun e s x e' s' h=>qa2 hS n h) h;refine ih hrb h1 S E M hb (fun a w=>hQ a w) fun a1 w1 I1 ρ1 N1 S1 E1 M1=>?_;exact ihm h S1 E1 M1 (nT0 hb N1.size) (A.from S st1.len st2.len N1)
      next hne=>
        refine ih hrb h S E M hb (fun a w=>hQ a w) ?_;cases x with
        |normal=>exact absurd h (hne _ _)
        |exit id=>exact A
        |ret=>exact A
        |pan p=>exact A
   exact key n h S E M hb A
 |exit id=>
   intro _ base e s x e' s' a w I D ρ Q h S E M hb hQ A;simp only[comp,qa0]at h;cases h;exact wpIn_exit (A.stay S E M)
 |ret=>
   intro _ base e s x e' s' a w I D ρ Q h S E M hb hQ A;simp only[comp,qa0]at h;cases h;exact wpIn_ret (A.stay S E M)
 |rangeFunc g ps c1 c2=>
   intro hr base e s x e' s' a w I D ρ Q h S E M hb hQ A;rcases hr with rfl|hr
   · have hok:qbf c1=true∧qbf c2=true:=by
      simp only[comp]at h;split at h
      next hc=>
        simp only[bA0]at hc;exact⟨hc.1.2,hc.2⟩
      ·simp only[qa0]at h;cases h
     exact hrange rfl g ps c1 c2 hok.1 hok.2 h S E M hb hQ A
   ·simp[qbf]at hr
 |_=>
   intro _ base e s x e' s' a w I D ρ Q h S E M hb hQ A;simp only[comp,qa0]at h;cases h
end
end Go.AE
namespace Go.AE
open Go
section
variable {P:Program}{T:Tbl}{call:FuncId→List PV→List Obj→Option qam}{rows:List Nat}{nt:Nat}
theorem puts_env{w:World}{I:Nat→Nat→Prop}{D:Nat→Prop}{ρ:Nat→Row}:∀{ps:List Nat}{ys:List PV}{us:List Value}{e:List PV}{tmps:Array Value}{ds ds':List Deferred},ys.length=ps.length→(∀p∈ps,p<nt)→VRs w I D ρ ys us→EnvR w I D ρ nt e {tmps,defers:=ds}→
 EnvR w I D ρ nt (puts e ps ys) {tmps:=(ps.zip us).foldl (fun t (p,v)=>t.setIfInBounds p v) tmps,defers:=ds'}
 |[],ys,us,e,tmps,ds,ds',hl,_,V,E=>by
   cases ys with
   |nil=>exact⟨E.size,E.len,E.at_⟩
   |cons y ys=>simp at hl
 |p::ps,[],us,e,tmps,ds,ds',hl,_,V,E=>by simp at hl
 |p::ps,y::ys,us,e,tmps,ds,ds',hl,hp,V,E=>by
   cases us with
   |nil=>have:=V.1;simp at this
   |cons u us=>
     have h1:=E.put (some p) (fun i hi=>by cases hi;exact hp p (by simp)) (V.2 0);simp only[putD,Act.put]at h1;have V':VRs w I D ρ ys us:=⟨by have:=V.1;simpa using this,fun j=>V.2 (j+1)⟩;exact puts_env (ps:=ps) (by simpa using hl) (fun q hq=>hp q (by simp[hq])) V' h1
def qg1(fn:FuncId)(tmps:Array Value)(ps:Array Tmp)(c1 c2:Code)(D:Nat)(st:LoopState)(pe:Option Code):Loop:={state:=st,pending:=pe,fn,tmps,params:=ps,assign:=c1,body:=c2,defers:=D}
def qq2:AExit→Option Code
 |.ret=>some .ret
 |.exit i=>some (.exit i)
 |_=>none
def qg2(fn:FuncId)(tmps:Array Value)(ps:Array Tmp)(c1 c2:Code)(D:Nat)(stop:Option Nat)(x:AExit)(i:Nat):Loop:=
 if∃j,stop=some j∧i=j+1 then qg1 fn tmps ps c1 c2 D .done (qq2 x)else qg1 fn tmps ps c1 c2 D .ready none
structure Betw (w:World)(I:Nat→Nat→Prop)(D:Nat→Prop)(ρ:Nat→Row)(h0:List Obj)(rec:Nat→Loop)(H:Nat→St)(N i:Nat)(W:World)(I':Nat→Nat→Prop)(X:Nat→Prop)(ρ':Nat→Row):Prop where
 le:i≤N
 len:h0.length≤(H i).h.length
 nxt:Nxt w I D ρ W I' (ext D h0.length (H i).h.length) ρ'
 sim:Sim W I' (ext D h0.length (H i).h.length) ρ' (H i).h
 loop:W.heap[w.heap.size+1]?=some (.loop (rec i))
 mark:W.heap[w.heap.size]?=some (.deferred (some []))
 notI:∀o,¬I' w.heap.size o∧¬I' (w.heap.size+1) o
 own:∀b,X b↔(qgz (ext D h0.length (H i).h.length) ρ' b∨b=w.heap.size∨b=w.heap.size+1)
theorem Sim.notRow{w:World}{I:Nat→Nat→Prop}{D:Nat→Prop}{ρ:Nat→Row}{h:List Obj}(S:Sim w I D ρ h){b:Nat}{o:Go.Obj}(ho:w.heap[b]?=some o)(h1:∀c E fr,o≠.cells c E fr)(h2:∀e c,o≠.map e c):¬qgz D ρ b:=by
 rintro⟨k,hk,rfl⟩;rcases S.kind hk with⟨c,E,fr,h⟩|⟨e,c,h⟩
 ·grind
 ·grind
variable {w:World}{I:Nat→Nat→Prop}{D:Nat→Prop}{ρ:Nat→Row}{h0:List Obj}{rec:Nat→Loop}{H:Nat→St}{N i:Nat}{W:World}{I':Nat→Nat→Prop}{X:Nat→Prop}{ρ':Nat→Row}
theorem Betw.rowL(B:Betw w I D ρ h0 rec H N i W I' X ρ'):¬qgz (ext D h0.length (H i).h.length) ρ' (w.heap.size+1):=B.sim.notRow B.loop (by simp) (by simp)
theorem Betw.rowM(B:Betw w I D ρ h0 rec H N i W I' X ρ'):¬qgz (ext D h0.length (H i).h.length) ρ' w.heap.size:=B.sim.notRow B.mark (by simp) (by simp)
theorem Betw.stp(B:Betw w I D ρ h0 rec H N i W I' X ρ'){w':World}{I'':Nat→Nat→Prop}{Y:Nat→Prop}(s:Stp Y W I' w' I'')(hY:∀k,Y k→¬X k)(hlo:∀k,Y k→w.heap.size≤k)(him:∀k o,I'' k o→k<w'.heap.size):Betw w I D ρ h0 rec H N i w' I'' X ρ' where
 le:=B.le
 len:=B.len
 nxt:=B.nxt.stp_after s hlo
 sim:=B.sim.stp s (fun k hk hy=>hY _ hy ((B.own _).2 (.inl ⟨k,hk,rfl⟩))) him
 loop:=(s.keep _ (Array.getElem?_eq_some_iff.1 B.loop).1 fun hy=>hY _ hy ((B.own _).2 (.inr (.inr rfl)))).trans B.loop
 mark:=(s.keep _ (Array.getElem?_eq_some_iff.1 B.mark).1 fun hy=>hY _ hy ((B.own _).2 (.inr (.inl rfl)))).trans B.mark
 notI o:=by
  have h1:=(Array.getElem?_eq_some_iff.1 B.loop).1;refine⟨fun ho=>?_,fun ho=>?_⟩
  · rcases s.immN _ _ ho with h|h|h
    ·exact(B.notI o).1 h
    ·omega
    ·exact hY _ h ((B.own _).2 (.inr (.inl rfl)))
  · rcases s.immN _ _ ho with h|h|h
    ·exact(B.notI o).2 h
    ·omega
    ·exact hY _ h ((B.own _).2 (.inr (.inr rfl)))
 own:=B.own
theorem Marks.stp{base:Nat}{w:World}{I:Nat→Nat→Prop}{D:Nat→Prop}{ρ:Nat→Row}{w':World}{I':Nat→Nat→Prop}{X:Nat→Prop}{ds:List Deferred}(M:Marks base w I D ρ ds)(s:Stp X w I w' I')
 (hX:∀d∈ds,∀b,d.target=.collected b→¬X b):Marks base w' I' D ρ ds:=by
 refine⟨M.nodup,fun d hd=>?_⟩;obtain⟨b,rfl,h2,h3,h4,h5⟩:=M.at_ d hd;have hb:=hX _ hd b rfl;have hlt:=(Array.getElem?_eq_some_iff.1 h2).1;refine⟨b,rfl,(s.keep b hlt hb).trans h2,h3,fun o ho=>?_,h5⟩;rcases s.immN _ _ ho with h|h|h
 ·exact h4 o h
 ·omega
 ·exact hb h
theorem zip_fold(ps:Array Tmp)(us:List Value)(tmps:Array Value):(ps.zip us.toArray).foldl (fun tmps (t,a)=>tmps.setIfInBounds t a) tmps=(ps.toList.zip us).foldl (fun t (p,v)=>t.setIfInBounds p v) tmps:=by rw[←Array.foldl_toList,Array.toList_zip]
theorem round_wp(hm:P.follows .mixedOrders=true)(hT:∀f p,T.prim f=some p→qev P f p)(hC:qd0 P call)(hS:qa7 call){n:Nat}{fn:FuncId}{a:Act}{ps:Array Tmp}{c1 c2:Code}(hok1:qbf c1=true)(hok2:qbf c2=true)(hps:∀p∈ps.toList,p<nt)
 {stop:Option Nat}{x:AExit}(hx:stop≠none→x=.ret∨∃j,x=.exit j){e:List PV}{ys:List PV}{us:List Value}(S0:Sim w I D ρ h0)(E:EnvR w I D ρ nt e a)
 (B:Betw w I D ρ h0 (qg2 fn a.tmps ps c1 c2 w.heap.size stop x) H N i W I' X ρ')(hi:i<N)(hN:∀j,stop=some j→N≤j+1)
 (R1:Round1 (qa0 T call n (comp P rows nt c1)) (qa0 T call n (comp P rows nt c2)) ps.toList e ys (H i) (H (i+1)) (if stop=some i then x else .normal))(V:∀D ρ,VRs W I' D ρ ys us):
 ∃fn' tmps assign body,(Instr.yield (w.heap.size+1) us.toArray).run P W=.ok (.round (w.heap.size+1) fn' tmps assign body) W∧∀k,RoundIn (wr none) k P (w.heap.size+1) fn' tmps assign body W fun en w'=>
   en=.returned (.bool (decide (stop≠some i)))∧∃I'' X'',(∃ρ'',Betw w I D ρ h0 (qg2 fn a.tmps ps c1 c2 w.heap.size stop x) H N (i+1) w' I'' X'' ρ'')∧Stp X W I' w' I''∧(∀k,X'' k→X k∨W.heap.size≤k)∧∀k o,I'' k o→k<w'.heap.size:=by
 obtain⟨hlen,e1,s1,e2,h1,h2⟩:=R1;have hready:qg2 fn a.tmps ps c1 c2 w.heap.size stop x i=qg1 fn a.tmps ps c1 c2 w.heap.size .ready none:=by unfold qg2;rw[if_neg];rintro⟨j,hj,rfl⟩;have:=hN j hj;omega
 have hl:W.heap[w.heap.size+1]?=some (.loop (qg1 fn a.tmps ps c1 c2 w.heap.size .ready none)):=by rw[←hready];exact B.loop
 have hlt:w.heap.size+1<W.heap.size:=(Array.getElem?_eq_some_iff.1 hl).1;have hbw:∀k,D k→(ρ k).blk<w.heap.size:=fun k hk=>S0.blk_lt k hk;have hus:us.toArray.size=ps.size:=by have:=(V D ρ).1;simp only[List.size_toArray];rw[this,hlen];simp
 refine⟨fn,_,c1,c2,run_yield hl hus,fun k=>roundIn_of_wpIn (F:=wr none) trivial ?_⟩;have st1:=qa2 hS n h1;have st2:=qa2 hS n h2;have E0:EnvR W I' (ext D h0.length (H i).h.length) ρ' nt (puts e ps.toList ys) {tmps:=(ps.zip us.toArray).foldl (fun tmps (t,a)=>tmps.setIfInBounds t a) a.tmps,defers:=[]}:=by rw[zip_fold];exact puts_env (ds:=a.defers) hlen hps (V _ _) (E.next B.nxt)
 refine qhd hm hT hC hS n k (r:=some (w.heap.size+1)) (fun h=>by cases h) c1 (.inr hok1) (base:=0) h1 B.sim E0 Marks.nil (Nat.zero_le _) (fun a w h=>h) fun a1 w1 I1 ρ1 N1 S1 E1 M1=>?_;have hl1:w1.heap[w.heap.size+1]?=some (.loop (qg1 fn a.tmps ps c1 c2 w.heap.size .ready none)):=(N1.stp.keep _ hlt B.rowL).trans hl
 have hI1:∀o,¬I1 (w.heap.size+1) o:=fun o ho=>by
  rcases N1.stp.immN _ _ ho with h|h|h
  ·exact(B.notI o).2 h
  ·omega
  ·exact B.rowL h
 have hlt1:w.heap.size+1<w1.heap.size:=(Array.getElem?_eq_some_iff.1 hl1).1;refine⟨_,run_beginRound hl1 rfl,?_⟩;generalize hw2:w1.putObj (w.heap.size+1) (.loop {qg1 fn a.tmps ps c1 c2 w.heap.size .ready none with state:=.busy})=w2;have stp1:Stp (fun b=>b=w.heap.size+1) w1 I1 w2 I1:=by rw[←hw2];exact qhk hl1 (by simp) (by simp) hI1
 have hl2:w2.heap[w.heap.size+1]?=some (.loop {qg1 fn a.tmps ps c1 c2 w.heap.size .ready none with state:=.busy}):=by rw[←hw2];exact World.putObj_heap_same hlt1
 have hsz2:w2.heap.size=w1.heap.size:=by rw[←hw2];simp
 have hrow1:∀k,ext (ext D h0.length (H i).h.length) (H i).h.length s1.h.length k→(ρ1 k).blk≠w.heap.size+1:=fun k hk e=>S1.notRow hl1 (by simp) (by simp) ⟨k,hk,e.symm⟩;have S2:=S1.stp stp1 (fun k hk e=>hrow1 k hk e) (fun b o h=>by rw[hsz2];exact S1.imm b o h);have M2:=M1.stp stp1 (fun d hd b ht hb=>by obtain⟨b',rfl,h2,_⟩:=M1.at_ d hd;simp at ht;subst ht hb;rw[hl1]at h2;cases h2);have hm1:w1.heap[w.heap.size]?=some (.deferred (some [])):=(N1.stp.keep _ (by omega) B.rowM).trans B.mark;have hm2:w2.heap[w.heap.size]?=some (.deferred (some [])):=(stp1.keep _ (by omega) (by omega)).trans hm1
 have finish:∀(jump:Option Code)(a3:Act)(w3:World)(I3:Nat→Nat→Prop)(ρ3:Nat→Row),qg2 fn a.tmps ps c1 c2 w.heap.size stop x (i+1)=qg1 fn a.tmps ps c1 c2 w.heap.size (if jump.isNone then .ready else .done) jump→decide (stop≠some i)=jump.isNone→
  Nxt w2 I1 (ext (ext D h0.length (H i).h.length) (H i).h.length s1.h.length) ρ1 w3 I3 (ext (ext (ext D h0.length (H i).h.length) (H i).h.length s1.h.length) s1.h.length (H (i+1)).h.length) ρ3→
  Sim w3 I3 (ext (ext (ext D h0.length (H i).h.length) (H i).h.length s1.h.length) s1.h.length (H (i+1)).h.length) ρ3 (H (i+1)).h→
  ∃v w',(Instr.endRound (w.heap.size+1) jump).run P w3=.ok v w'∧Ending.returned v=.returned (.bool (decide (stop≠some i)))∧∃I'' X'',(∃ρ'',Betw w I D ρ h0 (qg2 fn a.tmps ps c1 c2 w.heap.size stop x) H N (i+1) w' I'' X'' ρ'')∧Stp X W I' w' I''∧(∀k,X'' k→X k∨W.heap.size≤k)∧∀k o,I'' k o→k<w'.heap.size:=by
  intro jump a3 w3 I3 ρ3 hrec hb N3 S3;have hrow2:¬qgz (ext (ext D h0.length (H i).h.length) (H i).h.length s1.h.length) ρ1 (w.heap.size+1):=fun⟨k,hk,e⟩=>hrow1 k hk e.symm;have hrowM2:¬qgz (ext (ext D h0.length (H i).h.length) (H i).h.length s1.h.length) ρ1 w.heap.size:=S1.notRow hm1 (by simp) (by simp);have hl3:=(N3.stp.keep _ (by omega) hrow2).trans hl2;have hm3:=(N3.stp.keep _ (by omega) hrowM2).trans hm2
  have hI3:∀o,¬I3 (w.heap.size+1) o:=fun o ho=>by
   rcases N3.stp.immN _ _ ho with h|h|h
   ·exact hI1 o h
   ·omega
   ·exact hrow2 h
  have hIM3:∀o,¬I3 w.heap.size o:=fun o ho=>by
   rcases N3.stp.immN _ _ ho with h|h|h
   · rcases N1.stp.immN _ _ h with h|h|h
     ·exact(B.notI o).1 h
     ·omega
     ·exact B.rowM h
   ·omega
   ·exact hrowM2 h
  have hlt3:=(Array.getElem?_eq_some_iff.1 hl3).1;have stp3:=qhk (I:=I3) (o':=.loop {qg1 fn a.tmps ps c1 c2 w.heap.size .ready none with state:=if jump.isNone then .ready else .done,pending:=jump}) hl3 (by simp) (by simp) hI3;have hX2:ext (ext (ext D h0.length (H i).h.length) (H i).h.length s1.h.length) s1.h.length (H (i+1)).h.length=ext D h0.length (H (i+1)).h.length:=by rw[qg8 D B.len st1.len,qg8 D (nT0 B.len st1.len) st2.len]
  have Nw1:Nxt w I D ρ w2 I1 (ext (ext D h0.length (H i).h.length) (H i).h.length s1.h.length) ρ1:=(Nxt.trans hbw B.nxt N1).stp_after stp1 (fun b hb=>by omega);have Nw3:=(Nxt.trans hbw Nw1 N3).stp_after stp3 (fun b hb=>by omega);have hrow3:¬qgz (ext (ext (ext D h0.length (H i).h.length) (H i).h.length s1.h.length) s1.h.length (H (i+1)).h.length) ρ3 (w.heap.size+1):=S3.notRow hl3 (by simp) (by simp);have S4:=S3.stp stp3 (fun k hk e=>hrow3 ⟨k,hk,e.symm⟩) (fun b o h=>by rw[World.putObj_size];exact S3.imm b o h);refine⟨_,_,run_endRound jump hl3,by rw[hb],I3,fun b=>qgz (ext D h0.length (H (i+1)).h.length) ρ3 b∨b=w.heap.size∨b=w.heap.size+1,⟨ρ3,?_⟩,?_,?_,?_⟩
  · rw[hX2]at Nw3 S4;refine⟨hi,nT0 B.len (nT0 st1.len st2.len),Nw3,S4,?_,?_,fun o=>⟨hIM3 o,hI3 o⟩,fun b=>Iff.rfl⟩
    ·rw[hrec];exact World.putObj_heap_same hlt3
    ·exact(World.putObj_heap_other (by omega)).trans hm3
  · have a1:Stp X W I' w1 I1:=N1.stp.mono fun b hb=>.inl ((B.own b).2 (.inl hb));have a2:Stp X W I' w2 I1:=a1.trans stp1 fun b hb=>.inl ((B.own b).2 (.inr (.inr hb)))
    have a3:Stp X W I' w3 I3:=a2.trans N3.stp fun b ⟨k,hk,hb⟩=>by
     by_cases hd:ext D h0.length (H i).h.length k
     · rcases N1.blk k hd with h|h
       ·exact .inl ((B.own b).2 (.inl ⟨k,hd,hb.trans h⟩))
       ·omega
     ·exact .inr (hb▸N1.blkN k hk hd)
    exact a3.trans stp3 fun b hb=>.inl ((B.own b).2 (.inr (.inr hb)))
  · rintro b (⟨k,hk,hb⟩|hb)
    · have hb2:W.heap.size≤w2.heap.size:=by rw[hsz2];exact N1.size
      rw[←hX2]at hk;by_cases hd1:ext (ext D h0.length (H i).h.length) (H i).h.length s1.h.length k
      · rcases N3.blk k hd1 with h|h
        · by_cases hd:ext D h0.length (H i).h.length k
          · rcases N1.blk k hd with h'|h'
            ·exact .inl ((B.own b).2 (.inl ⟨k,hd,hb.trans (h.trans h')⟩))
            ·omega
          ·exact .inr (by rw[hb,h];exact N1.blkN k hd1 hd)
        ·omega
      · have:=N3.blkN k hk hd1;exact .inr (by rw[hb];omega)
    ·exact .inl ((B.own b).2 (.inr hb))
  ·exact fun k o h=>by rw[World.putObj_size];exact S3.imm k o h
 refine qhd hm hT hC hS n k (r:=some (w.heap.size+1)) (fun h=>by cases h) c2 (.inr hok2) (base:=0) h2 S2 (E1.stp stp1) M2 (Nat.zero_le _) (fun a w h=>h) ?_;by_cases hs:stop=some i
 · have hxx:=hx (by rw[hs];simp);rw[if_pos hs];have hr:qg2 fn a.tmps ps c1 c2 w.heap.size stop x (i+1)=qg1 fn a.tmps ps c1 c2 w.heap.size .done (qq2 x):=by unfold qg2;rw[if_pos ⟨i,hs,rfl⟩]
   rcases hxx with rfl|⟨j,rfl⟩
   · intro a3 w3 I3 ρ3 N3 S3 E3 M3;exact finish (some .ret) a3 w3 I3 ρ3 (by rw[hr];rfl) (by simp[hs]) N3 S3
   · intro a3 w3 I3 ρ3 N3 S3 E3 M3;exact finish (some (.exit j)) a3 w3 I3 ρ3 (by rw[hr];rfl) (by simp[hs]) N3 S3
 · rw[if_neg hs];intro a3 w3 I3 ρ3 N3 S3 E3 M3;refine finish none a3 w3 I3 ρ3 ?_ (by simp[hs]) N3 S3;unfold qg2;rw[if_neg]
   ·rfl
   ·grind
end
end Go.AE
namespace Go.AE
open Go
section
variable {P:Program}{T:Tbl}{call:FuncId→List PV→List Obj→Option qam}{rows:List Nat}{nt:Nat}
theorem upTo_get{stop:Option Nat}{yss:Yss}{i:Nat}{ys:List PV}(h:(upTo stop yss)[i]?=some ys):yss[i]?=some ys∧i<upN stop yss.length:=by have h1:=(qlj stop yss).2 i ys h;refine⟨h1,?_⟩;rw[←(qlj stop yss).1];exact(gI0.1 h).1
theorem rangeWp(hm:P.follows .mixedOrders=true)(hT:∀f p,T.prim f=some p→qev P f p)(hC:qd0 P call)(hS:qa7 call)(hIt:qkb P T)(n k:Nat)(g:Operand)(ps:Array Tmp)(c1 c2:Code)(hok1:qbf c1=true)(hok2:qbf c2=true):
 qtq P T call rows nt n k g ps c1 c2:=by
 intro base e s x e' s' a w I D ρ Q h S E M hb hQ A;simp only[comp]at h;split at h
 next hc=>
   simp only[bA0]at hc;have hps:∀p∈ps.toList,p<nt:=fun p hp=>by have:=hc.1.1;rw[Array.all_eq_true]at this;obtain⟨i,hi,rfl⟩:=List.getElem_of_mem hp;have:=this i (by simpa using hi);simpa using this
   simp only[qa0]at h;have hg:=E.eval g;split at h
   next gf captured hk=>
     rw[hk]at hg;generalize hv:a.eval g=vg at hg;cases hg with
     |func _ _ _ fv lb g1 g2 g3 g4=>
       have efv:fv=#[]:=Array.eq_empty_of_size_eq_zero (by simpa using g1);subst efv;split at h
       next it hit=>
         split at h
         next yss hyss=>
           obtain⟨rfl,stop,H,Tr⟩:=qh9 h;obtain⟨hent,hsem⟩:=hIt gf it hit captured yss hyss;have hV0:VRs w I D ρ captured lb.toList:=⟨by simpa using g2,g4⟩;refine wpIn_rangeFunc fun fn _=>?_;generalize hW1:(w.alloc (.deferred (some []))).alloc (.loop (qg1 fn a.tmps ps c1 c2 w.heap.size .ready none))=W1;have hsz1:W1.heap.size=w.heap.size+2:=by rw[←hW1];simp
           have hL1:W1.heap[w.heap.size+1]?=some (.loop (qg1 fn a.tmps ps c1 c2 w.heap.size .ready none)):=by rw[←hW1];have:=World.alloc_heap_new (w.alloc (.deferred (some []))) (.loop (qg1 fn a.tmps ps c1 c2 w.heap.size .ready none));rwa [World.size_alloc]at this
           have hK1:W1.heap[w.heap.size]?=some (.deferred (some [])):=by rw[←hW1];exact(Go.RowKit.Below.heap_alloc _ _ _ (by simp)).trans (World.alloc_heap_new w _)
           have stp1:Stp (fun _=>False) w I W1 I:=by rw[←hW1];exact(qix _ S.imm).trans (qix _ fun b o h=>by have:=S.imm b o h;simp;omega) fun _ (h:False)=>h.elim
           have him1:∀b o,I b o→b<W1.heap.size:=fun b o h=>by have:=S.imm b o h;omega
           have S1:=S.stp stp1 (fun _ _ h=>h) him1;have N1:=(Nxt.refl w I D ρ).stp_after stp1 (fun _ (h:False)=>h.elim);have hrec0:qg2 fn a.tmps ps c1 c2 w.heap.size stop x 0=qg1 fn a.tmps ps c1 c2 w.heap.size .ready none:=by unfold qg2;rw[if_neg];rintro⟨j,_,he⟩;omega
           have B0:Betw w I D ρ s.h (qg2 fn a.tmps ps c1 c2 w.heap.size stop x) H (upN stop yss.length) 0 W1 I (fun b=>qgz D ρ b∨b=w.heap.size∨b=w.heap.size+1) ρ:=by
            refine⟨Nat.zero_le _,by rw[Tr.first];exact nR0 _,by rw[Tr.first,qay];exact N1,by rw[Tr.first,qay];exact S1,by rw[hrec0];exact hL1,hK1,fun o=>⟨fun h=>?_,fun h=>?_⟩,fun b=>by rw[Tr.first,qay]⟩
            ·have:=S.imm _ _ h;omega
            ·have:=S.imm _ _ h;omega
           have hlo:∀{i:Nat}{W:World}{I':Nat→Nat→Prop}{X:Nat→Prop}{ρ':Nat→Row},Betw w I D ρ s.h (qg2 fn a.tmps ps c1 c2 w.heap.size stop x) H (upN stop yss.length) i W I' X ρ'→∀b,X b→b<W.heap.size:=by
            intro i W I' X ρ' B b hx;rcases(B.own b).1 hx with⟨k,hk,rfl⟩|rfl|rfl
            ·exact B.sim.blk_lt k hk
            ·exact(Array.getElem?_eq_some_iff.1 B.mark).1
            ·exact(Array.getElem?_eq_some_iff.1 B.loop).1
           have hNj:∀j,stop=some j→upN stop yss.length≤j+1:=fun j hj=>by subst hj;simp only[upN];omega
           have Pt:Party P (w.heap.size+1) W1.heap.size (fun i=>decide (stop≠some i)) (upTo stop yss) (fun i W I' X=> ∃ρ',Betw w I D ρ s.h (qg2 fn a.tmps ps c1 c2 w.heap.size stop x) H (upN stop yss.length) i W I' X ρ'):=by refine⟨fun i W I' X W' I'' Y ⟨ρ',B⟩ st hY hl him=>⟨ρ',B.stp st hY (fun k hk=>by have:=hl k hk;omega) him⟩,fun i W I' X ⟨ρ',B⟩=>hlo B,fun i W I' X ys us ⟨ρ',B⟩ him hsz hy V=>?_⟩;obtain⟨hy1,hy2⟩:=upTo_get hy;obtain⟨fn',ts,as,bd,r1,r2⟩:=round_wp hm hT hC hS hok1 hok2 hps Tr.out.2 S E B hy2 hNj (Tr.rounds i ys hy1 hy2) V;refine⟨fn',ts,as,bd,r1,fun n=>(r2 n).mono fun en w' hh=>?_⟩;obtain⟨he,rest⟩:=hh;exact⟨he,rest⟩
           have hV1:=hV0.stp stp1;have hcalls:=hsem stop (w.heap.size+1) W1.heap.size _ W1 I D ρ _ lb.toList Pt ⟨ρ,B0⟩ him1 (nR0 _) hV1;have hinv:(callFunc gf (#[.func (.yield (w.heap.size+1)) #[] #[]]++lb)).run P W1=.ok (.enter gf (#[.func (.yield (w.heap.size+1)) #[] #[]]++lb)) W1:=run_callFunc_enter (P:=P) hent _ W1
           refine⟨w.heap.size+1,[{target:=.collected w.heap.size,args:=#[]}],W1,{target:=.fn (.func gf) lb,args:=#[.func (.yield (w.heap.size+1)) #[] #[]]},W1,gf,
            #[.func (.yield (w.heap.size+1)) #[] #[]]++lb,W1,?_,?_,fun _ _=>trivial,?_,(fun h=>by cases h),?_⟩
           ·rw[←hW1];exact run_enterLoop_outer _ _ _ _ _
           · simp only[resolve,hv];simp[go_sem]
           ·simp[invoke,go_sem,hinv]
           · have e0:lb.toList.toArray=lb:=by simp
             rw[e0]at hcalls;refine(callsIn_wr hcalls).mono ?_;rintro en W3 ⟨⟨v,rfl⟩,I3,X3,ρ3,B3⟩
             have hfin:∃st pe,qg2 fn a.tmps ps c1 c2 w.heap.size stop x (upN stop yss.length)=qg1 fn a.tmps ps c1 c2 w.heap.size st pe∧st≠.busy∧pe=qq2 x:=by
              cases stop with
              |none=>
                refine⟨.ready,none,?_,by simp,by rw[Tr.out.1 rfl];rfl⟩;unfold qg2;rw[if_neg];rintro⟨j,h,_⟩;cases h
              |some j=>
                have hj:=Tr.lt j rfl;refine⟨.done,qq2 x,?_,by simp,rfl⟩;unfold qg2;rw[if_pos ⟨j,rfl,by simp only[upN];omega⟩]
             obtain⟨st,pe,hrec,hst,hpe⟩:=hfin;have hl3:=B3.loop;rw[hrec]at hl3;have stp3:=qhk (I:=I3) (o':=.loop {qg1 fn a.tmps ps c1 c2 w.heap.size st pe with state:=.exhausted}) hl3 (by simp) (by simp) (fun o=>(B3.notI o).2);have N4:=B3.nxt.stp_after stp3 (fun b hb=>by omega);have S4:=B3.sim.stp stp3 (fun k hk e=>B3.rowL ⟨k,hk,e.symm⟩) (fun b o h=>by rw[World.putObj_size];exact B3.sim.imm b o h);rw[Tr.last]at N4 S4;generalize hW4:W3.putObj (w.heap.size+1) (.loop {qg1 fn a.tmps ps c1 c2 w.heap.size st pe with state:=.exhausted})=W4 at N4 S4 stp3;have hK4:W4.heap[w.heap.size]?=some (.deferred (some [])):=by rw[←hW4];exact(World.putObj_heap_other (by omega)).trans B3.mark
             have M4:Marks base W4 I3 (ext D s.h.length s'.h.length) ρ3 ({target:=.collected w.heap.size,args:=#[]}::a.defers):=by
              have Mo:=M.next N4;refine⟨?_,fun d hd=>?_⟩
              · simp only[List.map_cons,List.nodup_cons];refine⟨fun hmem=>?_,Mo.nodup⟩;obtain⟨d,hd,he⟩:=mM0.1 hmem;obtain⟨b,rfl,hb1,_⟩:=M.at_ d hd;simp at he;subst he;have:=(Array.getElem?_eq_some_iff.1 hb1).1;omega
              · rcases mN0.1 hd with rfl|hd
                ·exact⟨_,rfl,hK4,hb,fun o=>(B3.notI o).1,fun k hk he=>S4.notRow hK4 (by simp) (by simp) ⟨k,hk,he.symm⟩⟩
                ·exact Mo.at_ d hd
             have E4:EnvR W4 I3 (ext D s.h.length s'.h.length) ρ3 nt e' {a with defers:=[{target:=.collected w.heap.size,args:=#[]}]++a.defers}:=by have:=E.next N4;exact⟨this.size,this.len,this.at_⟩
             refine⟨qq2 x,W4,?_,?_⟩
             · rw[←hW4,←hpe];exact run_endLoop hl3 hst
             · cases x with
               |normal=>exact A _ _ _ _ N4 S4 E4 M4
               |ret=>exact wpIn_ret (A _ _ _ _ N4 S4 E4 M4)
               |exit j=>exact wpIn_exit (A _ _ _ _ N4 S4 E4 M4)
               |pan p=>
                 exfalso;cases stop with
                 |none=>have:=Tr.out.1 rfl;cases this
                 |some j=>rcases Tr.out.2 (by simp)with h|⟨_,h⟩<;>cases h
         ·cases h
       ·cases h
   ·cases h
 ·simp only[qa0]at h;cases h
theorem qg5{k:Nat}{fn:Func}{tmps:Array Value}{R:Ending→World→Prop}{w wE:World}{I:Nat→Nat→Prop}{D:Nat→Prop}{ρ:Nat→Row}{I':Nat→Nat→Prop}{D':Nat→Prop}{ρ':Nat→Row}{h':List Obj}{u:FrameMode}(hu:u≠.run)
 (hfin:∀w',Nxt w I D ρ w' I' D' ρ'→Sim w' I' D' ρ' h'→(∀p v,VR wE I' D' ρ' p v→VR w' I' D' ρ' p v)→LeavesIn (wr none) k P fn tmps R [] u w'):
 ∀(ds:List Deferred)(w':World),Nxt w I D ρ w' I' D' ρ'→Sim w' I' D' ρ' h'→(∀p v,VR wE I' D' ρ' p v→VR w' I' D' ρ' p v)→Marks w.heap.size w' I' D' ρ' ds→LeavesInM (wr none) k P fn tmps R ds u w'
 |[],w',N,S,V,M=>hfin w' N S V
 |d::ds,w',N,S,V,M=>by obtain⟨b,rfl,h2,h3,h4,h5⟩:=M.at_ d (by simp);have st:=qhk (I:=I') (o':=.deferred none) h2 (by simp) (by simp) h4;have hnd:=M.nodup;simp only[List.map_cons,List.nodup_cons]at hnd;refine⟨hu,.inl ⟨b,_,rfl,run_takeDeferred h2,?_⟩⟩;refine qg5 hu hfin ds _ (N.stp_after st fun x hx=>by omega) (S.stp st (fun k hk e=>h5 k hk e) fun b' o h=>by rw[World.putObj_size];exact S.imm b' o h) (fun p v h=>(V p v h).stp st) ?_;have Mt:Marks w.heap.size w' I' D' ρ' ds:=⟨hnd.2,fun d hd=>M.at_ d (by simp[hd])⟩;refine Mt.stp st fun d hd b' ht hb=>hnd.1 ?_;rw[←hb,←ht];exact mM0.2 ⟨d,hd,rfl⟩
end
end Go.AE
namespace Go.AE
open Go
section
variable {P:Program}{T:Tbl}{call:FuncId→List PV→List Obj→Option qam}{rows:List Nat}
variable {w:World}{I:Nat→Nat→Prop}{D:Nat→Prop}{ρ:Nat→Row}
theorem qkq(hm:P.follows .mixedOrders=true)(hT:∀f p,T.prim f=some p→qev P f p)(hIt:qkb P T)(hC:qd0 P call)(hS:qa7 call){n mode f:Nat}{fn:Func}{af:AFunc}(hf:P.funcs[f]?=some fn)(hcomp:qb8 P rows fn=some af)
 {args:List PV}{h:List Obj}{r:OR}{s':St}(hb:qfg T call n mode af args h=some (r,s')){vs:List Value}(S:Sim w I D ρ h)(V:VRs w I D ρ args vs):Calls P f vs.toArray w (qfy w I D ρ h r s'):=by
 unfold qb8 at hcomp;split at hcomp
 next c res hc hres=>
   split at hcomp
   next hnt=>
     cases hcomp;unfold qfg at hb;split at hb
     next hargs=>
       refine(callsIn_wide (n:=0)).1 (callsIn_of_wp_marks hf hc trivial ?_);have hsz:vs.length=args.length:=V.1;have hle:vs.length≤fn.ntmps:=by simp at hargs;omega
       have E0:EnvR w I D ρ fn.ntmps args {tmps:=vs.toArray++Array.replicate (fn.ntmps - vs.toArray.size) undef,defers:=[]}:=by
        refine⟨by simp;omega,by omega,fun t=>?_⟩;rw[qf6];by_cases ht:t<args.length
        · have:=V.2 t;have e1:(vs.toArray++Array.replicate (fn.ntmps - vs.toArray.size) undef).getD t undef=vs.getD t undef:=by rw[Array.getD_eq_getD_getElem?,gD0,Array.getElem?_append_left (by simp;omega)];simp
          rw[e1];exact this
        ·rw[qaz _ t _ ht];exact .undef _
       have fin:∀{e:List PV}{s:St}{vals:List PV}{a':Act}{w':World}{I':Nat→Nat→Prop}{ρ':Nat→Row},Step {h,ws:=[],ups:=[]} s→resv e s.h res=some vals→tidy mode h.length (.val (qdq vals)) s=(r,s')→
        Nxt w I D ρ w' I' (ext D h.length s.h.length) ρ'→Sim w' I' (ext D h.length s.h.length) ρ' s.h→EnvR w' I' (ext D h.length s.h.length) ρ' fn.ntmps e a'→Marks w.heap.size w' I' (ext D h.length s.h.length) ρ' a'.defers→
        LeavesInM Fence.wide 0 P fn a'.tmps (qfy w I D ρ h r s') a'.defers .returning w':=by
        intro e s vals a' w' I' ρ' st hv ht N' S' E' M';refine qg5 (wE:=w') (by simp) (fun w2 N2 S2 V2=>?_) a'.defers w' N' S' (fun _ _ h=>h) M';have E2:EnvR w2 I' (ext D h.length s.h.length) ρ' fn.ntmps e a':=⟨E'.size,E'.len,fun t=>V2 _ _ (E'.at_ t)⟩;obtain⟨us,h1,h2⟩:=qie (P:=P) S2 E2 fn.results.toList res vals hres hv;refine⟨if hs:us.toArray.size=1 then us.toArray[0]else .tuple us.toArray,?_,?_⟩
        ·exact qns h1
        ·exact qni S st (r:=.val (qdq vals)) ⟨I',ρ',N2,S2,tupled_VR h2⟩ ht
       have hQ:∀(a:Act)(w':World),¬bodyPostM Fence.wide 0 P fn (qfy w I D ρ h r s') .outgrown a w':=by rintro a w' ⟨I',ρ',N,_,hE⟩;cases r<;>exact hE.elim
       have hrange:(none:Option Nat)=none→∀g ps c1 c2,qbf c1=true→qbf c2=true→qtq P T call rows fn.ntmps n 0 g ps c1 c2:=fun _ g ps c1 c2 h1 h2=>rangeWp hm hT hC hS hIt n 0 g ps c1 c2 h1 h2;split at hb
       next e s hev=>
         simp only[oM0]at hb;obtain⟨vals,hv,ht⟩:=hb;have st:=qa2 hS n hev;exact qhd hm hT hC hS n 0 (r:=none) hrange c (.inl rfl) hev S E0 Marks.nil (nR0 _) hQ fun a' w' I' ρ' N' S' E' M'=>fin st hv ht N' S' E' M'
       next e s hev=>
         simp only[oM0]at hb;obtain⟨vals,hv,ht⟩:=hb;have st:=qa2 hS n hev;exact qhd hm hT hC hS n 0 (r:=none) hrange c (.inl rfl) hev S E0 Marks.nil (nR0 _) hQ fun a' w' I' ρ' N' S' E' M'=>fin st hv ht N' S' E' M'
       next p e s hev=>
         have ht:=Option.some.inj hb;have st:=qa2 hS n hev;refine qhd hm hT hC hS n 0 (r:=none) hrange c (.inl rfl) hev S E0 Marks.nil (nR0 _) hQ fun a' w' I' ρ' v N' S' V' M'=>?_;refine qg5 (wE:=w') (by simp) (fun w2 N2 S2 V2=>?_) a'.defers w' N' S' (fun _ _ h=>h) M';exact qni S st (r:=.pan p) ⟨I',ρ',N2,S2,v,rfl,V2 _ _ V'⟩ ht
       ·cases hb
     ·cases hb
   ·cases hcomp
 ·cases hcomp
end
end Go.AE
namespace Go.AE
open Go
structure TblOK (P:Program)(T:Tbl):Prop where
 mixed:P.follows .mixedOrders=true
 prim:∀f p,T.prim f=some p→qev P f p
 iter:qkb P T
 fn : ∀ f af, T.fn f = some af → ∃ fn rows, P.funcs[f]? = some fn ∧ qb8 P rows fn = some af ∧ (fn.name == "runtime.NumGoroutine") = false
 step:∀f sp,T.sp f=some sp→∀call,qa7 call→∀args h r s',sp call args h=some (r,s')→Step {h,ws:=[],ups:=[]} s'
 sp:∀f sp,T.sp f=some sp→∀call,qa7 call→qd0 P call→∀args h r s',sp call args h=some (r,s')→Enters P f∧h.length≤s'.h.length∧
  ∀w I D ρ vs,Sim w I D ρ h→VRs w I D ρ args vs→Calls P f vs.toArray w (qfy w I D ρ h r s')
theorem qc4{P:Program}{T:Tbl}(O:TblOK P T):∀n,qd0 P (qbz T n)
 |0,f,args,h,r,s',hc=>by simp[qbz]at hc
 |n+1,f,args,h,r,s',hc=>by
   have ih:=qc4 O n;have st:=qdn O.step (n+1) f args h r s' hc;simp only[qbz]at hc;split at hc
   next sp hsp=>
     exact O.sp f sp hsp _ (qdn O.step n) ih args h r s' hc
   · split at hc
     next af haf=>
       obtain⟨fn,rows,h1,h2,h3⟩:=O.fn f af haf;refine⟨⟨fn,h1,h3,?_⟩,st.len,fun w I D ρ vs S V=>qkq O.mixed O.prim O.iter ih (qdn O.step n) h1 h2 hc S V⟩;unfold qb8 at h2;split at h2
       ·grind
       ·cases h2
     ·cases hc
end Go.AE
