/- rewr.guarded: what it does, and its special for the evaluator. -/
import Derived.Test.YtekepgfmgeophaaGreatChecked
import Derived.Tactics
import Derived.Tactics2
import Derived.Defers
import Derived.Recover
import Derived.Laws.Pointers
import Derived.WalkSmall
import Derived.Test.YtekepgfmgeophaaGreatPartAD
import Derived.Below
set_option linter.unusedVariables false
set_option linter.unusedSimpArgs false
namespace Go.Proofs
open Go
theorem qen{P:Program}{ops:Array Oper}{Q:Exit→Act→World→Prop}{i:Nat}{rest:List Nat}{a:Act}{w w':World}{o:Oper}{v:Value}(ho:ops[i]?=some o)(hw:Region.wanted o (yielded ops a.tmps)=true)
 (hr:(execOp a.eval o).run P w=.ok (.value v) w')(h:wpOps P ops Q rest (a.put o.dst v) w'):wpOps P ops Q (i::rest) a w:=by
 simp only[wpOps,ho,hw,if_true];refine .inl ?_;unfold Oper.wp;rw[hr];exact h
theorem qjp{P:Program}{ops:Array Oper}{Q:Exit→Act→World→Prop}{i:Nat}{rest:List Nat}{a:Act}{w w':World}{o:Oper}(ho:ops[i]?=some o)(hw:Region.wanted o (yielded ops a.tmps)=true)
 (hr:(execOp a.eval o).run P w=.ok .skip w')(h:wpOps P ops Q rest (a.put o.dst undef) w'):wpOps P ops Q (i::rest) a w:=by
 simp only[wpOps,ho,hw,if_true];refine .inl ?_;unfold Oper.wp;rw[hr];exact h
theorem qeo{P:Program}{ops:Array Oper}{Q:Exit→Act→World→Prop}{a:Act}{w:World}(h:Q .normal a w):wpOps P ops Q [] a w:=h
theorem qdi{N:Act→World→Prop}{Q:Exit→Act→World→Prop}{a:Act}{w:World}(h:N a w):Exit.then N Q .normal a w:=h
theorem qr9{P:Program}{ops:Array Oper}{Q:Exit→Act→World→Prop}{i:Nat}{rest:List Nat}{a:Act}{w w':World}{o:Oper}{d:Deferred}(ho:ops[i]?=some o)(hw:Region.wanted o (yielded ops a.tmps)=true)
 (hr:(execOp a.eval o).run P w=.ok (.defer d) w')(h:wpOps P ops Q rest ({a with defers:=d::a.defers}.put o.dst undef) w'):wpOps P ops Q (i::rest) a w:=by
 simp only[wpOps,ho,hw,if_true];refine .inl ?_;unfold Oper.wp;rw[hr];exact h
theorem wpOps_call{P:Program}{ops:Array Oper}{Q:Exit→Act→World→Prop}{i:Nat}{rest:List Nat}{a:Act}{w w':World}{o:Oper}{f:FuncId}{args:Array Value}{R:Ending→World→Prop}(ho:ops[i]?=some o)(hw:Region.wanted o (yielded ops a.tmps)=true)
 (hr:(execOp a.eval o).run P w=.ok (.enter f args) w')(hc:Calls P f args w' R)(h1:∀v w2,R (.returned v) w2→wpOps P ops Q rest (a.put o.dst v) w2)(h2:∀c w2,R (.panicked c) w2→Q (.panic c) a w2)(h3:∀w2,¬R .outgrown w2):wpOps P ops Q (i::rest) a w:=by
 simp only[wpOps,ho,hw,if_true];refine .inl ?_;unfold Oper.wp;rw[hr];refine hc.mono fun e w2 hR=>?_;cases e with
 |returned v=>exact h1 v w2 hR
 |panicked c=>exact h2 c w2 hR
 |outgrown=>exact absurd hR (h3 w2)
theorem catch_idle(p:Addr)(w:World):
 CallsD Tryz.prog 234 #[.pointer (some p)] .returning w fun e u' w'=>e=.returned (.tuple #[])∧u'=.returning∧w'=w:=by
 refine callsD_of_wpS Tryz.func234 rfl fun c₀ cs hu=>?_;apply wpS_seq;apply wpS_region;simp[wpOpsS,go_sem,recoverD,hu,Tryz.ntmps234,Exit.thenS];refine wpS_of_wp ?_
 go_wp2
 cases c₀
 simp_all [bodyPostS,results,Tryz.results234]
set_option maxRecDepth 20000 in
theorem qmp(p:Addr)(x:Int)(older:List PanicEntry)(w:World)(hc:w.cell? p=some (.int .i64 x))(hz:w.frozen? p=false)(hp:p.block<w.heap.size):
 CallsD Tryz.prog 234 #[.pointer (some p)] (.panicking ({v:=.iface 260 (.agg #[]),recovered:=false}::older)) w fun e u' w'=>
  e=.returned (.tuple #[])∧u'=.panicking ({v:=.iface 260 (.agg #[]),recovered:=true}::older)∧w'=(w.alloc (.cells #[] 260)).setCell p (.int .i64 2):=by
 have hta:∀w:World,(Instr.typeAssert (.iface 260 (.agg #[])) 20 260 true).run Tryz.prog w=.ok (.tuple #[.agg #[],.bool true]) w:=fun w=>by simp[Instr.typeAssert,go_sem]
 have halloc:∀w:World,(Instr.alloc 260 true (.tuple #[])).run Tryz.prog w=.ok (.pointer (some ⟨w.heap.size,0,none⟩)) (w.alloc (.cells #[] 260)):=fun w=>by simp[Instr.alloc,go_sem]
 have hst:∀(a:Addr)(w:World),(Instr.storeAt 260 (.pointer (some a)) (.agg #[])).run Tryz.prog w=.ok () w:=fun a w=>by simp[Instr.storeAt,go_sem,storeCells]
 refine callsD_of_wpS Tryz.func234 rfl fun c₀ cs hu=>?_;apply wpS_seq;apply wpS_region;simp[wpOpsS,go_sem,recoverD,hu,Tryz.ntmps234,Exit.thenS];refine wpS_of_wp ?_;refine wp_block (wp_seq (wp_region (qen (v:=.bool false) (w':=w) rfl rfl (by simp[execOp,go_sem,Act.eval]) (qeo (qdi ?_)))));refine wp_cond_false (by simp[Act.eval,Act.put,Array.replicate]) ?_;refine wp_seq (wp_region (qen (v:=.tuple #[.agg #[],.bool true]) (w':=w) rfl rfl ?_ (qen (v:=.bool true) (w':=w) rfl rfl ?_ (qen (v:=.agg #[]) (w':=w) rfl rfl ?_ (qeo (qdi ?_))))))
 ·simp[execOp,go_sem,Act.eval,Act.put,Array.replicate,hta]
 ·simp[execOp,go_sem,Act.eval,Act.put,Array.replicate]
 ·simp[execOp,go_sem,Act.eval,Act.put,Array.replicate]
 refine wp_cond_true (by simp[Act.eval,Act.put,Array.replicate]) ?_;refine wp_seq (wp_region (qen (v:=.pointer (some ⟨w.heap.size,0,none⟩)) (w':=w.alloc (.cells #[] 260)) rfl rfl ?_ (qjp (w':=w.alloc (.cells #[] 260)) rfl rfl ?_ (qeo (qdi ?_)))))
 ·simp[execOp,go_sem,Array.replicate]
 ·simp[execOp,go_sem,Act.eval,Act.put,Array.replicate]
 refine wp_region (qjp (w':=(w.alloc (.cells #[] 260)).setCell p (.int .i64 2)) rfl rfl ?_ (qeo ?_))
 · have e1:(w.alloc (.cells #[] 260)).cell? p=w.cell? p:=by unfold World.cell?;simp only[Go.RowKit.Below.heap_alloc w _ p.block hp]
   have e2:(w.alloc (.cells #[] 260)).frozen? p=w.frozen? p:=by unfold World.frozen?;simp only[Go.RowKit.Below.heap_alloc w _ p.block hp]
   simp[execOp,go_sem,Act.eval,Act.put,Array.replicate,e1,e2,hc,hz]
 cases c₀
 simp_all [bodyPostS,results,Tryz.results234,Exit.inBlock,Act.put]
theorem qpa{g:FuncId}{fv cv:Array Value}{w:World}(hE:AE.Enters Tryz.prog g){R' R:Ending→World→Prop}(hc:Calls Tryz.prog g (fv++cv) (w.alloc (.cells #[.int .i64 0] 32)) R')
 (hsize:∀e w',R' e w'→w.heap.size+1≤w'.heap.size∧w'.heap[w.heap.size]?=some (.cells #[.int .i64 0] 32))
 (hok:∀v w',R' (.returned v) w'→R (.returned (.int .i64 0)) (w'.setCell ⟨w.heap.size,0,none⟩ (.int .i64 0)))
 (hpan:∀chain w',R' (.panicked chain) w'→chain=[{v:=.iface 260 (.agg #[]),recovered:=false}]∧R (.returned (.int .i64 2)) ((w'.alloc (.cells #[] 260)).setCell ⟨w.heap.size,0,none⟩ (.int .i64 2)))
 (hout:∀w',¬R' .outgrown w'):Calls Tryz.prog 189 #[.func (.func g) fv cv] w R:=by
 have hmf:∀(fn:Fn)(first cap:Array Value)(w:World),(Instr.makeFunc fn first cap).run Tryz.prog w=.ok (.func fn first cap) w:=fun _ _ _ _=>rfl;have halloc:(Instr.alloc 32 true (.tuple #[])).run Tryz.prog w=.ok (.pointer (some ⟨w.heap.size,0,none⟩)) (w.alloc (.cells #[.int .i64 0] 32)):=by simp[Instr.alloc,go_sem]
 have hcell:∀w':World,w'.heap[w.heap.size]?=some (.cells #[.int .i64 0] 32)→w'.cell? ⟨w.heap.size,0,none⟩=some (.int .i64 0)∧w'.frozen? ⟨w.heap.size,0,none⟩=false:=fun w' h=>by unfold World.cell? World.frozen?;simp[h]
 generalize hw1:w.alloc (.cells #[.int .i64 0] 32)=w1 at hc halloc;refine calls_of_wp_defers Tryz.func189 rfl ?_;refine wp_seq (wp_region (qen (v:=.pointer (some ⟨w.heap.size,0,none⟩)) (w':=w1) rfl rfl ?_ (qeo (qdi ?_))))
 ·simp[execOp,go_sem,hw1]
 refine wp_seq (wp_region (qen (v:=.func (.func 234) #[] #[.pointer (some ⟨w.heap.size,0,none⟩)]) (w':=w1) rfl rfl ?_ (qr9 (d:={target:=.fn (.func 234) #[.pointer (some ⟨w.heap.size,0,none⟩)],args:=#[]}) (w':=w1) rfl rfl ?_ (qeo (qdi ?_)))))
 ·simp[execOp,go_sem,Act.eval,Act.put,Tryz.ntmps189,Array.replicate]
 ·simp[execOp,go_sem,Act.eval,Act.put,Tryz.ntmps189,Array.replicate,resolve,Deferred.ofValue]
 refine wp_seq (wp_region (qen (v:=.func (.func g) fv cv) (w':=w1) rfl rfl ?_ (wpOps_call (w':=w1) rfl rfl ?_ hc ?_ ?_ hout)))
 ·simp[execOp,go_sem,Act.eval,Act.put,Tryz.ntmps189,Array.replicate]
 · have:=AE.run_callFunc_enter (P:=Tryz.prog) hE (fv++cv) w1;simp[execOp,go_sem,Act.eval,Act.put,Tryz.ntmps189,Array.replicate,resolve,Deferred.ofValue,invoke,this]
 · intro v w2 hR;obtain⟨_,hcl⟩:=hsize _ _ hR;obtain⟨hc1,hz1⟩:=hcell w2 hcl;refine qeo (qdi (wp_seq (wp_region (qjp (w':=w2.setCell ⟨w.heap.size,0,none⟩ (.int .i64 0)) rfl rfl ?_ (qeo (qdi (wp_ret ?_)))))))
   ·simp[execOp,go_sem,Act.eval,Act.put,Tryz.ntmps189,Array.replicate,hc1,hz1]
   · simp only[bodyPostD,Act.put];refine leaves_cons (f:=234) (args:=#[.pointer (some ⟨w.heap.size,0,none⟩)]) (by simp) (by simp[go_sem]) ?_;refine(catch_idle _ _).mono ?_;rintro e u' w'' ⟨rfl,rfl,rfl⟩;simp[Leaves,settle,results,Tryz.results189,go_sem,Tryz.ntmps189,Array.replicate];rw[World.cell?_setCell_same (h:=hc1)];exact⟨_,rfl,hok _ _ hR⟩
 · intro ch w2 hR;obtain⟨hs,hcl⟩:=hsize _ _ hR;obtain⟨hc1,hz1⟩:=hcell w2 hcl;obtain⟨rfl,hfin⟩:=hpan _ _ hR;simp only[Act.put];refine leaves_cons (f:=234) (args:=#[.pointer (some ⟨w.heap.size,0,none⟩)]) (by simp) (by simp[go_sem]) ?_;refine(qmp _ 0 [] _ hc1 hz1 (by simp;omega)).mono ?_;rintro e u' w'' ⟨rfl,rfl,rfl⟩;simp[Leaves,settle,results,Tryz.results189,go_sem,Tryz.ntmps189,Array.replicate];have e1:(w2.alloc (.cells #[] 260)).cell? ⟨w.heap.size,0,none⟩=some (.int .i64 0):=by rw[←hc1];unfold World.cell?;simp only[Go.RowKit.Below.heap_alloc w2 _ w.heap.size (by omega)]
   rw[World.cell?_setCell_same (h:=e1)];exact⟨_,rfl,hfin⟩
namespace AE'
open Go.AE
def guardedSp(tm:Nat)(lim:Int)(call:FuncId→List PV→List AE.Obj→Option qam)(args:List PV)(h:List AE.Obj):Option qam:=
 match args with
 |[.func (.func g) first captured]=>match call g (first++captured) h with
   |some (.val _,s)=>some (.val (.int .i64 0),s)
   |some (.pan (.iface t (.agg [])),s)=>if t=tm then some (.val (.int .i64 lim),s)else none
   |_=>none
 |_=>none
theorem guardedSp_step{tm:Nat}{lim:Int}{call:FuncId→List PV→List AE.Obj→Option qam}(hS:qa7 call){args:List PV}{h:List AE.Obj}{r:OR}{s':St}(hc:guardedSp tm lim call args h=some (r,s')):Step {h,ws:=[],ups:=[]} s':=by
 unfold guardedSp at hc;split at hc
 · split at hc
   next h1=>
     cases hc;exact hS _ _ _ _ _ h1
   next h1=>
     split at hc
     · cases hc;exact hS _ _ _ _ _ h1
     ·cases hc
   ·cases hc
 ·cases hc
theorem qlq{w:World}{I:Nat→Nat→Prop}{b:Nat}{v:Value}(hI:∀o,¬I b o):Stp (fun k=>k=b) w I (w.setCell ⟨b,0,none⟩ v) I where
 os:=rfl
 tape:=⟨rfl,nR0 _⟩
 output:=rfl
 size:=by simp
 keep k _ hk:=Go.RowKit.Below.heap_setCell w _ v k hk
 immI _ _ h:=h
 immC k o h:=by have hk:k≠b:=fun e=>hI o (e▸h);unfold World.cell?;simp only[Go.RowKit.Below.heap_setCell w ⟨b,0,none⟩ v k hk]
 immN _ _ h:=.inl h
theorem guardedSp_ok{call:FuncId→List PV→List AE.Obj→Option qam}(hS:qa7 call)(hC:qd0 Tryz.prog call){args:List PV}{h:List AE.Obj}{r:OR}{s':St}(hc:guardedSp 260 2 call args h=some (r,s')):
 Enters Tryz.prog 189∧h.length≤s'.h.length∧∀w I D ρ vs,Sim w I D ρ h→VRs w I D ρ args vs→Calls Tryz.prog 189 vs.toArray w (qfy w I D ρ h r s'):=by
 refine⟨⟨_,Tryz.func189,by decide,by decide⟩,(guardedSp_step hS hc).len,fun w I D ρ vs S V=>?_⟩;unfold guardedSp at hc;split at hc
 next g first captured=>
   obtain⟨hl,hj⟩:=V
   obtain⟨v,rfl⟩:∃v,vs=[v]:=by
    cases vs with
    |nil=>simp at hl
    |cons v vs=>cases vs with
      |nil=>exact⟨v,rfl⟩
      |cons _ _=>simp at hl
   have hv:=hj 0;simp only[List.getD_cons_zero]at hv;cases hv with
   |func _ _ _ fv cv g1 g2 g3 g4=>
     have key:∀(r1:OR),call g (first++captured) h=some (r1,s')→(∀p,r1=.val p→r=.val (.int .i64 0))→(∀p,r1=.pan p→p=.iface 260 (.agg [])∧r=.val (.int .i64 2))→Calls Tryz.prog 189 #[.func (.func g) fv cv] w (qfy w I D ρ h r s'):=by
      intro r1 h1 hval hpn;obtain⟨a1,_,a3⟩:=hC _ _ _ _ _ h1;have him:=S.imm;have st0:Stp (fun _=>False) w I (w.alloc (.cells #[.int .i64 0] 32)) I:=qix _ him;have him0:∀b o,I b o→b< (w.alloc (.cells #[.int .i64 0] 32)).heap.size:=fun b o h=>by have:=him b o h;simp;omega
      have S0:=S.stp st0 (fun _ _ h=>h) him0;have N0:=(Nxt.refl w I D ρ).stp_after st0 (fun _ (h:False)=>h.elim)
      have hargs:VRs (w.alloc (.cells #[.int .i64 0] 32)) I D ρ (first++captured) (fv.toList++cv.toList):=
       qka ⟨by simpa using g1,fun j=>(g3 j).stp st0⟩ ⟨by simpa using g2,fun j=>(g4 j).stp st0⟩
      have hcalls:=a3 _ I D ρ _ S0 hargs;have e1:(fv.toList++cv.toList).toArray=fv++cv:=by grind
      rw[e1]at hcalls;have hcell0:(w.alloc (.cells #[.int .i64 0] 32)).heap[w.heap.size]?=some (.cells #[.int .i64 0] 32):=World.alloc_heap_new w _;have hbw:∀k,D k→(ρ k).blk<w.heap.size:=fun k hk=>S.blk_lt k hk;have hrow0:¬qgz D ρ w.heap.size:=fun⟨k,hk,e⟩=>by have:=hbw k hk;omega
      have after:∀{en:Ending}{w2:World},qfy (w.alloc (.cells #[.int .i64 0] 32)) I D ρ h r1 s' en w2→∀(w3:World)(st:∀I2,(∀o,¬I2 w.heap.size o)→(∀b o,I2 b o→b<w2.heap.size)→Stp (fun k=>k=w.heap.size) w2 I2 w3 I2∧∀b o,I2 b o→b<w3.heap.size)(q:PV)(u:Value),r=.val q→(∀w I D ρ,VR w I D ρ q u)→qfy w I D ρ h r s' (.returned u) w3:=by
       rintro en w2 ⟨I2,ρ2,N2,S2,_⟩ w3 st q u rfl hq
       have hI2:∀o,¬I2 w.heap.size o:=fun o ho=>by
        rcases N2.stp.immN _ _ ho with h|h|h
        ·grind
        ·grind
        ·grind
       have hrow2:∀k,ext D h.length s'.h.length k→(ρ2 k).blk≠w.heap.size:=fun k hk e=>by
        by_cases hd:D k
        · rcases N2.blk k hd with h|h
          ·grind
          ·grind
        · have:=N2.blkN k hk hd;simp at this;omega
       obtain⟨s1,s2⟩:=st I2 hI2 S2.imm;exact⟨I2,ρ2,(Nxt.trans hbw N0 N2).stp_after s1 (fun b hb=>by omega),S2.stp s1 (fun k hk e=>hrow2 k hk e) s2,hq _ _ _ _⟩
      have hkeep:∀{en:Ending}{w2:World},qfy (w.alloc (.cells #[.int .i64 0] 32)) I D ρ h r1 s' en w2→w.heap.size+1≤w2.heap.size∧w2.heap[w.heap.size]?=some (.cells #[.int .i64 0] 32):=by rintro en w2 ⟨I2,ρ2,N2,_,_⟩;have:=N2.size;simp at this;exact⟨this,(N2.stp.keep _ (by simp) hrow0).trans hcell0⟩
      refine qpa a1 hcalls (fun _ _ h=>hkeep h) (fun v w2 hR=>?_) (fun ch w2 hR=>?_) (fun w2 hR=>?_)
      · cases r1 with
        |val p=>exact after hR _ (fun I2 h1 h2=>⟨qlq h1,fun b o h=>by simpa using h2 b o h⟩) _ _ (hval p rfl) (fun _ _ _ _=>.int _ _)
        |pan p=>obtain⟨_,_,_,_,hE⟩:=hR;exact hE.elim
      · cases r1 with
        |val p=>obtain⟨_,_,_,_,hE⟩:=hR;exact hE.elim
        |pan p=>
          obtain⟨rfl,hr⟩:=hpn p rfl;refine⟨?_,?_⟩
          · obtain⟨_,_,_,_,v,hE,hv⟩:=hR;cases hv with
            |iface _ _ v hv=>
              cases hv with
              |agg _ vs hl _=>
                have:vs=#[]:=Array.eq_empty_of_size_eq_zero (by simpa using hl);subst this;exact hE
          · refine after hR _ (fun I2 h1 h2=>⟨?_,fun b o h=>?_⟩) _ _ hr (fun _ _ _ _=>.int _ _)
            ·exact(qix _ h2).trans (qlq h1) (fun b hb=>.inl hb)
            · have:=h2 b o h;simp;omega
      · obtain⟨_,_,_,_,hE⟩:=hR;cases r1<;>exact hE.elim
     split at hc
     ·simp_all
     ·grind
     ·cases hc
 ·cases hc
end AE'
end Go.Proofs
