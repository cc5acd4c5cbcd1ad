/- Texts of the proof, one behind the other: AeRange, AeRange2, AeBody, AeCall. -/
import Derived.Test.YtekepgfmgeophaaGreatPartAB
import Derived.RangeFuncIn
set_option linter.unusedVariables false
set_option linter.unusedSimpArgs false
/- A range over a function. -/
namespace Go.AE
open Go
section
variable {P:Program} {T:Tbl} {call:FuncId→List PV→List Obj→Option CallRes} {rows:List Nat} {nt:Nat}
theorem puts_env {w:World} {I:Nat→Nat→Prop} {D:Nat→Prop} {ρ:Nat→Row}:∀ {ps:List Nat} {ys:List PV} {us:List Value} {e:List PV} {tmps:Array Value} {ds ds':List Deferred},ys.length=ps.length→(∀ p∈ps,p < nt)→VRs w I D ρ ys us→EnvR w I D ρ nt e { tmps,defers:=ds } →
 EnvR w I D ρ nt (puts e ps ys) { tmps:=(ps.zip us).foldl (fun t (p,v) => t.setIfInBounds p v) tmps,defers:=ds' }
 | [],ys,us,e,tmps,ds,ds',hl,_,V,E => by
   cases ys with
   | nil => exact ⟨E.size,E.len,E.at_⟩
   | cons y ys => simp at hl
 | p :: ps,[],us,e,tmps,ds,ds',hl,_,V,E => by simp at hl
 | p :: ps,y :: ys,us,e,tmps,ds,ds',hl,hp,V,E => by
   cases us with
   | nil => have:=V.1; simp at this
   | cons u us =>
     have h1:=E.put (some p) (fun i hi => by cases hi; exact hp p (by simp)) (V.2 0)
     simp only [putD,Act.put] at h1
     have V':VRs w I D ρ ys us:=⟨by have:=V.1; simpa using this,fun j => V.2 (j+1)⟩
     exact puts_env (ps:=ps) (by simpa using hl) (fun q hq => hp q (by simp [hq])) V' h1
def recOf (fn:FuncId) (tmps:Array Value) (ps:Array Tmp) (c1 c2:Code) (D:Nat) (st:LoopState) (pe:Option Code):Loop:={ state:=st,pending:=pe,fn,tmps,params:=ps,assign:=c1,body:=c2,defers:=D }
def jumpOf:AExit→Option Code
 | .ret => some .ret
 | .exit i => some (.exit i)
 | _ => none
def recAt (fn:FuncId) (tmps:Array Value) (ps:Array Tmp) (c1 c2:Code) (D:Nat) (stop:Option Nat) (x:AExit) (i:Nat):Loop :=
 if ∃ j,stop=some j∧i=j+1 then recOf fn tmps ps c1 c2 D .done (jumpOf x) else recOf fn tmps ps c1 c2 D .ready none
structure Betw (w:World) (I:Nat→Nat→Prop) (D:Nat→Prop) (ρ:Nat→Row) (h0:List Obj) (rec:Nat→Loop) (H:Nat→St) (N i:Nat) (W:World) (I':Nat→Nat→Prop) (X:Nat→Prop) (ρ':Nat→Row):Prop where
 le:i≤N
 len:h0.length≤(H i).h.length
 nxt:Nxt w I D ρ W I' (ext D h0.length (H i).h.length) ρ'
 sim:Sim W I' (ext D h0.length (H i).h.length) ρ' (H i).h
 loop:W.heap[w.heap.size+1]?=some (.loop (rec i))
 mark:W.heap[w.heap.size]?=some (.deferred (some []))
 notI:∀ o,¬ I' w.heap.size o∧¬ I' (w.heap.size+1) o
 own:∀ b,X b↔(rowsOf (ext D h0.length (H i).h.length) ρ' b∨b=w.heap.size∨b=w.heap.size+1)
theorem Sim.notRow {w:World} {I:Nat→Nat→Prop} {D:Nat→Prop} {ρ:Nat→Row} {h:List Obj} (S:Sim w I D ρ h) {b:Nat} {o:Go.Obj} (ho:w.heap[b]?=some o) (h1:∀ c E fr,o≠.cells c E fr) (h2:∀ e c,o≠.map e c):¬ rowsOf D ρ b:=by
 rintro ⟨k,hk,rfl⟩
 rcases S.kind hk with ⟨c,E,fr,h⟩ | ⟨e,c,h⟩
 · rw [ho] at h; cases h; exact h1 _ _ _ rfl
 · rw [ho] at h; cases h; exact h2 _ _ rfl
variable {w:World} {I:Nat→Nat→Prop} {D:Nat→Prop} {ρ:Nat→Row} {h0:List Obj} {rec:Nat→Loop} {H:Nat→St} {N i:Nat} {W:World} {I':Nat→Nat→Prop} {X:Nat→Prop} {ρ':Nat→Row}
theorem Betw.rowL (B:Betw w I D ρ h0 rec H N i W I' X ρ'):¬ rowsOf (ext D h0.length (H i).h.length) ρ' (w.heap.size+1):=B.sim.notRow B.loop (by simp) (by simp)
theorem Betw.rowM (B:Betw w I D ρ h0 rec H N i W I' X ρ'):¬ rowsOf (ext D h0.length (H i).h.length) ρ' w.heap.size:=B.sim.notRow B.mark (by simp) (by simp)
theorem Betw.stp (B:Betw w I D ρ h0 rec H N i W I' X ρ') {w':World} {I'':Nat→Nat→Prop} {Y:Nat→Prop} (s:Stp Y W I' w' I'') (hY:∀ k,Y k→¬ X k) (hlo:∀ k,Y k→w.heap.size≤k) (him:∀ k o,I'' k o→k < w'.heap.size):Betw w I D ρ h0 rec H N i w' I'' X ρ' where
 le:=B.le
 len:=B.len
 nxt:=B.nxt.stp_after s hlo
 sim:=B.sim.stp s (fun k hk hy => hY _ hy ((B.own _).2 (.inl ⟨k,hk,rfl⟩))) him
 loop:=(s.keep _ (Array.getElem?_eq_some_iff.1 B.loop).1 fun hy => hY _ hy ((B.own _).2 (.inr (.inr rfl)))).trans B.loop
 mark:=(s.keep _ (Array.getElem?_eq_some_iff.1 B.mark).1 fun hy => hY _ hy ((B.own _).2 (.inr (.inl rfl)))).trans B.mark
 notI o:=by
  have h1:=(Array.getElem?_eq_some_iff.1 B.loop).1
  refine ⟨fun ho => ?_,fun ho => ?_⟩
  · rcases s.immN _ _ ho with h | h | h
    · exact (B.notI o).1 h
    · omega
    · exact hY _ h ((B.own _).2 (.inr (.inl rfl)))
  · rcases s.immN _ _ ho with h | h | h
    · exact (B.notI o).2 h
    · omega
    · exact hY _ h ((B.own _).2 (.inr (.inr rfl)))
 own:=B.own
theorem Marks.stp {base:Nat} {w:World} {I:Nat→Nat→Prop} {D:Nat→Prop} {ρ:Nat→Row} {w':World} {I':Nat→Nat→Prop} {X:Nat→Prop} {ds:List Deferred} (M:Marks base w I D ρ ds) (s:Stp X w I w' I')
 (hX:∀ d∈ds,∀ b,d.target=.collected b→¬ X b):Marks base w' I' D ρ ds:=by
 refine ⟨M.nodup,fun d hd => ?_⟩
 obtain ⟨b,rfl,h2,h3,h4,h5⟩:=M.at_ d hd
 have hb:=hX _ hd b rfl
 have hlt:=(Array.getElem?_eq_some_iff.1 h2).1
 refine ⟨b,rfl,(s.keep b hlt hb).trans h2,h3,fun o ho => ?_,h5⟩
 rcases s.immN _ _ ho with h | h | h
 · exact h4 o h
 · omega
 · exact hb h
theorem zip_fold (ps:Array Tmp) (us:List Value) (tmps:Array Value):(ps.zip us.toArray).foldl (fun tmps (t,a) => tmps.setIfInBounds t a) tmps=(ps.toList.zip us).foldl (fun t (p,v) => t.setIfInBounds p v) tmps:=by
 rw [← Array.foldl_toList,Array.toList_zip]
theorem round_wp (hm:P.follows .mixedOrders=true) (hT:∀ f p,T.prim f=some p→PrimOK P f p) (hC:CallOK P call) (hS:CallStep call) {n:Nat} {fn:FuncId} {a:Act} {ps:Array Tmp} {c1 c2:Code} (hok1:roundOk c1=true) (hok2:roundOk c2=true) (hps:∀ p∈ps.toList,p < nt)
 {stop:Option Nat} {x:AExit} (hx:stop≠none→x=.ret∨∃ j,x=.exit j) {e:List PV} {ys:List PV} {us:List Value} (S0:Sim w I D ρ h0) (E:EnvR w I D ρ nt e a)
 (B:Betw w I D ρ h0 (recAt fn a.tmps ps c1 c2 w.heap.size stop x) H N i W I' X ρ') (hi:i < N) (hN:∀ j,stop=some j→N≤j+1)
 (R1:Round1 (evCode T call n (comp P rows nt c1)) (evCode T call n (comp P rows nt c2)) ps.toList e ys (H i) (H (i+1)) (if stop=some i then x else .normal)) (V:∀ D ρ,VRs W I' D ρ ys us) :
 ∃ fn' tmps assign body,(Instr.yield (w.heap.size+1) us.toArray).run P W=.ok (.round (w.heap.size+1) fn' tmps assign body) W∧∀ k,RoundIn (wr none) k P (w.heap.size+1) fn' tmps assign body W fun en w' =>
   en=.returned (.bool (decide (stop≠some i)))∧∃ I'' X'',(∃ ρ'',Betw w I D ρ h0 (recAt fn a.tmps ps c1 c2 w.heap.size stop x) H N (i+1) w' I'' X'' ρ'')∧Stp X W I' w' I''∧(∀ k,X'' k→X k∨W.heap.size≤k)∧∀ k o,I'' k o→k < w'.heap.size:=by
 obtain ⟨hlen,e1,s1,e2,h1,h2⟩:=R1
 have hready:recAt fn a.tmps ps c1 c2 w.heap.size stop x i=recOf fn a.tmps ps c1 c2 w.heap.size .ready none:=by
  unfold recAt
  rw [if_neg]
  rintro ⟨j,hj,rfl⟩
  have:=hN j hj
  omega
 have hl:W.heap[w.heap.size+1]?=some (.loop (recOf fn a.tmps ps c1 c2 w.heap.size .ready none)):=by rw [← hready]; exact B.loop
 have hlt:w.heap.size+1 < W.heap.size:=(Array.getElem?_eq_some_iff.1 hl).1
 have hbw:∀ k,D k→(ρ k).blk < w.heap.size:=fun k hk => S0.blk_lt k hk
 have hus:us.toArray.size=ps.size:=by
  have:=(V D ρ).1
  simp only [List.size_toArray]
  rw [this,hlen]; simp
 refine ⟨fn,_,c1,c2,run_yield hl hus,fun k => roundIn_of_wpIn (F:=wr none) trivial ?_⟩
 have st1:=evCode_step hS n h1
 have st2:=evCode_step hS n h2
 have E0:EnvR W I' (ext D h0.length (H i).h.length) ρ' nt (puts e ps.toList ys) { tmps:=(ps.zip us.toArray).foldl (fun tmps (t,a) => tmps.setIfInBounds t a) a.tmps,defers:=[] }:=by
  rw [zip_fold]
  exact puts_env (ds:=a.defers) hlen hps (V _ _) (E.next B.nxt)
 refine comp_wpIn hm hT hC hS n k (r:=some (w.heap.size+1)) (fun h => by cases h) c1 (.inr hok1) (base:=0) h1 B.sim E0 Marks.nil (Nat.zero_le _) (fun a w h => h) fun a1 w1 I1 ρ1 N1 S1 E1 M1 => ?_
 have hl1:w1.heap[w.heap.size+1]?=some (.loop (recOf fn a.tmps ps c1 c2 w.heap.size .ready none)):=(N1.stp.keep _ hlt B.rowL).trans hl
 have hI1:∀ o,¬ I1 (w.heap.size+1) o:=fun o ho => by
  rcases N1.stp.immN _ _ ho with h | h | h
  · exact (B.notI o).2 h
  · omega
  · exact B.rowL h
 have hlt1:w.heap.size+1 < w1.heap.size:=(Array.getElem?_eq_some_iff.1 hl1).1
 refine ⟨_,run_beginRound hl1 rfl,?_⟩
 generalize hw2:w1.putObj (w.heap.size+1) (.loop { recOf fn a.tmps ps c1 c2 w.heap.size .ready none with state:=.busy })=w2
 have stp1:Stp (fun b => b=w.heap.size+1) w1 I1 w2 I1:=by rw [← hw2]; exact stp_putObj hl1 (by simp) (by simp) hI1
 have hl2:w2.heap[w.heap.size+1]?=some (.loop { recOf fn a.tmps ps c1 c2 w.heap.size .ready none with state:=.busy }):=by rw [← hw2]; exact World.putObj_heap_same hlt1
 have hsz2:w2.heap.size=w1.heap.size:=by rw [← hw2]; simp
 have hrow1:∀ k,ext (ext D h0.length (H i).h.length) (H i).h.length s1.h.length k→(ρ1 k).blk≠w.heap.size+1:=fun k hk e => S1.notRow hl1 (by simp) (by simp) ⟨k,hk,e.symm⟩
 have S2:=S1.stp stp1 (fun k hk e => hrow1 k hk e) (fun b o h => by rw [hsz2]; exact S1.imm b o h)
 have M2:=M1.stp stp1 (fun d hd b ht hb => by
  obtain ⟨b',rfl,h2,_⟩:=M1.at_ d hd
  simp at ht
  subst ht hb
  rw [hl1] at h2
  cases h2)
 have hm1:w1.heap[w.heap.size]?=some (.deferred (some [])):=(N1.stp.keep _ (by omega) B.rowM).trans B.mark
 have hm2:w2.heap[w.heap.size]?=some (.deferred (some [])):=(stp1.keep _ (by omega) (by omega)).trans hm1
 have finish:∀ (jump:Option Code) (a3:Act) (w3:World) (I3:Nat→Nat→Prop) (ρ3:Nat→Row),recAt fn a.tmps ps c1 c2 w.heap.size stop x (i+1)=recOf fn a.tmps ps c1 c2 w.heap.size (if jump.isNone then .ready else .done) jump→decide (stop≠some i)=jump.isNone →
  Nxt w2 I1 (ext (ext D h0.length (H i).h.length) (H i).h.length s1.h.length) ρ1 w3 I3 (ext (ext (ext D h0.length (H i).h.length) (H i).h.length s1.h.length) s1.h.length (H (i+1)).h.length) ρ3 →
  Sim w3 I3 (ext (ext (ext D h0.length (H i).h.length) (H i).h.length s1.h.length) s1.h.length (H (i+1)).h.length) ρ3 (H (i+1)).h →
  ∃ v w',(Instr.endRound (w.heap.size+1) jump).run P w3=.ok v w'∧Ending.returned v=.returned (.bool (decide (stop≠some i)))∧∃ I'' X'',(∃ ρ'',Betw w I D ρ h0 (recAt fn a.tmps ps c1 c2 w.heap.size stop x) H N (i+1) w' I'' X'' ρ'')∧Stp X W I' w' I''∧(∀ k,X'' k→X k∨W.heap.size≤k)∧∀ k o,I'' k o→k < w'.heap.size:=by
  intro jump a3 w3 I3 ρ3 hrec hb N3 S3
  have hrow2:¬ rowsOf (ext (ext D h0.length (H i).h.length) (H i).h.length s1.h.length) ρ1 (w.heap.size+1):=fun ⟨k,hk,e⟩ => hrow1 k hk e.symm
  have hrowM2:¬ rowsOf (ext (ext D h0.length (H i).h.length) (H i).h.length s1.h.length) ρ1 w.heap.size:=S1.notRow hm1 (by simp) (by simp)
  have hl3:=(N3.stp.keep _ (by omega) hrow2).trans hl2
  have hm3:=(N3.stp.keep _ (by omega) hrowM2).trans hm2
  have hI3:∀ o,¬ I3 (w.heap.size+1) o:=fun o ho => by
   rcases N3.stp.immN _ _ ho with h | h | h
   · exact hI1 o h
   · omega
   · exact hrow2 h
  have hIM3:∀ o,¬ I3 w.heap.size o:=fun o ho => by
   rcases N3.stp.immN _ _ ho with h | h | h
   · rcases N1.stp.immN _ _ h with h | h | h
     · exact (B.notI o).1 h
     · omega
     · exact B.rowM h
   · omega
   · exact hrowM2 h
  have hlt3:=(Array.getElem?_eq_some_iff.1 hl3).1
  have stp3:=stp_putObj (I:=I3) (o':=.loop { recOf fn a.tmps ps c1 c2 w.heap.size .ready none with state:=if jump.isNone then .ready else .done,pending:=jump }) hl3 (by simp) (by simp) hI3
  have hX2:ext (ext (ext D h0.length (H i).h.length) (H i).h.length s1.h.length) s1.h.length (H (i+1)).h.length=ext D h0.length (H (i+1)).h.length:=by
   rw [ext_ext D B.len st1.len,ext_ext D (Nat.le_trans B.len st1.len) st2.len]
  have hX1:ext (ext D h0.length (H i).h.length) (H i).h.length s1.h.length=ext D h0.length s1.h.length:=ext_ext D B.len st1.len
  have Nw1:Nxt w I D ρ w2 I1 (ext (ext D h0.length (H i).h.length) (H i).h.length s1.h.length) ρ1:=(Nxt.trans hbw B.nxt N1).stp_after stp1 (fun b hb => by omega)
  have Nw3:=(Nxt.trans hbw Nw1 N3).stp_after stp3 (fun b hb => by omega)
  have hrow3:¬ rowsOf (ext (ext (ext D h0.length (H i).h.length) (H i).h.length s1.h.length) s1.h.length (H (i+1)).h.length) ρ3 (w.heap.size+1):=S3.notRow hl3 (by simp) (by simp)
  have S4:=S3.stp stp3 (fun k hk e => hrow3 ⟨k,hk,e.symm⟩) (fun b o h => by rw [World.putObj_size]; exact S3.imm b o h)
  refine ⟨_,_,run_endRound jump hl3,by rw [hb],I3,fun b => rowsOf (ext D h0.length (H (i+1)).h.length) ρ3 b∨b=w.heap.size∨b=w.heap.size+1,⟨ρ3,?_⟩,?_,?_,?_⟩
  · rw [hX2] at Nw3 S4
    refine ⟨hi,Nat.le_trans B.len (Nat.le_trans st1.len st2.len),Nw3,S4,?_,?_,fun o => ⟨hIM3 o,hI3 o⟩,fun b => Iff.rfl⟩
    · rw [hrec]; exact World.putObj_heap_same hlt3
    · exact (World.putObj_heap_other (by omega)).trans hm3
  · have a1:Stp X W I' w1 I1:=N1.stp.mono fun b hb => .inl ((B.own b).2 (.inl hb))
    have a2:Stp X W I' w2 I1:=a1.trans stp1 fun b hb => .inl ((B.own b).2 (.inr (.inr hb)))
    have a3:Stp X W I' w3 I3:=a2.trans N3.stp fun b ⟨k,hk,hb⟩ => by
     by_cases hd:ext D h0.length (H i).h.length k
     · rcases N1.blk k hd with h | h
       · exact .inl ((B.own b).2 (.inl ⟨k,hd,hb.trans h⟩))
       · exact .inr (hb ▸ h)
     · exact .inr (hb ▸ N1.blkN k hk hd)
    exact a3.trans stp3 fun b hb => .inl ((B.own b).2 (.inr (.inr hb)))
  · rintro b (⟨k,hk,hb⟩ | hb)
    · have hb2:W.heap.size≤w2.heap.size:=by rw [hsz2]; exact N1.size
      rw [← hX2] at hk
      by_cases hd1:ext (ext D h0.length (H i).h.length) (H i).h.length s1.h.length k
      · rcases N3.blk k hd1 with h | h
        · by_cases hd:ext D h0.length (H i).h.length k
          · rcases N1.blk k hd with h' | h'
            · exact .inl ((B.own b).2 (.inl ⟨k,hd,hb.trans (h.trans h')⟩))
            · exact .inr (by rw [hb,h]; exact h')
          · exact .inr (by rw [hb,h]; exact N1.blkN k hd1 hd)
        · exact .inr (by rw [hb]; omega)
      · have:=N3.blkN k hk hd1
        exact .inr (by rw [hb]; omega)
    · exact .inl ((B.own b).2 (.inr hb))
  · exact fun k o h => by rw [World.putObj_size]; exact S3.imm k o h
 refine comp_wpIn hm hT hC hS n k (r:=some (w.heap.size+1)) (fun h => by cases h) c2 (.inr hok2) (base:=0) h2 S2 (E1.stp stp1) M2 (Nat.zero_le _) (fun a w h => h) ?_
 by_cases hs:stop=some i
 · have hxx:=hx (by rw [hs]; simp)
   rw [if_pos hs]
   have hr:recAt fn a.tmps ps c1 c2 w.heap.size stop x (i+1)=recOf fn a.tmps ps c1 c2 w.heap.size .done (jumpOf x):=by
    unfold recAt
    rw [if_pos ⟨i,hs,rfl⟩]
   rcases hxx with rfl | ⟨j,rfl⟩
   · intro a3 w3 I3 ρ3 N3 S3 E3 M3
     exact finish (some .ret) a3 w3 I3 ρ3 (by rw [hr]; rfl) (by simp [hs]) N3 S3
   · intro a3 w3 I3 ρ3 N3 S3 E3 M3
     exact finish (some (.exit j)) a3 w3 I3 ρ3 (by rw [hr]; rfl) (by simp [hs]) N3 S3
 · rw [if_neg hs]
   intro a3 w3 I3 ρ3 N3 S3 E3 M3
   refine finish none a3 w3 I3 ρ3 ?_ (by simp [hs]) N3 S3
   unfold recAt
   rw [if_neg]
   · rfl
   · rintro ⟨j,hj,he⟩
     exact hs (by rw [hj]; congr 1; omega)
end
end Go.AE
/- A range over a function: the whole statement. -/
namespace Go.AE
open Go
section
variable {P:Program} {T:Tbl} {call:FuncId→List PV→List Obj→Option CallRes} {rows:List Nat} {nt:Nat}
theorem upTo_get {stop:Option Nat} {yss:Yss} {i:Nat} {ys:List PV} (h:(upTo stop yss)[i]?=some ys):yss[i]?=some ys∧i < upN stop yss.length:=by
 have h1:=(upTo_spec stop yss).2 i ys h
 refine ⟨h1,?_⟩
 rw [← (upTo_spec stop yss).1]
 exact (List.getElem?_eq_some_iff.1 h).1
theorem rangeWp (hm:P.follows .mixedOrders=true) (hT:∀ f p,T.prim f=some p→PrimOK P f p) (hC:CallOK P call) (hS:CallStep call) (hIt:ItersOK P T) (n k:Nat) (g:Operand) (ps:Array Tmp) (c1 c2:Code) (hok1:roundOk c1=true) (hok2:roundOk c2=true) :
 RangeWp P T call rows nt n k g ps c1 c2:=by
 intro base e s x e' s' a w I D ρ Q h S E M hb hQ A
 have hstep:=evCode_step hS n h
 simp only [comp] at h
 split at h
 · rename_i hc
   simp only [Bool.and_eq_true] at hc
   have hps:∀ p∈ps.toList,p < nt:=fun p hp => by
    have:=hc.1.1
    rw [Array.all_eq_true] at this
    obtain ⟨i,hi,rfl⟩:=List.getElem_of_mem hp
    have:=this i (by simpa using hi)
    simpa using this
   simp only [evCode] at h
   have hg:=E.eval g
   split at h
   · rename_i gf captured hk
     rw [hk] at hg
     generalize hv:a.eval g=vg at hg
     cases hg with
     | func _ _ _ fv lb g1 g2 g3 g4 =>
       have efv:fv=#[]:=Array.eq_empty_of_size_eq_zero (by simpa using g1)
       subst efv
       split at h
       · rename_i it hit
         split at h
         · rename_i yss hyss
           obtain ⟨rfl,stop,H,Tr⟩:=evRounds_trace h
           obtain ⟨hent,hsem⟩:=hIt gf it hit captured yss hyss
           have hV0:VRs w I D ρ captured lb.toList:=⟨by simpa using g2,g4⟩
           refine wpIn_rangeFunc fun fn _ => ?_
           generalize hW1:(w.alloc (.deferred (some []))).alloc (.loop (recOf fn a.tmps ps c1 c2 w.heap.size .ready none))=W1
           have hsz1:W1.heap.size=w.heap.size+2:=by rw [← hW1]; simp
           have hL1:W1.heap[w.heap.size+1]?=some (.loop (recOf fn a.tmps ps c1 c2 w.heap.size .ready none)):=by
            rw [← hW1]; have:=World.alloc_heap_new (w.alloc (.deferred (some []))) (.loop (recOf fn a.tmps ps c1 c2 w.heap.size .ready none)); rwa [World.size_alloc] at this
           have hK1:W1.heap[w.heap.size]?=some (.deferred (some [])):=by
            rw [← hW1]; exact (Go.RowKit.Below.heap_alloc _ _ _ (by simp)).trans (World.alloc_heap_new w _)
           have stp1:Stp (fun _ => False) w I W1 I:=by
            rw [← hW1]
            exact (stp_alloc _ S.imm).trans (stp_alloc _ fun b o h => by have:=S.imm b o h; simp; omega) fun _ (h:False) => h.elim
           have him1:∀ b o,I b o→b < W1.heap.size:=fun b o h => by have:=S.imm b o h; omega
           have S1:=S.stp stp1 (fun _ _ h => h) him1
           have N1:=(Nxt.refl w I D ρ).stp_after stp1 (fun _ (h:False) => h.elim)
           have hrec0:recAt fn a.tmps ps c1 c2 w.heap.size stop x 0=recOf fn a.tmps ps c1 c2 w.heap.size .ready none:=by
            unfold recAt
            rw [if_neg]
            rintro ⟨j,_,he⟩
            omega
           have B0:Betw w I D ρ s.h (recAt fn a.tmps ps c1 c2 w.heap.size stop x) H (upN stop yss.length) 0 W1 I (fun b => rowsOf D ρ b∨b=w.heap.size∨b=w.heap.size+1) ρ:=by
            refine ⟨Nat.zero_le _,by rw [Tr.first]; exact Nat.le_refl _,by rw [Tr.first,ext_self]; exact N1,by rw [Tr.first,ext_self]; exact S1,by rw [hrec0]; exact hL1,hK1,fun o => ⟨fun h => ?_,fun h => ?_⟩,fun b => by rw [Tr.first,ext_self]⟩
            · have:=S.imm _ _ h; omega
            · have:=S.imm _ _ h; omega
           have hlo:∀ {i:Nat} {W:World} {I':Nat→Nat→Prop} {X:Nat→Prop} {ρ':Nat→Row},Betw w I D ρ s.h (recAt fn a.tmps ps c1 c2 w.heap.size stop x) H (upN stop yss.length) i W I' X ρ'→∀ b,X b→b < W.heap.size:=by
            intro i W I' X ρ' B b hx
            rcases (B.own b).1 hx with ⟨k,hk,rfl⟩ | rfl | rfl
            · exact B.sim.blk_lt k hk
            · exact (Array.getElem?_eq_some_iff.1 B.mark).1
            · exact (Array.getElem?_eq_some_iff.1 B.loop).1
           have hNj:∀ j,stop=some j→upN stop yss.length≤j+1:=fun j hj => by subst hj; simp only [upN]; omega
           have Pt:Party P (w.heap.size+1) W1.heap.size (fun i => decide (stop≠some i)) (upTo stop yss) (fun i W I' X => ∃ ρ',Betw w I D ρ s.h (recAt fn a.tmps ps c1 c2 w.heap.size stop x) H (upN stop yss.length) i W I' X ρ'):=by
            refine ⟨fun i W I' X W' I'' Y ⟨ρ',B⟩ st hY hl him => ⟨ρ',B.stp st hY (fun k hk => by have:=hl k hk; omega) him⟩,fun i W I' X ⟨ρ',B⟩ => hlo B,fun i W I' X ys us ⟨ρ',B⟩ him hsz hy V => ?_⟩
            obtain ⟨hy1,hy2⟩:=upTo_get hy
            obtain ⟨fn',ts,as,bd,r1,r2⟩:=round_wp hm hT hC hS hok1 hok2 hps Tr.out.2 S E B hy2 hNj (Tr.rounds i ys hy1 hy2) V
            refine ⟨fn',ts,as,bd,r1,fun n => (r2 n).mono fun en w' hh => ?_⟩
            obtain ⟨he,rest⟩:=hh
            exact ⟨he,rest⟩
           have hV1:=hV0.stp stp1
           have hcalls:=hsem stop (w.heap.size+1) W1.heap.size _ W1 I D ρ _ lb.toList Pt ⟨ρ,B0⟩ him1 (Nat.le_refl _) hV1
           have hinv:(callFunc gf (#[.func (.yield (w.heap.size+1)) #[] #[]] ++ lb)).run P W1=.ok (.enter gf (#[.func (.yield (w.heap.size+1)) #[] #[]] ++ lb)) W1:=run_callFunc_enter (P:=P) hent _ W1
           refine ⟨w.heap.size+1,[{ target:=.collected w.heap.size,args:=#[] }],W1,{ target:=.fn (.func gf) lb,args:=#[.func (.yield (w.heap.size+1)) #[] #[]] },W1,gf,
            #[.func (.yield (w.heap.size+1)) #[] #[]] ++ lb,W1,?_,?_,fun _ _ => trivial,?_,(fun h => by cases h),?_⟩
           · rw [← hW1]; exact run_enterLoop_outer _ _ _ _ _
           · simp only [resolve,hv]
             simp [go_sem]
           · simp [invoke,go_sem,hinv]
           · have e0:lb.toList.toArray=lb:=by simp
             rw [e0] at hcalls
             refine (callsIn_wr hcalls).mono ?_
             rintro en W3 ⟨⟨v,rfl⟩,I3,X3,ρ3,B3⟩
             have hlt3:=(Array.getElem?_eq_some_iff.1 B3.loop).1
             have hfin:∃ st pe,recAt fn a.tmps ps c1 c2 w.heap.size stop x (upN stop yss.length)=recOf fn a.tmps ps c1 c2 w.heap.size st pe∧st≠.busy∧pe=jumpOf x:=by
              cases stop with
              | none =>
                refine ⟨.ready,none,?_,by simp,by rw [Tr.out.1 rfl]; rfl⟩
                unfold recAt
                rw [if_neg]
                rintro ⟨j,h,_⟩
                cases h
              | some j =>
                have hj:=Tr.lt j rfl
                refine ⟨.done,jumpOf x,?_,by simp,rfl⟩
                unfold recAt
                rw [if_pos ⟨j,rfl,by simp only [upN]; omega⟩]
             obtain ⟨st,pe,hrec,hst,hpe⟩:=hfin
             have hl3:=B3.loop
             rw [hrec] at hl3
             have stp3:=stp_putObj (I:=I3) (o':=.loop { recOf fn a.tmps ps c1 c2 w.heap.size st pe with state:=.exhausted }) hl3 (by simp) (by simp) (fun o => (B3.notI o).2)
             have N4:=B3.nxt.stp_after stp3 (fun b hb => by omega)
             have S4:=B3.sim.stp stp3 (fun k hk e => B3.rowL ⟨k,hk,e.symm⟩) (fun b o h => by rw [World.putObj_size]; exact B3.sim.imm b o h)
             rw [Tr.last] at N4 S4
             generalize hW4:W3.putObj (w.heap.size+1) (.loop { recOf fn a.tmps ps c1 c2 w.heap.size st pe with state:=.exhausted })=W4 at N4 S4 stp3
             have hK4:W4.heap[w.heap.size]?=some (.deferred (some [])):=by rw [← hW4]; exact (World.putObj_heap_other (by omega)).trans B3.mark
             have M4:Marks base W4 I3 (ext D s.h.length s'.h.length) ρ3 ({ target:=.collected w.heap.size,args:=#[] } :: a.defers):=by
              have Mo:=M.next N4
              refine ⟨?_,fun d hd => ?_⟩
              · simp only [List.map_cons,List.nodup_cons]
                refine ⟨fun hmem => ?_,Mo.nodup⟩
                obtain ⟨d,hd,he⟩:=List.mem_map.1 hmem
                obtain ⟨b,rfl,hb1,_⟩:=M.at_ d hd
                simp at he
                subst he
                have:=(Array.getElem?_eq_some_iff.1 hb1).1
                omega
              · rcases List.mem_cons.1 hd with rfl | hd
                · exact ⟨_,rfl,hK4,hb,fun o => (B3.notI o).1,fun k hk he => S4.notRow hK4 (by simp) (by simp) ⟨k,hk,he.symm⟩⟩
                · exact Mo.at_ d hd
             have E4:EnvR W4 I3 (ext D s.h.length s'.h.length) ρ3 nt e' { a with defers:=[{ target:=.collected w.heap.size,args:=#[] }] ++ a.defers }:=by
              have:=E.next N4
              exact ⟨this.size,this.len,this.at_⟩
             refine ⟨jumpOf x,W4,?_,?_⟩
             · rw [← hW4,← hpe]
               exact run_endLoop hl3 hst
             · cases x with
               | normal => exact A _ _ _ _ N4 S4 E4 M4
               | ret => exact wpIn_ret (A _ _ _ _ N4 S4 E4 M4)
               | exit j => exact wpIn_exit (A _ _ _ _ N4 S4 E4 M4)
               | pan p =>
                 exfalso
                 cases stop with
                 | none => have:=Tr.out.1 rfl; cases this
                 | some j => rcases Tr.out.2 (by simp) with h | ⟨_,h⟩ <;> cases h
         · cases h
       · cases h
   · cases h
 · simp only [evCode] at h; cases h
theorem leaves_marks {k:Nat} {fn:Func} {tmps:Array Value} {R:Ending→World→Prop} {w wE:World} {I:Nat→Nat→Prop} {D:Nat→Prop} {ρ:Nat→Row} {I':Nat→Nat→Prop} {D':Nat→Prop} {ρ':Nat→Row} {h':List Obj} {u:FrameMode} (hu:u≠.run)
 (hfin:∀ w',Nxt w I D ρ w' I' D' ρ'→Sim w' I' D' ρ' h'→(∀ p v,VR wE I' D' ρ' p v→VR w' I' D' ρ' p v)→LeavesIn (wr none) k P fn tmps R [] u w') :
 ∀ (ds:List Deferred) (w':World),Nxt w I D ρ w' I' D' ρ'→Sim w' I' D' ρ' h'→(∀ p v,VR wE I' D' ρ' p v→VR w' I' D' ρ' p v)→Marks w.heap.size w' I' D' ρ' ds→LeavesInM (wr none) k P fn tmps R ds u w'
 | [],w',N,S,V,M => hfin w' N S V
 | d :: ds,w',N,S,V,M => by
   obtain ⟨b,rfl,h2,h3,h4,h5⟩:=M.at_ d (by simp)
   have st:=stp_putObj (I:=I') (o':=.deferred none) h2 (by simp) (by simp) h4
   have hnd:=M.nodup
   simp only [List.map_cons,List.nodup_cons] at hnd
   refine ⟨hu,.inl ⟨b,_,rfl,run_takeDeferred h2,?_⟩⟩
   refine leaves_marks hu hfin ds _ (N.stp_after st fun x hx => by omega) (S.stp st (fun k hk e => h5 k hk e) fun b' o h => by rw [World.putObj_size]; exact S.imm b' o h) (fun p v h => (V p v h).stp st) ?_
   have Mt:Marks w.heap.size w' I' D' ρ' ds:=⟨hnd.2,fun d hd => M.at_ d (by simp [hd])⟩
   refine Mt.stp st fun d hd b' ht hb => hnd.1 ?_
   rw [← hb,← ht]
   exact List.mem_map.2 ⟨d,hd,rfl⟩
end
end Go.AE
/- A function's body. -/
namespace Go.AE
open Go
section
variable {P:Program} {T:Tbl} {call:FuncId→List PV→List Obj→Option CallRes} {rows:List Nat}
variable {w:World} {I:Nat→Nat→Prop} {D:Nat→Prop} {ρ:Nat→Row}
theorem evBody_sound (hm:P.follows .mixedOrders=true) (hT:∀ f p,T.prim f=some p→PrimOK P f p) (hIt:ItersOK P T) (hC:CallOK P call) (hS:CallStep call) {n mode f:Nat} {fn:Func} {af:AFunc} (hf:P.funcs[f]?=some fn) (hcomp:compFn P rows fn=some af)
 {args:List PV} {h:List Obj} {r:OR} {s':St} (hb:evBody T call n mode af args h=some (r,s')) {vs:List Value} (S:Sim w I D ρ h) (V:VRs w I D ρ args vs):Calls P f vs.toArray w (PostC w I D ρ h r s'):=by
 unfold compFn at hcomp
 split at hcomp
 · rename_i c res hc hres
   split at hcomp
   · rename_i hnt
     cases hcomp
     unfold evBody at hb
     split at hb
     · rename_i hargs
       refine (callsIn_wide (n:=0)).1 (callsIn_of_wp_marks hf hc trivial ?_)
       have hsz:vs.length=args.length:=V.1
       have hle:vs.length≤fn.ntmps:=by simp at hargs; omega
       have E0:EnvR w I D ρ fn.ntmps args { tmps:=vs.toArray ++ Array.replicate (fn.ntmps - vs.toArray.size) undef,defers:=[] }:=by
        refine ⟨by simp; omega,by omega,fun t => ?_⟩
        rw [eget_getD]
        by_cases ht:t < args.length
        · have:=V.2 t
          have e1:(vs.toArray ++ Array.replicate (fn.ntmps - vs.toArray.size) undef).getD t undef=vs.getD t undef:=by
           rw [Array.getD_eq_getD_getElem?,List.getD_eq_getElem?_getD,Array.getElem?_append_left (by simp; omega)]
           simp
          rw [e1]; exact this
        · rw [getD_map_ne _ t _ ht]; exact .undef _
       have fin:∀ {e:List PV} {s:St} {vals:List PV} {a':Act} {w':World} {I':Nat→Nat→Prop} {ρ':Nat→Row},Step { h,ws:=[],ups:=[] } s→resv e s.h res=some vals→tidy mode h.length (.val (tupled vals)) s=(r,s') →
        Nxt w I D ρ w' I' (ext D h.length s.h.length) ρ'→Sim w' I' (ext D h.length s.h.length) ρ' s.h→EnvR w' I' (ext D h.length s.h.length) ρ' fn.ntmps e a'→Marks w.heap.size w' I' (ext D h.length s.h.length) ρ' a'.defers →
        LeavesInM Fence.wide 0 P fn a'.tmps (PostC w I D ρ h r s') a'.defers .returning w':=by
        intro e s vals a' w' I' ρ' st hv ht N' S' E' M'
        refine leaves_marks (wE:=w') (by simp) (fun w2 N2 S2 V2 => ?_) a'.defers w' N' S' (fun _ _ h => h) M'
        have E2:EnvR w2 I' (ext D h.length s.h.length) ρ' fn.ntmps e a':=⟨E'.size,E'.len,fun t => V2 _ _ (E'.at_ t)⟩
        obtain ⟨us,h1,h2⟩:=results_run (P:=P) S2 E2 fn.results.toList res vals hres hv
        refine ⟨if hs:us.toArray.size=1 then us.toArray[0] else .tuple us.toArray,?_,?_⟩
        · exact results_eq h1
        · exact tidy_sound S st (r:=.val (tupled vals)) ⟨I',ρ',N2,S2,tupled_VR h2⟩ ht
       have hQ:∀ (a:Act) (w':World),¬ bodyPostM Fence.wide 0 P fn (PostC w I D ρ h r s') .outgrown a w':=by
        rintro a w' ⟨I',ρ',N,S',hE⟩
        cases r <;> exact hE.elim
       have hrange:(none:Option Nat)=none→∀ g ps c1 c2,roundOk c1=true→roundOk c2=true→RangeWp P T call rows fn.ntmps n 0 g ps c1 c2:=fun _ g ps c1 c2 h1 h2 => rangeWp hm hT hC hS hIt n 0 g ps c1 c2 h1 h2
       split at hb
       · rename_i e s hev
         simp only [Option.map_eq_some_iff] at hb
         obtain ⟨vals,hv,ht⟩:=hb
         have st:=evCode_step hS n hev
         exact comp_wpIn hm hT hC hS n 0 (r:=none) hrange c (.inl rfl) hev S E0 Marks.nil (Nat.le_refl _) hQ fun a' w' I' ρ' N' S' E' M' => fin st hv ht N' S' E' M'
       · rename_i e s hev
         simp only [Option.map_eq_some_iff] at hb
         obtain ⟨vals,hv,ht⟩:=hb
         have st:=evCode_step hS n hev
         exact comp_wpIn hm hT hC hS n 0 (r:=none) hrange c (.inl rfl) hev S E0 Marks.nil (Nat.le_refl _) hQ fun a' w' I' ρ' N' S' E' M' => fin st hv ht N' S' E' M'
       · rename_i p e s hev
         have ht:=Option.some.inj hb
         have st:=evCode_step hS n hev
         refine comp_wpIn hm hT hC hS n 0 (r:=none) hrange c (.inl rfl) hev S E0 Marks.nil (Nat.le_refl _) hQ fun a' w' I' ρ' v N' S' V' M' => ?_
         refine leaves_marks (wE:=w') (by simp) (fun w2 N2 S2 V2 => ?_) a'.defers w' N' S' (fun _ _ h => h) M'
         exact tidy_sound S st (r:=.pan p) ⟨I',ρ',N2,S2,v,rfl,V2 _ _ V'⟩ ht
       · cases hb
     · cases hb
   · cases hcomp
 · cases hcomp
end
end Go.AE
/- Calls, to any depth. -/
namespace Go.AE
open Go
structure TblOK (P:Program) (T:Tbl):Prop where
 mixed:P.follows .mixedOrders=true
 prim:∀ f p,T.prim f=some p→PrimOK P f p
 iter:ItersOK P T
 fn : ∀ f af, T.fn f = some af → ∃ fn rows, P.funcs[f]? = some fn ∧ compFn P rows fn = some af ∧ (fn.name == "runtime.NumGoroutine") = false
 step:∀ f sp,T.sp f=some sp→∀ call,CallStep call→∀ args h r s',sp call args h=some (r,s')→Step { h,ws:=[],ups:=[] } s'
 sp:∀ f sp,T.sp f=some sp→∀ call,CallStep call→CallOK P call→∀ args h r s',sp call args h=some (r,s')→Enters P f∧h.length≤s'.h.length ∧
  ∀ w I D ρ vs,Sim w I D ρ h→VRs w I D ρ args vs→Calls P f vs.toArray w (PostC w I D ρ h r s')
theorem evCall_sound {P:Program} {T:Tbl} (O:TblOK P T):∀ n,CallOK P (evCall T n)
 | 0,f,args,h,r,s',hc => by simp [evCall] at hc
 | n+1,f,args,h,r,s',hc => by
   have ih:=evCall_sound O n
   have st:=evCall_step O.step (n+1) f args h r s' hc
   simp only [evCall] at hc
   split at hc
   · rename_i sp hsp
     exact O.sp f sp hsp _ (evCall_step O.step n) ih args h r s' hc
   · split at hc
     · rename_i af haf
       obtain ⟨fn,rows,h1,h2,h3⟩:=O.fn f af haf
       refine ⟨⟨fn,h1,h3,?_⟩,st.len,fun w I D ρ vs S V => evBody_sound O.mixed O.prim O.iter ih (evCall_step O.step n) h1 h2 hc S V⟩
       unfold compFn at h2
       split at h2
       · rename_i c res hb _
         rw [hb]; rfl
       · cases h2
     · cases hc
end Go.AE
