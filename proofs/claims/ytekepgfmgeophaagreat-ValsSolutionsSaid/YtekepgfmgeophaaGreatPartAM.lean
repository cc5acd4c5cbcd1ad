/- slices.Grow of a nil slice, as the evaluator sees it: a slice of its own, with room. -/
import Derived.Test.YtekepgfmgeophaaGreatPartAK
import Derived.Test.YtekepgfmgeophaaGreatPartAD
set_option linter.unusedVariables false
set_option linter.unusedSimpArgs false
namespace Go.AE
open Go
def qh8(sz bytes:Nat):SpFn:=fun _ args h=>
 match args with
 |[.slice _ [] .nil,.int .i64 n]=>if n=0 then some (.val (.slice 0 [] .nil),{h,ws:=[],ups:=[]})else if 0<n∧n*bytes≤1000000000∧n≤1000000000 then some (.val (.slice sz [] (.tok h.length)),alloc (.tok sz 0) {h,ws:=[],ups:=[]})else none
 |_=>none
theorem qn6{call:FuncId→List PV→List Obj→Option qam}{sz bytes:Nat}{args:List PV}{h:List Obj}{r:OR}{s':St}(hb:qh8 sz bytes call args h=some (r,s')):
 ∃z,(args=[.slice z [] .nil,.int .i64 0]∧r=.val (.slice 0 [] .nil)∧s'={h,ws:=[],ups:=[]})∨
   ∃n:Int,0<n∧n*bytes≤1000000000∧n≤1000000000∧args=[.slice z [] .nil,.int .i64 n]∧r=.val (.slice sz [] (.tok h.length))∧s'=alloc (.tok sz 0) {h,ws:=[],ups:=[]}:=by
 unfold qh8 at hb;split at hb
 next z n=>
   split at hb
   ·grind
   · split at hb
     next h1=>
       cases hb;exact⟨z,.inr ⟨n,h1.1,h1.2.1,h1.2.2,rfl,rfl,rfl⟩⟩
     ·cases hb
 ·cases hb
theorem growSp_ok{P:Program}{f sz bytes:Nat}{ty:TypeId}{z:Value}(hz:z.cells.size=sz)(hE:Enters P f)
 (hR:∀w,Calls P f #[.slice none 0 0,.int .i64 0] w fun e w'=>e=.returned (.slice none 0 0)∧w'=w)
 (hG:∀(n:Nat) w,0<n→n*bytes≤1000000000→n≤1000000000→Calls P f #[.slice none 0 0,.int .i64 (n:Int)] w fun e w'=>e=.returned (.slice (some ⟨w.heap.size,0,none⟩) 0 (grownCap w n 0 ty))∧w'=w.drew.alloc (.cells (Builtin.zeroCells z.cells n++Builtin.zeroCells z.cells (grownCap w n 0 ty - n)) ty)):
 SpOK P f (qh8 sz bytes)where
 step call _ args h r s' hb:=by
  obtain⟨z',⟨_,_,rfl⟩|⟨n,_,_,_,_,_,rfl⟩⟩:=qn6 hb
  ·exact .refl _
  ·exact .alloc _ _
 sp call _ _ args h r s' hb:=by
  obtain⟨z',⟨rfl,rfl,rfl⟩|⟨n,hn,hb1,hb2,rfl,rfl,rfl⟩⟩:=qn6 hb
  · refine⟨hE,nR0 _,fun w I D ρ vs S V=>?_⟩;obtain⟨hl,hj⟩:=V
    obtain⟨v,u,rfl⟩:∃v u,vs=[v,u]:=by
     match vs,hl with
     |[v,u],_=>exact⟨v,u,rfl⟩
    have hv:=hj 0;have hu:=hj 1;simp at hv hu;cases hu;cases hv with
    |slice _ _ _ A cap b o vs' hsz hm hne hcap hlen hat hvv=>
      obtain⟨rfl,rfl,_⟩:=hm;refine(hR w).mono fun e w' hp=>?_;obtain⟨rfl,rfl⟩:=hp;refine⟨I,ρ,?_,?_,?_⟩
      ·rw[qay];exact Nxt.refl _ _ _ _
      ·rw[qay];exact S
      · rw[qay];exact .slice 0 [] .nil none 0 b o vs' (by simp) ⟨rfl,rfl,rfl⟩ hne hcap hlen hat hvv
  · refine⟨hE,by simp[alloc],fun w I D ρ vs S V=>?_⟩;obtain⟨N,rfl⟩:=iZ0 (show 0≤n by omega);obtain⟨hl,hj⟩:=V
    obtain⟨v,u,rfl⟩:∃v u,vs=[v,u]:=by
     match vs,hl with
     |[v,u],_=>exact⟨v,u,rfl⟩
    have hv:=hj 0;have hu:=hj 1;simp at hv hu;cases hu;cases hv with
    |slice _ _ _ A cap b o vs' hsz hm hne hcap hlen hat hvv=>
      obtain⟨rfl,rfl,_⟩:=hm
      refine(hG N w (by omega) (by
       have:((N*bytes:Nat):Int)≤1000000000:=by rw[Int.natCast_mul];exact hb1
       omega) (by omega)).mono fun e w' hp=>?_
      obtain⟨rfl,rfl⟩:=hp;have S1:Sim w.drew I D ρ h:=S.same rfl;have hge:=grownCap_ge w N 0 ty
      let row:Row:=⟨w.heap.size,0,sz,grownCap w N 0 ty⟩
      let J:Nat→Prop:=fun _=>False
      let Cb:Array Value:=Builtin.zeroCells z.cells N++Builtin.zeroCells z.cells (grownCap w N 0 ty - N)
      have hcs:Cb.size=grownCap w N 0 ty*sz:=by
       simp only[Cb,Array.size_append,size_zeroCells,hz,←Nat.add_mul]
       congr 1
       omega
      have hl3:(alloc (.tok sz 0) {h,ws:=[],ups:=[]}).h.length=h.length+1:=by simp[alloc]
      have N':=Nxt.trans (fun k hk=>S.blk_lt k hk) Nxt.drew (qew S1 (.cells Cb ty) J (h.length+1) row rfl (.inr rfl));have hnew:(w.drew.alloc (.cells Cb ty)).heap[w.heap.size]?=some (.cells Cb ty):=heap_alloc_new w.drew _;refine⟨qd2 I w.heap.size J,upd1 ρ h.length row,?_⟩;rw[hl3];refine⟨N',qfj S1 _ J row rfl _ ?_,?_⟩
      · unfold OK;rw[qap];refine⟨rfl,rfl,Nat.zero_le _,fun q hq=>?_,Cb,ty,(0,0),hnew,hcs.symm,qcn _⟩;rcases hq with hq|⟨_,hq⟩
        ·exact absurd (S.imm _ q hq) (by simp[row])
        ·grind
      ·exact .slice sz [] (.tok h.length) (some ⟨w.heap.size,0,none⟩) (grownCap w N 0 ty) w.heap.size 0 [] (by simp) ⟨.inr (by omega),rfl,by rw[qap];exact nR0 _,fun _=>by rw[qap];exact⟨rfl,rfl,rfl⟩⟩ (by simp) ⟨Nat.zero_le _,fun h0=>(by cases h0)⟩ rfl (fun j v hj=>by simp at hj) (fun j=>by simp[flat];exact .undef _)
end Go.AE
