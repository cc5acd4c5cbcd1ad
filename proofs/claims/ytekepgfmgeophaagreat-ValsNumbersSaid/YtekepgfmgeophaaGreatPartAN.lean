/- Texts of the proof, one behind the other: ValIter, ValT0, ValS2, ValS3, ValFnsL, ValL1, ValE1, ValL2, ValL3, ValL5, ValL6, ValL7, ValL8, ValL9, ValFnsI, ValN3, ValN4, ValL10, ValL12, ValN5, ValN6. -/
import Derived.Test.YtekepgfmgeophaaGreatPartAI
import Derived.Test.YtekepgfmgeophaaGreatPartAM
import Derived.KernelRfl
import Derived.Test.YtekepgfmgeophaaGreatPartAJ
import Derived.Test.YtekepgfmgeophaaGreatPartAL
set_option linter.unusedVariables false
set_option linter.unusedSimpArgs false
/- The table's specials: slices.Clone, guarded; the iterator of assignments at the lists of the chapter's example. -/
namespace Go.Proofs.Tryz
open Go Go.AE
theorem mixed : Tryz.prog.follows .mixedOrders = true := by kernel_rfl
def i64 (n : Int) : PV := .int .i64 n
def sl (sz : Nat) (l : List PV) : PV := .slice sz l .any
def tm (n : Int) (l : List PV) : PV := .agg [i64 2, i64 n, sl 3 l]
def zT : PV := .agg [i64 2, i64 0, sl 0 []]
def oneT : PV := tm 1 [zT]
def domL : PV := sl 3 [zT, oneT]
def yss0 : Yss := [[sl 0 []]]
def yss1 : Yss := [[sl 3 [zT]], [sl 3 [oneT]]]
def yss2 : Yss := [[sl 3 [zT, zT]], [sl 3 [zT, oneT]], [sl 3 [oneT, zT]], [sl 3 [oneT, oneT]]]
noncomputable def af182 : AFunc := (compFn Tryz.prog [] Tryz.f182).getD ⟨0, 0, .bad, []⟩
theorem comp182 : compFn Tryz.prog [] Tryz.f182 = some af182 := by kernel_rfl
def caller0 : FuncId → List PV → List AE.Obj → Option CallRes := fun _ _ _ => none
theorem caller0_ok {P : Program} : CallOK P caller0 := fun _ _ _ _ _ h => by cases h
theorem caller0_step : CallStep caller0 := fun _ _ _ _ _ h => by cases h
theorem sem182 {captured : List PV} {yss : Yss} (hp : pures captured = true) (h : ∀ (l : Nat) (stop : Option Nat), yBody noTbl caller0 (fun i => decide (stop ≠ some i)) 30 af182 (.func (.yield l) [] [] :: weaks captured) = some ((upTo stop yss).map fun ys => (l, ys))) : IterSem Tryz.prog 182 captured yss :=
 iterSem_of (T := noTbl) mixed (fun _ _ h => by cases h) Tryz.func182 (by decide) comp182 hp fun l stop => ⟨caller0, 30, caller0_ok, caller0_step, h l stop⟩
theorem sem0 : IterSem Tryz.prog 182 [.iptr (sl 0 []) 0] yss0 := sem182 rfl fun l stop => match stop with
 | none => by kernel_rfl
 | some 0 => by kernel_rfl
 | some (k + 1) => by kernel_rfl
theorem sem1 : IterSem Tryz.prog 182 [.iptr (sl 1 [domL]) 0] yss1 := sem182 rfl fun l stop => match stop with
 | none => by kernel_rfl
 | some 0 => by kernel_rfl
 | some 1 => by kernel_rfl
 | some (k + 2) => by kernel_rfl
theorem sem2 : IterSem Tryz.prog 182 [.iptr (sl 1 [domL, domL]) 0] yss2 := sem182 rfl fun l stop => match stop with
 | none => by kernel_rfl
 | some 0 => by kernel_rfl
 | some 1 => by kernel_rfl
 | some 2 => by kernel_rfl
 | some 3 => by kernel_rfl
 | some (k + 4) => by kernel_rfl
def itNat (captured : List PV) : Option (List (List PV)) :=
 if peqs captured [.iptr (sl 0 []) 0] then some yss0 else if peqs captured [.iptr (sl 1 [domL]) 0] then some yss1 else if peqs captured [.iptr (sl 1 [domL, domL]) 0] then some yss2 else none
noncomputable def af54 : AFunc := (compFn Tryz.prog [] Tryz.f54).getD ⟨0, 0, .bad, []⟩
theorem comp54 : compFn Tryz.prog [] Tryz.f54 = some af54 := by kernel_rfl
noncomputable def af55 : AFunc := (compFn Tryz.prog [] Tryz.f55).getD ⟨0, 0, .bad, []⟩
theorem comp55 : compFn Tryz.prog [] Tryz.f55 = some af55 := by kernel_rfl
noncomputable def af75 : AFunc := (compFn Tryz.prog [] Tryz.f75).getD ⟨0, 0, .bad, []⟩
theorem comp75 : compFn Tryz.prog [] Tryz.f75 = some af75 := by kernel_rfl
noncomputable def af208 : AFunc := (compFn Tryz.prog [] Tryz.f208).getD ⟨0, 0, .bad, []⟩
theorem comp208 : compFn Tryz.prog [] Tryz.f208 = some af208 := by kernel_rfl
theorem clone_ok {f : Nat} {fn : Func} {af : AFunc} (hf : Tryz.prog.funcs[f]? = some fn) (hn : (fn.name == "runtime.NumGoroutine") = false) (hcomp : compFn Tryz.prog [] fn = some af)
 (h0 : ∀ call sz h, ∃ z, evBody noTbl call 1 1 af [.slice sz [] .nil] h = some (.val (.slice z [] .nil), { h, ws := [], ups := [] }))
 (h1 : ∀ call sz h, ∃ z, evBody noTbl call 1 1 af [.slice sz [] .nonnil] h = some (.val (.slice z [] .lit), { h, ws := [], ups := [] })) : SpOK Tryz.prog f (cloneSp af) :=
 ⟨fun _ hS _ _ _ _ h => by
  unfold cloneSp at h
  split at h
  · cases h; exact .refl _
  · exact evBody_step hS h, fun _ hS hC _ _ _ _ h => (cloneSp_ok mixed hf hn hcomp h0 h1 hS hC h).2⟩
theorem clone54 : SpOK Tryz.prog 54 (cloneSp af54) := clone_ok Tryz.func54 (by decide) comp54 (fun call sz h => ⟨0, by kernel_rfl⟩) (fun call sz h => ⟨1, by kernel_rfl⟩)
theorem clone55 : SpOK Tryz.prog 55 (cloneSp af55) := clone_ok Tryz.func55 (by decide) comp55 (fun call sz h => ⟨0, by kernel_rfl⟩) (fun call sz h => ⟨3, by kernel_rfl⟩)
theorem clone75 : SpOK Tryz.prog 75 (cloneSp af75) := clone_ok Tryz.func75 (by decide) comp75 (fun call sz h => ⟨0, by kernel_rfl⟩) (fun call sz h => ⟨6, by kernel_rfl⟩)
theorem clone208 : SpOK Tryz.prog 208 (cloneSp af208) := clone_ok Tryz.func208 (by decide) comp208 (fun call sz h => ⟨0, by kernel_rfl⟩) (fun call sz h => ⟨1, by kernel_rfl⟩)
theorem guard189 : SpOK Tryz.prog 189 (AE'.guardedSp 260 2) := ⟨fun _ hS _ _ _ _ h => AE'.guardedSp_step hS h, fun _ hS hC _ _ _ _ h => AE'.guardedSp_ok hS hC h⟩
end Go.Proofs.Tryz
/- The table, and that it is the program's. -/
namespace Go.Proofs.Tryz
open Go Go.AE
noncomputable def spOf : Nat → Option SpFn := fun f =>
 if f = 54 then some (cloneSp af54) else if f = 55 then some (cloneSp af55) else if f = 75 then some (cloneSp af75) else if f = 208 then some (cloneSp af208) else if f = 189 then some (AE'.guardedSp 260 2) else none
noncomputable def T0 : Tbl := { fn := fnOf, prim := primOf, sp := spOf, mode := fun f => if f = 178 then 1 else if f = 138 then 1 else 0, iter := fun f => if f = 182 then some itNat else none }
theorem prim247 : PrimOK Tryz.prog 247 .countString := ⟨Tryz.f247, Tryz.func247, by decide, rfl, by kernel_rfl, by kernel_rfl⟩
theorem prim272 : PrimOK Tryz.prog 272 .indexByteString := ⟨Tryz.f272, Tryz.func272, by decide, rfl, by kernel_rfl, by kernel_rfl⟩
theorem sp_ok {f : FuncId} {sp : SpFn} (h : spOf f = some sp) : SpOK Tryz.prog f sp := by
 unfold spOf at h
 split at h
 · rename_i e; cases e; cases h; exact clone54
 split at h
 · rename_i e; cases e; cases h; exact clone55
 split at h
 · rename_i e; cases e; cases h; exact clone75
 split at h
 · rename_i e; cases e; cases h; exact clone208
 split at h
 · rename_i e; cases e; cases h; exact guard189
 · cases h
theorem T0_fn : T0.fn = fnOf := by unfold T0; with_reducible rfl
theorem T0_prim : T0.prim = primOf := by unfold T0; with_reducible rfl
theorem T0_sp : T0.sp = spOf := by unfold T0; with_reducible rfl
theorem fnOf_ok {f : FuncId} {af : AFunc} (h : fnOf f = some af) : ∃ fn rows, Tryz.prog.funcs[f]? = some fn ∧ compFn Tryz.prog rows fn = some af ∧ (fn.name == "runtime.NumGoroutine") = false := by
 unfold fnOf at h
 revert h
 generalize Tryz.prog = P
 intro h
 split at h
 · rename_i fn hf
   split at h
   · rename_i hn
     exact ⟨fn, [], hf, h, hn⟩
   · cases h
 · cases h
theorem T0_ok : TblOK Tryz.prog T0 where
 mixed := mixed
 prim f p h := by
  rw [T0_prim] at h
  unfold primOf at h
  split at h
  · rename_i e; cases e; cases h; exact prim247
  split at h
  · rename_i e; cases e; cases h; exact prim272
  · cases h
 iter f it h captured yss hc := by
  have h : (if f = 182 then some itNat else none) = some it := h
  split at h
  · rename_i e
    cases e; cases h
    unfold itNat at hc
    split at hc
    · rename_i e; cases hc; rw [peqs_sound e]; exact sem0
    split at hc
    · rename_i e; cases hc; rw [peqs_sound e]; exact sem1
    split at hc
    · rename_i e; cases hc; rw [peqs_sound e]; exact sem2
    · cases hc
  · cases h
 fn f af h := fnOf_ok (by rw [← T0_fn]; exact h)
 step f sp h := (sp_ok (by rw [← T0_sp]; exact h)).step
 sp f sp h := (sp_ok (by rw [← T0_sp]; exact h)).sp
theorem T0_std : Std T0 where
 sp f h := by
  have h2 : f ≠ 54 ∧ f ≠ 55 ∧ f ≠ 75 ∧ f ≠ 208 ∧ f ≠ 189 ∧ f ≠ 15 ∧ f ≠ 87 ∧ f ≠ 91 := by simpa [spList] using h
  rw [T0_sp]
  unfold spOf
  rw [if_neg h2.1, if_neg h2.2.1, if_neg h2.2.2.1, if_neg h2.2.2.2.1, if_neg h2.2.2.2.2.1]
 fn f := by rw [T0_fn]
 prim := T0_prim
 mode f := rfl
end Go.Proofs.Tryz
/- sig.key: exact. -/
namespace Go.Proofs.Tryz
open Go Go.AE
variable {T : Tbl} (hT : Std T)
def a208 : AFunc := ⟨1, 8, (.seq (.reg [
    ⟨(some 2), .move (.c (.slice 0 [] .nil)), none, false, 0, 0, false⟩])
 (.seq (.seq (.reg [
  ⟨(some 3), .move (.t 0), none, false, 0, 0, false⟩,
  ⟨(some 4), .eq false .slice (.t 3) (.c (.slice 0 [] .nil)), none, false, 0, 0, false⟩])
 (.cond (.t 4)
 (.seq (.reg [
  ⟨(some 2), .move (.c (.slice 0 [] .nil)), none, false, 0, 0, false⟩])
 .ret)
 .skip))
 (.seq (.reg [
  ⟨(some 5), .buildSlice 1 (.int .i64 0) 0 [], none, false, 0, 0, false⟩,
  ⟨(some 6), .move (.t 0), none, false, 0, 0, false⟩,
  ⟨(some 7), .append 1 8 (.t 5) (.t 6), none, true, 0, 0, false⟩,
  ⟨(some 2), .move (.t 7), none, false, 0, 0, false⟩])
 .ret))), [.t 2]⟩
theorem af208_eq : af208 = a208 := by kernel_rfl
theorem clone_ev (hC : T.sp 208 = some (cloneSp af208)) {x : Int} {l : List Int} (hl : l.length < 900) (h : List AE.Obj) : Ev T 208 [.slice 1 ((x :: l).map encI) .any] h (.val (.slice 1 ((x :: l).map encI) (.tok h.length)), ⟨h ++ [.tok 1 (l.length + 1)], [], []⟩) := by
 have hroom : (l.length + 1) * 8 ≤ room ∧ l.length + 1 ≤ room := by
  have : 100000 ≤ room := by decide
  constructor <;> omega
 have hc : ∀ y ∈ l, (encI y).cells.all PV.isCell = true := fun _ _ => rfl
 refine ⟨1, fun n hn => ?_⟩
 obtain ⟨n, rfl⟩ : ∃ k, n = k + 1 := ⟨n - 1, by omega⟩
 simp only [evCall, hC, cloneSp, List.map_cons, af208_eq]
 simp [evBody, a208, evCode, evOps, evOp, wantedA, putD, eput, eget, ax, eqop, isNil, fillE, appendop, elems, hroom, PV.cells, PV.isCell, encI, alloc, oval, resv, tupled, tidy, below]
theorem wall_low {n : Nat} : ∀ {a b : List Nat}, (∀ k ∈ a, n ≤ k) → (∀ k ∈ b, n ≤ k) → ∀ k ∈ wall a b, n ≤ k
 | [], b, _, hb => hb
 | x :: a, b, ha, hb => wadd_low (ha x (by simp)) (wall_low (a := a) (fun k hk => ha k (by simp [hk])) hb)
def bPV (l : List UInt8) : List PV := l.map fun b => .int .u8 b.toNat
theorem unbytes_eq : ∀ l : List UInt8, unbytes (bPV l) = some l
 | [] => rfl
 | u :: l => by
   have h1 : (0 : Int) ≤ (u.toNat : Int) ∧ (u.toNat : Int) < 256 := ⟨by omega, by have := u.toNat_lt; omega⟩
   have h2 := unbytes_eq l
   unfold bPV at h2 ⊢
   simp only [List.map_cons, unbytes, unbyte, h1, and_self, if_true, h2, Int.toNat_natCast, UInt8.ofNat_toNat]
theorem wrap_u8 (n : Int) : IntKind.u8.wrap n = ((lowB n).toNat : Int) := by
 have h1 : IntKind.u8.wrap n = n % 256 := by rfl
 simp only [lowB, UInt8.toNat_ofNat']
 omega
theorem key_loop {h0 H : List AE.Obj} {L : List Int} {m : SM} {kb : Nat} {bs : List UInt8} {ws : List Nat} {e : List PV} {Q : AExit → List PV → St → Prop} (hL : L.length < 1000) (hkb : h0.length ≤ kb) (low : Low h0.length h0 H) (hk : H[kb]? = some (.tok 1 bs.length)) (hb : bs.length < 2000)
 (hw : ∀ k ∈ ws, h0.length ≤ k) (e3 : eget e 3 = .slice 1 (bPV bs) (.tok kb)) (e16 : eget e 16 = .slice 1 (L.map encI) m) (e17 : eget e 17 = .int .i64 (L.length : Int)) (e18 : eget e 18 = .int .i64 0)
 (hQ : ∀ H' ws' e', Low h0.length h0 H' → (∀ k ∈ ws', h0.length ≤ k) → eget e' 3 = .slice 1 (bPV (bs ++ L.map lowB)) (.tok kb) → Q (.exit 0) e' ⟨H', ws', []⟩) : wpC T (.loop a164b0) e ⟨H, ws, []⟩ Q := by
 refine wpC.loopM (fun n e st => ∃ (i : Nat) (H : List AE.Obj) (ws : List Nat), i + n = L.length ∧ Low h0.length h0 H ∧ H[kb]? = some (.tok 1 (bs ++ (L.take i).map lowB).length) ∧ (∀ k ∈ ws, h0.length ≤ k) ∧ eget e 3 = .slice 1 (bPV (bs ++ (L.take i).map lowB)) (.tok kb) ∧ eget e 16 = .slice 1 (L.map encI) m ∧ eget e 17 = .int .i64 (L.length : Int) ∧ eget e 18 = .int .i64 (i : Int) ∧ st = ⟨H, ws, []⟩) ?_ L.length _ _ ⟨0, H, ws, by omega, low, by simpa using hk, hw, by simpa using e3, e16, e17, e18, rfl⟩
 rintro n e st ⟨i, H, ws, hi, low, hk, hw, e3, e16, e17, e18, rfl⟩
 by_cases h1 : i < L.length
 · have ga := get_enc h1
   have hu2 := wrap_u8 L[i]
   have hn1 : bs ++ (L.take (i + 1)).map lowB = (bs ++ (L.take i).map lowB) ++ [lowB L[i]] := by
    rw [List.take_add_one, List.getElem?_eq_getElem h1, List.map_append, ← List.append_assoc]
    rfl
   have hBl : (bs ++ (L.take i).map lowB).length = bs.length + i := by simp; omega
   generalize hB : bs ++ (L.take i).map lowB = B at *
   generalize hc : lowB L[i] = c at *
   have hroom : (B.length + 1) * 1 ≤ room ∧ B.length + 1 ≤ room := by
    have : 100000 ≤ room := by decide
    constructor <;> omega
   have fe : fillE 1 (List.replicate 1 (PV.int .u8 0)) [(0, .int .u8 (c.toNat : Int))] = some [.int .u8 (c.toNat : Int)] := rfl
   have fa : appendop 1 1 (.slice 1 (bPV B) (.tok kb)) (.slice 1 [.int .u8 (c.toNat : Int)] .lit) ⟨H, ws, []⟩ = some (.slice 1 (bPV (B ++ [c])) (.tok kb), ⟨H.set kb (.tok 1 (B.length + 1)), wadd kb ws, []⟩) := by
    have hl : (bPV B).length = B.length := by simp [bPV]
    simp [appendop, elems, hk, PV.cells, PV.isCell, hroom, wrote_none, hl]
    simp [bPV]
   simp (disch := first | omega | decide | simp only [go_sem]) only [go_sem, a164b0, e3, e16, e17, e18, h1, ga, hu2, fe, fa]
   exact ⟨n - 1, by omega, i + 1, _, _, by omega, low.trans (.set hkb), by rw [get_set hk, hn1]; simp, wadd_low hkb hw, by rw [hn1], rfl, rfl⟩
 · simp (disch := first | omega | decide | simp only [go_sem]) only [go_sem, a164b0, e3, e16, e17, e18, h1]
   have hil : i = L.length := by omega
   subst hil
   rw [List.take_length] at e3
   exact hQ _ _ _ low hw (by simp (disch := first | omega | decide | simp only [go_sem]) only [go_sem, e3])
include hT in
theorem key_ev (hC : T.sp 208 = some (cloneSp af208)) {o : GOp} (ho : o.name.size < 1000 ∧ o.args.length < 900) (h : List AE.Obj) : Ev T 164 [encOp o] h (.val (.str ⟨(keyL o).toArray⟩), ⟨h, [], []⟩) := by
 refine Ev.walk (hT.sp _ (by decide)) ((hT.fn _).trans fn164) (hT.mode _) rfl ?_
 have hts : (o.name ++ ByteArray.mk #[40]).size = o.name.size + 1 := by simp; rfl
 have hts2 : (ByteArray.mk #[40]).size = 1 := rfl
 have hroom : o.name.size + 1 ≤ room := by
  have : 100000 ≤ room := by decide
  omega
 have htl : (o.name ++ ByteArray.mk #[40]).data.toList = o.name.data.toList ++ [40] := by simp
 generalize ht : o.name ++ ByteArray.mk #[40] = t at hts htl
 have okb : bytesPV t = bPV t.data.toList := rfl
 have hbl : t.data.toList.length = t.size := by simp
 have htr : t.size ≤ room := by omega
 have hsum : o.name.size + (ByteArray.mk #[40]).size ≤ 9223372036854775807 := by rw [hts2]; omega
 have fe : fillE 1 (List.replicate 1 (PV.int .i64 0)) [(0, .int .i64 o.res)] = some [.int .i64 o.res] := rfl
 generalize hkb : (h ++ [AE.Obj.row 3 [encOp o]]).length = kb
 generalize hH1 : ((h ++ [AE.Obj.row 3 [encOp o]]) ++ [AE.Obj.tok 1 t.size]) = H1
 have low1 : Low h.length h H1 := by
  rw [← hH1]
  exact ((Low.refl _ _).push (Nat.le_refl _)).push (by simp)
 have g0 : H1[h.length]? = some (.row 3 [encOp o]) := by rw [← hH1]; simp
 have gb : H1[kb]? = some (.tok 1 t.size) := by rw [← hH1, ← hkb]; simp
 have hlb : h.length ≤ kb := by rw [← hkb]; simp
 have hl1 : kb < H1.length := (List.getElem?_eq_some_iff.1 gb).1
 have keep : ∀ {k : Nat} {ob o2 : AE.Obj}, H1[k]? = some ob → (H1 ++ [o2])[k]? = some ob := fun hx => by
  rw [List.getElem?_append_left (List.getElem?_eq_some_iff.1 hx).1]; exact hx
 have hroom2 : (o.args.length + 1) * 8 ≤ room ∧ o.args.length + 1 ≤ room := by
  have : 100000 ≤ room := by decide
  constructor <;> omega
 have cl : ∃ v H2 m3 H3 ws3, Ev T 208 [.slice 1 (o.args.map encI) .any] H1 (.val v, ⟨H2, [], []⟩) ∧ refl1 v = [] ∧ H2[h.length]? = some (.row 3 [encOp o]) ∧ appendop 1 8 v (.slice 1 [.int .i64 o.res] .lit) ⟨H2, [], []⟩ = some (.slice 1 ((o.args ++ [o.res]).map encI) m3, ⟨H3, ws3, []⟩) ∧ Low h.length h H3 ∧ H3[kb]? = some (.tok 1 t.size) ∧ ∀ k ∈ ws3, h.length ≤ k := by
  cases ha : o.args with
  | nil =>
    refine ⟨.slice 1 [] .full, H1, .tok H1.length, H1 ++ [.tok 1 1], [], ⟨1, fun n hn => ?_⟩, rfl, g0, ?_, low1.push (by omega), keep gb, by simp⟩
    · obtain ⟨n, rfl⟩ : ∃ k, n = k + 1 := ⟨n - 1, by omega⟩
      simp only [evCall, hC, cloneSp, List.map_nil]
    · rw [ha] at hroom2
      simp at hroom2
      simp [appendop, elems, hroom2, PV.cells, PV.isCell, alloc, encI]
  | cons x l =>
    rw [ha] at hroom2
    refine ⟨_, H1 ++ [.tok 1 (l.length + 1)], .tok H1.length, (H1 ++ [AE.Obj.tok 1 (l.length + 1)]).set H1.length (AE.Obj.tok 1 (l.length + 2)), wadd H1.length [], clone_ev hC (by rw [ha] at ho; simp at ho; omega) H1, rfl, keep g0, ?_, (low1.push (by omega)).trans (.set (by omega)), get_set_ne (keep gb) (by omega), wadd_low (by omega) (by simp)⟩
    simp at hroom2
    have e1 : (H1 ++ [AE.Obj.tok 1 (l.length + 1)])[H1.length]? = some (.tok 1 (l.length + 1)) := by simp
    simp [appendop, elems, hroom2, PV.cells, PV.isCell, e1, wrote_none, encI]
 obtain ⟨v, H2, m3, H3, ws3, c1, c2, c3, c4, c5, c6, c7⟩ := cl
 have l1 : loadAt false 1 (.ptr h.length 0 1 1) H1 = some (.slice 1 (o.args.map encI) .any) := by rw [ld_at g0]; rfl
 have l2 : loadAt false 1 (.ptr h.length 0 2 1) H2 = some (.int .i64 o.res) := by rw [ld_at c3]; rfl
 simp (disch := first | omega | decide | simp only [go_sem]) only [go_sem, ht, htr, hsum, fe, hkb, hH1, hT.prim, primOf, cb c1, c2, l1, l2, c4]
 refine key_loop (L := o.args ++ [o.res]) (m := m3) (kb := kb) (h0 := h) (bs := t.data.toList) (by simp; omega) hlb c5 (by rw [hbl]; exact c6) (by omega) (wall_low c7 (by simp)) (by simp (disch := first | omega | decide | simp only [go_sem]) only [go_sem, hkb, okb]) (by simp (disch := first | omega | decide | simp only [go_sem]) only [go_sem]) (by simp (disch := first | omega | decide | simp only [go_sem]) only [go_sem]) (by simp (disch := first | omega | decide | simp only [go_sem]) only [go_sem]) fun H' ws' e' low' hw' e3 => ?_
 have hkl : t.data.toList ++ (o.args ++ [o.res]).map lowB = keyL o := by rw [htl]; rfl
 rw [hkl] at e3
 have hsv : strofv (.slice 1 (bPV (keyL o)) (.tok kb)) H' = some (.str ⟨(keyL o).toArray⟩) := by simp [strofv, elems, unbytes_eq]
 simp (disch := first | omega | decide | simp only [go_sem]) only [go_sem, e3, hsv]
 exact tidy_low rfl rfl low' hw'
end Go.Proofs.Tryz
/- sig.Check: exact. -/
namespace Go.Proofs.Tryz
open Go Go.AE
variable {T : Tbl} (hT : Std T)
def okMap (es : List (PV × PV)) : Prop := ∀ p ∈ es, ∃ n, p = (.str n, .bool true)
def inK (n : ByteArray) (es : List (PV × PV)) : Prop := ∃ p ∈ es, p.1 = .str n
theorem str_beq {n m : ByteArray} : (n == m) = true ↔ n = m := by
 obtain ⟨x⟩ := n
 obtain ⟨y⟩ := m
 constructor
 · intro h
   have e : x = y := by simpa using (show (x == y) = true from h)
   rw [e]
 · intro h
   cases h
   show (x == x) = true
   simp
theorem find_ok {n : ByteArray} : ∀ {es : List (PV × PV)}, okMap es → ∃ b : Bool, lookupv .str (.bool false) false (.map (some 0)) (.str n) [.map es] = some (.bool b) ∧ (b = true ↔ inK n es)
 | [], _ => ⟨false, rfl, nofun, fun ⟨p, hp, _⟩ => by simp at hp⟩
 | p :: es, h => by
   obtain ⟨m, rfl⟩ := h p (by simp)
   obtain ⟨b, hb, kb⟩ := find_ok (n := n) (es := es) fun q hq => h q (by simp [hq])
   simp only [lookupv, List.getElem?_cons_zero, isKey, if_true] at hb ⊢
   simp only [findK, sameKey]
   cases hnm : (n == m)
   · refine ⟨b, hb, kb.trans ⟨fun ⟨p, hp, he⟩ => ⟨p, by simp [hp], he⟩, fun ⟨p, hp, he⟩ => ?_⟩⟩
     rcases List.mem_cons.1 hp with rfl | hp
     · have : m = n := PV.str.inj he
       subst this
       rw [str_beq.2 rfl] at hnm
       cases hnm
     · exact ⟨p, hp, he⟩
   · exact ⟨true, rfl, fun _ => ⟨(.str m, .bool true), by simp, by rw [str_beq.1 hnm]⟩, fun _ => rfl⟩
theorem lookup_ok {n : ByteArray} {es : List (PV × PV)} {H : List AE.Obj} {k : Nat} (hk : H[k]? = some (.map es)) (ok : okMap es) : ∃ b : Bool, lookupv .str (.bool false) false (.map (some k)) (.str n) H = some (.bool b) ∧ (b = true ↔ inK n es) := by
 obtain ⟨b, hb, kb⟩ := find_ok (n := n) ok
 refine ⟨b, ?_, kb⟩
 simp only [lookupv, hk]
 simpa only [lookupv, List.getElem?_cons_zero] using hb
theorem put_ok {n : ByteArray} : ∀ {es : List (PV × PV)}, okMap es → ∃ es', putK (.str n) (.bool true) es = some es' ∧ okMap es' ∧ ∀ m, inK m es' ↔ m = n ∨ inK m es
 | [], _ => ⟨[(.str n, .bool true)], rfl, fun p hp => ⟨n, List.mem_singleton.1 hp⟩, fun m => by
   constructor
   · rintro ⟨p, hp, he⟩
     rw [List.mem_singleton.1 hp] at he
     exact .inl (PV.str.inj he).symm
   · rintro (rfl | ⟨p, hp, _⟩)
     · exact ⟨(.str m, .bool true), by simp, rfl⟩
     · simp at hp⟩
 | p :: es, h => by
   obtain ⟨m, rfl⟩ := h p (by simp)
   have h2 : okMap es := fun q hq => h q (by simp [hq])
   obtain ⟨es', he, ok, kk⟩ := put_ok (n := n) h2
   simp only [putK, sameKey]
   cases hnm : (n == m)
   · refine ⟨_, by rw [he]; rfl, fun q hq => ?_, fun d => ?_⟩
     · rcases List.mem_cons.1 hq with rfl | hq
       · exact ⟨m, rfl⟩
       · exact ok q hq
     · have := kk d
       simp only [inK, List.mem_cons, exists_eq_or_imp] at this ⊢
       rw [this]
       exact or_left_comm
   · have hm : n = m := str_beq.1 hnm
     subst hm
     refine ⟨_, rfl, fun q hq => ?_, fun d => ?_⟩
     · rcases List.mem_cons.1 hq with rfl | hq
       · exact ⟨n, rfl⟩
       · exact h2 q hq
     · simp only [inK, List.mem_cons, exists_eq_or_imp]
       constructor
       · rintro (he | h)
         · exact .inl (PV.str.inj he).symm
         · exact .inr (.inr h)
       · rintro (rfl | he | h)
         · exact .inl rfl
         · exact .inl he
         · exact .inr h
theorem upd_ok {n : ByteArray} {es : List (PV × PV)} {H : List AE.Obj} {k : Nat} {ws : List Nat} (hk : H[k]? = some (.map es)) (ok : okMap es) : ∃ es', mapupdv .str (.map (some k)) (.str n) (.bool true) ⟨H, ws, []⟩ = some ⟨H.set k (.map es'), wadd k ws, []⟩ ∧ okMap es' ∧ ∀ m, inK m es' ↔ m = n ∨ inK m es := by
 obtain ⟨es', he, ok', kk⟩ := put_ok (n := n) ok
 exact ⟨es', by simp only [mapupdv, hk, isKey, if_true, he, Option.map, PV.top, wrote_none], ok', kk⟩
include hT in
theorem check_b0 {s : GSig} (hs : Fits s) {h H : List AE.Obj} {k1 : Nat} {es : List (PV × PV)} {ws : List Nat} {e : List PV} {Q : AExit → List PV → St → Prop} (low : Low h.length h H) (hb : H[h.length]? = some (.row 2 [encSig s])) (hk1 : h.length < k1) (hm : H[k1]? = some (.map es)) (ok : okMap es) (kn : ∀ n, ¬ inK n es) (hw : ∀ k ∈ ws, h.length ≤ k)
 (e1 : eget e 1 = .ptr h.length 0 0 1) (e3 : eget e 3 = .map (some k1)) (e21 : eget e 21 = .slice 1 (s.sorts.map .str) .any) (e22 : eget e 22 = .int .i64 (s.sorts.length : Int)) (e23 : eget e 23 = .int .i64 0)
 (q1 : ¬ sigP s → ∀ H' ws' e', Low h.length h H' → (∀ k ∈ ws', h.length ≤ k) → eget e' 2 = .int .i64 40 → Q .ret e' ⟨H', ws', []⟩)
 (q2 : (∀ i (hi : i < s.sorts.length), nameP s.sorts[i] ∧ blk s.sorts[i] = 0) → (∀ i k (hi : i < s.sorts.length) (hk : k < i), s.sorts[k]'(by omega) ≠ s.sorts[i]) → ∀ H' ws' e', Low h.length h H' → H'[h.length]? = some (.row 2 [encSig s]) → (∀ k ∈ ws', h.length ≤ k) → eget e' 1 = .ptr h.length 0 0 1 → Q (.exit 0) e' ⟨H', ws', []⟩) : wpC T (.loop a87b0) e ⟨H, ws, []⟩ Q := by
 have hs1 := hs.nS
 refine wpC.loopM (fun n e st => ∃ (i : Nat) (H : List AE.Obj) (ws : List Nat) (es : List (PV × PV)), i + n = s.sorts.length ∧ Low h.length h H ∧ H[h.length]? = some (.row 2 [encSig s]) ∧ H[k1]? = some (.map es) ∧ okMap es ∧ (∀ n, inK n es ↔ ∃ j, ∃ hj : j < s.sorts.length, j < i ∧ s.sorts[j] = n) ∧ (∀ j (hj : j < s.sorts.length), j < i → nameP s.sorts[j] ∧ blk s.sorts[j] = 0) ∧ (∀ j k (hj : j < s.sorts.length) (hk : k < j), j < i → s.sorts[k]'(by omega) ≠ s.sorts[j]) ∧ (∀ k ∈ ws, h.length ≤ k) ∧ eget e 1 = .ptr h.length 0 0 1 ∧ eget e 3 = .map (some k1) ∧ eget e 21 = .slice 1 (s.sorts.map .str) .any ∧ eget e 22 = .int .i64 (s.sorts.length : Int) ∧ eget e 23 = .int .i64 (i : Int) ∧ st = ⟨H, ws, []⟩) ?_ s.sorts.length _ _
  ⟨0, H, ws, es, by omega, low, hb, hm, ok, fun n => ⟨fun h => absurd h (kn n), fun ⟨j, _, h, _⟩ => by omega⟩, fun j _ h => by omega, fun j k _ _ h => by omega, hw, e1, e3, e21, e22, e23, rfl⟩
 rintro n e st ⟨i, H, ws, es, hi, low, hb, hm, ok, kes, kna, kdf, hw, e1, e3, e21, e22, e23, rfl⟩
 by_cases h1 : i < s.sorts.length
 · have ga := get_str h1
   obtain ⟨b, hb1, kb⟩ := name_tot hT s.sorts[i] H
   obtain ⟨c, hc1, kc⟩ := contains_tot hT s.sorts[i] H
   obtain ⟨d, hd, kd⟩ := lookup_ok (n := s.sorts[i]) hm ok
   obtain ⟨es', he, ok', kk⟩ := upd_ok (n := s.sorts[i]) (ws := ws) hm ok
   simp (disch := first | omega | decide | simp only [go_sem]) only [go_sem, a87b0, e1, e3, e21, e22, e23, h1, ga, cb hb1, cb hc1, hd, he, hT.prim, primOf]
   cases b
   · simp (disch := first | omega | decide | simp only [go_sem]) only [go_sem]
     exact q1 (fun hp => by have := kb.2 (hp.sorts i h1).1; cases this) _ _ _ low hw (by simp (disch := first | omega | decide | simp only [go_sem]) only [go_sem])
   · cases c
     · cases d
       · simp (disch := first | omega | decide | simp only [go_sem]) only [go_sem]
         have hd2 : ¬ inK s.sorts[i] es := fun h => by have := kd.2 h; cases this
         refine ⟨n - 1, by omega, i + 1, _, _, es', by omega, low.trans (.set (by omega)), get_set_ne hb (by omega), get_set hm, ok', fun m => (kk m).trans ⟨?_, ?_⟩, fun j hj hji => ?_, fun j k hj hk hji => ?_, wadd_low (by omega) hw, rfl, rfl⟩
         · rintro (rfl | h)
           · exact ⟨i, h1, by omega, rfl⟩
           · obtain ⟨j, hj, h2, h3⟩ := (kes m).1 h
             exact ⟨j, hj, by omega, h3⟩
         · rintro ⟨j, hj, h2, h3⟩
           by_cases hji : j = i
           · subst hji; exact .inl h3.symm
           · exact .inr ((kes m).2 ⟨j, hj, by omega, h3⟩)
         · by_cases hjj : j = i
           · subst hjj
             refine ⟨kb.1 rfl, ?_⟩
             by_cases hz : blk s.sorts[j] = 0
             · exact hz
             · have := kc.2 hz; cases this
           · exact kna j hj (by omega)
         · by_cases hjj : j = i
           · subst hjj
             exact fun he => hd2 ((kes _).2 ⟨k, by omega, hk, he⟩)
           · exact kdf j k hj hk (by omega)
       · simp (disch := first | omega | decide | simp only [go_sem]) only [go_sem]
         exact q1 (fun hp => by
          obtain ⟨j, hj, h2, h3⟩ := (kes _).1 (kd.1 rfl)
          exact hp.diff i j h1 h2 h3) _ _ _ low hw (by simp (disch := first | omega | decide | simp only [go_sem]) only [go_sem])
     · simp (disch := first | omega | decide | simp only [go_sem]) only [go_sem]
       exact q1 (fun hp => kc.1 rfl (hp.sorts i h1).2) _ _ _ low hw (by simp (disch := first | omega | decide | simp only [go_sem]) only [go_sem])
 · simp (disch := first | omega | decide | simp only [go_sem]) only [go_sem, a87b0, e1, e3, e21, e22, e23, h1]
   exact q2 (fun j hj => kna j hj (by omega)) (fun j k hj hk => kdf j k hj hk (by omega)) _ _ _ low hb hw (by simp (disch := first | omega | decide | simp only [go_sem]) only [go_sem, e1])
theorem tops_ints : ∀ l : List Int, tops (l.map encI) = none
 | [] => rfl
 | x :: l => by simp [tops, encI, PV.top, omax]; exact tops_ints l
theorem top_op (o : GOp) : (encOp o).top = none := by
 simp only [encOp, PV.top, tops, omax, tops_ints]
def okOp1 (o : GOp) (nS : Nat) : Prop := okArgs o.args nS ∧ (0 ≤ o.res ∧ o.res < (nS : Int)) ∧ o.args.length ≤ 8
def okOps8 (ops : List GOp) (nS : Nat) : Prop := ∀ o ∈ ops, okOp1 o nS
theorem okOps8.ops {ops : List GOp} {nS : Nat} (h : okOps8 ops nS) : okOps ops nS := fun o ho => ⟨(h o ho).1, (h o ho).2.1, by have := (h o ho).2.2; omega⟩
include hT in
theorem check_b1 (hC : T.sp 208 = some (cloneSp af208)) {s : GSig} (hs : Fits s) (srt : (∀ i (hi : i < s.sorts.length), nameP s.sorts[i] ∧ blk s.sorts[i] = 0) ∧ ∀ i k (hi : i < s.sorts.length) (hk : k < i), s.sorts[k]'(by omega) ≠ s.sorts[i]) (h64 : s.sorts.length ≤ 64) (h256 : s.ops.length ≤ 256) {h H : List AE.Obj} {k2 : Nat} {ws : List Nat} {e : List PV} {Q : AExit → List PV → St → Prop} (low : Low h.length h H) (hb : H[h.length]? = some (.row 2 [encSig s])) (hk2 : h.length < k2) (hm : H[k2]? = some (.map [])) (hw : ∀ k ∈ ws, h.length ≤ k)
 (e1 : eget e 1 = .ptr h.length 0 0 1) (e6 : eget e 6 = .map (some k2)) (e44 : eget e 44 = .slice 3 (s.ops.map encOp) .any) (e45 : eget e 45 = .int .i64 (s.ops.length : Int)) (e46 : eget e 46 = .int .i64 0)
 (q1 : ¬ sigP s → ∀ H' ws' e', Low h.length h H' → (∀ k ∈ ws', h.length ≤ k) → eget e' 2 = .int .i64 40 → Q .ret e' ⟨H', ws', []⟩)
 (q2 : sigP s → ∀ H' ws' e', Low h.length h H' → (∀ k ∈ ws', h.length ≤ k) → Q (.exit 2) e' ⟨H', ws', []⟩) : wpC T (.loop a87b1) e ⟨H, ws, []⟩ Q := by
 have hs1 := hs.nS
 have hs2 := hs.nO
 refine wpC.loopM (fun n e st => ∃ (i : Nat) (H : List AE.Obj) (ws : List Nat) (es : List (PV × PV)), i + n = s.ops.length ∧ Low h.length h H ∧ H[h.length]? = some (.row 2 [encSig s]) ∧ H[k2]? = some (.map es) ∧ okMap es ∧ (∀ n, inK n es ↔ ∃ j, ∃ hj : j < s.ops.length, j < i ∧ (⟨(keyL s.ops[j]).toArray⟩ : ByteArray) = n) ∧ (∀ k ∈ ws, h.length ≤ k) ∧ (∀ j (hj : j < s.ops.length), j < i → opP s.sorts.length s.ops[j]) ∧ (∀ j k (hj : j < s.ops.length) (hk : k < j), j < i → s.ops[k]'(by omega) ≠ s.ops[j]) ∧ eget e 1 = .ptr h.length 0 0 1 ∧ eget e 6 = .map (some k2) ∧ eget e 44 = .slice 3 (s.ops.map encOp) .any ∧ eget e 45 = .int .i64 (s.ops.length : Int) ∧ eget e 46 = .int .i64 (i : Int) ∧ st = ⟨H, ws, []⟩) ?_ s.ops.length _ _
  ⟨0, H, ws, [], by omega, low, hb, hm, fun p hp => (by simp at hp), fun n => ⟨fun ⟨p, hp, _⟩ => by simp at hp, fun ⟨j, _, h, _⟩ => by omega⟩, hw, fun j _ hj => by omega, fun j k _ _ h => by omega, e1, e6, e44, e45, e46, rfl⟩
 rintro n e st ⟨i, H, ws, es, hi, low, hb, hm, ok, kes, hw, hp, kdf, e1, e6, e44, e45, e46, rfl⟩
 by_cases h1 : i < s.ops.length
 · have go := get_op h1
   obtain ⟨ho1, ho2⟩ := hs.ops _ (List.getElem_mem h1)
   have sb := st_box (h := H) (ws := ws) (ups := []) (z := .agg [(.str ⟨#[]⟩), (.slice 0 [] .nil), (.int .i64 0)]) (sz := 3) (c := encOp s.ops[i]) rfl rfl rfl (top_op _) ⟨_, rfl⟩ ⟨_, rfl⟩
   have hlen : h.length < H.length := (List.getElem?_eq_some_iff.1 hb).1
   have keep : ∀ {k : Nat} {ob o2 : AE.Obj}, H[k]? = some ob → (H ++ [o2])[k]? = some ob := fun hx => by
    rw [List.getElem?_append_left (List.getElem?_eq_some_iff.1 hx).1]; exact hx
   have fb : (H ++ [AE.Obj.row 3 [encOp s.ops[i]]])[H.length]? = some (.row 3 [encOp s.ops[i]]) := by simp
   have hb' : (H ++ [AE.Obj.row 3 [encOp s.ops[i]]])[h.length]? = some (.row 2 [encSig s]) := keep hb
   have hm' : (H ++ [AE.Obj.row 3 [encOp s.ops[i]]])[k2]? = some (.map es) := keep hm
   have low' : Low h.length h (H ++ [AE.Obj.row 3 [encOp s.ops[i]]]) := low.push (by omega)
   have hk2l : k2 < H.length := (List.getElem?_eq_some_iff.1 hm).1
   generalize hH1 : H ++ [AE.Obj.row 3 [encOp s.ops[i]]] = H1 at *
   generalize hkb : H.length = kb at *
   have l8 : loadAt true 3 (.ptr kb 0 0 1) H1 = some (encOp s.ops[i]) := by rw [ld_at fb]; rfl
   have l1 : loadAt false 1 (.ptr h.length 0 0 1) H1 = some (.slice 1 (s.sorts.map .str) .any) := by rw [ld_at hb']; rfl
   obtain ⟨b, hg, kg⟩ := good_tot hT hs (o := s.ops[i]) ho2 H1
   have ht := key_ev hT hC (o := s.ops[i]) ⟨ho1, ho2⟩ H1
   have hw' : ∀ k ∈ wadd kb ws, h.length ≤ k := wadd_low (by omega) hw
   obtain ⟨d, hd, kd⟩ := lookup_ok (n := ⟨(keyL s.ops[i]).toArray⟩) hm' ok
   obtain ⟨es', he, ok', kk⟩ := upd_ok (n := ⟨(keyL s.ops[i]).toArray⟩) (ws := wadd kb ws) hm' ok
   simp (disch := first | omega | decide | simp only [go_sem]) only [go_sem, a87b1, e1, e6, e44, e45, e46, h1, go, sb, hH1, hkb, l8, l1, cb hg, cb ht, hd, he, hT.prim, primOf, List.length_cons, List.length_nil]
   refine ⟨rfl, bifs (fun hb2 => q1 (fun hp => ?_) _ _ _ low' hw' (by simp (disch := first | omega | decide | simp only [go_sem]) only [go_sem])) fun hb2 => bifs (fun hb3 => q1 (fun hp => ?_) _ _ _ low' hw' (by simp (disch := first | omega | decide | simp only [go_sem]) only [go_sem])) fun hb3 => ?_⟩
   · have := kg.2 (hp.ops i h1)
     rw [this] at hb2
     cases hb2
   · obtain ⟨j, hj, h2, h3⟩ := (kes _).1 (kd.1 hb3)
     exact hp.diffO i j h1 h2 (key_inj (by omega) (hp.ops j hj) (hp.ops i h1) (by simpa using h3))
   · have hop : opP s.sorts.length s.ops[i] := kg.1 (by simpa using hb2)
     refine ⟨n - 1, by omega, i + 1, _, _, es', by omega, low'.trans (.set (by omega)), get_set_ne hb' (by omega), get_set hm', ok', fun m => (kk m).trans ⟨?_, ?_⟩, wadd_low (by omega) hw', fun j hj hji => ?_, fun j k hj hk hji => ?_, rfl, rfl⟩
     · rintro (rfl | h)
       · exact ⟨i, h1, by omega, rfl⟩
       · obtain ⟨j, hj, h2, h3⟩ := (kes m).1 h
         exact ⟨j, hj, by omega, h3⟩
     · rintro ⟨j, hj, h2, h3⟩
       by_cases hji : j = i
       · subst hji; exact .inl h3.symm
       · exact .inr ((kes m).2 ⟨j, hj, by omega, h3⟩)
     · by_cases hjj : j = i
       · subst hjj; exact hop
       · exact hp j hj (by omega)
     · by_cases hjj : j = i
       · subst hjj
         intro he
         have := kd.2 ((kes _).2 ⟨k, by omega, hk, by rw [he]⟩)
         rw [this] at hb3
         cases hb3
       · exact kdf j k hj hk (by omega)
 · simp (disch := first | omega | decide | simp only [go_sem]) only [go_sem, a87b1, e1, e6, e44, e45, e46, h1]
   exact q2 ⟨h64, h256, srt.1, srt.2, fun j hj => hp j hj (by omega), fun j k hj hk => kdf j k hj hk (by omega)⟩ _ _ _ low hw
theorem sigP.ops8 {s : GSig} (h : sigP s) : okOps8 s.ops s.sorts.length := fun o ho => by
 obtain ⟨i, hi, rfl⟩ := List.getElem_of_mem ho
 exact (h.ops i hi).2.2.2
include hT in
theorem check_tot (h87 : T.sp 87 = none) (hC : T.sp 208 = some (cloneSp af208)) {s : GSig} (hs : Fits s) (h : List AE.Obj) : ∃ r : Int, Ev T 87 [encSig s] h (.val (.int .i64 r), ⟨h, [], []⟩) ∧ ((r = 0 ∧ sigP s) ∨ (r = 40 ∧ ¬ sigP s)) := by
 have hs1 := hs.nS
 have hs2 := hs.nO
 refine Ev.walkP h87 ((hT.fn _).trans fn87) (hT.mode _) rfl ?_
 have low : Low h.length h (h ++ [.row 2 [encSig s]] ++ [.map []]) := ((Low.refl _ _).push (Nat.le_refl _)).push (by simp)
 generalize hH : h ++ [AE.Obj.row 2 [encSig s]] ++ [AE.Obj.map []] = H at low
 have hb : H[h.length]? = some (.row 2 [encSig s]) := by rw [← hH]; simp
 generalize hk1 : (h ++ [AE.Obj.row 2 [encSig s]]).length = k1
 have hm : H[k1]? = some (.map []) := by rw [← hH, ← hk1]; simp
 have hk1h : h.length < k1 := by rw [← hk1]; simp
 have l0 : loadAt false 1 (.ptr h.length 0 0 1) H = some (.slice 1 (s.sorts.map .str) .any) := by rw [ld_at hb]; rfl
 simp (disch := first | omega | decide | simp only [go_sem]) only [go_sem, hH, hk1, l0]
 refine bifs (fun h1 => ⟨40, rfl, .inr ⟨rfl, fun hp => by have := hp.nS; simp only [decide_eq_true_eq] at h1; omega⟩⟩) fun h64 => bifs (fun h1 => ⟨40, rfl, .inr ⟨rfl, fun hp => by have := hp.nO; simp only [decide_eq_true_eq] at h1; omega⟩⟩) fun h256 => ?_
 simp only [decide_eq_false_iff_not] at h64 h256
 refine check_b0 hT hs low hb hk1h hm (fun p hp => by simp at hp) (fun n ⟨p, hp, _⟩ => by simp at hp) (by simp) (by simp (disch := first | omega | decide | simp only [go_sem]) only [go_sem]) (by simp (disch := first | omega | decide | simp only [go_sem]) only [go_sem]) (by simp (disch := first | omega | decide | simp only [go_sem]) only [go_sem]) (by simp (disch := first | omega | decide | simp only [go_sem]) only [go_sem]) (by simp (disch := first | omega | decide | simp only [go_sem]) only [go_sem]) (fun hn H' ws' e' low' hw' e2 => ?_) (fun sr1 sr2 H' ws' e' low' hb' hw' e1 => ?_)
 · simp (disch := first | omega | decide | simp only [go_sem]) only [go_sem, e2]
   exact ⟨40, tidy_low rfl rfl low' hw', .inr ⟨rfl, hn⟩⟩
 · have hlen : h.length < H'.length := (List.getElem?_eq_some_iff.1 hb').1
   have hb2 : (H' ++ [AE.Obj.map []])[h.length]? = some (.row 2 [encSig s]) := by rw [List.getElem?_append_left hlen]; exact hb'
   have hm2 : (H' ++ [AE.Obj.map []])[H'.length]? = some (.map []) := by simp
   have l1 : loadAt false 1 (.ptr h.length 0 1 1) (H' ++ [AE.Obj.map []]) = some (.slice 3 (s.ops.map encOp) .any) := by rw [ld_at hb2]; rfl
   have low2 : Low h.length h (H' ++ [AE.Obj.map []]) := low'.push (by omega)
   simp (disch := first | omega | decide | simp only [go_sem]) only [go_sem, e1, l1]
   refine check_b1 hT hC hs ⟨sr1, sr2⟩ (by omega) (by omega) low2 hb2 (k2 := H'.length) (by omega) hm2 hw' (by simp (disch := first | omega | decide | simp only [go_sem]) only [go_sem, e1]) (by simp (disch := first | omega | decide | simp only [go_sem]) only [go_sem, e1]) (by simp (disch := first | omega | decide | simp only [go_sem]) only [go_sem, e1]) (by simp (disch := first | omega | decide | simp only [go_sem]) only [go_sem, e1]) (by simp (disch := first | omega | decide | simp only [go_sem]) only [go_sem, e1]) (fun hn H3 ws3 e3 low3 hw3 e32 => ?_) (fun ok H3 ws3 e3 low3 hw3 => ?_)
   · simp (disch := first | omega | decide | simp only [go_sem]) only [go_sem, e32]
     exact ⟨40, tidy_low rfl rfl low3 hw3, .inr ⟨rfl, hn⟩⟩
   · simp (disch := first | omega | decide | simp only [go_sem]) only [go_sem]
     exact ⟨0, tidy_low rfl rfl low3 hw3, .inl ⟨rfl, ok⟩⟩
end Go.Proofs.Tryz
/- Functions, as the evaluator sees them: printed by tools/Print.lean. -/
namespace Go.Proofs.Tryz
open Go Go.AE
def a18 : AFunc := ⟨4, 51, (.seq (.reg [
 rp 4 (.box 2 (.t 0)),
 rp 8 (.box 3 (.c (.agg [(.int .i64 0), (.int .i64 0), (.slice 0 [] .nil)]))),
 ro 9 (.move (.c (.int .i64 0)))])
 (.seq (.seq (.reg [
 rp 12 (.load true 2 (.t 4)),
 rp 13 (.call (.f 87) [(.t 12)]),
 ro 10 (.move (.t 13))])
 (.seq (.reg [
 ro 14 (.move (.t 10)),
 ro 15 (.bin .neq (.t 14) (.c (.int .i64 0)))])
 (.cond (.t 15)
 (.seq (.reg [
 ro 16 (.build [(.int .i64 0), (.int .i64 0), (.slice 0 [] .nil)] []),
 ro 17 (.move (.t 10)),
  ⟨none, .store 3 (.t 8) (.t 16), none, true, 0, 0, false⟩,
 ro 9 (.move (.t 17))])
 .ret)
 .skip)))
 (.seq (.seq (.reg [
 rp 18 (.load true 2 (.t 4)),
 ro 19 (.move (.t 1)),
 rp 20 (.call (.f 88) [(.t 18), (.t 19)]),
 ro 21 (.un .not (.t 20)),
 ro 22 (.move (.t 21)),
 rg 23 (.move (.t 2)) 22 false,
 rh 24 (.call (.f 89) [(.t 23)]) 22 false,
 rg 25 (.un .not (.t 24)) 22 false,
 ro 26 (.pick (.t 22) (.c (.bool true)) (.t 25)),
 ro 27 (.move (.t 26)),
 rg 28 (.move (.t 3)) 27 false,
 rg 29 (.bin .lss (.t 28) (.c (.int .i64 0))) 27 false,
 ro 30 (.pick (.t 27) (.c (.bool true)) (.t 29))])
 (.cond (.t 30)
 (.seq (.reg [
 ro 31 (.build [(.int .i64 0), (.int .i64 0), (.slice 0 [] .nil)] []),
  ⟨none, .store 3 (.t 8) (.t 31), none, true, 0, 0, false⟩,
 ro 9 (.move (.c (.int .i64 1)))])
 .ret)
 .skip))
 (.seq (.reg [
 rp 32 (.load true 2 (.t 4)),
 rp 33 (.call (.f 90) [(.t 32)]),
 ro 11 (.move (.t 33))])
 (.seq (.seq (.reg [
 ro 34 (.move (.t 3)),
 ro 35 (.move (.t 11)),
 ro 36 (.nilCheck (.t 35)),
 ro 37 (.fieldAddr 2 (.t 36)),
 rp 38 (.load false 1 (.t 37)),
 ro 39 (.move (.t 1)),
 ro 40 (.move (.t 2)),
 ro 41 (.idxAddr 61 (.t 38) (.t 39)),
 ro 42 (.idxArr 61 1 (.t 41) (.t 40)),
 rp 43 (.load false 1 (.t 42)),
 ro 44 (.bin .geq (.t 34) (.t 43))])
 (.cond (.t 44)
 (.seq (.reg [
 ro 45 (.build [(.int .i64 0), (.int .i64 0), (.slice 0 [] .nil)] []),
  ⟨none, .store 3 (.t 8) (.t 45), none, true, 0, 0, false⟩,
 ro 9 (.move (.c (.int .i64 1)))])
 .ret)
 .skip))
 (.seq (.reg [
 ro 46 (.move (.t 11)),
 ro 47 (.move (.t 1)),
 ro 48 (.move (.t 2)),
 ro 49 (.move (.t 3)),
 rp 50 (.call (.f 91) [(.t 46), (.t 47), (.t 48), (.t 49)]),
  ⟨none, .store 3 (.t 8) (.t 50), none, true, 0, 0, false⟩,
 ro 9 (.move (.c (.int .i64 0)))])
 .ret)))))), [.cell 8 true 3, .t 9]⟩
theorem fn18 : fnOf 18 = some a18 := by kernel_rfl
def a22 : AFunc := ⟨2, 24, (.seq (.reg [
 rp 2 (.box 3 (.t 0)),
 rp 3 (.box 3 (.t 1)),
 ro 4 (.move (.c (.bool false)))])
 (.seq (.reg [
 ro 5 (.fieldAddr 0 (.t 2)),
 rp 6 (.load false 1 (.t 5)),
 ro 7 (.fieldAddr 0 (.t 3)),
 rp 8 (.load false 1 (.t 7)),
 ro 9 (.bin .eql (.t 6) (.t 8)),
 ro 10 (.move (.t 9)),
 rg 11 (.fieldAddr 1 (.t 2)) 10 true,
 rh 12 (.load false 1 (.t 11)) 10 true,
 rg 13 (.fieldAddr 1 (.t 3)) 10 true,
 rh 14 (.load false 1 (.t 13)) 10 true,
 rg 15 (.bin .eql (.t 12) (.t 14)) 10 true,
 ro 16 (.pick (.t 10) (.t 15) (.c (.bool false))),
 ro 17 (.move (.t 16)),
 rg 18 (.fieldAddr 2 (.t 2)) 17 true,
 rh 19 (.load false 1 (.t 18)) 17 true,
 rg 20 (.fieldAddr 2 (.t 3)) 17 true,
 rh 21 (.load false 1 (.t 20)) 17 true,
 rh 22 (.call (.f 32) [(.t 19), (.t 21), (.f 22)]) 17 true,
 ro 23 (.pick (.t 17) (.t 22) (.c (.bool false))),
 ro 4 (.move (.t 23))])
 .ret)), [.t 4]⟩
theorem fn22 : fnOf 22 = some a22 := by kernel_rfl
def a32b0 : ACode :=
 (.seq (.reg [
 ro 18 (.bin .lss (.t 17) (.t 16))])
 (.seq (.cond (.t 18)
 .skip
 (.exit 0))
 (.seq (.block 1 (.seq (.reg [
 ro 19 (.move (.t 17)),
 ro 20 (.idxAddr 3 (.t 15) (.t 17)),
 rp 21 (.load true 3 (.t 20)),
 rp 8 (.box 3 (.c (.agg [(.int .i64 0), (.int .i64 0), (.slice 0 [] .nil)]))),
 ro 7 (.move (.t 19)),
  ⟨none, .store 3 (.t 8) (.t 21), none, true, 0, 0, false⟩])
 (.seq (.reg [
 ro 22 (.move (.t 1)),
 ro 23 (.move (.t 7)),
 ro 24 (.idxAddr 3 (.t 22) (.t 23)),
 rp 25 (.load true 3 (.t 24)),
 rp 9 (.box 3 (.c (.agg [(.int .i64 0), (.int .i64 0), (.slice 0 [] .nil)]))),
  ⟨none, .store 3 (.t 9) (.t 25), none, true, 0, 0, false⟩])
 (.seq (.reg [
 ro 26 (.move (.t 2)),
 rp 27 (.load true 3 (.t 8)),
 rp 28 (.load true 3 (.t 9)),
 rp 29 (.call (.t 26) [(.t 27), (.t 28)]),
 ro 30 (.un .not (.t 29))])
 (.cond (.t 30)
 (.seq (.reg [
 ro 6 (.move (.c (.bool false)))])
 .ret)
 .skip)))))
 (.reg [
 ro 31 (.bin .add (.t 17) (.c (.int .i64 1))),
 ro 17 (.move (.t 31))]))))
def a32 : AFunc := ⟨3, 32, (.seq (.reg [
 ro 6 (.move (.c (.bool false)))])
 (.seq (.seq (.reg [
 ro 10 (.move (.t 0)),
 ro 11 (.lenL (.t 10)),
 ro 12 (.move (.t 1)),
 ro 13 (.lenL (.t 12)),
 ro 14 (.bin .neq (.t 11) (.t 13))])
 (.cond (.t 14)
 (.seq (.reg [
 ro 6 (.move (.c (.bool false)))])
 .ret)
 .skip))
 (.seq (.seq (.reg [
 ro 15 (.move (.t 0)),
 ro 16 (.lenL (.t 15)),
 ro 17 (.move (.c (.int .i64 0)))])
 (.block 0 (.loop a32b0)))
 (.seq (.reg [
 ro 6 (.move (.c (.bool true)))])
 .ret)))), [.t 6]⟩
theorem fn32 : fnOf 32 = some a32 := by kernel_rfl
def a88 : AFunc := ⟨2, 14, (.seq (.reg [
 rp 2 (.box 2 (.t 0)),
 ro 4 (.move (.c (.bool false)))])
 (.seq (.reg [
 ro 5 (.move (.t 1)),
 ro 6 (.bin .geq (.t 5) (.c (.int .i64 0))),
 ro 7 (.move (.t 6)),
 rg 8 (.move (.t 1)) 7 true,
 rg 9 (.fieldAddr 0 (.t 2)) 7 true,
 rh 10 (.load false 1 (.t 9)) 7 true,
 rg 11 (.lenL (.t 10)) 7 true,
 rg 12 (.bin .lss (.t 8) (.t 11)) 7 true,
 ro 13 (.pick (.t 7) (.t 12) (.c (.bool false))),
 ro 4 (.move (.t 13))])
 .ret)), [.t 4]⟩
theorem fn88 : fnOf 88 = some a88 := by kernel_rfl
def a89 : AFunc := ⟨1, 9, (.seq (.reg [
 ro 2 (.move (.c (.bool false)))])
 (.seq (.reg [
 ro 3 (.move (.t 0)),
 ro 4 (.bin .geq (.t 3) (.c (.int .i64 0))),
 ro 5 (.move (.t 4)),
 rg 6 (.move (.t 0)) 5 true,
 rg 7 (.bin .leq (.t 6) (.c (.int .i64 60))) 5 true,
 ro 8 (.pick (.t 5) (.t 7) (.c (.bool false))),
 ro 2 (.move (.t 8))])
 .ret)), [.t 2]⟩
theorem fn89 : fnOf 89 = some a89 := by kernel_rfl
def a91b0 : ACode :=
 (.seq (.seq (.reg [
 ro 73 (.move (.t 18)),
 ro 74 (.move (.t 14)),
 ro 75 (.bin .leq (.t 73) (.t 74))])
 (.cond (.t 75)
 .skip
 (.exit 4)))
 (.seq (.block 5 (.seq (.regD [
 ro 78 (.move (.t 15)),
  ⟨(some 79), .move (.t 0), none, false, 1, 0, false⟩,
  ⟨(some 80), .nilCheck (.t 79), none, false, 2, 2, false⟩,
  ⟨(some 81), .fieldAddr 2 (.t 80), none, false, 3, 6, false⟩,
  ⟨(some 82), .load false 1 (.t 81), none, true, 4, 14, false⟩,
  ⟨(some 83), .move (.t 17), none, false, 5, 0, false⟩,
  ⟨(some 84), .move (.t 18), none, false, 6, 0, false⟩,
  ⟨(some 85), .idxAddr 61 (.t 82) (.t 83), none, false, 7, 62, false⟩,
  ⟨(some 86), .idxArr 61 1 (.t 85) (.t 84), none, false, 8, 254, false⟩,
  ⟨(some 87), .load false 1 (.t 86), none, true, 9, 510, false⟩,
  ⟨(some 88), .call (.f 165) [(.t 78), (.t 87)], none, true, 10, 1023, false⟩,
  ⟨(some 89), .move (.t 0), none, false, 11, 0, false⟩,
  ⟨(some 90), .nilCheck (.t 89), none, false, 12, 2048, false⟩,
  ⟨(some 91), .fieldAddr 3 (.t 90), none, false, 13, 6144, false⟩,
  ⟨(some 92), .load false 1 (.t 91), none, true, 14, 14336, false⟩,
  ⟨(some 93), .move (.t 9), none, false, 15, 0, false⟩,
  ⟨(some 94), .idxAddr 1 (.t 92) (.t 93), none, false, 16, 63488, false⟩,
  ⟨(some 95), .load false 1 (.t 94), none, true, 17, 129024, false⟩,
  ⟨(some 96), .move (.t 16), none, false, 18, 0, false⟩,
  ⟨(some 97), .bin .add (.t 96) (.c (.int .i64 1)), none, false, 19, 262144, false⟩,
  ⟨(some 98), .move (.t 14), none, false, 20, 0, false⟩,
  ⟨(some 99), .move (.t 18), none, false, 21, 0, false⟩,
  ⟨(some 100), .bin .sub (.t 98) (.t 99), none, false, 22, 3145728, false⟩,
  ⟨(some 101), .idxAddr 61 (.t 95) (.t 97), none, false, 23, 1046528, true⟩,
  ⟨(some 102), .idxArr 61 1 (.t 101) (.t 100), none, false, 24, 16775168, true⟩,
  ⟨(some 103), .load false 1 (.t 102), none, true, 25, 33552384, true⟩,
  ⟨(some 104), .call (.f 165) [(.t 88), (.t 103)], none, true, 26, 67108863, true⟩,
  ⟨(some 19), .move (.t 104), none, false, 27, 134217727, true⟩])
 (.seq (.seq (.reg [
 ro 105 (.move (.t 3)),
 ro 106 (.move (.t 19)),
 ro 107 (.bin .lss (.t 105) (.t 106))])
 (.cond (.t 107)
 (.seq (.reg [
 ro 108 (.move (.t 13)),
 ro 109 (.move (.t 16)),
 ro 110 (.move (.t 18)),
 ro 111 (.idxAddr 1 (.t 108) (.t 109)),
  ⟨none, .store 1 (.t 111) (.t 110), none, true, 0, 0, false⟩])
 (.exit 4))
 .skip))
 (.reg [
 ro 112 (.move (.t 3)),
 ro 113 (.move (.t 19)),
 ro 114 (.bin .sub (.t 112) (.t 113)),
 ro 3 (.move (.t 114))]))))
 (.reg [
 ro 76 (.move (.t 18)),
 ro 77 (.bin .add (.t 76) (.c (.int .i64 1))),
 ro 18 (.move (.t 77))])))
def a91b1 : ACode :=
 (.seq (.reg [
 ro 69 (.bin .lss (.t 68) (.t 67))])
 (.seq (.cond (.t 69)
 .skip
 (.exit 2))
 (.seq (.block 3 (.seq (.reg [
 ro 70 (.move (.t 68)),
 ro 71 (.idxAddr 1 (.t 66) (.t 68)),
 rp 72 (.load false 1 (.t 71)),
 ro 16 (.move (.t 70)),
 ro 17 (.move (.t 72))])
 (.seq (.seq (.reg [
 ro 18 (.move (.c (.int .i64 1)))])
 (.block 4 (.loop a91b0)))
 (.seq (.regD [
 ro 115 (.move (.t 15)),
  ⟨(some 116), .move (.t 0), none, false, 1, 0, false⟩,
  ⟨(some 117), .nilCheck (.t 116), none, false, 2, 2, false⟩,
  ⟨(some 118), .fieldAddr 2 (.t 117), none, false, 3, 6, false⟩,
  ⟨(some 119), .load false 1 (.t 118), none, true, 4, 14, false⟩,
  ⟨(some 120), .move (.t 17), none, false, 5, 0, false⟩,
  ⟨(some 121), .move (.t 13), none, false, 6, 0, false⟩,
  ⟨(some 122), .move (.t 16), none, false, 7, 0, false⟩,
  ⟨(some 123), .idxAddr 1 (.t 121) (.t 122), none, false, 8, 192, false⟩,
  ⟨(some 124), .load false 1 (.t 123), none, true, 9, 448, false⟩,
  ⟨(some 125), .idxAddr 61 (.t 119) (.t 120), none, false, 10, 62, true⟩,
  ⟨(some 126), .idxArr 61 1 (.t 125) (.t 124), none, false, 11, 2046, true⟩,
  ⟨(some 127), .load false 1 (.t 126), none, true, 12, 4094, true⟩,
  ⟨(some 128), .call (.f 165) [(.t 115), (.t 127)], none, true, 13, 8191, true⟩,
  ⟨(some 15), .move (.t 128), none, false, 14, 16383, true⟩])
 (.reg [
 ro 129 (.move (.t 14)),
 ro 130 (.move (.t 13)),
 ro 131 (.move (.t 16)),
 ro 132 (.idxAddr 1 (.t 130) (.t 131)),
 rp 133 (.load false 1 (.t 132)),
 ro 134 (.bin .sub (.t 129) (.t 133)),
 ro 14 (.move (.t 134))])))))
 (.reg [
 ro 135 (.bin .add (.t 68) (.c (.int .i64 1))),
 ro 68 (.move (.t 135))]))))
def a91b2 : ACode :=
 (.seq (.seq (.reg [
 ro 150 (.move (.t 21)),
 ro 151 (.bin .geq (.t 150) (.c (.int .i64 0)))])
 (.cond (.t 151)
 .skip
 (.exit 6)))
 (.seq (.block 7 (.regD [
 ro 154 (.move (.t 20)),
  ⟨(some 155), .move (.t 21), none, false, 1, 0, false⟩,
  ⟨(some 156), .move (.t 20), none, false, 2, 0, false⟩,
  ⟨(some 157), .move (.t 21), none, false, 3, 0, false⟩,
  ⟨(some 158), .bin .add (.t 157) (.c (.int .i64 1)), none, false, 4, 8, false⟩,
  ⟨(some 159), .idxAddr 1 (.t 156) (.t 158), none, false, 5, 28, false⟩,
  ⟨(some 160), .load false 1 (.t 159), none, true, 6, 60, false⟩,
  ⟨(some 161), .move (.t 0), none, false, 7, 0, false⟩,
  ⟨(some 162), .nilCheck (.t 161), none, false, 8, 128, false⟩,
  ⟨(some 163), .fieldAddr 2 (.t 162), none, false, 9, 384, false⟩,
  ⟨(some 164), .load false 1 (.t 163), none, true, 10, 896, false⟩,
  ⟨(some 165), .fieldAddr 1 (.t 10), none, false, 11, 0, false⟩,
  ⟨(some 166), .load false 1 (.t 165), none, true, 12, 2048, false⟩,
  ⟨(some 167), .move (.t 21), none, false, 13, 0, false⟩,
  ⟨(some 168), .idxAddr 1 (.t 166) (.t 167), none, false, 14, 14336, false⟩,
  ⟨(some 169), .load false 1 (.t 168), none, true, 15, 30720, false⟩,
  ⟨(some 170), .move (.t 13), none, false, 16, 0, false⟩,
  ⟨(some 171), .move (.t 21), none, false, 17, 0, false⟩,
  ⟨(some 172), .idxAddr 1 (.t 170) (.t 171), none, false, 18, 196608, false⟩,
  ⟨(some 173), .load false 1 (.t 172), none, true, 19, 458752, false⟩,
  ⟨(some 174), .idxAddr 61 (.t 164) (.t 169), none, false, 20, 65408, true⟩,
  ⟨(some 175), .idxArr 61 1 (.t 174) (.t 173), none, false, 21, 2097024, true⟩,
  ⟨(some 176), .load false 1 (.t 175), none, true, 22, 4194176, true⟩,
  ⟨(some 177), .call (.f 165) [(.t 160), (.t 176)], none, true, 23, 8388604, true⟩,
  ⟨(some 178), .idxAddr 1 (.t 154) (.t 155), none, false, 24, 16777215, true⟩,
  ⟨none, .store 1 (.t 178) (.t 177), none, true, 25, 33554431, true⟩]))
 (.reg [
 ro 152 (.move (.t 21)),
 ro 153 (.bin .sub (.t 152) (.c (.int .i64 1))),
 ro 21 (.move (.t 153))])))
def a91b3 : ACode :=
 (.seq (.reg [
 ro 183 (.bin .lss (.t 182) (.t 181))])
 (.seq (.cond (.t 183)
 .skip
 (.exit 8))
 (.seq (.block 9 (.seq (.reg [
 ro 184 (.move (.t 182)),
 ro 185 (.idxAddr 1 (.t 180) (.t 182)),
 rp 186 (.load false 1 (.t 185)),
 ro 22 (.move (.t 184)),
 ro 23 (.move (.t 186))])
 (.seq (.regD [
 ro 187 (.fieldAddr 2 (.t 12)),
  ⟨(some 188), .load false 1 (.t 187), none, true, 1, 1, false⟩,
  ⟨(some 189), .move (.t 0), none, false, 2, 0, false⟩,
  ⟨(some 190), .move (.t 23), none, false, 3, 0, false⟩,
  ⟨(some 191), .move (.t 13), none, false, 4, 0, false⟩,
  ⟨(some 192), .move (.t 22), none, false, 5, 0, false⟩,
  ⟨(some 193), .idxAddr 1 (.t 191) (.t 192), none, false, 6, 48, false⟩,
  ⟨(some 194), .load false 1 (.t 193), none, true, 7, 112, false⟩,
  ⟨(some 195), .move (.t 3), none, false, 8, 0, false⟩,
  ⟨(some 196), .move (.t 20), none, false, 9, 0, false⟩,
  ⟨(some 197), .move (.t 22), none, false, 10, 0, true⟩,
  ⟨(some 198), .bin .add (.t 197) (.c (.int .i64 1)), none, false, 11, 1024, true⟩,
  ⟨(some 199), .idxAddr 1 (.t 196) (.t 198), none, false, 12, 3584, true⟩,
  ⟨(some 200), .load false 1 (.t 199), none, true, 13, 7680, true⟩,
  ⟨(some 201), .bin .quo (.t 195) (.t 200), none, false, 14, 16128, true⟩,
  ⟨(some 202), .call (.f 91) [(.t 189), (.t 190), (.t 194), (.t 201)], none, true, 15, 32764, true⟩,
  ⟨(some 203), .buildSlice 3 (.agg [(.int .i64 0), (.int .i64 0), (.slice 0 [] .nil)]) 1 [(0, (.t 202))], none, false, 16, 65532, true⟩,
  ⟨(some 204), .append 3 40 (.t 188) (.t 203), none, true, 17, 131071, true⟩,
  ⟨(some 205), .fieldAddr 2 (.t 12), none, false, 18, 262143, true⟩,
  ⟨none, .store 1 (.t 205) (.t 204), none, true, 19, 524287, true⟩])
 (.reg [
 ro 206 (.move (.t 3)),
 ro 207 (.move (.t 20)),
 ro 208 (.move (.t 22)),
 ro 209 (.bin .add (.t 208) (.c (.int .i64 1))),
 ro 210 (.idxAddr 1 (.t 207) (.t 209)),
 rp 211 (.load false 1 (.t 210)),
 ro 212 (.bin .rem (.t 206) (.t 211)),
 ro 3 (.move (.t 212))]))))
 (.reg [
 ro 213 (.bin .add (.t 182) (.c (.int .i64 1))),
 ro 182 (.move (.t 213))]))))
def a91b4 : ACode :=
 (.seq (.reg [
 ro 31 (.bin .lss (.t 30) (.t 29))])
 (.seq (.cond (.t 31)
 .skip
 (.exit 0))
 (.seq (.block 1 (.seq (.reg [
 ro 32 (.move (.t 30)),
 ro 33 (.idxAddr 3 (.t 28) (.t 30)),
 rp 34 (.load true 3 (.t 33)),
 rp 10 (.box 3 (.c (.agg [(.str ⟨#[]⟩), (.slice 0 [] .nil), (.int .i64 0)]))),
 ro 9 (.move (.t 32)),
  ⟨none, .store 3 (.t 10) (.t 34), none, true, 0, 0, false⟩])
 (.seq (.seq (.reg [
 ro 35 (.fieldAddr 2 (.t 10)),
 rp 36 (.load false 1 (.t 35)),
 ro 37 (.move (.t 1)),
 ro 38 (.bin .neq (.t 36) (.t 37))])
 (.cond (.t 38)
 (.exit 1)
 .skip))
 (.seq (.seq (.reg [
 ro 39 (.move (.t 0)),
 ro 40 (.nilCheck (.t 39)),
 ro 41 (.fieldAddr 3 (.t 40)),
 rp 42 (.load false 1 (.t 41)),
 ro 43 (.move (.t 9)),
 ro 44 (.idxAddr 1 (.t 42) (.t 43)),
 rp 45 (.load false 1 (.t 44)),
 ro 46 (.move (.t 2)),
 ro 47 (.bin .sub (.t 46) (.c (.int .i64 1))),
 ro 48 (.idxAddr 61 (.t 45) (.c (.int .i64 0))),
 ro 49 (.idxArr 61 1 (.t 48) (.t 47)),
 rp 50 (.load false 1 (.t 49)),
 ro 11 (.move (.t 50))])
 (.seq (.reg [
 ro 51 (.move (.t 3)),
 ro 52 (.move (.t 11)),
 ro 53 (.bin .geq (.t 51) (.t 52))])
 (.cond (.t 53)
 (.seq (.reg [
 ro 54 (.move (.t 3)),
 ro 55 (.move (.t 11)),
 ro 56 (.bin .sub (.t 54) (.t 55)),
 ro 3 (.move (.t 56))])
 (.exit 1))
 .skip)))
 (.seq (.reg [
 ro 57 (.move (.t 9)),
 ro 58 (.build [(.int .i64 0), (.int .i64 0), (.slice 0 [] .nil)] [(0, 1, (.c (.int .i64 2))), (1, 1, (.t 57))]),
 rp 12 (.box 3 (.c (.agg [(.int .i64 0), (.int .i64 0), (.slice 0 [] .nil)]))),
  ⟨none, .store 3 (.t 12) (.t 58), none, true, 0, 0, false⟩])
 (.seq (.reg [
 ro 59 (.fieldAddr 1 (.t 10)),
 rp 60 (.load false 1 (.t 59)),
 ro 61 (.lenL (.t 60)),
 rp 62 (.makeSlice 1 (.int .i64 0) 8 (.t 61) (.t 61)),
 ro 13 (.move (.t 62))])
 (.seq (.reg [
 ro 63 (.move (.t 2)),
 ro 64 (.bin .sub (.t 63) (.c (.int .i64 1))),
 ro 14 (.move (.t 64)),
 ro 15 (.move (.c (.int .i64 1)))])
 (.seq (.seq (.reg [
 ro 65 (.fieldAddr 1 (.t 10)),
 rp 66 (.load false 1 (.t 65)),
 ro 67 (.lenL (.t 66)),
 ro 68 (.move (.c (.int .i64 0)))])
 (.block 2 (.loop a91b1)))
 (.seq (.reg [
 ro 136 (.fieldAddr 1 (.t 10)),
 rp 137 (.load false 1 (.t 136)),
 ro 138 (.lenL (.t 137)),
 ro 139 (.bin .add (.t 138) (.c (.int .i64 1))),
 rp 140 (.makeSlice 1 (.int .i64 0) 8 (.t 139) (.t 139)),
 ro 20 (.move (.t 140))])
 (.seq (.reg [
 ro 141 (.move (.t 20)),
 ro 142 (.fieldAddr 1 (.t 10)),
 rp 143 (.load false 1 (.t 142)),
 ro 144 (.lenL (.t 143)),
 ro 145 (.idxAddr 1 (.t 141) (.t 144)),
  ⟨none, .store 1 (.t 145) (.c (.int .i64 1)), none, true, 0, 0, false⟩])
 (.seq (.seq (.reg [
 ro 146 (.fieldAddr 1 (.t 10)),
 rp 147 (.load false 1 (.t 146)),
 ro 148 (.lenL (.t 147)),
 ro 149 (.bin .sub (.t 148) (.c (.int .i64 1))),
 ro 21 (.move (.t 149))])
 (.block 6 (.loop a91b2)))
 (.seq (.seq (.reg [
 ro 179 (.fieldAddr 1 (.t 10)),
 rp 180 (.load false 1 (.t 179)),
 ro 181 (.lenL (.t 180)),
 ro 182 (.move (.c (.int .i64 0)))])
 (.block 8 (.loop a91b3)))
 (.seq (.reg [
 rp 214 (.load true 3 (.t 12)),
  ⟨none, .store 3 (.t 8) (.t 214), none, true, 0, 0, false⟩])
 .ret)))))))))))))
 (.reg [
 ro 215 (.bin .add (.t 30) (.c (.int .i64 1))),
 ro 30 (.move (.t 215))]))))
def a91 : AFunc := ⟨4, 217, (.seq (.reg [
 rp 8 (.box 3 (.c (.agg [(.int .i64 0), (.int .i64 0), (.slice 0 [] .nil)])))])
 (.seq (.seq (.reg [
 ro 24 (.move (.t 0)),
 ro 25 (.nilCheck (.t 24)),
 ro 26 (.fieldAddr 0 (.t 25)),
 ro 27 (.fieldAddr 1 (.t 26)),
 rp 28 (.load false 1 (.t 27)),
 ro 29 (.lenL (.t 28)),
 ro 30 (.move (.c (.int .i64 0)))])
 (.block 0 (.loop a91b4)))
 (.seq (.reg [
 ro 216 (.build [(.int .i64 0), (.int .i64 0), (.slice 0 [] .nil)] []),
  ⟨none, .store 3 (.t 8) (.t 216), none, true, 0, 0, false⟩])
 .ret))), [.cell 8 true 3]⟩
theorem fn91 : fnOf 91 = some a91 := by kernel_rfl
end Go.Proofs.Tryz
/- isSort, sized; terms, and that each is the same as itself. -/
namespace Go.Proofs.Tryz
open Go Go.AE
variable {T : Tbl} (hT : Std T)
include hT in
theorem isSort_ev {s : GSig} (n : Int) (h : List AE.Obj) : Ev T 88 [encSig s, .int .i64 n] h (.val (.bool (isSortB n s.sorts.length)), ⟨h, [], []⟩) := by
 refine Ev.walk (hT.sp _ (by decide)) ((hT.fn _).trans fn88) (hT.mode _) rfl ?_
 have hk : (h ++ [AE.Obj.row 2 [encSig s]])[h.length]? = some (.row 2 [encSig s]) := by simp
 have fl : loadAt false 1 (.ptr h.length 0 0 1) (h ++ [AE.Obj.row 2 [encSig s]]) = some (.slice 1 (s.sorts.map .str) .any) := by rw [ld_at hk]; rfl
 have td : ∀ b, tidy 0 h.length (.val (.bool b)) ⟨h ++ [AE.Obj.row 2 [encSig s]], [], []⟩ = (.val (.bool b), ⟨h, [], []⟩) := fun b => tidy_low rfl rfl ((Low.refl _ _).push (Nat.le_refl _)) (by simp)
 by_cases h0 : 0 ≤ n
 · simp (disch := first | omega | decide | simp only [go_sem]) only [go_sem, fl, h0, isSortB, Bool.true_and, td]
 · simp (disch := first | omega | decide | simp only [go_sem]) only [go_sem, fl, h0, isSortB, Bool.false_and, td]
def sizedB (n : Int) : Bool := decide (0 ≤ n) && decide (n ≤ 60)
include hT in
theorem sized_ev (n : Int) (h : List AE.Obj) : Ev T 89 [.int .i64 n] h (.val (.bool (sizedB n)), ⟨h, [], []⟩) := by
 refine Ev.walk (hT.sp _ (by decide)) ((hT.fn _).trans fn89) (hT.mode _) rfl ?_
 by_cases h0 : 0 ≤ n
 · simp (disch := first | omega | decide | simp only [go_sem]) only [go_sem, h0, sizedB, Bool.true_and]
 · simp (disch := first | omega | decide | simp only [go_sem]) only [go_sem, h0, sizedB, Bool.false_and]
inductive IsT : PV → Prop where
 | mk (k n : Int) (sz : Nat) (es : List PV) (hs : es = [] ∨ sz = 3) (hl : es.length < 1000) (he : ∀ x, x ∈ es → IsT x) : IsT (.agg [.int .i64 k, .int .i64 n, .slice sz es .any])
theorem IsT.top {p : PV} (h : IsT p) : p.top = none := by
 induction h with
 | mk k n sz es hs hl he ih =>
   have : ∀ l : List PV, (∀ x ∈ l, x.top = none) → tops l = none := fun l => by
    induction l with
    | nil => intro _; rfl
    | cons x l ihl => intro hx; simp [tops, hx x (by simp), ihl fun y hy => hx y (by simp [hy]), omax]
   simp [PV.top, tops, omax, this es ih]
theorem IsT.pureW {p : PV} (h : IsT p) : p.pure = true ∧ p.weak = p := by
 induction h with
 | mk k n sz es hs hl he ih =>
   have : ∀ l : List PV, (∀ x ∈ l, x.pure = true ∧ x.weak = x) → pures l = true ∧ weaks l = l := fun l => by
    induction l with
    | nil => intro _; exact ⟨rfl, rfl⟩
    | cons x l ihl =>
      intro hx
      obtain ⟨a, b⟩ := ihl fun y hy => hx y (by simp [hy])
      obtain ⟨c, d⟩ := hx x (by simp)
      simp [pures, weaks, a, b, c, d]
   obtain ⟨a, b⟩ := this es ih
   simp [PV.pure, pures, PV.weak, weaks, a, b]
theorem IsT.cells {p : PV} (h : IsT p) : p.cells.length = 3 ∧ p.cells.all PV.isCell = true ∧ p.isDef = true ∧ ∃ cs, p = .agg cs := by
 cases h
 exact ⟨rfl, rfl, rfl, _, rfl⟩
theorem IsT.sub {p : PV} (h : IsT p) : sub true 3 p 0 = some p := by
 cases h
 rfl
end Go.Proofs.Tryz
/- Terms as values; what nth answers. -/
namespace Go.Proofs.Tryz
open Go Go.AE
inductive Enc : Tm → PV → Prop where
 | mk (k n : Int) (l : List Tm) (sz : Nat) (es : List PV) (hs : es = [] ∨ sz = 3) (hl : es.length = l.length) (he : ∀ (i : Nat) (x : Tm) (p : PV), l[i]? = some x → es[i]? = some p → Enc x p) : Enc (.mk k n l) (.agg [.int .i64 k, .int .i64 n, .slice sz es .any])
theorem nodesL_len : ∀ l : List Tm, l.length ≤ nodesL l
 | [] => Nat.le_refl _
 | t :: l => by
   have := nodesL_len l
   have := nodes_pos t
   simp only [List.length_cons, nodesL]
   omega
theorem Enc.isT {t : Tm} {p : PV} (h : Enc t p) : t.nodes ≤ 900 → IsT p := by
 induction h with
 | mk k n l sz es hs hl he ih =>
   intro hn
   simp only [Tm.nodes] at hn
   have := nodesL_len l
   refine .mk k n sz es hs (by omega) fun x hx => ?_
   obtain ⟨i, hi, rfl⟩ := List.getElem_of_mem hx
   have hm := nodesL_mem (List.getElem_mem (show i < l.length by omega))
   exact ih i l[i] _ (List.getElem?_eq_getElem (by omega)) (List.getElem?_eq_getElem hi) (by omega)
def cntOf (s : GSig) (a m : Nat) : Int := ((tabOf s).1.getD a []).getD m 0
def Nth91 (s : GSig) (a m : Nat) (n : Int) (p : PV) : Prop := ∃ x, Enc x p ∧ WT s x (a : Int) ∧ x.nodes = m ∧ x.num s = n
def szF (szs : List Int) (k : Nat) : Nat := (szs.getD k 0).toNat
theorem WTs_mk {s : GSig} : ∀ {l : List Tm} {bs : List Int}, l.length = bs.length → (∀ j x, l[j]? = some x → WT s x (bs.getD j 0)) → WTs s l bs
 | [], [], _, _ => trivial
 | t :: l, a :: bs, hl, h => ⟨by simpa using h 0 t rfl, WTs_mk (by simpa using hl) fun j x hj => by simpa using h (j + 1) x (by simpa using hj)⟩
 | [], a :: bs, hl, _ => by simp at hl
 | t :: l, [], hl, _ => by simp at hl
def upF (sv : Nat → Nat → Int) (sz : Nat → Nat) (nm : Nat → Int) (L : Nat) : Nat → Int
 | 0 => 0
 | k + 1 => upF sv sz nm L k + nm k * beF sv sz L (L - 1 - k)
theorem up_congr {sv : Nat → Nat → Int} {sz : Nat → Nat} {nm nm' : Nat → Int} {L : Nat} : ∀ k, (∀ j, j < k → nm j = nm' j) → upF sv sz nm L k = upF sv sz nm' L k
 | 0, _ => rfl
 | k + 1, h => by simp only [upF]; rw [up_congr k fun j hj => h j (by omega), h k (by omega)]
theorem up_dn {sv : Nat → Nat → Int} {sz : Nat → Nat} {nm : Nat → Int} {L : Nat} : ∀ k, k ≤ L → upF sv sz nm L k + dnF sv sz nm L (L - k) = dnF sv sz nm L L
 | 0, _ => by simp [upF]
 | k + 1, hk => by
   have ih := up_dn (sv := sv) (sz := sz) (nm := nm) (L := L) k (by omega)
   obtain ⟨j, hj⟩ : ∃ j, L - k = j + 1 := ⟨L - k - 1, by omega⟩
   have e1 : L - (k + 1) = j := by omega
   have e2 : L - 1 - j = k := by omega
   have e3 : L - 1 - k = j := by omega
   rw [hj] at ih
   simp only [dnF, e2] at ih
   rw [e1]
   simp only [upF, e3]
   omega
theorem up_all {sv : Nat → Nat → Int} {sz : Nat → Nat} {nm : Nat → Int} {L : Nat} : upF sv sz nm L L = dnF sv sz nm L L := by
 have := up_dn (sv := sv) (sz := sz) (nm := nm) (L := L) L (Nat.le_refl _)
 rw [Nat.sub_self] at this
 simpa [dnF] using this
theorem sz_congr {szs : List Int} {k : Nat} {m : Int} : ∀ j, j < k → szF (szs.set k m) j = szF szs j := fun j hj => by
 unfold szF
 rw [getD_set_ne (by omega)]
theorem nodesL_take {l : List Tm} {i : Nat} {t : Tm} (h : l[i]? = some t) : nodesL (l.take (i + 1)) = nodesL (l.take i) + t.nodes := by
 induction l generalizing i with
 | nil => simp at h
 | cons x l ih =>
   cases i with
   | zero =>
     simp only [List.getElem?_cons_zero, Option.some.injEq] at h
     subst h
     simp [nodesL]
   | succ i =>
     have := ih (by simpa using h)
     simp only [List.take_succ_cons, nodesL]
     omega
theorem lf_sum {sz : Nat → Nat} {N L : Nat} {xs : List Tm} (hl : xs.length = L) (hz : ∀ j x, xs[j]? = some x → x.nodes = sz j) (hle : ∀ k, k < L → sz k ≤ lfF sz N k) : ∀ k, k ≤ L → lfF sz N k + nodesL (xs.take k) = N
 | 0, _ => by simp [lfF, nodesL]
 | k + 1, hk => by
   have ih := lf_sum hl hz hle k (by omega)
   have hx := getD_mem (show k < xs.length by omega)
   have h1 := hz k _ hx
   have h2 := hle k (by omega)
   rw [nodesL_take hx, h1]
   simp only [lfF]
   omega
theorem dn_congr {sv : Nat → Nat → Int} {sz sz' : Nat → Nat} {nm : Nat → Int} {L : Nat} (h : ∀ k, k < L → sz k = sz' k) : ∀ j, j ≤ L → dnF sv sz nm L j = dnF sv sz' nm L j
 | 0, _ => rfl
 | j + 1, hj => by simp only [dnF]; rw [dn_congr h j (by omega), be_congr (sv := sv) (L := L) j (by omega) h]
theorem opStep_c0 {p i a : Nat} {t : Tab} {o : GOp} : (((opStep p t i o).1.getD a []).getD 0 0) = ((t.1.getD a []).getD 0 0) := by
 simp only [opStep]
 by_cases hr : o.res.toNat < t.1.length
 · by_cases ha : o.res.toNat = a
   · subst ha
     rw [getD_set hr, if_pos rfl, getD_set_ne (by omega)]
   · rw [getD_set_ne ha]
 · rw [List.set_eq_of_length_le (by omega)]
theorem opsFrom_c0 {p a : Nat} : ∀ (os : List GOp) (i : Nat) (t : Tab), (((opsFrom p os i t).1.getD a []).getD 0 0) = ((t.1.getD a []).getD 0 0)
 | [], _, _ => rfl
 | o :: os, i, t => by simp only [opsFrom]; rw [opsFrom_c0 os, opStep_c0]
theorem sizesFrom_c0 {ops : List GOp} {a : Nat} : ∀ (d p : Nat) (t : Tab), (((sizesFrom ops d p t).1.getD a []).getD 0 0) = ((t.1.getD a []).getD 0 0)
 | 0, _, _ => rfl
 | d + 1, p, t => by simp only [sizesFrom]; rw [sizesFrom_c0 d, opsFrom_c0]
theorem cnt0 {s : GSig} (a : Nat) : cntOf s a 0 = 0 := by
 unfold cntOf tabOf
 rw [sizesFrom_c0]
 simp only [tab0, zeros, List.getD_eq_getElem?_getD, List.getElem?_replicate]
 split
 · simp only [Option.getD_some, List.getElem?_replicate]
   split <;> rfl
 · rfl
end Go.Proofs.Tryz
/- A term is the same as itself. -/
namespace Go.Proofs.Tryz
open Go Go.AE
variable {T : Tbl} (hT : Std T)
@[go_sem] theorem tget0 {a : PV} {l : List PV} : (a :: l)[0]? = some a := rfl
@[go_sem] theorem tget1 {a b : PV} {l : List PV} : (a :: b :: l)[1]? = some b := rfl
@[go_sem] theorem tget2 {a b c : PV} {l : List PV} : (a :: b :: c :: l)[2]? = some c := rfl
@[go_sem] theorem tget3 {a b c d : PV} {l : List PV} : (a :: b :: c :: d :: l)[3]? = some d := rfl
@[go_sem] theorem cdef_agg {cs : List PV} : (PV.agg cs).isDef = true := rfl
theorem get_lt {es : List PV} {i : Nat} (h : i < es.length) : es[i]? = some es[i] := List.getElem?_eq_getElem h
theorem keepL {H : List AE.Obj} {k : Nat} {ob o2 : AE.Obj} (hx : H[k]? = some ob) : (H ++ [o2])[k]? = some ob := by
 rw [List.getElem?_append_left (List.getElem?_eq_some_iff.1 hx).1]; exact hx
end Go.Proofs.Tryz
/- small, brief: total. -/
namespace Go.Proofs.Tryz
open Go Go.AE
variable {T : Tbl} (hT : Std T)
def opBig (o : GOp) : Bool := decide (20 < o.args.length) || decide (200 < o.name.size)
def strBig (t : ByteArray) : Bool := decide (200 < t.size)
def smallB (s : GSig) : Bool := decide (s.ops.length ≤ 40) && decide (s.sorts.length ≤ 20) && !s.ops.any opBig && !s.sorts.any strBig
theorem smallB_fits {s : GSig} (h : smallB s = true) : Fits s := by
 simp only [smallB, Bool.and_eq_true, decide_eq_true_eq, Bool.not_eq_true', List.any_eq_false] at h
 obtain ⟨⟨⟨h1, h2⟩, h3⟩, h4⟩ := h
 refine ⟨by omega, by omega, fun t ht => ?_, fun o ho => ?_⟩
 · have := h4 t ht
   simp only [strBig, decide_eq_true_eq] at this
   omega
 · have := h3 o ho
   simp only [opBig, Bool.or_eq_true, decide_eq_true_eq, not_or] at this
   omega
include hT in
theorem small1_ev (o : GOp) (h : List AE.Obj) : Ev T 81 [encOp o] h (.val (.bool (opBig o)), ⟨h, [], []⟩) := by
 refine Ev.walk (hT.sp _ (by decide)) ((hT.fn _).trans fn81) (hT.mode _) rfl ?_
 have hk : (h ++ [AE.Obj.row 3 [encOp o]])[h.length]? = some (.row 3 [encOp o]) := by simp
 have l1 : loadAt false 1 (.ptr h.length 0 1 1) (h ++ [AE.Obj.row 3 [encOp o]]) = some (.slice 1 (o.args.map encI) .any) := by rw [ld_at hk]; rfl
 have l0 : loadAt false 1 (.ptr h.length 0 0 1) (h ++ [AE.Obj.row 3 [encOp o]]) = some (.str o.name) := by rw [ld_at hk]; rfl
 have td : ∀ b, tidy 0 h.length (.val (.bool b)) ⟨h ++ [AE.Obj.row 3 [encOp o]], [], []⟩ = (.val (.bool b), ⟨h, [], []⟩) := fun b => tidy_low rfl rfl ((Low.refl _ _).push (Nat.le_refl _)) (by simp)
 by_cases h0 : 20 < o.args.length
 · have h0' : (20 : Int) < (o.args.length : Int) := by omega
   simp (disch := first | omega | decide | simp only [go_sem]) only [go_sem, l0, l1, h0, h0', opBig, Bool.true_or, td]
 · have h0' : ¬ (20 : Int) < (o.args.length : Int) := by omega
   by_cases h1 : 200 < o.name.size
   · have h1' : (200 : Int) < (o.name.size : Int) := by omega
     simp (disch := first | omega | decide | simp only [go_sem]) only [go_sem, l0, l1, h0, h0', h1, h1', opBig, Bool.false_or, td]
   · have h1' : ¬ (200 : Int) < (o.name.size : Int) := by omega
     simp (disch := first | omega | decide | simp only [go_sem]) only [go_sem, l0, l1, h0, h0', h1, h1', opBig, Bool.false_or, td]
include hT in
theorem small2_ev (t : ByteArray) (h : List AE.Obj) : Ev T 83 [.str t] h (.val (.bool (strBig t)), ⟨h, [], []⟩) := by
 refine Ev.walk (hT.sp _ (by decide)) ((hT.fn _).trans fn83) (hT.mode _) rfl ?_
 by_cases h1 : 200 < t.size
 · have h1' : (200 : Int) < (t.size : Int) := by omega
   simp (disch := first | omega | decide | simp only [go_sem]) only [go_sem, h1, h1', strBig]
 · have h1' : ¬ (200 : Int) < (t.size : Int) := by omega
   simp (disch := first | omega | decide | simp only [go_sem]) only [go_sem, h1, h1', strBig]
theorem any_of {α : Type} {p : α → Bool} {l : List α} {i : Nat} (hi : i < l.length) (h : p l[i] = true) : l.any p = true := List.any_eq_true.2 ⟨_, List.getElem_mem hi, h⟩
theorem any_none {α : Type} {p : α → Bool} {l : List α} (h : ∀ j (hj : j < l.length), p l[j] = false) : l.any p = false := by
 rw [List.any_eq_false]
 intro a ha
 obtain ⟨j, hj, rfl⟩ := List.getElem_of_mem ha
 simp [h j hj]
include hT in
theorem index139_tot {g : FuncId} {cap : List PV} {p : GOp → Bool} {h : List AE.Obj} (hg : T.prim g = none) {ops : List GOp} {m : SM} (hf : ∀ a, Ev T g (encOp a :: cap) h (.val (.bool (p a)), ⟨h, [], []⟩)) (hal : ops.length < 1000000) :
 ∃ r : Int, Ev T 139 [.slice 3 (ops.map encOp) m, .func (.func g) [] cap] h (.val (.int .i64 r), ⟨h, [], []⟩) ∧ (decide (0 ≤ r) = ops.any p) := by
 refine Ev.walkP (hT.sp _ (by decide)) ((hT.fn _).trans fn139) (hT.mode _) rfl ?_
 simp (disch := first | omega | decide | simp only [go_sem]) only [go_sem]
 refine wpC.loopM (fun n e s => ∃ i : Nat, i + n = ops.length ∧ eget e 0 = .slice 3 (ops.map encOp) m ∧ eget e 1 = .func (.func g) [] cap ∧ eget e 7 = .int .i64 (ops.length : Int) ∧ eget e 8 = .int .i64 (i : Int) ∧ (∀ j (hj : j < ops.length), j < i → p ops[j] = false) ∧ s = ⟨h, [], []⟩) ?_ ops.length _ _ ⟨0, by simp, by simp (disch := first | omega | decide | simp only [go_sem]) only [go_sem], by simp (disch := first | omega | decide | simp only [go_sem]) only [go_sem], by simp (disch := first | omega | decide | simp only [go_sem]) only [go_sem], by simp (disch := first | omega | decide | simp only [go_sem]) only [go_sem]; rfl, fun j _ hj => by omega, rfl⟩
 rintro n e s ⟨i, hi, e0, e1, e7, e8, hp, rfl⟩
 by_cases h1 : i < ops.length
 · have ga := get_op h1
   have sb : sub true 3 (encOp ops[i]) 0 = some (encOp ops[i]) := rfl
   simp (disch := first | omega | decide | simp only [go_sem]) only [go_sem, a139b0, e0, e1, e7, e8, h1, ga, sb, hg, cb (hf ops[i])]
   refine bifs (fun hpi => ⟨(i : Int), rfl, by rw [any_of h1 hpi]; simp⟩) (fun hpi => ⟨n - 1, by omega, i + 1, by omega, rfl, fun j hj hji => ?_, trivial⟩)
   by_cases hjj : j = i
   · subst hjj; exact hpi
   · exact hp j hj (by omega)
 · simp (disch := first | omega | decide | simp only [go_sem]) only [go_sem, a139b0, e0, e1, e7, e8, h1]
   exact ⟨_, rfl, by rw [any_none fun j hj => hp j hj (by omega)]; rfl⟩
include hT in
theorem contains80_ev {g : FuncId} {cap : List PV} {p : GOp → Bool} {h : List AE.Obj} (hg : T.prim g = none) {ops : List GOp} {m : SM} (hf : ∀ a, Ev T g (encOp a :: cap) h (.val (.bool (p a)), ⟨h, [], []⟩)) (hal : ops.length < 1000000) :
 Ev T 80 [.slice 3 (ops.map encOp) m, .func (.func g) [] cap] h (.val (.bool (ops.any p)), ⟨h, [], []⟩) := by
 obtain ⟨r, hr, kr⟩ := index139_tot hT (m := m) hg hf hal
 rw [← kr]
 refine Ev.walk (hT.sp _ (by decide)) ((hT.fn _).trans fn80) (hT.mode _) rfl ?_
 simp (disch := first | omega | decide | simp only [go_sem]) only [go_sem, cb hr, hT.prim, primOf]
include hT in
theorem index160_tot {g : FuncId} {cap : List PV} {p : ByteArray → Bool} {h : List AE.Obj} (hg : T.prim g = none) {ss : List ByteArray} {m : SM} (hf : ∀ a, Ev T g (.str a :: cap) h (.val (.bool (p a)), ⟨h, [], []⟩)) (hal : ss.length < 1000000) :
 ∃ r : Int, Ev T 160 [.slice 1 (ss.map .str) m, .func (.func g) [] cap] h (.val (.int .i64 r), ⟨h, [], []⟩) ∧ (decide (0 ≤ r) = ss.any p) := by
 refine Ev.walkP (hT.sp _ (by decide)) ((hT.fn _).trans fn160) (hT.mode _) rfl ?_
 simp (disch := first | omega | decide | simp only [go_sem]) only [go_sem]
 refine wpC.loopM (fun n e s => ∃ i : Nat, i + n = ss.length ∧ eget e 0 = .slice 1 (ss.map .str) m ∧ eget e 1 = .func (.func g) [] cap ∧ eget e 7 = .int .i64 (ss.length : Int) ∧ eget e 8 = .int .i64 (i : Int) ∧ (∀ j (hj : j < ss.length), j < i → p ss[j] = false) ∧ s = ⟨h, [], []⟩) ?_ ss.length _ _ ⟨0, by simp, by simp (disch := first | omega | decide | simp only [go_sem]) only [go_sem], by simp (disch := first | omega | decide | simp only [go_sem]) only [go_sem], by simp (disch := first | omega | decide | simp only [go_sem]) only [go_sem], by simp (disch := first | omega | decide | simp only [go_sem]) only [go_sem]; rfl, fun j _ hj => by omega, rfl⟩
 rintro n e s ⟨i, hi, e0, e1, e7, e8, hp, rfl⟩
 by_cases h1 : i < ss.length
 · have ga := get_str h1
   simp (disch := first | omega | decide | simp only [go_sem]) only [go_sem, a160b0, e0, e1, e7, e8, h1, ga, hg, cb (hf ss[i])]
   refine bifs (fun hpi => ⟨(i : Int), rfl, by rw [any_of h1 hpi]; simp⟩) (fun hpi => ⟨n - 1, by omega, i + 1, by omega, rfl, fun j hj hji => ?_, trivial⟩)
   by_cases hjj : j = i
   · subst hjj; exact hpi
   · exact hp j hj (by omega)
 · simp (disch := first | omega | decide | simp only [go_sem]) only [go_sem, a160b0, e0, e1, e7, e8, h1]
   exact ⟨_, rfl, by rw [any_none fun j hj => hp j hj (by omega)]; rfl⟩
include hT in
theorem contains82_ev {g : FuncId} {cap : List PV} {p : ByteArray → Bool} {h : List AE.Obj} (hg : T.prim g = none) {ss : List ByteArray} {m : SM} (hf : ∀ a, Ev T g (.str a :: cap) h (.val (.bool (p a)), ⟨h, [], []⟩)) (hal : ss.length < 1000000) :
 Ev T 82 [.slice 1 (ss.map .str) m, .func (.func g) [] cap] h (.val (.bool (ss.any p)), ⟨h, [], []⟩) := by
 obtain ⟨r, hr, kr⟩ := index160_tot hT (m := m) hg hf hal
 rw [← kr]
 refine Ev.walk (hT.sp _ (by decide)) ((hT.fn _).trans fn82) (hT.mode _) rfl ?_
 simp (disch := first | omega | decide | simp only [go_sem]) only [go_sem, cb hr, hT.prim, primOf]
include hT in
theorem small_ev (s : GSig) (h : List AE.Obj) : Ev T 16 [encSig s] h (.val (.bool (smallB s)), ⟨h, [], []⟩) := by
 refine Ev.walk (hT.sp _ (by decide)) ((hT.fn _).trans fn16) (hT.mode _) rfl ?_
 have hk : (h ++ [AE.Obj.row 2 [encSig s]])[h.length]? = some (.row 2 [encSig s]) := by simp
 have l0 : loadAt false 1 (.ptr h.length 0 0 1) (h ++ [AE.Obj.row 2 [encSig s]]) = some (.slice 1 (s.sorts.map .str) .any) := by rw [ld_at hk]; rfl
 have l1 : loadAt false 1 (.ptr h.length 0 1 1) (h ++ [AE.Obj.row 2 [encSig s]]) = some (.slice 3 (s.ops.map encOp) .any) := by rw [ld_at hk]; rfl
 have td : ∀ b, tidy 0 h.length (.val (.bool b)) ⟨h ++ [AE.Obj.row 2 [encSig s]], [], []⟩ = (.val (.bool b), ⟨h, [], []⟩) := fun b => tidy_low rfl rfl ((Low.refl _ _).push (Nat.le_refl _)) (by simp)
 by_cases h0 : s.ops.length ≤ 40
 · have h0' : (s.ops.length : Int) ≤ 40 := by omega
   by_cases h1 : s.sorts.length ≤ 20
   · have h1' : (s.sorts.length : Int) ≤ 20 := by omega
     have c1 := contains80_ev hT (m := .any) (g := 81) (cap := []) (p := opBig) (ops := s.ops) (by rw [hT.prim]; rfl) (fun a => small1_ev hT a (h ++ [AE.Obj.row 2 [encSig s]])) (by omega)
     have c2 := contains82_ev hT (m := .any) (g := 83) (cap := []) (p := strBig) (ss := s.sorts) (by rw [hT.prim]; rfl) (fun a => small2_ev hT a (h ++ [AE.Obj.row 2 [encSig s]])) (by omega)
     simp (disch := first | omega | decide | simp only [go_sem]) only [go_sem, l0, l1, h0, h0', h1, h1', smallB, Bool.true_and, cb c1, cb c2, hT.prim, primOf, td]
     cases s.ops.any opBig <;> rfl
   · have h1' : ¬ (s.sorts.length : Int) ≤ 20 := by omega
     simp (disch := first | omega | decide | simp only [go_sem]) only [go_sem, l0, l1, h0, h0', h1, h1', smallB, Bool.true_and, Bool.false_and, td]
 · have h0' : ¬ (s.ops.length : Int) ≤ 40 := by omega
   simp (disch := first | omega | decide | simp only [go_sem]) only [go_sem, l0, l1, h0, h0', smallB, Bool.false_and, td]
end Go.Proofs.Tryz
/- nth: the sizes of the arguments. -/
namespace Go.Proofs.Tryz
open Go Go.AE
variable {T : Tbl} (hT : Std T)
def nsv (o : GOp) (so : List (List Int)) (k m : Nat) : Int := (so.getD (o.args.getD k 0).toNat []).getD m 0
def nrv (ri : List (List Int)) (k q : Nat) : Int := (ri.getD k []).getD q 0
structure NthC (s : GSig) (TAB : PV) (i : Nat) (o : GOp) (so ri : List (List Int)) (rest : List PV) : Prop where
 t1 : sub false 1 TAB 1 = some (.slice 3 (s.ops.map encOp) .any)
 t2 : sub false 1 TAB 2 = some (.slice 61 (so.map arr) .any)
 t3 : sub false 1 TAB 3 = some (.slice 1 rest .any)
 ro : so.length = s.sorts.length
 okS : okRows so
 ho : s.ops[i]? = some o
 args : okArgs o.args s.sorts.length
 al : o.args.length < 900
 gr : rest[i]? = some (.slice 61 (ri.map arr) .any)
 rl : ri.length = o.args.length + 1
 okR : okRows ri
 eqn : ∀ k q, k < o.args.length → q < 60 → (ri.getD k []).getD q 0 = inner (so.getD (o.args.getD k 0).toNat []) (ri.getD (k + 1) []) q q 1 0
 sys : Sys (nsv o so) (nrv ri) o.args.length
theorem ld_arr {x : List Int} (h : okRow x) {m : Nat} (hm : m < 61) : sub false 1 (arr x) m = some (.int .i64 (x.getD m 0)) := by
 have := (h.get hm).1
 show (x.map encI)[m]? = _
 rw [List.getElem?_map, this]; rfl
theorem get_arr {l : List (List Int)} (h : okRows l) {k : Nat} (hk : k < l.length) : (l.map arr)[k]? = some (arr (l.getD k [])) := by
 rw [List.getElem?_map, (h.get hk).1]; rfl
theorem cap_def {x : Int} : min x 1099511627776 = cap x := rfl
theorem cap_nn {x : Int} (h : 0 ≤ x) : 0 ≤ cap x := by unfold cap; omega
theorem cap_top (x : Int) : cap x ≤ 1099511627776 := by unfold cap; omega
@[go_sem] theorem sub_slice0 {sz n : Nat} {es : List PV} {m : SM} : sub false sz (.slice n es m) 0 = some (.slice n es m) := rfl
variable {s : GSig} {TAB : PV} {i : Nat} {o : GOp} {so ri : List (List Int)} {rest : List PV}
include hT in
theorem nth_b0 (C : NthC s TAB i o so ri rest) {k a left ks : Nat} {ahead n0 : Int} {szs : List Int} {H : List AE.Obj} {ws : List Nat} {e0 : List PV} {Q : AExit → List PV → St → Prop}
 (hk : k < o.args.length) (ha : o.args[k]? = some (a : Int)) (haE : (o.args.getD k 0).toNat = a) (hal : a < s.sorts.length) (hleft : left < 60) (hah : 0 ≤ ahead ∧ ahead ≤ 1099511627776) (hn : 0 ≤ n0 ∧ n0 ≤ 1099511627776) (hsum : n0 < sumP ahead (so.getD a []) (ri.getD (k + 1) []) left left 1)
 (hks : H[ks]? = some (.row 1 (szs.map encI))) (hsl : szs.length = o.args.length)
 (h0 : eget e0 0 = .iptr TAB 0) (h3 : eget e0 3 = .int .i64 n0) (h9 : eget e0 9 = .int .i64 (i : Int)) (h13 : eget e0 13 = .aref ks 1 0 o.args.length o.args.length) (h14 : eget e0 14 = .int .i64 (left : Int)) (h15 : eget e0 15 = .int .i64 ahead) (h16 : eget e0 16 = .int .i64 (k : Int)) (h17 : eget e0 17 = .int .i64 (a : Int)) (h18 : eget e0 18 = .int .i64 1)
 (hQ : ∀ e' (m : Nat) (n' : Int), Same (fun j => j = 3 ∨ j = 18 ∨ j = 19 ∨ 73 ≤ j) e0 e' → eget e' 3 = .int .i64 n' → 1 ≤ m → m ≤ left → 0 ≤ n' → n' ≤ 1099511627776 → n' < cap (cap (ahead * (so.getD a []).getD m 0) * (ri.getD (k + 1) []).getD (left - m) 0) → n' = n0 - preP (nsv o so) (nrv ri) ahead k left (m - 1) → Q (.exit 4) e' ⟨H.set ks (.row 1 ((szs.set k (m : Int)).map encI)), wadd ks ws, []⟩) :
 wpC T (.loop a91b0) e0 ⟨H, ws, []⟩ Q := by
 have hk9 : k < 900 := by have := C.al; omega
 have hso := (C.okS.get (k := a) (by rw [C.ro]; exact hal)).2
 have hr1 := (C.okR.get (k := k + 1) (by rw [C.rl]; omega)).2
 have gs := get_arr C.okS (k := a) (by rw [C.ro]; exact hal)
 have gk := get_arr C.okR (k := k + 1) (by rw [C.rl]; omega)
 have gr := C.gr
 have t2 := C.t2
 have t3 := C.t3
 refine wpC.loopM (fun d e st => ∃ (m : Nat) (n : Int), m + d = left + 1 ∧ 1 ≤ m ∧ (0 ≤ n ∧ n ≤ 1099511627776) ∧ n < sumP ahead (so.getD a []) (ri.getD (k + 1) []) left d m ∧ Same (fun j => j = 3 ∨ j = 18 ∨ j = 19 ∨ 73 ≤ j) e0 e ∧ eget e 3 = .int .i64 n ∧ eget e 18 = .int .i64 (m : Int) ∧ n = n0 - preP (nsv o so) (nrv ri) ahead k left (m - 1) ∧ st = ⟨H, ws, []⟩) ?_ left _ _ ⟨1, n0, by omega, by omega, hn, hsum, Same.refl _, h3, h18, by simp [preP], rfl⟩
 rintro d e st ⟨m, n, hd, hm1, hn, hsum, hs, e3, e18, hpre, rfl⟩
 cases d with
 | zero => simp only [sumP] at hsum; omega
 | succ d =>
   have e0' := (hs 0 (by omega)).trans h0
   have e9 := (hs 9 (by omega)).trans h9
   have e13 := (hs 13 (by omega)).trans h13
   have e14 := (hs 14 (by omega)).trans h14
   have e15 := (hs 15 (by omega)).trans h15
   have e16 := (hs 16 (by omega)).trans h16
   have e17 := (hs 17 (by omega)).trans h17
   have hml : m ≤ left := by omega
   have hm61 : m < 61 := by omega
   have hlm : left - m < 61 := by omega
   have ls := ld_arr hso hm61
   have l1 := ld_arr hr1 hlm
   have b2 := (hso.get hm61).2
   have b1 := (hr1.get hlm).2
   simp only [sumP] at hsum
   have hp1 : 0 ≤ ahead * (so.getD a []).getD m 0 := Int.mul_nonneg hah.1 b2.1
   have c1 := fun h => times_ev hT (h := h) hah.1 hah.2 b2.1 b2.2
   have c2 := fun h => times_ev hT (h := h) (cap_nn hp1) (cap_top _) b1.1 b1.2
   have hw0 : 0 ≤ cap (cap (ahead * (so.getD a []).getD m 0) * (ri.getD (k + 1) []).getD (left - m) 0) := cap_nn (Int.mul_nonneg (cap_nn hp1) b1.1)
   have hw1 := cap_top (cap (ahead * (so.getD a []).getD m 0) * (ri.getD (k + 1) []).getD (left - m) 0)
   simp only [cap_def] at c1 c2
   have hway : preP (nsv o so) (nrv ri) ahead k left m = preP (nsv o so) (nrv ri) ahead k left (m - 1) + cap (cap (ahead * (so.getD a []).getD m 0) * (ri.getD (k + 1) []).getD (left - m) 0) := by
    obtain ⟨j, rfl⟩ : ∃ j, m = j + 1 := ⟨m - 1, by omega⟩
    simp only [preP, wayW, nsv, nrv, haE, Nat.add_sub_cancel]
   generalize hw : cap (cap (ahead * (so.getD a []).getD m 0) * (ri.getD (k + 1) []).getD (left - m) 0) = ways at *
   have sv := fun ws => st_v (h := H) (ws := ws) (ups := []) (v := (m : Int)) hks hsl hk
   by_cases hlt : n < ways
   · simp (disch := first | omega | decide | simp only [go_sem]) only [go_sem, a91b0, e0', e3, e9, e13, e14, e15, e16, e17, e18, hml, t2, t3, gs, gk, gr, ls, l1, cb (c1 _), cb (c2 _), hT.prim, primOf, cast_sub hml, hm61, hlm, hlt, hk, sv]
     exact hQ _ m n (fun j hj => by
      have h' := hs j hj
      simp only [not_or, Nat.not_le] at hj
      simp (disch := omega) only [eget_eput_ne]
      exact h') (by simp (disch := first | omega | decide | simp only [go_sem]) only [go_sem, e3]) hm1 hml hn.1 hn.2 (by rw [hw]; exact hlt) hpre
   · simp (disch := first | omega | decide | simp only [go_sem]) only [go_sem, a91b0, e0', e3, e9, e13, e14, e15, e16, e17, e18, hml, t2, t3, gs, gk, gr, ls, l1, cb (c1 _), cb (c2 _), hT.prim, primOf, cast_sub hml, hm61, hlm, hlt, hk, sv]
     refine ⟨d, by omega, m + 1, n - ways, by omega, by omega, by omega, by omega, fun j hj => ?_, rfl, rfl, by rw [Nat.add_sub_cancel, hway]; omega, trivial⟩
     have h' := hs j hj
     simp only [not_or, Nat.not_le] at hj
     simp (disch := omega) only [eget_eput_ne]
     exact h'
end Go.Proofs.Tryz
/- nth: the sizes of all arguments. -/
namespace Go.Proofs.Tryz
open Go Go.AE
variable {T : Tbl} (hT : Std T)
variable {s : GSig} {TAB : PV} {i : Nat} {o : GOp} {so ri : List (List Int)} {rest : List PV}
def okSz (o : GOp) (so : List (List Int)) (N k : Nat) (szs : List Int) : Prop := ∀ j, j < k → ∃ m : Nat, szs.getD j 0 = (m : Int) ∧ 1 ≤ m ∧ m ≤ N ∧ 1 ≤ (so.getD (o.args.getD j 0).toNat []).getD m 0
include hT in
theorem nth_b1 (C : NthC s TAB i o so ri rest) {N ks : Nat} {n0 : Int} {szs0 : List Int} {H : List AE.Obj} {ws : List Nat} {e0 : List PV} {Q : AExit → List PV → St → Prop}
 (hN : N < 60) (hn0 : 0 ≤ n0 ∧ n0 ≤ 1099511627776) (hlt0 : n0 < (ri.getD 0 []).getD N 0)
 (hks : H[ks]? = some (.row 1 (szs0.map encI))) (hsl0 : szs0.length = o.args.length)
 (h0 : eget e0 0 = .iptr TAB 0) (h3 : eget e0 3 = .int .i64 n0) (h9 : eget e0 9 = .int .i64 (i : Int)) (h13 : eget e0 13 = .aref ks 1 0 o.args.length o.args.length) (h14 : eget e0 14 = .int .i64 (N : Int)) (h15 : eget e0 15 = .int .i64 1)
 (h66 : eget e0 66 = .slice 1 (o.args.map encI) .any) (h67 : eget e0 67 = .int .i64 (o.args.length : Int)) (h68 : eget e0 68 = .int .i64 0)
 (hQ : ∀ e' (n' : Int) szs ws', Same (fun j => j = 3 ∨ 14 ≤ j ∧ j ≤ 19 ∨ 68 ≤ j) e0 e' → eget e' 3 = .int .i64 n' → 0 ≤ n' → n' ≤ 1099511627776 → szs.length = o.args.length → okSz o so N o.args.length szs → Fit (nsv o so) o.args.length N (szF szs) → n' = n0 - bsF (nsv o so) (nrv ri) (szF szs) N o.args.length → n' < ahF (nsv o so) (szF szs) o.args.length → (∀ x ∈ ws', x ∈ ws ∨ x = ks) → Q (.exit 2) e' ⟨H.set ks (.row 1 (szs.map encI)), ws', []⟩) :
 wpC T (.loop a91b1) e0 ⟨H, ws, []⟩ Q := by
 have hal := C.al
 have t2 := C.t2
 have hHs : H = H.set ks (.row 1 (szs0.map encI)) := (set_self hks).symm
 have hH0 : (⟨H, ws, []⟩ : St) = ⟨H.set ks (.row 1 (szs0.map encI)), ws, []⟩ := by rw [← hHs]
 rw [hH0]
 refine wpC.loopM (fun d e st => ∃ (k left : Nat) (n ahead : Int) (szs : List Int) (ws' : List Nat), k + d = o.args.length ∧ left ≤ N ∧ (0 ≤ n ∧ n ≤ 1099511627776) ∧ (1 ≤ ahead ∧ ahead ≤ 1099511627776) ∧ n < cap (ahead * (ri.getD k []).getD left 0) ∧ szs.length = o.args.length ∧ okSz o so N k szs ∧ (left = lfF (szF szs) N k ∧ ahead = ahF (nsv o so) (szF szs) k ∧ n = n0 - bsF (nsv o so) (nrv ri) (szF szs) N k ∧ ∀ j, j < k → szF szs j ≤ lfF (szF szs) N j) ∧ (∀ x ∈ ws', x ∈ ws ∨ x = ks) ∧
  Same (fun j => j = 3 ∨ 14 ≤ j ∧ j ≤ 19 ∨ 68 ≤ j) e0 e ∧ eget e 3 = .int .i64 n ∧ eget e 14 = .int .i64 (left : Int) ∧ eget e 15 = .int .i64 ahead ∧ eget e 68 = .int .i64 (k : Int) ∧ st = ⟨H.set ks (.row 1 (szs.map encI)), ws', []⟩) ?_ o.args.length _ _
  ⟨0, N, n0, 1, szs0, ws, by omega, Nat.le_refl _, hn0, by omega, ?_, hsl0, fun j hj => by omega, ⟨rfl, rfl, by simp [bsF], fun j hj => by omega⟩, fun x hx => .inl hx, Same.refl _, h3, h14, h15, h68, rfl⟩
 · rintro d e st ⟨k, left, n, ahead, szs, ws', hd, hleft, hn, hah, hlt, hsl, hok, ⟨hl1, ha1, hn1, hle⟩, hw, hs, e3, e14, e15, e68, rfl⟩
   have e0' := (hs 0 (by omega)).trans h0
   have e9 := (hs 9 (by omega)).trans h9
   have e13 := (hs 13 (by omega)).trans h13
   have e66 := (hs 66 (by omega)).trans h66
   have e67 := (hs 67 (by omega)).trans h67
   by_cases hk : k < o.args.length
   · obtain ⟨ga, gl⟩ := C.args.get hk
     have gaE : (o.args.map encI)[k]? = some (.int .i64 (((o.args.getD k 0).toNat : Nat) : Int)) := by rw [List.getElem?_map, ga]; rfl
     have heq := C.eqn k left hk (by omega)
     generalize ha : (o.args.getD k 0).toNat = a at *
     have hso := (C.okS.get (k := a) (by rw [C.ro]; exact gl)).2
     have hr1 := (C.okR.get (k := k + 1) (by rw [C.rl]; omega)).2
     have gs := get_arr C.okS (k := a) (by rw [C.ro]; exact gl)
     have hsum : n < sumP ahead (so.getD a []) (ri.getD (k + 1) []) left left 1 := by
      have := inner_sumP (ahead := ahead) (p := left) (by omega) hso.nonneg hr1.nonneg left 1 0 (by omega)
      rw [heq] at hlt
      have h00 : cap (ahead * 0) = 0 := by rw [Int.mul_zero]; rfl
      omega
     have hks' : (H.set ks (AE.Obj.row 1 (szs.map encI)))[ks]? = some (.row 1 (szs.map encI)) := get_set hks
     simp (disch := first | omega | decide | simp only [go_sem]) only [go_sem, a91b1, e0', e3, e9, e13, e14, e15, e66, e67, e68, hk, gaE]
     refine nth_b0 hT C (szs := szs) (k := k) (a := a) (left := left) (ks := ks) (ahead := ahead) (n0 := n) hk ga ha gl (by omega) (by omega) hn hsum hks' hsl (by simp (disch := first | omega | decide | simp only [go_sem]) only [go_sem, e0']) (by simp (disch := first | omega | decide | simp only [go_sem]) only [go_sem, e3]) (by simp (disch := first | omega | decide | simp only [go_sem]) only [go_sem, e9]) (by simp (disch := first | omega | decide | simp only [go_sem]) only [go_sem, e13]) (by simp (disch := first | omega | decide | simp only [go_sem]) only [go_sem, e14]) (by simp (disch := first | omega | decide | simp only [go_sem]) only [go_sem, e15]) (by simp (disch := first | omega | decide | simp only [go_sem]) only [go_sem]) (by simp (disch := first | omega | decide | simp only [go_sem]) only [go_sem]) (by simp (disch := first | omega | decide | simp only [go_sem]) only [go_sem]) fun e' m n' hs' e3' hm1 hml hq1 hq2 hlt' hpre => ?_
     have f0 : eget e' 0 = .iptr TAB 0 := (hs' 0 (by omega)).trans (by simp (disch := first | omega | decide | simp only [go_sem]) only [go_sem, e0'])
     have f13 : eget e' 13 = .aref ks 1 0 o.args.length o.args.length := (hs' 13 (by omega)).trans (by simp (disch := first | omega | decide | simp only [go_sem]) only [go_sem, e13])
     have f14 : eget e' 14 = .int .i64 (left : Int) := (hs' 14 (by omega)).trans (by simp (disch := first | omega | decide | simp only [go_sem]) only [go_sem, e14])
     have f15 : eget e' 15 = .int .i64 ahead := (hs' 15 (by omega)).trans (by simp (disch := first | omega | decide | simp only [go_sem]) only [go_sem, e15])
     have f16 : eget e' 16 = .int .i64 (k : Int) := (hs' 16 (by omega)).trans (by simp (disch := first | omega | decide | simp only [go_sem]) only [go_sem])
     have f17 : eget e' 17 = .int .i64 (a : Int) := (hs' 17 (by omega)).trans (by simp (disch := first | omega | decide | simp only [go_sem]) only [go_sem])
     have f68 : eget e' 68 = .int .i64 (k : Int) := (hs' 68 (by omega)).trans (by simp (disch := first | omega | decide | simp only [go_sem]) only [go_sem, e68])
     rw [List.set_set]
     have hks2 : (H.set ks (AE.Obj.row 1 ((szs.set k (m : Int)).map encI)))[ks]? = some (.row 1 ((szs.set k (m : Int)).map encI)) := get_set hks
     have lv := ld_v hks2 (show (szs.set k (m : Int)).length = o.args.length by simpa using hsl) hk
     have gv : (szs.set k (m : Int)).getD k 0 = (m : Int) := by rw [getD_set (by omega), if_pos rfl]
     rw [gv] at lv
     have hm61 : m < 61 := by omega
     have ls := ld_arr hso hm61
     have b2 := (hso.get hm61).2
     have hp1 : 0 ≤ ahead * (so.getD a []).getD m 0 := Int.mul_nonneg (by omega) b2.1
     have c1 := fun h => times_ev hT (h := h) (by omega) hah.2 b2.1 b2.2
     simp only [cap_def] at c1
     have hah' : 1 ≤ cap (ahead * (so.getD a []).getD m 0) := by
      have := cap_nn hp1
      by_cases hz : cap (ahead * (so.getD a []).getD m 0) = 0
      · rw [hz, Int.zero_mul] at hlt'
        have h00 : cap 0 = 0 := rfl
        omega
      · omega
     have hxs : 1 ≤ (so.getD a []).getD m 0 := by
      by_cases hz : (so.getD a []).getD m 0 = 0
      · rw [hz, Int.mul_zero] at hah'
        have h00 : cap 0 = 0 := rfl
        omega
      · omega
     simp (disch := first | omega | decide | simp only [go_sem]) only [go_sem, f0, f13, f14, f15, f16, f17, f68, t2, gs, lv, ls, hm61, hk, cb (c1 _), hT.prim, primOf, cast_sub hml]
     have zk : szF (szs.set k (m : Int)) k = m := by unfold szF; rw [gv]; rfl
     have zc : ∀ j, j < k → szF (szs.set k (m : Int)) j = szF szs j := sz_congr
     have g1 : lfF (szF (szs.set k (m : Int))) N k = left := by rw [lf_congr k zc, hl1]
     have g2 : ahF (nsv o so) (szF (szs.set k (m : Int))) k = ahead := by rw [ah_congr k zc, ha1]
     have g3 : bsF (nsv o so) (nrv ri) (szF (szs.set k (m : Int))) N k = bsF (nsv o so) (nrv ri) (szF szs) N k := bs_congr k zc
     refine ⟨d - 1, by omega, k + 1, left - m, n', cap (ahead * (so.getD a []).getD m 0), szs.set k (m : Int), wadd ks ws', by omega, by omega, ⟨hq1, hq2⟩, ⟨hah', cap_top _⟩, hlt', by simpa using hsl, fun j hj => ?_, ⟨by simp only [lfF, g1, zk], by simp only [ahF, g2, zk, nsv, ha], by simp only [bsF, g1, g2, g3, zk]; omega, fun j hj => ?_⟩, fun x hx => ?_, fun j hj => ?_, e3', rfl, rfl, rfl, rfl⟩
     · by_cases hjk : j = k
       · subst hjk
         exact ⟨m, gv, hm1, by omega, by rw [ha]; exact hxs⟩
       · obtain ⟨m', h1, h2, h3, h4⟩ := hok j (by omega)
         exact ⟨m', by rw [getD_set_ne (by omega)]; exact h1, h2, h3, h4⟩
     · by_cases hjk : j = k
       · subst hjk
         rw [zk, g1]; exact hml
       · rw [zc j (by omega), lf_congr j fun i hi => zc i (by omega)]
         exact hle j (by omega)
     · rcases mem_wadd hx with h | h
       · exact .inr h
       · exact hw x h
     · have h1 := hs j hj
       simp only [not_or, not_and, Nat.not_le] at hj
       have h2 := hs' j (by omega)
       simp (disch := omega) only [eget_eput_ne] at h2 ⊢
       exact h2.trans h1
   · simp (disch := first | omega | decide | simp only [go_sem]) only [go_sem, a91b1, e0', e3, e9, e13, e14, e15, e66, e67, e68, hk]
     have hkl : k = o.args.length := by omega
     have hlast := C.sys.last left
     rw [hkl] at hlt ha1 hl1 hn1
     have hrl : (ri.getD o.args.length []).getD left 0 = if left = 0 then 1 else 0 := hlast
     rw [hrl] at hlt
     have hl0 : left = 0 := by
      by_cases h : left = 0
      · exact h
      · rw [if_neg h, Int.mul_zero] at hlt
        have h00 : cap 0 = 0 := rfl
        omega
     rw [if_pos hl0, Int.mul_one, cap_self hah.2] at hlt
     have F : Fit (nsv o so) o.args.length N (szF szs) := ⟨fun j hj => by
      obtain ⟨m, q1, q2, q3, q4⟩ := hok j (by omega)
      unfold szF; rw [q1]; simpa using q2, fun j hj => hle j (by omega), by rw [← hl1, hl0], fun j hj => by
      obtain ⟨m, q1, q2, q3, q4⟩ := hok j (by omega)
      unfold szF; rw [q1]; exact q4⟩
     refine hQ _ n szs ws' (fun j hj => ?_) (by simp (disch := first | omega | decide | simp only [go_sem]) only [go_sem, e3]) hn.1 hn.2 hsl (by rw [← hkl]; exact hok) F hn1 (by rw [← ha1]; exact hlt) hw
     have h1 := hs j hj
     simp only [not_or, not_and, Nat.not_le] at hj
     simp (disch := omega) only [eget_eput_ne]
     exact h1
 · have h1 := (C.okR.get (k := 0) (by rw [C.rl]; omega)).2.le N
   rw [Int.one_mul]
   unfold cap
   omega
end Go.Proofs.Tryz
/- nth: how many lists there are behind each argument. -/
namespace Go.Proofs.Tryz
open Go Go.AE
variable {T : Tbl} (hT : Std T)
variable {s : GSig} {TAB : PV} {i : Nat} {o : GOp} {so ri : List (List Int)} {rest : List PV}
def okBh (L k : Nat) (bh : List Int) : Prop := ∀ j, k ≤ j → j ≤ L → 1 ≤ bh.getD j 0 ∧ bh.getD j 0 ≤ 1099511627776
def beH (o : GOp) (so : List (List Int)) (szs : List Int) (k : Nat) (bh : List Int) : Prop := ∀ j, k ≤ j → j ≤ o.args.length → bh.getD j 0 = beF (nsv o so) (szF szs) o.args.length (o.args.length - j)
include hT in
theorem nth_b2 (C : NthC s TAB i o so ri rest) {N ks kb ko : Nat} {szs bh0 : List Int} {H : List AE.Obj} {ws : List Nat} {e0 : List PV} {Q : AExit → List PV → St → Prop}
 (hN : N < 60) (hok : okSz o so N o.args.length szs) (hb0 : okBh o.args.length o.args.length bh0) (hbe0 : beH o so szs o.args.length bh0)
 (hks : H[ks]? = some (.row 1 (szs.map encI))) (hsl : szs.length = o.args.length) (hkb : H[kb]? = some (.row 1 (bh0.map encI))) (hbl0 : bh0.length = o.args.length + 1) (hko : H[ko]? = some (.row 3 [encOp o])) (hne : kb ≠ ks ∧ kb ≠ ko)
 (h0 : eget e0 0 = .iptr TAB 0) (h10 : eget e0 10 = .ptr ko 0 0 1) (h13 : eget e0 13 = .aref ks 1 0 o.args.length o.args.length) (h20 : eget e0 20 = .aref kb 1 0 (o.args.length + 1) (o.args.length + 1)) (h21 : eget e0 21 = .int .i64 ((o.args.length : Int) - 1))
 (hQ : ∀ e' bh ws', Same (fun j => j = 21 ∨ 150 ≤ j) e0 e' → bh.length = o.args.length + 1 → okBh o.args.length 0 bh → beH o so szs 0 bh → (∀ x ∈ ws', x ∈ ws ∨ x = kb) → Q (.exit 6) e' ⟨H.set kb (.row 1 (bh.map encI)), ws', []⟩) :
 wpC T (.loop a91b2) e0 ⟨H, ws, []⟩ Q := by
 have hal := C.al
 have t2 := C.t2
 have hH0 : (⟨H, ws, []⟩ : St) = ⟨H.set kb (.row 1 (bh0.map encI)), ws, []⟩ := by rw [set_self hkb]
 rw [hH0]
 refine wpC.loopM (fun d e st => ∃ (bh : List Int) (ws' : List Nat), d ≤ o.args.length ∧ bh.length = o.args.length + 1 ∧ okBh o.args.length d bh ∧ beH o so szs d bh ∧ (∀ x ∈ ws', x ∈ ws ∨ x = kb) ∧
  Same (fun j => j = 21 ∨ 150 ≤ j) e0 e ∧ eget e 21 = .int .i64 ((d : Int) - 1) ∧ st = ⟨H.set kb (.row 1 (bh.map encI)), ws', []⟩) ?_ o.args.length _ _
  ⟨bh0, ws, Nat.le_refl _, hbl0, hb0, hbe0, fun x hx => .inl hx, Same.refl _, h21, rfl⟩
 rintro d e st ⟨bh, ws', hd, hbl, hb, hbe, hw, hs, e21, rfl⟩
 have e0' := (hs 0 (by omega)).trans h0
 have e10 := (hs 10 (by omega)).trans h10
 have e13 := (hs 13 (by omega)).trans h13
 have e20 := (hs 20 (by omega)).trans h20
 cases d with
 | zero =>
   have c : ¬ ((0 : Int) ≤ ((0 : Nat) : Int) - 1) := by omega
   simp (disch := first | omega | decide | simp only [go_sem]) only [go_sem, a91b2, e0', e10, e13, e20, e21, c]
   refine hQ _ bh ws' (fun j hj => ?_) hbl hb hbe hw
   have h1 := hs j hj
   simp only [not_or, Nat.not_le] at hj
   simp (disch := omega) only [eget_eput_ne]
   exact h1
 | succ k =>
   have c : (0 : Int) ≤ (k : Int) := by omega
   have hk : k < o.args.length := by omega
   obtain ⟨ga, gl⟩ := C.args.get hk
   have gaE : (o.args.map encI)[k]? = some (.int .i64 (((o.args.getD k 0).toNat : Nat) : Int)) := by rw [List.getElem?_map, ga]; rfl
   obtain ⟨m, hm, hm1, hmN, hmp⟩ := hok k hk
   generalize ha : (o.args.getD k 0).toNat = a at *
   have hso := (C.okS.get (k := a) (by rw [C.ro]; exact gl)).2
   have gs := get_arr C.okS (k := a) (by rw [C.ro]; exact gl)
   have hm61 : m < 61 := by omega
   have ls := ld_arr hso hm61
   have b2 := (hso.get hm61).2
   have hks' : (H.set kb (AE.Obj.row 1 (bh.map encI)))[ks]? = some (.row 1 (szs.map encI)) := get_set_ne hks hne.1
   have hko' : (H.set kb (AE.Obj.row 1 (bh.map encI)))[ko]? = some (.row 3 [encOp o]) := get_set_ne hko hne.2
   have hkb' : (H.set kb (AE.Obj.row 1 (bh.map encI)))[kb]? = some (.row 1 (bh.map encI)) := get_set hkb
   have lo : loadAt false 1 (.ptr ko 0 1 1) (H.set kb (AE.Obj.row 1 (bh.map encI))) = some (.slice 1 (o.args.map encI) .any) := by rw [ld_at hko']; rfl
   have lm := ld_v hks' hsl hk
   rw [hm] at lm
   have lb := ld_v hkb' hbl (show k + 1 < o.args.length + 1 by omega)
   have hbb := hb (k + 1) (by omega) (by omega)
   have hbf := hbe (k + 1) (by omega) (by omega)
   generalize hbv : bh.getD (k + 1) 0 = bv at *
   generalize hxv : (so.getD a []).getD m 0 = xv at *
   have hp1 : 1 ≤ bv * xv := by
    have : 1 * 1 ≤ bv * xv := Int.mul_le_mul hbb.1 hmp (by omega) (by omega)
    omega
   have c1 := fun h => times_ev hT (h := h) (by omega) hbb.2 b2.1 b2.2
   simp only [cap_def] at c1
   have sv := fun ws => st_v (ws := ws) (ups := []) (v := cap (bv * xv)) hkb' hbl (show k < o.args.length + 1 by omega)
   rw [List.set_set] at sv
   have hk1 : k < o.args.length + 1 := by omega
   have hk2 : k + 1 < o.args.length + 1 := by omega
   simp (disch := first | omega | decide | simp only [go_sem]) only [go_sem, a91b2, e0', e10, e13, e20, e21, c, gaE, t2, gs, lm, lb, lo, ls, hm61, hk, hk1, hk2, cb (c1 _), hT.prim, primOf, sv]
   refine ⟨k, by omega, bh.set k (cap (bv * xv)), _, by omega, by simpa using hbl, fun j h1 h2 => ?_, fun j h1 h2 => ?_, fun x hx => ?_, fun j hj => ?_, rfl, rfl⟩
   · by_cases hjk : j = k
     · subst hjk
       rw [getD_set (by omega), if_pos rfl]
       exact ⟨by unfold cap; omega, cap_top _⟩
     · rw [getD_set_ne (by omega)]
       exact hb j (by omega) h2
   · by_cases hjk : j = k
     · subst hjk
       rw [getD_set (by omega), if_pos rfl]
       obtain ⟨i, hi⟩ : ∃ i, o.args.length - j = i + 1 := ⟨o.args.length - j - 1, by omega⟩
       have z : szF szs j = m := by unfold szF; rw [hm]; rfl
       rw [show o.args.length - (j + 1) = i by omega] at hbf
       rw [hi]
       simp only [beF]
       rw [← hbf, show o.args.length - 1 - i = j by omega, z]
       simp only [nsv, ha, hxv]
     · rw [getD_set_ne (by omega)]
       exact hbe j (by omega) h2
   · rcases mem_wadd hx with h | h
     · exact .inr h
     · exact hw x h
   · have h1 := hs j hj
     simp only [not_or, Nat.not_le] at hj
     simp (disch := omega) only [eget_eput_ne]
     exact h1
end Go.Proofs.Tryz
/- nth: the arguments. -/
namespace Go.Proofs.Tryz
open Go Go.AE
variable {T : Tbl} (hT : Std T)
variable {s : GSig} {TAB : PV} {i : Nat} {o : GOp} {so ri : List (List Int)} {rest : List PV}
def AppL (H : List AE.Obj) (v : PV) (es : List PV) (lo : Nat) : Prop := (es = [] ∧ v = .slice 0 [] .nil) ∨ ∃ kt, v = .slice 3 es (.tok kt) ∧ H[kt]? = some (.tok 3 es.length) ∧ lo ≤ kt
theorem AppL.set {H : List AE.Obj} {v : PV} {es : List PV} {lo k : Nat} {sz : Nat} {r r' : List PV} (A : AppL H v es lo) (hk : H[k]? = some (.row sz r)) : AppL (H.set k (.row sz r')) v es lo := by
 rcases A with h | ⟨kt, h1, h2, h3⟩
 · exact .inl h
 · refine .inr ⟨kt, h1, get_set_ne h2 ?_, h3⟩
   rintro rfl
   rw [hk] at h2
   cases h2
theorem append_one {H : List AE.Obj} {v p : PV} {es : List PV} {lo : Nat} (A : AppL H v es lo) (hp : IsT p) (hl : es.length < 100000) (hlo : lo ≤ H.length) :
 ∃ v' H' ws', (∀ ups, appendop 3 40 v (.slice 3 [p] .lit) ⟨H, [], ups⟩ = some (v', ⟨H', ws', ups⟩)) ∧ AppL H' v' (es ++ [p]) lo ∧ (∃ kt, v' = .slice 3 (es ++ [p]) (.tok kt)) ∧ (∀ (j sz : Nat) (r : List PV), H[j]? = some (.row sz r) → H'[j]? = some (.row sz r)) ∧ Low lo H H' ∧ ∀ x ∈ ws', lo ≤ x := by
 obtain ⟨c1, c2, c3, c4⟩ := hp.cells
 have hroom : (es.length + 1) * 40 ≤ room ∧ es.length + 1 ≤ room := by
  have : 10000000 ≤ room := by decide
  constructor <;> omega
 rcases A with ⟨rfl, rfl⟩ | ⟨kt, rfl, h2, h3⟩
 · simp at hroom
   refine ⟨.slice 3 [p] (.tok H.length), H ++ [.tok 3 1], [], fun ups => ?_, .inr ⟨H.length, rfl, by simp, hlo⟩, ⟨_, rfl⟩, fun j sz r hj => keepL hj, (Low.refl _ _).push hlo, by simp⟩
   simp [appendop, elems, c2, hroom, alloc]
 · refine ⟨.slice 3 (es ++ [p]) (.tok kt), H.set kt (.tok 3 (es.length + 1)), wadd kt [], fun ups => ?_, .inr ⟨kt, rfl, by rw [get_set h2]; simp, h3⟩, ⟨_, rfl⟩, fun j sz r hj => get_set_ne hj ?_, .set h3, wadd_low h3 (by simp)⟩
   · simp [appendop, elems, c2, hroom, h2, wrote_none]
   · rintro rfl
     rw [h2] at hj
     cases hj
theorem st_f2 {H : List AE.Obj} {ws : List Nat} {ups : List (Nat × Nat)} {kx kt : Nat} {a b v : PV} {es : List PV} (hk : H[kx]? = some (.row 3 [.agg [a, b, v]])) :
 ∃ ups', storeAt 1 (.ptr kx 0 2 1) (.slice 3 es (.tok kt)) ⟨H, ws, ups⟩ = some ⟨H.set kx (.row 3 [.agg [a, b, .slice 3 es (.tok kt)]]), wadd kx ws, ups'⟩ ∧ ∀ x ∈ ups', x ∈ ups ∨ x.1 = kx := by
 have hu : upd (.agg [a, b, v]) 2 (.slice 3 es (.tok kt)) = some (.agg [a, b, .slice 3 es (.tok kt)]) := rfl
 have h1 : storeAt 1 (.ptr kx 0 2 1) (.slice 3 es (.tok kt)) ⟨H, ws, ups⟩ = some (wrote kx (.row 3 [.agg [a, b, .slice 3 es (.tok kt)]]) (PV.slice 3 es (.tok kt)).top ⟨H, ws, ups⟩) := by
  simp only [storeAt, hk, List.length_cons, List.length_nil, PV.cells, List.all_cons, List.all_nil, PV.isCell, Bool.and_self, and_self, if_true, List.getElem?_cons_zero, hu, Option.map, List.set_cons_zero]
 rw [h1]
 cases (PV.slice 3 es (.tok kt)).top with
 | none => exact ⟨ups, by rw [wrote_none], fun x hx => .inl hx⟩
 | some j =>
   refine ⟨_, by rw [wrote_some], fun x hx => ?_⟩
   split at hx
   · rcases List.mem_cons.1 hx with rfl | h
     · exact .inr rfl
     · exact .inl h
   · exact .inl hx
structure NthX (s : GSig) (o : GOp) (so : List (List Int)) (szs : List Int) (n0 n : Int) (es : List PV) (xs : List Tm) : Prop where
 len : es.length = xs.length
 enc : ∀ (j : Nat) (x : Tm) (p : PV), xs[j]? = some x → es[j]? = some p → Enc x p
 wt : ∀ (j : Nat) (x : Tm), xs[j]? = some x → WT s x (o.args.getD j 0) ∧ x.nodes = szF szs j
 num : n0 = upF (nsv o so) (szF szs) (fun j => (numL s xs).getD j 0) o.args.length xs.length + n
theorem NthX.snoc {s : GSig} {o : GOp} {so : List (List Int)} {szs : List Int} {n0 n n' q b : Int} {es : List PV} {xs : List Tm} {x : Tm} {p : PV} (X : NthX s o so szs n0 n es xs) (hx : Enc x p) (hw : WT s x (o.args.getD xs.length 0)) (hz : x.nodes = szF szs xs.length) (hq : x.num s = q) (hb : b = beF (nsv o so) (szF szs) o.args.length (o.args.length - 1 - xs.length)) (hn : n = q * b + n') : NthX s o so szs n0 n' (es ++ [p]) (xs ++ [x]) := by
 have hl := X.len
 refine ⟨by simp [hl], fun j y r h1 h2 => ?_, fun j y h1 => ?_, ?_⟩
 · rcases Nat.lt_trichotomy j xs.length with h | h | h
   · rw [List.getElem?_append_left h] at h1
     rw [List.getElem?_append_left (by omega)] at h2
     exact X.enc j y r h1 h2
   · subst h
     rw [← hl] at h2
     simp at h1 h2
     subst h1 h2
     exact hx
   · rw [List.getElem?_eq_none (by simp; omega)] at h1
     cases h1
 · rcases Nat.lt_trichotomy j xs.length with h | h | h
   · rw [List.getElem?_append_left h] at h1
     exact X.wt j y h1
   · subst h
     simp at h1
     subst h1
     exact ⟨hw, hz⟩
   · rw [List.getElem?_eq_none (by simp; omega)] at h1
     cases h1
 · have e : ∀ j, j < xs.length → (numL s xs).getD j 0 = (numL s (xs ++ [x])).getD j 0 := fun j hj => by
    rw [numL_get (getD_mem hj), numL_get (show (xs ++ [x])[j]? = some xs[j] by rw [List.getElem?_append_left hj]; exact getD_mem hj)]
   have e2 : (numL s (xs ++ [x])).getD xs.length 0 = q := by rw [numL_get (show (xs ++ [x])[xs.length]? = some x by simp), hq]
   have h0 := X.num
   rw [up_congr (nm' := fun j => (numL s (xs ++ [x])).getD j 0) xs.length e] at h0
   rw [List.length_append, List.length_singleton]
   simp only [upF, e2]
   rw [← hb]
   omega
def NthIH (T : Tbl) (s : GSig) (TAB : PV) (N : Nat) : Prop := ∀ (a m : Nat) (n : Int) (h : List AE.Obj), a < s.sorts.length → 1 ≤ m → m ≤ N → 0 ≤ n → n < cntOf s a m → ∃ p, Ev T 91 [.iptr TAB 0, .int .i64 (a : Int), .int .i64 (m : Int), .int .i64 n] h (.val p, ⟨h, [], []⟩) ∧ Nth91 s a m n p
include hT in
theorem nth_b3 (C : NthC s TAB i o so ri rest) {N ks kb kx lo : Nat} {n0 : Int} {szs bh : List Int} {h0 H0 : List AE.Obj} {ws0 : List Nat} {e0 : List PV} {Q : AExit → List PV → St → Prop} (h91 : T.sp 91 = none) (IH : NthIH T s TAB N) (hN : N < 60) (hso : so = (tabOf s).1) (hbe : beH o so szs 0 bh)
 (hok : okSz o so N o.args.length szs) (hb : okBh o.args.length 0 bh) (hn0 : 0 ≤ n0 ∧ n0 < beF (nsv o so) (szF szs) o.args.length o.args.length)
 (hks : H0[ks]? = some (.row 1 (szs.map encI))) (hsl : szs.length = o.args.length) (hkb : H0[kb]? = some (.row 1 (bh.map encI))) (hbl : bh.length = o.args.length + 1) (hkx : H0[kx]? = some (.row 3 [.agg [.int .i64 2, .int .i64 (i : Int), .slice 0 [] .nil]]))
 (hne : kx ≠ ks ∧ kx ≠ kb) (low0 : Low lo h0 H0) (hlo : lo ≤ h0.length ∧ lo ≤ kx) (hw0 : ∀ x ∈ ws0, lo ≤ x)
 (f0 : eget e0 0 = .iptr TAB 0) (f3 : eget e0 3 = .int .i64 n0) (f12 : eget e0 12 = .ptr kx 0 0 1) (f13 : eget e0 13 = .aref ks 1 0 o.args.length o.args.length) (f20 : eget e0 20 = .aref kb 1 0 (o.args.length + 1) (o.args.length + 1))
 (f180 : eget e0 180 = .slice 1 (o.args.map encI) .any) (f181 : eget e0 181 = .int .i64 (o.args.length : Int)) (f182 : eget e0 182 = .int .i64 0)
 (hQ : ∀ e' v es H' ws' ups', Same (fun j => j = 3 ∨ j = 22 ∨ j = 23 ∨ 182 ≤ j) e0 e' → es.length < 1000 → (∀ x, x ∈ es → IsT x) → (∃ xs, NthX s o so szs n0 0 es xs ∧ xs.length = o.args.length) → AppL H' v es lo → H'[kx]? = some (.row 3 [.agg [.int .i64 2, .int .i64 (i : Int), v]]) → (∀ (j sz : Nat) (r : List PV), j ≠ kx → H0[j]? = some (.row sz r) → H'[j]? = some (.row sz r)) → Low lo h0 H' → (∀ x ∈ ws', lo ≤ x) → (∀ x ∈ ups', lo ≤ x.1) → Q (.exit 8) e' ⟨H', ws', ups'⟩) :
 wpC T (.loop a91b3) e0 ⟨H0, ws0, []⟩ Q := by
 have hal := C.al
 refine wpC.loopM (fun d e st => ∃ (k : Nat) (n : Int) (v : PV) (es : List PV) (H : List AE.Obj) (ws : List Nat) (ups : List (Nat × Nat)), k + d = o.args.length ∧ (0 ≤ n ∧ n < beF (nsv o so) (szF szs) o.args.length (o.args.length - k)) ∧ es.length = k ∧ (∀ x, x ∈ es → IsT x) ∧ (∃ xs, NthX s o so szs n0 n es xs) ∧ AppL H v es lo ∧ H[kx]? = some (.row 3 [.agg [.int .i64 2, .int .i64 (i : Int), v]]) ∧ (∀ (j sz : Nat) (r : List PV), j ≠ kx → H0[j]? = some (.row sz r) → H[j]? = some (.row sz r)) ∧ Low lo h0 H ∧ (∀ x ∈ ws, lo ≤ x) ∧ (∀ x ∈ ups, lo ≤ x.1) ∧
  Same (fun j => j = 3 ∨ j = 22 ∨ j = 23 ∨ 182 ≤ j) e0 e ∧ eget e 3 = .int .i64 n ∧ eget e 182 = .int .i64 (k : Int) ∧ st = ⟨H, ws, ups⟩) ?_ o.args.length _ _
  ⟨0, n0, _, [], H0, ws0, [], by omega, hn0, rfl, by simp, ⟨[], rfl, by simp, by simp, by simp [upF]⟩, .inl ⟨rfl, rfl⟩, hkx, fun _ _ _ _ h => h, low0, hw0, by simp, Same.refl _, f3, f182, rfl⟩
 rintro d e st ⟨k, n, v, es, H, ws, ups, hd, hn, hel, hes, ⟨xs, X⟩, A, hkx, keep, low, hw, hu, hs, e3, e182, rfl⟩
 have e0' := (hs 0 (by omega)).trans f0
 have e12 := (hs 12 (by omega)).trans f12
 have e13 := (hs 13 (by omega)).trans f13
 have e20 := (hs 20 (by omega)).trans f20
 have e180 := (hs 180 (by omega)).trans f180
 have e181 := (hs 181 (by omega)).trans f181
 by_cases hk : k < o.args.length
 · obtain ⟨ga, gl⟩ := C.args.get hk
   have gaE : (o.args.map encI)[k]? = some (.int .i64 (((o.args.getD k 0).toNat : Nat) : Int)) := by rw [List.getElem?_map, ga]; rfl
   obtain ⟨m, hm, hm1, hmN, hmp⟩ := hok k hk
   generalize ha : (o.args.getD k 0).toNat = a at *
   have lm := ld_v (keep _ _ _ (Ne.symm hne.1) hks) hsl hk
   rw [hm] at lm
   have lb := ld_v (keep _ _ _ (Ne.symm hne.2) hkb) hbl (show k + 1 < o.args.length + 1 by omega)
   have hbb := hb (k + 1) (by omega) (by omega)
   have hbf := hbe (k + 1) (by omega) (by omega)
   have hxl : xs.length = k := by rw [← X.len]; exact hel
   have hzm : szF szs k = m := by unfold szF; rw [hm]; rfl
   have hnb := hn.2
   rw [show o.args.length - k = (o.args.length - (k + 1)) + 1 by omega] at hnb
   simp only [beF] at hnb
   rw [← hbf, show o.args.length - 1 - (o.args.length - (k + 1)) = k by omega, hzm] at hnb
   simp only [nsv, ha] at hnb
   have hnT : n ≤ 1099511627776 := by have := cap_le_top (bh.getD (k + 1) 0 * (so.getD a []).getD m 0); omega
   generalize hbv : bh.getD (k + 1) 0 = bv at *
   have hq : n.tdiv bv = n / bv := Int.tdiv_eq_ediv_of_nonneg hn.1
   have hq0 : 0 ≤ n.tdiv bv := by rw [hq]; exact Int.ediv_nonneg hn.1 (by omega)
   have hq1 : n.tdiv bv ≤ n := by rw [hq]; exact Int.ediv_le_self _ hn.1
   have hr : n.tmod bv = n % bv := Int.tmod_eq_emod_of_nonneg hn.1
   have hr0 : 0 ≤ n.tmod bv := by rw [hr]; exact Int.emod_nonneg _ (by omega)
   have hr1 : n.tmod bv ≤ n := by
    have h1 := Int.emod_add_mul_ediv n bv
    have h2 : 0 ≤ bv * (n / bv) := Int.mul_nonneg (by omega) (by rw [← hq]; exact hq0)
    omega
   have hb0 : ¬ bv = 0 := by omega
   have hcnt : cntOf s a m = (so.getD a []).getD m 0 := by rw [hso]; rfl
   have hql : n.tdiv bv < cntOf s a m := by
    rw [hq, hcnt]
    refine Int.ediv_lt_of_lt_mul (by omega) ?_
    have h1 := cap_le (bv * (so.getD a []).getD m 0)
    have h2 : n < bv * (so.getD a []).getD m 0 := by omega
    rw [Int.mul_comm]
    exact h2
   have hrl : n.tmod bv < bv := by rw [hr]; exact Int.emod_lt_of_pos _ (by omega)
   obtain ⟨p, hp, x, hx, hxw, hxn, hxq⟩ := IH a m (n.tdiv bv) H gl hm1 hmN hq0 hql
   have tp : IsT p := hx.isT (by omega)
   have hga : o.args.getD k 0 = (a : Int) := by rw [List.getD_eq_getElem?_getD, ga]; rfl
   have hnn : n = n.tdiv bv * bv + n.tmod bv := by
    have h1 := Int.emod_add_mul_ediv n bv
    rw [hq, hr, Int.mul_comm]
    omega
   have X' : NthX s o so szs n0 (n.tmod bv) (es ++ [p]) (xs ++ [x]) := X.snoc (q := n.tdiv bv) (b := bv) hx (by rw [hxl, hga]; exact hxw) (by rw [hxl, hzm]; exact hxn) hxq (by rw [hbf, hxl]; congr 1; omega) hnn
   obtain ⟨v', H', ws', ap, A', ⟨kt, hv'⟩, keep', low', hw'⟩ := append_one A tp (by omega) (by have := low.len; omega)
   have hkx' := keep' _ _ _ hkx
   have lv : loadAt false 1 (.ptr kx 0 2 1) H = some v := by rw [ld_at hkx]; rfl
   have fe : fillE 3 (List.replicate 1 (.agg [(.int .i64 0), (.int .i64 0), (.slice 0 [] .nil)])) [(0, p)] = some [p] := by
    obtain ⟨c1, c2, c3, c4⟩ := tp.cells
    simp [fillE, c1, c3]
   subst hv'
   obtain ⟨ups', sv, hups⟩ := st_f2 (ws := []) (ups := ups) (kt := kt) (es := es ++ [p]) hkx'
   have hk1 : k < o.args.length + 1 := by omega
   have hk2 : k + 1 < o.args.length + 1 := by omega
   have lb' : loadAt false 1 (.ptr kb (k + 1) 0 (o.args.length + 1)) (H'.set kx (.row 3 [.agg [.int .i64 2, .int .i64 (i : Int), .slice 3 (es ++ [p]) (.tok kt)]])) = some (.int .i64 bv) := by
    have := ld_v (get_set_ne (o' := .row 3 [.agg [.int .i64 2, .int .i64 (i : Int), .slice 3 (es ++ [p]) (.tok kt)]]) (keep' _ _ _ (keep _ _ _ (Ne.symm hne.2) hkb)) hne.2) hbl hk2
    rw [hbv] at this
    exact this
   simp (disch := first | omega | decide | simp only [go_sem]) only [go_sem, a91b3, e0', e3, e12, e13, e20, e180, e181, e182, hk, gaE, lm, lb, lv, hk1, hk2, hb0, cb hp, hT.prim, primOf, fe, ap, sv, lb']
   refine ⟨d - 1, by omega, k + 1, n.tmod bv, .slice 3 (es ++ [p]) (.tok kt), es ++ [p], _, _, _, by omega, ⟨hr0, by rw [← hbf]; exact hrl⟩, by simp; omega, fun x hx => ?_, ⟨_, X'⟩, A'.set hkx', get_set hkx', fun j sz r hj h => get_set_ne (keep' _ _ _ (keep _ _ _ hj h)) (Ne.symm hj), (low.trans low').trans (.set hlo.2), fun x hx => ?_, fun x hx => ?_, fun j hj => ?_, rfl, rfl, rfl⟩
   · rcases List.mem_append.1 hx with h | h
     · exact hes x h
     · rw [List.mem_singleton.1 h]; exact tp
   · rcases mem_wall hx with h | h
     · rcases mem_wadd h with h | h
       · rw [h]; exact hlo.2
       · cases h
     · rcases mem_wall h with h | h
       · exact hw' x h
       · exact hw x h
   · rcases hups x hx with h | h
     · exact hu x h
     · rw [h]; exact hlo.2
   · have h1 := hs j hj
     simp only [not_or, Nat.not_le] at hj
     simp (disch := omega) only [eget_eput_ne]
     exact h1
 · simp (disch := first | omega | decide | simp only [go_sem]) only [go_sem, a91b3, e0', e3, e12, e13, e20, e180, e181, e182, hk]
   have hn0' : n = 0 := by
    have h := hn.2
    rw [show o.args.length - k = 0 by omega] at h
    simp only [beF] at h
    omega
   subst hn0'
   refine hQ _ v es H ws ups (fun j hj => ?_) (by omega) hes ⟨xs, X, by rw [← X.len]; omega⟩ A hkx keep low hw hu
   have h1 := hs j hj
   simp only [not_or, Nat.not_le] at hj
   simp (disch := omega) only [eget_eput_ne]
   exact h1
end Go.Proofs.Tryz
/- nth: total; its result is a term. -/
namespace Go.Proofs.Tryz
open Go Go.AE
variable {T : Tbl} (hT : Std T)
variable {s : GSig} {TAB : PV} {i : Nat} {o : GOp} {so ri : List (List Int)} {rest : List PV}
@[go_sem] theorem idx_slice0 {sz sz' : Nat} {es : List PV} {m : SM} {k : IntKind} : idxaddr sz (.slice sz' es m) (.int k 0) = if sz' = sz then (es[0]?).map fun c => .iptr c 0 else none := idx_slice (n := 0)
theorem tidy_ups {h H : List AE.Obj} {v : PV} {ws : List Nat} {ups : List (Nat × Nat)} (hp : v.pure = true) (L : Low h.length h H) (hw : ∀ k ∈ ws, h.length ≤ k) (hu : ∀ x ∈ ups, h.length ≤ x.1) : tidy 0 h.length (.val v) ⟨H, ws, ups⟩ = (.val v.weak, ⟨h, [], []⟩) := by
 have hb : below h.length ws = [] := List.filter_eq_nil_iff.2 fun k hk => by have := hw k hk; simp; omega
 have hua : (ups.any fun (k, j) => k < h.length && h.length ≤ j) = false := by
  rw [List.any_eq_false]
  rintro ⟨k, j⟩ hx
  have := hu _ hx
  simp at this ⊢
  omega
 have huf : ups.filter (fun (k, _) => k < h.length) = [] := List.filter_eq_nil_iff.2 fun x hx => by have := hu x hx; simp; omega
 have ht : H.take h.length = h := by rw [L.take]; simp
 have hf : frz H h.length 64 v = some v.weak := frz_pure hp
 unfold tidy
 rw [if_neg (by decide), if_neg (by simpa using hua)]
 simp only [OR.v, hf, hb, huf, ht, OR.put]
 rfl
theorem st_k3 {H : List AE.Obj} {ws : List Nat} {ups : List (Nat × Nat)} {k sz : Nat} {a b c : PV} {x y : Int} {es : List PV} {m : SM} (hk : H[k]? = some (.row 3 [.agg [a, b, c]])) :
 ∃ ups', storeAt 3 (.ptr k 0 0 1) (.agg [.int .i64 x, .int .i64 y, .slice sz es m]) ⟨H, ws, ups⟩ = some ⟨H.set k (.row 3 [.agg [.int .i64 x, .int .i64 y, .slice sz es m]]), wadd k ws, ups'⟩ ∧ ∀ x ∈ ups', x ∈ ups ∨ x.1 = k := by
 have hu : upd (.agg [a, b, c]) 0 (.agg [.int .i64 x, .int .i64 y, .slice sz es m]) = some (.agg [.int .i64 x, .int .i64 y, .slice sz es m]) := rfl
 have h1 : storeAt 3 (.ptr k 0 0 1) (.agg [.int .i64 x, .int .i64 y, .slice sz es m]) ⟨H, ws, ups⟩ = some (wrote k (.row 3 [.agg [.int .i64 x, .int .i64 y, .slice sz es m]]) (PV.agg [.int .i64 x, .int .i64 y, .slice sz es m]).top ⟨H, ws, ups⟩) := by
  simp only [storeAt, hk, List.length_cons, List.length_nil, PV.cells, List.all_cons, List.all_nil, PV.isCell, Bool.and_self, and_self, if_true, List.getElem?_cons_zero, hu, Option.map, List.set_cons_zero]
 rw [h1]
 cases (PV.agg [.int .i64 x, .int .i64 y, .slice sz es m]).top with
 | none => exact ⟨ups, by rw [wrote_none], fun x hx => .inl hx⟩
 | some j =>
   refine ⟨_, by rw [wrote_some], fun x hx => ?_⟩
   split at hx
   · rcases List.mem_cons.1 hx with rfl | h
     · exact .inr rfl
     · exact .inl h
   · exact .inl hx
theorem AppL.slice {H : List AE.Obj} {v : PV} {es : List PV} {lo : Nat} (A : AppL H v es lo) : ∃ sz m, v = .slice sz es m ∧ (es = [] ∨ sz = 3) := by
 rcases A with ⟨rfl, rfl⟩ | ⟨kt, rfl, _, _⟩
 · exact ⟨0, .nil, rfl, .inl rfl⟩
 · exact ⟨3, _, rfl, .inr rfl⟩
theorem weaks_terms : ∀ {es : List PV}, (∀ x, x ∈ es → IsT x) → pures es = true ∧ weaks es = es
 | [], _ => ⟨rfl, rfl⟩
 | x :: es, h => by
   obtain ⟨a, b⟩ := (h x (by simp)).pureW
   obtain ⟨c, d⟩ := weaks_terms (es := es) fun y hy => h y (by simp [hy])
   simp [pures, weaks, a, b, c, d]
theorem nth_end {s : GSig} {i : Nat} {o : GOp} {N a sz : Nat} {n n' n0 : Int} {szs : List Int} {es : List PV} {xs : List Tm} (ho : s.ops[i]? = some o) (hres : o.res = (a : Int)) (F : Fit (nsv o (tabOf s).1) o.args.length N (szF szs)) (X : NthX s o (tabOf s).1 szs n' 0 es xs) (hxl : xs.length = o.args.length)
 (hn' : n' = n - bsF (nsv o (tabOf s).1) (nrv ((tabOf s).2.getD i [])) (szF szs) N o.args.length) (hn : n = n0 - aT s.ops (tabOf s) (a : Int) N i) (h0 : n0 ≤ 1099511627776) (hsz : es = [] ∨ sz = 3) : Nth91 s a (N + 1) n0 (.agg [.int .i64 2, .int .i64 (i : Int), .slice sz es .any]) := by
 have hl := lf_sum hxl (fun j x h => (X.wt j x h).2) F.le o.args.length (Nat.le_refl _)
 rw [F.all, ← hxl, List.take_length] at hl
 have hz : ∀ k, k < o.args.length → (fun k => (xs.map Tm.nodes).getD k 0) k = szF szs k := fun k hk => by
  have hg := getD_mem (show k < xs.length by omega)
  have := (X.wt k _ hg).2
  simp only [szs_get hg, this]
 have hN : nodesL xs = N := by omega
 have hX := X.num
 rw [hxl, up_all] at hX
 refine ⟨.mk 2 i xs, .mk 2 i xs sz es hsz X.len X.enc, ⟨rfl, by omega, o, by simpa using ho, hres, WTs_mk hxl fun j x h => (X.wt j x h).1⟩, by simp only [Tm.nodes]; omega, ?_⟩
 have e1 : bsF (svOf s o) (rvOf s i) (fun k => (xs.map Tm.nodes).getD k 0) N o.args.length = bsF (nsv o (tabOf s).1) (nrv ((tabOf s).2.getD i [])) (szF szs) N o.args.length := bs_congr _ hz
 have e2 : dnF (svOf s o) (fun k => (xs.map Tm.nodes).getD k 0) (fun k => (numL s xs).getD k 0) o.args.length o.args.length = dnF (nsv o (tabOf s).1) (szF szs) (fun k => (numL s xs).getD k 0) o.args.length o.args.length := dn_congr hz _ (Nat.le_refl _)
 simp only [Tm.num, Int.toNat_natCast, ho]
 rw [hN, hres, e1, e2, cap_self (by omega)]
 omega
include hT in
theorem nth_step (hs : GOk s) (h91 : T.sp 91 = none) {N : Nat} (hN : N < 60)
 (CC : ∀ i o, s.ops[i]? = some o → NthC s TAB i o so ((tabOf s).2.getD i []) rest) (t1 : sub false 1 TAB 1 = some (.slice 3 (s.ops.map encOp) .any)) (hso : so = (tabOf s).1) (IH : NthIH T s TAB N) (a : Nat) (n0 : Int) (h : List AE.Obj) (ha : a < s.sorts.length) (hn0 : 0 ≤ n0 ∧ n0 < cntOf s a (N + 1)) :
 ∃ p, Ev T 91 [.iptr TAB 0, .int .i64 (a : Int), .int .i64 ((N + 1 : Nat) : Int), .int .i64 n0] h (.val p, ⟨h, [], []⟩) ∧ Nth91 s a (N + 1) n0 p := by
 have hcnt : cntOf s a (N + 1) = cap (aT s.ops (tabOf s) (a : Int) N s.ops.length) := tabOf_cnt hs.ops ha hN
 have h0T : n0 ≤ 1099511627776 := by have := cap_le_top (aT s.ops (tabOf s) (a : Int) N s.ops.length); omega
 subst hso
 refine Ev.walkP h91 ((hT.fn _).trans fn91) (hT.mode _) rfl ?_
 have hnO := hs.nO
 generalize hH0 : h ++ [AE.Obj.row 3 [PV.agg [.int .i64 0, .int .i64 0, .slice 0 [] .nil]]] = H0
 have k0 : H0[h.length]? = some (.row 3 [PV.agg [.int .i64 0, .int .i64 0, .slice 0 [] .nil]]) := by rw [← hH0]; simp
 have low0 : Low h.length h H0 := by rw [← hH0]; exact (Low.refl _ _).push (Nat.le_refl _)
 simp (disch := first | omega | decide | simp only [go_sem]) only [go_sem, hH0, t1, List.length_cons, List.length_nil]
 refine wpC.loopM (fun d e st => ∃ (i : Nat) (n : Int) (H : List AE.Obj) (ws : List Nat), i + d = s.ops.length ∧ (0 ≤ n ∧ n ≤ 1099511627776 ∧ n = n0 - aT s.ops (tabOf s) (a : Int) N i) ∧ Low h.length h H ∧ H[h.length]? = some (.row 3 [PV.agg [.int .i64 0, .int .i64 0, .slice 0 [] .nil]]) ∧ (∀ x ∈ ws, h.length ≤ x) ∧
  eget e 0 = .iptr TAB 0 ∧ eget e 1 = .int .i64 (a : Int) ∧ eget e 2 = .int .i64 ((N + 1 : Nat) : Int) ∧ eget e 3 = .int .i64 n ∧ eget e 8 = .ptr h.length 0 0 1 ∧ eget e 28 = .slice 3 (s.ops.map encOp) .any ∧ eget e 29 = .int .i64 (s.ops.length : Int) ∧ eget e 30 = .int .i64 (i : Int) ∧ st = ⟨H, ws, []⟩) ?_ s.ops.length _ _
  ⟨0, n0, H0, [], by omega, ⟨hn0.1, h0T, by simp [aT]⟩, low0, k0, by simp, by simp (disch := first | omega | decide | simp only [go_sem]) only [go_sem], by simp (disch := first | omega | decide | simp only [go_sem]) only [go_sem], by simp (disch := first | omega | decide | simp only [go_sem]) only [go_sem], by simp (disch := first | omega | decide | simp only [go_sem]) only [go_sem], by simp (disch := first | omega | decide | simp only [go_sem]) only [go_sem], by simp (disch := first | omega | decide | simp only [go_sem]) only [go_sem], by simp (disch := first | omega | decide | simp only [go_sem]) only [go_sem], by simp (disch := first | omega | decide | simp only [go_sem]) only [go_sem]; rfl, rfl⟩
 rintro d e st ⟨i, n, H, ws, hd, hn, low, k8, hw, e0, e1, e2, e3, e8, e28, e29, e30, rfl⟩
 by_cases hi : i < s.ops.length
 · have ho : s.ops[i]? = some s.ops[i] := List.getElem?_eq_getElem hi
   have C := CC i _ ho
   have go := get_op hi
   generalize s.ops[i] = o at *
   generalize hri : (tabOf s).2.getD i [] = ri at *
   have hal := C.al
   have soo : sub true 3 (encOp o) 0 = some (encOp o) := rfl
   have sb := st_box (h := H) (ws := ws) (ups := []) (z := .agg [(.str ⟨#[]⟩), (.slice 0 [] .nil), (.int .i64 0)]) (sz := 3) (c := encOp o) rfl rfl rfl (top_op _) ⟨_, rfl⟩ ⟨_, rfl⟩
   have hHl : h.length < H.length := (List.getElem?_eq_some_iff.1 k8).1
   have ko : (H ++ [AE.Obj.row 3 [encOp o]])[H.length]? = some (.row 3 [encOp o]) := by simp
   have k81 : (H ++ [AE.Obj.row 3 [encOp o]])[h.length]? = some (.row 3 [PV.agg [.int .i64 0, .int .i64 0, .slice 0 [] .nil]]) := keepL k8
   have low1 : Low h.length h (H ++ [AE.Obj.row 3 [encOp o]]) := low.push (by omega)
   have hlen1 : (H ++ [AE.Obj.row 3 [encOp o]]).length = H.length + 1 := by simp
   generalize hH1 : H ++ [AE.Obj.row 3 [encOp o]] = H1 at *
   have l2 : loadAt false 1 (.ptr H.length 0 2 1) H1 = some (.int .i64 o.res) := by rw [ld_at ko]; rfl
   have l1 : loadAt false 1 (.ptr H.length 0 1 1) H1 = some (.slice 1 (o.args.map encI) .any) := by rw [ld_at ko]; rfl
   have t3 := C.t3
   have gr := C.gr
   have gk := get_arr C.okR (k := 0) (by rw [C.rl]; omega)
   have hr0 := (C.okR.get (k := 0) (by rw [C.rl]; omega)).2
   have lw := ld_arr hr0 (show N < 61 by omega)
   have bw := (hr0.get (show N < 61 by omega)).2
   have haT : aT s.ops (tabOf s) (a : Int) N (i + 1) = aT s.ops (tabOf s) (a : Int) N i + if o.res = (a : Int) then (ri.getD 0 []).getD N 0 else 0 := by simp only [aT, ho, hri]
   generalize hways : (ri.getD 0 []).getD N 0 = ways at *
   have hN61 : N < 61 := by omega
   have h061 : (0 : Nat) < ri.length := by rw [C.rl]; omega
   by_cases hres : o.res = (a : Int)
   · by_cases hnw : ways ≤ n
     · simp (disch := first | omega | decide | simp only [go_sem]) only [go_sem, a91b4, List.length_cons, List.length_nil, e0, e1, e2, e3, e8, e28, e29, e30, hi, go, soo, sb, hH1, l2, l1, hres, bne_self_eq_false, t3, gr, gk, lw, hN61, hnw]
       rw [if_pos hres] at haT
       exact ⟨d - 1, by omega, i + 1, n - ways, H1, _, by omega, by omega, low1, k81, wadd_low (by omega) hw, rfl, rfl, rfl⟩
     · have fc2 : fillC [PV.int .i64 0, .int .i64 0, .slice 0 [] .nil] [(0, 1, .int .i64 2), (1, 1, .int .i64 (i : Int))] = some [.int .i64 2, .int .i64 (i : Int), .slice 0 [] .nil] := rfl
       have sb2 := st_box (h := H1) (ws := wadd H.length ws) (ups := []) (z := .agg [(.int .i64 0), (.int .i64 0), (.slice 0 [] .nil)]) (sz := 3) (c := .agg [.int .i64 2, .int .i64 (i : Int), .slice 0 [] .nil]) rfl rfl rfl rfl ⟨_, rfl⟩ ⟨_, rfl⟩
       have hkx2 : (H1 ++ [AE.Obj.row 3 [PV.agg [.int .i64 2, .int .i64 (i : Int), .slice 0 [] .nil]]])[H1.length]? = some (.row 3 [PV.agg [.int .i64 2, .int .i64 (i : Int), .slice 0 [] .nil]]) := by simp
       have ko2 : (H1 ++ [AE.Obj.row 3 [PV.agg [.int .i64 2, .int .i64 (i : Int), .slice 0 [] .nil]]])[H.length]? = some (.row 3 [encOp o]) := keepL ko
       have k82 : (H1 ++ [AE.Obj.row 3 [PV.agg [.int .i64 2, .int .i64 (i : Int), .slice 0 [] .nil]]])[h.length]? = some (.row 3 [PV.agg [.int .i64 0, .int .i64 0, .slice 0 [] .nil]]) := keepL k81
       have low2 : Low h.length h (H1 ++ [AE.Obj.row 3 [PV.agg [.int .i64 2, .int .i64 (i : Int), .slice 0 [] .nil]]]) := low1.push (by omega)
       have hlen2 : (H1 ++ [AE.Obj.row 3 [PV.agg [.int .i64 2, .int .i64 (i : Int), .slice 0 [] .nil]]]).length = H.length + 2 := by simp [hlen1]
       generalize hH2 : H1 ++ [AE.Obj.row 3 [PV.agg [.int .i64 2, .int .i64 (i : Int), .slice 0 [] .nil]]] = H2 at *
       have hmk1 := mk_ok (sz := 1) (bytes := 8) (n := o.args.length) (z := .int .i64 0) (by omega) (by omega) rfl
       have hmk2 := mk_ok (sz := 1) (bytes := 8) (n := o.args.length + 1) (z := .int .i64 0) (by omega) (by omega) rfl
       have hrep : ∀ n, List.replicate n (PV.int .i64 0) = (List.replicate n (0 : Int)).map encI := fun n => by simp [encI]
       have hks3 : (H2 ++ [AE.Obj.row 1 ((List.replicate o.args.length (0 : Int)).map encI)])[H2.length]? = some (.row 1 ((List.replicate o.args.length (0 : Int)).map encI)) := by simp
       have hkx3 : (H2 ++ [AE.Obj.row 1 ((List.replicate o.args.length (0 : Int)).map encI)])[H1.length]? = some (.row 3 [PV.agg [.int .i64 2, .int .i64 (i : Int), .slice 0 [] .nil]]) := keepL hkx2
       have ko3 : (H2 ++ [AE.Obj.row 1 ((List.replicate o.args.length (0 : Int)).map encI)])[H.length]? = some (.row 3 [encOp o]) := keepL ko2
       have k83 : (H2 ++ [AE.Obj.row 1 ((List.replicate o.args.length (0 : Int)).map encI)])[h.length]? = some (.row 3 [PV.agg [.int .i64 0, .int .i64 0, .slice 0 [] .nil]]) := keepL k82
       have low3 : Low h.length h (H2 ++ [AE.Obj.row 1 ((List.replicate o.args.length (0 : Int)).map encI)]) := low2.push (by omega)
       have hlen3 : (H2 ++ [AE.Obj.row 1 ((List.replicate o.args.length (0 : Int)).map encI)]).length = H.length + 3 := by simp [hlen2]
       have l12 : loadAt false 1 (.ptr H.length 0 1 1) H2 = some (.slice 1 (o.args.map encI) .any) := by rw [ld_at ko2]; rfl
       generalize hH3 : H2 ++ [AE.Obj.row 1 ((List.replicate o.args.length (0 : Int)).map encI)] = H3 at *
       have l13 : loadAt false 1 (.ptr H.length 0 1 1) H3 = some (.slice 1 (o.args.map encI) .any) := by rw [ld_at ko3]; rfl
       simp (disch := first | omega | decide | simp only [go_sem]) only [go_sem, a91b4, List.length_cons, List.length_nil, e0, e1, e2, e3, e8, e28, e29, e30, hi, go, soo, sb, hH1, l2, l1, hres, bne_self_eq_false, t3, gr, gk, lw, hN61, hnw, fc2, sb2, hH2, hmk1, hrep, hH3, l12, l13]
       refine nth_b1 hT C (N := N) (ks := H2.length) (n0 := n) (szs0 := List.replicate o.args.length 0) hN ⟨hn.1, hn.2.1⟩ (by rw [hways]; omega) hks3 (by simp) (by simp (disch := first | omega | decide | simp only [go_sem]) only [go_sem, e0]) (by simp (disch := first | omega | decide | simp only [go_sem]) only [go_sem, e3]) (by simp (disch := first | omega | decide | simp only [go_sem]) only [go_sem]) (by simp (disch := first | omega | decide | simp only [go_sem]) only [go_sem]) (by simp (disch := first | omega | decide | simp only [go_sem]) only [go_sem]) (by simp (disch := first | omega | decide | simp only [go_sem]) only [go_sem]) (by simp (disch := first | omega | decide | simp only [go_sem]) only [go_sem]) (by simp (disch := first | omega | decide | simp only [go_sem]) only [go_sem]) (by simp (disch := first | omega | decide | simp only [go_sem]) only [go_sem]) fun e' n' szs ws' hs' e3' hn1 hn2 hsl hok F hbs hlt hw' => ?_
       have g0 : eget e' 0 = .iptr TAB 0 := (hs' 0 (by omega)).trans (by simp (disch := first | omega | decide | simp only [go_sem]) only [go_sem, e0])
       have g8 : eget e' 8 = .ptr h.length 0 0 1 := (hs' 8 (by omega)).trans (by simp (disch := first | omega | decide | simp only [go_sem]) only [go_sem, e8])
       have g10 : eget e' 10 = .ptr H.length 0 0 1 := (hs' 10 (by omega)).trans (by simp (disch := first | omega | decide | simp only [go_sem]) only [go_sem])
       have g12 : eget e' 12 = .ptr H1.length 0 0 1 := (hs' 12 (by omega)).trans (by simp (disch := first | omega | decide | simp only [go_sem]) only [go_sem])
       have g13 : eget e' 13 = .aref H2.length 1 0 o.args.length o.args.length := (hs' 13 (by omega)).trans (by simp (disch := first | omega | decide | simp only [go_sem]) only [go_sem])
       have ks4 : (H3.set H2.length (AE.Obj.row 1 (szs.map encI)))[H2.length]? = some (.row 1 (szs.map encI)) := get_set hks3
       have kx4 : (H3.set H2.length (AE.Obj.row 1 (szs.map encI)))[H1.length]? = some (.row 3 [PV.agg [.int .i64 2, .int .i64 (i : Int), .slice 0 [] .nil]]) := get_set_ne hkx3 (by omega)
       have ko4 : (H3.set H2.length (AE.Obj.row 1 (szs.map encI)))[H.length]? = some (.row 3 [encOp o]) := get_set_ne ko3 (by omega)
       have k84 : (H3.set H2.length (AE.Obj.row 1 (szs.map encI)))[h.length]? = some (.row 3 [PV.agg [.int .i64 0, .int .i64 0, .slice 0 [] .nil]]) := get_set_ne k83 (by omega)
       have low4 : Low h.length h (H3.set H2.length (AE.Obj.row 1 (szs.map encI))) := low3.trans (.set (by omega))
       have hlen4 : (H3.set H2.length (AE.Obj.row 1 (szs.map encI))).length = H.length + 3 := by simp [hlen3]
       generalize hH4 : H3.set H2.length (AE.Obj.row 1 (szs.map encI)) = H4 at *
       have l14 : loadAt false 1 (.ptr H.length 0 1 1) H4 = some (.slice 1 (o.args.map encI) .any) := by rw [ld_at ko4]; rfl
       have kb5 : (H4 ++ [AE.Obj.row 1 ((List.replicate (o.args.length + 1) (0 : Int)).map encI)])[H4.length]? = some (.row 1 ((List.replicate (o.args.length + 1) (0 : Int)).map encI)) := by simp
       have ks5 : (H4 ++ [AE.Obj.row 1 ((List.replicate (o.args.length + 1) (0 : Int)).map encI)])[H2.length]? = some (.row 1 (szs.map encI)) := keepL ks4
       have kx5 : (H4 ++ [AE.Obj.row 1 ((List.replicate (o.args.length + 1) (0 : Int)).map encI)])[H1.length]? = some (.row 3 [PV.agg [.int .i64 2, .int .i64 (i : Int), .slice 0 [] .nil]]) := keepL kx4
       have ko5 : (H4 ++ [AE.Obj.row 1 ((List.replicate (o.args.length + 1) (0 : Int)).map encI)])[H.length]? = some (.row 3 [encOp o]) := keepL ko4
       have k85 : (H4 ++ [AE.Obj.row 1 ((List.replicate (o.args.length + 1) (0 : Int)).map encI)])[h.length]? = some (.row 3 [PV.agg [.int .i64 0, .int .i64 0, .slice 0 [] .nil]]) := keepL k84
       have low5 : Low h.length h (H4 ++ [AE.Obj.row 1 ((List.replicate (o.args.length + 1) (0 : Int)).map encI)]) := low4.push (by omega)
       generalize hH5 : H4 ++ [AE.Obj.row 1 ((List.replicate (o.args.length + 1) (0 : Int)).map encI)] = H5 at *
       have l15 : loadAt false 1 (.ptr H.length 0 1 1) H5 = some (.slice 1 (o.args.map encI) .any) := by rw [ld_at ko5]; rfl
       have hL1 : o.args.length < o.args.length + 1 := by omega
       have sv5 := fun ws => st_v (ws := ws) (ups := []) (v := 1) kb5 (by simp) hL1
       have kb6 : (H5.set H4.length (AE.Obj.row 1 (((List.replicate (o.args.length + 1) (0 : Int)).set o.args.length 1).map encI)))[H4.length]? = some (.row 1 (((List.replicate (o.args.length + 1) (0 : Int)).set o.args.length 1).map encI)) := get_set kb5
       have ks6 : (H5.set H4.length (AE.Obj.row 1 (((List.replicate (o.args.length + 1) (0 : Int)).set o.args.length 1).map encI)))[H2.length]? = some (.row 1 (szs.map encI)) := get_set_ne ks5 (by omega)
       have kx6 : (H5.set H4.length (AE.Obj.row 1 (((List.replicate (o.args.length + 1) (0 : Int)).set o.args.length 1).map encI)))[H1.length]? = some (.row 3 [PV.agg [.int .i64 2, .int .i64 (i : Int), .slice 0 [] .nil]]) := get_set_ne kx5 (by omega)
       have ko6 : (H5.set H4.length (AE.Obj.row 1 (((List.replicate (o.args.length + 1) (0 : Int)).set o.args.length 1).map encI)))[H.length]? = some (.row 3 [encOp o]) := get_set_ne ko5 (by omega)
       have k86 : (H5.set H4.length (AE.Obj.row 1 (((List.replicate (o.args.length + 1) (0 : Int)).set o.args.length 1).map encI)))[h.length]? = some (.row 3 [PV.agg [.int .i64 0, .int .i64 0, .slice 0 [] .nil]]) := get_set_ne k85 (by omega)
       have low6 : Low h.length h (H5.set H4.length (AE.Obj.row 1 (((List.replicate (o.args.length + 1) (0 : Int)).set o.args.length 1).map encI))) := low5.trans (.set (by omega))
       have hb06 : okBh o.args.length o.args.length ((List.replicate (o.args.length + 1) (0 : Int)).set o.args.length 1) := fun j h1 h2 => by
        have : j = o.args.length := by omega
        subst this
        rw [getD_set (by simp), if_pos rfl]
        omega
       have hbe6 : beH o (tabOf s).1 szs o.args.length ((List.replicate (o.args.length + 1) (0 : Int)).set o.args.length 1) := fun j h1 h2 => by
        have : j = o.args.length := by omega
        subst this
        rw [getD_set (by simp), if_pos rfl, Nat.sub_self]; rfl
       have hbl6 : ((List.replicate (o.args.length + 1) (0 : Int)).set o.args.length 1).length = o.args.length + 1 := by simp
       generalize ((List.replicate (o.args.length + 1) (0 : Int)).set o.args.length 1) = bh0 at *
       generalize hH6 : H5.set H4.length (AE.Obj.row 1 (bh0.map encI)) = H6 at *
       have l16 : loadAt false 1 (.ptr H.length 0 1 1) H6 = some (.slice 1 (o.args.map encI) .any) := by rw [ld_at ko6]; rfl
       simp (disch := first | omega | decide | simp only [go_sem]) only [go_sem, List.length_cons, List.length_nil, g0, g8, g10, g12, g13, e3', l14, hmk2, hrep, hH5, l15, hL1, sv5, l16]
       refine nth_b2 hT C (N := N) (ks := H2.length) (kb := H4.length) (ko := H.length) (szs := szs) (bh0 := bh0) hN hok hb06 hbe6 ks6 hsl kb6 hbl6 ko6 ⟨by omega, by omega⟩ (by simp (disch := first | omega | decide | simp only [go_sem]) only [go_sem, g0]) (by simp (disch := first | omega | decide | simp only [go_sem]) only [go_sem, g10]) (by simp (disch := first | omega | decide | simp only [go_sem]) only [go_sem, g13]) (by simp (disch := first | omega | decide | simp only [go_sem]) only [go_sem]) (by simp (disch := first | omega | decide | simp only [go_sem]) only [go_sem]) fun e2' bh ws2 hs2 hbl hb hbe hw2 => ?_
       have q0 : eget e2' 0 = .iptr TAB 0 := (hs2 0 (by omega)).trans (by simp (disch := first | omega | decide | simp only [go_sem]) only [go_sem, g0])
       have q3 : eget e2' 3 = .int .i64 n' := (hs2 3 (by omega)).trans (by simp (disch := first | omega | decide | simp only [go_sem]) only [go_sem, e3'])
       have q8 : eget e2' 8 = .ptr h.length 0 0 1 := (hs2 8 (by omega)).trans (by simp (disch := first | omega | decide | simp only [go_sem]) only [go_sem, g8])
       have q10 : eget e2' 10 = .ptr H.length 0 0 1 := (hs2 10 (by omega)).trans (by simp (disch := first | omega | decide | simp only [go_sem]) only [go_sem, g10])
       have q12 : eget e2' 12 = .ptr H1.length 0 0 1 := (hs2 12 (by omega)).trans (by simp (disch := first | omega | decide | simp only [go_sem]) only [go_sem, g12])
       have q13 : eget e2' 13 = .aref H2.length 1 0 o.args.length o.args.length := (hs2 13 (by omega)).trans (by simp (disch := first | omega | decide | simp only [go_sem]) only [go_sem, g13])
       have q20 : eget e2' 20 = .aref H4.length 1 0 (o.args.length + 1) (o.args.length + 1) := (hs2 20 (by omega)).trans (by simp (disch := first | omega | decide | simp only [go_sem]) only [go_sem])
       have kb7 : (H6.set H4.length (AE.Obj.row 1 (bh.map encI)))[H4.length]? = some (.row 1 (bh.map encI)) := get_set kb6
       have ks7 : (H6.set H4.length (AE.Obj.row 1 (bh.map encI)))[H2.length]? = some (.row 1 (szs.map encI)) := get_set_ne ks6 (by omega)
       have kx7 : (H6.set H4.length (AE.Obj.row 1 (bh.map encI)))[H1.length]? = some (.row 3 [PV.agg [.int .i64 2, .int .i64 (i : Int), .slice 0 [] .nil]]) := get_set_ne kx6 (by omega)
       have ko7 : (H6.set H4.length (AE.Obj.row 1 (bh.map encI)))[H.length]? = some (.row 3 [encOp o]) := get_set_ne ko6 (by omega)
       have k87 : (H6.set H4.length (AE.Obj.row 1 (bh.map encI)))[h.length]? = some (.row 3 [PV.agg [.int .i64 0, .int .i64 0, .slice 0 [] .nil]]) := get_set_ne k86 (by omega)
       have low7 : Low h.length h (H6.set H4.length (AE.Obj.row 1 (bh.map encI))) := low6.trans (.set (by omega))
       generalize hH7 : H6.set H4.length (AE.Obj.row 1 (bh.map encI)) = H7 at *
       have l17 : loadAt false 1 (.ptr H.length 0 1 1) H7 = some (.slice 1 (o.args.map encI) .any) := by rw [ld_at ko7]; rfl
       have hw7 : ∀ x ∈ ws2, h.length ≤ x := fun x hx => by
        rcases hw2 x hx with hx | hx
        · rcases mem_wadd hx with hx | hx
          · omega
          · rcases hw' x hx with hx | hx
            · rcases mem_wadd hx with hx | hx
              · omega
              · rcases mem_wadd hx with hx | hx
                · omega
                · exact hw x hx
            · omega
        · omega
       simp (disch := first | omega | decide | simp only [go_sem]) only [go_sem, List.length_cons, List.length_nil, q10, l17]
       refine nth_b3 hT C (N := N) (ks := H2.length) (kb := H4.length) (kx := H1.length) (lo := h.length) (n0 := n') (szs := szs) (bh := bh) (h0 := h) h91 IH hN rfl hbe hok hb ⟨hn1, by rw [← ah_last F]; exact hlt⟩ ks7 hsl kb7 hbl kx7 ⟨by omega, by omega⟩ low7 ⟨Nat.le_refl _, by omega⟩ hw7 (by simp (disch := first | omega | decide | simp only [go_sem]) only [go_sem, q0]) (by simp (disch := first | omega | decide | simp only [go_sem]) only [go_sem, q3]) (by simp (disch := first | omega | decide | simp only [go_sem]) only [go_sem, q12]) (by simp (disch := first | omega | decide | simp only [go_sem]) only [go_sem, q13]) (by simp (disch := first | omega | decide | simp only [go_sem]) only [go_sem, q20]) (by simp (disch := first | omega | decide | simp only [go_sem]) only [go_sem]) (by simp (disch := first | omega | decide | simp only [go_sem]) only [go_sem]) (by simp (disch := first | omega | decide | simp only [go_sem]) only [go_sem]) fun e3'' v es H8 ws8 ups8 hs3 hel hes ⟨xs, X, hxl⟩ A kx8 keep8 low8 hw8 hu8 => ?_
       have r8 : eget e3'' 8 = .ptr h.length 0 0 1 := (hs3 8 (by omega)).trans (by simp (disch := first | omega | decide | simp only [go_sem]) only [go_sem, q8])
       have r12 : eget e3'' 12 = .ptr H1.length 0 0 1 := (hs3 12 (by omega)).trans (by simp (disch := first | omega | decide | simp only [go_sem]) only [go_sem, q12])
       have k88 := keep8 _ _ _ (by omega) k87
       obtain ⟨sz, m, rfl, hsz⟩ := A.slice
       obtain ⟨ups', sv, hups⟩ := st_k3 (ws := ws8) (ups := ups8) (x := 2) (y := (i : Int)) (sz := sz) (es := es) (m := m) k88
       have lx : loadAt true 3 (.ptr H1.length 0 0 1) H8 = some (PV.agg [.int .i64 2, .int .i64 (i : Int), .slice sz es m]) := by rw [ld_at kx8]; rfl
       have ll : loadAt true 3 (.ptr h.length 0 0 1) (H8.set h.length (.row 3 [PV.agg [.int .i64 2, .int .i64 (i : Int), .slice sz es m]])) = some (PV.agg [.int .i64 2, .int .i64 (i : Int), .slice sz es m]) := by rw [ld_at (get_set k88)]; rfl
       obtain ⟨pes, wes⟩ := weaks_terms hes
       simp (disch := first | omega | decide | simp only [go_sem]) only [go_sem, List.length_cons, List.length_nil, r8, r12, lx, sv, resv, ll]
       have tT : Nth91 s a (N + 1) n0 (PV.agg [.int .i64 2, .int .i64 (i : Int), .slice sz es m]).weak := by
        simp only [PV.weak, weaks, wes]
        exact nth_end ho hres F X hxl (by rw [hri]; exact hbs) hn.2.2 h0T hsz
       refine ⟨_, tidy_ups (by simp [PV.pure, pures, pes]) (low8.trans (.set (Nat.le_refl _))) (fun x hx => ?_) (fun x hx => ?_), tT⟩
       · rcases mem_wadd hx with h | h
         · omega
         · exact hw8 x h
       · rcases hups x hx with h | h
         · exact hu8 x h
         · omega
   · have hres' : (o.res != (a : Int)) = true := by simpa using hres
     simp (disch := first | omega | decide | simp only [go_sem]) only [go_sem, a91b4, List.length_cons, List.length_nil, e0, e1, e2, e3, e8, e28, e29, e30, hi, go, soo, sb, hH1, l2, hres']
     rw [if_neg hres] at haT
     exact ⟨d - 1, by omega, i + 1, n, H1, _, by omega, by omega, low1, k81, wadd_low (by omega) hw, rfl, rfl, rfl⟩
 · exfalso
   have : i = s.ops.length := by omega
   subst this
   have := cap_le (aT s.ops (tabOf s) (a : Int) N s.ops.length)
   omega
end Go.Proofs.Tryz
/- Functions of ValsInverse, as the evaluator sees them: printed by tools/Print.lean. -/
namespace Go.Proofs.Tryz
open Go Go.AE
def a17 : AFunc := ⟨2, 11, (.seq (.reg [
 rp 2 (.box 1 (.t 0)),
 ro 4 (.move (.c (.bool false)))])
 (.seq (.reg [
 rp 5 (.box 1 (.c .nilFunc))])
 (.seq (.reg [
 ro 6 (.mkFunc (.func 84) [] [(.t 2), (.t 5)]),
  ⟨none, .store 1 (.t 5) (.t 6), none, true, 0, 0, false⟩])
 (.seq (.reg [
 ro 7 (.move (.t 1)),
 ro 8 (.mkFunc (.func 86) [] [(.t 5)]),
 rp 9 (.call (.f 48) [(.t 7), (.t 8)]),
 ro 10 (.un .not (.t 9)),
 ro 4 (.move (.t 10))])
 .ret)))), [.t 4]⟩
theorem fn17 : fnOf 17 = some a17 := by kernel_rfl
def a84 : AFunc := ⟨4, 22, (.seq (.reg [
 rp 4 (.box 3 (.t 0)),
 rp 5 (.box 1 (.t 1)),
 ro 6 (.move (.c (.bool false)))])
 (.seq (.reg [
 rp 7 (.load false 1 (.t 2)),
 ro 8 (.bin .sub (.t 7) (.c (.int .i64 1))),
  ⟨none, .store 1 (.t 2) (.t 8), none, true, 0, 0, false⟩])
 (.seq (.reg [
 rp 9 (.load false 1 (.t 2)),
 ro 10 (.bin .geq (.t 9) (.c (.int .i64 0))),
 ro 11 (.move (.t 10)),
 rh 12 (.load false 1 (.t 5)) 11 true,
 rg 13 (.bin .lss (.t 12) (.c (.int .i64 100))) 11 true,
 ro 14 (.pick (.t 11) (.t 13) (.c (.bool false))),
 ro 15 (.move (.t 14)),
 rg 16 (.fieldAddr 2 (.t 4)) 15 true,
 rh 17 (.load false 1 (.t 16)) 15 true,
 rg 18 (.mkFunc (.func 85) [] [(.t 3), (.t 5)]) 15 true,
 rh 19 (.call (.f 48) [(.t 17), (.t 18)]) 15 true,
 rg 20 (.un .not (.t 19)) 15 true,
 ro 21 (.pick (.t 15) (.t 20) (.c (.bool false))),
 ro 6 (.move (.t 21))])
 .ret))), [.t 6]⟩
theorem fn84 : fnOf 84 = some a84 := by kernel_rfl
def a85 : AFunc := ⟨3, 11, (.seq (.reg [
 rp 3 (.box 3 (.t 0)),
 ro 4 (.move (.c (.bool false)))])
 (.seq (.reg [
 rp 5 (.load false 1 (.t 1)),
 rp 6 (.load true 3 (.t 3)),
 rp 7 (.load false 1 (.t 2)),
 ro 8 (.bin .add (.t 7) (.c (.int .i64 1))),
 rp 9 (.call (.t 5) [(.t 6), (.t 8)]),
 ro 10 (.un .not (.t 9)),
 ro 4 (.move (.t 10))])
 .ret)), [.t 4]⟩
theorem fn85 : fnOf 85 = some a85 := by kernel_rfl
def a86 : AFunc := ⟨2, 8, (.seq (.reg [
 rp 2 (.box 3 (.t 0)),
 ro 3 (.move (.c (.bool false)))])
 (.seq (.reg [
 rp 4 (.load false 1 (.t 1)),
 rp 5 (.load true 3 (.t 2)),
 rp 6 (.call (.t 4) [(.t 5), (.c (.int .i64 0))]),
 ro 7 (.un .not (.t 6)),
 ro 3 (.move (.t 7))])
 .ret)), [.t 3]⟩
theorem fn86 : fnOf 86 = some a86 := by kernel_rfl
def a48 : AFunc := ⟨2, 9, (.seq (.reg [
 ro 4 (.move (.c (.bool false)))])
 (.seq (.reg [
 ro 5 (.move (.t 0)),
 ro 6 (.move (.t 1)),
 rp 7 (.call (.f 135) [(.t 5), (.t 6)]),
 ro 8 (.bin .geq (.t 7) (.c (.int .i64 0))),
 ro 4 (.move (.t 8))])
 .ret)), [.t 4]⟩
theorem fn48 : fnOf 48 = some a48 := by kernel_rfl
def a135b0 : ACode :=
 (.seq (.reg [
 ro 9 (.bin .lss (.t 8) (.t 7))])
 (.seq (.cond (.t 9)
 .skip
 (.exit 0))
 (.seq (.block 1 (.seq (.reg [
 ro 10 (.move (.t 8)),
 ro 5 (.move (.t 10))])
 (.seq (.reg [
 ro 11 (.move (.t 1)),
 ro 12 (.move (.t 0)),
 ro 13 (.move (.t 5)),
 ro 14 (.idxAddr 3 (.t 12) (.t 13)),
 rp 15 (.load true 3 (.t 14)),
 rp 16 (.call (.t 11) [(.t 15)])])
 (.cond (.t 16)
 (.seq (.reg [
 ro 17 (.move (.t 5)),
 ro 4 (.move (.t 17))])
 .ret)
 .skip))))
 (.reg [
 ro 18 (.bin .add (.t 8) (.c (.int .i64 1))),
 ro 8 (.move (.t 18))]))))
def a135 : AFunc := ⟨2, 19, (.seq (.reg [
 ro 4 (.move (.c (.int .i64 0)))])
 (.seq (.seq (.reg [
 ro 6 (.move (.t 0)),
 ro 7 (.lenL (.t 6)),
 ro 8 (.move (.c (.int .i64 0)))])
 (.block 0 (.loop a135b0)))
 (.seq (.reg [
 ro 4 (.move (.c (.int .i64 (-1))))])
 .ret))), [.t 4]⟩
theorem fn135 : fnOf 135 = some a135 := by kernel_rfl
def a20 : AFunc := ⟨2, 37, (.seq (.reg [
 rp 2 (.box 2 (.t 0)),
 rp 3 (.box 3 (.t 1)),
 ro 4 (.move (.c (.int .i64 0))),
 ro 5 (.move (.c (.int .i64 0)))])
 (.seq (.seq (.reg [
 rp 11 (.load true 2 (.t 2)),
 rp 12 (.call (.f 87) [(.t 11)]),
 ro 6 (.move (.t 12))])
 (.seq (.reg [
 ro 13 (.move (.t 6)),
 ro 14 (.bin .neq (.t 13) (.c (.int .i64 0)))])
 (.cond (.t 14)
 (.seq (.reg [
 ro 15 (.move (.t 6)),
 ro 4 (.move (.c (.int .i64 0))),
 ro 5 (.move (.t 15))])
 .ret)
 .skip)))
 (.seq (.seq (.reg [
 rp 16 (.load true 2 (.t 2)),
 rp 17 (.load true 3 (.t 3)),
 rp 18 (.call (.f 95) [(.t 16), (.t 17)]),
 ro 19 (.un .not (.t 18))])
 (.cond (.t 19)
 (.seq (.reg [
 ro 4 (.move (.c (.int .i64 0))),
 ro 5 (.move (.c (.int .i64 4)))])
 .ret)
 .skip))
 (.seq (.seq (.reg [
 rp 21 (.load true 3 (.t 3)),
 rp 22 (.call (.f 46) [(.t 21)]),
 ro 20 (.move (.t 22)),
 ro 23 (.extract (.t 20) 0),
 ro 24 (.extract (.t 20) 1),
 ro 7 (.move (.t 23)),
 ro 8 (.move (.t 24))])
 (.seq (.reg [
 ro 25 (.move (.t 7)),
 ro 26 (.bin .gtr (.t 25) (.c (.int .i64 60)))])
 (.cond (.t 26)
 (.seq (.reg [
 ro 4 (.move (.c (.int .i64 0))),
 ro 5 (.move (.c (.int .i64 2)))])
 .ret)
 .skip)))
 (.seq (.regD [
 rp 28 (.load true 2 (.t 2)),
  ⟨(some 29), .call (.f 90) [(.t 28)], none, true, 1, 1, false⟩,
  ⟨(some 30), .load true 3 (.t 3), none, true, 2, 0, true⟩,
  ⟨(some 31), .call (.f 96) [(.t 29), (.t 30)], none, true, 3, 7, true⟩,
  ⟨(some 27), .move (.t 31), none, false, 4, 15, true⟩,
  ⟨(some 32), .extract (.t 27) 0, none, false, 5, 31, false⟩,
  ⟨(some 33), .extract (.t 27) 1, none, false, 6, 31, false⟩,
  ⟨(some 9), .move (.t 32), none, false, 7, 63, true⟩,
  ⟨(some 10), .move (.t 33), none, false, 8, 255, true⟩])
 (.seq (.seq (.reg [
 ro 34 (.move (.t 9)),
 ro 35 (.bin .geq (.t 34) (.c (.int .i64 1099511627776)))])
 (.cond (.t 35)
 (.seq (.reg [
 ro 4 (.move (.c (.int .i64 0))),
 ro 5 (.move (.c (.int .i64 2)))])
 .ret)
 .skip))
 (.seq (.reg [
 ro 36 (.move (.t 9)),
 ro 4 (.move (.t 36)),
 ro 5 (.move (.c (.int .i64 0)))])
 .ret))))))), [.t 4, .t 5]⟩
theorem fn20 : fnOf 20 = some a20 := by kernel_rfl
def a95 : AFunc := ⟨2, 15, (.seq (.reg [
 rp 2 (.box 2 (.t 0)),
 rp 3 (.box 3 (.t 1)),
 ro 4 (.move (.c (.bool false)))])
 (.seq (.reg [
 rp 8 (.load true 2 (.t 2)),
 rp 9 (.load true 3 (.t 3)),
 rp 10 (.call (.f 45) [(.t 8), (.c (.slice 0 [] .nil)), (.t 9)]),
 ro 7 (.move (.t 10)),
 ro 11 (.extract (.t 7) 0),
 ro 12 (.extract (.t 7) 1),
 ro 5 (.move (.t 11)),
 ro 6 (.move (.t 12))])
 (.seq (.reg [
 ro 13 (.move (.t 6)),
 ro 14 (.bin .eql (.t 13) (.c (.int .i64 0))),
 ro 4 (.move (.t 14))])
 .ret))), [.t 4]⟩
theorem fn95 : fnOf 95 = some a95 := by kernel_rfl
def a45 : AFunc := ⟨3, 67, (.seq (.reg [
 rp 3 (.box 2 (.t 0)),
 rp 4 (.box 1 (.t 1)),
 rp 5 (.box 3 (.t 2)),
 ro 6 (.move (.c (.int .i64 0))),
 ro 7 (.move (.c (.int .i64 0)))])
 (.seq (.block 0 (.seq (.reg [
 rp 10 (.load true 2 (.t 3)),
 rp 11 (.call (.f 87) [(.t 10)]),
 ro 12 (.bin .neq (.t 11) (.c (.int .i64 0))),
 ro 9 (.move (.t 12))])
 (.cond (.t 9)
 (.seq (.reg [
 ro 6 (.move (.c (.int .i64 0))),
 ro 7 (.move (.c (.int .i64 40)))])
 .ret)
 (.seq (.reg [
 rp 14 (.load false 1 (.t 4)),
 ro 15 (.mkFunc (.func 129) [] [(.t 3)]),
 rp 16 (.call (.f 65) [(.t 14), (.t 15)]),
 ro 13 (.move (.t 16))])
 (.cond (.t 13)
 (.seq (.reg [
 ro 6 (.move (.c (.int .i64 0))),
 ro 7 (.move (.c (.int .i64 1)))])
 .ret)
 (.seq (.reg [
 rp 18 (.load true 3 (.t 5)),
 rp 19 (.call (.f 130) [(.t 18)]),
 ro 20 (.un .not (.t 19)),
 ro 17 (.move (.t 20))])
 (.cond (.t 17)
 (.seq (.reg [
 ro 6 (.move (.c (.int .i64 0))),
 ro 7 (.move (.c (.int .i64 4)))])
 .ret)
 .skip)))))))
 (.seq (.reg [
 ro 8 (.move (.c (.int .i64 (-1))))])
 (.seq (.block 1 (.seq (.reg [
 ro 22 (.fieldAddr 0 (.t 5)),
 rp 23 (.load false 1 (.t 22)),
 ro 24 (.bin .eql (.t 23) (.c (.int .i64 1))),
 ro 25 (.move (.t 24)),
 rg 26 (.fieldAddr 1 (.t 5)) 25 true,
 rh 27 (.load false 1 (.t 26)) 25 true,
 rh 28 (.load false 1 (.t 4)) 25 true,
 rg 29 (.lenL (.t 28)) 25 true,
 rg 30 (.bin .lss (.t 27) (.t 29)) 25 true,
 ro 31 (.pick (.t 25) (.t 30) (.c (.bool false))),
 ro 21 (.move (.t 31))])
 (.cond (.t 21)
 (.reg [
 rp 32 (.load false 1 (.t 4)),
 ro 33 (.fieldAddr 1 (.t 5)),
 rp 34 (.load false 1 (.t 33)),
 ro 35 (.idxAddr 1 (.t 32) (.t 34)),
 rp 36 (.load false 1 (.t 35)),
 ro 8 (.move (.t 36))])
 (.seq (.reg [
 ro 38 (.fieldAddr 0 (.t 5)),
 rp 39 (.load false 1 (.t 38)),
 ro 40 (.bin .eql (.t 39) (.c (.int .i64 2))),
 ro 41 (.move (.t 40)),
 rg 42 (.fieldAddr 1 (.t 5)) 41 true,
 rh 43 (.load false 1 (.t 42)) 41 true,
 rg 44 (.fieldAddr 1 (.t 3)) 41 true,
 rh 45 (.load false 1 (.t 44)) 41 true,
 rg 46 (.lenL (.t 45)) 41 true,
 rg 47 (.bin .lss (.t 43) (.t 46)) 41 true,
 ro 48 (.pick (.t 41) (.t 47) (.c (.bool false))),
 ro 37 (.move (.t 48))])
 (.cond (.t 37)
 (.reg [
 ro 49 (.fieldAddr 1 (.t 3)),
 rp 50 (.load false 1 (.t 49)),
 ro 51 (.fieldAddr 1 (.t 5)),
 rp 52 (.load false 1 (.t 51)),
 ro 53 (.idxAddr 3 (.t 50) (.t 52)),
 ro 54 (.fieldAddr 2 (.t 53)),
 rp 55 (.load false 1 (.t 54)),
 ro 8 (.move (.t 55))])
 .skip)))))
 (.seq (.seq (.reg [
 ro 56 (.move (.t 8)),
 ro 57 (.bin .lss (.t 56) (.c (.int .i64 0))),
 ro 58 (.move (.t 57)),
 rh 59 (.load true 2 (.t 3)) 58 false,
 rh 60 (.load true 3 (.t 5)) 58 false,
 rg 61 (.move (.t 8)) 58 false,
 rg 62 (.mkFunc (.func 132) [] [(.t 4)]) 58 false,
 rh 63 (.call (.f 131) [(.t 59), (.t 60), (.t 61), (.t 62)]) 58 false,
 rg 64 (.un .not (.t 63)) 58 false,
 ro 65 (.pick (.t 58) (.c (.bool true)) (.t 64))])
 (.cond (.t 65)
 (.seq (.reg [
 ro 6 (.move (.c (.int .i64 0))),
 ro 7 (.move (.c (.int .i64 4)))])
 .ret)
 .skip))
 (.seq (.reg [
 ro 66 (.move (.t 8)),
 ro 6 (.move (.t 66)),
 ro 7 (.move (.c (.int .i64 0)))])
 .ret)))))), [.t 6, .t 7]⟩
theorem fn45 : fnOf 45 = some a45 := by kernel_rfl
def a130 : AFunc := ⟨1, 12, (.seq (.reg [
 rp 1 (.box 3 (.t 0)),
 ro 2 (.move (.c (.bool false)))])
 (.seq (.reg [
 rp 3 (.box 2 (.c (.agg [(.int .i64 0), (.int .i64 0)])))])
 (.seq (.reg [
 rp 4 (.load true 3 (.t 1)),
 rp 5 (.call (.f 133) [(.t 3), (.t 4), (.c (.int .i64 1))])])
 (.seq (.reg [
 rp 6 (.call (.f 134) [(.t 3)]),
 ro 7 (.un .not (.t 6)),
 ro 8 (.move (.t 7)),
 rh 9 (.load true 3 (.t 1)) 8 true,
 rh 10 (.call (.f 185) [(.t 9)]) 8 true,
 ro 11 (.pick (.t 8) (.t 10) (.c (.bool false))),
 ro 2 (.move (.t 11))])
 .ret)))), [.t 2]⟩
theorem fn130 : fnOf 130 = some a130 := by kernel_rfl
def a131b0 : ACode :=
 (.seq (.reg [
 ro 54 (.bin .lss (.t 53) (.t 52))])
 (.seq (.cond (.t 54)
 .skip
 (.exit 0))
 (.seq (.block 1 (.seq (.reg [
 ro 55 (.move (.t 53)),
 ro 56 (.idxAddr 3 (.t 51) (.t 53)),
 rp 57 (.load true 3 (.t 56)),
 rp 10 (.box 3 (.c (.agg [(.int .i64 0), (.int .i64 0), (.slice 0 [] .nil)]))),
 ro 9 (.move (.t 55)),
  ⟨none, .store 3 (.t 10) (.t 57), none, true, 0, 0, false⟩])
 (.seq (.regD [
 rp 58 (.load true 2 (.t 4)),
  ⟨(some 59), .load true 3 (.t 10), none, true, 1, 0, false⟩,
  ⟨(some 60), .fieldAddr 1 (.t 4), none, false, 2, 0, false⟩,
  ⟨(some 61), .load false 1 (.t 60), none, true, 3, 4, false⟩,
  ⟨(some 62), .fieldAddr 1 (.t 5), none, false, 4, 0, false⟩,
  ⟨(some 63), .load false 1 (.t 62), none, true, 5, 16, false⟩,
  ⟨(some 64), .idxAddr 3 (.t 61) (.t 63), none, false, 6, 60, false⟩,
  ⟨(some 65), .fieldAddr 1 (.t 64), none, false, 7, 124, false⟩,
  ⟨(some 66), .load false 1 (.t 65), none, true, 8, 252, false⟩,
  ⟨(some 67), .move (.t 9), none, false, 9, 0, false⟩,
  ⟨(some 68), .idxAddr 1 (.t 66) (.t 67), none, false, 10, 1020, false⟩,
  ⟨(some 69), .load false 1 (.t 68), none, true, 11, 2044, false⟩,
  ⟨(some 70), .move (.t 3), none, false, 12, 0, true⟩,
  ⟨(some 71), .call (.f 131) [(.t 58), (.t 59), (.t 69), (.t 70)], none, true, 13, 8191, true⟩,
  ⟨(some 72), .un .not (.t 71), none, false, 14, 16383, true⟩])
 (.cond (.t 72)
 (.seq (.reg [
 ro 8 (.move (.c (.bool false)))])
 .ret)
 .skip))))
 (.reg [
 ro 73 (.bin .add (.t 53) (.c (.int .i64 1))),
 ro 53 (.move (.t 73))]))))
def a131 : AFunc := ⟨4, 74, (.seq (.reg [
 rp 4 (.box 2 (.t 0)),
 rp 5 (.box 3 (.t 1)),
 ro 8 (.move (.c (.bool false)))])
 (.seq (.seq (.reg [
 ro 11 (.fieldAddr 0 (.t 5)),
 rp 12 (.load false 1 (.t 11)),
 ro 13 (.bin .eql (.t 12) (.c (.int .i64 1)))])
 (.cond (.t 13)
 (.seq (.reg [
 ro 14 (.move (.t 3)),
 ro 15 (.fieldAddr 1 (.t 5)),
 rp 16 (.load false 1 (.t 15)),
 ro 17 (.move (.t 2)),
 rp 18 (.call (.t 14) [(.t 16), (.t 17)]),
 ro 8 (.move (.t 18))])
 .ret)
 .skip))
 (.seq (.seq (.regD [
 ro 19 (.fieldAddr 1 (.t 5)),
  ⟨(some 20), .load false 1 (.t 19), none, true, 1, 1, false⟩,
  ⟨(some 21), .fieldAddr 1 (.t 4), none, false, 2, 0, true⟩,
  ⟨(some 22), .load false 1 (.t 21), none, true, 3, 4, true⟩,
  ⟨(some 23), .lenL (.t 22), none, false, 4, 12, true⟩,
  ⟨(some 24), .bin .geq (.t 20) (.t 23), none, false, 5, 31, true⟩,
  ⟨(some 25), .move (.t 24), none, false, 6, 63, true⟩,
  ⟨(some 26), .fieldAddr 1 (.t 4), (some (25, false)), false, 7, 127, false⟩,
  ⟨(some 27), .load false 1 (.t 26), (some (25, false)), true, 8, 255, false⟩,
  ⟨(some 28), .fieldAddr 1 (.t 5), (some (25, false)), false, 9, 127, false⟩,
  ⟨(some 29), .load false 1 (.t 28), (some (25, false)), true, 10, 639, false⟩,
  ⟨(some 30), .idxAddr 3 (.t 27) (.t 29), (some (25, false)), false, 11, 2047, false⟩,
  ⟨(some 31), .fieldAddr 2 (.t 30), (some (25, false)), false, 12, 4095, false⟩,
  ⟨(some 32), .load false 1 (.t 31), (some (25, false)), true, 13, 8191, false⟩,
  ⟨(some 33), .move (.t 2), (some (25, false)), false, 14, 127, true⟩,
  ⟨(some 34), .bin .neq (.t 32) (.t 33), (some (25, false)), false, 15, 32767, true⟩,
  ⟨(some 35), .pick (.t 25) (.c (.bool true)) (.t 34), none, false, 16, 65535, true⟩,
  ⟨(some 36), .move (.t 35), none, false, 17, 131071, true⟩,
  ⟨(some 37), .fieldAddr 1 (.t 4), (some (36, false)), false, 18, 262143, false⟩,
  ⟨(some 38), .load false 1 (.t 37), (some (36, false)), true, 19, 524287, false⟩,
  ⟨(some 39), .fieldAddr 1 (.t 5), (some (36, false)), false, 20, 262143, false⟩,
  ⟨(some 40), .load false 1 (.t 39), (some (36, false)), true, 21, 1310719, false⟩,
  ⟨(some 41), .idxAddr 3 (.t 38) (.t 40), (some (36, false)), false, 22, 4194303, false⟩,
  ⟨(some 42), .fieldAddr 1 (.t 41), (some (36, false)), false, 23, 8388607, false⟩,
  ⟨(some 43), .load false 1 (.t 42), (some (36, false)), true, 24, 16777215, false⟩,
  ⟨(some 44), .lenL (.t 43), (some (36, false)), false, 25, 33554431, false⟩,
  ⟨(some 45), .fieldAddr 2 (.t 5), (some (36, false)), false, 26, 262143, true⟩,
  ⟨(some 46), .load false 1 (.t 45), (some (36, false)), true, 27, 67371007, true⟩,
  ⟨(some 47), .lenL (.t 46), (some (36, false)), false, 28, 201588735, true⟩,
  ⟨(some 48), .bin .neq (.t 44) (.t 47), (some (36, false)), false, 29, 536870911, true⟩,
  ⟨(some 49), .pick (.t 36) (.c (.bool true)) (.t 48), none, false, 30, 1073741823, true⟩])
 (.cond (.t 49)
 (.seq (.reg [
 ro 8 (.move (.c (.bool false)))])
 .ret)
 .skip))
 (.seq (.seq (.reg [
 ro 50 (.fieldAddr 2 (.t 5)),
 rp 51 (.load false 1 (.t 50)),
 ro 52 (.lenL (.t 51)),
 ro 53 (.move (.c (.int .i64 0)))])
 (.block 0 (.loop a131b0)))
 (.seq (.reg [
 ro 8 (.move (.c (.bool true)))])
 .ret))))), [.t 8]⟩
theorem fn131 : fnOf 131 = some a131 := by kernel_rfl
def a132 : AFunc := ⟨3, 18, (.seq (.reg [
 ro 5 (.move (.c (.bool false)))])
 (.seq (.reg [
 ro 6 (.move (.t 0)),
 rp 7 (.load false 1 (.t 2)),
 ro 8 (.lenL (.t 7)),
 ro 9 (.bin .lss (.t 6) (.t 8)),
 ro 10 (.move (.t 9)),
 rh 11 (.load false 1 (.t 2)) 10 true,
 rg 12 (.move (.t 0)) 10 true,
 rg 13 (.idxAddr 1 (.t 11) (.t 12)) 10 true,
 rh 14 (.load false 1 (.t 13)) 10 true,
 rg 15 (.move (.t 1)) 10 true,
 rg 16 (.bin .eql (.t 14) (.t 15)) 10 true,
 ro 17 (.pick (.t 10) (.t 16) (.c (.bool false))),
 ro 5 (.move (.t 17))])
 .ret)), [.t 5]⟩
theorem fn132 : fnOf 132 = some a132 := by kernel_rfl
def a133b0 : ACode :=
 (.seq (.reg [
 ro 28 (.bin .lss (.t 27) (.t 26))])
 (.seq (.cond (.t 28)
 .skip
 (.exit 0))
 (.seq (.block 1 (.seq (.reg [
 ro 29 (.idxAddr 3 (.t 25) (.t 27)),
 rp 30 (.load true 3 (.t 29)),
 rp 7 (.box 3 (.c (.agg [(.int .i64 0), (.int .i64 0), (.slice 0 [] .nil)]))),
  ⟨none, .store 3 (.t 7) (.t 30), none, true, 0, 0, false⟩])
 (.seq (.seq (.reg [
 ro 31 (.move (.t 0)),
 ro 32 (.nilCheck (.t 31)),
 ro 33 (.fieldAddr 0 (.t 32)),
 rp 34 (.load false 1 (.t 33)),
 ro 35 (.bin .gtr (.t 34) (.c (.int .i64 2000))),
 ro 36 (.move (.t 35)),
 rg 37 (.move (.t 0)) 36 false,
 rg 38 (.nilCheck (.t 37)) 36 false,
 rg 39 (.fieldAddr 1 (.t 38)) 36 false,
 rh 40 (.load false 1 (.t 39)) 36 false,
 rg 41 (.bin .gtr (.t 40) (.c (.int .i64 200))) 36 false,
 ro 42 (.pick (.t 36) (.c (.bool true)) (.t 41))])
 (.cond (.t 42)
 .ret
 .skip))
 (.reg [
 ro 43 (.move (.t 0)),
 rp 44 (.load true 3 (.t 7)),
 ro 45 (.move (.t 2)),
 ro 46 (.bin .add (.t 45) (.c (.int .i64 1))),
 rp 47 (.call (.f 133) [(.t 43), (.t 44), (.t 46)])]))))
 (.reg [
 ro 48 (.bin .add (.t 27) (.c (.int .i64 1))),
 ro 27 (.move (.t 48))]))))
def a133 : AFunc := ⟨3, 49, (.seq (.reg [
 rp 4 (.box 3 (.t 1))])
 (.seq (.reg [
 ro 8 (.move (.t 0)),
 ro 9 (.nilCheck (.t 8)),
 ro 10 (.fieldAddr 0 (.t 9)),
 rp 11 (.load false 1 (.t 10)),
 ro 12 (.bin .add (.t 11) (.c (.int .i64 1))),
 ro 13 (.nilCheck (.t 8)),
 ro 14 (.fieldAddr 0 (.t 13)),
  ⟨none, .store 1 (.t 14) (.t 12), none, true, 0, 0, false⟩])
 (.seq (.reg [
 ro 15 (.move (.t 0)),
 ro 16 (.move (.t 0)),
 ro 17 (.nilCheck (.t 16)),
 ro 18 (.fieldAddr 1 (.t 17)),
 rp 19 (.load false 1 (.t 18)),
 ro 20 (.move (.t 2)),
 ro 21 (.min true [(.t 19), (.t 20)]),
 ro 22 (.nilCheck (.t 15)),
 ro 23 (.fieldAddr 1 (.t 22)),
  ⟨none, .store 1 (.t 23) (.t 21), none, true, 0, 0, false⟩])
 (.seq (.reg [
 ro 24 (.fieldAddr 2 (.t 4)),
 rp 25 (.load false 1 (.t 24)),
 ro 26 (.lenL (.t 25)),
 ro 27 (.move (.c (.int .i64 0)))])
 (.block 0 (.loop a133b0)))))), []⟩
theorem fn133 : fnOf 133 = some a133 := by kernel_rfl
def a134 : AFunc := ⟨1, 15, (.seq (.reg [
 ro 2 (.move (.c (.bool false)))])
 (.seq (.reg [
 ro 3 (.move (.t 0)),
 ro 4 (.nilCheck (.t 3)),
 ro 5 (.fieldAddr 0 (.t 4)),
 rp 6 (.load false 1 (.t 5)),
 ro 7 (.bin .gtr (.t 6) (.c (.int .i64 2000))),
 ro 8 (.move (.t 7)),
 rg 9 (.move (.t 0)) 8 false,
 rg 10 (.nilCheck (.t 9)) 8 false,
 rg 11 (.fieldAddr 1 (.t 10)) 8 false,
 rh 12 (.load false 1 (.t 11)) 8 false,
 rg 13 (.bin .gtr (.t 12) (.c (.int .i64 200))) 8 false,
 ro 14 (.pick (.t 8) (.c (.bool true)) (.t 13)),
 ro 2 (.move (.t 14))])
 .ret)), [.t 2]⟩
theorem fn134 : fnOf 134 = some a134 := by kernel_rfl
def a185 : AFunc := ⟨1, 32, (.seq (.reg [
 rp 1 (.box 3 (.t 0)),
 ro 2 (.move (.c (.bool false)))])
 (.seq (.block 0 (.seq (.seq (.reg [
 ro 4 (.fieldAddr 1 (.t 1)),
 rp 5 (.load false 1 (.t 4)),
 ro 6 (.bin .lss (.t 5) (.c (.int .i64 0))),
 ro 3 (.move (.t 6))])
 (.cond (.t 3)
 .skip
 (.seq (.reg [
 ro 7 (.fieldAddr 0 (.t 1)),
 rp 8 (.load false 1 (.t 7)),
 ro 9 (.bin .eql (.t 8) (.c (.int .i64 1))),
 ro 10 (.move (.t 9)),
 rg 11 (.fieldAddr 2 (.t 1)) 10 true,
 rh 12 (.load false 1 (.t 11)) 10 true,
 rg 13 (.lenL (.t 12)) 10 true,
 rg 14 (.bin .gtr (.t 13) (.c (.int .i64 0))) 10 true,
 ro 15 (.pick (.t 10) (.t 14) (.c (.bool false))),
 ro 3 (.move (.t 15))])
 (.cond (.t 3)
 .skip
 (.seq (.reg [
 ro 16 (.fieldAddr 0 (.t 1)),
 rp 17 (.load false 1 (.t 16)),
 ro 18 (.bin .neq (.t 17) (.c (.int .i64 1))),
 ro 19 (.move (.t 18)),
 rg 20 (.fieldAddr 0 (.t 1)) 19 true,
 rh 21 (.load false 1 (.t 20)) 19 true,
 rg 22 (.bin .neq (.t 21) (.c (.int .i64 2))) 19 true,
 ro 23 (.pick (.t 19) (.t 22) (.c (.bool false))),
 ro 3 (.move (.t 23))])
 (.cond (.t 3)
 .skip
 (.reg [
 ro 24 (.fieldAddr 2 (.t 1)),
 rp 25 (.load false 1 (.t 24)),
 ro 26 (.lenL (.t 25)),
 ro 27 (.bin .gtr (.t 26) (.c (.int .i64 8))),
 ro 3 (.move (.t 27))])))))))
 (.cond (.t 3)
 (.seq (.reg [
 ro 2 (.move (.c (.bool false)))])
 .ret)
 .skip)))
 (.seq (.reg [
 ro 28 (.fieldAddr 2 (.t 1)),
 rp 29 (.load false 1 (.t 28)),
 rp 30 (.call (.f 48) [(.t 29), (.f 232)]),
 ro 31 (.un .not (.t 30)),
 ro 2 (.move (.t 31))])
 .ret))), [.t 2]⟩
theorem fn185 : fnOf 185 = some a185 := by kernel_rfl
def a46 : AFunc := ⟨1, 12, (.seq (.reg [
 rp 1 (.box 3 (.t 0)),
 ro 2 (.move (.c (.int .i64 0))),
 ro 3 (.move (.c (.int .i64 0)))])
 (.seq (.reg [
 rp 4 (.box 2 (.c (.agg [(.int .i64 0), (.int .i64 0)])))])
 (.seq (.seq (.reg [
 rp 5 (.load true 3 (.t 1)),
 rp 6 (.call (.f 133) [(.t 4), (.t 5), (.c (.int .i64 1))])])
 (.seq (.reg [
 rp 7 (.call (.f 134) [(.t 4)])])
 (.cond (.t 7)
 (.seq (.reg [
 ro 2 (.move (.c (.int .i64 2001))),
 ro 3 (.move (.c (.int .i64 201)))])
 .ret)
 .skip)))
 (.seq (.regD [
 ro 8 (.fieldAddr 0 (.t 4)),
  ⟨(some 9), .load false 1 (.t 8), none, true, 1, 1, false⟩,
  ⟨(some 10), .fieldAddr 1 (.t 4), none, false, 2, 0, false⟩,
  ⟨(some 11), .load false 1 (.t 10), none, true, 3, 4, false⟩,
  ⟨(some 2), .move (.t 9), none, false, 4, 3, true⟩,
  ⟨(some 3), .move (.t 11), none, false, 5, 31, true⟩])
 .ret)))), [.t 2, .t 3]⟩
theorem fn46 : fnOf 46 = some a46 := by kernel_rfl
def a96b0 : ACode :=
 (.seq (.reg [
 ro 36 (.bin .lss (.t 35) (.t 34))])
 (.seq (.cond (.t 36)
 .skip
 (.exit 0))
 (.seq (.block 1 (.seq (.reg [
 ro 37 (.idxAddr 3 (.t 33) (.t 35)),
 rp 38 (.load true 3 (.t 37)),
 rp 11 (.box 3 (.c (.agg [(.int .i64 0), (.int .i64 0), (.slice 0 [] .nil)]))),
  ⟨none, .store 3 (.t 11) (.t 38), none, true, 0, 0, false⟩])
 (.seq (.reg [
 ro 40 (.move (.t 0)),
 rp 41 (.load true 3 (.t 11)),
 rp 42 (.call (.f 96) [(.t 40), (.t 41)]),
 ro 39 (.move (.t 42)),
 ro 43 (.extract (.t 39) 0),
 ro 44 (.extract (.t 39) 1),
 ro 12 (.move (.t 43)),
 ro 13 (.move (.t 44))])
 (.seq (.reg [
 ro 45 (.move (.t 7)),
 ro 46 (.move (.t 13)),
 ro 47 (.buildSlice 1 (.int .i64 0) 1 [(0, (.t 46))]),
 rp 48 (.append 1 8 (.t 45) (.t 47)),
 ro 49 (.move (.t 8)),
 ro 50 (.move (.t 12)),
 ro 51 (.buildSlice 1 (.int .i64 0) 1 [(0, (.t 50))]),
 rp 52 (.append 1 8 (.t 49) (.t 51)),
 ro 7 (.move (.t 48)),
 ro 8 (.move (.t 52))])
 (.reg [
 ro 53 (.move (.t 9)),
 ro 54 (.move (.t 13)),
 ro 55 (.bin .add (.t 53) (.t 54)),
 ro 9 (.move (.t 55))])))))
 (.reg [
 ro 56 (.bin .add (.t 35) (.c (.int .i64 1))),
 ro 35 (.move (.t 56))]))))
def a96b1 : ACode :=
 (.seq (.reg [
 ro 60 (.bin .lss (.t 59) (.t 58))])
 (.seq (.cond (.t 60)
 .skip
 (.exit 2))
 (.seq (.block 3 (.seq (.reg [
 ro 61 (.move (.t 59)),
 ro 15 (.move (.t 61))])
 (.seq (.regD [
 ro 62 (.move (.t 0)),
  ⟨(some 63), .nilCheck (.t 62), none, false, 1, 1, false⟩,
  ⟨(some 64), .fieldAddr 0 (.t 63), none, false, 2, 3, false⟩,
  ⟨(some 65), .fieldAddr 1 (.t 64), none, false, 3, 7, false⟩,
  ⟨(some 66), .load false 1 (.t 65), none, true, 4, 15, false⟩,
  ⟨(some 67), .move (.t 15), none, false, 5, 0, false⟩,
  ⟨(some 68), .idxAddr 3 (.t 66) (.t 67), none, false, 6, 63, false⟩,
  ⟨(some 69), .fieldAddr 2 (.t 68), none, false, 7, 127, false⟩,
  ⟨(some 70), .load false 1 (.t 69), none, true, 8, 255, false⟩,
  ⟨(some 71), .fieldAddr 2 (.t 6), none, false, 9, 0, true⟩,
  ⟨(some 72), .load false 1 (.t 71), none, true, 10, 512, true⟩,
  ⟨(some 73), .bin .eql (.t 70) (.t 72), none, false, 11, 2047, true⟩])
 (.cond (.t 73)
 (.reg [
 ro 74 (.move (.t 14)),
 ro 75 (.move (.t 0)),
 ro 76 (.nilCheck (.t 75)),
 ro 77 (.fieldAddr 3 (.t 76)),
 rp 78 (.load false 1 (.t 77)),
 ro 79 (.move (.t 15)),
 ro 80 (.idxAddr 1 (.t 78) (.t 79)),
 rp 81 (.load false 1 (.t 80)),
 ro 82 (.move (.t 9)),
 ro 83 (.bin .sub (.t 82) (.c (.int .i64 1))),
 ro 84 (.idxAddr 61 (.t 81) (.c (.int .i64 0))),
 ro 85 (.idxArr 61 1 (.t 84) (.t 83)),
 rp 86 (.load false 1 (.t 85)),
 rp 87 (.call (.f 124) [(.t 74), (.t 86)]),
 ro 14 (.move (.t 87))])
 .skip))))
 (.reg [
 ro 88 (.bin .add (.t 59) (.c (.int .i64 1))),
 ro 59 (.move (.t 88))]))))
def a96b2 : ACode :=
 (.seq (.seq (.reg [
 ro 99 (.move (.t 20)),
 ro 100 (.move (.t 7)),
 ro 101 (.move (.t 18)),
 ro 102 (.idxAddr 1 (.t 100) (.t 101)),
 rp 103 (.load false 1 (.t 102)),
 ro 104 (.bin .lss (.t 99) (.t 103))])
 (.cond (.t 104)
 .skip
 (.exit 6)))
 (.seq (.block 7 (.regD [
 ro 107 (.move (.t 14)),
  ⟨(some 108), .move (.t 17), none, false, 1, 0, false⟩,
  ⟨(some 109), .move (.t 0), none, false, 2, 0, false⟩,
  ⟨(some 110), .nilCheck (.t 109), none, false, 3, 4, false⟩,
  ⟨(some 111), .fieldAddr 2 (.t 110), none, false, 4, 12, false⟩,
  ⟨(some 112), .load false 1 (.t 111), none, true, 5, 28, false⟩,
  ⟨(some 113), .move (.t 19), none, false, 6, 0, false⟩,
  ⟨(some 114), .move (.t 20), none, false, 7, 0, false⟩,
  ⟨(some 115), .idxAddr 61 (.t 112) (.t 113), none, false, 8, 124, false⟩,
  ⟨(some 116), .idxArr 61 1 (.t 115) (.t 114), none, false, 9, 508, false⟩,
  ⟨(some 117), .load false 1 (.t 116), none, true, 10, 1020, false⟩,
  ⟨(some 118), .call (.f 165) [(.t 108), (.t 117)], none, true, 11, 2046, false⟩,
  ⟨(some 119), .move (.t 0), none, false, 12, 0, false⟩,
  ⟨(some 120), .nilCheck (.t 119), none, false, 13, 4096, false⟩,
  ⟨(some 121), .fieldAddr 3 (.t 120), none, false, 14, 12288, false⟩,
  ⟨(some 122), .load false 1 (.t 121), none, true, 15, 28672, false⟩,
  ⟨(some 123), .fieldAddr 1 (.t 3), none, false, 16, 0, false⟩,
  ⟨(some 124), .load false 1 (.t 123), none, true, 17, 65536, false⟩,
  ⟨(some 125), .idxAddr 1 (.t 122) (.t 124), none, false, 18, 258048, false⟩,
  ⟨(some 126), .load false 1 (.t 125), none, true, 19, 520192, false⟩,
  ⟨(some 127), .move (.t 18), none, false, 20, 0, false⟩,
  ⟨(some 128), .bin .add (.t 127) (.c (.int .i64 1)), none, false, 21, 1048576, false⟩,
  ⟨(some 129), .move (.t 16), none, false, 22, 0, false⟩,
  ⟨(some 130), .move (.t 20), none, false, 23, 0, false⟩,
  ⟨(some 131), .bin .sub (.t 129) (.t 130), none, false, 24, 12582912, false⟩,
  ⟨(some 132), .idxAddr 61 (.t 126) (.t 128), none, false, 25, 4190208, true⟩,
  ⟨(some 133), .idxArr 61 1 (.t 132) (.t 131), none, false, 26, 67104768, true⟩,
  ⟨(some 134), .load false 1 (.t 133), none, true, 27, 134213632, true⟩,
  ⟨(some 135), .call (.f 165) [(.t 118), (.t 134)], none, true, 28, 268435454, true⟩,
  ⟨(some 136), .call (.f 124) [(.t 107), (.t 135)], none, true, 29, 536870911, true⟩,
  ⟨(some 14), .move (.t 136), none, false, 30, 1073741823, true⟩]))
 (.reg [
 ro 105 (.move (.t 20)),
 ro 106 (.bin .add (.t 105) (.c (.int .i64 1))),
 ro 20 (.move (.t 106))])))
def a96b3 : ACode :=
 (.seq (.reg [
 ro 95 (.bin .lss (.t 94) (.t 93))])
 (.seq (.cond (.t 95)
 .skip
 (.exit 4))
 (.seq (.block 5 (.seq (.reg [
 ro 96 (.move (.t 94)),
 ro 97 (.idxAddr 1 (.t 92) (.t 94)),
 rp 98 (.load false 1 (.t 97)),
 ro 18 (.move (.t 96)),
 ro 19 (.move (.t 98))])
 (.seq (.seq (.reg [
 ro 20 (.move (.c (.int .i64 1)))])
 (.block 6 (.loop a96b2)))
 (.seq (.regD [
 ro 137 (.move (.t 17)),
  ⟨(some 138), .move (.t 0), none, false, 1, 0, false⟩,
  ⟨(some 139), .nilCheck (.t 138), none, false, 2, 2, false⟩,
  ⟨(some 140), .fieldAddr 2 (.t 139), none, false, 3, 6, false⟩,
  ⟨(some 141), .load false 1 (.t 140), none, true, 4, 14, false⟩,
  ⟨(some 142), .move (.t 19), none, false, 5, 0, false⟩,
  ⟨(some 143), .move (.t 7), none, false, 6, 0, false⟩,
  ⟨(some 144), .move (.t 18), none, false, 7, 0, false⟩,
  ⟨(some 145), .idxAddr 1 (.t 143) (.t 144), none, false, 8, 192, false⟩,
  ⟨(some 146), .load false 1 (.t 145), none, true, 9, 448, false⟩,
  ⟨(some 147), .idxAddr 61 (.t 141) (.t 142), none, false, 10, 62, true⟩,
  ⟨(some 148), .idxArr 61 1 (.t 147) (.t 146), none, false, 11, 2046, true⟩,
  ⟨(some 149), .load false 1 (.t 148), none, true, 12, 4094, true⟩,
  ⟨(some 150), .call (.f 165) [(.t 137), (.t 149)], none, true, 13, 8191, true⟩,
  ⟨(some 17), .move (.t 150), none, false, 14, 16383, true⟩])
 (.reg [
 ro 151 (.move (.t 16)),
 ro 152 (.move (.t 7)),
 ro 153 (.move (.t 18)),
 ro 154 (.idxAddr 1 (.t 152) (.t 153)),
 rp 155 (.load false 1 (.t 154)),
 ro 156 (.bin .sub (.t 151) (.t 155)),
 ro 16 (.move (.t 156))])))))
 (.reg [
 ro 157 (.bin .add (.t 94) (.c (.int .i64 1))),
 ro 94 (.move (.t 157))]))))
def a96b4 : ACode :=
 (.seq (.seq (.reg [
 ro 162 (.move (.t 22)),
 ro 163 (.bin .geq (.t 162) (.c (.int .i64 0)))])
 (.cond (.t 163)
 .skip
 (.exit 8)))
 (.seq (.block 9 (.seq (.reg [
 ro 166 (.move (.t 14)),
 ro 167 (.move (.t 8)),
 ro 168 (.move (.t 22)),
 ro 169 (.idxAddr 1 (.t 167) (.t 168)),
 rp 170 (.load false 1 (.t 169)),
 ro 171 (.move (.t 21)),
 rp 172 (.call (.f 165) [(.t 170), (.t 171)]),
 rp 173 (.call (.f 124) [(.t 166), (.t 172)]),
 ro 14 (.move (.t 173))])
 (.regD [
 ro 174 (.move (.t 21)),
  ⟨(some 175), .move (.t 0), none, false, 1, 0, false⟩,
  ⟨(some 176), .nilCheck (.t 175), none, false, 2, 2, false⟩,
  ⟨(some 177), .fieldAddr 2 (.t 176), none, false, 3, 6, false⟩,
  ⟨(some 178), .load false 1 (.t 177), none, true, 4, 14, false⟩,
  ⟨(some 179), .fieldAddr 1 (.t 6), none, false, 5, 0, false⟩,
  ⟨(some 180), .load false 1 (.t 179), none, true, 6, 32, false⟩,
  ⟨(some 181), .move (.t 22), none, false, 7, 0, false⟩,
  ⟨(some 182), .idxAddr 1 (.t 180) (.t 181), none, false, 8, 224, false⟩,
  ⟨(some 183), .load false 1 (.t 182), none, true, 9, 480, false⟩,
  ⟨(some 184), .move (.t 7), none, false, 10, 0, false⟩,
  ⟨(some 185), .move (.t 22), none, false, 11, 0, false⟩,
  ⟨(some 186), .idxAddr 1 (.t 184) (.t 185), none, false, 12, 3072, false⟩,
  ⟨(some 187), .load false 1 (.t 186), none, true, 13, 7168, false⟩,
  ⟨(some 188), .idxAddr 61 (.t 178) (.t 183), none, false, 14, 1022, true⟩,
  ⟨(some 189), .idxArr 61 1 (.t 188) (.t 187), none, false, 15, 32766, true⟩,
  ⟨(some 190), .load false 1 (.t 189), none, true, 16, 65534, true⟩,
  ⟨(some 191), .call (.f 165) [(.t 174), (.t 190)], none, true, 17, 131071, true⟩,
  ⟨(some 21), .move (.t 191), none, false, 18, 262143, true⟩])))
 (.reg [
 ro 164 (.move (.t 22)),
 ro 165 (.bin .sub (.t 164) (.c (.int .i64 1))),
 ro 22 (.move (.t 165))])))
def a96 : AFunc := ⟨2, 194, (.seq (.reg [
 rp 3 (.box 3 (.t 1)),
 ro 4 (.move (.c (.int .i64 0))),
 ro 5 (.move (.c (.int .i64 0)))])
 (.seq (.regD [
  ⟨(some 6), .box 3 (.c (.agg [(.str ⟨#[]⟩), (.slice 0 [] .nil), (.int .i64 0)])), none, true, 9, 0, false⟩,
 ro 23 (.move (.t 0)),
  ⟨(some 24), .nilCheck (.t 23), none, false, 1, 1, false⟩,
  ⟨(some 25), .fieldAddr 0 (.t 24), none, false, 2, 3, false⟩,
  ⟨(some 26), .fieldAddr 1 (.t 25), none, false, 3, 7, false⟩,
  ⟨(some 27), .load false 1 (.t 26), none, true, 4, 15, false⟩,
  ⟨(some 28), .fieldAddr 1 (.t 3), none, false, 5, 0, true⟩,
  ⟨(some 29), .load false 1 (.t 28), none, true, 6, 32, true⟩,
  ⟨(some 30), .idxAddr 3 (.t 27) (.t 29), none, false, 7, 127, true⟩,
  ⟨(some 31), .load true 3 (.t 30), none, true, 8, 255, true⟩,
  ⟨none, .store 3 (.t 6) (.t 31), none, true, 10, 1023, true⟩])
 (.seq (.reg [
 ro 7 (.move (.c (.slice 0 [] .nil)))])
 (.seq (.reg [
 ro 8 (.move (.c (.slice 0 [] .nil)))])
 (.seq (.reg [
 ro 9 (.move (.c (.int .i64 1)))])
 (.seq (.seq (.reg [
 ro 32 (.fieldAddr 2 (.t 3)),
 rp 33 (.load false 1 (.t 32)),
 ro 34 (.lenL (.t 33)),
 ro 35 (.move (.c (.int .i64 0)))])
 (.block 0 (.loop a96b0)))
 (.seq (.reg [
 ro 14 (.move (.c (.int .i64 0)))])
 (.seq (.seq (.reg [
 ro 57 (.fieldAddr 1 (.t 3)),
 rp 58 (.load false 1 (.t 57)),
 ro 59 (.move (.c (.int .i64 0)))])
 (.block 2 (.loop a96b1)))
 (.seq (.reg [
 ro 89 (.move (.t 9)),
 ro 90 (.bin .sub (.t 89) (.c (.int .i64 1))),
 ro 16 (.move (.t 90)),
 ro 17 (.move (.c (.int .i64 1)))])
 (.seq (.seq (.reg [
 ro 91 (.fieldAddr 1 (.t 6)),
 rp 92 (.load false 1 (.t 91)),
 ro 93 (.lenL (.t 92)),
 ro 94 (.move (.c (.int .i64 0)))])
 (.block 4 (.loop a96b3)))
 (.seq (.reg [
 ro 21 (.move (.c (.int .i64 1)))])
 (.seq (.seq (.reg [
 ro 158 (.fieldAddr 1 (.t 6)),
 rp 159 (.load false 1 (.t 158)),
 ro 160 (.lenL (.t 159)),
 ro 161 (.bin .sub (.t 160) (.c (.int .i64 1))),
 ro 22 (.move (.t 161))])
 (.block 8 (.loop a96b4)))
 (.seq (.reg [
 ro 192 (.move (.t 14)),
 ro 193 (.move (.t 9)),
 ro 4 (.move (.t 192)),
 ro 5 (.move (.t 193))])
 .ret))))))))))))), [.t 4, .t 5]⟩
theorem fn96 : fnOf 96 = some a96 := by kernel_rfl
def a232 : AFunc := ⟨1, 6, (.seq (.reg [
 rp 1 (.box 3 (.t 0)),
 ro 2 (.move (.c (.bool false)))])
 (.seq (.reg [
 rp 3 (.load true 3 (.t 1)),
 rp 4 (.call (.f 185) [(.t 3)]),
 ro 5 (.un .not (.t 4)),
 ro 2 (.move (.t 5))])
 .ret)), [.t 2]⟩
theorem fn232 : fnOf 232 = some a232 := by kernel_rfl
end Go.Proofs.Tryz
/- Terms as values; a part of the heap that is written; count, over, Size. -/
namespace Go.Proofs.Tryz
open Go Go.AE
variable {T : Tbl} (hT : Std T)
theorem Enc.facts {t : Tm} {p : PV} (h : Enc t p) : p.top = none ∧ (p.pure = true ∧ p.weak = p) := by
 induction h with
 | mk k n l sz es hs hl he ih =>
   have hall : ∀ p ∈ es, p.top = none ∧ (p.pure = true ∧ p.weak = p) := fun p hp => by
    obtain ⟨i, hi, rfl⟩ := List.getElem_of_mem hp
    exact ih i l[i] _ (List.getElem?_eq_getElem (by omega)) (List.getElem?_eq_getElem hi)
   have h1 : ∀ l : List PV, (∀ x ∈ l, x.top = none ∧ (x.pure = true ∧ x.weak = x)) → tops l = none ∧ pures l = true ∧ weaks l = l := fun l => by
    induction l with
    | nil => intro _; exact ⟨rfl, rfl, rfl⟩
    | cons x l ihl =>
      intro hx
      obtain ⟨a, b, c⟩ := ihl fun y hy => hx y (by simp [hy])
      obtain ⟨d, e, f⟩ := hx x (by simp)
      simp [tops, omax, pures, weaks, a, b, c, d, e, f]
   obtain ⟨a, b, c⟩ := h1 es hall
   simp [PV.top, tops, omax, PV.pure, pures, PV.weak, weaks, a, b, c]
theorem Enc.cells {t : Tm} {p : PV} (h : Enc t p) : p.cells.length = 3 ∧ p.cells.all PV.isCell = true ∧ p.isDef = true ∧ ∃ cs, p = .agg cs := by
 cases h
 exact ⟨rfl, rfl, rfl, _, rfl⟩
theorem Enc.sub {t : Tm} {p : PV} (h : Enc t p) : sub true 3 p 0 = some p := by
 cases h
 rfl
theorem nodesL_get {l : List Tm} {i : Nat} {t : Tm} (h : l[i]? = some t) : nodesL (l.take i) + t.nodes + nodesL (l.drop (i + 1)) = nodesL l := by
 induction l generalizing i with
 | nil => simp at h
 | cons x l ih =>
   cases i with
   | zero =>
     simp only [List.getElem?_cons_zero, Option.some.injEq] at h
     subst h
     simp [nodesL]
   | succ i =>
     have := ih (by simpa using h)
     simp only [List.take_succ_cons, List.drop_succ_cons, nodesL]
     omega
structure Mod (h H : List AE.Obj) (km : Nat) (o : AE.Obj) : Prop where
 take : H.take h.length = h.set km o
 len : h.length ≤ H.length
 lt : km < h.length
theorem Mod.refl {h : List AE.Obj} {km : Nat} {o : AE.Obj} (hk : h[km]? = some o) : Mod h h km o := ⟨by rw [List.take_length, set_self hk], Nat.le_refl _, (List.getElem?_eq_some_iff.1 hk).1⟩
theorem Mod.get {h H : List AE.Obj} {km : Nat} {o : AE.Obj} (M : Mod h H km o) : H[km]? = some o := by
 have h1 : (H.take h.length)[km]? = some o := by rw [M.take, List.getElem?_set_self M.lt]
 rwa [List.getElem?_take_of_lt M.lt] at h1
theorem Mod.old {h H : List AE.Obj} {km k : Nat} {o x : AE.Obj} (M : Mod h H km o) (hk : h[k]? = some x) (hne : km ≠ k) : H[k]? = some x := by
 have hl := (List.getElem?_eq_some_iff.1 hk).1
 have h1 : (H.take h.length)[k]? = some x := by rw [M.take, List.getElem?_set_ne hne]; exact hk
 rwa [List.getElem?_take_of_lt hl] at h1
theorem Mod.push {h H : List AE.Obj} {km : Nat} {o o' : AE.Obj} (M : Mod h H km o) : Mod h (H ++ [o']) km o := ⟨by rw [List.take_append_of_le_length M.len]; exact M.take, by have := M.len; simp; omega, M.lt⟩
theorem Mod.put {h H : List AE.Obj} {km : Nat} {o o' : AE.Obj} (M : Mod h H km o) : Mod h (H.set km o') km o' := by
 refine ⟨?_, by simpa using M.len, M.lt⟩
 rw [List.take_set, M.take, List.set_set]
def okWs (h : List AE.Obj) (km : Nat) (ws : List Nat) : Prop := ∀ x ∈ ws, x = km ∨ h.length ≤ x
theorem okWs.add {h : List AE.Obj} {km k : Nat} {ws : List Nat} (W : okWs h km ws) (hk : k = km ∨ h.length ≤ k) : okWs h km (wadd k ws) := fun x hx => by
 rcases mem_wadd hx with rfl | hx
 · exact hk
 · exact W x hx
theorem okWs.wall {h : List AE.Obj} {km : Nat} {a b : List Nat} (A : okWs h km a) (B : okWs h km b) : okWs h km (wall a b) := fun x hx => by
 rcases mem_wall hx with hx | hx
 · exact A x hx
 · exact B x hx
theorem tidy_mod {h H : List AE.Obj} {km : Nat} {o : AE.Obj} {v : PV} {ws : List Nat} (hp : v.pure = true) (M : Mod h H km o) (W : okWs h km ws) : ∃ ws', tidy 0 h.length (.val v) ⟨H, ws, []⟩ = (.val v.weak, ⟨h.set km o, ws', []⟩) ∧ ∀ x ∈ ws', x = km := by
 refine ⟨below h.length ws, ?_, fun x hx => ?_⟩
 · unfold tidy
   have hf : frz H h.length 64 v = some v.weak := frz_pure hp
   simp [OR.v, hf, M.take, OR.put]
 · obtain ⟨h1, h2⟩ := List.mem_filter.1 hx
   have h2 : x < h.length := by simpa using h2
   rcases W x h1 with h | h
   · exact h
   · omega
@[go_sem] theorem tupled_nil : tupled [] = .tuple [] := rfl
theorem st2_0 {H : List AE.Obj} {ws : List Nat} {ups : List (Nat × Nat)} {k : Nat} {a b : PV} {v : Int} (hk : H[k]? = some (.row 2 [.agg [a, b]])) :
 storeAt 1 (.ptr k 0 0 1) (.int .i64 v) ⟨H, ws, ups⟩ = some ⟨H.set k (.row 2 [.agg [.int .i64 v, b]]), wadd k ws, ups⟩ := by
 have hu : upd (.agg [a, b]) 0 (.int .i64 v) = some (.agg [.int .i64 v, b]) := rfl
 simp only [storeAt, hk, List.length_cons, List.length_nil, PV.cells, List.all_cons, List.all_nil, PV.isCell, Bool.and_self, and_self, if_true, List.getElem?_cons_zero, hu, Option.map, List.set_cons_zero, PV.top, wrote_none]
theorem st2_1 {H : List AE.Obj} {ws : List Nat} {ups : List (Nat × Nat)} {k : Nat} {a b : PV} {v : Int} (hk : H[k]? = some (.row 2 [.agg [a, b]])) :
 storeAt 1 (.ptr k 0 1 1) (.int .i64 v) ⟨H, ws, ups⟩ = some ⟨H.set k (.row 2 [.agg [a, .int .i64 v]]), wadd k ws, ups⟩ := by
 have hu : upd (.agg [a, b]) 1 (.int .i64 v) = some (.agg [a, .int .i64 v]) := rfl
 simp only [storeAt, hk, List.length_cons, List.length_nil, PV.cells, List.all_cons, List.all_nil, PV.isCell, Bool.and_self, and_self, if_true, List.getElem?_cons_zero, hu, Option.map, List.set_cons_zero, PV.top, wrote_none]
def mRow (nd dp : Int) : AE.Obj := .row 2 [.agg [.int .i64 nd, .int .i64 dp]]
include hT in
theorem count_ev {t : Tm} {p : PV} (ht : Enc t p) : ∀ (h : List AE.Obj) (km : Nat) (nd dp d : Int), h[km]? = some (mRow nd dp) → 0 ≤ nd → nd + t.nodes ≤ 2000 → 0 ≤ dp → dp ≤ 200 → 1 ≤ d → d + t.nodes ≤ 201 →
 ∃ dp' ws', Ev T 133 [.ptr km 0 0 1, p, .int .i64 d] h (.val (.tuple []), ⟨h.set km (mRow (nd + t.nodes) dp'), ws', []⟩) ∧ (0 ≤ dp' ∧ dp' ≤ 200) ∧ ∀ x ∈ ws', x = km := by
 have hc := ht.cells
 have hf := ht.facts
 induction ht with
 | mk k n l sz es hs hl he ih =>
   intro h km nd dp d hk hnd hnd2 hdp hdp2 hd hd2
   have W : ∃ (x : Int × List Nat), Ev T 133 [.ptr km 0 0 1, .agg [.int .i64 k, .int .i64 n, .slice sz es .any], .int .i64 d] h (.val (.tuple []), ⟨h.set km (mRow (nd + (Tm.mk k n l).nodes) x.1), x.2, []⟩) ∧ ((0 ≤ x.1 ∧ x.1 ≤ 200) ∧ ∀ y ∈ x.2, y = km) := by
    refine Ev.walkP (r := fun (x : Int × List Nat) => (.val (.tuple []), ⟨h.set km (mRow (nd + (Tm.mk k n l).nodes) x.1), x.2, []⟩)) (hT.sp _ (by decide)) ((hT.fn _).trans fn133) (hT.mode _) rfl ?_
    simp only [Tm.nodes] at hnd2 hd2 ⊢
    have hlt := (List.getElem?_eq_some_iff.1 hk).1
    have M0 := Mod.refl hk
    generalize hP : PV.agg [.int .i64 k, .int .i64 n, .slice sz es .any] = P at *
    have M1 : Mod h (h ++ [AE.Obj.row 3 [P]]) km (mRow nd dp) := M0.push
    have kb : (h ++ [AE.Obj.row 3 [P]])[h.length]? = some (.row 3 [P]) := by simp
    generalize hH1 : h ++ [AE.Obj.row 3 [P]] = H1 at *
    have l0 : loadAt false 1 (.ptr km 0 0 1) H1 = some (.int .i64 nd) := by rw [ld_at M1.get]; rfl
    have s0 := fun ws ups => st2_0 (ws := ws) (ups := ups) (v := nd + 1) M1.get
    have M2 := M1.put (o' := mRow (nd + 1) dp)
    have kb2 : (H1.set km (mRow (nd + 1) dp))[h.length]? = some (.row 3 [P]) := get_set_ne kb (by omega)
    have e2 : H1.set km (.row 2 [.agg [.int .i64 (nd + 1), .int .i64 dp]]) = H1.set km (mRow (nd + 1) dp) := rfl
    generalize hH2 : H1.set km (mRow (nd + 1) dp) = H2 at *
    have l1 : loadAt false 1 (.ptr km 0 1 1) H2 = some (.int .i64 dp) := by rw [ld_at M2.get]; rfl
    have s1 := fun ws ups => st2_1 (ws := ws) (ups := ups) (v := max dp d) M2.get
    have M3 := M2.put (o' := mRow (nd + 1) (max dp d))
    have kb3 : (H2.set km (mRow (nd + 1) (max dp d)))[h.length]? = some (.row 3 [P]) := get_set_ne kb2 (by omega)
    have e3 : H2.set km (.row 2 [.agg [.int .i64 (nd + 1), .int .i64 (max dp d)]]) = H2.set km (mRow (nd + 1) (max dp d)) := rfl
    generalize hH3 : H2.set km (mRow (nd + 1) (max dp d)) = H3 at *
    have l2 : loadAt false 1 (.ptr h.length 0 2 1) H3 = some (.slice sz es .any) := by rw [ld_at kb3, ← hP]; rfl
    obtain ⟨c1, c2, c3, c4⟩ := hc
    have hln := nodesL_len l
    simp (disch := first | omega | decide | simp only [go_sem]) only [go_sem, hH1, l0, s0, e2, l1, s1, e3, l2, c1, c3, List.length_cons, List.length_nil]
    refine wpC.loopM (fun g e st => ∃ (i : Nat) (dp1 : Int) (H : List AE.Obj) (ws : List Nat), i + g = es.length ∧ Mod h H km (mRow (nd + 1 + nodesL (l.take i)) dp1) ∧ (0 ≤ dp1 ∧ dp1 ≤ 200) ∧ okWs h km ws ∧ eget e 0 = .ptr km 0 0 1 ∧ eget e 2 = .int .i64 d ∧ eget e 25 = .slice sz es .any ∧ eget e 26 = .int .i64 (es.length : Int) ∧ eget e 27 = .int .i64 (i : Int) ∧ st = ⟨H, ws, []⟩) ?_ es.length _ _
     ⟨0, max dp d, H3, _, by omega, by simpa [nodesL] using M3, ⟨by omega, by omega⟩, okWs.add (okWs.add (fun x hx => by simp at hx) (.inl rfl)) (.inl rfl), by simp (disch := first | omega | decide | simp only [go_sem]) only [go_sem], by simp (disch := first | omega | decide | simp only [go_sem]) only [go_sem], by simp (disch := first | omega | decide | simp only [go_sem]) only [go_sem], by simp (disch := first | omega | decide | simp only [go_sem]) only [go_sem], by simp (disch := first | omega | decide | simp only [go_sem]) only [go_sem]; rfl, rfl⟩
    rintro g e st ⟨i, dp1, H, ws, hi, M, hdp1, W, e0, e2, e25, e26, e27, rfl⟩
    by_cases h1 : i < es.length
    · have ga := get_lt h1
      have hx : l[i]? = some l[i] := List.getElem?_eq_getElem (by omega)
      have hE := he i l[i] es[i] hx ga
      have ihx := ih i l[i] es[i] hx ga hE.cells hE.facts
      have htk := nodesL_take hx
      have hgt := nodesL_get hx
      have hpos := nodes_pos l[i]
      generalize l[i] = x at *
      have hsz : sz = 3 := by
       rcases hs with rfl | h
       · simp at h1
       · exact h
      subst hsz
      obtain ⟨b1, b2, b3, b4⟩ := hE.cells
      have bt := hE.facts.1
      have bs := hE.sub
      generalize es[i] = q at *
      have sb := st_box (h := H) (ws := ws) (ups := []) (z := .agg [(.int .i64 0), (.int .i64 0), (.slice 0 [] .nil)]) (sz := 3) (c := q) b1 rfl b2 bt ⟨_, rfl⟩ b4
      have M1 := M.push (o' := AE.Obj.row 3 [q])
      have kq : (H ++ [AE.Obj.row 3 [q]])[H.length]? = some (.row 3 [q]) := by simp
      generalize hH5 : H ++ [AE.Obj.row 3 [q]] = H5 at *
      have ln : loadAt false 1 (.ptr km 0 0 1) H5 = some (.int .i64 (nd + 1 + nodesL (l.take i))) := by rw [ld_at M1.get]; rfl
      have ld : loadAt false 1 (.ptr km 0 1 1) H5 = some (.int .i64 dp1) := by rw [ld_at M1.get]; rfl
      have lq : loadAt true 3 (.ptr H.length 0 0 1) H5 = some q := by rw [ld_at kq]; exact bs
      obtain ⟨dp2, ws2, ev, hd2', hw2⟩ := ihx H5 km (nd + 1 + nodesL (l.take i)) dp1 (d + 1) M1.get (by omega) (by omega) hdp1.1 hdp1.2 (by omega) (by omega)
      have n1 : ¬ (2000 : Int) < nd + 1 + nodesL (l.take i) := by omega
      have n2 : ¬ (200 : Int) < dp1 := by omega
      have hMl := M.len
      simp (disch := first | omega | decide | simp only [go_sem]) only [go_sem, a133b0, e0, e2, e25, e26, e27, h1, ga, bs, sb, hH5, ln, ld, lq, n1, n2, cb ev, hT.prim, primOf, List.length_cons, List.length_nil]
      exact ⟨g - 1, by omega, i + 1, dp2, _, _, by omega, by rw [htk, show (nd + 1 + ((nodesL (l.take i) + x.nodes : Nat) : Int)) = nd + 1 + (nodesL (l.take i) : Int) + (x.nodes : Int) by omega]; exact M1.put, hd2', okWs.wall (fun y hy => .inl (hw2 y hy)) (W.add (.inr hMl)), rfl, rfl⟩
    · have : i = l.length := by omega
      subst this
      obtain ⟨ws', ht1, ht2⟩ := tidy_mod (v := .tuple []) rfl M W
      simp (disch := first | omega | decide | simp only [go_sem]) only [go_sem, a133b0, e0, e2, e25, e26, e27, h1, ht1]
      refine ⟨(dp1, ws'), ?_, hdp1, ht2⟩
      rw [List.take_length, show (nd + ((1 + nodesL l : Nat) : Int)) = nd + 1 + (nodesL l : Int) by omega]
      rfl
   obtain ⟨x, h1, h2, h3⟩ := W
   exact ⟨x.1, x.2, h1, h2, h3⟩
end Go.Proofs.Tryz
/- over, Size, shaped, isTree. -/
namespace Go.Proofs.Tryz
open Go Go.AE
variable {T : Tbl} (hT : Std T)
include hT in
theorem over_ev {h : List AE.Obj} {km : Nat} {nd dp : Int} (hk : h[km]? = some (mRow nd dp)) (h1 : nd ≤ 2000) (h2 : dp ≤ 200) : Ev T 134 [.ptr km 0 0 1] h (.val (.bool false), ⟨h, [], []⟩) := by
 refine Ev.walk (hT.sp _ (by decide)) ((hT.fn _).trans fn134) (hT.mode _) rfl ?_
 have l0 : loadAt false 1 (.ptr km 0 0 1) h = some (.int .i64 nd) := by rw [ld_at hk]; rfl
 have l1 : loadAt false 1 (.ptr km 0 1 1) h = some (.int .i64 dp) := by rw [ld_at hk]; rfl
 have n1 : ¬ (2000 : Int) < nd := by omega
 have n2 : ¬ (200 : Int) < dp := by omega
 simp (disch := first | omega | decide | simp only [go_sem]) only [go_sem, l0, l1, n1, n2]
include hT in
theorem size_ev {t : Tm} {p : PV} (ht : Enc t p) (hn : t.nodes ≤ 200) (h : List AE.Obj) : ∃ d : Int, Ev T 46 [p] h (.val (.tuple [.int .i64 (t.nodes : Int), .int .i64 d]), ⟨h, [], []⟩) ∧ True := by
 refine Ev.walkP (r := fun d : Int => (.val (.tuple [.int .i64 (t.nodes : Int), .int .i64 d]), ⟨h, [], []⟩)) (hT.sp _ (by decide)) ((hT.fn _).trans fn46) (hT.mode _) rfl ?_
 obtain ⟨c1, c2, c3, c4⟩ := ht.cells
 have hs := ht.sub
 have kp : (h ++ [AE.Obj.row 3 [p]])[h.length]? = some (.row 3 [p]) := by simp
 have low1 : Low h.length h (h ++ [AE.Obj.row 3 [p]]) := (Low.refl _ _).push (Nat.le_refl _)
 have hl1 : (h ++ [AE.Obj.row 3 [p]]).length = h.length + 1 := by simp
 generalize hH1 : h ++ [AE.Obj.row 3 [p]] = H1 at *
 have km : (H1 ++ [AE.Obj.row 2 [PV.agg [.int .i64 0, .int .i64 0]]])[H1.length]? = some (mRow 0 0) := by simp [mRow]
 have kp2 : (H1 ++ [AE.Obj.row 2 [PV.agg [.int .i64 0, .int .i64 0]]])[h.length]? = some (.row 3 [p]) := keepL kp
 have low2 : Low h.length h (H1 ++ [AE.Obj.row 2 [PV.agg [.int .i64 0, .int .i64 0]]]) := low1.push (by omega)
 generalize hH2 : H1 ++ [AE.Obj.row 2 [PV.agg [.int .i64 0, .int .i64 0]]] = H2 at *
 have lp : loadAt true 3 (.ptr h.length 0 0 1) H2 = some p := by rw [ld_at kp2]; exact hs
 obtain ⟨dp, ws, ev, hd, hw⟩ := count_ev hT ht H2 H1.length 0 0 1 km (by omega) (by omega) (by omega) (by omega) (by omega) (by omega)
 rw [Int.zero_add] at ev
 have km3 : (H2.set H1.length (mRow (t.nodes : Int) dp))[H1.length]? = some (mRow (t.nodes : Int) dp) := get_set km
 have low3 : Low h.length h (H2.set H1.length (mRow (t.nodes : Int) dp)) := low2.trans (.set (by omega))
 generalize hH3 : H2.set H1.length (mRow (t.nodes : Int) dp) = H3 at *
 have ov := over_ev hT km3 (by omega) hd.2
 have l0 : loadAt false 1 (.ptr H1.length 0 0 1) H3 = some (.int .i64 (t.nodes : Int)) := by rw [ld_at km3]; rfl
 have l1 : loadAt false 1 (.ptr H1.length 0 1 1) H3 = some (.int .i64 dp) := by rw [ld_at km3]; rfl
 simp (disch := first | omega | decide | simp only [go_sem]) only [go_sem, hH1, c1, c3, List.length_cons, List.length_nil, hH2, lp, cb ev, cb ov, l0, l1, hT.prim, primOf]
 refine ⟨dp, ?_, trivial⟩
 exact tidy_low rfl rfl low3 (fun x hx => by
  repeat' first | (have := hw x hx; omega) | (cases hx; done) | (rcases mem_wall hx with hx | hx))
mutual
def shapedF : Tm → Bool
 | .mk k n l => decide (0 ≤ n) && !(k == 1 && decide (0 < l.length)) && (k == 1 || k == 2) && decide (l.length ≤ 8) && shapedL l
def shapedL : List Tm → Bool
 | [] => true
 | t :: l => shapedF t && shapedL l
end
theorem shapedL_all : ∀ l : List Tm, shapedL l = l.all shapedF
 | [] => rfl
 | t :: l => by simp only [shapedL, List.all_cons, shapedL_all l]
include hT in
theorem index135_tot {g : FuncId} {cap : List PV} {f : Tm → Bool} {h : List AE.Obj} (hg : T.prim g = none) {l : List Tm} {sz : Nat} {es : List PV} {m : SM} (hs : es = [] ∨ sz = 3) (hl : es.length = l.length) (he : ∀ (i : Nat) (x : Tm) (p : PV), l[i]? = some x → es[i]? = some p → Enc x p)
 (hf : ∀ (i : Nat) (x : Tm) (p : PV), l[i]? = some x → es[i]? = some p → Ev T g (p :: cap) h (.val (.bool (f x)), ⟨h, [], []⟩)) (hal : es.length < 1000000) :
 ∃ r : Int, Ev T 135 [.slice sz es m, .func (.func g) [] cap] h (.val (.int .i64 r), ⟨h, [], []⟩) ∧ (decide (0 ≤ r) = l.any f) := by
 refine Ev.walkP (hT.sp _ (by decide)) ((hT.fn _).trans fn135) (hT.mode _) rfl ?_
 simp (disch := first | omega | decide | simp only [go_sem]) only [go_sem]
 refine wpC.loopM (fun n e s => ∃ i : Nat, i + n = es.length ∧ eget e 0 = .slice sz es m ∧ eget e 1 = .func (.func g) [] cap ∧ eget e 7 = .int .i64 (es.length : Int) ∧ eget e 8 = .int .i64 (i : Int) ∧ (∀ j (hj : j < l.length), j < i → f l[j] = false) ∧ s = ⟨h, [], []⟩) ?_ es.length _ _ ⟨0, by simp, by simp (disch := first | omega | decide | simp only [go_sem]) only [go_sem], by simp (disch := first | omega | decide | simp only [go_sem]) only [go_sem], by simp (disch := first | omega | decide | simp only [go_sem]) only [go_sem], by simp (disch := first | omega | decide | simp only [go_sem]) only [go_sem]; rfl, fun j _ hj => by omega, rfl⟩
 rintro n e s ⟨i, hi, e0, e1, e7, e8, hp, rfl⟩
 by_cases h1 : i < es.length
 · have ga := get_lt h1
   have hx : l[i]? = some l[i] := List.getElem?_eq_getElem (by omega)
   have hE := he i l[i] es[i] hx ga
   have ev := hf i l[i] es[i] hx ga
   have bs := hE.sub
   have hsz : sz = 3 := by
    rcases hs with rfl | h
    · simp at h1
    · exact h
   subst hsz
   simp (disch := first | omega | decide | simp only [go_sem]) only [go_sem, a135b0, e0, e1, e7, e8, h1, ga, bs, hg, cb ev]
   refine bifs (fun hpi => ⟨(i : Int), rfl, by rw [any_of (show i < l.length by omega) hpi]; simp⟩) (fun hpi => ⟨n - 1, by omega, i + 1, by omega, rfl, fun j hj hji => ?_, trivial⟩)
   by_cases hjj : j = i
   · subst hjj; exact hpi
   · exact hp j hj (by omega)
 · simp (disch := first | omega | decide | simp only [go_sem]) only [go_sem, a135b0, e0, e1, e7, e8, h1]
   exact ⟨_, rfl, by rw [any_none fun j hj => hp j hj (by omega)]; rfl⟩
include hT in
theorem contains48_ev {g : FuncId} {cap : List PV} {f : Tm → Bool} {h : List AE.Obj} (hg : T.prim g = none) {l : List Tm} {sz : Nat} {es : List PV} {m : SM} (hs : es = [] ∨ sz = 3) (hl : es.length = l.length) (he : ∀ (i : Nat) (x : Tm) (p : PV), l[i]? = some x → es[i]? = some p → Enc x p)
 (hf : ∀ (i : Nat) (x : Tm) (p : PV), l[i]? = some x → es[i]? = some p → Ev T g (p :: cap) h (.val (.bool (f x)), ⟨h, [], []⟩)) (hal : es.length < 1000000) :
 Ev T 48 [.slice sz es m, .func (.func g) [] cap] h (.val (.bool (l.any f)), ⟨h, [], []⟩) := by
 obtain ⟨r, hr, kr⟩ := index135_tot hT (m := m) hg hs hl he hf hal
 rw [← kr]
 refine Ev.walk (hT.sp _ (by decide)) ((hT.fn _).trans fn48) (hT.mode _) rfl ?_
 simp (disch := first | omega | decide | simp only [go_sem]) only [go_sem, cb hr, hT.prim, primOf]
include hT in
theorem shaped_ev {t : Tm} {p : PV} (ht : Enc t p) : ∀ h : List AE.Obj, Ev T 185 [p] h (.val (.bool (shapedF t)), ⟨h, [], []⟩) := by
 have hc := ht.cells
 induction ht with
 | mk k n l sz es hs hl he ih =>
   intro h
   refine Ev.walk (hT.sp _ (by decide)) ((hT.fn _).trans fn185) (hT.mode _) rfl ?_
   obtain ⟨c1, c2, c3, c4⟩ := hc
   generalize hP : PV.agg [.int .i64 k, .int .i64 n, .slice sz es .any] = P at *
   have kb : (h ++ [AE.Obj.row 3 [P]])[h.length]? = some (.row 3 [P]) := by simp
   have low : Low h.length h (h ++ [AE.Obj.row 3 [P]]) := (Low.refl _ _).push (Nat.le_refl _)
   generalize hH1 : h ++ [AE.Obj.row 3 [P]] = H1 at *
   have l0 : loadAt false 1 (.ptr h.length 0 0 1) H1 = some (.int .i64 k) := by rw [ld_at kb, ← hP]; rfl
   have l1 : loadAt false 1 (.ptr h.length 0 1 1) H1 = some (.int .i64 n) := by rw [ld_at kb, ← hP]; rfl
   have l2 : loadAt false 1 (.ptr h.length 0 2 1) H1 = some (.slice sz es .any) := by rw [ld_at kb, ← hP]; rfl
   have td : ∀ b, tidy 0 h.length (.val (.bool b)) ⟨H1, [], []⟩ = (.val (.bool b), ⟨h, [], []⟩) := fun b => tidy_low rfl rfl low (by simp)
   have sh1 : ∀ (i : Nat) (x : Tm) (p : PV), l[i]? = some x → es[i]? = some p → Ev T 232 [p] H1 (.val (.bool (!shapedF x)), ⟨H1, [], []⟩) := fun i x q hx hq => by
    have hE := he i x q hx hq
    have ev := ih i x q hx hq hE.cells
    obtain ⟨b1, b2, b3, b4⟩ := hE.cells
    refine Ev.walk (hT.sp _ (by decide)) ((hT.fn _).trans fn232) (hT.mode _) rfl ?_
    have kq : (H1 ++ [AE.Obj.row 3 [q]])[H1.length]? = some (.row 3 [q]) := by simp
    have lowq : Low H1.length H1 (H1 ++ [AE.Obj.row 3 [q]]) := (Low.refl _ _).push (Nat.le_refl _)
    have lq : loadAt true 3 (.ptr H1.length 0 0 1) (H1 ++ [AE.Obj.row 3 [q]]) = some q := by rw [ld_at kq]; exact hE.sub
    simp (disch := first | omega | decide | simp only [go_sem]) only [go_sem, b1, b3, lq, cb (ev _), hT.prim, primOf]
   by_cases hn : 0 ≤ n
   · have hn' : ¬ n < 0 := by omega
     by_cases h8 : l.length ≤ 8
     · have h8' : ¬ (8 : Int) < (es.length : Int) := by omega
       have ct := contains48_ev hT (g := 232) (cap := []) (f := fun x => !shapedF x) (m := .any) (by rw [hT.prim]; rfl) hs hl he sh1 (by omega)
       have hany : (!l.any fun x => !shapedF x) = shapedL l := by rw [shapedL_all, List.all_eq_not_any_not]
       by_cases k1 : k = 1
       · subst k1
         by_cases hz : 0 < l.length
         · have hz' : (0 : Int) < (es.length : Int) := by omega
           have b11 : ((1 : Int) == 1) = true := rfl
           simp (disch := first | omega | decide | simp only [go_sem]) only [go_sem, hH1, c1, c3, l0, l1, l2, hn', hz', b11, td]
           simp [shapedF, hn, hz]
         · have hz' : ¬ (0 : Int) < (es.length : Int) := by omega
           have b11 : ((1 : Int) == 1) = true := rfl
           have b12 : ((1 : Int) != 1) = false := rfl
           simp (disch := first | omega | decide | simp only [go_sem]) only [go_sem, hH1, c1, c3, l0, l1, l2, hn', hz', b11, b12, h8', cb ct, hT.prim, primOf, td]
           rw [hany]
           simp [shapedF, hn, hz, h8]
       · have b1 : (k == 1) = false := by simpa using k1
         have b2 : (k != 1) = true := by simpa using k1
         by_cases k2 : k = 2
         · subst k2
           have b3 : ((2 : Int) != 2) = false := rfl
           simp (disch := first | omega | decide | simp only [go_sem]) only [go_sem, hH1, c1, c3, l0, l1, l2, hn', b1, b2, b3, h8', cb ct, hT.prim, primOf, td]
           rw [hany]
           simp [shapedF, hn, h8]
         · have b3 : (k != 2) = true := by simpa using k2
           simp (disch := first | omega | decide | simp only [go_sem]) only [go_sem, hH1, c1, c3, l0, l1, l2, hn', b1, b2, b3, h8', td]
           simp [shapedF, k1, k2]
     · have h8' : (8 : Int) < (es.length : Int) := by omega
       have hf : shapedF (.mk k n l) = false := by simp [shapedF]; intros; omega
       rw [hf]
       by_cases k1 : k = 1
       · subst k1
         have hz' : (0 : Int) < (es.length : Int) := by omega
         have b11 : ((1 : Int) == 1) = true := rfl
         simp (disch := first | omega | decide | simp only [go_sem]) only [go_sem, hH1, c1, c3, l0, l1, l2, hn', hz', b11, td]
       · have b1 : (k == 1) = false := by simpa using k1
         have b2 : (k != 1) = true := by simpa using k1
         by_cases k2 : k = 2
         · subst k2
           have b3 : ((2 : Int) != 2) = false := rfl
           simp (disch := first | omega | decide | simp only [go_sem]) only [go_sem, hH1, c1, c3, l0, l1, l2, hn', b1, b2, b3, h8', td]
         · have b3 : (k != 2) = true := by simpa using k2
           simp (disch := first | omega | decide | simp only [go_sem]) only [go_sem, hH1, c1, c3, l0, l1, l2, hn', b1, b2, b3, h8', td]
   · have hn' : n < 0 := by omega
     have hf : shapedF (.mk k n l) = false := by simp [shapedF, hn]
     rw [hf]
     simp (disch := first | omega | decide | simp only [go_sem]) only [go_sem, hH1, c1, c3, l0, l1, l2, hn', td]
include hT in
theorem tree_ev {t : Tm} {p : PV} (ht : Enc t p) (hn : t.nodes ≤ 200) (h : List AE.Obj) : Ev T 130 [p] h (.val (.bool (shapedF t)), ⟨h, [], []⟩) := by
 refine Ev.walk (hT.sp _ (by decide)) ((hT.fn _).trans fn130) (hT.mode _) rfl ?_
 obtain ⟨c1, c2, c3, c4⟩ := ht.cells
 have hs := ht.sub
 have kp : (h ++ [AE.Obj.row 3 [p]])[h.length]? = some (.row 3 [p]) := by simp
 have low1 : Low h.length h (h ++ [AE.Obj.row 3 [p]]) := (Low.refl _ _).push (Nat.le_refl _)
 have hl1 : (h ++ [AE.Obj.row 3 [p]]).length = h.length + 1 := by simp
 generalize hH1 : h ++ [AE.Obj.row 3 [p]] = H1 at *
 have km : (H1 ++ [AE.Obj.row 2 [PV.agg [.int .i64 0, .int .i64 0]]])[H1.length]? = some (mRow 0 0) := by simp [mRow]
 have kp2 : (H1 ++ [AE.Obj.row 2 [PV.agg [.int .i64 0, .int .i64 0]]])[h.length]? = some (.row 3 [p]) := keepL kp
 have low2 : Low h.length h (H1 ++ [AE.Obj.row 2 [PV.agg [.int .i64 0, .int .i64 0]]]) := low1.push (by omega)
 generalize hH2 : H1 ++ [AE.Obj.row 2 [PV.agg [.int .i64 0, .int .i64 0]]] = H2 at *
 have lp : loadAt true 3 (.ptr h.length 0 0 1) H2 = some p := by rw [ld_at kp2]; exact hs
 obtain ⟨dp, ws, ev, hd, hw⟩ := count_ev hT ht H2 H1.length 0 0 1 km (by omega) (by omega) (by omega) (by omega) (by omega) (by omega)
 rw [Int.zero_add] at ev
 have km3 : (H2.set H1.length (mRow (t.nodes : Int) dp))[H1.length]? = some (mRow (t.nodes : Int) dp) := get_set km
 have kp3 : (H2.set H1.length (mRow (t.nodes : Int) dp))[h.length]? = some (.row 3 [p]) := get_set_ne kp2 (by omega)
 have low3 : Low h.length h (H2.set H1.length (mRow (t.nodes : Int) dp)) := low2.trans (.set (by omega))
 generalize hH3 : H2.set H1.length (mRow (t.nodes : Int) dp) = H3 at *
 have ov := over_ev hT km3 (by omega) hd.2
 have lp3 : loadAt true 3 (.ptr h.length 0 0 1) H3 = some p := by rw [ld_at kp3]; exact hs
 have sh := shaped_ev hT ht H3
 simp (disch := first | omega | decide | simp only [go_sem]) only [go_sem, hH1, c1, c3, List.length_cons, List.length_nil, hH2, lp, cb ev, cb ov, lp3, cb sh, hT.prim, primOf]
 exact tidy_low rfl rfl low3 (fun x hx => by
  repeat' first | (have := hw x hx; omega) | (cases hx; done) | (rcases mem_wall hx with hx | hx))
end Go.Proofs.Tryz
/- nth: total at all sizes. -/
namespace Go.Proofs.Tryz
open Go Go.AE
variable {T : Tbl} (hT : Std T)
def tabV (s : GSig) : PV := .agg [.slice 1 (s.sorts.map .str) .any, .slice 3 (s.ops.map encOp) .any, .slice 61 ((tabOf s).1.map arr) .any, .slice 1 ((tabOf s).2.map fun r => .slice 61 (r.map arr) .any) .any]
theorem encTab_eq (s : GSig) : encTab s = .iptr (tabV s) 0 := rfl
theorem nthC {s : GSig} (hs : GOk s) {i : Nat} {o : GOp} (ho : s.ops[i]? = some o) : NthC s (tabV s) i o (tabOf s).1 ((tabOf s).2.getD i []) ((tabOf s).2.map fun r => .slice 61 (r.map arr) .any) := by
 obtain ⟨S, K⟩ := tabOf_sem hs.ops
 obtain ⟨a1, a2, a3⟩ := hs.ops o (List.mem_of_getElem? ho)
 have hi : i < (tabOf s).2.length := by rw [K.len]; exact (List.getElem?_eq_some_iff.1 ho).1
 have e1 : (tabOf s).2[i]? = some ((tabOf s).2.getD i []) := by
  rw [List.getD_eq_getElem?_getD, List.getElem?_eq_getElem hi]; rfl
 obtain ⟨q1, q2⟩ := K.rows i o _ ho e1
 exact ⟨rfl, rfl, rfl, K.sl, K.so, ho, a1, a3, by rw [List.getElem?_map, e1]; rfl, q2, q1, fun k q hk hq => S.eq i o k q ho hk hq, sysOf hs.ops ho⟩
include hT in
theorem nth_tot {s : GSig} (hs : GOk s) (h91 : T.sp 91 = none) : ∀ N, N ≤ 60 → NthIH T s (tabV s) N
 | 0, _ => fun a m n h _ h1 h2 => by omega
 | N + 1, hN => fun a m n h ha h1 h2 hn0 hn1 => by
   have ih := nth_tot hs h91 N (by omega)
   by_cases hm : m ≤ N
   · exact ih a m n h ha h1 hm hn0 hn1
   · have : m = N + 1 := by omega
     subst this
     exact nth_step hT hs h91 (by omega) (fun i o ho => nthC hs ho) rfl rfl ih a n h ha ⟨hn0, hn1⟩
end Go.Proofs.Tryz
/- Count, Nth. -/
namespace Go.Proofs.Tryz
open Go Go.AE
variable {T : Tbl} (hT : Std T) {s : GSig}
theorem cnt_ok {s : GSig} (hs : GOk s) {a : Nat} (ha : a < s.sorts.length) : okRow ((tabOf s).1.getD a []) ∧ ((tabOf s).1.map arr)[a]? = some (arr ((tabOf s).1.getD a [])) := by
 obtain ⟨S, K⟩ := tabOf_sem hs.ops
 have hl : a < (tabOf s).1.length := by rw [K.sl]; exact ha
 exact ⟨(K.so.get hl).2, get_arr K.so hl⟩
theorem tab_t2 : sub false 1 (tabV s) 2 = some (.slice 61 ((tabOf s).1.map arr) .any) := rfl
include hT in
theorem nth_ok (hs : GOk s) (E87 : ∀ h, Ev T 87 [encSig s] h (.val (.int .i64 0), ⟨h, [], []⟩)) {a m : Nat} {k : Int} {p : PV} (ha : a < s.sorts.length) (hm : m ≤ 60) (hk : 0 ≤ k ∧ k < cntOf s a m) (tp : IsT p) (E91 : ∀ h, Ev T 91 [encTab s, .int .i64 (a : Int), .int .i64 (m : Int), .int .i64 k] h (.val p, ⟨h, [], []⟩)) (h : List AE.Obj) :
 Ev T 18 [encSig s, .int .i64 (a : Int), .int .i64 (m : Int), .int .i64 k] h (.val (.tuple [p, .int .i64 0]), ⟨h, [], []⟩) := by
 refine Ev.walk (hT.sp _ (by decide)) ((hT.fn _).trans fn18) (hT.mode _) rfl ?_
 have c1 := fun h => isSort_ev hT (s := s) (a : Int) h
 have c2 := fun h => sized_ev hT (m : Int) h
 have h1 : isSortB (a : Int) s.sorts.length = true := by simp [isSortB]; omega
 have h2 : sizedB (m : Int) = true := by simp [sizedB]; omega
 rw [h1] at c1
 rw [h2] at c2
 have c3 := fun h => counted_ev hT hs (h := h)
 rw [encTab_eq] at c3 E91
 obtain ⟨k1, k2⟩ := cnt_ok hs ha
 have hm61 : m < 61 := by omega
 have ls := ld_arr k1 hm61
 have hk0 : ¬ k < 0 := by omega
 have hk1 : ¬ ((tabOf s).1.getD a []).getD m 0 ≤ k := by have := hk.2; unfold cntOf at this; omega
 obtain ⟨p1, p2, p3, p4⟩ := tp.cells
 obtain ⟨w1, w2⟩ := tp.pureW
 have sb := fun ws => st_box (h := h ++ [AE.Obj.row 2 [encSig s]]) (ws := ws) (ups := []) (z := .agg [(.int .i64 0), (.int .i64 0), (.slice 0 [] .nil)]) (sz := 3) (c := p) p1 rfl p2 tp.top ⟨_, rfl⟩ p4
 have kk : ((h ++ [AE.Obj.row 2 [encSig s]]) ++ [AE.Obj.row 3 [PV.agg [.int .i64 0, .int .i64 0, .slice 0 [] .nil]]])[h.length]? = some (.row 2 [encSig s]) := keepL (by simp)
 have ll : loadAt true 2 (.ptr h.length 0 0 1) ((h ++ [AE.Obj.row 2 [encSig s]]) ++ [AE.Obj.row 3 [PV.agg [.int .i64 0, .int .i64 0, .slice 0 [] .nil]]]) = some (encSig s) := by rw [ld_at kk]; rfl
 have kp : ((h ++ [AE.Obj.row 2 [encSig s]]) ++ [AE.Obj.row 3 [p]])[(h ++ [AE.Obj.row 2 [encSig s]]).length]? = some (.row 3 [p]) := by simp
 have lp : loadAt true 3 (.ptr (h ++ [AE.Obj.row 2 [encSig s]]).length 0 0 1) ((h ++ [AE.Obj.row 2 [encSig s]]) ++ [AE.Obj.row 3 [p]]) = some p := by rw [ld_at kp]; exact tp.sub
 have low : Low h.length h ((h ++ [AE.Obj.row 2 [encSig s]]) ++ [AE.Obj.row 3 [p]]) := ((Low.refl _ _).push (Nat.le_refl _)).push (by simp)
 have hlen : h.length ≤ (h ++ [AE.Obj.row 2 [encSig s]]).length := by simp
 generalize hkb : (h ++ [AE.Obj.row 2 [encSig s]]).length = kb at *
 simp (disch := first | omega | decide | simp only [go_sem]) only [go_sem, List.length_cons, List.length_nil, hkb, ll, cb (E87 _), hT.prim, primOf, bne_self_eq_false, cb (c1 _), cb (c2 _), cb (c3 _), tab_t2, k2, hm61, ls, hk0, hk1, cb (E91 _), sb, resv, lp]
 exact tidy_low (by simp [PV.pure, pures, w1]) (by simp [PV.weak, weaks, w2]) low (wadd_low hlen (by simp))
end Go.Proofs.Tryz
/- typed, Sort, ground. -/
namespace Go.Proofs.Tryz
open Go Go.AE
variable {T : Tbl} (hT : Std T) {s : GSig}
mutual
def typedF (s : GSig) : Tm → Int → Bool
 | .mk k n l, a => !(k == 1) && (match s.ops[n.toNat]? with
   | some o => o.res == a && decide (o.args.length = l.length) && typedL s l o.args
   | none => false)
def typedL (s : GSig) : List Tm → List Int → Bool
 | [], _ => true
 | t :: l, bs => typedF s t (bs.getD 0 0) && typedL s l (bs.drop 1)
end
theorem typedL_false {s : GSig} : ∀ {l : List Tm} {bs : List Int} (i : Nat) {x : Tm}, l[i]? = some x → typedF s x (bs.getD i 0) = false → typedL s l bs = false
 | t :: l, bs, 0, x, hx, h => by
   simp only [List.getElem?_cons_zero, Option.some.injEq] at hx
   subst hx
   simp only [typedL, h, Bool.false_and]
 | t :: l, bs, i + 1, x, hx, h => by
   have := typedL_false (s := s) (l := l) (bs := bs.drop 1) i (x := x) (by simpa using hx) (by
    rw [List.getD_eq_getElem?_getD, List.getElem?_drop, Nat.add_comm 1 i, ← List.getD_eq_getElem?_getD]; exact h)
   simp only [typedL, this, Bool.and_false]
theorem typedL_true {s : GSig} : ∀ {l : List Tm} {bs : List Int}, (∀ (i : Nat) (x : Tm), l[i]? = some x → typedF s x (bs.getD i 0) = true) → typedL s l bs = true
 | [], _, _ => rfl
 | t :: l, bs, h => by
   have h1 := h 0 t rfl
   have h2 := typedL_true (s := s) (l := l) (bs := bs.drop 1) fun i x hx => by
    have := h (i + 1) x (by simpa using hx)
    rw [List.getD_eq_getElem?_getD, List.getElem?_drop, Nat.add_comm 1 i, ← List.getD_eq_getElem?_getD]; exact this
   simp only [typedL, h1, h2, Bool.and_self]
include hT in
theorem sort2_ev {h : List AE.Obj} {kv : Nat} (hv : h[kv]? = some (.row 1 [.slice 0 [] .nil])) {n a : Int} (hn : 0 ≤ n) : Ev T 132 [.int .i64 n, .int .i64 a, .ptr kv 0 0 1] h (.val (.bool false), ⟨h, [], []⟩) := by
 refine Ev.walk (hT.sp _ (by decide)) ((hT.fn _).trans fn132) (hT.mode _) rfl ?_
 have lv : loadAt false 1 (.ptr kv 0 0 1) h = some (.slice 0 [] .nil) := by rw [ld_at hv]; rfl
 have n0 : ¬ n < ((0 : Nat) : Int) := by omega
 simp (disch := first | omega | decide | simp only [go_sem]) only [go_sem, lv, n0, List.length_nil]
include hT in
theorem typed_ev (hs : GOk s) {t : Tm} {p : PV} (ht : Enc t p) : shapedF t = true → ∀ (a : Int) (h : List AE.Obj) (kv : Nat), h[kv]? = some (.row 1 [.slice 0 [] .nil]) →
 Ev T 131 [encSig s, p, .int .i64 a, .func (.func 132) [] [.ptr kv 0 0 1]] h (.val (.bool (typedF s t a)), ⟨h, [], []⟩) := by
 have hc := ht.cells
 have hf := ht.facts
 have hsb := ht.sub
 induction ht with
 | mk k n l sz es hz hl he ih =>
   intro hsh a h kv hv
   have hnO := hs.nO
   refine Ev.walk (hT.sp _ (by decide)) ((hT.fn _).trans fn131) (hT.mode _) rfl ?_
   obtain ⟨c1, c2, c3, c4⟩ := hc
   have hsh' := hsh
   simp only [shapedF, Bool.and_eq_true, decide_eq_true_eq, shapedL_all] at hsh
   obtain ⟨⟨⟨⟨hn, _⟩, hk12⟩, hl8⟩, hall⟩ := hsh
   obtain ⟨N, rfl⟩ := Int.eq_ofNat_of_zero_le hn
   generalize hP : PV.agg [.int .i64 k, .int .i64 (N : Int), .slice sz es .any] = P at *
   have kg : (h ++ [AE.Obj.row 2 [encSig s]])[h.length]? = some (.row 2 [encSig s]) := by simp
   have kv1 : (h ++ [AE.Obj.row 2 [encSig s]])[kv]? = some (.row 1 [.slice 0 [] .nil]) := keepL hv
   have low1 : Low h.length h (h ++ [AE.Obj.row 2 [encSig s]]) := (Low.refl _ _).push (Nat.le_refl _)
   have hl1 : (h ++ [AE.Obj.row 2 [encSig s]]).length = h.length + 1 := by simp
   generalize hH1 : h ++ [AE.Obj.row 2 [encSig s]] = H1 at *
   have kp : (H1 ++ [AE.Obj.row 3 [P]])[H1.length]? = some (.row 3 [P]) := by simp
   have kg2 : (H1 ++ [AE.Obj.row 3 [P]])[h.length]? = some (.row 2 [encSig s]) := keepL kg
   have kv2 : (H1 ++ [AE.Obj.row 3 [P]])[kv]? = some (.row 1 [.slice 0 [] .nil]) := keepL kv1
   have low2 : Low h.length h (H1 ++ [AE.Obj.row 3 [P]]) := low1.push (by omega)
   have hl2 : (H1 ++ [AE.Obj.row 3 [P]]).length = h.length + 2 := by simp [hl1]
   generalize hH2 : H1 ++ [AE.Obj.row 3 [P]] = H2 at *
   have l0 : loadAt false 1 (.ptr H1.length 0 0 1) H2 = some (.int .i64 k) := by rw [ld_at kp, ← hP]; rfl
   have l1 : loadAt false 1 (.ptr H1.length 0 1 1) H2 = some (.int .i64 (N : Int)) := by rw [ld_at kp, ← hP]; rfl
   have l2 : loadAt false 1 (.ptr H1.length 0 2 1) H2 = some (.slice sz es .any) := by rw [ld_at kp, ← hP]; rfl
   have lg : loadAt false 1 (.ptr h.length 0 1 1) H2 = some (.slice 3 (s.ops.map encOp) .any) := by rw [ld_at kg2]; rfl
   have td : ∀ b, tidy 0 h.length (.val (.bool b)) ⟨H2, [], []⟩ = (.val (.bool b), ⟨h, [], []⟩) := fun b => tidy_low rfl rfl low2 (by simp)
   by_cases hk : k = 1
   · subst hk
     have e2 := sort2_ev hT kv2 (n := (N : Int)) (a := a) (by omega)
     have b11 : ((1 : Int) == 1) = true := rfl
     simp (disch := first | omega | decide | simp only [go_sem]) only [go_sem, hH1, hH2, c1, c3, List.length_cons, List.length_nil, l0, l1, b11, cb e2, hT.prim, primOf, td]
     simp [typedF]
   · have hkb : (k == 1) = false := by simpa using hk
     by_cases hNO : N < s.ops.length
     · have go := get_op hNO
       have ho : s.ops[N]? = some s.ops[N] := List.getElem?_eq_getElem hNO
       obtain ⟨a1, a2, a3⟩ := hs.ops _ (List.mem_of_getElem? ho)
       generalize s.ops[N] = o at *
       have hNO' : ¬ s.ops.length ≤ N := by omega
       have so2 : sub false 1 (encOp o) 2 = some (.int .i64 o.res) := rfl
       have so1 : sub false 1 (encOp o) 1 = some (.slice 1 (o.args.map encI) .any) := rfl
       by_cases hr : o.res = a
       · have hr' : (o.res != a) = false := by simp [hr]
         by_cases hal : o.args.length = l.length
         · have hal' : ((o.args.length : Int) != (es.length : Int)) = false := by simp; omega
           have hF : typedF s (.mk k N l) a = typedL s l o.args := by simp [typedF, ho, hr, hal, hk]
           rw [hF]
           simp (disch := first | omega | decide | simp only [go_sem]) only [go_sem, hH1, hH2, c1, c3, List.length_cons, List.length_nil, l0, l1, l2, lg, hkb, hNO, hNO', go, so2, so1, hr', hal', hT.prim, primOf]
           refine wpC.loopM (fun g e st => ∃ (i : Nat) (H : List AE.Obj) (ws : List Nat), i + g = es.length ∧ Low h.length h H ∧ H[h.length]? = some (.row 2 [encSig s]) ∧ H[H1.length]? = some (.row 3 [P]) ∧ H[kv]? = some (.row 1 [.slice 0 [] .nil]) ∧ (∀ x ∈ ws, h.length ≤ x) ∧ (∀ (j : Nat) (x : Tm), j < i → l[j]? = some x → typedF s x (o.args.getD j 0) = true) ∧ eget e 3 = .func (.func 132) [] [.ptr kv 0 0 1] ∧ eget e 4 = .ptr h.length 0 0 1 ∧ eget e 5 = .ptr H1.length 0 0 1 ∧ eget e 51 = .slice sz es .any ∧ eget e 52 = .int .i64 (es.length : Int) ∧ eget e 53 = .int .i64 (i : Int) ∧ st = ⟨H, ws, []⟩) ?_ es.length _ _
            ⟨0, H2, [], by omega, low2, kg2, kp, kv2, by simp, fun j x hj => by omega, by simp (disch := first | omega | decide | simp only [go_sem]) only [go_sem], by simp (disch := first | omega | decide | simp only [go_sem]) only [go_sem], by simp (disch := first | omega | decide | simp only [go_sem]) only [go_sem], by simp (disch := first | omega | decide | simp only [go_sem]) only [go_sem], by simp (disch := first | omega | decide | simp only [go_sem]) only [go_sem], by simp (disch := first | omega | decide | simp only [go_sem]) only [go_sem]; rfl, rfl⟩
           rintro g e st ⟨i, H, ws, hi, low, kg, kp, kv', hw, hok, e3, e4, e5, e51, e52, e53, rfl⟩
           by_cases h1 : i < es.length
           · have ga := get_lt h1
             have hx : l[i]? = some l[i] := List.getElem?_eq_getElem (by omega)
             have hE := he i l[i] es[i] hx ga
             have hshx : shapedF l[i] = true := List.all_eq_true.1 hall _ (List.getElem_mem _)
             have ihx := ih i l[i] es[i] hx ga hE.cells hE.facts hE.sub hshx
             generalize l[i] = x at *
             have hsz : sz = 3 := by
              rcases hz with rfl | h
              · simp at h1
              · exact h
             subst hsz
             obtain ⟨b1, b2, b3, b4⟩ := hE.cells
             have bt := hE.facts.1
             have bs := hE.sub
             generalize es[i] = q at *
             have sb := st_box (h := H) (ws := ws) (ups := []) (z := .agg [(.int .i64 0), (.int .i64 0), (.slice 0 [] .nil)]) (sz := 3) (c := q) b1 rfl b2 bt ⟨_, rfl⟩ b4
             have kq : (H ++ [AE.Obj.row 3 [q]])[H.length]? = some (.row 3 [q]) := by simp
             have kg3 : (H ++ [AE.Obj.row 3 [q]])[h.length]? = some (.row 2 [encSig s]) := keepL kg
             have kp3 : (H ++ [AE.Obj.row 3 [q]])[H1.length]? = some (.row 3 [P]) := keepL kp
             have kv3 : (H ++ [AE.Obj.row 3 [q]])[kv]? = some (.row 1 [.slice 0 [] .nil]) := keepL kv'
             have hHl := low.len
             have low3 : Low h.length h (H ++ [AE.Obj.row 3 [q]]) := low.push hHl
             generalize hH5 : H ++ [AE.Obj.row 3 [q]] = H5 at *
             have lq : loadAt true 3 (.ptr H.length 0 0 1) H5 = some q := by rw [ld_at kq]; exact bs
             have m1 : loadAt false 1 (.ptr H1.length 0 1 1) H5 = some (.int .i64 (N : Int)) := by rw [ld_at kp3, ← hP]; rfl
             have mg : loadAt false 1 (.ptr h.length 0 1 1) H5 = some (.slice 3 (s.ops.map encOp) .any) := by rw [ld_at kg3]; rfl
             have ms : loadAt true 2 (.ptr h.length 0 0 1) H5 = some (encSig s) := by rw [ld_at kg3]; rfl
             have hia : i < o.args.length := by omega
             have gA := get_enc hia
             have gD : o.args.getD i 0 = o.args[i] := by simp [List.getD_eq_getElem?_getD, hia]
             have ev := ihx (o.args[i]) H5 kv kv3
             have hw' : ∀ x ∈ wadd H.length ws, h.length ≤ x := wadd_low hHl hw
             cases hb : typedF s x o.args[i]
             · rw [hb] at ev
               have hfal := typedL_false (s := s) (bs := o.args) i hx (by rw [gD]; exact hb)
               rw [hfal]
               simp (disch := first | omega | decide | simp only [go_sem]) only [go_sem, a131b0, e3, e4, e5, e51, e52, e53, h1, ga, bs, sb, hH5, lq, m1, mg, ms, go, so1, gA, cb ev, hT.prim, primOf, List.length_cons, List.length_nil]
               exact tidy_low rfl rfl low3 hw'
             · rw [hb] at ev
               simp (disch := first | omega | decide | simp only [go_sem]) only [go_sem, a131b0, e3, e4, e5, e51, e52, e53, h1, ga, bs, sb, hH5, lq, m1, mg, ms, go, so1, gA, cb ev, hT.prim, primOf, List.length_cons, List.length_nil]
               refine ⟨g - 1, by omega, i + 1, H5, _, by omega, low3, kg3, kp3, kv3, hw', fun j y hj hy => ?_, rfl, rfl⟩
               by_cases hji : j = i
               · subst hji
                 rw [hx] at hy
                 cases hy
                 rw [gD]; exact hb
               · exact hok j y (by omega) hy
           · have htr : typedL s l o.args = true := typedL_true fun i x hx => hok i x (by have := (List.getElem?_eq_some_iff.1 hx).1; omega) hx
             rw [htr]
             simp (disch := first | omega | decide | simp only [go_sem]) only [go_sem, a131b0, e3, e4, e5, e51, e52, e53, h1]
             exact tidy_low rfl rfl low hw
         · have hal' : ((o.args.length : Int) != (es.length : Int)) = true := by simp; omega
           simp (disch := first | omega | decide | simp only [go_sem]) only [go_sem, hH1, hH2, c1, c3, List.length_cons, List.length_nil, l0, l1, l2, lg, hkb, hNO, hNO', go, so2, so1, hr', hal', hT.prim, primOf, td]
           simp [typedF, ho, hal]
       · have hr' : (o.res != a) = true := by simpa using hr
         simp (disch := first | omega | decide | simp only [go_sem]) only [go_sem, hH1, hH2, c1, c3, List.length_cons, List.length_nil, l0, l1, l2, lg, hkb, hNO, hNO', go, so2, so1, hr', hT.prim, primOf, td]
         simp [typedF, ho, hr]
     · have hNO' : s.ops.length ≤ N := by omega
       simp (disch := first | omega | decide | simp only [go_sem]) only [go_sem, hH1, hH2, c1, c3, List.length_cons, List.length_nil, l0, l1, l2, lg, hkb, hNO', hT.prim, primOf, td]
       simp [typedF, List.getElem?_eq_none hNO']
end Go.Proofs.Tryz
/- Sort, ground: what they say is what is so. -/
namespace Go.Proofs.Tryz
open Go Go.AE
variable {T : Tbl} (hT : Std T) {s : GSig}
mutual
theorem WT_of : ∀ (t : Tm) (a : Int), shapedF t = true → typedF s t a = true → WT s t a
 | .mk k n l, a, h1, h2 => by
   simp only [shapedF, Bool.and_eq_true, decide_eq_true_eq, Bool.or_eq_true, beq_iff_eq] at h1
   obtain ⟨⟨⟨⟨hn, _⟩, hk⟩, _⟩, hall⟩ := h1
   simp only [typedF, Bool.and_eq_true, Bool.not_eq_true', beq_eq_false_iff_ne, ne_eq] at h2
   obtain ⟨hk1, h2⟩ := h2
   cases ho : s.ops[n.toNat]? with
   | none => rw [ho] at h2; cases h2
   | some o =>
     rw [ho] at h2
     simp only [Bool.and_eq_true, beq_iff_eq, decide_eq_true_eq] at h2
     obtain ⟨⟨hr, hl⟩, ht⟩ := h2
     refine ⟨by rcases hk with h | h; exact absurd h hk1; exact h, hn, o, ho, hr, WTs_of2 l o.args hall ht hl⟩
theorem WTs_of2 : ∀ (l : List Tm) (bs : List Int), shapedL l = true → typedL s l bs = true → bs.length = l.length → WTs s l bs
 | [], [], _, _, _ => trivial
 | [], _ :: _, _, _, h => by simp at h
 | _ :: _, [], _, _, h => by simp at h
 | t :: l, b :: bs, h1, h2, h3 => by
   simp only [shapedL, Bool.and_eq_true] at h1
   simp only [typedL, Bool.and_eq_true] at h2
   exact ⟨WT_of t b h1.1 (by simpa using h2.1), WTs_of2 l bs h1.2 (by simpa using h2.2) (by simpa using h3)⟩
end
mutual
theorem of_WT (h8 : ∀ o ∈ s.ops, o.args.length ≤ 8) : ∀ (t : Tm) (a : Int), WT s t a → shapedF t = true ∧ typedF s t a = true
 | .mk k n l, a, h => by
   obtain ⟨rfl, hn, o, ho, hr, hl⟩ := h
   have hlen := WTs_len hl
   have := h8 o (List.mem_of_getElem? ho)
   obtain ⟨a1, a2⟩ := of_WTs h8 l o.args hl
   refine ⟨?_, ?_⟩
   · simp only [shapedF, Bool.and_eq_true, decide_eq_true_eq]
     exact ⟨⟨⟨⟨hn, rfl⟩, rfl⟩, by omega⟩, a1⟩
   · simp only [typedF, ho, hr, a2]
     simp; omega
theorem of_WTs (h8 : ∀ o ∈ s.ops, o.args.length ≤ 8) : ∀ (l : List Tm) (bs : List Int), WTs s l bs → shapedL l = true ∧ typedL s l bs = true
 | [], [], _ => ⟨rfl, rfl⟩
 | t :: l, b :: bs, h => by
   obtain ⟨a1, a2⟩ := of_WT h8 t b h.1
   obtain ⟨b1, b2⟩ := of_WTs h8 l bs h.2
   exact ⟨by simp [shapedL, a1, b1], by simp [typedL, a2, b2]⟩
 | [], _ :: _, h => h.elim
 | _ :: _, [], h => h.elim
end
def sortR (s : GSig) (t : Tm) : Int × Int := match t with
 | .mk k n l => if shapedF (.mk k n l) = true ∧ k = 2 then (match s.ops[n.toNat]? with
  | some o => if typedF s (.mk k n l) o.res = true then (o.res, 0) else (0, 4)
  | none => (0, 4)) else (0, 4)
theorem sortR_WT {t : Tm} (h : (sortR s t).2 = 0) : WT s t (sortR s t).1 := by
 obtain ⟨k, n, l⟩ := t
 simp only [sortR] at h ⊢
 split at h
 · rename_i h1
   rw [if_pos h1]
   split at h
   · rename_i o ho
     split at h
     · rename_i h2
       simp only [h2, if_true]
       exact WT_of _ _ h1.1 h2
     · simp at h
   · simp at h
 · simp at h
theorem sortR_of (h8 : ∀ o ∈ s.ops, o.args.length ≤ 8) {t : Tm} {a : Int} (h : WT s t a) : sortR s t = (a, 0) := by
 obtain ⟨h1, h2⟩ := of_WT h8 t a h
 obtain ⟨k, n, l⟩ := t
 obtain ⟨rfl, hn, o, ho, hr, hl⟩ := h
 simp only [sortR]
 rw [if_pos ⟨h1, trivial⟩, ho]
 simp only [hr, h2, if_true]
include hT in
theorem contains65_nil {g : FuncId} {cap : List PV} {m : SM} (h : List AE.Obj) : Ev T 65 [.slice 0 [] m, .func (.func g) [] cap] h (.val (.bool false), ⟨h, [], []⟩) := by
 have i149 : Ev T 149 [.slice 0 [] m, .func (.func g) [] cap] h (.val (.int .i64 (-1)), ⟨h, [], []⟩) := by
  refine Ev.walk (hT.sp _ (by decide)) ((hT.fn _).trans fn149) (hT.mode _) rfl ?_
  simp (disch := first | omega | decide | simp only [go_sem]) only [go_sem, List.length_nil]
  refine unroll ?_
  have n0 : ¬ ((0 : Int) < ((0 : Nat) : Int)) := by omega
  simp (disch := first | omega | decide | simp only [go_sem]) only [go_sem, a149b0, n0]
 refine Ev.walk (hT.sp _ (by decide)) ((hT.fn _).trans fn65) (hT.mode _) rfl ?_
 have n1 : ¬ ((0 : Int) ≤ -1) := by omega
 simp (disch := first | omega | decide | simp only [go_sem]) only [go_sem, cb i149, hT.prim, primOf, n1]
include hT in
theorem sort_ev (hs : GOk s) (E87 : ∀ h, Ev T 87 [encSig s] h (.val (.int .i64 0), ⟨h, [], []⟩)) {t : Tm} {p : PV} (ht : Enc t p) (hn : t.nodes ≤ 200) (h : List AE.Obj) :
 Ev T 45 [encSig s, .slice 0 [] .nil, p] h (.val (.tuple [.int .i64 (sortR s t).1, .int .i64 (sortR s t).2]), ⟨h, [], []⟩) := by
 refine Ev.walk (hT.sp _ (by decide)) ((hT.fn _).trans fn45) (hT.mode _) rfl ?_
 have htr := tree_ev hT ht hn
 have hty := fun hsh a h kv hv => typed_ev hT hs ht hsh a h kv hv
 have hsub := ht.sub
 obtain ⟨c1, c2, c3, c4⟩ := ht.cells
 have hnO := hs.nO
 have kg : (((h ++ [AE.Obj.row 2 [encSig s]]) ++ [AE.Obj.row 1 [PV.slice 0 [] .nil]]) ++ [AE.Obj.row 3 [p]])[h.length]? = some (.row 2 [encSig s]) := keepL (keepL (by simp))
 have hl1 : (h ++ [AE.Obj.row 2 [encSig s]]).length = h.length + 1 := by simp
 have kv : (((h ++ [AE.Obj.row 2 [encSig s]]) ++ [AE.Obj.row 1 [PV.slice 0 [] .nil]]) ++ [AE.Obj.row 3 [p]])[(h ++ [AE.Obj.row 2 [encSig s]]).length]? = some (.row 1 [.slice 0 [] .nil]) := keepL (by simp)
 have kp : (((h ++ [AE.Obj.row 2 [encSig s]]) ++ [AE.Obj.row 1 [PV.slice 0 [] .nil]]) ++ [AE.Obj.row 3 [p]])[((h ++ [AE.Obj.row 2 [encSig s]]) ++ [AE.Obj.row 1 [PV.slice 0 [] .nil]]).length]? = some (.row 3 [p]) := by simp
 have low : Low h.length h (((h ++ [AE.Obj.row 2 [encSig s]]) ++ [AE.Obj.row 1 [PV.slice 0 [] .nil]]) ++ [AE.Obj.row 3 [p]]) := (((Low.refl _ _).push (Nat.le_refl _)).push (by simp)).push (by simp)
 generalize hk1 : (h ++ [AE.Obj.row 2 [encSig s]]).length = k1 at *
 generalize hk2 : ((h ++ [AE.Obj.row 2 [encSig s]]) ++ [AE.Obj.row 1 [PV.slice 0 [] .nil]]).length = k2 at *
 generalize hH : ((h ++ [AE.Obj.row 2 [encSig s]]) ++ [AE.Obj.row 1 [PV.slice 0 [] .nil]]) ++ [AE.Obj.row 3 [p]] = H at *
 have lg : loadAt true 2 (.ptr h.length 0 0 1) H = some (encSig s) := by rw [ld_at kg]; rfl
 have lg1 : loadAt false 1 (.ptr h.length 0 1 1) H = some (.slice 3 (s.ops.map encOp) .any) := by rw [ld_at kg]; rfl
 have lv : loadAt false 1 (.ptr k1 0 0 1) H = some (.slice 0 [] .nil) := by rw [ld_at kv]; rfl
 have lp : loadAt true 3 (.ptr k2 0 0 1) H = some p := by rw [ld_at kp]; exact hsub
 have c65' := contains65_nil hT (g := 129) (cap := [.ptr (h.length) 0 0 1]) (m := .nil) H
 have td : ∀ a b, tidy 0 h.length (.val (.tuple [.int .i64 a, .int .i64 b])) ⟨H, [], []⟩ = (.val (.tuple [.int .i64 a, .int .i64 b]), ⟨h, [], []⟩) := fun a b => tidy_low rfl rfl low (by simp)
 cases hsh : shapedF t
 · have hF : sortR s t = (0, 4) := by
    obtain ⟨k, n, l⟩ := t
    simp [sortR, hsh]
   rw [hF]
   rw [hsh] at htr
   simp (disch := first | omega | decide | simp only [go_sem]) only [go_sem, hk1, hk2, hH, c1, c3, lg, cb (E87 _), lv, cb c65', lp, cb (htr _), bne_self_eq_false, hT.prim, primOf, List.length_cons, List.length_nil, td]
 · rw [hsh] at htr
   cases ht with
   | mk k n l sz es hz hl he =>
     have lp0 : loadAt false 1 (.ptr k2 0 0 1) H = some (.int .i64 k) := by rw [ld_at kp]; rfl
     have lp1 : loadAt false 1 (.ptr k2 0 1 1) H = some (.int .i64 n) := by rw [ld_at kp]; rfl
     have hsh' := hsh
     simp only [shapedF, Bool.and_eq_true, decide_eq_true_eq, Bool.or_eq_true, beq_iff_eq] at hsh
     obtain ⟨⟨⟨⟨hn0, _⟩, hk12⟩, _⟩, _⟩ := hsh
     obtain ⟨N, rfl⟩ := Int.eq_ofNat_of_zero_le hn0
     have b10 : ¬ ((N : Int) < ((0 : Nat) : Int)) := by omega
     have m1 : ((-1 : Int) < 0) := by omega
     rcases hk12 with rfl | rfl
     · have hF : sortR s (.mk 1 N l) = (0, 4) := by simp [sortR]
       rw [hF]
       have b11 : ((1 : Int) == 1) = true := rfl
       have b12 : ((1 : Int) == 2) = false := rfl
       simp (disch := first | omega | decide | simp only [go_sem]) only [go_sem, hk1, hk2, hH, c1, c3, lg, cb (E87 _), lv, cb c65', lp, cb (htr _), bne_self_eq_false, hT.prim, primOf, List.length_cons, List.length_nil, td, lp0, lp1, b11, b12, b10, m1]
     · have b11 : ((2 : Int) == 1) = false := rfl
       have b12 : ((2 : Int) == 2) = true := rfl
       by_cases hNO : N < s.ops.length
       · have go := get_op hNO
         have ho : s.ops[N]? = some s.ops[N] := List.getElem?_eq_getElem hNO
         obtain ⟨a1, a2, a3⟩ := hs.ops _ (List.mem_of_getElem? ho)
         generalize s.ops[N] = o at *
         have so2 : sub false 1 (encOp o) 2 = some (.int .i64 o.res) := rfl
         have r0 : ¬ o.res < 0 := by omega
         have ety := hty hsh' o.res H k1 kv
         cases hb : typedF s (.mk 2 N l) o.res
         · have hF : sortR s (.mk 2 N l) = (0, 4) := by simp [sortR, hsh', ho, hb]
           rw [hF]
           rw [hb] at ety
           simp (disch := first | omega | decide | simp only [go_sem]) only [go_sem, hk1, hk2, hH, c1, c3, lg, lg1, cb (E87 _), lv, cb c65', lp, cb (htr _), bne_self_eq_false, hT.prim, primOf, List.length_cons, List.length_nil, td, lp0, lp1, b11, b12, hNO, go, so2, r0, cb ety]
         · have hF : sortR s (.mk 2 N l) = (o.res, 0) := by simp [sortR, hsh', ho, hb]
           rw [hF]
           rw [hb] at ety
           simp (disch := first | omega | decide | simp only [go_sem]) only [go_sem, hk1, hk2, hH, c1, c3, lg, lg1, cb (E87 _), lv, cb c65', lp, cb (htr _), bne_self_eq_false, hT.prim, primOf, List.length_cons, List.length_nil, td, lp0, lp1, b11, b12, hNO, go, so2, r0, cb ety]
       · have hF : sortR s (.mk 2 N l) = (0, 4) := by simp [sortR, hsh', List.getElem?_eq_none (show s.ops.length ≤ N by omega)]
         rw [hF]
         simp (disch := first | omega | decide | simp only [go_sem]) only [go_sem, hk1, hk2, hH, c1, c3, lg, lg1, cb (E87 _), lv, cb c65', lp, cb (htr _), bne_self_eq_false, hT.prim, primOf, List.length_cons, List.length_nil, td, lp0, lp1, b11, b12, hNO, m1]
end Go.Proofs.Tryz
