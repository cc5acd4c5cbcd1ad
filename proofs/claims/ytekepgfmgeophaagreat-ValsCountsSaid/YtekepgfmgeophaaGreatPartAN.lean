/- Texts of the proof, one behind the other: ValIter, ValT0, ValS2, ValS3, ValFnsL, ValTab, ValL1, ValL2, ValP2, ValN1, ValN2, ValE1, ValP1, ValP3, ValL3, ValP5, ValP6, ValL5, ValL6, ValL7, ValL8. -/
import Derived.Test.YtekepgfmgeophaaGreatPartAI
import Derived.Test.YtekepgfmgeophaaGreatPartAM
import Derived.KernelRfl
import Derived.Test.YtekepgfmgeophaaGreatPartAJ
import Derived.Test.YtekepgfmgeophaaGreatPartAL
set_option linter.unusedVariables false
set_option linter.unusedSimpArgs false
/- The table's specials: slices.Clone, guarded; the iterator of assignments at the lists of the chapter's example. -/
namespace Go.Proofs.Tryz
open Go Go.AE
theorem mixed : Tryz.prog.follows .mixedOrders = true := by kernel_rfl
def i64 (n : Int) : PV := .int .i64 n
def sl (sz : Nat) (l : List PV) : PV := .slice sz l .any
def tm (n : Int) (l : List PV) : PV := .agg [i64 2, i64 n, sl 3 l]
def zT : PV := .agg [i64 2, i64 0, sl 0 []]
def oneT : PV := tm 1 [zT]
def domL : PV := sl 3 [zT, oneT]
def yss0 : Yss := [[sl 0 []]]
def yss1 : Yss := [[sl 3 [zT]], [sl 3 [oneT]]]
def yss2 : Yss := [[sl 3 [zT, zT]], [sl 3 [zT, oneT]], [sl 3 [oneT, zT]], [sl 3 [oneT, oneT]]]
noncomputable def af182 : AFunc := (compFn Tryz.prog [] Tryz.f182).getD ⟨0, 0, .bad, []⟩
theorem comp182 : compFn Tryz.prog [] Tryz.f182 = some af182 := by kernel_rfl
def caller0 : FuncId → List PV → List AE.Obj → Option CallRes := fun _ _ _ => none
theorem caller0_ok {P : Program} : CallOK P caller0 := fun _ _ _ _ _ h => by cases h
theorem caller0_step : CallStep caller0 := fun _ _ _ _ _ h => by cases h
theorem sem182 {captured : List PV} {yss : Yss} (hp : pures captured = true) (h : ∀ (l : Nat) (stop : Option Nat), yBody noTbl caller0 (fun i => decide (stop ≠ some i)) 30 af182 (.func (.yield l) [] [] :: weaks captured) = some ((upTo stop yss).map fun ys => (l, ys))) : IterSem Tryz.prog 182 captured yss :=
 iterSem_of (T := noTbl) mixed (fun _ _ h => by cases h) Tryz.func182 (by decide) comp182 hp fun l stop => ⟨caller0, 30, caller0_ok, caller0_step, h l stop⟩
theorem sem0 : IterSem Tryz.prog 182 [.iptr (sl 0 []) 0] yss0 := sem182 rfl fun l stop => match stop with
 | none => by kernel_rfl
 | some 0 => by kernel_rfl
 | some (k + 1) => by kernel_rfl
theorem sem1 : IterSem Tryz.prog 182 [.iptr (sl 1 [domL]) 0] yss1 := sem182 rfl fun l stop => match stop with
 | none => by kernel_rfl
 | some 0 => by kernel_rfl
 | some 1 => by kernel_rfl
 | some (k + 2) => by kernel_rfl
theorem sem2 : IterSem Tryz.prog 182 [.iptr (sl 1 [domL, domL]) 0] yss2 := sem182 rfl fun l stop => match stop with
 | none => by kernel_rfl
 | some 0 => by kernel_rfl
 | some 1 => by kernel_rfl
 | some 2 => by kernel_rfl
 | some 3 => by kernel_rfl
 | some (k + 4) => by kernel_rfl
def itNat (captured : List PV) : Option (List (List PV)) :=
 if peqs captured [.iptr (sl 0 []) 0] then some yss0 else if peqs captured [.iptr (sl 1 [domL]) 0] then some yss1 else if peqs captured [.iptr (sl 1 [domL, domL]) 0] then some yss2 else none
noncomputable def af54 : AFunc := (compFn Tryz.prog [] Tryz.f54).getD ⟨0, 0, .bad, []⟩
theorem comp54 : compFn Tryz.prog [] Tryz.f54 = some af54 := by kernel_rfl
noncomputable def af55 : AFunc := (compFn Tryz.prog [] Tryz.f55).getD ⟨0, 0, .bad, []⟩
theorem comp55 : compFn Tryz.prog [] Tryz.f55 = some af55 := by kernel_rfl
noncomputable def af75 : AFunc := (compFn Tryz.prog [] Tryz.f75).getD ⟨0, 0, .bad, []⟩
theorem comp75 : compFn Tryz.prog [] Tryz.f75 = some af75 := by kernel_rfl
noncomputable def af208 : AFunc := (compFn Tryz.prog [] Tryz.f208).getD ⟨0, 0, .bad, []⟩
theorem comp208 : compFn Tryz.prog [] Tryz.f208 = some af208 := by kernel_rfl
theorem clone_ok {f : Nat} {fn : Func} {af : AFunc} (hf : Tryz.prog.funcs[f]? = some fn) (hn : (fn.name == "runtime.NumGoroutine") = false) (hcomp : compFn Tryz.prog [] fn = some af)
 (h0 : ∀ call sz h, ∃ z, evBody noTbl call 1 1 af [.slice sz [] .nil] h = some (.val (.slice z [] .nil), { h, ws := [], ups := [] }))
 (h1 : ∀ call sz h, ∃ z, evBody noTbl call 1 1 af [.slice sz [] .nonnil] h = some (.val (.slice z [] .lit), { h, ws := [], ups := [] })) : SpOK Tryz.prog f (cloneSp af) :=
 ⟨fun _ hS _ _ _ _ h => by
  unfold cloneSp at h
  split at h
  · cases h; exact .refl _
  · exact evBody_step hS h, fun _ hS hC _ _ _ _ h => (cloneSp_ok mixed hf hn hcomp h0 h1 hS hC h).2⟩
theorem clone54 : SpOK Tryz.prog 54 (cloneSp af54) := clone_ok Tryz.func54 (by decide) comp54 (fun call sz h => ⟨0, by kernel_rfl⟩) (fun call sz h => ⟨1, by kernel_rfl⟩)
theorem clone55 : SpOK Tryz.prog 55 (cloneSp af55) := clone_ok Tryz.func55 (by decide) comp55 (fun call sz h => ⟨0, by kernel_rfl⟩) (fun call sz h => ⟨3, by kernel_rfl⟩)
theorem clone75 : SpOK Tryz.prog 75 (cloneSp af75) := clone_ok Tryz.func75 (by decide) comp75 (fun call sz h => ⟨0, by kernel_rfl⟩) (fun call sz h => ⟨6, by kernel_rfl⟩)
theorem clone208 : SpOK Tryz.prog 208 (cloneSp af208) := clone_ok Tryz.func208 (by decide) comp208 (fun call sz h => ⟨0, by kernel_rfl⟩) (fun call sz h => ⟨1, by kernel_rfl⟩)
theorem guard189 : SpOK Tryz.prog 189 (AE'.guardedSp 260 2) := ⟨fun _ hS _ _ _ _ h => AE'.guardedSp_step hS h, fun _ hS hC _ _ _ _ h => AE'.guardedSp_ok hS hC h⟩
end Go.Proofs.Tryz
/- The table, and that it is the program's. -/
namespace Go.Proofs.Tryz
open Go Go.AE
noncomputable def spOf : Nat → Option SpFn := fun f =>
 if f = 54 then some (cloneSp af54) else if f = 55 then some (cloneSp af55) else if f = 75 then some (cloneSp af75) else if f = 208 then some (cloneSp af208) else if f = 189 then some (AE'.guardedSp 260 2) else none
noncomputable def T0 : Tbl := { fn := fnOf, prim := primOf, sp := spOf, mode := fun f => if f = 178 then 1 else if f = 138 then 1 else 0, iter := fun f => if f = 182 then some itNat else none }
theorem prim247 : PrimOK Tryz.prog 247 .countString := ⟨Tryz.f247, Tryz.func247, by decide, rfl, by kernel_rfl, by kernel_rfl⟩
theorem prim272 : PrimOK Tryz.prog 272 .indexByteString := ⟨Tryz.f272, Tryz.func272, by decide, rfl, by kernel_rfl, by kernel_rfl⟩
theorem sp_ok {f : FuncId} {sp : SpFn} (h : spOf f = some sp) : SpOK Tryz.prog f sp := by
 unfold spOf at h
 split at h
 · rename_i e; cases e; cases h; exact clone54
 split at h
 · rename_i e; cases e; cases h; exact clone55
 split at h
 · rename_i e; cases e; cases h; exact clone75
 split at h
 · rename_i e; cases e; cases h; exact clone208
 split at h
 · rename_i e; cases e; cases h; exact guard189
 · cases h
theorem T0_fn : T0.fn = fnOf := by unfold T0; with_reducible rfl
theorem T0_prim : T0.prim = primOf := by unfold T0; with_reducible rfl
theorem T0_sp : T0.sp = spOf := by unfold T0; with_reducible rfl
theorem fnOf_ok {f : FuncId} {af : AFunc} (h : fnOf f = some af) : ∃ fn rows, Tryz.prog.funcs[f]? = some fn ∧ compFn Tryz.prog rows fn = some af ∧ (fn.name == "runtime.NumGoroutine") = false := by
 unfold fnOf at h
 revert h
 generalize Tryz.prog = P
 intro h
 split at h
 · rename_i fn hf
   split at h
   · rename_i hn
     exact ⟨fn, [], hf, h, hn⟩
   · cases h
 · cases h
theorem T0_ok : TblOK Tryz.prog T0 where
 mixed := mixed
 prim f p h := by
  rw [T0_prim] at h
  unfold primOf at h
  split at h
  · rename_i e; cases e; cases h; exact prim247
  split at h
  · rename_i e; cases e; cases h; exact prim272
  · cases h
 iter f it h captured yss hc := by
  have h : (if f = 182 then some itNat else none) = some it := h
  split at h
  · rename_i e
    cases e; cases h
    unfold itNat at hc
    split at hc
    · rename_i e; cases hc; rw [peqs_sound e]; exact sem0
    split at hc
    · rename_i e; cases hc; rw [peqs_sound e]; exact sem1
    split at hc
    · rename_i e; cases hc; rw [peqs_sound e]; exact sem2
    · cases hc
  · cases h
 fn f af h := fnOf_ok (by rw [← T0_fn]; exact h)
 step f sp h := (sp_ok (by rw [← T0_sp]; exact h)).step
 sp f sp h := (sp_ok (by rw [← T0_sp]; exact h)).sp
theorem T0_std : Std T0 where
 sp f h := by
  have h2 : f ≠ 54 ∧ f ≠ 55 ∧ f ≠ 75 ∧ f ≠ 208 ∧ f ≠ 189 ∧ f ≠ 15 ∧ f ≠ 87 ∧ f ≠ 91 := by simpa [spList] using h
  rw [T0_sp]
  unfold spOf
  rw [if_neg h2.1, if_neg h2.2.1, if_neg h2.2.2.1, if_neg h2.2.2.2.1, if_neg h2.2.2.2.2.1]
 fn f := by rw [T0_fn]
 prim := T0_prim
 mode f := rfl
end Go.Proofs.Tryz
/- sig.key: exact. -/
namespace Go.Proofs.Tryz
open Go Go.AE
variable {T : Tbl} (hT : Std T)
def a208 : AFunc := ⟨1, 8, (.seq (.reg [
    ⟨(some 2), .move (.c (.slice 0 [] .nil)), none, false, 0, 0, false⟩])
 (.seq (.seq (.reg [
  ⟨(some 3), .move (.t 0), none, false, 0, 0, false⟩,
  ⟨(some 4), .eq false .slice (.t 3) (.c (.slice 0 [] .nil)), none, false, 0, 0, false⟩])
 (.cond (.t 4)
 (.seq (.reg [
  ⟨(some 2), .move (.c (.slice 0 [] .nil)), none, false, 0, 0, false⟩])
 .ret)
 .skip))
 (.seq (.reg [
  ⟨(some 5), .buildSlice 1 (.int .i64 0) 0 [], none, false, 0, 0, false⟩,
  ⟨(some 6), .move (.t 0), none, false, 0, 0, false⟩,
  ⟨(some 7), .append 1 8 (.t 5) (.t 6), none, true, 0, 0, false⟩,
  ⟨(some 2), .move (.t 7), none, false, 0, 0, false⟩])
 .ret))), [.t 2]⟩
theorem af208_eq : af208 = a208 := by kernel_rfl
theorem clone_ev (hC : T.sp 208 = some (cloneSp af208)) {x : Int} {l : List Int} (hl : l.length < 900) (h : List AE.Obj) : Ev T 208 [.slice 1 ((x :: l).map encI) .any] h (.val (.slice 1 ((x :: l).map encI) (.tok h.length)), ⟨h ++ [.tok 1 (l.length + 1)], [], []⟩) := by
 have hroom : (l.length + 1) * 8 ≤ room ∧ l.length + 1 ≤ room := by
  have : 100000 ≤ room := by decide
  constructor <;> omega
 have hc : ∀ y ∈ l, (encI y).cells.all PV.isCell = true := fun _ _ => rfl
 refine ⟨1, fun n hn => ?_⟩
 obtain ⟨n, rfl⟩ : ∃ k, n = k + 1 := ⟨n - 1, by omega⟩
 simp only [evCall, hC, cloneSp, List.map_cons, af208_eq]
 simp [evBody, a208, evCode, evOps, evOp, wantedA, putD, eput, eget, ax, eqop, isNil, fillE, appendop, elems, hroom, PV.cells, PV.isCell, encI, alloc, oval, resv, tupled, tidy, below]
theorem wall_low {n : Nat} : ∀ {a b : List Nat}, (∀ k ∈ a, n ≤ k) → (∀ k ∈ b, n ≤ k) → ∀ k ∈ wall a b, n ≤ k
 | [], b, _, hb => hb
 | x :: a, b, ha, hb => wadd_low (ha x (by simp)) (wall_low (a := a) (fun k hk => ha k (by simp [hk])) hb)
def bPV (l : List UInt8) : List PV := l.map fun b => .int .u8 b.toNat
theorem unbytes_eq : ∀ l : List UInt8, unbytes (bPV l) = some l
 | [] => rfl
 | u :: l => by
   have h1 : (0 : Int) ≤ (u.toNat : Int) ∧ (u.toNat : Int) < 256 := ⟨by omega, by have := u.toNat_lt; omega⟩
   have h2 := unbytes_eq l
   unfold bPV at h2 ⊢
   simp only [List.map_cons, unbytes, unbyte, h1, and_self, if_true, h2, Int.toNat_natCast, UInt8.ofNat_toNat]
theorem wrap_u8 (n : Int) : IntKind.u8.wrap n = ((lowB n).toNat : Int) := by
 have h1 : IntKind.u8.wrap n = n % 256 := by rfl
 simp only [lowB, UInt8.toNat_ofNat']
 omega
theorem key_loop {h0 H : List AE.Obj} {L : List Int} {m : SM} {kb : Nat} {bs : List UInt8} {ws : List Nat} {e : List PV} {Q : AExit → List PV → St → Prop} (hL : L.length < 1000) (hkb : h0.length ≤ kb) (low : Low h0.length h0 H) (hk : H[kb]? = some (.tok 1 bs.length)) (hb : bs.length < 2000)
 (hw : ∀ k ∈ ws, h0.length ≤ k) (e3 : eget e 3 = .slice 1 (bPV bs) (.tok kb)) (e16 : eget e 16 = .slice 1 (L.map encI) m) (e17 : eget e 17 = .int .i64 (L.length : Int)) (e18 : eget e 18 = .int .i64 0)
 (hQ : ∀ H' ws' e', Low h0.length h0 H' → (∀ k ∈ ws', h0.length ≤ k) → eget e' 3 = .slice 1 (bPV (bs ++ L.map lowB)) (.tok kb) → Q (.exit 0) e' ⟨H', ws', []⟩) : wpC T (.loop a164b0) e ⟨H, ws, []⟩ Q := by
 refine wpC.loopM (fun n e st => ∃ (i : Nat) (H : List AE.Obj) (ws : List Nat), i + n = L.length ∧ Low h0.length h0 H ∧ H[kb]? = some (.tok 1 (bs ++ (L.take i).map lowB).length) ∧ (∀ k ∈ ws, h0.length ≤ k) ∧ eget e 3 = .slice 1 (bPV (bs ++ (L.take i).map lowB)) (.tok kb) ∧ eget e 16 = .slice 1 (L.map encI) m ∧ eget e 17 = .int .i64 (L.length : Int) ∧ eget e 18 = .int .i64 (i : Int) ∧ st = ⟨H, ws, []⟩) ?_ L.length _ _ ⟨0, H, ws, by omega, low, by simpa using hk, hw, by simpa using e3, e16, e17, e18, rfl⟩
 rintro n e st ⟨i, H, ws, hi, low, hk, hw, e3, e16, e17, e18, rfl⟩
 by_cases h1 : i < L.length
 · have ga := get_enc h1
   have hu2 := wrap_u8 L[i]
   have hn1 : bs ++ (L.take (i + 1)).map lowB = (bs ++ (L.take i).map lowB) ++ [lowB L[i]] := by
    rw [List.take_add_one, List.getElem?_eq_getElem h1, List.map_append, ← List.append_assoc]
    rfl
   have hBl : (bs ++ (L.take i).map lowB).length = bs.length + i := by simp; omega
   generalize hB : bs ++ (L.take i).map lowB = B at *
   generalize hc : lowB L[i] = c at *
   have hroom : (B.length + 1) * 1 ≤ room ∧ B.length + 1 ≤ room := by
    have : 100000 ≤ room := by decide
    constructor <;> omega
   have fe : fillE 1 (List.replicate 1 (PV.int .u8 0)) [(0, .int .u8 (c.toNat : Int))] = some [.int .u8 (c.toNat : Int)] := rfl
   have fa : appendop 1 1 (.slice 1 (bPV B) (.tok kb)) (.slice 1 [.int .u8 (c.toNat : Int)] .lit) ⟨H, ws, []⟩ = some (.slice 1 (bPV (B ++ [c])) (.tok kb), ⟨H.set kb (.tok 1 (B.length + 1)), wadd kb ws, []⟩) := by
    have hl : (bPV B).length = B.length := by simp [bPV]
    simp [appendop, elems, hk, PV.cells, PV.isCell, hroom, wrote_none, hl]
    simp [bPV]
   simp (disch := first | omega | decide | simp only [go_sem]) only [go_sem, a164b0, e3, e16, e17, e18, h1, ga, hu2, fe, fa]
   exact ⟨n - 1, by omega, i + 1, _, _, by omega, low.trans (.set hkb), by rw [get_set hk, hn1]; simp, wadd_low hkb hw, by rw [hn1], rfl, rfl⟩
 · simp (disch := first | omega | decide | simp only [go_sem]) only [go_sem, a164b0, e3, e16, e17, e18, h1]
   have hil : i = L.length := by omega
   subst hil
   rw [List.take_length] at e3
   exact hQ _ _ _ low hw (by simp only [go_sem, e3])
include hT in
theorem key_ev (hC : T.sp 208 = some (cloneSp af208)) {o : GOp} (ho : o.name.size < 1000 ∧ o.args.length < 900) (h : List AE.Obj) : Ev T 164 [encOp o] h (.val (.str ⟨(keyL o).toArray⟩), ⟨h, [], []⟩) := by
 refine Ev.walk (hT.sp _ (by decide)) ((hT.fn _).trans fn164) (hT.mode _) rfl ?_
 have hts : (o.name ++ ByteArray.mk #[40]).size = o.name.size + 1 := by simp; rfl
 have hts2 : (ByteArray.mk #[40]).size = 1 := rfl
 have hroom : o.name.size + 1 ≤ room := by
  have : 100000 ≤ room := by decide
  omega
 have htl : (o.name ++ ByteArray.mk #[40]).data.toList = o.name.data.toList ++ [40] := by simp
 generalize ht : o.name ++ ByteArray.mk #[40] = t at hts htl
 have okb : bytesPV t = bPV t.data.toList := rfl
 have hbl : t.data.toList.length = t.size := by simp
 have htr : t.size ≤ room := by omega
 have hsum : o.name.size + (ByteArray.mk #[40]).size ≤ 9223372036854775807 := by rw [hts2]; omega
 have fe : fillE 1 (List.replicate 1 (PV.int .i64 0)) [(0, .int .i64 o.res)] = some [.int .i64 o.res] := rfl
 generalize hkb : (h ++ [AE.Obj.row 3 [encOp o]]).length = kb
 generalize hH1 : ((h ++ [AE.Obj.row 3 [encOp o]]) ++ [AE.Obj.tok 1 t.size]) = H1
 have low1 : Low h.length h H1 := by
  rw [← hH1]
  exact ((Low.refl _ _).push (Nat.le_refl _)).push (by simp)
 have g0 : H1[h.length]? = some (.row 3 [encOp o]) := by rw [← hH1]; simp
 have gb : H1[kb]? = some (.tok 1 t.size) := by rw [← hH1, ← hkb]; simp
 have hlb : h.length ≤ kb := by rw [← hkb]; simp
 have hl1 : kb < H1.length := (List.getElem?_eq_some_iff.1 gb).1
 have keep : ∀ {k : Nat} {ob o2 : AE.Obj}, H1[k]? = some ob → (H1 ++ [o2])[k]? = some ob := fun hx => by
  rw [List.getElem?_append_left (List.getElem?_eq_some_iff.1 hx).1]; exact hx
 have hroom2 : (o.args.length + 1) * 8 ≤ room ∧ o.args.length + 1 ≤ room := by
  have : 100000 ≤ room := by decide
  constructor <;> omega
 have cl : ∃ v H2 m3 H3 ws3, Ev T 208 [.slice 1 (o.args.map encI) .any] H1 (.val v, ⟨H2, [], []⟩) ∧ refl1 v = [] ∧ H2[h.length]? = some (.row 3 [encOp o]) ∧ appendop 1 8 v (.slice 1 [.int .i64 o.res] .lit) ⟨H2, [], []⟩ = some (.slice 1 ((o.args ++ [o.res]).map encI) m3, ⟨H3, ws3, []⟩) ∧ Low h.length h H3 ∧ H3[kb]? = some (.tok 1 t.size) ∧ ∀ k ∈ ws3, h.length ≤ k := by
  cases ha : o.args with
  | nil =>
    refine ⟨.slice 1 [] .full, H1, .tok H1.length, H1 ++ [.tok 1 1], [], ⟨1, fun n hn => ?_⟩, rfl, g0, ?_, low1.push (by omega), keep gb, by simp⟩
    · obtain ⟨n, rfl⟩ : ∃ k, n = k + 1 := ⟨n - 1, by omega⟩
      simp only [evCall, hC, cloneSp, List.map_nil]
    · rw [ha] at hroom2
      simp at hroom2
      simp [appendop, elems, hroom2, PV.cells, PV.isCell, alloc, encI]
  | cons x l =>
    rw [ha] at hroom2
    refine ⟨_, H1 ++ [.tok 1 (l.length + 1)], .tok H1.length, (H1 ++ [AE.Obj.tok 1 (l.length + 1)]).set H1.length (AE.Obj.tok 1 (l.length + 2)), wadd H1.length [], clone_ev hC (by rw [ha] at ho; simp at ho; omega) H1, rfl, keep g0, ?_, (low1.push (by omega)).trans (.set (by omega)), get_set_ne (keep gb) (by omega), wadd_low (by omega) (by simp)⟩
    simp at hroom2
    have e1 : (H1 ++ [AE.Obj.tok 1 (l.length + 1)])[H1.length]? = some (.tok 1 (l.length + 1)) := by simp
    simp [appendop, elems, hroom2, PV.cells, PV.isCell, e1, wrote_none, encI]
 obtain ⟨v, H2, m3, H3, ws3, c1, c2, c3, c4, c5, c6, c7⟩ := cl
 have l1 : loadAt false 1 (.ptr h.length 0 1 1) H1 = some (.slice 1 (o.args.map encI) .any) := by rw [ld_at g0]; rfl
 have l2 : loadAt false 1 (.ptr h.length 0 2 1) H2 = some (.int .i64 o.res) := by rw [ld_at c3]; rfl
 simp (disch := first | omega | decide | simp only [go_sem]) only [go_sem, ht, htr, hsum, fe, hkb, hH1, hT.prim, primOf, cb c1, c2, l1, l2, c4]
 refine key_loop (L := o.args ++ [o.res]) (m := m3) (kb := kb) (h0 := h) (bs := t.data.toList) (by simp; omega) hlb c5 (by rw [hbl]; exact c6) (by omega) (wall_low c7 (by simp)) (by simp only [go_sem, hkb, okb]) (by simp only [go_sem]) (by simp only [go_sem]) (by simp only [go_sem]) fun H' ws' e' low' hw' e3 => ?_
 have hkl : t.data.toList ++ (o.args ++ [o.res]).map lowB = keyL o := by rw [htl]; rfl
 rw [hkl] at e3
 have hsv : strofv (.slice 1 (bPV (keyL o)) (.tok kb)) H' = some (.str ⟨(keyL o).toArray⟩) := by simp [strofv, elems, unbytes_eq]
 simp (disch := first | omega | decide | simp only [go_sem]) only [go_sem, e3, hsv]
 exact tidy_low rfl rfl low' hw'
end Go.Proofs.Tryz
/- sig.Check: exact. -/
namespace Go.Proofs.Tryz
open Go Go.AE
variable {T : Tbl} (hT : Std T)
def okMap (es : List (PV × PV)) : Prop := ∀ p ∈ es, ∃ n, p = (.str n, .bool true)
def inK (n : ByteArray) (es : List (PV × PV)) : Prop := ∃ p ∈ es, p.1 = .str n
theorem str_beq {n m : ByteArray} : (n == m) = true ↔ n = m := by
 obtain ⟨x⟩ := n
 obtain ⟨y⟩ := m
 constructor
 · intro h
   have e : x = y := by simpa using (show (x == y) = true from h)
   rw [e]
 · intro h
   cases h
   show (x == x) = true
   simp
theorem find_ok {n : ByteArray} : ∀ {es : List (PV × PV)}, okMap es → ∃ b : Bool, lookupv .str (.bool false) false (.map (some 0)) (.str n) [.map es] = some (.bool b) ∧ (b = true ↔ inK n es)
 | [], _ => ⟨false, rfl, nofun, fun ⟨p, hp, _⟩ => by simp at hp⟩
 | p :: es, h => by
   obtain ⟨m, rfl⟩ := h p (by simp)
   obtain ⟨b, hb, kb⟩ := find_ok (n := n) (es := es) fun q hq => h q (by simp [hq])
   simp only [lookupv, List.getElem?_cons_zero, isKey, if_true] at hb ⊢
   simp only [findK, sameKey]
   cases hnm : (n == m)
   · refine ⟨b, hb, kb.trans ⟨fun ⟨p, hp, he⟩ => ⟨p, by simp [hp], he⟩, fun ⟨p, hp, he⟩ => ?_⟩⟩
     rcases List.mem_cons.1 hp with rfl | hp
     · have : m = n := PV.str.inj he
       subst this
       rw [str_beq.2 rfl] at hnm
       cases hnm
     · exact ⟨p, hp, he⟩
   · exact ⟨true, rfl, fun _ => ⟨(.str m, .bool true), by simp, by rw [str_beq.1 hnm]⟩, fun _ => rfl⟩
theorem lookup_ok {n : ByteArray} {es : List (PV × PV)} {H : List AE.Obj} {k : Nat} (hk : H[k]? = some (.map es)) (ok : okMap es) : ∃ b : Bool, lookupv .str (.bool false) false (.map (some k)) (.str n) H = some (.bool b) ∧ (b = true ↔ inK n es) := by
 obtain ⟨b, hb, kb⟩ := find_ok (n := n) ok
 refine ⟨b, ?_, kb⟩
 simp only [lookupv, hk]
 simpa only [lookupv, List.getElem?_cons_zero] using hb
theorem put_ok {n : ByteArray} : ∀ {es : List (PV × PV)}, okMap es → ∃ es', putK (.str n) (.bool true) es = some es' ∧ okMap es' ∧ ∀ m, inK m es' ↔ m = n ∨ inK m es
 | [], _ => ⟨[(.str n, .bool true)], rfl, fun p hp => ⟨n, List.mem_singleton.1 hp⟩, fun m => by
   constructor
   · rintro ⟨p, hp, he⟩
     rw [List.mem_singleton.1 hp] at he
     exact .inl (PV.str.inj he).symm
   · rintro (rfl | ⟨p, hp, _⟩)
     · exact ⟨(.str m, .bool true), by simp, rfl⟩
     · simp at hp⟩
 | p :: es, h => by
   obtain ⟨m, rfl⟩ := h p (by simp)
   have h2 : okMap es := fun q hq => h q (by simp [hq])
   obtain ⟨es', he, ok, kk⟩ := put_ok (n := n) h2
   simp only [putK, sameKey]
   cases hnm : (n == m)
   · refine ⟨_, by rw [he]; rfl, fun q hq => ?_, fun d => ?_⟩
     · rcases List.mem_cons.1 hq with rfl | hq
       · exact ⟨m, rfl⟩
       · exact ok q hq
     · have := kk d
       simp only [inK, List.mem_cons, exists_eq_or_imp] at this ⊢
       rw [this]
       exact or_left_comm
   · have hm : n = m := str_beq.1 hnm
     subst hm
     refine ⟨_, rfl, fun q hq => ?_, fun d => ?_⟩
     · rcases List.mem_cons.1 hq with rfl | hq
       · exact ⟨n, rfl⟩
       · exact h2 q hq
     · simp only [inK, List.mem_cons, exists_eq_or_imp]
       constructor
       · rintro (he | h)
         · exact .inl (PV.str.inj he).symm
         · exact .inr (.inr h)
       · rintro (rfl | he | h)
         · exact .inl rfl
         · exact .inl he
         · exact .inr h
theorem upd_ok {n : ByteArray} {es : List (PV × PV)} {H : List AE.Obj} {k : Nat} {ws : List Nat} (hk : H[k]? = some (.map es)) (ok : okMap es) : ∃ es', mapupdv .str (.map (some k)) (.str n) (.bool true) ⟨H, ws, []⟩ = some ⟨H.set k (.map es'), wadd k ws, []⟩ ∧ okMap es' ∧ ∀ m, inK m es' ↔ m = n ∨ inK m es := by
 obtain ⟨es', he, ok', kk⟩ := put_ok (n := n) ok
 exact ⟨es', by simp only [mapupdv, hk, isKey, if_true, he, Option.map, PV.top, wrote_none], ok', kk⟩
include hT in
theorem check_b0 {s : GSig} (hs : Fits s) {h H : List AE.Obj} {k1 : Nat} {es : List (PV × PV)} {ws : List Nat} {e : List PV} {Q : AExit → List PV → St → Prop} (low : Low h.length h H) (hb : H[h.length]? = some (.row 2 [encSig s])) (hk1 : h.length < k1) (hm : H[k1]? = some (.map es)) (ok : okMap es) (kn : ∀ n, ¬ inK n es) (hw : ∀ k ∈ ws, h.length ≤ k)
 (e1 : eget e 1 = .ptr h.length 0 0 1) (e3 : eget e 3 = .map (some k1)) (e21 : eget e 21 = .slice 1 (s.sorts.map .str) .any) (e22 : eget e 22 = .int .i64 (s.sorts.length : Int)) (e23 : eget e 23 = .int .i64 0)
 (q1 : ¬ sigP s → ∀ H' ws' e', Low h.length h H' → (∀ k ∈ ws', h.length ≤ k) → eget e' 2 = .int .i64 40 → Q .ret e' ⟨H', ws', []⟩)
 (q2 : (∀ i (hi : i < s.sorts.length), nameP s.sorts[i] ∧ blk s.sorts[i] = 0) → (∀ i k (hi : i < s.sorts.length) (hk : k < i), s.sorts[k]'(by omega) ≠ s.sorts[i]) → ∀ H' ws' e', Low h.length h H' → H'[h.length]? = some (.row 2 [encSig s]) → (∀ k ∈ ws', h.length ≤ k) → eget e' 1 = .ptr h.length 0 0 1 → Q (.exit 0) e' ⟨H', ws', []⟩) : wpC T (.loop a87b0) e ⟨H, ws, []⟩ Q := by
 have hs1 := hs.nS
 refine wpC.loopM (fun n e st => ∃ (i : Nat) (H : List AE.Obj) (ws : List Nat) (es : List (PV × PV)), i + n = s.sorts.length ∧ Low h.length h H ∧ H[h.length]? = some (.row 2 [encSig s]) ∧ H[k1]? = some (.map es) ∧ okMap es ∧ (∀ n, inK n es ↔ ∃ j, ∃ hj : j < s.sorts.length, j < i ∧ s.sorts[j] = n) ∧ (∀ j (hj : j < s.sorts.length), j < i → nameP s.sorts[j] ∧ blk s.sorts[j] = 0) ∧ (∀ j k (hj : j < s.sorts.length) (hk : k < j), j < i → s.sorts[k]'(by omega) ≠ s.sorts[j]) ∧ (∀ k ∈ ws, h.length ≤ k) ∧ eget e 1 = .ptr h.length 0 0 1 ∧ eget e 3 = .map (some k1) ∧ eget e 21 = .slice 1 (s.sorts.map .str) .any ∧ eget e 22 = .int .i64 (s.sorts.length : Int) ∧ eget e 23 = .int .i64 (i : Int) ∧ st = ⟨H, ws, []⟩) ?_ s.sorts.length _ _
  ⟨0, H, ws, es, by omega, low, hb, hm, ok, fun n => ⟨fun h => absurd h (kn n), fun ⟨j, _, h, _⟩ => by omega⟩, fun j _ h => by omega, fun j k _ _ h => by omega, hw, e1, e3, e21, e22, e23, rfl⟩
 rintro n e st ⟨i, H, ws, es, hi, low, hb, hm, ok, kes, kna, kdf, hw, e1, e3, e21, e22, e23, rfl⟩
 by_cases h1 : i < s.sorts.length
 · have ga := get_str h1
   obtain ⟨b, hb1, kb⟩ := name_tot hT s.sorts[i] H
   obtain ⟨c, hc1, kc⟩ := contains_tot hT s.sorts[i] H
   obtain ⟨d, hd, kd⟩ := lookup_ok (n := s.sorts[i]) hm ok
   obtain ⟨es', he, ok', kk⟩ := upd_ok (n := s.sorts[i]) (ws := ws) hm ok
   simp (disch := first | omega | decide | simp only [go_sem]) only [go_sem, a87b0, e1, e3, e21, e22, e23, h1, ga, cb hb1, cb hc1, hd, he, hT.prim, primOf]
   cases b
   · simp (disch := first | omega | decide | simp only [go_sem]) only [go_sem]
     exact q1 (fun hp => by have := kb.2 (hp.sorts i h1).1; cases this) _ _ _ low hw (by simp only [go_sem])
   · cases c
     · cases d
       · simp (disch := first | omega | decide | simp only [go_sem]) only [go_sem]
         have hd2 : ¬ inK s.sorts[i] es := fun h => by have := kd.2 h; cases this
         refine ⟨n - 1, by omega, i + 1, _, _, es', by omega, low.trans (.set (by omega)), get_set_ne hb (by omega), get_set hm, ok', fun m => (kk m).trans ⟨?_, ?_⟩, fun j hj hji => ?_, fun j k hj hk hji => ?_, wadd_low (by omega) hw, rfl, rfl⟩
         · rintro (rfl | h)
           · exact ⟨i, h1, by omega, rfl⟩
           · obtain ⟨j, hj, h2, h3⟩ := (kes m).1 h
             exact ⟨j, hj, by omega, h3⟩
         · rintro ⟨j, hj, h2, h3⟩
           by_cases hji : j = i
           · subst hji; exact .inl h3.symm
           · exact .inr ((kes m).2 ⟨j, hj, by omega, h3⟩)
         · by_cases hjj : j = i
           · subst hjj
             refine ⟨kb.1 rfl, ?_⟩
             by_cases hz : blk s.sorts[j] = 0
             · exact hz
             · have := kc.2 hz; cases this
           · exact kna j hj (by omega)
         · by_cases hjj : j = i
           · subst hjj
             exact fun he => hd2 ((kes _).2 ⟨k, by omega, hk, he⟩)
           · exact kdf j k hj hk (by omega)
       · simp (disch := first | omega | decide | simp only [go_sem]) only [go_sem]
         exact q1 (fun hp => by
          obtain ⟨j, hj, h2, h3⟩ := (kes _).1 (kd.1 rfl)
          exact hp.diff i j h1 h2 h3) _ _ _ low hw (by simp only [go_sem])
     · simp (disch := first | omega | decide | simp only [go_sem]) only [go_sem]
       exact q1 (fun hp => kc.1 rfl (hp.sorts i h1).2) _ _ _ low hw (by simp only [go_sem])
 · simp (disch := first | omega | decide | simp only [go_sem]) only [go_sem, a87b0, e1, e3, e21, e22, e23, h1]
   exact q2 (fun j hj => kna j hj (by omega)) (fun j k hj hk => kdf j k hj hk (by omega)) _ _ _ low hb hw (by simp only [go_sem, e1])
theorem tops_ints : ∀ l : List Int, tops (l.map encI) = none
 | [] => rfl
 | x :: l => by simp [tops, encI, PV.top, omax]; exact tops_ints l
theorem top_op (o : GOp) : (encOp o).top = none := by
 simp only [encOp, PV.top, tops, omax, tops_ints]
def okOp1 (o : GOp) (nS : Nat) : Prop := okArgs o.args nS ∧ (0 ≤ o.res ∧ o.res < (nS : Int)) ∧ o.args.length ≤ 8
def okOps8 (ops : List GOp) (nS : Nat) : Prop := ∀ o ∈ ops, okOp1 o nS
theorem okOps8.ops {ops : List GOp} {nS : Nat} (h : okOps8 ops nS) : okOps ops nS := fun o ho => ⟨(h o ho).1, (h o ho).2.1, by have := (h o ho).2.2; omega⟩
include hT in
theorem check_b1 (hC : T.sp 208 = some (cloneSp af208)) {s : GSig} (hs : Fits s) (srt : (∀ i (hi : i < s.sorts.length), nameP s.sorts[i] ∧ blk s.sorts[i] = 0) ∧ ∀ i k (hi : i < s.sorts.length) (hk : k < i), s.sorts[k]'(by omega) ≠ s.sorts[i]) (h64 : s.sorts.length ≤ 64) (h256 : s.ops.length ≤ 256) {h H : List AE.Obj} {k2 : Nat} {ws : List Nat} {e : List PV} {Q : AExit → List PV → St → Prop} (low : Low h.length h H) (hb : H[h.length]? = some (.row 2 [encSig s])) (hk2 : h.length < k2) (hm : H[k2]? = some (.map [])) (hw : ∀ k ∈ ws, h.length ≤ k)
 (e1 : eget e 1 = .ptr h.length 0 0 1) (e6 : eget e 6 = .map (some k2)) (e44 : eget e 44 = .slice 3 (s.ops.map encOp) .any) (e45 : eget e 45 = .int .i64 (s.ops.length : Int)) (e46 : eget e 46 = .int .i64 0)
 (q1 : ¬ sigP s → ∀ H' ws' e', Low h.length h H' → (∀ k ∈ ws', h.length ≤ k) → eget e' 2 = .int .i64 40 → Q .ret e' ⟨H', ws', []⟩)
 (q2 : sigP s → ∀ H' ws' e', Low h.length h H' → (∀ k ∈ ws', h.length ≤ k) → Q (.exit 2) e' ⟨H', ws', []⟩) : wpC T (.loop a87b1) e ⟨H, ws, []⟩ Q := by
 have hs1 := hs.nS
 have hs2 := hs.nO
 refine wpC.loopM (fun n e st => ∃ (i : Nat) (H : List AE.Obj) (ws : List Nat) (es : List (PV × PV)), i + n = s.ops.length ∧ Low h.length h H ∧ H[h.length]? = some (.row 2 [encSig s]) ∧ H[k2]? = some (.map es) ∧ okMap es ∧ (∀ n, inK n es ↔ ∃ j, ∃ hj : j < s.ops.length, j < i ∧ (⟨(keyL s.ops[j]).toArray⟩ : ByteArray) = n) ∧ (∀ k ∈ ws, h.length ≤ k) ∧ (∀ j (hj : j < s.ops.length), j < i → opP s.sorts.length s.ops[j]) ∧ (∀ j k (hj : j < s.ops.length) (hk : k < j), j < i → s.ops[k]'(by omega) ≠ s.ops[j]) ∧ eget e 1 = .ptr h.length 0 0 1 ∧ eget e 6 = .map (some k2) ∧ eget e 44 = .slice 3 (s.ops.map encOp) .any ∧ eget e 45 = .int .i64 (s.ops.length : Int) ∧ eget e 46 = .int .i64 (i : Int) ∧ st = ⟨H, ws, []⟩) ?_ s.ops.length _ _
  ⟨0, H, ws, [], by omega, low, hb, hm, fun p hp => (by simp at hp), fun n => ⟨fun ⟨p, hp, _⟩ => by simp at hp, fun ⟨j, _, h, _⟩ => by omega⟩, hw, fun j _ hj => by omega, fun j k _ _ h => by omega, e1, e6, e44, e45, e46, rfl⟩
 rintro n e st ⟨i, H, ws, es, hi, low, hb, hm, ok, kes, hw, hp, kdf, e1, e6, e44, e45, e46, rfl⟩
 by_cases h1 : i < s.ops.length
 · have go := get_op h1
   obtain ⟨ho1, ho2⟩ := hs.ops _ (List.getElem_mem h1)
   have sb := st_box (h := H) (ws := ws) (ups := []) (z := .agg [(.str ⟨#[]⟩), (.slice 0 [] .nil), (.int .i64 0)]) (sz := 3) (c := encOp s.ops[i]) rfl rfl rfl (top_op _) ⟨_, rfl⟩ ⟨_, rfl⟩
   have hlen : h.length < H.length := (List.getElem?_eq_some_iff.1 hb).1
   have keep : ∀ {k : Nat} {ob o2 : AE.Obj}, H[k]? = some ob → (H ++ [o2])[k]? = some ob := fun hx => by
    rw [List.getElem?_append_left (List.getElem?_eq_some_iff.1 hx).1]; exact hx
   have fb : (H ++ [AE.Obj.row 3 [encOp s.ops[i]]])[H.length]? = some (.row 3 [encOp s.ops[i]]) := by simp
   have hb' : (H ++ [AE.Obj.row 3 [encOp s.ops[i]]])[h.length]? = some (.row 2 [encSig s]) := keep hb
   have hm' : (H ++ [AE.Obj.row 3 [encOp s.ops[i]]])[k2]? = some (.map es) := keep hm
   have low' : Low h.length h (H ++ [AE.Obj.row 3 [encOp s.ops[i]]]) := low.push (by omega)
   have hk2l : k2 < H.length := (List.getElem?_eq_some_iff.1 hm).1
   generalize hH1 : H ++ [AE.Obj.row 3 [encOp s.ops[i]]] = H1 at *
   generalize hkb : H.length = kb at *
   have l8 : loadAt true 3 (.ptr kb 0 0 1) H1 = some (encOp s.ops[i]) := by rw [ld_at fb]; rfl
   have l1 : loadAt false 1 (.ptr h.length 0 0 1) H1 = some (.slice 1 (s.sorts.map .str) .any) := by rw [ld_at hb']; rfl
   obtain ⟨b, hg, kg⟩ := good_tot hT hs (o := s.ops[i]) ho2 H1
   have ht := key_ev hT hC (o := s.ops[i]) ⟨ho1, ho2⟩ H1
   have hw' : ∀ k ∈ wadd kb ws, h.length ≤ k := wadd_low (by omega) hw
   obtain ⟨d, hd, kd⟩ := lookup_ok (n := ⟨(keyL s.ops[i]).toArray⟩) hm' ok
   obtain ⟨es', he, ok', kk⟩ := upd_ok (n := ⟨(keyL s.ops[i]).toArray⟩) (ws := wadd kb ws) hm' ok
   simp (disch := first | omega | decide | simp only [go_sem]) only [go_sem, a87b1, e1, e6, e44, e45, e46, h1, go, sb, hH1, hkb, l8, l1, cb hg, cb ht, hd, he, hT.prim, primOf, List.length_cons, List.length_nil]
   refine ⟨rfl, bifs (fun hb2 => q1 (fun hp => ?_) _ _ _ low' hw' (by simp only [go_sem])) fun hb2 => bifs (fun hb3 => q1 (fun hp => ?_) _ _ _ low' hw' (by simp only [go_sem])) fun hb3 => ?_⟩
   · have := kg.2 (hp.ops i h1)
     rw [this] at hb2
     cases hb2
   · obtain ⟨j, hj, h2, h3⟩ := (kes _).1 (kd.1 hb3)
     exact hp.diffO i j h1 h2 (key_inj (by omega) (hp.ops j hj) (hp.ops i h1) (by simpa using h3))
   · have hop : opP s.sorts.length s.ops[i] := kg.1 (by simpa using hb2)
     refine ⟨n - 1, by omega, i + 1, _, _, es', by omega, low'.trans (.set (by omega)), get_set_ne hb' (by omega), get_set hm', ok', fun m => (kk m).trans ⟨?_, ?_⟩, wadd_low (by omega) hw', fun j hj hji => ?_, fun j k hj hk hji => ?_, rfl, rfl⟩
     · rintro (rfl | h)
       · exact ⟨i, h1, by omega, rfl⟩
       · obtain ⟨j, hj, h2, h3⟩ := (kes m).1 h
         exact ⟨j, hj, by omega, h3⟩
     · rintro ⟨j, hj, h2, h3⟩
       by_cases hji : j = i
       · subst hji; exact .inl h3.symm
       · exact .inr ((kes m).2 ⟨j, hj, by omega, h3⟩)
     · by_cases hjj : j = i
       · subst hjj; exact hop
       · exact hp j hj (by omega)
     · by_cases hjj : j = i
       · subst hjj
         intro he
         have := kd.2 ((kes _).2 ⟨k, by omega, hk, by rw [he]⟩)
         rw [this] at hb3
         cases hb3
       · exact kdf j k hj hk (by omega)
 · simp (disch := first | omega | decide | simp only [go_sem]) only [go_sem, a87b1, e1, e6, e44, e45, e46, h1]
   exact q2 ⟨h64, h256, srt.1, srt.2, fun j hj => hp j hj (by omega), fun j k hj hk => kdf j k hj hk (by omega)⟩ _ _ _ low hw
include hT in
theorem check_tot (h87 : T.sp 87 = none) (hC : T.sp 208 = some (cloneSp af208)) {s : GSig} (hs : Fits s) (h : List AE.Obj) : ∃ r : Int, Ev T 87 [encSig s] h (.val (.int .i64 r), ⟨h, [], []⟩) ∧ ((r = 0 ∧ sigP s) ∨ (r = 40 ∧ ¬ sigP s)) := by
 have hs1 := hs.nS
 have hs2 := hs.nO
 refine Ev.walkP h87 ((hT.fn _).trans fn87) (hT.mode _) rfl ?_
 have low : Low h.length h (h ++ [.row 2 [encSig s]] ++ [.map []]) := ((Low.refl _ _).push (Nat.le_refl _)).push (by simp)
 generalize hH : h ++ [AE.Obj.row 2 [encSig s]] ++ [AE.Obj.map []] = H at low
 have hb : H[h.length]? = some (.row 2 [encSig s]) := by rw [← hH]; simp
 generalize hk1 : (h ++ [AE.Obj.row 2 [encSig s]]).length = k1
 have hm : H[k1]? = some (.map []) := by rw [← hH, ← hk1]; simp
 have hk1h : h.length < k1 := by rw [← hk1]; simp
 have l0 : loadAt false 1 (.ptr h.length 0 0 1) H = some (.slice 1 (s.sorts.map .str) .any) := by rw [ld_at hb]; rfl
 simp (disch := first | omega | decide | simp only [go_sem]) only [go_sem, hH, hk1, l0]
 refine bifs (fun h1 => ⟨40, rfl, .inr ⟨rfl, fun hp => by have := hp.nS; simp only [decide_eq_true_eq] at h1; omega⟩⟩) fun h64 => bifs (fun h1 => ⟨40, rfl, .inr ⟨rfl, fun hp => by have := hp.nO; simp only [decide_eq_true_eq] at h1; omega⟩⟩) fun h256 => ?_
 simp only [decide_eq_false_iff_not] at h64 h256
 refine check_b0 hT hs low hb hk1h hm (fun p hp => by simp at hp) (fun n ⟨p, hp, _⟩ => by simp at hp) (by simp) (by simp only [go_sem]) (by simp only [go_sem]) (by simp only [go_sem]) (by simp only [go_sem]) (by simp only [go_sem]) (fun hn H' ws' e' low' hw' e2 => ?_) (fun sr1 sr2 H' ws' e' low' hb' hw' e1 => ?_)
 · simp (disch := first | omega | decide | simp only [go_sem]) only [go_sem, e2]
   exact ⟨40, tidy_low rfl rfl low' hw', .inr ⟨rfl, hn⟩⟩
 · have hlen : h.length < H'.length := (List.getElem?_eq_some_iff.1 hb').1
   have hb2 : (H' ++ [AE.Obj.map []])[h.length]? = some (.row 2 [encSig s]) := by rw [List.getElem?_append_left hlen]; exact hb'
   have hm2 : (H' ++ [AE.Obj.map []])[H'.length]? = some (.map []) := by simp
   have l1 : loadAt false 1 (.ptr h.length 0 1 1) (H' ++ [AE.Obj.map []]) = some (.slice 3 (s.ops.map encOp) .any) := by rw [ld_at hb2]; rfl
   have low2 : Low h.length h (H' ++ [AE.Obj.map []]) := low'.push (by omega)
   simp (disch := first | omega | decide | simp only [go_sem]) only [go_sem, e1, l1]
   refine check_b1 hT hC hs ⟨sr1, sr2⟩ (by omega) (by omega) low2 hb2 (k2 := H'.length) (by omega) hm2 hw' (by simp only [go_sem, e1]) (by simp only [go_sem, e1]) (by simp only [go_sem, e1]) (by simp only [go_sem, e1]) (by simp only [go_sem, e1]) (fun hn H3 ws3 e3 low3 hw3 e32 => ?_) (fun ok H3 ws3 e3 low3 hw3 => ?_)
   · simp (disch := first | omega | decide | simp only [go_sem]) only [go_sem, e32]
     exact ⟨40, tidy_low rfl rfl low3 hw3, .inr ⟨rfl, hn⟩⟩
   · simp (disch := first | omega | decide | simp only [go_sem]) only [go_sem]
     exact ⟨0, tidy_low rfl rfl low3 hw3, .inl ⟨rfl, ok⟩⟩
end Go.Proofs.Tryz
/- Functions, as the evaluator sees them: printed by tools/Print.lean. -/
namespace Go.Proofs.Tryz
open Go Go.AE
def a22 : AFunc := ⟨2, 24, (.seq (.reg [
 rp 2 (.box 3 (.t 0)),
 rp 3 (.box 3 (.t 1)),
 ro 4 (.move (.c (.bool false)))])
 (.seq (.reg [
 ro 5 (.fieldAddr 0 (.t 2)),
 rp 6 (.load false 1 (.t 5)),
 ro 7 (.fieldAddr 0 (.t 3)),
 rp 8 (.load false 1 (.t 7)),
 ro 9 (.bin .eql (.t 6) (.t 8)),
 mv 10 9,
 rg 11 (.fieldAddr 1 (.t 2)) 10 true,
 rh 12 (.load false 1 (.t 11)) 10 true,
 rg 13 (.fieldAddr 1 (.t 3)) 10 true,
 rh 14 (.load false 1 (.t 13)) 10 true,
 rg 15 (.bin .eql (.t 12) (.t 14)) 10 true,
 ro 16 (.pick (.t 10) (.t 15) (.c (.bool false))),
 mv 17 16,
 rg 18 (.fieldAddr 2 (.t 2)) 17 true,
 rh 19 (.load false 1 (.t 18)) 17 true,
 rg 20 (.fieldAddr 2 (.t 3)) 17 true,
 rh 21 (.load false 1 (.t 20)) 17 true,
 rh 22 (.call (.f 32) [(.t 19), (.t 21), (.f 22)]) 17 true,
 ro 23 (.pick (.t 17) (.t 22) (.c (.bool false))),
 mv 4 23])
 .ret)), [.t 4]⟩
theorem fn22 : fnOf 22 = some a22 := by kernel_rfl
def a32b0 : ACode :=
 (.seq (.reg [
 ro 18 (.bin .lss (.t 17) (.t 16))])
 (.seq (.cond (.t 18)
 .skip
 (.exit 0))
 (.seq (.block 1 (.seq (.reg [
 mv 19 17,
 ro 20 (.idxAddr 3 (.t 15) (.t 17)),
 rp 21 (.load true 3 (.t 20)),
 rp 8 (.box 3 (.c (.agg [(.int .i64 0), (.int .i64 0), (.slice 0 [] .nil)]))),
 mv 7 19,
 wr (.store 3 (.t 8) (.t 21)) 0 0 false])
 (.seq (.reg [
 mv 22 1,
 mv 23 7,
 ro 24 (.idxAddr 3 (.t 22) (.t 23)),
 rp 25 (.load true 3 (.t 24)),
 rp 9 (.box 3 (.c (.agg [(.int .i64 0), (.int .i64 0), (.slice 0 [] .nil)]))),
 wr (.store 3 (.t 9) (.t 25)) 0 0 false])
 (.seq (.reg [
 mv 26 2,
 rp 27 (.load true 3 (.t 8)),
 rp 28 (.load true 3 (.t 9)),
 rp 29 (.call (.t 26) [(.t 27), (.t 28)]),
 ro 30 (.un .not (.t 29))])
 (.cond (.t 30)
 (.seq (.reg [
 ro 6 (.move (.c (.bool false)))])
 .ret)
 .skip)))))
 (.reg [
 ro 31 (.bin .add (.t 17) (ci 1)),
 mv 17 31]))))
def a32 : AFunc := ⟨3, 32, (.seq (.reg [
 ro 6 (.move (.c (.bool false)))])
 (.seq (.seq (.reg [
 mv 10 0,
 ro 11 (.lenL (.t 10)),
 mv 12 1,
 ro 13 (.lenL (.t 12)),
 ro 14 (.bin .neq (.t 11) (.t 13))])
 (.cond (.t 14)
 (.seq (.reg [
 ro 6 (.move (.c (.bool false)))])
 .ret)
 .skip))
 (.seq (.seq (.reg [
 mv 15 0,
 ro 16 (.lenL (.t 15)),
 ro 17 (.move (ci 0))])
 (.block 0 (.loop a32b0)))
 (.seq (.reg [
 ro 6 (.move (.c (.bool true)))])
 .ret)))), [.t 6]⟩
theorem fn32 : fnOf 32 = some a32 := by kernel_rfl
def a44 : AFunc := ⟨3, 33, (.seq (.reg [
 rp 3 (.box 2 (.t 0)),
 ro 6 (.move (ci 0)),
 ro 7 (.move (ci 0))])
 (.seq (.seq (.reg [
 rp 9 (.load true 2 (.t 3)),
 rp 10 (.call (.f 87) [(.t 9)]),
 mv 8 10])
 (.seq (.reg [
 mv 11 8,
 ro 12 (.bin .neq (.t 11) (ci 0))])
 (.cond (.t 12)
 (.seq (.reg [
 mv 13 8,
 ro 6 (.move (ci 0)),
 mv 7 13])
 .ret)
 .skip)))
 (.seq (.seq (.reg [
 rp 14 (.load true 2 (.t 3)),
 mv 15 1,
 rp 16 (.call (.f 88) [(.t 14), (.t 15)]),
 ro 17 (.un .not (.t 16)),
 mv 18 17,
 rg 19 (.move (.t 2)) 18 false,
 rh 20 (.call (.f 89) [(.t 19)]) 18 false,
 rg 21 (.un .not (.t 20)) 18 false,
 ro 22 (.pick (.t 18) (.c (.bool true)) (.t 21))])
 (.cond (.t 22)
 (.seq (.reg [
 ro 6 (.move (ci 0)),
 ro 7 (.move (ci 1))])
 .ret)
 .skip))
 (.seq (.reg [
 rp 23 (.load true 2 (.t 3)),
 rp 24 (.call (.f 90) [(.t 23)]),
 ro 25 (.nilCheck (.t 24)),
 ro 26 (.fieldAddr 2 (.t 25)),
 rp 27 (.load false 1 (.t 26)),
 mv 28 1,
 mv 29 2,
 ro 30 (.idxAddr 61 (.t 27) (.t 28)),
 ro 31 (.idxArr 61 1 (.t 30) (.t 29)),
 rp 32 (.load false 1 (.t 31)),
 mv 6 32,
 ro 7 (.move (ci 0))])
 .ret)))), [.t 6, .t 7]⟩
theorem fn44 : fnOf 44 = some a44 := by kernel_rfl
def a59 : AFunc := ⟨3, 30, (.seq (.reg [
 rp 3 (.box 2 (.t 0)),
 ro 6 (.move (.c (.slice 0 [] .nil))),
 ro 7 (.move (ci 0))])
 (.seq (.seq (.reg [
 rp 9 (.load true 2 (.t 3)),
 rp 10 (.call (.f 87) [(.t 9)]),
 mv 8 10])
 (.seq (.reg [
 mv 11 8,
 ro 12 (.bin .neq (.t 11) (ci 0))])
 (.cond (.t 12)
 (.seq (.reg [
 mv 13 8,
 ro 6 (.move (.c (.slice 0 [] .nil))),
 mv 7 13])
 .ret)
 .skip)))
 (.seq (.seq (.reg [
 rp 14 (.load true 2 (.t 3)),
 mv 15 1,
 rp 16 (.call (.f 88) [(.t 14), (.t 15)]),
 ro 17 (.un .not (.t 16)),
 mv 18 17,
 rg 19 (.move (.t 2)) 18 false,
 rh 20 (.call (.f 89) [(.t 19)]) 18 false,
 rg 21 (.un .not (.t 20)) 18 false,
 ro 22 (.pick (.t 18) (.c (.bool true)) (.t 21))])
 (.cond (.t 22)
 (.seq (.reg [
 ro 6 (.move (.c (.slice 0 [] .nil))),
 ro 7 (.move (ci 1))])
 .ret)
 .skip))
 (.seq (.reg [
 rp 23 (.load true 2 (.t 3)),
 rp 24 (.call (.f 90) [(.t 23)]),
 mv 25 1,
 mv 26 2,
 rp 27 (.call (.f 144) [(.t 24), (.t 25), (.t 26)]),
 ro 28 (.extract (.t 27) 0),
 ro 29 (.extract (.t 27) 1),
 mv 6 28,
 mv 7 29])
 .ret)))), [.t 6, .t 7]⟩
theorem fn59 : fnOf 59 = some a59 := by kernel_rfl
def a88 : AFunc := ⟨2, 14, (.seq (.reg [
 rp 2 (.box 2 (.t 0)),
 ro 4 (.move (.c (.bool false)))])
 (.seq (.reg [
 mv 5 1,
 ro 6 (.bin .geq (.t 5) (ci 0)),
 mv 7 6,
 rg 8 (.move (.t 1)) 7 true,
 rg 9 (.fieldAddr 0 (.t 2)) 7 true,
 rh 10 (.load false 1 (.t 9)) 7 true,
 rg 11 (.lenL (.t 10)) 7 true,
 rg 12 (.bin .lss (.t 8) (.t 11)) 7 true,
 ro 13 (.pick (.t 7) (.t 12) (.c (.bool false))),
 mv 4 13])
 .ret)), [.t 4]⟩
theorem fn88 : fnOf 88 = some a88 := by kernel_rfl
def a89 : AFunc := ⟨1, 9, (.seq (.reg [
 ro 2 (.move (.c (.bool false)))])
 (.seq (.reg [
 mv 3 0,
 ro 4 (.bin .geq (.t 3) (ci 0)),
 mv 5 4,
 rg 6 (.move (.t 0)) 5 true,
 rg 7 (.bin .leq (.t 6) (ci 60)) 5 true,
 ro 8 (.pick (.t 5) (.t 7) (.c (.bool false))),
 mv 2 8])
 .ret)), [.t 2]⟩
theorem fn89 : fnOf 89 = some a89 := by kernel_rfl
def a91b0 : ACode :=
 (.seq (.seq (.reg [
 mv 73 18,
 mv 74 14,
 ro 75 (.bin .leq (.t 73) (.t 74))])
 (.cond (.t 75)
 .skip
 (.exit 4)))
 (.seq (.block 5 (.seq (.regD [
 mv 78 15,
 rd 79 (.move (.t 0)) false 1 0 false,
 rd 80 (.nilCheck (.t 79)) false 2 2 false,
 rd 81 (.fieldAddr 2 (.t 80)) false 3 6 false,
 rd 82 (.load false 1 (.t 81)) true 4 14 false,
 rd 83 (.move (.t 17)) false 5 0 false,
 rd 84 (.move (.t 18)) false 6 0 false,
 rd 85 (.idxAddr 61 (.t 82) (.t 83)) false 7 62 false,
 rd 86 (.idxArr 61 1 (.t 85) (.t 84)) false 8 254 false,
 rd 87 (.load false 1 (.t 86)) true 9 510 false,
 rd 88 (.call (.f 165) [(.t 78), (.t 87)]) true 10 1023 false,
 rd 89 (.move (.t 0)) false 11 0 false,
 rd 90 (.nilCheck (.t 89)) false 12 2048 false,
 rd 91 (.fieldAddr 3 (.t 90)) false 13 6144 false,
 rd 92 (.load false 1 (.t 91)) true 14 14336 false,
 rd 93 (.move (.t 9)) false 15 0 false,
 rd 94 (.idxAddr 1 (.t 92) (.t 93)) false 16 63488 false,
 rd 95 (.load false 1 (.t 94)) true 17 129024 false,
 rd 96 (.move (.t 16)) false 18 0 false,
 rd 97 (.bin .add (.t 96) (ci 1)) false 19 262144 false,
 rd 98 (.move (.t 14)) false 20 0 false,
 rd 99 (.move (.t 18)) false 21 0 false,
 rd 100 (.bin .sub (.t 98) (.t 99)) false 22 3145728 false,
 rd 101 (.idxAddr 61 (.t 95) (.t 97)) false 23 1046528 true,
 rd 102 (.idxArr 61 1 (.t 101) (.t 100)) false 24 16775168 true,
 rd 103 (.load false 1 (.t 102)) true 25 33552384 true,
 rd 104 (.call (.f 165) [(.t 88), (.t 103)]) true 26 67108863 true,
 rd 19 (.move (.t 104)) false 27 134217727 true])
 (.seq (.seq (.reg [
 mv 105 3,
 mv 106 19,
 ro 107 (.bin .lss (.t 105) (.t 106))])
 (.cond (.t 107)
 (.seq (.reg [
 mv 108 13,
 mv 109 16,
 mv 110 18,
 ro 111 (.idxAddr 1 (.t 108) (.t 109)),
 wr (.store 1 (.t 111) (.t 110)) 0 0 false])
 (.exit 4))
 .skip))
 (.reg [
 mv 112 3,
 mv 113 19,
 ro 114 (.bin .sub (.t 112) (.t 113)),
 mv 3 114]))))
 (.reg [
 mv 76 18,
 ro 77 (.bin .add (.t 76) (ci 1)),
 mv 18 77])))
def a91b1 : ACode :=
 (.seq (.reg [
 ro 69 (.bin .lss (.t 68) (.t 67))])
 (.seq (.cond (.t 69)
 .skip
 (.exit 2))
 (.seq (.block 3 (.seq (.reg [
 mv 70 68,
 ro 71 (.idxAddr 1 (.t 66) (.t 68)),
 rp 72 (.load false 1 (.t 71)),
 mv 16 70,
 mv 17 72])
 (.seq (.seq (.reg [
 ro 18 (.move (ci 1))])
 (.block 4 (.loop a91b0)))
 (.seq (.regD [
 mv 115 15,
 rd 116 (.move (.t 0)) false 1 0 false,
 rd 117 (.nilCheck (.t 116)) false 2 2 false,
 rd 118 (.fieldAddr 2 (.t 117)) false 3 6 false,
 rd 119 (.load false 1 (.t 118)) true 4 14 false,
 rd 120 (.move (.t 17)) false 5 0 false,
 rd 121 (.move (.t 13)) false 6 0 false,
 rd 122 (.move (.t 16)) false 7 0 false,
 rd 123 (.idxAddr 1 (.t 121) (.t 122)) false 8 192 false,
 rd 124 (.load false 1 (.t 123)) true 9 448 false,
 rd 125 (.idxAddr 61 (.t 119) (.t 120)) false 10 62 true,
 rd 126 (.idxArr 61 1 (.t 125) (.t 124)) false 11 2046 true,
 rd 127 (.load false 1 (.t 126)) true 12 4094 true,
 rd 128 (.call (.f 165) [(.t 115), (.t 127)]) true 13 8191 true,
 rd 15 (.move (.t 128)) false 14 16383 true])
 (.reg [
 mv 129 14,
 mv 130 13,
 mv 131 16,
 ro 132 (.idxAddr 1 (.t 130) (.t 131)),
 rp 133 (.load false 1 (.t 132)),
 ro 134 (.bin .sub (.t 129) (.t 133)),
 mv 14 134])))))
 (.reg [
 ro 135 (.bin .add (.t 68) (ci 1)),
 mv 68 135]))))
def a91b2 : ACode :=
 (.seq (.seq (.reg [
 mv 150 21,
 ro 151 (.bin .geq (.t 150) (ci 0))])
 (.cond (.t 151)
 .skip
 (.exit 6)))
 (.seq (.block 7 (.regD [
 mv 154 20,
 rd 155 (.move (.t 21)) false 1 0 false,
 rd 156 (.move (.t 20)) false 2 0 false,
 rd 157 (.move (.t 21)) false 3 0 false,
 rd 158 (.bin .add (.t 157) (ci 1)) false 4 8 false,
 rd 159 (.idxAddr 1 (.t 156) (.t 158)) false 5 28 false,
 rd 160 (.load false 1 (.t 159)) true 6 60 false,
 rd 161 (.move (.t 0)) false 7 0 false,
 rd 162 (.nilCheck (.t 161)) false 8 128 false,
 rd 163 (.fieldAddr 2 (.t 162)) false 9 384 false,
 rd 164 (.load false 1 (.t 163)) true 10 896 false,
 rd 165 (.fieldAddr 1 (.t 10)) false 11 0 false,
 rd 166 (.load false 1 (.t 165)) true 12 2048 false,
 rd 167 (.move (.t 21)) false 13 0 false,
 rd 168 (.idxAddr 1 (.t 166) (.t 167)) false 14 14336 false,
 rd 169 (.load false 1 (.t 168)) true 15 30720 false,
 rd 170 (.move (.t 13)) false 16 0 false,
 rd 171 (.move (.t 21)) false 17 0 false,
 rd 172 (.idxAddr 1 (.t 170) (.t 171)) false 18 196608 false,
 rd 173 (.load false 1 (.t 172)) true 19 458752 false,
 rd 174 (.idxAddr 61 (.t 164) (.t 169)) false 20 65408 true,
 rd 175 (.idxArr 61 1 (.t 174) (.t 173)) false 21 2097024 true,
 rd 176 (.load false 1 (.t 175)) true 22 4194176 true,
 rd 177 (.call (.f 165) [(.t 160), (.t 176)]) true 23 8388604 true,
 rd 178 (.idxAddr 1 (.t 154) (.t 155)) false 24 16777215 true,
 wr (.store 1 (.t 178) (.t 177)) 25 33554431 true]))
 (.reg [
 mv 152 21,
 ro 153 (.bin .sub (.t 152) (ci 1)),
 mv 21 153])))
def a91b3 : ACode :=
 (.seq (.reg [
 ro 183 (.bin .lss (.t 182) (.t 181))])
 (.seq (.cond (.t 183)
 .skip
 (.exit 8))
 (.seq (.block 9 (.seq (.reg [
 mv 184 182,
 ro 185 (.idxAddr 1 (.t 180) (.t 182)),
 rp 186 (.load false 1 (.t 185)),
 mv 22 184,
 mv 23 186])
 (.seq (.regD [
 ro 187 (.fieldAddr 2 (.t 12)),
 rd 188 (.load false 1 (.t 187)) true 1 1 false,
 rd 189 (.move (.t 0)) false 2 0 false,
 rd 190 (.move (.t 23)) false 3 0 false,
 rd 191 (.move (.t 13)) false 4 0 false,
 rd 192 (.move (.t 22)) false 5 0 false,
 rd 193 (.idxAddr 1 (.t 191) (.t 192)) false 6 48 false,
 rd 194 (.load false 1 (.t 193)) true 7 112 false,
 rd 195 (.move (.t 3)) false 8 0 false,
 rd 196 (.move (.t 20)) false 9 0 false,
 rd 197 (.move (.t 22)) false 10 0 true,
 rd 198 (.bin .add (.t 197) (ci 1)) false 11 1024 true,
 rd 199 (.idxAddr 1 (.t 196) (.t 198)) false 12 3584 true,
 rd 200 (.load false 1 (.t 199)) true 13 7680 true,
 rd 201 (.bin .quo (.t 195) (.t 200)) false 14 16128 true,
 rd 202 (.call (.f 91) [(.t 189), (.t 190), (.t 194), (.t 201)]) true 15 32764 true,
 rd 203 (.buildSlice 3 (.agg [(.int .i64 0), (.int .i64 0), (.slice 0 [] .nil)]) 1 [(0, (.t 202))]) false 16 65532 true,
 rd 204 (.append 3 40 (.t 188) (.t 203)) true 17 131071 true,
 rd 205 (.fieldAddr 2 (.t 12)) false 18 262143 true,
 wr (.store 1 (.t 205) (.t 204)) 19 524287 true])
 (.reg [
 mv 206 3,
 mv 207 20,
 mv 208 22,
 ro 209 (.bin .add (.t 208) (ci 1)),
 ro 210 (.idxAddr 1 (.t 207) (.t 209)),
 rp 211 (.load false 1 (.t 210)),
 ro 212 (.bin .rem (.t 206) (.t 211)),
 mv 3 212]))))
 (.reg [
 ro 213 (.bin .add (.t 182) (ci 1)),
 mv 182 213]))))
def a91b4 : ACode :=
 (.seq (.reg [
 ro 31 (.bin .lss (.t 30) (.t 29))])
 (.seq (.cond (.t 31)
 .skip
 (.exit 0))
 (.seq (.block 1 (.seq (.reg [
 mv 32 30,
 ro 33 (.idxAddr 3 (.t 28) (.t 30)),
 rp 34 (.load true 3 (.t 33)),
 rp 10 (.box 3 (.c (.agg [(.str ⟨#[]⟩), (.slice 0 [] .nil), (.int .i64 0)]))),
 mv 9 32,
 wr (.store 3 (.t 10) (.t 34)) 0 0 false])
 (.seq (.seq (.reg [
 ro 35 (.fieldAddr 2 (.t 10)),
 rp 36 (.load false 1 (.t 35)),
 mv 37 1,
 ro 38 (.bin .neq (.t 36) (.t 37))])
 (.cond (.t 38)
 (.exit 1)
 .skip))
 (.seq (.seq (.reg [
 mv 39 0,
 ro 40 (.nilCheck (.t 39)),
 ro 41 (.fieldAddr 3 (.t 40)),
 rp 42 (.load false 1 (.t 41)),
 mv 43 9,
 ro 44 (.idxAddr 1 (.t 42) (.t 43)),
 rp 45 (.load false 1 (.t 44)),
 mv 46 2,
 ro 47 (.bin .sub (.t 46) (ci 1)),
 ro 48 (.idxAddr 61 (.t 45) (ci 0)),
 ro 49 (.idxArr 61 1 (.t 48) (.t 47)),
 rp 50 (.load false 1 (.t 49)),
 mv 11 50])
 (.seq (.reg [
 mv 51 3,
 mv 52 11,
 ro 53 (.bin .geq (.t 51) (.t 52))])
 (.cond (.t 53)
 (.seq (.reg [
 mv 54 3,
 mv 55 11,
 ro 56 (.bin .sub (.t 54) (.t 55)),
 mv 3 56])
 (.exit 1))
 .skip)))
 (.seq (.reg [
 mv 57 9,
 ro 58 (.build [(.int .i64 0), (.int .i64 0), (.slice 0 [] .nil)] [(0, 1, (ci 2)), (1, 1, (.t 57))]),
 rp 12 (.box 3 (.c (.agg [(.int .i64 0), (.int .i64 0), (.slice 0 [] .nil)]))),
 wr (.store 3 (.t 12) (.t 58)) 0 0 false])
 (.seq (.reg [
 ro 59 (.fieldAddr 1 (.t 10)),
 rp 60 (.load false 1 (.t 59)),
 ro 61 (.lenL (.t 60)),
 rp 62 (.makeSlice 1 (.int .i64 0) 8 (.t 61) (.t 61)),
 mv 13 62])
 (.seq (.reg [
 mv 63 2,
 ro 64 (.bin .sub (.t 63) (ci 1)),
 mv 14 64,
 ro 15 (.move (ci 1))])
 (.seq (.seq (.reg [
 ro 65 (.fieldAddr 1 (.t 10)),
 rp 66 (.load false 1 (.t 65)),
 ro 67 (.lenL (.t 66)),
 ro 68 (.move (ci 0))])
 (.block 2 (.loop a91b1)))
 (.seq (.reg [
 ro 136 (.fieldAddr 1 (.t 10)),
 rp 137 (.load false 1 (.t 136)),
 ro 138 (.lenL (.t 137)),
 ro 139 (.bin .add (.t 138) (ci 1)),
 rp 140 (.makeSlice 1 (.int .i64 0) 8 (.t 139) (.t 139)),
 mv 20 140])
 (.seq (.reg [
 mv 141 20,
 ro 142 (.fieldAddr 1 (.t 10)),
 rp 143 (.load false 1 (.t 142)),
 ro 144 (.lenL (.t 143)),
 ro 145 (.idxAddr 1 (.t 141) (.t 144)),
 wr (.store 1 (.t 145) (ci 1)) 0 0 false])
 (.seq (.seq (.reg [
 ro 146 (.fieldAddr 1 (.t 10)),
 rp 147 (.load false 1 (.t 146)),
 ro 148 (.lenL (.t 147)),
 ro 149 (.bin .sub (.t 148) (ci 1)),
 mv 21 149])
 (.block 6 (.loop a91b2)))
 (.seq (.seq (.reg [
 ro 179 (.fieldAddr 1 (.t 10)),
 rp 180 (.load false 1 (.t 179)),
 ro 181 (.lenL (.t 180)),
 ro 182 (.move (ci 0))])
 (.block 8 (.loop a91b3)))
 (.seq (.reg [
 rp 214 (.load true 3 (.t 12)),
 wr (.store 3 (.t 8) (.t 214)) 0 0 false])
 .ret)))))))))))))
 (.reg [
 ro 215 (.bin .add (.t 30) (ci 1)),
 mv 30 215]))))
def a91 : AFunc := ⟨4, 217, (.seq (.reg [
 rp 8 (.box 3 (.c (.agg [(.int .i64 0), (.int .i64 0), (.slice 0 [] .nil)])))])
 (.seq (.seq (.reg [
 mv 24 0,
 ro 25 (.nilCheck (.t 24)),
 ro 26 (.fieldAddr 0 (.t 25)),
 ro 27 (.fieldAddr 1 (.t 26)),
 rp 28 (.load false 1 (.t 27)),
 ro 29 (.lenL (.t 28)),
 ro 30 (.move (ci 0))])
 (.block 0 (.loop a91b4)))
 (.seq (.reg [
 ro 216 (.build [(.int .i64 0), (.int .i64 0), (.slice 0 [] .nil)] []),
 wr (.store 3 (.t 8) (.t 216)) 0 0 false])
 .ret))), [.cell 8 true 3]⟩
theorem fn91 : fnOf 91 = some a91 := by kernel_rfl
def a144b0 : ACode :=
 (.seq (.seq (.reg [
 mv 13 9,
 mv 14 2,
 ro 15 (.bin .leq (.t 13) (.t 14))])
 (.cond (.t 15)
 .skip
 (.exit 0)))
 (.seq (.block 1 (.reg [
 mv 18 8,
 mv 19 0,
 ro 20 (.nilCheck (.t 19)),
 ro 21 (.fieldAddr 2 (.t 20)),
 rp 22 (.load false 1 (.t 21)),
 mv 23 1,
 mv 24 9,
 ro 25 (.idxAddr 61 (.t 22) (.t 23)),
 ro 26 (.idxArr 61 1 (.t 25) (.t 24)),
 rp 27 (.load false 1 (.t 26)),
 rp 28 (.call (.f 124) [(.t 18), (.t 27)]),
 mv 8 28]))
 (.reg [
 mv 16 9,
 ro 17 (.bin .add (.t 16) (ci 1)),
 mv 9 17])))
def a144b1 : ACode :=
 (.seq (.reg [
 ro 46 (.bin .lss (.t 45) (.t 44))])
 (.seq (.cond (.t 46)
 .skip
 (.exit 4))
 (.seq (.block 5 (.seq (.reg [
 mv 47 45,
 mv 12 47])
 (.reg [
 mv 48 10,
 mv 49 0,
 mv 50 1,
 mv 51 11,
 mv 52 12,
 rp 53 (.call (.f 91) [(.t 49), (.t 50), (.t 51), (.t 52)]),
 ro 54 (.buildSlice 3 (.agg [(.int .i64 0), (.int .i64 0), (.slice 0 [] .nil)]) 1 [(0, (.t 53))]),
 rp 55 (.append 3 40 (.t 48) (.t 54)),
 mv 10 55])))
 (.reg [
 ro 56 (.bin .add (.t 45) (ci 1)),
 mv 45 56]))))
def a144b2 : ACode :=
 (.seq (.seq (.reg [
 mv 31 11,
 mv 32 2,
 ro 33 (.bin .leq (.t 31) (.t 32))])
 (.cond (.t 33)
 .skip
 (.exit 2)))
 (.seq (.block 3 (.seq (.reg [
 mv 36 0,
 ro 37 (.nilCheck (.t 36)),
 ro 38 (.fieldAddr 2 (.t 37)),
 rp 39 (.load false 1 (.t 38)),
 mv 40 1,
 mv 41 11,
 ro 42 (.idxAddr 61 (.t 39) (.t 40)),
 ro 43 (.idxArr 61 1 (.t 42) (.t 41)),
 rp 44 (.load false 1 (.t 43)),
 ro 45 (.move (ci 0))])
 (.block 4 (.loop a144b1))))
 (.reg [
 mv 34 11,
 ro 35 (.bin .add (.t 34) (ci 1)),
 mv 11 35])))
def a144 : AFunc := ⟨3, 58, (.seq (.reg [
 ro 6 (.move (.c (.slice 0 [] .nil))),
 ro 7 (.move (ci 0))])
 (.seq (.reg [
 ro 8 (.move (ci 0))])
 (.seq (.seq (.reg [
 ro 9 (.move (ci 1))])
 (.block 0 (.loop a144b0)))
 (.seq (.seq (.reg [
 mv 29 8,
 ro 30 (.bin .gtr (.t 29) (ci 4000))])
 (.cond (.t 30)
 (.seq (.reg [
 ro 6 (.move (.c (.slice 0 [] .nil))),
 ro 7 (.move (ci 2))])
 .ret)
 .skip))
 (.seq (.reg [
 ro 10 (.move (.c (.slice 0 [] .nil)))])
 (.seq (.seq (.reg [
 ro 11 (.move (ci 1))])
 (.block 2 (.loop a144b2)))
 (.seq (.reg [
 mv 57 10,
 mv 6 57,
 ro 7 (.move (ci 0))])
 .ret))))))), [.t 6, .t 7]⟩
theorem fn144 : fnOf 144 = some a144 := by kernel_rfl
end Go.Proofs.Tryz
/- What the table of counts satisfies: the rest of each operation is a sum that is told as at most MaxCount. -/
namespace Go.Proofs.Tryz
open Go Go.AE
theorem inner_congr {xs xs' x1 x1' : List Int} {p : Nat} : ∀ (d m : Nat) (v : Int), (∀ j, m ≤ j → j < m + d → xs.getD j 0 = xs'.getD j 0) → (∀ j, m ≤ j → j < m + d → x1.getD (p - j) 0 = x1'.getD (p - j) 0) → inner xs x1 p d m v = inner xs' x1' p d m v
 | 0, _, _, _, _ => rfl
 | d + 1, m, v, h1, h2 => by
   simp only [inner]
   rw [h1 m (by omega) (by omega), h2 m (by omega) (by omega)]
   exact inner_congr d (m + 1) _ (fun j a b => h1 j (by omega) (by omega)) (fun j a b => h2 j (by omega) (by omega))
theorem getD_set {α : Type} {l : List α} {i j : Nat} {x d : α} (hi : i < l.length) : (l.set i x).getD j d = if i = j then x else l.getD j d := by
 simp only [List.getD_eq_getElem?_getD, List.getElem?_set]
 by_cases h : i = j
 · subst h; simp [hi]
 · simp [h]
theorem getD_set_ne {α : Type} {l : List α} {i j : Nat} {x d : α} (h : i ≠ j) : (l.set i x).getD j d = l.getD j d := by
 simp only [List.getD_eq_getElem?_getD, List.getElem?_set, h, if_false]
theorem rowsDown_get {so : List (List Int)} {args : List Int} {p : Nat} : ∀ (K : Nat) (ri : List (List Int)), K < ri.length → ∀ k, (rowsDown so args p K ri).getD k [] =
 if k < K then (ri.getD k []).set p (inner (so.getD (args.getD k 0).toNat []) ((rowsDown so args p K ri).getD (k + 1) []) p p 1 ((ri.getD k []).getD p 0)) else ri.getD k []
 | 0, ri, _, k => by simp [rowsDown]
 | K + 1, ri, hK, k => by
   have hl : K < (rowStep so args p ri K).length := by simp [rowStep]; omega
   have ih := rowsDown_get (so := so) (args := args) (p := p) K (rowStep so args p ri K) hl
   simp only [rowsDown]
   by_cases h1 : k < K
   · rw [ih k, if_pos h1, if_pos (by omega)]
     have e : (rowStep so args p ri K).getD k [] = ri.getD k [] := by unfold rowStep; exact getD_set_ne (by omega)
     rw [e]
   · rw [ih k, if_neg h1]
     by_cases h2 : k = K
     · subst h2
       rw [if_pos (by omega), ih (k + 1), if_neg (by omega)]
       have e : (rowStep so args p ri k).getD (k + 1) [] = ri.getD (k + 1) [] := by unfold rowStep; exact getD_set_ne (by omega)
       rw [e]
       unfold rowStep
       rw [getD_set (by omega), if_pos rfl]
     · rw [if_neg (by omega)]
       unfold rowStep
       exact getD_set_ne (by omega)
def Eqn (t : Tab) (i : Nat) (o : GOp) (k q : Nat) : Prop := ((t.2.getD i []).getD k []).getD q 0 = inner (t.1.getD (o.args.getD k 0).toNat []) ((t.2.getD i []).getD (k + 1) []) q q 1 0
structure Sem (ops : List GOp) (t : Tab) (done : Nat → Nat) : Prop where
 last : ∀ i o, ops[i]? = some o → (t.2.getD i []).getD o.args.length [] = zeros.set 0 1
 eq : ∀ i o k q, ops[i]? = some o → k < o.args.length → q < done i → Eqn t i o k q
 zero : ∀ i o k q, ops[i]? = some o → k < o.args.length → done i ≤ q → ((t.2.getD i []).getD k []).getD q 0 = 0
theorem opStep_sem {ops : List GOp} {nS p i : Nat} {t : Tab} {o : GOp} {done : Nat → Nat} (K : TabOK ops nS t) (hops : okOps ops nS) (hp : p < 60) (ho : ops[i]? = some o) (S : Sem ops t done) (hd : done i = p) (hle : ∀ j, done j ≤ p + 1) :
 Sem ops (opStep p t i o) (fun j => if j = i then p + 1 else done j) := by
 have hi : i < t.2.length := by rw [K.len]; exact (List.getElem?_eq_some_iff.1 ho).1
 have e1 : t.2[i]? = some (t.2.getD i []) := by
  rw [List.getD_eq_getElem?_getD, List.getElem?_eq_getElem hi]; rfl
 obtain ⟨q1, q2⟩ := K.rows i o _ ho e1
 have hs : ∀ r j, j ≠ p + 1 → ((opStep p t i o).1.getD r []).getD j 0 = (t.1.getD r []).getD j 0 := fun r j hj => by
  simp only [opStep]
  by_cases hr : o.res.toNat = r
  · subst hr
    by_cases hl : o.res.toNat < t.1.length
    · rw [getD_set hl, if_pos rfl, getD_set_ne (by omega)]
    · rw [List.set_eq_of_length_le (by omega)]
  · rw [getD_set_ne hr]
 have hne : ∀ j, j ≠ i → (opStep p t i o).2.getD j [] = t.2.getD j [] := fun j hj => by
  simp only [opStep]
  exact getD_set_ne (by omega)
 have hsame : (opStep p t i o).2.getD i [] = rowsDown t.1 o.args p o.args.length (t.2.getD i []) := by
  simp only [opStep]
  rw [getD_set hi, if_pos rfl]
 have hrow := rowsDown_get (so := t.1) (args := o.args) (p := p) o.args.length (t.2.getD i []) (by omega)
 generalize hri : rowsDown t.1 o.args p o.args.length (t.2.getD i []) = ri at hsame hrow
 have hoff : ∀ k q, q ≠ p → (ri.getD k []).getD q 0 = ((t.2.getD i []).getD k []).getD q 0 := fun k q hq => by
  rw [hrow k]
  split
  · exact getD_set_ne (by omega)
  · rfl
 refine ⟨fun j o' ho' => ?_, fun j o' k q ho' hk hq => ?_, fun j o' k q ho' hk hq => ?_⟩
 · by_cases hj : j = i
   · subst hj
     rw [ho] at ho'
     cases ho'
     rw [hsame, hrow, if_neg (by omega)]
     exact S.last _ _ ho
   · rw [hne j hj]; exact S.last _ _ ho'
 · by_cases hj : j = i
   · subst hj
     rw [ho] at ho'
     cases ho'
     simp only [if_true] at hq
     unfold Eqn
     rw [hsame]
     by_cases hqp : q = p
     · subst hqp
       have h0 := S.zero j o k q ho hk (by omega)
       have hlen := (q1.get (k := k) (by omega)).2.1
       have e : (ri.getD k []).getD q 0 = inner (t.1.getD (o.args.getD k 0).toNat []) (ri.getD (k + 1) []) q q 1 (((t.2.getD j []).getD k []).getD q 0) := by
        rw [hrow k, if_pos hk, getD_set (by omega), if_pos rfl]
       rw [e, h0]
       exact inner_congr _ _ _ (fun m a b => (hs _ _ (by omega)).symm) (fun m a b => rfl)
     · rw [hoff k q hqp, S.eq j o k q ho hk (by omega)]
       exact inner_congr _ _ _ (fun m a b => (hs _ _ (by omega)).symm) (fun m a b => (hoff _ _ (by omega)).symm)
   · have hq' : q < done j := by simpa [hj] using hq
     have := hle j
     unfold Eqn
     rw [hne j hj, S.eq j o' k q ho' hk hq']
     exact inner_congr _ _ _ (fun m a b => (hs _ _ (by omega)).symm) (fun m a b => rfl)
 · by_cases hj : j = i
   · subst hj
     rw [ho] at ho'
     cases ho'
     simp only [if_true] at hq
     rw [hsame, hoff k q (by omega)]
     exact S.zero _ _ _ _ ho hk (by omega)
   · rw [hne j hj]
     exact S.zero _ _ _ _ ho' hk (by simpa [hj] using hq)
theorem opsFrom_sem {ops : List GOp} {nS p : Nat} (hops : okOps ops nS) (hp : p < 60) : ∀ (os : List GOp) (i : Nat) (t : Tab), TabOK ops nS t → (∀ j o, os[j]? = some o → ops[i + j]? = some o) → os.length + i = ops.length →
 Sem ops t (fun j => if j < i then p + 1 else p) → Sem ops (opsFrom p os i t) (fun _ => p + 1) ∧ TabOK ops nS (opsFrom p os i t)
 | [], i, t, h, _, hl, S => by
   refine ⟨⟨S.last, fun j o k q ho hk hq => S.eq j o k q ho hk ?_, fun j o k q ho hk hq => S.zero j o k q ho hk ?_⟩, h⟩
   · have := (List.getElem?_eq_some_iff.1 ho).1
     simp at hl
     rw [if_pos (by omega)]; exact hq
   · have := (List.getElem?_eq_some_iff.1 ho).1
     simp at hl
     rw [if_pos (by omega)]; exact hq
 | o :: os, i, t, h, ho, hl, S => by
   have h0 := ho 0 o rfl
   have S' := opStep_sem h hops hp (by simpa using h0) S (by simp) (fun j => by split <;> omega)
   refine opsFrom_sem hops hp os (i + 1) _ (opStep_ok h hops hp (by simpa using h0)) (fun j o' hj => ?_) (by simp at hl; omega) ?_
   · have := ho (j + 1) o' (by simpa using hj)
     rw [show i + 1 + j = i + (j + 1) by omega]
     exact this
   · refine ⟨S'.last, fun j o k q ho hk hq => S'.eq j o k q ho hk ?_, fun j o k q ho hk hq => S'.zero j o k q ho hk ?_⟩
     · split at hq <;> (repeat' split) <;> omega
     · split at hq <;> (repeat' split) <;> omega
theorem sizesFrom_sem {ops : List GOp} {nS : Nat} (hops : okOps ops nS) : ∀ (d p : Nat) (t : Tab), p + d = 60 → TabOK ops nS t → Sem ops t (fun _ => p) → Sem ops (sizesFrom ops d p t) (fun _ => 60) ∧ TabOK ops nS (sizesFrom ops d p t)
 | 0, p, t, hd, h, S => by
   have : p = 60 := by omega
   subst this
   exact ⟨S, h⟩
 | d + 1, p, t, hd, h, S => by
   obtain ⟨S', h'⟩ := opsFrom_sem hops (p := p) (by omega) ops 0 t h (fun j o hj => by simpa using hj) (by simp) (by simpa using S)
   exact sizesFrom_sem hops d (p + 1) _ (by omega) h' S'
theorem tab0_sem (s : GSig) : Sem s.ops (tab0 s) (fun _ => 0) := by
 refine ⟨fun i o ho => ?_, fun i o k q ho hk hq => by omega, fun i o k q ho hk _ => ?_⟩
 · have e : (tab0 s).2.getD i [] = rest0 o := by simp [tab0, List.getD_eq_getElem?_getD, ho]
   rw [e]
   unfold rest0
   rw [getD_set (by simp), if_pos rfl]
 · have e : (tab0 s).2.getD i [] = rest0 o := by simp [tab0, List.getD_eq_getElem?_getD, ho]
   rw [e]
   unfold rest0
   rw [getD_set_ne (by omega)]
   have : (List.replicate (o.args.length + 1) zeros).getD k [] = zeros := by
    simp only [List.getD_eq_getElem?_getD, List.getElem?_replicate]
    rw [if_pos (by omega)]; rfl
   rw [this]
   simp only [zeros, List.getD_eq_getElem?_getD, List.getElem?_replicate]
   split <;> rfl
theorem tabOf_sem {s : GSig} (hs : okOps s.ops s.sorts.length) : Sem s.ops (tabOf s) (fun _ => 60) ∧ TabOK s.ops s.sorts.length (tabOf s) :=
 sizesFrom_sem hs 60 0 (tab0 s) (by omega) (tab0_ok s) (tab0_sem s)
theorem cap_le (x : Int) : cap x ≤ x := by unfold cap; omega
theorem cap_mono {x y : Int} (h : x ≤ y) : cap x ≤ cap y := by unfold cap; omega
theorem cap_add {x y : Int} (hx : 0 ≤ x) (hy : 0 ≤ y) : cap (x + y) ≤ cap x + cap y := by unfold cap; omega
theorem cap_mul {x y : Int} (hy : 0 ≤ y) : cap (x * y) ≤ cap (cap x * y) := by
 by_cases hx : x ≤ 1099511627776
 · rw [show cap x = x by unfold cap; omega]; exact Int.le_refl _
 · rw [show cap x = 1099511627776 by unfold cap; omega]
   by_cases h0 : y = 0
   · subst h0; simp
   · have : 1099511627776 * 1 ≤ 1099511627776 * y := Int.mul_le_mul_of_nonneg_left (by omega) (by omega)
     unfold cap
     omega
def sumP (ahead : Int) (xs x1 : List Int) (p : Nat) : Nat → Nat → Int
 | 0, _ => 0
 | d + 1, m => cap (cap (ahead * xs.getD m 0) * x1.getD (p - m) 0) + sumP ahead xs x1 p d (m + 1)
theorem inner_sumP {ahead : Int} {xs x1 : List Int} {p : Nat} (ha : 0 ≤ ahead) (hs : ∀ j, 0 ≤ xs.getD j 0) (h1 : ∀ j, 0 ≤ x1.getD j 0) : ∀ (d m : Nat) (v : Int), 0 ≤ v → cap (ahead * inner xs x1 p d m v) ≤ cap (ahead * v) + sumP ahead xs x1 p d m
 | 0, m, v, _ => by simp [inner, sumP]
 | d + 1, m, v, hv => by
   have hxy : 0 ≤ xs.getD m 0 * x1.getD (p - m) 0 := Int.mul_nonneg (hs _) (h1 _)
   have ih := inner_sumP (p := p) ha hs h1 d (m + 1) (min (v + min (xs.getD m 0 * x1.getD (p - m) 0) 1099511627776) 1099511627776) (by omega)
   simp only [inner, sumP]
   generalize hw : xs.getD m 0 * x1.getD (p - m) 0 = w at *
   have b1 : cap (ahead * min (v + min w 1099511627776) 1099511627776) ≤ cap (ahead * v + ahead * w) := by
    refine cap_mono ?_
    rw [← Int.mul_add]
    exact Int.mul_le_mul_of_nonneg_left (by omega) ha
   have b2 := cap_add (Int.mul_nonneg ha hv) (Int.mul_nonneg ha hxy)
   have b3 : cap (ahead * w) ≤ cap (cap (ahead * xs.getD m 0) * x1.getD (p - m) 0) := by
    rw [← hw, ← Int.mul_assoc]
    exact cap_mul (h1 _)
   omega
theorem okRow.nonneg {x : List Int} (h : okRow x) (j : Nat) : 0 ≤ x.getD j 0 := by
 by_cases hj : j < 61
 · exact (h.get hj).2.1
 · rw [List.getD_eq_getElem?_getD, List.getElem?_eq_none (by rw [h.1]; omega)]; decide
theorem okRow.le {x : List Int} (h : okRow x) (j : Nat) : x.getD j 0 ≤ 1099511627776 := by
 by_cases hj : j < 61
 · exact (h.get hj).2.2
 · rw [List.getD_eq_getElem?_getD, List.getElem?_eq_none (by rw [h.1]; omega)]; decide
end Go.Proofs.Tryz
/- isSort, sized; terms, and that each is the same as itself. -/
namespace Go.Proofs.Tryz
open Go Go.AE
variable {T : Tbl} (hT : Std T)
include hT in
theorem isSort_ev {s : GSig} (n : Int) (h : List AE.Obj) : Ev T 88 [encSig s, .int .i64 n] h (.val (.bool (isSortB n s.sorts.length)), ⟨h, [], []⟩) := by
 refine Ev.walk (hT.sp _ (by decide)) ((hT.fn _).trans fn88) (hT.mode _) rfl ?_
 have hk : (h ++ [AE.Obj.row 2 [encSig s]])[h.length]? = some (.row 2 [encSig s]) := by simp
 have fl : loadAt false 1 (.ptr h.length 0 0 1) (h ++ [AE.Obj.row 2 [encSig s]]) = some (.slice 1 (s.sorts.map .str) .any) := by rw [ld_at hk]; rfl
 have td : ∀ b, tidy 0 h.length (.val (.bool b)) ⟨h ++ [AE.Obj.row 2 [encSig s]], [], []⟩ = (.val (.bool b), ⟨h, [], []⟩) := fun b => tidy_low rfl rfl ((Low.refl _ _).push (Nat.le_refl _)) (by simp)
 by_cases h0 : 0 ≤ n
 · simp (disch := first | omega | decide | simp only [go_sem]) only [go_sem, fl, h0, isSortB, Bool.true_and, td]
 · simp (disch := first | omega | decide | simp only [go_sem]) only [go_sem, fl, h0, isSortB, Bool.false_and, td]
def sizedB (n : Int) : Bool := decide (0 ≤ n) && decide (n ≤ 60)
include hT in
theorem sized_ev (n : Int) (h : List AE.Obj) : Ev T 89 [.int .i64 n] h (.val (.bool (sizedB n)), ⟨h, [], []⟩) := by
 refine Ev.walk (hT.sp _ (by decide)) ((hT.fn _).trans fn89) (hT.mode _) rfl ?_
 by_cases h0 : 0 ≤ n
 · simp (disch := first | omega | decide | simp only [go_sem]) only [go_sem, h0, sizedB, Bool.true_and]
 · simp (disch := first | omega | decide | simp only [go_sem]) only [go_sem, h0, sizedB, Bool.false_and]
inductive IsT : PV → Prop where
 | mk (k n : Int) (sz : Nat) (es : List PV) (hs : es = [] ∨ sz = 3) (hl : es.length < 1000) (he : ∀ x, x ∈ es → IsT x) : IsT (.agg [.int .i64 k, .int .i64 n, .slice sz es .any])
theorem IsT.top {p : PV} (h : IsT p) : p.top = none := by
 induction h with
 | mk k n sz es hs hl he ih =>
   have : ∀ l : List PV, (∀ x ∈ l, x.top = none) → tops l = none := fun l => by
    induction l with
    | nil => intro _; rfl
    | cons x l ihl => intro hx; simp [tops, hx x (by simp), ihl fun y hy => hx y (by simp [hy]), omax]
   simp [PV.top, tops, omax, this es ih]
theorem IsT.pureW {p : PV} (h : IsT p) : p.pure = true ∧ p.weak = p := by
 induction h with
 | mk k n sz es hs hl he ih =>
   have : ∀ l : List PV, (∀ x ∈ l, x.pure = true ∧ x.weak = x) → pures l = true ∧ weaks l = l := fun l => by
    induction l with
    | nil => intro _; exact ⟨rfl, rfl⟩
    | cons x l ihl =>
      intro hx
      obtain ⟨a, b⟩ := ihl fun y hy => hx y (by simp [hy])
      obtain ⟨c, d⟩ := hx x (by simp)
      simp [pures, weaks, a, b, c, d]
   obtain ⟨a, b⟩ := this es ih
   simp [PV.pure, pures, PV.weak, weaks, a, b]
theorem IsT.cells {p : PV} (h : IsT p) : p.cells.length = 3 ∧ p.cells.all PV.isCell = true ∧ p.isDef = true ∧ ∃ cs, p = .agg cs := by
 cases h
 exact ⟨rfl, rfl, rfl, _, rfl⟩
theorem IsT.sub {p : PV} (h : IsT p) : sub true 3 p 0 = some p := by
 cases h
 rfl
end Go.Proofs.Tryz
/- A term is the same as itself. -/
namespace Go.Proofs.Tryz
open Go Go.AE
variable {T : Tbl} (hT : Std T)
@[go_sem] theorem tget0 {a : PV} {l : List PV} : (a :: l)[0]? = some a := rfl
@[go_sem] theorem tget1 {a b : PV} {l : List PV} : (a :: b :: l)[1]? = some b := rfl
@[go_sem] theorem tget2 {a b c : PV} {l : List PV} : (a :: b :: c :: l)[2]? = some c := rfl
@[go_sem] theorem tget3 {a b c d : PV} {l : List PV} : (a :: b :: c :: d :: l)[3]? = some d := rfl
@[go_sem] theorem cdef_agg {cs : List PV} : (PV.agg cs).isDef = true := rfl
theorem get_lt {es : List PV} {i : Nat} (h : i < es.length) : es[i]? = some es[i] := List.getElem?_eq_getElem h
theorem keepL {H : List AE.Obj} {k : Nat} {ob o2 : AE.Obj} (hx : H[k]? = some ob) : (H ++ [o2])[k]? = some ob := by
 rw [List.getElem?_append_left (List.getElem?_eq_some_iff.1 hx).1]; exact hx
end Go.Proofs.Tryz
/- slices.Repeat of a list of one number. -/
namespace Go.Proofs.Tryz
open Go Go.AE
variable {T : Tbl} (hT : Std T)
theorem wrapu {x : Int} (h : 0 ≤ x) (h2 : x < 4294967296) : IntKind.u64.wrap x = x := by
 rw [IntKind.wrap_u64]; omega
theorem and_u {n : Int} (h : 0 ≤ n) (h2 : n < 4294967296) : binop .and (.int .u64 n) (.int .u64 4294967295) = some (.int .u64 n) := by
 obtain ⟨m, rfl⟩ := Int.eq_ofNat_of_zero_le h
 have hm : m < 4294967296 := by omega
 have e : (BitVec.ofInt 64 (m : Int) &&& BitVec.ofInt 64 4294967295).toNat = m := by
  rw [BitVec.toNat_and, BitVec.ofInt_natCast, show (4294967295 : Int) = ((4294967295 : Nat) : Int) from rfl, BitVec.ofInt_natCast, BitVec.toNat_ofNat, BitVec.toNat_ofNat, Nat.mod_eq_of_lt (show m < 2 ^ 64 by omega), show 4294967295 % 2 ^ 64 = 2 ^ 32 - 1 from rfl, Nat.and_two_pow_sub_one_eq_mod]
  omega
 have e2 : binop .and (.int .u64 (m : Int)) (.int .u64 4294967295) = some (.int .u64 (IntKind.u64.wrap (((BitVec.ofInt 64 (m : Int) &&& BitVec.ofInt 64 4294967295).toNat : Nat) : Int))) := rfl
 rw [e2, e, wrapu (by omega) (by omega)]
theorem shr_u {n : Int} (h : 0 ≤ n) (h2 : n < 4294967296) : binop .shr (.int .u64 n) (.int .u64 32) = some (.int .u64 0) := by
 have e2 : binop .shr (.int .u64 n) (.int .u64 32) = some (.int .u64 (n.fdiv (2 ^ 32))) := rfl
 rw [e2]
 congr 2
 rw [Int.fdiv_eq_ediv_of_nonneg _ (by decide)]
 omega
include hT in
theorem mul64_ev {n : Int} (h0 : 0 ≤ n) (h1 : n < 4294967296) (h : List AE.Obj) : Ev T 240 [.int .u64 1, .int .u64 n] h (.val (.tuple [.int .u64 0, .int .u64 n]), ⟨h, [], []⟩) := by
 refine Ev.walk (hT.sp _ (by decide)) ((hT.fn _).trans fn240) (hT.mode _) rfl ?_
 have a1 := and_u (n := 1) (by decide) (by decide)
 have a2 := shr_u (n := 1) (by decide) (by decide)
 have a3 := and_u h0 h1
 have a4 := shr_u h0 h1
 have a5 := and_u (n := 0) (by decide) (by decide)
 have a6 := shr_u (n := 0) (by decide) (by decide)
 have w0 : IntKind.u64.wrap 0 = 0 := wrapu (by decide) (by decide)
 have w1 := wrapu h0 h1
 simp (disch := first | omega | decide | simp only [go_sem]) only [go_sem, a1, a2, a3, a4, a5, a6, Int.one_mul, Int.zero_mul, Int.mul_zero, Int.add_zero, Int.zero_add, w0, w1]
include hT in
theorem mul_ev {n : Int} (h0 : 0 ≤ n) (h1 : n < 4294967296) (h : List AE.Obj) : Ev T 193 [.int .u64 1, .int .u64 n] h (.val (.tuple [.int .u64 0, .int .u64 n]), ⟨h, [], []⟩) := by
 refine Ev.walk (hT.sp _ (by decide)) ((hT.fn _).trans fn193) (hT.mode _) rfl ?_
 simp (disch := first | omega | decide | simp only [go_sem]) only [go_sem, cb (mul64_ev hT h0 h1 h), hT.prim, primOf]
section
variable {e : List PV} {s : St} {K : OR × St → Prop}
@[go_sem ↓] theorem o_copy {sz : Nat} {a x : AX} : one T (.copy sz a x) e s K = obind (fun v => K (.val v.1, v.2)) ⟨⟩ (copyop sz (ax e a) (ax e x) s) := by
  simp only [one, evOp]
  cases copyop sz (ax e a) (ax e x) s <;> simp [obind]
@[go_sem] theorem oax_some2 {x : AX} : oax e (some x) = some (ax e x) := rfl
@[go_sem] theorem oax_none2 : oax e none = none := rfl
@[go_sem] theorem reads_copy {sz n : Nat} {x y : AX} : readsOf (.copy sz x y) true e n = refl1 (ax e x) ++ refl1 (ax e y) := by
  simp [readsOf, allocOp, AOp.axs, filt_refl]
@[go_sem] theorem writes_copy {sz : Nat} {x y : AX} {ws : List Nat} : writesOf (.copy sz x y) ws = ws := rfl
end
def filled (n i : Nat) (v : Int) : List Int := List.replicate i v ++ List.replicate (n - i) 0
theorem filled_len {n i : Nat} {v : Int} (h : i ≤ n) : (filled n i v).length = n := by simp [filled]; omega
theorem encI_cells (l : List Int) : (l.map encI).all (fun e => e.cells.all PV.isCell) = true := by
 rw [List.all_eq_true]
 intro x hx
 obtain ⟨n, _, rfl⟩ := List.mem_map.1 hx
 rfl
theorem tops_encI (l : List Int) : tops (l.map encI) = none := by
 induction l with
 | nil => rfl
 | cons x l ih => simp [tops, encI, PV.top, omax, ih]
theorem copy_row {H : List AE.Obj} {ws : List Nat} {k off len n : Nat} {xs ys : List Int} {src : PV} (hk : H[k]? = some (.row 1 (xs.map encI))) (hx : xs.length = n) (ho : off + len ≤ n) (hs : elems src H = some (1, ys.map encI)) (h1 : 0 < len) (h2 : 0 < ys.length) :
 copyop 1 (.aref k 1 off len n) src ⟨H, ws, []⟩ = some (.int .i64 (((ys.take len).length : Nat) : Int), ⟨H.set k (.row 1 ((xs.take off ++ ys.take len ++ xs.drop (off + (ys.take len).length)).map encI)), wadd k ws, []⟩) := by
 have e1 : ((ys.map encI).take len) = (ys.take len).map encI := by rw [List.map_take]
 have e2 : ((ys.take len).map encI).isEmpty = false := by
  cases ys with
  | nil => simp at h2
  | cons y ys => cases len with
    | zero => omega
    | succ l => rfl
 simp only [copyop, hs, hk, List.length_map, hx, ho, encI_cells, e1, e2, tops_encI, wrote_none, and_self, true_or, if_true, Nat.lt_irrefl, Nat.zero_lt_one, Bool.false_eq_true, if_false]
 simp [List.map_take, List.map_drop]
theorem sl_lo {k l n off : Nat} {i : Nat} (hi : i ≤ l) : sliceop 1 (.aref k 1 off l n) (some (.int .i64 (i : Int))) none none = some (.aref k 1 (off + i) (l - i) n) := by
 simp [sliceop, sbound, hi]
theorem sl_hi {k l n off : Nat} {i : Nat} (hi : i ≤ l) : sliceop 1 (.aref k 1 off l n) none (some (.int .i64 (i : Int))) none = some (.aref k 1 off i n) := by
 simp [sliceop, sbound, hi]
theorem filled_step {n i c : Nat} {v : Int} (h : i + c ≤ n) : (filled n i v).take i ++ List.replicate c v ++ (filled n i v).drop (i + c) = filled n (i + c) v := by
 apply List.ext_getElem?
 intro j
 simp only [filled, List.take_append, List.drop_append, List.getElem?_append, List.length_append, List.length_take, List.length_replicate, List.take_replicate, List.drop_replicate, List.getElem?_replicate]
 repeat' split
 all_goals first | rfl | omega | (simp; omega) | skip
theorem tidy_raw {n0 : Nat} {o : OR} {H : List AE.Obj} {ws : List Nat} (hw : ∀ k ∈ ws, n0 ≤ k) : tidy 1 n0 o ⟨H, ws, []⟩ = (o, ⟨H, [], []⟩) := by
 have : below n0 ws = [] := by
  unfold below
  rw [List.filter_eq_nil_iff]
  intro k hk
  have := hw k hk
  simp
  omega
 simp [tidy, this]
include hT in
theorem repeat_ev {n : Nat} {m : SM} (hn : n ≤ 1000) (v : Int) (h : List AE.Obj) : Ev T 138 [.slice 1 [.int .i64 v] m, .int .i64 (n : Int)] h (.val (.aref h.length 1 0 n n), ⟨h ++ [.row 1 ((List.replicate n v).map encI)], [], []⟩) := by
 refine Ev.walk (hT.sp _ (by decide)) ((hT.fn _).trans fn138) ((hT.mode 138).trans rfl) rfl ?_
 have wn : IntKind.u64.wrap (n : Int) = n := wrapu (by omega) (by omega)
 have w1 : IntKind.u64.wrap ((([PV.int .i64 v] : List PV).length : Nat) : Int) = 1 := wrapu (x := 1) (by decide) (by decide)
 have cm := mul_ev hT (n := (n : Int)) (by omega) (by omega) h
 have mk := mk_ok (sz := 1) (bytes := 8) (n := n) (z := .int .i64 0) (by omega) (by omega) rfl
 have n0 : ¬ (n : Int) < 0 := by omega
 have n1 : ¬ (9223372036854775807 : Int) < (n : Int) := by omega
 have n2 : ¬ (0 : Int) < 0 := by omega
 have kH : (h ++ [AE.Obj.row 1 (List.replicate n (.int .i64 0))])[h.length]? = some (.row 1 ((filled n 0 v).map encI)) := by simp [filled, encI]
 have low : Low h.length h (h ++ [AE.Obj.row 1 (List.replicate n (.int .i64 0))]) := (Low.refl _ _).push (Nat.le_refl _)
 generalize hH : h ++ [AE.Obj.row 1 (List.replicate n (.int .i64 0))] = H at *
 rcases Nat.eq_zero_or_pos n with hn0 | hn0
 · subst hn0
   have cp : copyop 1 (.aref h.length 1 0 0 0) (.slice 1 [.int .i64 v] m) ⟨H, [], []⟩ = some (.int .i64 0, ⟨H, [], []⟩) := by
    simp [copyop, elems, kH, filled, PV.cells, PV.isCell]
   have hf : H = h ++ [.row 1 ((List.replicate 0 v).map encI)] := by rw [← hH]; rfl
   have n3 : ¬ (0 : Int) < ((0 : Nat) : Int) := by decide
   simp (disch := first | omega | decide | simp only [go_sem]) only [go_sem, wn, w1, cb cm, mk, hT.prim, primOf, n0, n1, n2, hH, cp]
   refine unroll ?_
   simp (disch := first | omega | decide | simp only [go_sem]) only [go_sem, a138b0, n2, n3, tidy_raw (ws := []) (by simp)]
   rw [hf]
 · have cp := copy_row (ws := []) (off := 0) (len := n) (n := n) (ys := [v]) (src := .slice 1 [.int .i64 v] m) kH (filled_len (by omega)) (by omega) rfl hn0 (by simp)
   have e1 : ([v] : List Int).take n = List.replicate 1 v := by
    obtain ⟨k, rfl⟩ : ∃ k, n = k + 1 := ⟨n - 1, by omega⟩
    simp
   have e2 := filled_step (n := n) (i := 0) (c := 1) (v := v) (by omega)
   have e3 : H.set h.length (.row 1 ((filled n 1 v).map encI)) = h ++ [.row 1 ((filled n 1 v).map encI)] := by rw [← hH]; simp
   rw [e1, List.length_replicate, e2, Nat.zero_add, e3] at cp
   simp (disch := first | omega | decide | simp only [go_sem]) only [go_sem, wn, w1, cb cm, mk, hT.prim, primOf, n0, n1, n2, hH, cp]
   refine wpC.loopM (fun d e st => ∃ (i : Nat) (ws : List Nat), i + d = n ∧ 1 ≤ i ∧ (∀ k ∈ ws, h.length ≤ k) ∧ (eget e 7 = .aref h.length 1 0 n n ∧ eget e 8 = .int .i64 (i : Int)) ∧ st = ⟨h ++ [.row 1 ((filled n i v).map encI)], ws, []⟩) ?_ (n - 1) _ _ ⟨1, _, by omega, by omega, wadd_low (Nat.le_refl _) (by simp), by simp only [go_sem, and_self], rfl⟩
   rintro d e st ⟨i, ws, hd, hi, hw, ⟨e7, e8⟩, rfl⟩
   have kk : ∀ xs, (h ++ [AE.Obj.row 1 xs])[h.length]? = some (.row 1 xs) := fun xs => by simp
   by_cases h1 : i < n
   · have s1 := sl_lo (k := h.length) (l := n) (n := n) (off := 0) (i := i) (by omega)
     have s2 := sl_hi (k := h.length) (l := n) (n := n) (off := 0) (i := i) (by omega)
     have el : elems (.aref h.length 1 0 i n) (h ++ [.row 1 ((filled n i v).map encI)]) = some (1, (List.replicate i v).map encI) := by
      have hl := filled_len (v := v) (Nat.le_of_lt h1)
      simp only [elems, kk, List.length_map, hl, Nat.zero_add, List.drop_zero]
      rw [if_pos (by simp; omega), ← List.map_take]
      simp [filled, Nat.le_of_lt h1]
     have cp := copy_row (ws := []) (off := 0 + i) (len := n - i) (n := n) (kk _) (filled_len (v := v) (Nat.le_of_lt h1)) (by omega) el (by omega) (by simp; omega)
     rw [List.take_replicate, List.length_replicate, Nat.zero_add, filled_step (by omega)] at cp
     have e3 : (h ++ [AE.Obj.row 1 ((filled n i v).map encI)]).set h.length (.row 1 ((filled n (i + min (n - i) i) v).map encI)) = h ++ [.row 1 ((filled n (i + min (n - i) i) v).map encI)] := by simp
     rw [e3] at cp
     have h1' : (i : Int) < (n : Int) := by omega
     have wr : IntKind.i64.wrap ((i : Int) + ((min (n - i) i : Nat) : Int)) = ((i + min (n - i) i : Nat) : Int) := by rw [wrap64 (by omega) (by omega)]; omega
     simp (disch := first | omega | decide | simp only [go_sem]) only [go_sem, a138b0, e7, e8, h1', s1, s2, cp, wr]
     exact ⟨d - min (n - i) i, by omega, i + min (n - i) i, _, by omega, by omega, wadd_low (Nat.le_refl _) hw, rfl, rfl⟩
   · have hin : i = n := by omega
     subst hin
     have h1' : ¬ (i : Int) < (i : Int) := by omega
     simp (disch := first | omega | decide | simp only [go_sem]) only [go_sem, a138b0, e7, e8, h1', tidy_raw hw]
     simp [filled]
end Go.Proofs.Tryz
/- Numbers of lists: told by sizes first, then by the numbers of the elements; all told as at most MaxCount. No program in sight. -/
namespace Go.Proofs.Tryz
open Go Go.AE
theorem cap_cap_add {x y : Int} (hy : 0 ≤ y) : cap (cap x + y) = cap (x + y) := by unfold cap; omega
theorem cap_add_cap {x y : Int} (hx : 0 ≤ x) : cap (x + cap y) = cap (x + y) := by unfold cap; omega
theorem cap_mulE {x y : Int} (hx : 0 ≤ x) (hy : 0 ≤ y) : cap (cap x * y) = cap (x * y) := by
 have h1 := cap_mul (x := x) hy
 have h2 : cap (cap x * y) ≤ cap (x * y) := cap_mono (Int.mul_le_mul_of_nonneg_right (cap_le x) hy)
 omega
theorem cap_mulE' {x y : Int} (hx : 0 ≤ x) (hy : 0 ≤ y) : cap (x * cap y) = cap (x * y) := by rw [Int.mul_comm, cap_mulE hy hx, Int.mul_comm]
theorem cap_nn' {x : Int} (h : 0 ≤ x) : 0 ≤ cap x := by unfold cap; omega
theorem cap_lt {x y : Int} (h : x < y) (hc : x < 1099511627776) : x < cap y := by unfold cap; omega
theorem cap_self {x : Int} (h : x ≤ 1099511627776) : cap x = x := by unfold cap; omega
theorem cap_le_top (x : Int) : cap x ≤ 1099511627776 := by unfold cap; omega
section
variable (sv rv : Nat → Nat → Int)
def sumS (k q : Nat) : Nat → Int
 | 0 => 0
 | j + 1 => sumS k q j + sv k (j + 1) * rv (k + 1) (q - (j + 1))
def wayW (a : Int) (k q m : Nat) : Int := cap (cap (a * sv k m) * rv (k + 1) (q - m))
def preP (a : Int) (k q : Nat) : Nat → Int
 | 0 => 0
 | j + 1 => preP a k q j + wayW sv rv a k q (j + 1)
def ahF (sz : Nat → Nat) : Nat → Int
 | 0 => 1
 | k + 1 => cap (ahF sz k * sv k (sz k))
def lfF (sz : Nat → Nat) (N : Nat) : Nat → Nat
 | 0 => N
 | k + 1 => lfF sz N k - sz k
def bsF (sz : Nat → Nat) (N : Nat) : Nat → Int
 | 0 => 0
 | k + 1 => bsF sz N k + preP sv rv (ahF sv sz k) k (lfF sz N k) (sz k - 1)
def beF (sz : Nat → Nat) (L : Nat) : Nat → Int
 | 0 => 1
 | j + 1 => cap (beF sz L j * sv (L - 1 - j) (sz (L - 1 - j)))
def dnF (sz : Nat → Nat) (nm : Nat → Int) (L : Nat) : Nat → Int
 | 0 => 0
 | j + 1 => dnF sz nm L j + nm (L - 1 - j) * beF sv sz L j
structure Sys (L : Nat) : Prop where
 s0 : ∀ k m, 0 ≤ sv k m
 r0 : ∀ k q, 0 ≤ rv k q
 rc : ∀ k q, rv k q ≤ 1099511627776
 eq : ∀ k q, k < L → q < 60 → rv k q = cap (sumS sv rv k q q)
 last : ∀ q, rv L q = if q = 0 then 1 else 0
structure Fit (L N : Nat) (sz : Nat → Nat) : Prop where
 lo : ∀ k, k < L → 1 ≤ sz k
 le : ∀ k, k < L → sz k ≤ lfF sz N k
 all : lfF sz N L = 0
 pos : ∀ k, k < L → 1 ≤ sv k (sz k)
end
section
variable {sv rv : Nat → Nat → Int} {L : Nat}
theorem lf_le (sz : Nat → Nat) (N : Nat) : ∀ k, lfF sz N k ≤ N
 | 0 => Nat.le_refl _
 | k + 1 => by have := lf_le sz N k; simp only [lfF]; omega
theorem sumS_nn (S : Sys sv rv L) (k q : Nat) : ∀ j, 0 ≤ sumS sv rv k q j
 | 0 => Int.le_refl _
 | j + 1 => by
   have h1 := sumS_nn S k q j
   have h2 := Int.mul_nonneg (S.s0 k (j + 1)) (S.r0 (k + 1) (q - (j + 1)))
   simp only [sumS]; omega
theorem wayW_nn (S : Sys sv rv L) {a : Int} (ha : 0 ≤ a) (k q m : Nat) : 0 ≤ wayW sv rv a k q m := cap_nn' (Int.mul_nonneg (cap_nn' (Int.mul_nonneg ha (S.s0 k m))) (S.r0 _ _))
theorem preP_nn (S : Sys sv rv L) {a : Int} (ha : 0 ≤ a) (k q : Nat) : ∀ j, 0 ≤ preP sv rv a k q j
 | 0 => Int.le_refl _
 | j + 1 => by
   have h1 := preP_nn S ha k q j
   have h2 := wayW_nn S ha k q (j + 1)
   simp only [preP]; omega
theorem preP_mono (S : Sys sv rv L) {a : Int} (ha : 0 ≤ a) (k q : Nat) {i j : Nat} (h : i ≤ j) : preP sv rv a k q i ≤ preP sv rv a k q j := by
 induction j with
 | zero => have : i = 0 := by omega
           subst this; exact Int.le_refl _
 | succ j ih =>
   by_cases hi : i = j + 1
   · subst hi; exact Int.le_refl _
   · have h1 := ih (by omega)
     have h2 := wayW_nn S ha k q (j + 1)
     simp only [preP]; omega
theorem preP_cap (S : Sys sv rv L) {a : Int} (ha : 0 ≤ a) (k q : Nat) : ∀ j, cap (preP sv rv a k q j) = cap (a * sumS sv rv k q j)
 | 0 => by simp only [preP, sumS, Int.mul_zero]
 | j + 1 => by
   have ih := preP_cap S ha k q j
   have h0 := preP_nn S ha k q j
   have h1 := Int.mul_nonneg ha (S.s0 k (j + 1))
   have h2 := S.r0 (k + 1) (q - (j + 1))
   have h3 := Int.mul_nonneg h1 h2
   simp only [preP, sumS, wayW]
   rw [cap_mulE h1 h2, cap_add_cap h0, ← cap_cap_add h3, ih, cap_cap_add h3, Int.mul_add, Int.mul_assoc]
theorem preP_all (S : Sys sv rv L) {a : Int} (ha : 0 ≤ a) {k q : Nat} (hk : k < L) (hq : q < 60) : cap (preP sv rv a k q q) = cap (a * rv k q) := by
 rw [preP_cap S ha, S.eq k q hk hq, cap_mulE' ha (sumS_nn S k q q)]
theorem ah_pos {N : Nat} {sz : Nat → Nat} (F : Fit sv L N sz) : ∀ k, k ≤ L → 1 ≤ ahF sv sz k ∧ ahF sv sz k ≤ 1099511627776
 | 0, _ => by simp [ahF]
 | k + 1, hk => by
   obtain ⟨h1, h2⟩ := ah_pos F k (by omega)
   have h3 := F.pos k (by omega)
   have h4 : 1 * 1 ≤ ahF sv sz k * sv k (sz k) := Int.mul_le_mul h1 h3 (by omega) (by omega)
   simp only [ahF]
   unfold cap
   omega
theorem be_pos {N : Nat} {sz : Nat → Nat} (F : Fit sv L N sz) : ∀ j, j ≤ L → 1 ≤ beF sv sz L j ∧ beF sv sz L j ≤ 1099511627776
 | 0, _ => by simp [beF]
 | j + 1, hj => by
   obtain ⟨h1, h2⟩ := be_pos F j (by omega)
   have h3 := F.pos (L - 1 - j) (by omega)
   have h4 : 1 * 1 ≤ beF sv sz L j * sv (L - 1 - j) (sz (L - 1 - j)) := Int.mul_le_mul h1 h3 (by omega) (by omega)
   simp only [beF]
   unfold cap
   omega
theorem ah_be {N : Nat} {sz : Nat → Nat} (F : Fit sv L N sz) : ∀ k, k ≤ L → cap (ahF sv sz k * beF sv sz L (L - k)) = beF sv sz L L
 | 0, _ => by
   simp only [ahF, Int.one_mul, Nat.sub_zero]
   exact cap_self (be_pos F L (Nat.le_refl _)).2
 | k + 1, hk => by
   have ih := ah_be F k (by omega)
   obtain ⟨j, hj⟩ : ∃ j, L - k = j + 1 := ⟨L - k - 1, by omega⟩
   have e1 : L - (k + 1) = j := by omega
   have e2 : L - 1 - j = k := by omega
   rw [hj] at ih
   simp only [beF, e2] at ih
   rw [e1]
   simp only [ahF]
   have a1 := (ah_pos F k (by omega)).1
   have b1 := (be_pos F j (by omega)).1
   have p1 := F.pos k (by omega)
   rw [cap_mulE (Int.mul_nonneg (by omega) (by omega)) (by omega)]
   rw [cap_mulE' (by omega) (Int.mul_nonneg (by omega) (by omega))] at ih
   rw [← ih]
   congr 1
   rw [Int.mul_assoc, Int.mul_comm (sv k (sz k))]
theorem ah_last {N : Nat} {sz : Nat → Nat} (F : Fit sv L N sz) : ahF sv sz L = beF sv sz L L := by
 have := ah_be F L (Nat.le_refl _)
 rw [Nat.sub_self] at this
 simp only [beF, Int.mul_one] at this
 rwa [cap_self (ah_pos F L (Nat.le_refl _)).2] at this
theorem dn_nn {N : Nat} {sz : Nat → Nat} {nm : Nat → Int} (F : Fit sv L N sz) (hn : ∀ k, k < L → 0 ≤ nm k) : ∀ j, j ≤ L → 0 ≤ dnF sv sz nm L j
 | 0, _ => Int.le_refl _
 | j + 1, hj => by
   have h1 := dn_nn F hn j (by omega)
   have h2 := Int.mul_nonneg (hn (L - 1 - j) (by omega)) (show 0 ≤ beF sv sz L j by have := (be_pos F j (by omega)).1; omega)
   simp only [dnF]; omega
theorem dn_lt {N : Nat} {sz : Nat → Nat} {nm : Nat → Int} (F : Fit sv L N sz) (hn : ∀ k, k < L → 0 ≤ nm k ∧ nm k < sv k (sz k)) : ∀ j, j ≤ L → dnF sv sz nm L j < 1099511627776 → dnF sv sz nm L j < beF sv sz L j
 | 0, _, _ => by simp [dnF, beF]
 | j + 1, hj, hc => by
   obtain ⟨b1, b2⟩ := be_pos F j (by omega)
   obtain ⟨n0, n1⟩ := hn (L - 1 - j) (by omega)
   have h2 := Int.mul_nonneg n0 (show 0 ≤ beF sv sz L j by omega)
   have hd := dn_nn F (fun k hk => (hn k hk).1) j (by omega)
   simp only [dnF] at hc ⊢
   have h1 := dn_lt F hn j (by omega) (by omega)
   simp only [beF]
   refine cap_lt ?_ hc
   have h3 : (nm (L - 1 - j) + 1) * beF sv sz L j ≤ sv (L - 1 - j) (sz (L - 1 - j)) * beF sv sz L j := Int.mul_le_mul_of_nonneg_right (by omega) (by omega)
   rw [Int.add_mul, Int.one_mul, Int.mul_comm (sv _ _)] at h3
   omega
theorem tail_lt (S : Sys sv rv L) {N : Nat} (hN : N < 60) {sz : Nat → Nat} {nm : Nat → Int} (F : Fit sv L N sz) (hn : ∀ k, k < L → 0 ≤ nm k ∧ nm k < sv k (sz k)) : ∀ j k, k + j = L → (bsF sv rv sz N L - bsF sv rv sz N k) + dnF sv sz nm L L < 1099511627776 →
 (bsF sv rv sz N L - bsF sv rv sz N k) + dnF sv sz nm L L < cap (ahF sv sz k * rv k (lfF sz N k)) ∧ 0 ≤ bsF sv rv sz N L - bsF sv rv sz N k ∧ (k < L → (bsF sv rv sz N L - bsF sv rv sz N k) + dnF sv sz nm L L < preP sv rv (ahF sv sz k) k (lfF sz N k) (sz k))
 | 0, k, hk, hc => by
   have : k = L := by omega
   subst this
   have h1 := dn_lt F hn k (Nat.le_refl _) (by omega)
   refine ⟨?_, by omega, fun h => by omega⟩
   rw [F.all, S.last, if_pos rfl, Int.mul_one, cap_self (ah_pos F k (Nat.le_refl _)).2, ah_last F]
   omega
 | j + 1, k, hk, hc => by
   have hkL : k < L := by omega
   have a1 := (ah_pos F k (by omega)).1
   have hle := F.le k hkL
   have hlo := F.lo k hkL
   have hP := preP_nn S (show 0 ≤ ahF sv sz k by omega) k (lfF sz N k) (sz k - 1)
   have hb : bsF sv rv sz N (k + 1) = bsF sv rv sz N k + preP sv rv (ahF sv sz k) k (lfF sz N k) (sz k - 1) := rfl
   obtain ⟨h1, h2, _⟩ := tail_lt S hN F hn j (k + 1) (by omega) (by omega)
   have hw : cap (ahF sv sz (k + 1) * rv (k + 1) (lfF sz N (k + 1))) = wayW sv rv (ahF sv sz k) k (lfF sz N k) (sz k) := rfl
   rw [hw] at h1
   have hstep : preP sv rv (ahF sv sz k) k (lfF sz N k) (sz k) = preP sv rv (ahF sv sz k) k (lfF sz N k) (sz k - 1) + wayW sv rv (ahF sv sz k) k (lfF sz N k) (sz k) := by
    obtain ⟨m, hm⟩ : ∃ m, sz k = m + 1 := ⟨sz k - 1, by omega⟩
    rw [hm]; rfl
   have hmono := preP_mono S (show 0 ≤ ahF sv sz k by omega) k (lfF sz N k) hle
   have hlf := lf_le sz N k
   have hall := preP_all S (show 0 ≤ ahF sv sz k by omega) hkL (show lfF sz N k < 60 by omega)
   refine ⟨?_, by omega, fun _ => by omega⟩
   rw [← hall]
   exact cap_lt (by omega) hc
theorem list_lt (S : Sys sv rv L) {N : Nat} (hN : N < 60) {sz : Nat → Nat} {nm : Nat → Int} (F : Fit sv L N sz) (hn : ∀ k, k < L → 0 ≤ nm k ∧ nm k < sv k (sz k)) (hc : bsF sv rv sz N L + dnF sv sz nm L L < 1099511627776) :
 bsF sv rv sz N L + dnF sv sz nm L L < rv 0 N ∧ 0 ≤ bsF sv rv sz N L := by
 have h := tail_lt S hN F hn L 0 (by omega) (by simpa [bsF] using hc)
 simp only [bsF, Int.sub_zero, ahF, lfF, Int.one_mul] at h
 rw [cap_self (S.rc 0 N)] at h
 exact ⟨h.1, h.2.1⟩
theorem ah_congr {sz sz' : Nat → Nat} : ∀ k, (∀ j, j < k → sz j = sz' j) → ahF sv sz k = ahF sv sz' k
 | 0, _ => rfl
 | k + 1, h => by simp only [ahF]; rw [ah_congr k fun j hj => h j (by omega), h k (by omega)]
theorem lf_congr {sz sz' : Nat → Nat} {N : Nat} : ∀ k, (∀ j, j < k → sz j = sz' j) → lfF sz N k = lfF sz' N k
 | 0, _ => rfl
 | k + 1, h => by simp only [lfF]; rw [lf_congr k fun j hj => h j (by omega), h k (by omega)]
theorem bs_congr {sz sz' : Nat → Nat} {N : Nat} : ∀ k, (∀ j, j < k → sz j = sz' j) → bsF sv rv sz N k = bsF sv rv sz' N k
 | 0, _ => rfl
 | k + 1, h => by
   simp only [bsF]
   rw [bs_congr k fun j hj => h j (by omega), h k (by omega), ah_congr k fun j hj => h j (by omega), lf_congr k fun j hj => h j (by omega)]
theorem be_congr {sz sz' : Nat → Nat} : ∀ j, j ≤ L → (∀ k, k < L → sz k = sz' k) → beF sv sz L j = beF sv sz' L j
 | 0, _, _ => rfl
 | j + 1, hj, h => by simp only [beF]; rw [be_congr j (by omega) h, h (L - 1 - j) (by omega)]
theorem sizes_eq (S : Sys sv rv L) {N : Nat} (hN : N < 60) {sz sz' : Nat → Nat} {nm nm' : Nat → Int} (F : Fit sv L N sz) (F' : Fit sv L N sz') (hn : ∀ k, k < L → 0 ≤ nm k ∧ nm k < sv k (sz k)) (hn' : ∀ k, k < L → 0 ≤ nm' k ∧ nm' k < sv k (sz' k))
 (hc : bsF sv rv sz N L + dnF sv sz nm L L < 1099511627776) (he : bsF sv rv sz N L + dnF sv sz nm L L = bsF sv rv sz' N L + dnF sv sz' nm' L L) : ∀ k, k ≤ L → ∀ j, j < k → sz j = sz' j
 | 0, _ => fun j hj => by omega
 | k + 1, hk => fun j hj => by
   have ih := sizes_eq S hN F F' hn hn' hc he k (by omega)
   by_cases hjk : j < k
   · exact ih j hjk
   · have : j = k := by omega
     subst this
     have hb := bs_congr (sv := sv) (rv := rv) (N := N) j ih
     have ha := ah_congr (sv := sv) j ih
     have hl := lf_congr (N := N) j ih
     have b0 : 0 ≤ bsF sv rv sz N j := by
      have := tail_lt S hN F hn L 0 (by omega) (by simpa [bsF] using hc)
      exact (show ∀ k, k ≤ L → 0 ≤ bsF sv rv sz N k from fun k => by
       induction k with
       | zero => intro _; exact Int.le_refl _
       | succ k ih =>
         intro hk
         have h1 := ih (by omega)
         have h2 := preP_nn S (show 0 ≤ ahF sv sz k by have := (ah_pos F k (by omega)).1; omega) k (lfF sz N k) (sz k - 1)
         simp only [bsF]; omega) j (by omega)
     obtain ⟨_, _, h1⟩ := tail_lt S hN F hn (L - j) j (by omega) (by omega)
     obtain ⟨_, _, h2⟩ := tail_lt S hN F' hn' (L - j) j (by omega) (by omega)
     have h1 := h1 (by omega)
     have h2 := h2 (by omega)
     have a0 : 0 ≤ ahF sv sz j := by have := (ah_pos F j (by omega)).1; omega
     have g1 : preP sv rv (ahF sv sz j) j (lfF sz N j) (sz j - 1) ≤ (bsF sv rv sz N L - bsF sv rv sz N j) + dnF sv sz nm L L := by
      obtain ⟨_, q, _⟩ := tail_lt S hN F hn (L - (j + 1)) (j + 1) (by omega) (by
       have := preP_nn S a0 j (lfF sz N j) (sz j - 1)
       simp only [bsF]; omega)
      have d0 := dn_nn F (fun k hk => (hn k hk).1) L (Nat.le_refl _)
      simp only [bsF] at q
      omega
     have a0' : 0 ≤ ahF sv sz' j := by rw [← ha]; exact a0
     have g2 : preP sv rv (ahF sv sz' j) j (lfF sz' N j) (sz' j - 1) ≤ (bsF sv rv sz' N L - bsF sv rv sz' N j) + dnF sv sz' nm' L L := by
      obtain ⟨_, q, _⟩ := tail_lt S hN F' hn' (L - (j + 1)) (j + 1) (by omega) (by
       have := preP_nn S a0' j (lfF sz' N j) (sz' j - 1)
       simp only [bsF]; omega)
      have d0 := dn_nn F' (fun k hk => (hn' k hk).1) L (Nat.le_refl _)
      simp only [bsF] at q
      omega
     rw [← ha, ← hl] at h2 g2
     rcases Nat.lt_trichotomy (sz j) (sz' j) with h | h | h
     · have := preP_mono S a0 j (lfF sz N j) (show sz j ≤ sz' j - 1 by omega)
       omega
     · exact h
     · have := preP_mono S a0 j (lfF sz N j) (show sz' j ≤ sz j - 1 by omega)
       omega
theorem nums_eq {N : Nat} {sz : Nat → Nat} {nm nm' : Nat → Int} (F : Fit sv L N sz) (hn : ∀ k, k < L → 0 ≤ nm k ∧ nm k < sv k (sz k)) (hn' : ∀ k, k < L → 0 ≤ nm' k ∧ nm' k < sv k (sz k)) : ∀ j, j ≤ L → dnF sv sz nm L j < 1099511627776 → dnF sv sz nm L j = dnF sv sz nm' L j → ∀ i, i < j → nm (L - 1 - i) = nm' (L - 1 - i)
 | 0, _, _, _ => fun i hi => by omega
 | j + 1, hj, hc, he => fun i hi => by
   obtain ⟨b1, b2⟩ := be_pos F j (by omega)
   have d0 := dn_nn F (fun k hk => (hn k hk).1) j (by omega)
   have d0' := dn_nn F (fun k hk => (hn' k hk).1) j (by omega)
   have m0 := Int.mul_nonneg (hn (L - 1 - j) (by omega)).1 (show 0 ≤ beF sv sz L j by omega)
   have m0' := Int.mul_nonneg (hn' (L - 1 - j) (by omega)).1 (show 0 ≤ beF sv sz L j by omega)
   have hc' : dnF sv sz nm' L (j + 1) < 1099511627776 := by omega
   simp only [dnF] at hc hc' he
   have l1 := dn_lt F hn j (by omega) (by omega)
   have l2 := dn_lt F hn' j (by omega) (by omega)
   have hq : nm (L - 1 - j) = nm' (L - 1 - j) := by
    have e1 : (dnF sv sz nm L j + nm (L - 1 - j) * beF sv sz L j) / beF sv sz L j = nm (L - 1 - j) := by
     rw [Int.add_mul_ediv_right _ _ (by omega), Int.ediv_eq_zero_of_lt d0 l1, Int.zero_add]
    have e2 : (dnF sv sz nm' L j + nm' (L - 1 - j) * beF sv sz L j) / beF sv sz L j = nm' (L - 1 - j) := by
     rw [Int.add_mul_ediv_right _ _ (by omega), Int.ediv_eq_zero_of_lt d0' l2, Int.zero_add]
    rw [← e1, ← e2, he]
   by_cases hij : i = j
   · subst hij; exact hq
   · rw [hq] at he
     exact nums_eq F hn hn' j (by omega) (by omega) (by omega) i (by omega)
end
end Go.Proofs.Tryz
/- Terms, their sizes, sorts and numbers; what the table says of a sort. No program in sight. -/
namespace Go.Proofs.Tryz
open Go Go.AE
def aT (ops : List GOp) (t : Tab) (r : Int) (p : Nat) : Nat → Int
 | 0 => 0
 | i + 1 => aT ops t r p i + match ops[i]? with
   | some o => if o.res = r then ((t.2.getD i []).getD 0 []).getD p 0 else 0
   | none => 0
structure SemS (ops : List GOp) (nS : Nat) (t : Tab) (p i : Nat) : Prop where
 old : ∀ a q, a < nS → q < p → (t.1.getD a []).getD (q + 1) 0 = cap (aT ops t (a : Int) q ops.length)
 now : ∀ a, a < nS → (t.1.getD a []).getD (p + 1) 0 = cap (aT ops t (a : Int) p i)
 new : ∀ a q, a < nS → p < q → (t.1.getD a []).getD (q + 1) 0 = 0
theorem aT_congr {ops : List GOp} {t t' : Tab} {r : Int} {p : Nat} : ∀ i, (∀ j, j < i → ((t.2.getD j []).getD 0 []).getD p 0 = ((t'.2.getD j []).getD 0 []).getD p 0) → aT ops t r p i = aT ops t' r p i
 | 0, _ => rfl
 | i + 1, h => by simp only [aT]; rw [aT_congr i fun j hj => h j (by omega), h i (by omega)]
theorem aT_nn {ops : List GOp} {nS : Nat} {t : Tab} (K : TabOK ops nS t) {r : Int} {p : Nat} : ∀ i, 0 ≤ aT ops t r p i
 | 0 => Int.le_refl _
 | i + 1 => by
   have h1 := aT_nn K (r := r) (p := p) i
   simp only [aT]
   cases ho : ops[i]? with
   | none => simpa using h1
   | some o =>
     have hi : i < t.2.length := by rw [K.len]; exact (List.getElem?_eq_some_iff.1 ho).1
     have e1 : t.2[i]? = some (t.2.getD i []) := by
      rw [List.getD_eq_getElem?_getD, List.getElem?_eq_getElem hi]; rfl
     obtain ⟨q1, q2⟩ := K.rows i o _ ho e1
     have := (q1.get (k := 0) (by omega)).2.nonneg p
     simp only
     split <;> omega
theorem opStep_semS {ops : List GOp} {nS p i : Nat} {t : Tab} {o : GOp} (K : TabOK ops nS t) (hops : okOps ops nS) (hp : p < 60) (ho : ops[i]? = some o) (S : SemS ops nS t p i) : SemS ops nS (opStep p t i o) p (i + 1) := by
 have hi : i < t.2.length := by rw [K.len]; exact (List.getElem?_eq_some_iff.1 ho).1
 have e1 : t.2[i]? = some (t.2.getD i []) := by
  rw [List.getD_eq_getElem?_getD, List.getElem?_eq_getElem hi]; rfl
 obtain ⟨q1, q2⟩ := K.rows i o _ ho e1
 obtain ⟨a1, a2, a3⟩ := hops o (List.mem_of_getElem? ho)
 have hrow := rowsDown_get (so := t.1) (args := o.args) (p := p) o.args.length (t.2.getD i []) (by omega)
 have hne : ∀ j, j ≠ i → (opStep p t i o).2.getD j [] = t.2.getD j [] := fun j hj => by
  simp only [opStep]
  exact getD_set_ne (by omega)
 have hsame : (opStep p t i o).2.getD i [] = rowsDown t.1 o.args p o.args.length (t.2.getD i []) := by
  simp only [opStep]
  rw [getD_set hi, if_pos rfl]
 have hoff : ∀ j q, q ≠ p → (((opStep p t i o).2.getD j []).getD 0 []).getD q 0 = ((t.2.getD j []).getD 0 []).getD q 0 := fun j q hq => by
  by_cases hj : j = i
  · subst hj
    rw [hsame, hrow 0]
    split
    · exact getD_set_ne (by omega)
    · rfl
  · rw [hne j hj]
 have hq : ∀ r q, q < p → aT ops (opStep p t i o) r q ops.length = aT ops t r q ops.length := fun r q hq => aT_congr _ fun j _ => hoff j q (by omega)
 have hp2 : ∀ r, aT ops (opStep p t i o) r p i = aT ops t r p i := fun r => aT_congr _ fun j hj => by rw [hne j (by omega)]
 have hres : o.res.toNat < t.1.length := by rw [K.sl]; omega
 have hs : ∀ a j, j ≠ p + 1 → ((opStep p t i o).1.getD a []).getD j 0 = (t.1.getD a []).getD j 0 := fun a j hj => by
  simp only [opStep]
  by_cases hr : o.res.toNat = a
  · subst hr
    rw [getD_set hres, if_pos rfl, getD_set_ne (by omega)]
  · rw [getD_set_ne hr]
 refine ⟨fun a q ha hqp => ?_, fun a ha => ?_, fun a q ha hqp => ?_⟩
 · rw [hs a (q + 1) (by omega), hq _ _ hqp]
   exact S.old a q ha hqp
 · simp only [aT, ho]
   rw [hp2]
   by_cases hr : o.res = (a : Int)
   · have hra : o.res.toNat = a := by omega
     rw [if_pos hr, hsame]
     have h0 := aT_nn K (r := (a : Int)) (p := p) i
     obtain ⟨r1, r2⟩ := rowsDown_ok K.so (by rw [K.sl]; exact a1) hp o.args.length q1 q2 (Nat.le_refl _)
     have h1 := (r1.get (k := 0) (by omega)).2.nonneg p
     have hla : a < t.1.length := by rw [K.sl]; exact ha
     have hlen := (K.so.get hla).2.1
     simp only [opStep, hra]
     rw [getD_set hla, if_pos rfl, getD_set (by omega), if_pos rfl, S.now a ha]
     exact cap_cap_add h1
   · have hra : o.res.toNat ≠ a := by omega
     rw [if_neg hr, Int.add_zero]
     simp only [opStep]
     rw [getD_set_ne hra]
     exact S.now a ha
 · rw [hs a (q + 1) (by omega)]
   exact S.new a q ha hqp
theorem opsFrom_semS {ops : List GOp} {nS p : Nat} (hops : okOps ops nS) (hp : p < 60) : ∀ (os : List GOp) (i : Nat) (t : Tab), TabOK ops nS t → (∀ j o, os[j]? = some o → ops[i + j]? = some o) → os.length + i = ops.length →
 SemS ops nS t p i → SemS ops nS (opsFrom p os i t) p ops.length ∧ TabOK ops nS (opsFrom p os i t)
 | [], i, t, h, _, hl, S => by
   have : i = ops.length := by simpa using hl
   subst this
   exact ⟨S, h⟩
 | o :: os, i, t, h, ho, hl, S => by
   have h0 := ho 0 o rfl
   refine opsFrom_semS hops hp os (i + 1) _ (opStep_ok h hops hp (by simpa using h0)) (fun j o' hj => ?_) (by simp at hl; omega) (opStep_semS h hops hp (by simpa using h0) S)
   have := ho (j + 1) o' (by simpa using hj)
   rw [show i + 1 + j = i + (j + 1) by omega]
   exact this
theorem sizesFrom_semS {ops : List GOp} {nS : Nat} (hops : okOps ops nS) : ∀ (d p : Nat) (t : Tab), p + d = 60 → TabOK ops nS t → SemS ops nS t p 0 → ∀ a q, a < nS → q < 60 → ((sizesFrom ops d p t).1.getD a []).getD (q + 1) 0 = cap (aT ops (sizesFrom ops d p t) (a : Int) q ops.length)
 | 0, p, t, hd, h, S => fun a q ha hq => S.old a q ha (by omega)
 | d + 1, p, t, hd, h, S => by
   obtain ⟨S', h'⟩ := opsFrom_semS hops (p := p) (by omega) ops 0 t h (fun j o hj => by simpa using hj) (by simp) S
   refine sizesFrom_semS hops d (p + 1) _ (by omega) h' ⟨fun a q ha hq => ?_, fun a ha => ?_, fun a q ha hq => S'.new a q ha (by omega)⟩
   · by_cases hqp : q < p
     · exact S'.old a q ha hqp
     · have : q = p := by omega
       subst this
       exact S'.now a ha
   · rw [S'.new a (p + 1) ha (by omega)]; rfl
theorem tabOf_cnt {s : GSig} (hs : okOps s.ops s.sorts.length) {a q : Nat} (ha : a < s.sorts.length) (hq : q < 60) : ((tabOf s).1.getD a []).getD (q + 1) 0 = cap (aT s.ops (tabOf s) (a : Int) q s.ops.length) := by
 have z : ∀ (a j : Nat), (((tab0 s).1.getD a []).getD j 0) = 0 := fun a j => by
  simp only [tab0, zeros, List.getD_eq_getElem?_getD, List.getElem?_replicate]
  split
  · simp only [Option.getD_some, List.getElem?_replicate]
    split <;> rfl
  · rfl
 exact sizesFrom_semS hs 60 0 (tab0 s) (by omega) (tab0_ok s) ⟨fun a q _ h => by omega, fun a _ => by rw [z]; rfl, fun a q _ _ => z _ _⟩ a q ha hq
inductive Tm where
 | mk (k n : Int) (l : List Tm)
mutual
def Tm.nodes : Tm → Nat
 | .mk _ _ l => 1 + nodesL l
def nodesL : List Tm → Nat
 | [] => 0
 | t :: l => t.nodes + nodesL l
end
mutual
def WT (s : GSig) : Tm → Int → Prop
 | .mk k n l, a => k = 2 ∧ 0 ≤ n ∧ ∃ o, s.ops[n.toNat]? = some o ∧ o.res = a ∧ WTs s l o.args
def WTs (s : GSig) : List Tm → List Int → Prop
 | [], [] => True
 | t :: l, a :: bs => WT s t a ∧ WTs s l bs
 | _, _ => False
end
def svOf (s : GSig) (o : GOp) (k m : Nat) : Int := ((tabOf s).1.getD (o.args.getD k 0).toNat []).getD m 0
def rvOf (s : GSig) (i k q : Nat) : Int := (((tabOf s).2.getD i []).getD k []).getD q 0
mutual
def Tm.num (s : GSig) : Tm → Int
 | .mk _ n l => match s.ops[n.toNat]? with
   | some o => cap (aT s.ops (tabOf s) o.res (nodesL l) n.toNat + (bsF (svOf s o) (rvOf s n.toNat) (fun k => (l.map Tm.nodes).getD k 0) (nodesL l) o.args.length + dnF (svOf s o) (fun k => (l.map Tm.nodes).getD k 0) (fun k => (numL s l).getD k 0) o.args.length o.args.length))
   | none => 0
def numL (s : GSig) : List Tm → List Int
 | [] => []
 | t :: l => t.num s :: numL s l
end
theorem nodes_pos (t : Tm) : 1 ≤ t.nodes := by cases t; simp only [Tm.nodes]; omega
theorem nodesL_mem : ∀ {l : List Tm} {t : Tm}, t ∈ l → t.nodes ≤ nodesL l
 | x :: l, t, h => by
   rcases List.mem_cons.1 h with rfl | h
   · simp only [nodesL]; omega
   · have := nodesL_mem h
     simp only [nodesL]; omega
theorem WTs_len {s : GSig} : ∀ {l : List Tm} {bs : List Int}, WTs s l bs → l.length = bs.length
 | [], [], _ => rfl
 | t :: l, a :: bs, h => by simp [WTs_len h.2]
 | [], _ :: _, h => h.elim
 | _ :: _, [], h => h.elim
theorem WTs_get {s : GSig} : ∀ {l : List Tm} {bs : List Int}, WTs s l bs → ∀ {k : Nat} {t : Tm}, l[k]? = some t → WT s t (bs.getD k 0)
 | t :: l, a :: bs, h, 0, x, hx => by
   simp only [List.getElem?_cons_zero, Option.some.injEq] at hx
   subst hx
   simpa using h.1
 | t :: l, a :: bs, h, k + 1, x, hx => by
   have := WTs_get h.2 (k := k) (t := x) (by simpa using hx)
   simpa using this
 | [], [], _, k, x, hx => by simp at hx
 | [], _ :: _, h, _, _, _ => h.elim
 | _ :: _, [], h, _, _, _ => h.elim
theorem numL_get {s : GSig} : ∀ {l : List Tm} {k : Nat} {t : Tm}, l[k]? = some t → (numL s l).getD k 0 = t.num s
 | x :: l, 0, t, h => by
   simp only [List.getElem?_cons_zero, Option.some.injEq] at h
   subst h
   rfl
 | x :: l, k + 1, t, h => by
   have := numL_get (s := s) (l := l) (k := k) (t := t) (by simpa using h)
   simpa [numL] using this
theorem szs_get {l : List Tm} {k : Nat} {t : Tm} (h : l[k]? = some t) : (l.map Tm.nodes).getD k 0 = t.nodes := by
 rw [List.getD_eq_getElem?_getD, List.getElem?_map, h]; rfl
theorem lf_drop {l : List Tm} : ∀ k, lfF (fun k => (l.map Tm.nodes).getD k 0) (nodesL l) k = nodesL (l.drop k)
 | 0 => rfl
 | k + 1 => by
   simp only [lfF]
   rw [lf_drop k]
   cases h : l[k]? with
   | none =>
     have hl : l.length ≤ k := List.getElem?_eq_none_iff.1 h
     rw [List.drop_eq_nil_of_le hl, List.drop_eq_nil_of_le (by omega)]
     simp only [nodesL, Nat.zero_sub]
   | some t =>
     have hk := (List.getElem?_eq_some_iff.1 h).1
     have hd : l.drop k = t :: l.drop (k + 1) := by
      rw [List.drop_eq_getElem_cons hk, (List.getElem?_eq_some_iff.1 h).2]
     rw [hd, szs_get h]
     simp only [nodesL]
     omega
def tlS (xs x1 : List Int) (p : Nat) : Nat → Nat → Int
 | 0, _ => 0
 | d + 1, m => xs.getD m 0 * x1.getD (p - m) 0 + tlS xs x1 p d (m + 1)
theorem tlS_nn {xs x1 : List Int} {p : Nat} (h1 : ∀ j, 0 ≤ xs.getD j 0) (h2 : ∀ j, 0 ≤ x1.getD j 0) : ∀ d m, 0 ≤ tlS xs x1 p d m
 | 0, _ => Int.le_refl _
 | d + 1, m => by
   have := tlS_nn (p := p) h1 h2 d (m + 1)
   have := Int.mul_nonneg (h1 m) (h2 (p - m))
   simp only [tlS]; omega
theorem inner_tl {xs x1 : List Int} {p : Nat} (h1 : ∀ j, 0 ≤ xs.getD j 0) (h2 : ∀ j, 0 ≤ x1.getD j 0) : ∀ (d m : Nat) (v : Int), 0 ≤ v → v ≤ 1099511627776 → inner xs x1 p d m v = cap (v + tlS xs x1 p d m)
 | 0, m, v, _, hv => by simp only [inner, tlS, Int.add_zero]; rw [cap_self hv]
 | d + 1, m, v, h0, hv => by
   have hxy := Int.mul_nonneg (h1 m) (h2 (p - m))
   have ht := tlS_nn (p := p) h1 h2 d (m + 1)
   simp only [inner, tlS]
   have e : min (v + min (xs.getD m 0 * x1.getD (p - m) 0) 1099511627776) 1099511627776 = cap (v + xs.getD m 0 * x1.getD (p - m) 0) := by
    rw [← cap_add_cap h0]; rfl
   rw [e, inner_tl h1 h2 d (m + 1) _ (cap_nn' (by omega)) (cap_le_top _), cap_cap_add ht, Int.add_assoc]
def tlF (sv rv : Nat → Nat → Int) (k q : Nat) : Nat → Nat → Int
 | 0, _ => 0
 | d + 1, m => sv k m * rv (k + 1) (q - m) + tlF sv rv k q d (m + 1)
theorem tl_sum {sv rv : Nat → Nat → Int} (k q : Nat) : ∀ d j, sumS sv rv k q j + tlF sv rv k q d (j + 1) = sumS sv rv k q (j + d)
 | 0, j => by simp [tlF]
 | d + 1, j => by
   have ih := tl_sum (sv := sv) (rv := rv) k q d (j + 1)
   simp only [sumS] at ih
   rw [show j + (d + 1) = j + 1 + d by omega, ← ih]
   simp only [tlF]
   omega
theorem tlF_eq {s : GSig} {o : GOp} {i k q : Nat} : ∀ d m, tlF (svOf s o) (rvOf s i) k q d m = tlS ((tabOf s).1.getD (o.args.getD k 0).toNat []) (((tabOf s).2.getD i []).getD (k + 1) []) q d m
 | 0, _ => rfl
 | d + 1, m => by simp only [tlF, tlS]; rw [tlF_eq d (m + 1)]; rfl
theorem sysOf {s : GSig} (hs : okOps s.ops s.sorts.length) {i : Nat} {o : GOp} (ho : s.ops[i]? = some o) : Sys (svOf s o) (rvOf s i) o.args.length := by
 obtain ⟨S, K⟩ := tabOf_sem hs
 obtain ⟨a1, a2, a3⟩ := hs o (List.mem_of_getElem? ho)
 have hi : i < (tabOf s).2.length := by rw [K.len]; exact (List.getElem?_eq_some_iff.1 ho).1
 have e1 : (tabOf s).2[i]? = some ((tabOf s).2.getD i []) := by
  rw [List.getD_eq_getElem?_getD, List.getElem?_eq_getElem hi]; rfl
 obtain ⟨q1, q2⟩ := K.rows i o _ ho e1
 have row : ∀ (l : List (List Int)), okRows l → ∀ k q, 0 ≤ (l.getD k []).getD q 0 ∧ (l.getD k []).getD q 0 ≤ 1099511627776 := fun l hl k q => by
  by_cases hk : k < l.length
  · exact ⟨(hl.get hk).2.nonneg q, (hl.get hk).2.le q⟩
  · have e : l.getD k [] = [] := by rw [List.getD_eq_getElem?_getD, List.getElem?_eq_none (by omega)]; rfl
    rw [e]
    simp
 refine ⟨fun k m => (row _ K.so _ _).1, fun k q => (row _ q1 _ _).1, fun k q => (row _ q1 _ _).2, fun k q hk hq => ?_, fun q => ?_⟩
 · have := S.eq i o k q ho hk hq
   unfold Eqn at this
   have hq' : q < 61 := by omega
   rw [inner_tl (fun j => (row _ K.so _ _).1) (fun j => (row _ q1 _ _).1) q 1 0 (by omega) (by omega), Int.zero_add] at this
   have e := tl_sum (sv := svOf s o) (rv := rvOf s i) k q q 0
   simp only [Nat.zero_add, sumS, Int.zero_add, tlF_eq] at e
   rw [← e]
   exact this
 · unfold rvOf
   rw [S.last i o ho]
   simp only [zeros]
   cases q with
   | zero => rfl
   | succ q =>
     rw [if_neg (by omega), getD_set_ne (by omega)]
     simp only [List.getD_eq_getElem?_getD, List.getElem?_replicate]
     split <;> rfl
theorem getD_mem {l : List Tm} {k : Nat} (hk : k < l.length) : l[k]? = some l[k] := List.getElem?_eq_getElem hk
theorem row_lt {ops : List GOp} {nS : Nat} {t : Tab} (K : TabOK ops nS t) {r : Int} {p i : Nat} {o : GOp} (ho : ops[i]? = some o) (hr : o.res = r) : ∀ j, i < j → aT ops t r p i + ((t.2.getD i []).getD 0 []).getD p 0 ≤ aT ops t r p j
 | 0, h => by omega
 | j + 1, h => by
   by_cases hij : i = j
   · subst hij
     simp only [aT, ho, hr, if_true]
     exact Int.le_refl _
   · have h1 := row_lt (p := p) K ho hr j (by omega)
     have h2 := aT_nn K (r := r) (p := p) (j + 1)
     simp only [aT]
     cases hj : ops[j]? with
     | none => simpa using h1
     | some o' =>
       have hi : j < t.2.length := by rw [K.len]; exact (List.getElem?_eq_some_iff.1 hj).1
       have e1 : t.2[j]? = some (t.2.getD j []) := by
        rw [List.getD_eq_getElem?_getD, List.getElem?_eq_getElem hi]; rfl
       obtain ⟨q1, q2⟩ := K.rows j o' _ hj e1
       have := (q1.get (k := 0) (by omega)).2.nonneg p
       simp only
       split <;> omega
theorem fitOf {s : GSig} {o : GOp} {l : List Tm} (hl : l.length = o.args.length) (hp : ∀ k (hk : k < l.length), 1 ≤ svOf s o k (l[k]).nodes) : Fit (svOf s o) o.args.length (nodesL l) (fun k => (l.map Tm.nodes).getD k 0) := by
 refine ⟨fun k hk => ?_, fun k hk => ?_, ?_, fun k hk => ?_⟩
 · simp only [szs_get (getD_mem (show k < l.length by omega))]
   exact nodes_pos _
 · rw [lf_drop, szs_get (getD_mem (show k < l.length by omega)), List.drop_eq_getElem_cons (show k < l.length by omega)]
   simp only [nodesL]
   omega
 · rw [lf_drop, List.drop_eq_nil_of_le (by omega)]; rfl
 · have := hp k (by omega)
   simp only [szs_get (getD_mem (show k < l.length by omega))]
   exact this
theorem sum_ge {sv rv : Nat → Nat → Int} {L : Nat} (S : Sys sv rv L) (k q : Nat) : ∀ j m, 1 ≤ m → m ≤ j → sv k m * rv (k + 1) (q - m) ≤ sumS sv rv k q j
 | 0, m, h1, h2 => by omega
 | j + 1, m, h1, h2 => by
   have h0 := sumS_nn S k q j
   have h3 := Int.mul_nonneg (S.s0 k (j + 1)) (S.r0 (k + 1) (q - (j + 1)))
   simp only [sumS]
   by_cases hm : m = j + 1
   · subst hm; omega
   · have := sum_ge S k q j m h1 (by omega)
     omega
theorem rv_pos {sv rv : Nat → Nat → Int} {L N : Nat} {sz : Nat → Nat} (S : Sys sv rv L) (F : Fit sv L N sz) (hN : N < 60) : ∀ j k, k + j = L → 1 ≤ rv k (lfF sz N k)
 | 0, k, hk => by
   have : k = L := by omega
   subst this
   rw [F.all, S.last, if_pos rfl]
   exact Int.le_refl _
 | j + 1, k, hk => by
   have hkL : k < L := by omega
   have ih := rv_pos S F hN j (k + 1) (by omega)
   simp only [lfF] at ih
   have hlf := lf_le sz N k
   rw [S.eq k _ hkL (by omega)]
   have h1 := sum_ge S k (lfF sz N k) (lfF sz N k) (sz k) (F.lo k hkL) (F.le k hkL)
   have h2 := F.pos k hkL
   have h3 : 1 * 1 ≤ sv k (sz k) * rv (k + 1) (lfF sz N k - sz k) := Int.mul_le_mul h2 ih (by omega) (by omega)
   unfold cap
   omega
theorem cnt_pos {s : GSig} (hs : okOps s.ops s.sorts.length) : ∀ (N : Nat) (t : Tm) (a : Int), t.nodes ≤ N → t.nodes ≤ 60 → WT s t a → 0 ≤ a ∧ a < (s.sorts.length : Int) ∧ 1 ≤ ((tabOf s).1.getD a.toNat []).getD t.nodes 0
 | 0, t, a, h, _, _ => by have := nodes_pos t; omega
 | N + 1, .mk k n l, a, h, h60, hw => by
   obtain ⟨rfl, hn, o, ho, ha, hl⟩ := hw
   obtain ⟨S, K⟩ := tabOf_sem hs
   obtain ⟨a1, a2, a3⟩ := hs o (List.mem_of_getElem? ho)
   have hlen := WTs_len hl
   simp only [Tm.nodes] at h h60 ⊢
   have F : Fit (svOf s o) o.args.length (nodesL l) (fun k => (l.map Tm.nodes).getD k 0) := fitOf hlen fun k hk => by
    have hm := nodesL_mem (List.getElem_mem hk)
    exact (cnt_pos hs N l[k] _ (by omega) (by omega) (WTs_get hl (getD_mem hk))).2.2
   have hr := rv_pos (sysOf hs ho) F (by omega) o.args.length 0 (by omega)
   have hlt := row_lt K ho ha (p := nodesL l) s.ops.length (List.getElem?_eq_some_iff.1 ho).1
   have h0 := aT_nn K (r := a) (p := nodesL l) n.toNat
   refine ⟨by omega, by omega, ?_⟩
   rw [show 1 + nodesL l = nodesL l + 1 by omega, tabOf_cnt hs (by omega) (by omega), show ((a.toNat : Nat) : Int) = a by omega]
   simp only [lfF, rvOf] at hr
   unfold cap
   omega
theorem dn_ge {sv : Nat → Nat → Int} {L N : Nat} {sz : Nat → Nat} {nm : Nat → Int} (F : Fit sv L N sz) (hn : ∀ k, k < L → 0 ≤ nm k) : ∀ j, j ≤ L → ∀ i, i < j → nm (L - 1 - i) ≤ dnF sv sz nm L j
 | 0, _, i, hi => by omega
 | j + 1, hj, i, hi => by
   have d0 := dn_nn F hn j (by omega)
   have b1 := (be_pos F j (by omega)).1
   have n0 := hn (L - 1 - j) (by omega)
   have m0 := Int.mul_nonneg n0 (show 0 ≤ beF sv sz L j by omega)
   simp only [dnF]
   by_cases hij : i = j
   · subst hij
     have : nm (L - 1 - i) * 1 ≤ nm (L - 1 - i) * beF sv sz L i := Int.mul_le_mul_of_nonneg_left b1 n0
     omega
   · have := dn_ge F hn j (by omega) i (by omega)
     omega
theorem bs_nn {sv rv : Nat → Nat → Int} {L N : Nat} {sz : Nat → Nat} (S : Sys sv rv L) (F : Fit sv L N sz) : ∀ k, k ≤ L → 0 ≤ bsF sv rv sz N k
 | 0, _ => Int.le_refl _
 | k + 1, hk => by
   have h1 := bs_nn S F k (by omega)
   have h2 := preP_nn S (show 0 ≤ ahF sv sz k by have := (ah_pos F k (by omega)).1; omega) k (lfF sz N k) (sz k - 1)
   simp only [bsF]; omega
structure NumOK (s : GSig) (n : Nat) (o : GOp) (l : List Tm) : Prop where
 fit : Fit (svOf s o) o.args.length (nodesL l) (fun k => (l.map Tm.nodes).getD k 0)
 nums : ∀ k, k < o.args.length → 0 ≤ (numL s l).getD k 0 ∧ (numL s l).getD k 0 < svOf s o k ((l.map Tm.nodes).getD k 0)
 lt : bsF (svOf s o) (rvOf s n) (fun k => (l.map Tm.nodes).getD k 0) (nodesL l) o.args.length + dnF (svOf s o) (fun k => (l.map Tm.nodes).getD k 0) (fun k => (numL s l).getD k 0) o.args.length o.args.length < rvOf s n 0 (nodesL l)
 nn : 0 ≤ bsF (svOf s o) (rvOf s n) (fun k => (l.map Tm.nodes).getD k 0) (nodesL l) o.args.length + dnF (svOf s o) (fun k => (l.map Tm.nodes).getD k 0) (fun k => (numL s l).getD k 0) o.args.length o.args.length
theorem num_nn {s : GSig} (hs : okOps s.ops s.sorts.length) : ∀ (N : Nat) (t : Tm) (a : Int), t.nodes ≤ N → t.nodes ≤ 60 → WT s t a → 0 ≤ t.num s
 | 0, t, a, h, _, _ => by have := nodes_pos t; omega
 | N + 1, .mk k n l, a, h, h60, hw => by
   obtain ⟨rfl, hn, o, ho, ha, hl⟩ := hw
   obtain ⟨S, K⟩ := tabOf_sem hs
   have hlen := WTs_len hl
   simp only [Tm.nodes] at h h60
   have F : Fit (svOf s o) o.args.length (nodesL l) (fun k => (l.map Tm.nodes).getD k 0) := fitOf hlen fun k hk => by
    have hm := nodesL_mem (List.getElem_mem hk)
    exact (cnt_pos hs N l[k] _ (by omega) (by omega) (WTs_get hl (getD_mem hk))).2.2
   have hnn : ∀ k, k < o.args.length → 0 ≤ (numL s l).getD k 0 := fun k hk => by
    have hk' : k < l.length := by omega
    have hm := nodesL_mem (List.getElem_mem hk')
    rw [numL_get (getD_mem hk')]
    exact num_nn hs N l[k] _ (by omega) (by omega) (WTs_get hl (getD_mem hk'))
   have b0 := bs_nn (sysOf hs ho) F o.args.length (Nat.le_refl _)
   have d0 := dn_nn F hnn o.args.length (Nat.le_refl _)
   have h0 := aT_nn K (r := o.res) (p := nodesL l) n.toNat
   simp only [Tm.num, ho]
   exact cap_nn' (by omega)
theorem num_ok {s : GSig} (hs : okOps s.ops s.sorts.length) : ∀ (N : Nat) (t : Tm) (a : Int), t.nodes ≤ N → t.nodes ≤ 60 → WT s t a → t.num s < 1099511627776 →
 t.num s < ((tabOf s).1.getD a.toNat []).getD t.nodes 0 ∧ ∀ k n l o, t = .mk k n l → s.ops[n.toNat]? = some o → NumOK s n.toNat o l
 | 0, t, a, h, _, _, _ => by have := nodes_pos t; omega
 | N + 1, .mk k n l, a, h, h60, hw, hc => by
   obtain ⟨rfl, hn, o, ho, ha, hl⟩ := hw
   obtain ⟨S, K⟩ := tabOf_sem hs
   obtain ⟨a1, a2, a3⟩ := hs o (List.mem_of_getElem? ho)
   have hlen := WTs_len hl
   simp only [Tm.nodes] at h h60 ⊢
   have F : Fit (svOf s o) o.args.length (nodesL l) (fun k => (l.map Tm.nodes).getD k 0) := fitOf hlen fun k hk => by
    have hm := nodesL_mem (List.getElem_mem hk)
    exact (cnt_pos hs N l[k] _ (by omega) (by omega) (WTs_get hl (getD_mem hk))).2.2
   have hnn : ∀ k, k < o.args.length → 0 ≤ (numL s l).getD k 0 := fun k hk => by
    have hk' : k < l.length := by omega
    have hm := nodesL_mem (List.getElem_mem hk')
    rw [numL_get (getD_mem hk')]
    exact num_nn hs N l[k] _ (by omega) (by omega) (WTs_get hl (getD_mem hk'))
   have b0 := bs_nn (sysOf hs ho) F o.args.length (Nat.le_refl _)
   have d0 := dn_nn F hnn o.args.length (Nat.le_refl _)
   have h0 := aT_nn K (r := o.res) (p := nodesL l) n.toNat
   simp only [Tm.num, ho] at hc ⊢
   have hnum : ∀ k, k < o.args.length → 0 ≤ (numL s l).getD k 0 ∧ (numL s l).getD k 0 < svOf s o k ((l.map Tm.nodes).getD k 0) := fun k hk => by
    have hk' : k < l.length := by omega
    have hm := nodesL_mem (List.getElem_mem hk')
    have hge := dn_ge F hnn o.args.length (Nat.le_refl _) (o.args.length - 1 - k) (by omega)
    rw [show o.args.length - 1 - (o.args.length - 1 - k) = k by omega] at hge
    have hck : (numL s l).getD k 0 < 1099511627776 := by
     unfold cap at hc
     omega
    refine ⟨hnn k hk, ?_⟩
    rw [numL_get (getD_mem hk')] at hck ⊢
    rw [szs_get (getD_mem hk')]
    exact (num_ok hs N l[k] _ (by omega) (by omega) (WTs_get hl (getD_mem hk')) hck).1
   have hcV : bsF (svOf s o) (rvOf s n.toNat) (fun k => (l.map Tm.nodes).getD k 0) (nodesL l) o.args.length + dnF (svOf s o) (fun k => (l.map Tm.nodes).getD k 0) (fun k => (numL s l).getD k 0) o.args.length o.args.length < 1099511627776 := by
    unfold cap at hc
    omega
   obtain ⟨hlt, _⟩ := list_lt (sysOf hs ho) (by omega) F hnum hcV
   have hrow := row_lt K ho ha (p := nodesL l) s.ops.length (List.getElem?_eq_some_iff.1 ho).1
   refine ⟨?_, fun k' n' l' o' e ho' => ?_⟩
   · rw [show 1 + nodesL l = nodesL l + 1 by omega, tabOf_cnt hs (by omega) (by omega), show ((a.toNat : Nat) : Int) = a by omega]
     rw [ha] at hc ⊢
     simp only [rvOf] at hlt
     unfold cap at hc ⊢
     omega
   · cases e
     rw [ho] at ho'
     cases ho'
     exact ⟨F, hnum, hlt, by omega⟩
theorem num_inj {s : GSig} (hs : okOps s.ops s.sorts.length) : ∀ (N : Nat) (t t' : Tm) (a : Int), t.nodes ≤ N → t.nodes ≤ 60 → t.nodes = t'.nodes → WT s t a → WT s t' a → t.num s < 1099511627776 → t.num s = t'.num s → t = t'
 | 0, t, t', a, h, _, _, _, _, _, _ => by have := nodes_pos t; omega
 | N + 1, .mk k n l, .mk k' n' l', a, h, h60, hnd, hw, hw', hc, he => by
   obtain ⟨_, g1⟩ := num_ok hs (N + 1) _ a h h60 hw hc
   obtain ⟨_, g2⟩ := num_ok hs (N + 1) _ a (by omega) (by omega) hw' (by omega)
   obtain ⟨rfl, hn, o, ho, ha, hl⟩ := hw
   obtain ⟨rfl, hn', o', ho', ha', hl'⟩ := hw'
   obtain ⟨F, n1, lt1, nn1⟩ := g1 _ _ _ _ rfl ho
   obtain ⟨F', n2, lt2, nn2⟩ := g2 _ _ _ _ rfl ho'
   obtain ⟨S, K⟩ := tabOf_sem hs
   have hlen := WTs_len hl
   have hlen' := WTs_len hl'
   simp only [Tm.nodes] at h h60 hnd
   have hN : nodesL l = nodesL l' := by omega
   simp only [Tm.num, ho, ho'] at hc he
   have h0 := aT_nn K (r := a) (p := nodesL l) n.toNat
   have h0' := aT_nn K (r := a) (p := nodesL l) n'.toNat
   rw [ha] at hc he
   rw [ha', ← hN] at he
   rw [← hN] at F' lt2 nn2
   have hcc : ∀ {x y : Int}, cap x < 1099511627776 → cap x = cap y → x = y ∧ x < 1099511627776 := fun h1 h2 => by
    unfold cap at h1 h2
    omega
   obtain ⟨hx, hxc⟩ := hcc hc he
   have hnn : n = n' := by
    rcases Nat.lt_trichotomy n.toNat n'.toNat with hlt | heq | hlt
    · have := row_lt K ho ha (p := nodesL l) _ hlt
      simp only [rvOf] at lt1 hx nn2
      omega
    · omega
    · have := row_lt K ho' ha' (p := nodesL l) _ hlt
      simp only [rvOf] at lt2 hx nn1
      omega
   subst hnn
   rw [ho] at ho'
   cases ho'
   have hV : bsF (svOf s o) (rvOf s n.toNat) (fun k => (l.map Tm.nodes).getD k 0) (nodesL l) o.args.length + dnF (svOf s o) (fun k => (l.map Tm.nodes).getD k 0) (fun k => (numL s l).getD k 0) o.args.length o.args.length
    = bsF (svOf s o) (rvOf s n.toNat) (fun k => (l'.map Tm.nodes).getD k 0) (nodesL l) o.args.length + dnF (svOf s o) (fun k => (l'.map Tm.nodes).getD k 0) (fun k => (numL s l').getD k 0) o.args.length o.args.length := by omega
   have hsz := sizes_eq (sysOf hs ho) (by omega) F F' n1 n2 (by omega) hV o.args.length (Nat.le_refl _)
   have hbs := bs_congr (sv := svOf s o) (rv := rvOf s n.toNat) (N := nodesL l) o.args.length hsz
   have hdc : ∀ j, j ≤ o.args.length → dnF (svOf s o) (fun k => (l'.map Tm.nodes).getD k 0) (fun k => (numL s l').getD k 0) o.args.length j = dnF (svOf s o) (fun k => (l.map Tm.nodes).getD k 0) (fun k => (numL s l').getD k 0) o.args.length j := fun j => by
    induction j with
    | zero => intro _; rfl
    | succ j ih =>
      intro hj
      simp only [dnF]
      rw [ih (by omega), be_congr (sv := svOf s o) (L := o.args.length) j (by omega) (fun k hk => (hsz k hk).symm)]
   have hd := hdc o.args.length (Nat.le_refl _)
   have b0 := bs_nn (sysOf hs ho) F o.args.length (Nat.le_refl _)
   have n2' : ∀ k, k < o.args.length → 0 ≤ (numL s l').getD k 0 ∧ (numL s l').getD k 0 < svOf s o k ((l.map Tm.nodes).getD k 0) := fun k hk => by
    have e := hsz k hk
    rw [e]
    exact n2 k hk
   have hnm := nums_eq F n1 n2' o.args.length (Nat.le_refl _) (by omega) (by omega)
   have : l = l' := by
    refine List.ext_getElem (by omega) fun k hk hk' => ?_
    have e1 := hsz k (by omega)
    simp only [szs_get (getD_mem hk), szs_get (getD_mem hk')] at e1
    have e2 := hnm (o.args.length - 1 - k) (by omega)
    rw [show o.args.length - 1 - (o.args.length - 1 - k) = k by omega] at e2
    have e3 := e2
    rw [numL_get (getD_mem hk), numL_get (getD_mem hk')] at e3
    have hm := nodesL_mem (List.getElem_mem hk)
    have hge := dn_ge F (fun k hk => (n1 k hk).1) o.args.length (Nat.le_refl _) (o.args.length - 1 - k) (by omega)
    rw [show o.args.length - 1 - (o.args.length - 1 - k) = k by omega, numL_get (getD_mem hk)] at hge
    exact num_inj hs N l[k] l'[k] _ (by omega) (by omega) e1 (WTs_get hl (getD_mem hk)) (WTs_get hl' (getD_mem hk')) (by omega) e3
   rw [this]
end Go.Proofs.Tryz
/- Terms as values; what nth answers. -/
namespace Go.Proofs.Tryz
open Go Go.AE
inductive Enc : Tm → PV → Prop where
 | mk (k n : Int) (l : List Tm) (sz : Nat) (es : List PV) (hs : es = [] ∨ sz = 3) (hl : es.length = l.length) (he : ∀ (i : Nat) (x : Tm) (p : PV), l[i]? = some x → es[i]? = some p → Enc x p) : Enc (.mk k n l) (.agg [.int .i64 k, .int .i64 n, .slice sz es .any])
theorem nodesL_len : ∀ l : List Tm, l.length ≤ nodesL l
 | [] => Nat.le_refl _
 | t :: l => by
   have := nodesL_len l
   have := nodes_pos t
   simp only [List.length_cons, nodesL]
   omega
theorem Enc.isT {t : Tm} {p : PV} (h : Enc t p) : t.nodes ≤ 900 → IsT p := by
 induction h with
 | mk k n l sz es hs hl he ih =>
   intro hn
   simp only [Tm.nodes] at hn
   have := nodesL_len l
   refine .mk k n sz es hs (by omega) fun x hx => ?_
   obtain ⟨i, hi, rfl⟩ := List.getElem_of_mem hx
   have hm := nodesL_mem (List.getElem_mem (show i < l.length by omega))
   exact ih i l[i] _ (List.getElem?_eq_getElem (by omega)) (List.getElem?_eq_getElem hi) (by omega)
def cntOf (s : GSig) (a m : Nat) : Int := ((tabOf s).1.getD a []).getD m 0
def Nth91 (s : GSig) (a m : Nat) (n : Int) (p : PV) : Prop := ∃ x, Enc x p ∧ WT s x (a : Int) ∧ x.nodes = m ∧ x.num s = n
def szF (szs : List Int) (k : Nat) : Nat := (szs.getD k 0).toNat
theorem WTs_mk {s : GSig} : ∀ {l : List Tm} {bs : List Int}, l.length = bs.length → (∀ j x, l[j]? = some x → WT s x (bs.getD j 0)) → WTs s l bs
 | [], [], _, _ => trivial
 | t :: l, a :: bs, hl, h => ⟨by simpa using h 0 t rfl, WTs_mk (by simpa using hl) fun j x hj => by simpa using h (j + 1) x (by simpa using hj)⟩
 | [], a :: bs, hl, _ => by simp at hl
 | t :: l, [], hl, _ => by simp at hl
def upF (sv : Nat → Nat → Int) (sz : Nat → Nat) (nm : Nat → Int) (L : Nat) : Nat → Int
 | 0 => 0
 | k + 1 => upF sv sz nm L k + nm k * beF sv sz L (L - 1 - k)
theorem up_congr {sv : Nat → Nat → Int} {sz : Nat → Nat} {nm nm' : Nat → Int} {L : Nat} : ∀ k, (∀ j, j < k → nm j = nm' j) → upF sv sz nm L k = upF sv sz nm' L k
 | 0, _ => rfl
 | k + 1, h => by simp only [upF]; rw [up_congr k fun j hj => h j (by omega), h k (by omega)]
theorem up_dn {sv : Nat → Nat → Int} {sz : Nat → Nat} {nm : Nat → Int} {L : Nat} : ∀ k, k ≤ L → upF sv sz nm L k + dnF sv sz nm L (L - k) = dnF sv sz nm L L
 | 0, _ => by simp [upF]
 | k + 1, hk => by
   have ih := up_dn (sv := sv) (sz := sz) (nm := nm) (L := L) k (by omega)
   obtain ⟨j, hj⟩ : ∃ j, L - k = j + 1 := ⟨L - k - 1, by omega⟩
   have e1 : L - (k + 1) = j := by omega
   have e2 : L - 1 - j = k := by omega
   have e3 : L - 1 - k = j := by omega
   rw [hj] at ih
   simp only [dnF, e2] at ih
   rw [e1]
   simp only [upF, e3]
   omega
theorem up_all {sv : Nat → Nat → Int} {sz : Nat → Nat} {nm : Nat → Int} {L : Nat} : upF sv sz nm L L = dnF sv sz nm L L := by
 have := up_dn (sv := sv) (sz := sz) (nm := nm) (L := L) L (Nat.le_refl _)
 rw [Nat.sub_self] at this
 simpa [dnF] using this
theorem sz_congr {szs : List Int} {k : Nat} {m : Int} : ∀ j, j < k → szF (szs.set k m) j = szF szs j := fun j hj => by
 unfold szF
 rw [getD_set_ne (by omega)]
theorem nodesL_take {l : List Tm} {i : Nat} {t : Tm} (h : l[i]? = some t) : nodesL (l.take (i + 1)) = nodesL (l.take i) + t.nodes := by
 induction l generalizing i with
 | nil => simp at h
 | cons x l ih =>
   cases i with
   | zero =>
     simp only [List.getElem?_cons_zero, Option.some.injEq] at h
     subst h
     simp [nodesL]
   | succ i =>
     have := ih (by simpa using h)
     simp only [List.take_succ_cons, nodesL]
     omega
theorem lf_sum {sz : Nat → Nat} {N L : Nat} {xs : List Tm} (hl : xs.length = L) (hz : ∀ j x, xs[j]? = some x → x.nodes = sz j) (hle : ∀ k, k < L → sz k ≤ lfF sz N k) : ∀ k, k ≤ L → lfF sz N k + nodesL (xs.take k) = N
 | 0, _ => by simp [lfF, nodesL]
 | k + 1, hk => by
   have ih := lf_sum hl hz hle k (by omega)
   have hx := getD_mem (show k < xs.length by omega)
   have h1 := hz k _ hx
   have h2 := hle k (by omega)
   rw [nodesL_take hx, h1]
   simp only [lfF]
   omega
theorem dn_congr {sv : Nat → Nat → Int} {sz sz' : Nat → Nat} {nm : Nat → Int} {L : Nat} (h : ∀ k, k < L → sz k = sz' k) : ∀ j, j ≤ L → dnF sv sz nm L j = dnF sv sz' nm L j
 | 0, _ => rfl
 | j + 1, hj => by simp only [dnF]; rw [dn_congr h j (by omega), be_congr (sv := sv) (L := L) j (by omega) h]
theorem opStep_c0 {p i a : Nat} {t : Tab} {o : GOp} : (((opStep p t i o).1.getD a []).getD 0 0) = ((t.1.getD a []).getD 0 0) := by
 simp only [opStep]
 by_cases hr : o.res.toNat < t.1.length
 · by_cases ha : o.res.toNat = a
   · subst ha
     rw [getD_set hr, if_pos rfl, getD_set_ne (by omega)]
   · rw [getD_set_ne ha]
 · rw [List.set_eq_of_length_le (by omega)]
theorem opsFrom_c0 {p a : Nat} : ∀ (os : List GOp) (i : Nat) (t : Tab), (((opsFrom p os i t).1.getD a []).getD 0 0) = ((t.1.getD a []).getD 0 0)
 | [], _, _ => rfl
 | o :: os, i, t => by simp only [opsFrom]; rw [opsFrom_c0 os, opStep_c0]
theorem sizesFrom_c0 {ops : List GOp} {a : Nat} : ∀ (d p : Nat) (t : Tab), (((sizesFrom ops d p t).1.getD a []).getD 0 0) = ((t.1.getD a []).getD 0 0)
 | 0, _, _ => rfl
 | d + 1, p, t => by simp only [sizesFrom]; rw [sizesFrom_c0 d, opsFrom_c0]
theorem cnt0 {s : GSig} (a : Nat) : cntOf s a 0 = 0 := by
 unfold cntOf tabOf
 rw [sizesFrom_c0]
 simp only [tab0, zeros, List.getD_eq_getElem?_getD, List.getElem?_replicate]
 split
 · simp only [Option.getD_some, List.getElem?_replicate]
   split <;> rfl
 · rfl
end Go.Proofs.Tryz
/- The least sizes of ground terms. No program in sight. -/
namespace Go.Proofs.Tryz
open Go Go.AE
def zAt (z : List Int) (a : Int) : Int := z.getD a.toNat 0
def wholeZ (z : List Int) (l : List Int) : Bool := l.all fun a => decide (0 < zAt z a)
def sumZ (z : List Int) : List Int → Int → Int
 | [], n => n
 | a :: l, n => sumZ z l (n + zAt z a)
def capZ (z : List Int) : List Int → Int → Int
 | [], n => n
 | a :: l, n => capZ z l (min (n + zAt z a) 2001)
def okZ (z : List Int) : Prop := ∀ v ∈ z, 0 ≤ v ∧ v ≤ 2001
theorem okZ.at {z : List Int} (h : okZ z) (a : Int) : 0 ≤ zAt z a ∧ zAt z a ≤ 2001 := by
 unfold zAt
 by_cases hl : a.toNat < z.length
 · have : z.getD a.toNat 0 = z[a.toNat] := by simp [List.getD_eq_getElem?_getD, hl]
   rw [this]
   exact h _ (List.getElem_mem hl)
 · rw [List.getD_eq_getElem?_getD, List.getElem?_eq_none (by omega)]
   exact ⟨Int.le_refl _, by decide⟩
theorem sumZ_le {z : List Int} (h : okZ z) : ∀ (l : List Int) (n : Int), n ≤ sumZ z l n
 | [], n => Int.le_refl _
 | a :: l, n => by
   have := sumZ_le h l (n + zAt z a)
   have := (h.at a).1
   simp only [sumZ]
   omega
theorem sumZ_up {z : List Int} (h : okZ z) : ∀ (l : List Int) (n : Int), sumZ z l n ≤ n + 2001 * l.length
 | [], n => by simp [sumZ]
 | a :: l, n => by
   have := sumZ_up h l (n + zAt z a)
   have := (h.at a).2
   simp only [sumZ, List.length_cons]
   omega
theorem sumZ_add {z : List Int} : ∀ (l : List Int) (n m : Int), sumZ z l (n + m) = sumZ z l n + m
 | [], n, m => rfl
 | a :: l, n, m => by
   simp only [sumZ]
   rw [show n + m + zAt z a = (n + zAt z a) + m by omega]
   exact sumZ_add l _ _
theorem capZ_eq {z : List Int} (h : okZ z) : ∀ (l : List Int) (n : Int), n ≤ 2001 → capZ z l n = min (sumZ z l n) 2001
 | [], n, hn => by simp only [capZ, sumZ]; omega
 | a :: l, n, hn => by
   simp only [capZ, sumZ]
   rw [capZ_eq h l _ (by omega)]
   by_cases hc : n + zAt z a ≤ 2001
   · rw [show min (n + zAt z a) 2001 = n + zAt z a by omega]
   · rw [show min (n + zAt z a) 2001 = 2001 by omega]
     have := sumZ_le h l 2001
     have := sumZ_le h l (n + zAt z a)
     omega
theorem sumZ_mem {z : List Int} (h : okZ z) : ∀ {l : List Int} (n : Int) {a : Int}, a ∈ l → n + zAt z a ≤ sumZ z l n
 | b :: l, n, a, ha => by
   simp only [sumZ]
   rcases List.mem_cons.1 ha with rfl | ha
   · exact sumZ_le h l _
   · have := sumZ_mem h (n + zAt z b) ha
     have := (h.at b).1
     omega
def opZ (z : List Int) (o : GOp) : Int := sumZ z o.args 1
def stepZ (z : List Int) (o : GOp) : List Int × Bool :=
 if wholeZ z o.args = true ∧ (zAt z o.res = 0 ∨ min (opZ z o) 2001 < zAt z o.res) then (z.set o.res.toNat (min (opZ z o) 2001), true) else (z, false)
def roundZ : List GOp → List Int → Bool → List Int × Bool
 | [], z, c => (z, c)
 | o :: os, z, c => roundZ os (stepZ z o).1 ((stepZ z o).2 || c)
def potZ (z : List Int) : Nat := (z.map fun v => if v = 0 then 2002 else v.toNat).sum
theorem opZ_pos {z : List Int} (h : okZ z) (o : GOp) : 1 ≤ opZ z o := sumZ_le h _ _
theorem okZ.set {z : List Int} (h : okZ z) {k : Nat} {v : Int} (hv : 0 ≤ v ∧ v ≤ 2001) : okZ (z.set k v) := fun u hu => by
 rcases List.mem_or_eq_of_mem_set hu with h' | rfl
 · exact h _ h'
 · exact hv
theorem pot_set {z : List Int} (h : okZ z) {k : Nat} {v : Int} (hk : k < z.length) (hv : 1 ≤ v ∧ v ≤ 2001) (hc : z.getD k 0 = 0 ∨ v < z.getD k 0) : potZ (z.set k v) < potZ z := by
 induction z generalizing k with
 | nil => simp at hk
 | cons x z ih =>
   cases k with
   | zero =>
     simp only [potZ, List.set_cons_zero, List.map_cons, List.sum_cons]
     have := h x (by simp)
     simp only [List.getD_eq_getElem?_getD, List.getElem?_cons_zero, Option.getD_some] at hc
     split <;> split <;> omega
   | succ k =>
     have := ih (fun u hu => h u (by simp [hu])) (k := k) (by simpa using hk) (by simpa [List.getD_eq_getElem?_getD] using hc)
     simp only [potZ, List.set_cons_succ, List.map_cons, List.sum_cons] at *
     omega
theorem stepZ_len {z : List Int} {o : GOp} : (stepZ z o).1.length = z.length := by
 unfold stepZ
 split <;> simp
theorem stepZ_ok {z : List Int} (h : okZ z) {o : GOp} : okZ (stepZ z o).1 := by
 unfold stepZ
 split
 · have := opZ_pos h o
   exact h.set ⟨by omega, by omega⟩
 · exact h
theorem stepZ_pot {z : List Int} (h : okZ z) {o : GOp} (hr : 0 ≤ o.res ∧ o.res < z.length) : ((stepZ z o).2 = true → potZ (stepZ z o).1 < potZ z) ∧ ((stepZ z o).2 = false → (stepZ z o).1 = z) := by
 unfold stepZ
 split
 · rename_i hc
   refine ⟨fun _ => ?_, fun h => by simp at h⟩
   have := opZ_pos h o
   exact pot_set h (by omega) ⟨by omega, by omega⟩ hc.2
 · exact ⟨fun h => by simp at h, fun _ => rfl⟩
theorem roundZ_ok {nS : Nat} : ∀ (os : List GOp) (z : List Int) (c : Bool), okZ z → z.length = nS → (∀ o ∈ os, 0 ≤ o.res ∧ o.res < (nS : Int)) →
 okZ (roundZ os z c).1 ∧ (roundZ os z c).1.length = nS ∧ ((roundZ os z c).2 = true → c = false → potZ (roundZ os z c).1 < potZ z) ∧ ((roundZ os z c).2 = false → (roundZ os z c).1 = z ∧ c = false ∧ ∀ o ∈ os, (stepZ z o).2 = false) ∧ potZ (roundZ os z c).1 ≤ potZ z
 | [], z, c, h, hl, _ => ⟨h, hl, fun h1 h2 => by simp [roundZ, h2] at h1, fun h1 => ⟨rfl, h1, fun o ho => by simp at ho⟩, Nat.le_refl _⟩
 | o :: os, z, c, h, hl, ho => by
   obtain ⟨p1, p2⟩ := stepZ_pot h (o := o) (by rw [hl]; exact ho o (by simp))
   obtain ⟨a1, a2, a3, a4, a5⟩ := roundZ_ok os (stepZ z o).1 ((stepZ z o).2 || c) (stepZ_ok h) (by rw [stepZ_len, hl]) fun x hx => ho x (by simp [hx])
   simp only [roundZ]
   have h5 : potZ (stepZ z o).1 ≤ potZ z := by
    cases hc : (stepZ z o).2
    · rw [p2 hc]; exact Nat.le_refl _
    · exact Nat.le_of_lt (p1 hc)
   refine ⟨a1, a2, fun h1 h2 => ?_, fun h1 => ?_, by omega⟩
   · subst h2
     by_cases hc : (stepZ z o).2 = true
     · have := p1 hc
       omega
     · have := a3 h1 (by simp [hc])
       omega
   · obtain ⟨b1, b2, b3⟩ := a4 h1
     simp only [Bool.or_eq_false_iff] at b2
     rw [p2 b2.1] at b1 b3
     refine ⟨by rw [p2 b2.1]; exact b1, b2.2, fun x hx => ?_⟩
     rcases List.mem_cons.1 hx with rfl | hx
     · exact b2.1
     · exact b3 x hx
def lz (os : List GOp) : Nat → List Int → List Int
 | 0, z => z
 | d + 1, z => if (roundZ os z false).2 = true then lz os d (roundZ os z false).1 else z
theorem lz_irrel {os : List GOp} {nS : Nat} (ho : ∀ o ∈ os, 0 ≤ o.res ∧ o.res < (nS : Int)) : ∀ (d d' : Nat) (z : List Int), okZ z → z.length = nS → potZ z < d → potZ z < d' → lz os d z = lz os d' z
 | 0, _, _, _, _, h, _ => by omega
 | _, 0, _, _, _, _, h => by omega
 | d + 1, d' + 1, z, hz, hl, h, h' => by
   obtain ⟨a1, a2, a3, a4, _⟩ := roundZ_ok os z false hz hl ho
   simp only [lz]
   split
   · rename_i hc
     have := a3 hc rfl
     exact lz_irrel ho d d' _ a1 a2 (by omega) (by omega)
   · rfl
def finZ (os : List GOp) (z : List Int) : List Int := lz os (potZ z + 1) z
theorem finZ_step {os : List GOp} {nS : Nat} (ho : ∀ o ∈ os, 0 ≤ o.res ∧ o.res < (nS : Int)) {z : List Int} (hz : okZ z) (hl : z.length = nS) (hc : (roundZ os z false).2 = true) : finZ os (roundZ os z false).1 = finZ os z := by
 obtain ⟨a1, a2, a3, _, _⟩ := roundZ_ok os z false hz hl ho
 have := a3 hc rfl
 unfold finZ
 conv => rhs; simp only [lz]
 rw [if_pos hc]
 exact lz_irrel ho _ _ _ a1 a2 (by omega) (by omega)
theorem finZ_stop {os : List GOp} {z : List Int} (hc : (roundZ os z false).2 = false) : finZ os z = z := by
 unfold finZ
 simp only [lz]
 rw [if_neg (by simp [hc])]
def AttZ (os : List GOp) (z : List Int) : Prop := ∀ k : Nat, 0 < z.getD k 0 → ∃ o ∈ os, o.res = (k : Int) ∧ wholeZ z o.args = true ∧ min (opZ z o) 2001 ≤ z.getD k 0
def LeZ (z z' : List Int) : Prop := ∀ k : Nat, 0 < z.getD k 0 → 0 < z'.getD k 0 ∧ z'.getD k 0 ≤ z.getD k 0
theorem LeZ.whole {z z' : List Int} (h : LeZ z z') {l : List Int} (hw : wholeZ z l = true) : wholeZ z' l = true := by
 simp only [wholeZ, List.all_eq_true, decide_eq_true_eq] at *
 exact fun a ha => (h _ (hw a ha)).1
theorem LeZ.sum {z z' : List Int} (h : LeZ z z') : ∀ {l : List Int} {n : Int}, wholeZ z l = true → sumZ z' l n ≤ sumZ z l n
 | [], n, _ => Int.le_refl _
 | a :: l, n, hw => by
   simp only [wholeZ, List.all_cons, Bool.and_eq_true, decide_eq_true_eq] at hw
   have h1 := (h _ hw.1).2
   have h2 := h.sum (l := l) (n := n + zAt z a) hw.2
   have h3 := sumZ_add (z := z') l (n + zAt z' a) (zAt z a - zAt z' a)
   rw [show n + zAt z' a + (zAt z a - zAt z' a) = n + zAt z a by omega] at h3
   simp only [sumZ]
   unfold zAt at *
   omega
theorem LeZ.set {z : List Int} {k : Nat} {v : Int} (hv : 1 ≤ v) (hc : z.getD k 0 = 0 ∨ v < z.getD k 0) : LeZ z (z.set k v) := fun j hj => by
 by_cases hk : k < z.length
 · rw [getD_set hk]
   split
   · rename_i e
     subst e
     omega
   · exact ⟨hj, Int.le_refl _⟩
 · rw [List.set_eq_of_length_le (by omega)]
   exact ⟨hj, Int.le_refl _⟩
theorem AttZ.step {os : List GOp} {z : List Int} (h : AttZ os z) (hz : okZ z) {o : GOp} (ho : o ∈ os) (hr : 0 ≤ o.res ∧ o.res < z.length) : AttZ os (stepZ z o).1 := by
 unfold stepZ
 split
 · rename_i hc
   have hp := opZ_pos hz o
   have L : LeZ z (z.set o.res.toNat (min (opZ z o) 2001)) := LeZ.set (by omega) hc.2
   dsimp only
   generalize hz' : z.set o.res.toNat (min (opZ z o) 2001) = z' at *
   have gz : ∀ k, z'.getD k 0 = if o.res.toNat = k then min (opZ z o) 2001 else z.getD k 0 := fun k => by rw [← hz', getD_set (by omega)]
   intro k hk
   rw [gz] at hk ⊢
   by_cases hk' : o.res.toNat = k
   · rw [if_pos hk']
     refine ⟨o, ho, by omega, L.whole hc.1, ?_⟩
     have := L.sum (n := 1) hc.1
     unfold opZ
     omega
   · rw [if_neg hk'] at hk ⊢
     obtain ⟨o', h1, h2, h3, h4⟩ := h k hk
     have := L.sum (n := 1) h3
     exact ⟨o', h1, h2, L.whole h3, by unfold opZ at *; omega⟩
 · exact h
theorem AttZ.round {os : List GOp} {nS : Nat} : ∀ (os' : List GOp) (z : List Int) (c : Bool), (∀ o ∈ os', o ∈ os ∧ 0 ≤ o.res ∧ o.res < (nS : Int)) → z.length = nS → okZ z → AttZ os z → AttZ os (roundZ os' z c).1
 | [], _, _, _, _, _, h => h
 | o :: os', z, c, ho, hl, hz, h => by
   simp only [roundZ]
   obtain ⟨h1, h2⟩ := ho o (by simp)
   exact AttZ.round os' _ _ (fun x hx => ho x (by simp [hx])) (by rw [stepZ_len, hl]) (stepZ_ok hz) (h.step hz h1 (by rw [hl]; exact h2))
structure LeastZ (os : List GOp) (nS : Nat) (z : List Int) : Prop where
 len : z.length = nS
 ok : okZ z
 att : AttZ os z
 fix : ∀ o ∈ os, wholeZ z o.args = true → 0 < zAt z o.res ∧ zAt z o.res ≤ min (opZ z o) 2001
theorem LeastZ.of_stop {os : List GOp} {nS : Nat} (ho : ∀ o ∈ os, 0 ≤ o.res ∧ o.res < (nS : Int)) {z : List Int} (hz : okZ z) (hl : z.length = nS) (ha : AttZ os z) (hc : (roundZ os z false).2 = false) : LeastZ os nS z := by
 obtain ⟨_, _, _, a4, _⟩ := roundZ_ok os z false hz hl ho
 obtain ⟨_, _, a5⟩ := a4 hc
 refine ⟨hl, hz, ha, fun o hm hw => ?_⟩
 have h1 := a5 o hm
 unfold stepZ at h1
 split at h1
 · simp at h1
 · rename_i hn
   have h2 := (hz.at o.res).1
   have h3 : ¬ (zAt z o.res = 0 ∨ min (opZ z o) 2001 < zAt z o.res) := fun h => hn ⟨hw, h⟩
   omega
def goodZ (z : List Int) (k : Nat) (o : GOp) : Bool := o.res == (k : Int) && wholeZ z o.args && opZ z o == z.getD k 0
theorem good_ex {os : List GOp} {nS : Nat} {z : List Int} (L : LeastZ os nS z) {k : Nat} (hk : 0 < z.getD k 0) (hk2 : z.getD k 0 ≤ 2000) : ∃ i o, os.findIdx? (goodZ z k) = some i ∧ os[i]? = some o ∧ o.res = (k : Int) ∧ wholeZ z o.args = true ∧ opZ z o = z.getD k 0 ∧ ∀ a ∈ o.args, 0 < zAt z a ∧ zAt z a < z.getD k 0 := by
 obtain ⟨o, h1, h2, h3, h4⟩ := L.att k hk
 have h5 := (L.fix o h1 h3).2
 have h6 : zAt z o.res = z.getD k 0 := by unfold zAt; rw [h2]; simp
 rw [h6] at h5
 have hg : goodZ z k o = true := by
  simp only [goodZ, Bool.and_eq_true, beq_iff_eq]
  exact ⟨⟨h2, h3⟩, by omega⟩
 have hs : (os.findIdx? (goodZ z k)).isSome = true := by
  rw [List.findIdx?_isSome]
  exact List.any_eq_true.2 ⟨o, h1, hg⟩
 obtain ⟨i, hi⟩ := Option.isSome_iff_exists.1 hs
 obtain ⟨hl, hp, _⟩ := List.findIdx?_eq_some_iff_getElem.1 hi
 simp only [goodZ, Bool.and_eq_true, beq_iff_eq] at hp
 refine ⟨i, os[i], hi, List.getElem?_eq_getElem hl, hp.1.1, hp.1.2, hp.2, fun a ha => ?_⟩
 have h7 := List.all_eq_true.1 hp.1.2 a ha
 simp only [decide_eq_true_eq] at h7
 have h8 := sumZ_mem L.ok 1 ha
 have h9 := hp.2
 unfold opZ at h9
 exact ⟨h7, by omega⟩
def buildT (os : List GOp) (z : List Int) : Nat → Nat → Tm
 | 0, _ => .mk 0 0 []
 | d + 1, k => match os.findIdx? (goodZ z k) with
   | some i => .mk 2 (i : Int) (((os[i]?.map GOp.args).getD []).map fun a => buildT os z d a.toNat)
   | none => .mk 0 0 []
theorem buildT_eq {os : List GOp} {z : List Int} {d k i : Nat} {o : GOp} (h1 : os.findIdx? (goodZ z k) = some i) (h2 : os[i]? = some o) : buildT os z (d + 1) k = .mk 2 (i : Int) (o.args.map fun a => buildT os z d a.toNat) := by
 simp only [buildT, h1, h2, Option.map_some, Option.getD_some]
theorem nodesL_sum {os : List GOp} {z : List Int} {d : Nat} : ∀ {l : List Int} {n : Int}, (∀ a ∈ l, ((buildT os z d a.toNat).nodes : Int) = zAt z a) → n + nodesL (l.map fun a => buildT os z d a.toNat) = sumZ z l n
 | [], n, _ => by simp [nodesL, sumZ]
 | a :: l, n, h => by
   have h1 := h a (by simp)
   have h2 := nodesL_sum (l := l) (n := n + zAt z a) fun x hx => h x (by simp [hx])
   simp only [List.map_cons, nodesL, sumZ]
   omega
theorem build_nodes {os : List GOp} {nS : Nat} {z : List Int} (L : LeastZ os nS z) : ∀ (d k : Nat), 0 < z.getD k 0 → z.getD k 0 ≤ 2000 → z.getD k 0 ≤ d → ((buildT os z d k).nodes : Int) = z.getD k 0
 | 0, k, h1, _, h3 => by omega
 | d + 1, k, h1, h2, h3 => by
   obtain ⟨i, o, e1, e2, e3, e4, e5, e6⟩ := good_ex L h1 h2
   rw [buildT_eq e1 e2]
   simp only [Tm.nodes]
   have := nodesL_sum (os := os) (z := z) (d := d) (l := o.args) (n := 1) fun a ha => by
    obtain ⟨f1, f2⟩ := e6 a ha
    exact build_nodes L d a.toNat f1 (by unfold zAt at f2; omega) (by unfold zAt at f2; omega)
   unfold opZ at e5
   omega
mutual
def Tm.deep : Tm → Nat
 | .mk _ _ l => 1 + deepL l
def deepL : List Tm → Nat
 | [] => 0
 | t :: l => max t.deep (deepL l)
end
end Go.Proofs.Tryz
/- vals.Least: the least sizes. -/
namespace Go.Proofs.Tryz
open Go Go.AE
variable {T : Tbl} (hT : Std T)
def BZ (z b : List Int) : Prop := b.length = z.length ∧ ∀ a : Nat, b.getD a 0 < 0 ↔ (a < z.length ∧ z.getD a 0 = 0)
structure LMem (H : List AE.Obj) (ko k7 k8 kz kb : Nat) (s : GSig) (z b : List Int) : Prop where
 sg : H[ko]? = some (.row 2 [encSig s])
 b7 : H[k7]? = some (.row 1 [.aref kz 1 0 z.length z.length])
 b8 : H[k8]? = some (.row 1 [.aref kb 1 0 b.length b.length])
 rz : H[kz]? = some (.row 1 (z.map encI))
 rb : H[kb]? = some (.row 1 (b.map encI))
 ord : ko < k7 ∧ k7 < k8 ∧ k8 < kz ∧ kz < kb
variable {H : List AE.Obj} {ws : List Nat} {ups : List (Nat × Nat)} {ko k7 k8 kz kb : Nat} {s : GSig} {z b : List Int}
theorem LMem.push {o : AE.Obj} (L : LMem H ko k7 k8 kz kb s z b) : LMem (H ++ [o]) ko k7 k8 kz kb s z b := ⟨keepL L.sg, keepL L.b7, keepL L.b8, keepL L.rz, keepL L.rb, L.ord⟩
theorem LMem.setZ (L : LMem H ko k7 k8 kz kb s z b) {z' : List Int} (hl : z'.length = z.length) : LMem (H.set kz (.row 1 (z'.map encI))) ko k7 k8 kz kb s z' b := by
 obtain ⟨a1, a2, a3, a4⟩ := L.ord
 exact ⟨get_set_ne L.sg (by omega), get_set_ne (by rw [hl]; exact L.b7) (by omega), get_set_ne L.b8 (by omega), get_set L.rz, get_set_ne L.rb (by omega), L.ord⟩
theorem LMem.setB (L : LMem H ko k7 k8 kz kb s z b) {b' : List Int} (hl : b'.length = b.length) : LMem (H.set kb (.row 1 (b'.map encI))) ko k7 k8 kz kb s z b' := by
 obtain ⟨a1, a2, a3, a4⟩ := L.ord
 exact ⟨get_set_ne L.sg (by omega), get_set_ne L.b7 (by omega), get_set_ne (by rw [hl]; exact L.b8) (by omega), get_set_ne L.rz (by omega), get_set L.rb, L.ord⟩
theorem LMem.l7 (L : LMem H ko k7 k8 kz kb s z b) : loadAt false 1 (.ptr k7 0 0 1) H = some (.aref kz 1 0 z.length z.length) := by rw [ld_at L.b7]; rfl
theorem LMem.l8 (L : LMem H ko k7 k8 kz kb s z b) : loadAt false 1 (.ptr k8 0 0 1) H = some (.aref kb 1 0 b.length b.length) := by rw [ld_at L.b8]; rfl
theorem LMem.ops (L : LMem H ko k7 k8 kz kb s z b) : loadAt false 1 (.ptr ko 0 1 1) H = some (.slice 3 (s.ops.map encOp) .any) := by rw [ld_at L.sg]; rfl
theorem least_b0 (L : LMem H ko k7 k8 kz kb s z b) (hz : okZ z) (hB : BZ z b) {l : List Int} (hl : okArgs l z.length) (hl9 : l.length < 900) {e : List PV} {Q : AExit → List PV → St → Prop}
 (e7 : eget e 7 = .ptr k7 0 0 1) (e8 : eget e 8 = .ptr k8 0 0 1) (e12 : eget e 12 = .int .i64 1) (e49 : eget e 49 = .slice 1 (l.map encI) .any) (e50 : eget e 50 = .int .i64 (l.length : Int)) (e51 : eget e 51 = .int .i64 0)
 (hQ : ∀ e', Same (fun j => j = 12 ∨ j = 14 ∨ 51 ≤ j) e e' → eget e' 12 = .int .i64 (if wholeZ z l = true then min (sumZ z l 1) 2001 else -1) → Q (.exit 4) e' ⟨H, ws, ups⟩) : wpC T (.loop a56b0) e ⟨H, ws, ups⟩ Q := by
 rw [← capZ_eq hz l 1 (by decide)] at hQ
 have l7 := L.l7
 have l8 := L.l8
 refine wpC.loopM (fun d e' st => ∃ (k : Nat) (n : Int), k + d = l.length ∧ (0 ≤ n ∧ n ≤ 2001) ∧ capZ z (l.drop k) n = capZ z l 1 ∧ wholeZ z (l.drop k) = wholeZ z l ∧ Same (fun j => j = 12 ∨ j = 14 ∨ 51 ≤ j) e e' ∧ (eget e' 12 = .int .i64 n ∧ eget e' 51 = .int .i64 (k : Int)) ∧ st = ⟨H, ws, ups⟩) ?_ l.length _ _ ⟨0, 1, by omega, by decide, by rw [List.drop_zero], by rw [List.drop_zero], Same.refl e, ⟨e12, e51⟩, rfl⟩
 rintro d e' st ⟨k, n, hd, hn, hc, hw, hS, ⟨f12, f51⟩, rfl⟩
 have f7 := (hS 7 (by omega)).trans e7
 have f8 := (hS 8 (by omega)).trans e8
 have f49 := (hS 49 (by omega)).trans e49
 have f50 := (hS 50 (by omega)).trans e50
 by_cases hk : k < l.length
 · obtain ⟨g1, g2⟩ := hl.get hk
   have hdr : l.drop k = ((l.getD k 0).toNat : Int) :: l.drop (k + 1) := by
    rw [List.drop_eq_getElem_cons hk]
    rw [List.getElem?_eq_getElem hk] at g1
    rw [Option.some.inj g1]
   generalize ha : (l.getD k 0).toNat = a at *
   have g3 : (l.map encI)[k]? = some (.int .i64 (a : Int)) := by rw [List.getElem?_map, g1]; rfl
   have g4 : a < b.length := by rw [hB.1]; exact g2
   have lb := ld_v (i := a) L.rb rfl g4
   have lz := ld_v (i := a) L.rz rfl g2
   have z1 := hz.at (a : Int)
   have z2 : zAt z (a : Int) = z.getD a 0 := by simp [zAt]
   rw [z2] at z1
   have hk1 : (k : Int) < (l.length : Int) := by omega
   have sv : ∀ v, sub false 1 (PV.int .i64 v) 0 = some (.int .i64 v) := fun _ => rfl
   rw [hdr] at hc hw
   simp only [capZ, wholeZ, List.all_cons, z2] at hc hw
   by_cases hb : b.getD a 0 < 0
   · have hz0 := ((hB.2 a).1 hb).2
     simp (disch := first | omega | decide | simp only [go_sem]) only [go_sem, a56b0, f7, f8, f12, f49, f50, f51, hk1, g2, g3, g4, l7, l8, lb, lz, hb, sv]
     rw [hz0] at hw
     have hf : wholeZ z l = false := by rw [wholeZ, ← hw]; rfl
     refine hQ _ (fun j hj => ?_) ?_
     · rw [← hS j hj]
       simp only [not_or, Nat.not_le] at hj
       simp (disch := omega) only [eget_eput_ne]
     · rw [hf]
       simp (disch := first | omega | decide | simp only [go_sem]) only [go_sem]
   · have hz0 : 0 < z.getD a 0 := by
      have h0 : z.getD a 0 ≠ 0 := fun h => hb ((hB.2 a).2 ⟨g2, h⟩)
      omega
     simp (disch := first | omega | decide | simp only [go_sem]) only [go_sem, a56b0, f7, f8, f12, f49, f50, f51, hk1, g2, g3, g4, l7, l8, lb, lz, hb, sv]
     refine ⟨d - 1, by omega, k + 1, min (n + z.getD a 0) 2001, by omega, by omega, hc, ?_, fun j hj => ?_, ?_⟩
     · unfold wholeZ; rw [← hw, decide_eq_true hz0, Bool.true_and]
     · rw [← hS j hj]
       simp only [not_or, Nat.not_le] at hj
       simp (disch := omega) only [eget_eput_ne]
     · simp (disch := first | omega | decide | simp only [go_sem]) only [go_sem]
 · have hk0 : l.drop k = [] := List.drop_eq_nil_of_le (by omega)
   rw [hk0] at hc hw
   have hw : wholeZ z l = true := hw.symm
   have hk1 : ¬ (k : Int) < (l.length : Int) := by omega
   simp (disch := first | omega | decide | simp only [go_sem]) only [go_sem, a56b0, f7, f8, f12, f49, f50, f51, hk1]
   refine hQ _ (fun j hj => ?_) ?_
   · rw [← hS j hj]
     simp only [not_or, Nat.not_le] at hj
     simp (disch := omega) only [eget_eput_ne]
   · rw [if_pos hw, ← hc]
     simp (disch := first | omega | decide | simp only [go_sem]) only [go_sem, f12, capZ]
theorem clear_rw {b i x y : Nat} {R : List Nat} {past : Past} (h : x ≠ y) : clear b R (wadd y []) ((i, [x], []) :: past) = clear b R (wadd y []) past := by
 have h1 : apart [x] (wadd y []) = true := by simp [apart, wadd, h]
 have h2 : apart [] R = true := rfl
 simp only [clear, List.all_cons, h1, h2, Bool.and_self, Bool.or_true, Bool.true_and]
theorem BZ.step (hB : BZ z b) {r : Nat} {v i : Int} (hr : r < z.length) (hv : 1 ≤ v) (hi : 0 ≤ i) : BZ (z.set r v) (b.set r i) := by
 obtain ⟨h1, h2⟩ := hB
 refine ⟨by simpa using h1, fun a => ?_⟩
 rw [getD_set (by omega), getD_set hr, List.length_set]
 split
 · rename_i e; subst e
   omega
 · exact h2 a
theorem least_b1 (hG : GOk s) {e : List PV} {Q : AExit → List PV → St → Prop} (L : LMem H ko k7 k8 kz kb s z b) (hzl : z.length = s.sorts.length) (hz : okZ z) (hB : BZ z b) {n0 : Nat} (hn0 : n0 ≤ kz) {h : List AE.Obj} (low : Low n0 h H) (hnH : n0 ≤ H.length) (hw : ∀ k ∈ ws, n0 ≤ k)
 (e7 : eget e 7 = .ptr k7 0 0 1) (e8 : eget e 8 = .ptr k8 0 0 1) (e9 : eget e 9 = .bool false) (e41 : eget e 41 = .slice 3 (s.ops.map encOp) .any) (e42 : eget e 42 = .int .i64 (s.ops.length : Int)) (e43 : eget e 43 = .int .i64 0)
 (hQ : ∀ e' H' ws' z' b' c, Same (fun j => (9 ≤ j ∧ j ≤ 15) ∨ 43 ≤ j) e e' → LMem H' ko k7 k8 kz kb s z' b' → BZ z' b' → roundZ s.ops z false = (z', c) → eget e' 9 = .bool c → Low n0 h H' → n0 ≤ H'.length → (∀ k ∈ ws', n0 ≤ k) → Q (.exit 2) e' ⟨H', ws', ups⟩) : wpC T (.loop a56b1) e ⟨H, ws, ups⟩ Q := by
 refine wpC.loopM (fun d e' st => ∃ (i : Nat) (H' : List AE.Obj) (ws' : List Nat) (z' b' : List Int) (c : Bool), i + d = s.ops.length ∧ LMem H' ko k7 k8 kz kb s z' b' ∧ z'.length = s.sorts.length ∧ okZ z' ∧ BZ z' b' ∧ roundZ (s.ops.drop i) z' c = roundZ s.ops z false ∧ Low n0 h H' ∧ n0 ≤ H'.length ∧ (∀ k ∈ ws', n0 ≤ k) ∧ Same (fun j => (9 ≤ j ∧ j ≤ 15) ∨ 43 ≤ j) e e' ∧ (eget e' 9 = .bool c ∧ eget e' 43 = .int .i64 (i : Int)) ∧ st = ⟨H', ws', ups⟩) ?_ s.ops.length _ _ ⟨0, H, ws, z, b, false, by omega, L, hzl, hz, hB, by rw [List.drop_zero], low, hnH, hw, Same.refl e, ⟨e9, e43⟩, rfl⟩
 clear L hzl hz hB low hnH hw
 rintro d e' st ⟨i, H, ws, z', b, c, hd, L, hzl, hz, hB, hR, low, hnH, hw, hS, ⟨f9, f43⟩, rfl⟩
 generalize hz' : z' = zz at *
 have f7 := (hS 7 (by omega)).trans e7
 have f8 := (hS 8 (by omega)).trans e8
 have f41 := (hS 41 (by omega)).trans e41
 have f42 := (hS 42 (by omega)).trans e42
 have hO := hG.nO
 by_cases hi : i < s.ops.length
 · have hi1 : (i : Int) < (s.ops.length : Int) := by omega
   have hdr : s.ops.drop i = s.ops[i] :: s.ops.drop (i + 1) := List.drop_eq_getElem_cons hi
   have ga := get_op hi
   obtain ⟨oa, ⟨or0, or1⟩, ol⟩ := hG.ops _ (List.getElem_mem hi)
   rw [hdr] at hR
   simp only [roundZ] at hR
   generalize s.ops[i] = o at *
   rw [← hzl] at oa or1
   obtain ⟨r, hr⟩ := Int.eq_ofNat_of_zero_le or0
   have hrz : r < zz.length := by omega
   have hrb : r < b.length := by rw [hB.1]; exact hrz
   have so : sub true 3 (encOp o) 0 = some (encOp o) := rfl
   have sb := fun ws => st_box (h := H) (ws := ws) (ups := ups) (z := .agg [(.str ⟨#[]⟩), (.slice 0 [] .nil), (.int .i64 0)]) (sz := 3) (c := encOp o) rfl rfl rfl (top_op o) ⟨_, rfl⟩ ⟨_, rfl⟩
   have L1 := L.push (o := .row 3 [encOp o])
   have k11 : (H ++ [AE.Obj.row 3 [encOp o]])[H.length]? = some (.row 3 [encOp o]) := by simp
   have low1 : Low n0 h (H ++ [AE.Obj.row 3 [encOp o]]) := low.push hnH
   have hnH1 : n0 ≤ (H ++ [AE.Obj.row 3 [encOp o]]).length := by simp; omega
   have hnk : n0 ≤ H.length := hnH
   generalize hH1 : H ++ [AE.Obj.row 3 [encOp o]] = H1 at *
   generalize hkk : H.length = k at *
   have l1 : loadAt false 1 (.ptr k 0 1 1) H1 = some (.slice 1 (o.args.map encI) .any) := by rw [ld_at k11]; rfl
   have l2 : loadAt false 1 (.ptr k 0 2 1) H1 = some (.int .i64 (r : Int)) := by rw [ld_at k11, ← hr]; rfl
   simp (disch := first | omega | decide | simp only [go_sem]) only [go_sem, a56b1, f7, f8, f41, f42, f43, hi1, ga, so, sb, hH1, hkk, l1, List.length_cons, List.length_nil]
   refine least_b0 L1 hz hB oa ol (by simp only [go_sem, f7]) (by simp only [go_sem, f8]) (by simp only [go_sem]) (by simp only [go_sem]) (by simp only [go_sem]) (by simp only [go_sem]) fun e2 hS2 g12 => ?_
   have g7 : eget e2 7 = .ptr k7 0 0 1 := (hS2 7 (by omega)).trans (by simp only [go_sem, f7])
   have g8 : eget e2 8 = .ptr k8 0 0 1 := (hS2 8 (by omega)).trans (by simp only [go_sem, f8])
   have g9 : eget e2 9 = .bool c := (hS2 9 (by omega)).trans (by simp only [go_sem, f9])
   have g10 : eget e2 10 = .int .i64 (i : Int) := (hS2 10 (by omega)).trans (by simp only [go_sem])
   have g11 : eget e2 11 = .ptr k 0 0 1 := (hS2 11 (by omega)).trans (by simp only [go_sem])
   have g43 : eget e2 43 = .int .i64 (i : Int) := (hS2 43 (by omega)).trans (by simp only [go_sem, f43])
   have hS3 : Same (fun j => (9 ≤ j ∧ j ≤ 15) ∨ 43 ≤ j) e e2 := fun j hj => by
    refine (hS2 j (by omega)).trans ((Eq.trans ?_ (hS j hj)))
    simp only [not_or, Nat.not_le] at hj
    simp (disch := omega) only [eget_eput_ne]
   clear hS2
   have l7 := L1.l7
   have l8 := L1.l8
   have lb := ld_v (i := r) L1.rb rfl hrb
   have lz := ld_v (i := r) L1.rz rfl hrz
   have zr : zAt zz o.res = zz.getD r 0 := by simp [zAt, hr]
   have z1 := hz.at o.res
   have p1 := sumZ_le hz o.args 1
   rw [zr] at z1
   by_cases hwh : wholeZ zz o.args = true
   · rw [if_pos hwh] at g12
     have n0' : ¬ min (sumZ zz o.args 1) 2001 < 0 := by omega
     have hbz := hB.2 r
     by_cases hc : zz.getD r 0 = 0 ∨ min (sumZ zz o.args 1) 2001 < zz.getD r 0
     · have hst : stepZ zz o = (zz.set r (min (sumZ zz o.args 1) 2001), true) := by
        unfold stepZ opZ
        rw [if_pos ⟨hwh, by rw [zr]; exact hc⟩, hr]
        rfl
       rw [hst, Bool.true_or] at hR
       have st1 := fun ws => st_v (ws := ws) (ups := ups) (v := min (sumZ zz o.args 1) 2001) L1.rz rfl hrz
       have L2 := L1.setZ (z' := zz.set r (min (sumZ zz o.args 1) 2001)) (by simp)
       have st2 := fun ws => st_v (ws := ws) (ups := ups) (v := (i : Int)) L2.rb rfl hrb
       have L3 := L2.setB (b' := b.set r (i : Int)) (by simp)
       obtain ⟨o1, o2, o3, o4⟩ := L.ord
       have cl := fun (b i : Nat) (R : List Nat) (past : Past) => clear_rw (b := b) (i := i) (R := R) (past := past) (show k8 ≠ kz by omega)
       have B3 := hB.step (v := min (sumZ zz o.args 1) 2001) (i := (i : Int)) hrz (by omega) (by omega)
       have low3 : Low n0 h ((H1.set kz (.row 1 ((zz.set r (min (sumZ zz o.args 1) 2001)).map encI))).set kb (.row 1 ((b.set r (i : Int)).map encI))) := (low1.trans (Low.set hn0)).trans (Low.set (by omega))
       by_cases hb : b.getD r 0 < 0
       · simp (disch := first | omega | decide | simp only [go_sem]) only [go_sem, g7, g8, g9, g10, g11, g12, g43, n0', l2, l7, l8, lb, lz, hrz, hrb, hb, st1, st2, cl]
         exact ⟨d - 1, by omega, i + 1, _, _, _, _, true, by omega, L3, by simpa using hzl, hz.set ⟨by omega, by omega⟩, B3, hR, low3, by simpa using hnH1, wadd_low (by omega) (wadd_low hn0 (wadd_low hnk hw)), hS3.trans fun j hj => by simp (disch := omega) only [eget_eput_ne], ⟨rfl, rfl⟩, rfl⟩
       · have hc' : min (sumZ zz o.args 1) 2001 < zz.getD r 0 := by omega
         simp (disch := first | omega | decide | simp only [go_sem]) only [go_sem, g7, g8, g9, g10, g11, g12, g43, n0', l2, l7, l8, lb, lz, hrz, hrb, hb, hc', st1, st2, cl]
         exact ⟨d - 1, by omega, i + 1, _, _, _, _, true, by omega, L3, by simpa using hzl, hz.set ⟨by omega, by omega⟩, B3, hR, low3, by simpa using hnH1, wadd_low (by omega) (wadd_low hn0 (wadd_low hnk hw)), hS3.trans fun j hj => by simp (disch := omega) only [eget_eput_ne], ⟨rfl, rfl⟩, rfl⟩
     · have hst : stepZ zz o = (zz, false) := by
        unfold stepZ opZ
        rw [if_neg fun h => hc (by rw [← zr]; exact h.2)]
       rw [hst, Bool.false_or] at hR
       have hb : ¬ b.getD r 0 < 0 := fun h => hc (.inl (hbz.1 h).2)
       have hc' : ¬ min (sumZ zz o.args 1) 2001 < zz.getD r 0 := fun h => hc (.inr h)
       simp (disch := first | omega | decide | simp only [go_sem]) only [go_sem, g7, g8, g9, g10, g11, g12, g43, n0', l2, l7, l8, lb, lz, hrz, hrb, hb, hc']
       exact ⟨d - 1, by omega, i + 1, _, _, _, _, c, by omega, L1, hzl, hz, hB, hR, low1, hnH1, wadd_low hnk hw, hS3.trans fun j hj => by simp (disch := omega) only [eget_eput_ne], ⟨rfl, rfl⟩, rfl⟩
   · rw [if_neg hwh] at g12
     have hst : stepZ zz o = (zz, false) := by
      unfold stepZ
      rw [if_neg fun h => hwh h.1]
     rw [hst, Bool.false_or] at hR
     simp (disch := first | omega | decide | simp only [go_sem]) only [go_sem, g9, g12, g43]
     exact ⟨d - 1, by omega, i + 1, _, _, _, _, c, by omega, L1, hzl, hz, hB, hR, low1, hnH1, wadd_low hnk hw, hS3.trans fun j hj => by simp (disch := omega) only [eget_eput_ne], ⟨rfl, rfl⟩, rfl⟩
 · have hi1 : ¬ (i : Int) < (s.ops.length : Int) := by omega
   rw [List.drop_eq_nil_of_le (by omega)] at hR
   simp (disch := first | omega | decide | simp only [go_sem]) only [go_sem, a56b1, f42, f43, hi1]
   refine hQ _ _ _ zz b c (fun j hj => ?_) L hB hR.symm (by simp only [go_sem, f9]) low hnH hw
   rw [← hS j hj]
   simp only [not_or, Nat.not_le] at hj
   simp (disch := omega) only [eget_eput_ne]
end Go.Proofs.Tryz
/- small, brief: total. -/
namespace Go.Proofs.Tryz
open Go Go.AE
variable {T : Tbl} (hT : Std T)
def opBig (o : GOp) : Bool := decide (20 < o.args.length) || decide (200 < o.name.size)
def strBig (t : ByteArray) : Bool := decide (200 < t.size)
def smallB (s : GSig) : Bool := decide (s.ops.length ≤ 40) && decide (s.sorts.length ≤ 20) && !s.ops.any opBig && !s.sorts.any strBig
theorem smallB_fits {s : GSig} (h : smallB s = true) : Fits s := by
 simp only [smallB, Bool.and_eq_true, decide_eq_true_eq, Bool.not_eq_true', List.any_eq_false] at h
 obtain ⟨⟨⟨h1, h2⟩, h3⟩, h4⟩ := h
 refine ⟨by omega, by omega, fun t ht => ?_, fun o ho => ?_⟩
 · have := h4 t ht
   simp only [strBig, decide_eq_true_eq] at this
   omega
 · have := h3 o ho
   simp only [opBig, Bool.or_eq_true, decide_eq_true_eq, not_or] at this
   omega
include hT in
theorem small1_ev (o : GOp) (h : List AE.Obj) : Ev T 81 [encOp o] h (.val (.bool (opBig o)), ⟨h, [], []⟩) := by
 refine Ev.walk (hT.sp _ (by decide)) ((hT.fn _).trans fn81) (hT.mode _) rfl ?_
 have hk : (h ++ [AE.Obj.row 3 [encOp o]])[h.length]? = some (.row 3 [encOp o]) := by simp
 have l1 : loadAt false 1 (.ptr h.length 0 1 1) (h ++ [AE.Obj.row 3 [encOp o]]) = some (.slice 1 (o.args.map encI) .any) := by rw [ld_at hk]; rfl
 have l0 : loadAt false 1 (.ptr h.length 0 0 1) (h ++ [AE.Obj.row 3 [encOp o]]) = some (.str o.name) := by rw [ld_at hk]; rfl
 have td : ∀ b, tidy 0 h.length (.val (.bool b)) ⟨h ++ [AE.Obj.row 3 [encOp o]], [], []⟩ = (.val (.bool b), ⟨h, [], []⟩) := fun b => tidy_low rfl rfl ((Low.refl _ _).push (Nat.le_refl _)) (by simp)
 by_cases h0 : 20 < o.args.length
 · have h0' : (20 : Int) < (o.args.length : Int) := by omega
   simp (disch := first | omega | decide | simp only [go_sem]) only [go_sem, l0, l1, h0, h0', opBig, Bool.true_or, td]
 · have h0' : ¬ (20 : Int) < (o.args.length : Int) := by omega
   by_cases h1 : 200 < o.name.size
   · have h1' : (200 : Int) < (o.name.size : Int) := by omega
     simp (disch := first | omega | decide | simp only [go_sem]) only [go_sem, l0, l1, h0, h0', h1, h1', opBig, Bool.false_or, td]
   · have h1' : ¬ (200 : Int) < (o.name.size : Int) := by omega
     simp (disch := first | omega | decide | simp only [go_sem]) only [go_sem, l0, l1, h0, h0', h1, h1', opBig, Bool.false_or, td]
include hT in
theorem small2_ev (t : ByteArray) (h : List AE.Obj) : Ev T 83 [.str t] h (.val (.bool (strBig t)), ⟨h, [], []⟩) := by
 refine Ev.walk (hT.sp _ (by decide)) ((hT.fn _).trans fn83) (hT.mode _) rfl ?_
 by_cases h1 : 200 < t.size
 · have h1' : (200 : Int) < (t.size : Int) := by omega
   simp (disch := first | omega | decide | simp only [go_sem]) only [go_sem, h1, h1', strBig]
 · have h1' : ¬ (200 : Int) < (t.size : Int) := by omega
   simp (disch := first | omega | decide | simp only [go_sem]) only [go_sem, h1, h1', strBig]
theorem any_of {α : Type} {p : α → Bool} {l : List α} {i : Nat} (hi : i < l.length) (h : p l[i] = true) : l.any p = true := List.any_eq_true.2 ⟨_, List.getElem_mem hi, h⟩
theorem any_none {α : Type} {p : α → Bool} {l : List α} (h : ∀ j (hj : j < l.length), p l[j] = false) : l.any p = false := by
 rw [List.any_eq_false]
 intro a ha
 obtain ⟨j, hj, rfl⟩ := List.getElem_of_mem ha
 simp [h j hj]
include hT in
theorem index139_tot {g : FuncId} {cap : List PV} {p : GOp → Bool} {h : List AE.Obj} (hg : T.prim g = none) {ops : List GOp} {m : SM} (hf : ∀ a, Ev T g (encOp a :: cap) h (.val (.bool (p a)), ⟨h, [], []⟩)) (hal : ops.length < 1000000) :
 ∃ r : Int, Ev T 139 [.slice 3 (ops.map encOp) m, .func (.func g) [] cap] h (.val (.int .i64 r), ⟨h, [], []⟩) ∧ (decide (0 ≤ r) = ops.any p) := by
 refine Ev.walkP (hT.sp _ (by decide)) ((hT.fn _).trans fn139) (hT.mode _) rfl ?_
 simp (disch := first | omega | decide | simp only [go_sem]) only [go_sem]
 refine wpC.loopM (fun n e s => ∃ i : Nat, i + n = ops.length ∧ eget e 0 = .slice 3 (ops.map encOp) m ∧ eget e 1 = .func (.func g) [] cap ∧ eget e 7 = .int .i64 (ops.length : Int) ∧ eget e 8 = .int .i64 (i : Int) ∧ (∀ j (hj : j < ops.length), j < i → p ops[j] = false) ∧ s = ⟨h, [], []⟩) ?_ ops.length _ _ ⟨0, by simp, by simp only [go_sem], by simp only [go_sem], by simp only [go_sem], by simp only [go_sem]; rfl, fun j _ hj => by omega, rfl⟩
 rintro n e s ⟨i, hi, e0, e1, e7, e8, hp, rfl⟩
 by_cases h1 : i < ops.length
 · have ga := get_op h1
   have sb : sub true 3 (encOp ops[i]) 0 = some (encOp ops[i]) := rfl
   simp (disch := first | omega | decide | simp only [go_sem]) only [go_sem, a139b0, e0, e1, e7, e8, h1, ga, sb, hg, cb (hf ops[i])]
   refine bifs (fun hpi => ⟨(i : Int), rfl, by rw [any_of h1 hpi]; simp⟩) (fun hpi => ⟨n - 1, by omega, i + 1, by omega, rfl, fun j hj hji => ?_, trivial⟩)
   by_cases hjj : j = i
   · subst hjj; exact hpi
   · exact hp j hj (by omega)
 · simp (disch := first | omega | decide | simp only [go_sem]) only [go_sem, a139b0, e0, e1, e7, e8, h1]
   exact ⟨_, rfl, by rw [any_none fun j hj => hp j hj (by omega)]; rfl⟩
include hT in
theorem contains80_ev {g : FuncId} {cap : List PV} {p : GOp → Bool} {h : List AE.Obj} (hg : T.prim g = none) {ops : List GOp} {m : SM} (hf : ∀ a, Ev T g (encOp a :: cap) h (.val (.bool (p a)), ⟨h, [], []⟩)) (hal : ops.length < 1000000) :
 Ev T 80 [.slice 3 (ops.map encOp) m, .func (.func g) [] cap] h (.val (.bool (ops.any p)), ⟨h, [], []⟩) := by
 obtain ⟨r, hr, kr⟩ := index139_tot hT (m := m) hg hf hal
 rw [← kr]
 refine Ev.walk (hT.sp _ (by decide)) ((hT.fn _).trans fn80) (hT.mode _) rfl ?_
 simp (disch := first | omega | decide | simp only [go_sem]) only [go_sem, cb hr, hT.prim, primOf]
include hT in
theorem index160_tot {g : FuncId} {cap : List PV} {p : ByteArray → Bool} {h : List AE.Obj} (hg : T.prim g = none) {ss : List ByteArray} {m : SM} (hf : ∀ a, Ev T g (.str a :: cap) h (.val (.bool (p a)), ⟨h, [], []⟩)) (hal : ss.length < 1000000) :
 ∃ r : Int, Ev T 160 [.slice 1 (ss.map .str) m, .func (.func g) [] cap] h (.val (.int .i64 r), ⟨h, [], []⟩) ∧ (decide (0 ≤ r) = ss.any p) := by
 refine Ev.walkP (hT.sp _ (by decide)) ((hT.fn _).trans fn160) (hT.mode _) rfl ?_
 simp (disch := first | omega | decide | simp only [go_sem]) only [go_sem]
 refine wpC.loopM (fun n e s => ∃ i : Nat, i + n = ss.length ∧ eget e 0 = .slice 1 (ss.map .str) m ∧ eget e 1 = .func (.func g) [] cap ∧ eget e 7 = .int .i64 (ss.length : Int) ∧ eget e 8 = .int .i64 (i : Int) ∧ (∀ j (hj : j < ss.length), j < i → p ss[j] = false) ∧ s = ⟨h, [], []⟩) ?_ ss.length _ _ ⟨0, by simp, by simp only [go_sem], by simp only [go_sem], by simp only [go_sem], by simp only [go_sem]; rfl, fun j _ hj => by omega, rfl⟩
 rintro n e s ⟨i, hi, e0, e1, e7, e8, hp, rfl⟩
 by_cases h1 : i < ss.length
 · have ga := get_str h1
   simp (disch := first | omega | decide | simp only [go_sem]) only [go_sem, a160b0, e0, e1, e7, e8, h1, ga, hg, cb (hf ss[i])]
   refine bifs (fun hpi => ⟨(i : Int), rfl, by rw [any_of h1 hpi]; simp⟩) (fun hpi => ⟨n - 1, by omega, i + 1, by omega, rfl, fun j hj hji => ?_, trivial⟩)
   by_cases hjj : j = i
   · subst hjj; exact hpi
   · exact hp j hj (by omega)
 · simp (disch := first | omega | decide | simp only [go_sem]) only [go_sem, a160b0, e0, e1, e7, e8, h1]
   exact ⟨_, rfl, by rw [any_none fun j hj => hp j hj (by omega)]; rfl⟩
include hT in
theorem contains82_ev {g : FuncId} {cap : List PV} {p : ByteArray → Bool} {h : List AE.Obj} (hg : T.prim g = none) {ss : List ByteArray} {m : SM} (hf : ∀ a, Ev T g (.str a :: cap) h (.val (.bool (p a)), ⟨h, [], []⟩)) (hal : ss.length < 1000000) :
 Ev T 82 [.slice 1 (ss.map .str) m, .func (.func g) [] cap] h (.val (.bool (ss.any p)), ⟨h, [], []⟩) := by
 obtain ⟨r, hr, kr⟩ := index160_tot hT (m := m) hg hf hal
 rw [← kr]
 refine Ev.walk (hT.sp _ (by decide)) ((hT.fn _).trans fn82) (hT.mode _) rfl ?_
 simp (disch := first | omega | decide | simp only [go_sem]) only [go_sem, cb hr, hT.prim, primOf]
include hT in
theorem small_ev (s : GSig) (h : List AE.Obj) : Ev T 16 [encSig s] h (.val (.bool (smallB s)), ⟨h, [], []⟩) := by
 refine Ev.walk (hT.sp _ (by decide)) ((hT.fn _).trans fn16) (hT.mode _) rfl ?_
 have hk : (h ++ [AE.Obj.row 2 [encSig s]])[h.length]? = some (.row 2 [encSig s]) := by simp
 have l0 : loadAt false 1 (.ptr h.length 0 0 1) (h ++ [AE.Obj.row 2 [encSig s]]) = some (.slice 1 (s.sorts.map .str) .any) := by rw [ld_at hk]; rfl
 have l1 : loadAt false 1 (.ptr h.length 0 1 1) (h ++ [AE.Obj.row 2 [encSig s]]) = some (.slice 3 (s.ops.map encOp) .any) := by rw [ld_at hk]; rfl
 have td : ∀ b, tidy 0 h.length (.val (.bool b)) ⟨h ++ [AE.Obj.row 2 [encSig s]], [], []⟩ = (.val (.bool b), ⟨h, [], []⟩) := fun b => tidy_low rfl rfl ((Low.refl _ _).push (Nat.le_refl _)) (by simp)
 by_cases h0 : s.ops.length ≤ 40
 · have h0' : (s.ops.length : Int) ≤ 40 := by omega
   by_cases h1 : s.sorts.length ≤ 20
   · have h1' : (s.sorts.length : Int) ≤ 20 := by omega
     have c1 := contains80_ev hT (m := .any) (g := 81) (cap := []) (p := opBig) (ops := s.ops) (by rw [hT.prim]; rfl) (fun a => small1_ev hT a (h ++ [AE.Obj.row 2 [encSig s]])) (by omega)
     have c2 := contains82_ev hT (m := .any) (g := 83) (cap := []) (p := strBig) (ss := s.sorts) (by rw [hT.prim]; rfl) (fun a => small2_ev hT a (h ++ [AE.Obj.row 2 [encSig s]])) (by omega)
     simp (disch := first | omega | decide | simp only [go_sem]) only [go_sem, l0, l1, h0, h0', h1, h1', smallB, Bool.true_and, cb c1, cb c2, hT.prim, primOf, td]
     cases s.ops.any opBig <;> rfl
   · have h1' : ¬ (s.sorts.length : Int) ≤ 20 := by omega
     simp (disch := first | omega | decide | simp only [go_sem]) only [go_sem, l0, l1, h0, h0', h1, h1', smallB, Bool.true_and, Bool.false_and, td]
 · have h0' : ¬ (s.ops.length : Int) ≤ 40 := by omega
   simp (disch := first | omega | decide | simp only [go_sem]) only [go_sem, l0, l1, h0, h0', smallB, Bool.false_and, td]
end Go.Proofs.Tryz
/- vals.Least: all sizes; the first operation of least size. -/
namespace Go.Proofs.Tryz
open Go Go.AE
variable {T : Tbl} (hT : Std T) {H : List AE.Obj} {ws : List Nat} {ups : List (Nat × Nat)} {ko k7 k8 kz kb : Nat} {s : GSig} {z b : List Int}
theorem least_b2 (hG : GOk s) {e : List PV} {Q : AExit → List PV → St → Prop} (L : LMem H ko k7 k8 kz kb s z b) (hzl : z.length = s.sorts.length) (hz : okZ z) (hA : AttZ s.ops z) (hB : BZ z b) {n0 : Nat} (hn0 : n0 ≤ kz) {h : List AE.Obj} (low : Low n0 h H) (hnH : n0 ≤ H.length) (hw : ∀ k ∈ ws, n0 ≤ k)
 (e2 : eget e 2 = .ptr ko 0 0 1) (e7 : eget e 7 = .ptr k7 0 0 1) (e8 : eget e 8 = .ptr k8 0 0 1) (e9 : eget e 9 = .bool true)
 (hQ : ∀ e' H' ws' b', Same (fun j => (9 ≤ j ∧ j ≤ 15) ∨ 39 ≤ j) e e' → LMem H' ko k7 k8 kz kb s (finZ s.ops z) b' → BZ (finZ s.ops z) b' → LeastZ s.ops s.sorts.length (finZ s.ops z) → Low n0 h H' → n0 ≤ H'.length → (∀ k ∈ ws', n0 ≤ k) → Q (.exit 0) e' ⟨H', ws', ups⟩) : wpC T (.loop a56b2) e ⟨H, ws, ups⟩ Q := by
 have hO : ∀ o ∈ s.ops, 0 ≤ o.res ∧ o.res < (s.sorts.length : Int) := fun o ho => (hG.ops o ho).2.1
 refine wpC.loopM (fun d e' st => ∃ (H' : List AE.Obj) (ws' : List Nat) (z' b' : List Int) (c : Bool), LMem H' ko k7 k8 kz kb s z' b' ∧ z'.length = s.sorts.length ∧ okZ z' ∧ AttZ s.ops z' ∧ BZ z' b' ∧ finZ s.ops z' = finZ s.ops z ∧ (c = true → d = potZ z' + 1) ∧ (c = false → (roundZ s.ops z' false).2 = false) ∧ Low n0 h H' ∧ n0 ≤ H'.length ∧ (∀ k ∈ ws', n0 ≤ k) ∧ Same (fun j => (9 ≤ j ∧ j ≤ 15) ∨ 39 ≤ j) e e' ∧ eget e' 9 = .bool c ∧ st = ⟨H', ws', ups⟩) ?_ (potZ z + 1) _ _ ⟨H, ws, z, b, true, L, hzl, hz, hA, hB, rfl, fun _ => rfl, fun h => by simp at h, low, hnH, hw, Same.refl e, e9, rfl⟩
 clear L hzl hz hB low hnH hw hA
 rintro d e' st ⟨H, ws, z', b, c, L, hzl, hz, hA, hB, hF, hc1, hc0, low, hnH, hw, hS, f9, rfl⟩
 have f2 := (hS 2 (by omega)).trans e2
 have f7 := (hS 7 (by omega)).trans e7
 have f8 := (hS 8 (by omega)).trans e8
 have lo := L.ops
 cases c
 · have hstop := hc0 rfl
   have hz' : finZ s.ops z' = z' := finZ_stop hstop
   simp (disch := first | omega | decide | simp only [go_sem]) only [go_sem, a56b2, f9]
   refine hQ _ _ _ b (hS.trans fun j hj => by simp (disch := omega) only [eget_eput_ne]) (by rw [← hF, hz']; exact L) (by rw [← hF, hz']; exact hB) (by rw [← hF, hz']; exact .of_stop hO hz hzl hA hstop) low hnH hw
 · have hd := hc1 rfl
   simp (disch := first | omega | decide | simp only [go_sem]) only [go_sem, a56b2, f2, f9, lo]
   refine least_b1 hG L hzl hz hB hn0 low hnH hw (by simp only [go_sem, f7]) (by simp only [go_sem, f8]) (by simp only [go_sem]) (by simp only [go_sem]) (by simp only [go_sem, List.length_map]) (by simp only [go_sem]) fun e3 H3 ws3 z3 b3 c3 hS3 L3 B3 hR g9 low3 hnH3 hw3 => ?_
   obtain ⟨a1, a2, a3, a4, a5⟩ := roundZ_ok s.ops z' false hz hzl hO
   have A3 := AttZ.round (os := s.ops) s.ops z' false (fun o ho => ⟨ho, hO o ho⟩) hzl hz hA
   have hF3 : finZ s.ops z3 = finZ s.ops z' := by
    cases c3
    · have := (a4 (by rw [hR])).1
      rw [hR] at this
      dsimp only at this
      rw [this]
    · have := finZ_step hO hz hzl (by rw [hR])
      rw [hR] at this
      exact this
   rw [hR] at a1 a2 a3 a4 A3
   dsimp only at a1 a2 a3 a4 A3
   have hS4 : Same (fun j => (9 ≤ j ∧ j ≤ 15) ∨ 39 ≤ j) e e3 := fun j hj => by
    refine (hS3 j (by omega)).trans (Eq.trans ?_ (hS j hj))
    simp (disch := omega) only [eget_eput_ne]
   simp (disch := first | omega | decide | simp only [go_sem]) only [go_sem]
   cases c3
   · exact ⟨0, by omega, H3, ws3, z3, b3, false, L3, a2, a1, A3, B3, hF3.trans hF, fun h => by simp at h, fun _ => by rw [(a4 rfl).1, hR], low3, hnH3, hw3, hS4, g9, rfl⟩
   · have := a3 rfl rfl
     exact ⟨potZ z3 + 1, by omega, H3, ws3, z3, b3, true, L3, a2, a1, A3, B3, hF3.trans hF, fun _ => rfl, fun h => by simp at h, low3, hnH3, hw3, hS4, g9, rfl⟩
def predB (b z : List Int) (k : Nat) (o : GOp) : Bool := (o.args.all fun a => decide (0 ≤ zAt b a)) && (o.res == (k : Int) && (decide (0 ≤ b.getD k 0) && (sumZ z o.args 1 == z.getD k 0)))
def idxI (p : GOp → Bool) (ops : List GOp) : Int := match ops.findIdx? p with | some i => (i : Int) | none => -1
include hT in
theorem index139_ex {g : FuncId} {cap : List PV} {p : GOp → Bool} {h : List AE.Obj} (hg : T.prim g = none) {ops : List GOp} {m : SM} (hf : ∀ a ∈ ops, Ev T g (encOp a :: cap) h (.val (.bool (p a)), ⟨h, [], []⟩)) (hal : ops.length < 1000000) :
 Ev T 139 [.slice 3 (ops.map encOp) m, .func (.func g) [] cap] h (.val (.int .i64 (idxI p ops)), ⟨h, [], []⟩) := by
 refine Ev.walk (hT.sp _ (by decide)) ((hT.fn _).trans fn139) (hT.mode _) rfl ?_
 simp (disch := first | omega | decide | simp only [go_sem]) only [go_sem]
 refine wpC.loopM (fun n e s => ∃ i : Nat, i + n = ops.length ∧ (∀ j (hj : j < ops.length), j < i → p ops[j] = false) ∧ (eget e 0 = .slice 3 (ops.map encOp) m ∧ eget e 1 = .func (.func g) [] cap ∧ eget e 7 = .int .i64 (ops.length : Int) ∧ eget e 8 = .int .i64 (i : Int)) ∧ s = ⟨h, [], []⟩) ?_ ops.length _ _ ⟨0, by simp, fun j _ hj => by omega, by simp only [go_sem, Int.natCast_zero], rfl⟩
 rintro n e s ⟨i, hi, hp, ⟨e0, e1, e7, e8⟩, rfl⟩
 by_cases h1 : i < ops.length
 · have ga := get_op h1
   have sb : sub true 3 (encOp ops[i]) 0 = some (encOp ops[i]) := rfl
   simp (disch := first | omega | decide | simp only [go_sem]) only [go_sem, a139b0, e0, e1, e7, e8, h1, ga, sb, hg, cb (hf ops[i] (List.getElem_mem h1))]
   refine bifs (fun hpi => ?_) (fun hpi => ⟨n - 1, by omega, i + 1, by omega, fun j hj hji => ?_, rfl, trivial⟩)
   · have : ops.findIdx? p = some i := List.findIdx?_eq_some_iff_getElem.2 ⟨h1, hpi, fun j hj => by simp [hp j (by omega) hj]⟩
     simp [idxI, this]
   · by_cases hjj : j = i
     · subst hjj; exact hpi
     · exact hp j hj (by omega)
 · simp (disch := first | omega | decide | simp only [go_sem]) only [go_sem, a139b0, e0, e1, e7, e8, h1]
   have : ops.findIdx? p = none := by
    rw [List.findIdx?_eq_none_iff]
    intro x hx
    obtain ⟨j, hj, rfl⟩ := List.getElem_of_mem hx
    exact hp j hj (by omega)
   simp [idxI, this]
end Go.Proofs.Tryz
/- vals.Least: the first operation of least size, of each sort. -/
namespace Go.Proofs.Tryz
open Go Go.AE
variable {T : Tbl} (hT : Std T) {H : List AE.Obj} {ws : List Nat} {ko k7 k8 kz kb : Nat} {s : GSig} {z b : List Int}
include hT in
theorem least1_ev (L : LMem H ko k7 k8 kz kb s z b) (hz : okZ z) (hbl : b.length = z.length) {kk k : Nat} (hk : H[kk]? = some (.row 1 [.int .i64 (k : Int)])) (hkl : k < z.length) {o : GOp} (ho : okArgs o.args z.length) (hol : o.args.length < 900) :
 Ev T 140 [encOp o, .ptr k8 0 0 1, .ptr k7 0 0 1, .ptr kk 0 0 1] H (.val (.bool (predB b z k o)), ⟨H, [], []⟩) := by
 refine Ev.walk (hT.sp _ (by decide)) ((hT.fn _).trans fn140) (hT.mode _) rfl ?_
 have L1 := L.push (o := .row 3 [encOp o])
 have kp : (H ++ [AE.Obj.row 3 [encOp o]])[H.length]? = some (.row 3 [encOp o]) := by simp
 have hk1 : (H ++ [AE.Obj.row 3 [encOp o]])[kk]? = some (.row 1 [.int .i64 (k : Int)]) := keepL hk
 have low1 : Low H.length H (H ++ [AE.Obj.row 3 [encOp o]]) := (Low.refl _ _).push (Nat.le_refl _)
 generalize hH1 : H ++ [AE.Obj.row 3 [encOp o]] = H1 at *
 have l1 : loadAt false 1 (.ptr H.length 0 1 1) H1 = some (.slice 1 (o.args.map encI) .any) := by rw [ld_at kp]; rfl
 have l2 : loadAt false 1 (.ptr H.length 0 2 1) H1 = some (.int .i64 o.res) := by rw [ld_at kp]; rfl
 have l3 : loadAt false 1 (.ptr kk 0 0 1) H1 = some (.int .i64 (k : Int)) := by rw [ld_at hk1]; rfl
 have l7 := L1.l7
 have l8 := L1.l8
 have td : ∀ v, tidy 0 H.length (.val (.bool v)) ⟨H1, [], []⟩ = (.val (.bool v), ⟨H, [], []⟩) := fun v => tidy_low rfl rfl low1 (by simp)
 simp (disch := first | omega | decide | simp only [go_sem]) only [go_sem, hH1, l1]
 refine wpC.loopM (fun d e st => ∃ (i : Nat) (n : Int), i + d = o.args.length ∧ (0 ≤ n ∧ n ≤ 1 + 2001 * i) ∧ sumZ z (o.args.drop i) n = sumZ z o.args 1 ∧ ((o.args.drop i).all fun a => decide (0 ≤ zAt b a)) = (o.args.all fun a => decide (0 ≤ zAt b a)) ∧ (eget e 1 = .ptr k8 0 0 1 ∧ eget e 2 = .ptr k7 0 0 1 ∧ eget e 3 = .ptr kk 0 0 1 ∧ eget e 4 = .ptr H.length 0 0 1 ∧ eget e 6 = .int .i64 n ∧ eget e 10 = .slice 1 (o.args.map encI) .any ∧ eget e 11 = .int .i64 (o.args.length : Int) ∧ eget e 12 = .int .i64 (i : Int)) ∧ st = ⟨H1, [], []⟩) ?_ o.args.length _ _ ⟨0, 1, by omega, by omega, by rw [List.drop_zero], by rw [List.drop_zero], by simp only [go_sem, Int.natCast_zero, List.length_map], rfl⟩
 rintro d e st ⟨i, n, hd, hn, hc, hw, ⟨e1, e2, e3, e4, e6, e10, e11, e12⟩, rfl⟩
 by_cases hi : i < o.args.length
 · have hi1 : (i : Int) < (o.args.length : Int) := by omega
   obtain ⟨g1, g2⟩ := ho.get hi
   have hdr : o.args.drop i = ((o.args.getD i 0).toNat : Int) :: o.args.drop (i + 1) := by
    rw [List.drop_eq_getElem_cons hi]
    rw [List.getElem?_eq_getElem hi] at g1
    rw [Option.some.inj g1]
   generalize ha : (o.args.getD i 0).toNat = a at *
   have g3 : (o.args.map encI)[i]? = some (.int .i64 (a : Int)) := by rw [List.getElem?_map, g1]; rfl
   have g4 : a < b.length := by omega
   have lb := ld_v (i := a) L1.rb rfl g4
   have lz := ld_v (i := a) L1.rz rfl g2
   have z1 := hz.at (a : Int)
   have z2 : zAt z (a : Int) = z.getD a 0 := by simp [zAt]
   have b2 : zAt b (a : Int) = b.getD a 0 := by simp [zAt]
   rw [z2] at z1
   rw [hdr] at hc hw
   simp only [sumZ, List.all_cons, z2, b2] at hc hw
   by_cases hb : b.getD a 0 < 0
   · have hf : predB b z k o = false := by
      unfold predB
      rw [← hw, decide_eq_false (by omega)]
      rfl
     rw [hf]
     simp (disch := first | omega | decide | simp only [go_sem]) only [go_sem, a140b0, e1, e2, e3, e4, e6, e10, e11, e12, hi1, g2, g3, g4, l7, l8, lb, lz, hb, td]
   · simp (disch := first | omega | decide | simp only [go_sem]) only [go_sem, a140b0, e1, e2, e3, e4, e6, e10, e11, e12, hi1, g2, g3, g4, l7, l8, lb, lz, hb]
     rw [decide_eq_true (show 0 ≤ b.getD a 0 by omega), Bool.true_and] at hw
     exact ⟨d - 1, by omega, i + 1, n + z.getD a 0, by omega, by omega, hc, hw, ⟨rfl, rfl⟩, trivial⟩
 · have hi1 : ¬ (i : Int) < (o.args.length : Int) := by omega
   rw [List.drop_eq_nil_of_le (by omega)] at hc hw
   simp only [sumZ, List.all_nil] at hc hw
   have lb := ld_v (i := k) L1.rb rfl (by omega)
   have lz := ld_v (i := k) L1.rz rfl hkl
   have hkb : k < b.length := by omega
   unfold predB
   rw [← hw, ← hc, Bool.true_and]
   by_cases hr : o.res = (k : Int)
   · have hr' : (o.res == (k : Int)) = true := by simpa using hr
     by_cases hb : 0 ≤ b.getD k 0
     · simp (disch := first | omega | decide | simp only [go_sem]) only [go_sem, a140b0, e1, e2, e3, e4, e6, e10, e11, e12, hi1, l1, l2, l3, l7, l8, lb, lz, hkl, hkb, hr', hb, td, Bool.true_and]
     · simp (disch := first | omega | decide | simp only [go_sem]) only [go_sem, a140b0, e1, e2, e3, e4, e6, e10, e11, e12, hi1, l1, l2, l3, l7, l8, lb, lz, hkl, hkb, hr', hb, td, Bool.true_and, Bool.false_and]
   · have hr' : (o.res == (k : Int)) = false := by simpa using hr
     simp (disch := first | omega | decide | simp only [go_sem]) only [go_sem, a140b0, e1, e2, e3, e4, e6, e10, e11, e12, hi1, l1, l2, l3, l7, l8, lb, lz, hkl, hkb, hr', td, Bool.false_and]
theorem findIdx_congr {α : Type} {p q : α → Bool} : ∀ {l : List α}, (∀ x ∈ l, p x = q x) → l.findIdx? p = l.findIdx? q
 | [], _ => rfl
 | x :: l, h => by
   rw [List.findIdx?_cons, List.findIdx?_cons, h x (by simp), findIdx_congr fun y hy => h y (by simp [hy])]
structure FixInv (ops : List GOp) (z b : List Int) (k : Nat) : Prop where
 len : b.length = z.length
 done : ∀ j, j < k → 0 < z.getD j 0 → z.getD j 0 ≤ 2000 → ∃ i : Nat, ops.findIdx? (goodZ z j) = some i ∧ b.getD j 0 = (i : Int)
 void : ∀ j : Nat, j < k → z.getD j 0 = 0 → j < z.length → b.getD j 0 < 0
 rest : ∀ j : Nat, k ≤ j → (b.getD j 0 < 0 ↔ (j < z.length ∧ z.getD j 0 = 0))
theorem FixInv.step {ops : List GOp} {nS : Nat} (hL : LeastZ ops nS z) (hO : ∀ o ∈ ops, okArgs o.args nS) {k : Nat} (hk : k < z.length) (F : FixInv ops z b k) : FixInv ops z (b.set k (idxI (predB b z k) ops)) (k + 1) := by
 have hkb : k < b.length := by rw [F.len]; exact hk
 refine ⟨by simpa using F.len, fun j hj h0 h2 => ?_, fun j hj h0 hjl => ?_, fun j hj => ?_⟩
 · rw [getD_set hkb]
   by_cases hjk : k = j
   · subst hjk
     rw [if_pos rfl]
     obtain ⟨i, o, e1, _⟩ := good_ex hL h0 h2
     refine ⟨i, e1, ?_⟩
     have heq : ops.findIdx? (predB b z k) = ops.findIdx? (goodZ z k) := by
      refine findIdx_congr ?_
      intro o ho
      have hkk : 0 ≤ b.getD k 0 := by
       have := F.rest k (Nat.le_refl _)
       omega
      have hpos := hL.ok
      have oa := hO o ho
      rw [Bool.eq_iff_iff]
      simp only [predB, goodZ, wholeZ, opZ, Bool.and_eq_true, List.all_eq_true, decide_eq_true_eq, beq_iff_eq]
      have key : (sumZ z o.args 1 = z.getD k 0) → ((∀ a ∈ o.args, 0 ≤ zAt b a) ↔ (∀ a ∈ o.args, 0 < zAt z a)) := fun hs => by
       refine forall_congr' fun a => imp_congr_right fun ha => ?_
       have hm := sumZ_mem hpos 1 ha
       have z1 := hpos.at a
       obtain ⟨a', rfl⟩ := Int.eq_ofNat_of_zero_le (oa a ha).1
       have hal := (oa a' ha).2
       rw [← hL.len] at hal
       simp only [zAt, Int.toNat_natCast] at hm z1 ⊢
       by_cases haj : a' < k
       · by_cases hz0 : z.getD a' 0 = 0
         · have := F.void a' haj hz0 (by omega)
           omega
         · obtain ⟨i', _, e'⟩ := F.done a' haj (by omega) (by omega)
           omega
       · have := F.rest a' (by omega)
         omega
      constructor
      · rintro ⟨h1, h2, h3, h4⟩
        exact ⟨⟨h2, (key h4).1 h1⟩, h4⟩
      · rintro ⟨⟨h2, h1⟩, h4⟩
        exact ⟨(key h4).2 h1, h2, hkk, h4⟩
     simp [idxI, heq, e1]
   · rw [if_neg hjk]
     exact F.done j (by omega) h0 h2
 · rw [getD_set hkb]
   by_cases hjk : k = j
   · subst hjk
     rw [if_pos rfl]
     have hkk : b.getD k 0 < 0 := (F.rest k (Nat.le_refl _)).2 ⟨hjl, h0⟩
     have : ops.findIdx? (predB b z k) = none := by
      rw [List.findIdx?_eq_none_iff]
      intro o ho
      simp only [predB]
      rw [decide_eq_false (show ¬ 0 ≤ b.getD k 0 by omega)]
      simp
     simp [idxI, this]
   · rw [if_neg hjk]
     exact F.void j (by omega) h0 hjl
 · rw [getD_set hkb, if_neg (by omega)]
   exact F.rest j (by omega)
end Go.Proofs.Tryz
/- nth: the sizes of the arguments. -/
namespace Go.Proofs.Tryz
open Go Go.AE
variable {T : Tbl} (hT : Std T)
def nsv (o : GOp) (so : List (List Int)) (k m : Nat) : Int := (so.getD (o.args.getD k 0).toNat []).getD m 0
def nrv (ri : List (List Int)) (k q : Nat) : Int := (ri.getD k []).getD q 0
structure NthC (s : GSig) (TAB : PV) (i : Nat) (o : GOp) (so ri : List (List Int)) (rest : List PV) : Prop where
 t1 : sub false 1 TAB 1 = some (.slice 3 (s.ops.map encOp) .any)
 t2 : sub false 1 TAB 2 = some (.slice 61 (so.map arr) .any)
 t3 : sub false 1 TAB 3 = some (.slice 1 rest .any)
 ro : so.length = s.sorts.length
 okS : okRows so
 ho : s.ops[i]? = some o
 args : okArgs o.args s.sorts.length
 al : o.args.length < 900
 gr : rest[i]? = some (.slice 61 (ri.map arr) .any)
 rl : ri.length = o.args.length + 1
 okR : okRows ri
 eqn : ∀ k q, k < o.args.length → q < 60 → (ri.getD k []).getD q 0 = inner (so.getD (o.args.getD k 0).toNat []) (ri.getD (k + 1) []) q q 1 0
 sys : Sys (nsv o so) (nrv ri) o.args.length
theorem ld_arr {x : List Int} (h : okRow x) {m : Nat} (hm : m < 61) : sub false 1 (arr x) m = some (.int .i64 (x.getD m 0)) := by
 have := (h.get hm).1
 show (x.map encI)[m]? = _
 rw [List.getElem?_map, this]; rfl
theorem get_arr {l : List (List Int)} (h : okRows l) {k : Nat} (hk : k < l.length) : (l.map arr)[k]? = some (arr (l.getD k [])) := by
 rw [List.getElem?_map, (h.get hk).1]; rfl
theorem cap_def {x : Int} : min x 1099511627776 = cap x := rfl
theorem cap_nn {x : Int} (h : 0 ≤ x) : 0 ≤ cap x := by unfold cap; omega
theorem cap_top (x : Int) : cap x ≤ 1099511627776 := by unfold cap; omega
@[go_sem] theorem sub_slice0 {sz n : Nat} {es : List PV} {m : SM} : sub false sz (.slice n es m) 0 = some (.slice n es m) := rfl
variable {s : GSig} {TAB : PV} {i : Nat} {o : GOp} {so ri : List (List Int)} {rest : List PV}
include hT in
theorem nth_b0 (C : NthC s TAB i o so ri rest) {k a left ks : Nat} {ahead n0 : Int} {szs : List Int} {H : List AE.Obj} {ws : List Nat} {e0 : List PV} {Q : AExit → List PV → St → Prop}
 (hk : k < o.args.length) (ha : o.args[k]? = some (a : Int)) (haE : (o.args.getD k 0).toNat = a) (hal : a < s.sorts.length) (hleft : left < 60) (hah : 0 ≤ ahead ∧ ahead ≤ 1099511627776) (hn : 0 ≤ n0 ∧ n0 ≤ 1099511627776) (hsum : n0 < sumP ahead (so.getD a []) (ri.getD (k + 1) []) left left 1)
 (hks : H[ks]? = some (.row 1 (szs.map encI))) (hsl : szs.length = o.args.length)
 (h0 : eget e0 0 = .iptr TAB 0) (h3 : eget e0 3 = .int .i64 n0) (h9 : eget e0 9 = .int .i64 (i : Int)) (h13 : eget e0 13 = .aref ks 1 0 o.args.length o.args.length) (h14 : eget e0 14 = .int .i64 (left : Int)) (h15 : eget e0 15 = .int .i64 ahead) (h16 : eget e0 16 = .int .i64 (k : Int)) (h17 : eget e0 17 = .int .i64 (a : Int)) (h18 : eget e0 18 = .int .i64 1)
 (hQ : ∀ e' (m : Nat) (n' : Int), Same (fun j => j = 3 ∨ j = 18 ∨ j = 19 ∨ 73 ≤ j) e0 e' → eget e' 3 = .int .i64 n' → 1 ≤ m → m ≤ left → 0 ≤ n' → n' ≤ 1099511627776 → n' < cap (cap (ahead * (so.getD a []).getD m 0) * (ri.getD (k + 1) []).getD (left - m) 0) → n' = n0 - preP (nsv o so) (nrv ri) ahead k left (m - 1) → Q (.exit 4) e' ⟨H.set ks (.row 1 ((szs.set k (m : Int)).map encI)), wadd ks ws, []⟩) :
 wpC T (.loop a91b0) e0 ⟨H, ws, []⟩ Q := by
 have hk9 : k < 900 := by have := C.al; omega
 have hso := (C.okS.get (k := a) (by rw [C.ro]; exact hal)).2
 have hr1 := (C.okR.get (k := k + 1) (by rw [C.rl]; omega)).2
 have gs := get_arr C.okS (k := a) (by rw [C.ro]; exact hal)
 have gk := get_arr C.okR (k := k + 1) (by rw [C.rl]; omega)
 have gr := C.gr
 have t2 := C.t2
 have t3 := C.t3
 refine wpC.loopM (fun d e st => ∃ (m : Nat) (n : Int), m + d = left + 1 ∧ 1 ≤ m ∧ (0 ≤ n ∧ n ≤ 1099511627776) ∧ n < sumP ahead (so.getD a []) (ri.getD (k + 1) []) left d m ∧ Same (fun j => j = 3 ∨ j = 18 ∨ j = 19 ∨ 73 ≤ j) e0 e ∧ eget e 3 = .int .i64 n ∧ eget e 18 = .int .i64 (m : Int) ∧ n = n0 - preP (nsv o so) (nrv ri) ahead k left (m - 1) ∧ st = ⟨H, ws, []⟩) ?_ left _ _ ⟨1, n0, by omega, by omega, hn, hsum, Same.refl _, h3, h18, by simp [preP], rfl⟩
 rintro d e st ⟨m, n, hd, hm1, hn, hsum, hs, e3, e18, hpre, rfl⟩
 cases d with
 | zero => simp only [sumP] at hsum; omega
 | succ d =>
   have e0' := (hs 0 (by omega)).trans h0
   have e9 := (hs 9 (by omega)).trans h9
   have e13 := (hs 13 (by omega)).trans h13
   have e14 := (hs 14 (by omega)).trans h14
   have e15 := (hs 15 (by omega)).trans h15
   have e16 := (hs 16 (by omega)).trans h16
   have e17 := (hs 17 (by omega)).trans h17
   have hml : m ≤ left := by omega
   have hm61 : m < 61 := by omega
   have hlm : left - m < 61 := by omega
   have ls := ld_arr hso hm61
   have l1 := ld_arr hr1 hlm
   have b2 := (hso.get hm61).2
   have b1 := (hr1.get hlm).2
   simp only [sumP] at hsum
   have hp1 : 0 ≤ ahead * (so.getD a []).getD m 0 := Int.mul_nonneg hah.1 b2.1
   have c1 := fun h => times_ev hT (h := h) hah.1 hah.2 b2.1 b2.2
   have c2 := fun h => times_ev hT (h := h) (cap_nn hp1) (cap_top _) b1.1 b1.2
   have hw0 : 0 ≤ cap (cap (ahead * (so.getD a []).getD m 0) * (ri.getD (k + 1) []).getD (left - m) 0) := cap_nn (Int.mul_nonneg (cap_nn hp1) b1.1)
   have hw1 := cap_top (cap (ahead * (so.getD a []).getD m 0) * (ri.getD (k + 1) []).getD (left - m) 0)
   simp only [cap_def] at c1 c2
   have hway : preP (nsv o so) (nrv ri) ahead k left m = preP (nsv o so) (nrv ri) ahead k left (m - 1) + cap (cap (ahead * (so.getD a []).getD m 0) * (ri.getD (k + 1) []).getD (left - m) 0) := by
    obtain ⟨j, rfl⟩ : ∃ j, m = j + 1 := ⟨m - 1, by omega⟩
    simp only [preP, wayW, nsv, nrv, haE, Nat.add_sub_cancel]
   generalize hw : cap (cap (ahead * (so.getD a []).getD m 0) * (ri.getD (k + 1) []).getD (left - m) 0) = ways at *
   have sv := fun ws => st_v (h := H) (ws := ws) (ups := []) (v := (m : Int)) hks hsl hk
   by_cases hlt : n < ways
   · simp (disch := first | omega | decide | simp only [go_sem]) only [go_sem, a91b0, e0', e3, e9, e13, e14, e15, e16, e17, e18, hml, t2, t3, gs, gk, gr, ls, l1, cb (c1 _), cb (c2 _), hT.prim, primOf, cast_sub hml, hm61, hlm, hlt, hk, sv]
     exact hQ _ m n (fun j hj => by
      have h' := hs j hj
      simp only [not_or, Nat.not_le] at hj
      simp (disch := omega) only [eget_eput_ne]
      exact h') (by simp only [go_sem, e3]) hm1 hml hn.1 hn.2 (by rw [hw]; exact hlt) hpre
   · simp (disch := first | omega | decide | simp only [go_sem]) only [go_sem, a91b0, e0', e3, e9, e13, e14, e15, e16, e17, e18, hml, t2, t3, gs, gk, gr, ls, l1, cb (c1 _), cb (c2 _), hT.prim, primOf, cast_sub hml, hm61, hlm, hlt, hk, sv]
     refine ⟨d, by omega, m + 1, n - ways, by omega, by omega, by omega, by omega, fun j hj => ?_, rfl, rfl, by rw [Nat.add_sub_cancel, hway]; omega, trivial⟩
     have h' := hs j hj
     simp only [not_or, Nat.not_le] at hj
     simp (disch := omega) only [eget_eput_ne]
     exact h'
end Go.Proofs.Tryz
/- nth: the sizes of all arguments. -/
namespace Go.Proofs.Tryz
open Go Go.AE
variable {T : Tbl} (hT : Std T)
variable {s : GSig} {TAB : PV} {i : Nat} {o : GOp} {so ri : List (List Int)} {rest : List PV}
def okSz (o : GOp) (so : List (List Int)) (N k : Nat) (szs : List Int) : Prop := ∀ j, j < k → ∃ m : Nat, szs.getD j 0 = (m : Int) ∧ 1 ≤ m ∧ m ≤ N ∧ 1 ≤ (so.getD (o.args.getD j 0).toNat []).getD m 0
include hT in
theorem nth_b1 (C : NthC s TAB i o so ri rest) {N ks : Nat} {n0 : Int} {szs0 : List Int} {H : List AE.Obj} {ws : List Nat} {e0 : List PV} {Q : AExit → List PV → St → Prop}
 (hN : N < 60) (hn0 : 0 ≤ n0 ∧ n0 ≤ 1099511627776) (hlt0 : n0 < (ri.getD 0 []).getD N 0)
 (hks : H[ks]? = some (.row 1 (szs0.map encI))) (hsl0 : szs0.length = o.args.length)
 (h0 : eget e0 0 = .iptr TAB 0) (h3 : eget e0 3 = .int .i64 n0) (h9 : eget e0 9 = .int .i64 (i : Int)) (h13 : eget e0 13 = .aref ks 1 0 o.args.length o.args.length) (h14 : eget e0 14 = .int .i64 (N : Int)) (h15 : eget e0 15 = .int .i64 1)
 (h66 : eget e0 66 = .slice 1 (o.args.map encI) .any) (h67 : eget e0 67 = .int .i64 (o.args.length : Int)) (h68 : eget e0 68 = .int .i64 0)
 (hQ : ∀ e' (n' : Int) szs ws', Same (fun j => j = 3 ∨ 14 ≤ j ∧ j ≤ 19 ∨ 68 ≤ j) e0 e' → eget e' 3 = .int .i64 n' → 0 ≤ n' → n' ≤ 1099511627776 → szs.length = o.args.length → okSz o so N o.args.length szs → Fit (nsv o so) o.args.length N (szF szs) → n' = n0 - bsF (nsv o so) (nrv ri) (szF szs) N o.args.length → n' < ahF (nsv o so) (szF szs) o.args.length → (∀ x ∈ ws', x ∈ ws ∨ x = ks) → Q (.exit 2) e' ⟨H.set ks (.row 1 (szs.map encI)), ws', []⟩) :
 wpC T (.loop a91b1) e0 ⟨H, ws, []⟩ Q := by
 have hal := C.al
 have t2 := C.t2
 have hHs : H = H.set ks (.row 1 (szs0.map encI)) := (set_self hks).symm
 have hH0 : (⟨H, ws, []⟩ : St) = ⟨H.set ks (.row 1 (szs0.map encI)), ws, []⟩ := by rw [← hHs]
 rw [hH0]
 refine wpC.loopM (fun d e st => ∃ (k left : Nat) (n ahead : Int) (szs : List Int) (ws' : List Nat), k + d = o.args.length ∧ left ≤ N ∧ (0 ≤ n ∧ n ≤ 1099511627776) ∧ (1 ≤ ahead ∧ ahead ≤ 1099511627776) ∧ n < cap (ahead * (ri.getD k []).getD left 0) ∧ szs.length = o.args.length ∧ okSz o so N k szs ∧ (left = lfF (szF szs) N k ∧ ahead = ahF (nsv o so) (szF szs) k ∧ n = n0 - bsF (nsv o so) (nrv ri) (szF szs) N k ∧ ∀ j, j < k → szF szs j ≤ lfF (szF szs) N j) ∧ (∀ x ∈ ws', x ∈ ws ∨ x = ks) ∧
  Same (fun j => j = 3 ∨ 14 ≤ j ∧ j ≤ 19 ∨ 68 ≤ j) e0 e ∧ eget e 3 = .int .i64 n ∧ eget e 14 = .int .i64 (left : Int) ∧ eget e 15 = .int .i64 ahead ∧ eget e 68 = .int .i64 (k : Int) ∧ st = ⟨H.set ks (.row 1 (szs.map encI)), ws', []⟩) ?_ o.args.length _ _
  ⟨0, N, n0, 1, szs0, ws, by omega, Nat.le_refl _, hn0, by omega, ?_, hsl0, fun j hj => by omega, ⟨rfl, rfl, by simp [bsF], fun j hj => by omega⟩, fun x hx => .inl hx, Same.refl _, h3, h14, h15, h68, rfl⟩
 · rintro d e st ⟨k, left, n, ahead, szs, ws', hd, hleft, hn, hah, hlt, hsl, hok, ⟨hl1, ha1, hn1, hle⟩, hw, hs, e3, e14, e15, e68, rfl⟩
   have e0' := (hs 0 (by omega)).trans h0
   have e9 := (hs 9 (by omega)).trans h9
   have e13 := (hs 13 (by omega)).trans h13
   have e66 := (hs 66 (by omega)).trans h66
   have e67 := (hs 67 (by omega)).trans h67
   by_cases hk : k < o.args.length
   · obtain ⟨ga, gl⟩ := C.args.get hk
     have gaE : (o.args.map encI)[k]? = some (.int .i64 (((o.args.getD k 0).toNat : Nat) : Int)) := by rw [List.getElem?_map, ga]; rfl
     have heq := C.eqn k left hk (by omega)
     generalize ha : (o.args.getD k 0).toNat = a at *
     have hso := (C.okS.get (k := a) (by rw [C.ro]; exact gl)).2
     have hr1 := (C.okR.get (k := k + 1) (by rw [C.rl]; omega)).2
     have gs := get_arr C.okS (k := a) (by rw [C.ro]; exact gl)
     have hsum : n < sumP ahead (so.getD a []) (ri.getD (k + 1) []) left left 1 := by
      have := inner_sumP (ahead := ahead) (p := left) (by omega) hso.nonneg hr1.nonneg left 1 0 (by omega)
      rw [heq] at hlt
      have h00 : cap (ahead * 0) = 0 := by rw [Int.mul_zero]; rfl
      omega
     have hks' : (H.set ks (AE.Obj.row 1 (szs.map encI)))[ks]? = some (.row 1 (szs.map encI)) := get_set hks
     simp (disch := first | omega | decide | simp only [go_sem]) only [go_sem, a91b1, e0', e3, e9, e13, e14, e15, e66, e67, e68, hk, gaE]
     refine nth_b0 hT C (szs := szs) (k := k) (a := a) (left := left) (ks := ks) (ahead := ahead) (n0 := n) hk ga ha gl (by omega) (by omega) hn hsum hks' hsl (by simp only [go_sem, e0']) (by simp only [go_sem, e3]) (by simp only [go_sem, e9]) (by simp only [go_sem, e13]) (by simp only [go_sem, e14]) (by simp only [go_sem, e15]) (by simp only [go_sem]) (by simp only [go_sem]) (by simp only [go_sem]) fun e' m n' hs' e3' hm1 hml hq1 hq2 hlt' hpre => ?_
     have f0 : eget e' 0 = .iptr TAB 0 := (hs' 0 (by omega)).trans (by simp only [go_sem, e0'])
     have f13 : eget e' 13 = .aref ks 1 0 o.args.length o.args.length := (hs' 13 (by omega)).trans (by simp only [go_sem, e13])
     have f14 : eget e' 14 = .int .i64 (left : Int) := (hs' 14 (by omega)).trans (by simp only [go_sem, e14])
     have f15 : eget e' 15 = .int .i64 ahead := (hs' 15 (by omega)).trans (by simp only [go_sem, e15])
     have f16 : eget e' 16 = .int .i64 (k : Int) := (hs' 16 (by omega)).trans (by simp only [go_sem])
     have f17 : eget e' 17 = .int .i64 (a : Int) := (hs' 17 (by omega)).trans (by simp only [go_sem])
     have f68 : eget e' 68 = .int .i64 (k : Int) := (hs' 68 (by omega)).trans (by simp only [go_sem, e68])
     rw [List.set_set]
     have hks2 : (H.set ks (AE.Obj.row 1 ((szs.set k (m : Int)).map encI)))[ks]? = some (.row 1 ((szs.set k (m : Int)).map encI)) := get_set hks
     have lv := ld_v hks2 (show (szs.set k (m : Int)).length = o.args.length by simpa using hsl) hk
     have gv : (szs.set k (m : Int)).getD k 0 = (m : Int) := by rw [getD_set (by omega), if_pos rfl]
     rw [gv] at lv
     have hm61 : m < 61 := by omega
     have ls := ld_arr hso hm61
     have b2 := (hso.get hm61).2
     have hp1 : 0 ≤ ahead * (so.getD a []).getD m 0 := Int.mul_nonneg (by omega) b2.1
     have c1 := fun h => times_ev hT (h := h) (by omega) hah.2 b2.1 b2.2
     simp only [cap_def] at c1
     have hah' : 1 ≤ cap (ahead * (so.getD a []).getD m 0) := by
      have := cap_nn hp1
      by_cases hz : cap (ahead * (so.getD a []).getD m 0) = 0
      · rw [hz, Int.zero_mul] at hlt'
        have h00 : cap 0 = 0 := rfl
        omega
      · omega
     have hxs : 1 ≤ (so.getD a []).getD m 0 := by
      by_cases hz : (so.getD a []).getD m 0 = 0
      · rw [hz, Int.mul_zero] at hah'
        have h00 : cap 0 = 0 := rfl
        omega
      · omega
     simp (disch := first | omega | decide | simp only [go_sem]) only [go_sem, f0, f13, f14, f15, f16, f17, f68, t2, gs, lv, ls, hm61, hk, cb (c1 _), hT.prim, primOf, cast_sub hml]
     have zk : szF (szs.set k (m : Int)) k = m := by unfold szF; rw [gv]; rfl
     have zc : ∀ j, j < k → szF (szs.set k (m : Int)) j = szF szs j := sz_congr
     have g1 : lfF (szF (szs.set k (m : Int))) N k = left := by rw [lf_congr k zc, hl1]
     have g2 : ahF (nsv o so) (szF (szs.set k (m : Int))) k = ahead := by rw [ah_congr k zc, ha1]
     have g3 : bsF (nsv o so) (nrv ri) (szF (szs.set k (m : Int))) N k = bsF (nsv o so) (nrv ri) (szF szs) N k := bs_congr k zc
     refine ⟨d - 1, by omega, k + 1, left - m, n', cap (ahead * (so.getD a []).getD m 0), szs.set k (m : Int), wadd ks ws', by omega, by omega, ⟨hq1, hq2⟩, ⟨hah', cap_top _⟩, hlt', by simpa using hsl, fun j hj => ?_, ⟨by simp only [lfF, g1, zk], by simp only [ahF, g2, zk, nsv, ha], by simp only [bsF, g1, g2, g3, zk]; omega, fun j hj => ?_⟩, fun x hx => ?_, fun j hj => ?_, e3', rfl, rfl, rfl, rfl⟩
     · by_cases hjk : j = k
       · subst hjk
         exact ⟨m, gv, hm1, by omega, by rw [ha]; exact hxs⟩
       · obtain ⟨m', h1, h2, h3, h4⟩ := hok j (by omega)
         exact ⟨m', by rw [getD_set_ne (by omega)]; exact h1, h2, h3, h4⟩
     · by_cases hjk : j = k
       · subst hjk
         rw [zk, g1]; exact hml
       · rw [zc j (by omega), lf_congr j fun i hi => zc i (by omega)]
         exact hle j (by omega)
     · rcases mem_wadd hx with h | h
       · exact .inr h
       · exact hw x h
     · have h1 := hs j hj
       simp only [not_or, not_and, Nat.not_le] at hj
       have h2 := hs' j (by omega)
       simp (disch := omega) only [eget_eput_ne] at h2 ⊢
       exact h2.trans h1
   · simp (disch := first | omega | decide | simp only [go_sem]) only [go_sem, a91b1, e0', e3, e9, e13, e14, e15, e66, e67, e68, hk]
     have hkl : k = o.args.length := by omega
     have hlast := C.sys.last left
     rw [hkl] at hlt ha1 hl1 hn1
     have hrl : (ri.getD o.args.length []).getD left 0 = if left = 0 then 1 else 0 := hlast
     rw [hrl] at hlt
     have hl0 : left = 0 := by
      by_cases h : left = 0
      · exact h
      · rw [if_neg h, Int.mul_zero] at hlt
        have h00 : cap 0 = 0 := rfl
        omega
     rw [if_pos hl0, Int.mul_one, cap_self hah.2] at hlt
     have F : Fit (nsv o so) o.args.length N (szF szs) := ⟨fun j hj => by
      obtain ⟨m, q1, q2, q3, q4⟩ := hok j (by omega)
      unfold szF; rw [q1]; simpa using q2, fun j hj => hle j (by omega), by rw [← hl1, hl0], fun j hj => by
      obtain ⟨m, q1, q2, q3, q4⟩ := hok j (by omega)
      unfold szF; rw [q1]; exact q4⟩
     refine hQ _ n szs ws' (fun j hj => ?_) (by simp only [go_sem, e3]) hn.1 hn.2 hsl (by rw [← hkl]; exact hok) F hn1 (by rw [← ha1]; exact hlt) hw
     have h1 := hs j hj
     simp only [not_or, not_and, Nat.not_le] at hj
     simp (disch := omega) only [eget_eput_ne]
     exact h1
 · have h1 := (C.okR.get (k := 0) (by rw [C.rl]; omega)).2.le N
   rw [Int.one_mul]
   unfold cap
   omega
end Go.Proofs.Tryz
/- nth: how many lists there are behind each argument. -/
namespace Go.Proofs.Tryz
open Go Go.AE
variable {T : Tbl} (hT : Std T)
variable {s : GSig} {TAB : PV} {i : Nat} {o : GOp} {so ri : List (List Int)} {rest : List PV}
def okBh (L k : Nat) (bh : List Int) : Prop := ∀ j, k ≤ j → j ≤ L → 1 ≤ bh.getD j 0 ∧ bh.getD j 0 ≤ 1099511627776
def beH (o : GOp) (so : List (List Int)) (szs : List Int) (k : Nat) (bh : List Int) : Prop := ∀ j, k ≤ j → j ≤ o.args.length → bh.getD j 0 = beF (nsv o so) (szF szs) o.args.length (o.args.length - j)
include hT in
theorem nth_b2 (C : NthC s TAB i o so ri rest) {N ks kb ko : Nat} {szs bh0 : List Int} {H : List AE.Obj} {ws : List Nat} {e0 : List PV} {Q : AExit → List PV → St → Prop}
 (hN : N < 60) (hok : okSz o so N o.args.length szs) (hb0 : okBh o.args.length o.args.length bh0) (hbe0 : beH o so szs o.args.length bh0)
 (hks : H[ks]? = some (.row 1 (szs.map encI))) (hsl : szs.length = o.args.length) (hkb : H[kb]? = some (.row 1 (bh0.map encI))) (hbl0 : bh0.length = o.args.length + 1) (hko : H[ko]? = some (.row 3 [encOp o])) (hne : kb ≠ ks ∧ kb ≠ ko)
 (h0 : eget e0 0 = .iptr TAB 0) (h10 : eget e0 10 = .ptr ko 0 0 1) (h13 : eget e0 13 = .aref ks 1 0 o.args.length o.args.length) (h20 : eget e0 20 = .aref kb 1 0 (o.args.length + 1) (o.args.length + 1)) (h21 : eget e0 21 = .int .i64 ((o.args.length : Int) - 1))
 (hQ : ∀ e' bh ws', Same (fun j => j = 21 ∨ 150 ≤ j) e0 e' → bh.length = o.args.length + 1 → okBh o.args.length 0 bh → beH o so szs 0 bh → (∀ x ∈ ws', x ∈ ws ∨ x = kb) → Q (.exit 6) e' ⟨H.set kb (.row 1 (bh.map encI)), ws', []⟩) :
 wpC T (.loop a91b2) e0 ⟨H, ws, []⟩ Q := by
 have hal := C.al
 have t2 := C.t2
 have hH0 : (⟨H, ws, []⟩ : St) = ⟨H.set kb (.row 1 (bh0.map encI)), ws, []⟩ := by rw [set_self hkb]
 rw [hH0]
 refine wpC.loopM (fun d e st => ∃ (bh : List Int) (ws' : List Nat), d ≤ o.args.length ∧ bh.length = o.args.length + 1 ∧ okBh o.args.length d bh ∧ beH o so szs d bh ∧ (∀ x ∈ ws', x ∈ ws ∨ x = kb) ∧
  Same (fun j => j = 21 ∨ 150 ≤ j) e0 e ∧ eget e 21 = .int .i64 ((d : Int) - 1) ∧ st = ⟨H.set kb (.row 1 (bh.map encI)), ws', []⟩) ?_ o.args.length _ _
  ⟨bh0, ws, Nat.le_refl _, hbl0, hb0, hbe0, fun x hx => .inl hx, Same.refl _, h21, rfl⟩
 rintro d e st ⟨bh, ws', hd, hbl, hb, hbe, hw, hs, e21, rfl⟩
 have e0' := (hs 0 (by omega)).trans h0
 have e10 := (hs 10 (by omega)).trans h10
 have e13 := (hs 13 (by omega)).trans h13
 have e20 := (hs 20 (by omega)).trans h20
 cases d with
 | zero =>
   have c : ¬ ((0 : Int) ≤ ((0 : Nat) : Int) - 1) := by omega
   simp (disch := first | omega | decide | simp only [go_sem]) only [go_sem, a91b2, e0', e10, e13, e20, e21, c]
   refine hQ _ bh ws' (fun j hj => ?_) hbl hb hbe hw
   have h1 := hs j hj
   simp only [not_or, Nat.not_le] at hj
   simp (disch := omega) only [eget_eput_ne]
   exact h1
 | succ k =>
   have c : (0 : Int) ≤ (k : Int) := by omega
   have hk : k < o.args.length := by omega
   obtain ⟨ga, gl⟩ := C.args.get hk
   have gaE : (o.args.map encI)[k]? = some (.int .i64 (((o.args.getD k 0).toNat : Nat) : Int)) := by rw [List.getElem?_map, ga]; rfl
   obtain ⟨m, hm, hm1, hmN, hmp⟩ := hok k hk
   generalize ha : (o.args.getD k 0).toNat = a at *
   have hso := (C.okS.get (k := a) (by rw [C.ro]; exact gl)).2
   have gs := get_arr C.okS (k := a) (by rw [C.ro]; exact gl)
   have hm61 : m < 61 := by omega
   have ls := ld_arr hso hm61
   have b2 := (hso.get hm61).2
   have hks' : (H.set kb (AE.Obj.row 1 (bh.map encI)))[ks]? = some (.row 1 (szs.map encI)) := get_set_ne hks hne.1
   have hko' : (H.set kb (AE.Obj.row 1 (bh.map encI)))[ko]? = some (.row 3 [encOp o]) := get_set_ne hko hne.2
   have hkb' : (H.set kb (AE.Obj.row 1 (bh.map encI)))[kb]? = some (.row 1 (bh.map encI)) := get_set hkb
   have lo : loadAt false 1 (.ptr ko 0 1 1) (H.set kb (AE.Obj.row 1 (bh.map encI))) = some (.slice 1 (o.args.map encI) .any) := by rw [ld_at hko']; rfl
   have lm := ld_v hks' hsl hk
   rw [hm] at lm
   have lb := ld_v hkb' hbl (show k + 1 < o.args.length + 1 by omega)
   have hbb := hb (k + 1) (by omega) (by omega)
   have hbf := hbe (k + 1) (by omega) (by omega)
   generalize hbv : bh.getD (k + 1) 0 = bv at *
   generalize hxv : (so.getD a []).getD m 0 = xv at *
   have hp1 : 1 ≤ bv * xv := by
    have : 1 * 1 ≤ bv * xv := Int.mul_le_mul hbb.1 hmp (by omega) (by omega)
    omega
   have c1 := fun h => times_ev hT (h := h) (by omega) hbb.2 b2.1 b2.2
   simp only [cap_def] at c1
   have sv := fun ws => st_v (ws := ws) (ups := []) (v := cap (bv * xv)) hkb' hbl (show k < o.args.length + 1 by omega)
   rw [List.set_set] at sv
   have hk1 : k < o.args.length + 1 := by omega
   have hk2 : k + 1 < o.args.length + 1 := by omega
   simp (disch := first | omega | decide | simp only [go_sem]) only [go_sem, a91b2, e0', e10, e13, e20, e21, c, gaE, t2, gs, lm, lb, lo, ls, hm61, hk, hk1, hk2, cb (c1 _), hT.prim, primOf, sv]
   refine ⟨k, by omega, bh.set k (cap (bv * xv)), _, by omega, by simpa using hbl, fun j h1 h2 => ?_, fun j h1 h2 => ?_, fun x hx => ?_, fun j hj => ?_, rfl, rfl⟩
   · by_cases hjk : j = k
     · subst hjk
       rw [getD_set (by omega), if_pos rfl]
       exact ⟨by unfold cap; omega, cap_top _⟩
     · rw [getD_set_ne (by omega)]
       exact hb j (by omega) h2
   · by_cases hjk : j = k
     · subst hjk
       rw [getD_set (by omega), if_pos rfl]
       obtain ⟨i, hi⟩ : ∃ i, o.args.length - j = i + 1 := ⟨o.args.length - j - 1, by omega⟩
       have z : szF szs j = m := by unfold szF; rw [hm]; rfl
       rw [show o.args.length - (j + 1) = i by omega] at hbf
       rw [hi]
       simp only [beF]
       rw [← hbf, show o.args.length - 1 - i = j by omega, z]
       simp only [nsv, ha, hxv]
     · rw [getD_set_ne (by omega)]
       exact hbe j (by omega) h2
   · rcases mem_wadd hx with h | h
     · exact .inr h
     · exact hw x h
   · have h1 := hs j hj
     simp only [not_or, Nat.not_le] at hj
     simp (disch := omega) only [eget_eput_ne]
     exact h1
end Go.Proofs.Tryz
/- nth: the arguments. -/
namespace Go.Proofs.Tryz
open Go Go.AE
variable {T : Tbl} (hT : Std T)
variable {s : GSig} {TAB : PV} {i : Nat} {o : GOp} {so ri : List (List Int)} {rest : List PV}
def AppL (H : List AE.Obj) (v : PV) (es : List PV) (lo : Nat) : Prop := (es = [] ∧ v = .slice 0 [] .nil) ∨ ∃ kt, v = .slice 3 es (.tok kt) ∧ H[kt]? = some (.tok 3 es.length) ∧ lo ≤ kt
theorem AppL.set {H : List AE.Obj} {v : PV} {es : List PV} {lo k : Nat} {sz : Nat} {r r' : List PV} (A : AppL H v es lo) (hk : H[k]? = some (.row sz r)) : AppL (H.set k (.row sz r')) v es lo := by
 rcases A with h | ⟨kt, h1, h2, h3⟩
 · exact .inl h
 · refine .inr ⟨kt, h1, get_set_ne h2 ?_, h3⟩
   rintro rfl
   rw [hk] at h2
   cases h2
theorem append_one {H : List AE.Obj} {v p : PV} {es : List PV} {lo : Nat} (A : AppL H v es lo) (hp : IsT p) (hl : es.length < 100000) (hlo : lo ≤ H.length) :
 ∃ v' H' ws', (∀ ups, appendop 3 40 v (.slice 3 [p] .lit) ⟨H, [], ups⟩ = some (v', ⟨H', ws', ups⟩)) ∧ AppL H' v' (es ++ [p]) lo ∧ (∃ kt, v' = .slice 3 (es ++ [p]) (.tok kt)) ∧ (∀ (j sz : Nat) (r : List PV), H[j]? = some (.row sz r) → H'[j]? = some (.row sz r)) ∧ Low lo H H' ∧ ∀ x ∈ ws', lo ≤ x := by
 obtain ⟨c1, c2, c3, c4⟩ := hp.cells
 have hroom : (es.length + 1) * 40 ≤ room ∧ es.length + 1 ≤ room := by
  have : 10000000 ≤ room := by decide
  constructor <;> omega
 rcases A with ⟨rfl, rfl⟩ | ⟨kt, rfl, h2, h3⟩
 · simp at hroom
   refine ⟨.slice 3 [p] (.tok H.length), H ++ [.tok 3 1], [], fun ups => ?_, .inr ⟨H.length, rfl, by simp, hlo⟩, ⟨_, rfl⟩, fun j sz r hj => keepL hj, (Low.refl _ _).push hlo, by simp⟩
   simp [appendop, elems, c2, hroom, alloc]
 · refine ⟨.slice 3 (es ++ [p]) (.tok kt), H.set kt (.tok 3 (es.length + 1)), wadd kt [], fun ups => ?_, .inr ⟨kt, rfl, by rw [get_set h2]; simp, h3⟩, ⟨_, rfl⟩, fun j sz r hj => get_set_ne hj ?_, .set h3, wadd_low h3 (by simp)⟩
   · simp [appendop, elems, c2, hroom, h2, wrote_none]
   · rintro rfl
     rw [h2] at hj
     cases hj
theorem st_f2 {H : List AE.Obj} {ws : List Nat} {ups : List (Nat × Nat)} {kx kt : Nat} {a b v : PV} {es : List PV} (hk : H[kx]? = some (.row 3 [.agg [a, b, v]])) :
 ∃ ups', storeAt 1 (.ptr kx 0 2 1) (.slice 3 es (.tok kt)) ⟨H, ws, ups⟩ = some ⟨H.set kx (.row 3 [.agg [a, b, .slice 3 es (.tok kt)]]), wadd kx ws, ups'⟩ ∧ ∀ x ∈ ups', x ∈ ups ∨ x.1 = kx := by
 have hu : upd (.agg [a, b, v]) 2 (.slice 3 es (.tok kt)) = some (.agg [a, b, .slice 3 es (.tok kt)]) := rfl
 have h1 : storeAt 1 (.ptr kx 0 2 1) (.slice 3 es (.tok kt)) ⟨H, ws, ups⟩ = some (wrote kx (.row 3 [.agg [a, b, .slice 3 es (.tok kt)]]) (PV.slice 3 es (.tok kt)).top ⟨H, ws, ups⟩) := by
  simp only [storeAt, hk, List.length_cons, List.length_nil, PV.cells, List.all_cons, List.all_nil, PV.isCell, Bool.and_self, and_self, if_true, List.getElem?_cons_zero, hu, Option.map, List.set_cons_zero]
 rw [h1]
 cases (PV.slice 3 es (.tok kt)).top with
 | none => exact ⟨ups, by rw [wrote_none], fun x hx => .inl hx⟩
 | some j =>
   refine ⟨_, by rw [wrote_some], fun x hx => ?_⟩
   split at hx
   · rcases List.mem_cons.1 hx with rfl | h
     · exact .inr rfl
     · exact .inl h
   · exact .inl hx
structure NthX (s : GSig) (o : GOp) (so : List (List Int)) (szs : List Int) (n0 n : Int) (es : List PV) (xs : List Tm) : Prop where
 len : es.length = xs.length
 enc : ∀ (j : Nat) (x : Tm) (p : PV), xs[j]? = some x → es[j]? = some p → Enc x p
 wt : ∀ (j : Nat) (x : Tm), xs[j]? = some x → WT s x (o.args.getD j 0) ∧ x.nodes = szF szs j
 num : n0 = upF (nsv o so) (szF szs) (fun j => (numL s xs).getD j 0) o.args.length xs.length + n
theorem NthX.snoc {s : GSig} {o : GOp} {so : List (List Int)} {szs : List Int} {n0 n n' q b : Int} {es : List PV} {xs : List Tm} {x : Tm} {p : PV} (X : NthX s o so szs n0 n es xs) (hx : Enc x p) (hw : WT s x (o.args.getD xs.length 0)) (hz : x.nodes = szF szs xs.length) (hq : x.num s = q) (hb : b = beF (nsv o so) (szF szs) o.args.length (o.args.length - 1 - xs.length)) (hn : n = q * b + n') : NthX s o so szs n0 n' (es ++ [p]) (xs ++ [x]) := by
 have hl := X.len
 refine ⟨by simp [hl], fun j y r h1 h2 => ?_, fun j y h1 => ?_, ?_⟩
 · rcases Nat.lt_trichotomy j xs.length with h | h | h
   · rw [List.getElem?_append_left h] at h1
     rw [List.getElem?_append_left (by omega)] at h2
     exact X.enc j y r h1 h2
   · subst h
     rw [← hl] at h2
     simp at h1 h2
     subst h1 h2
     exact hx
   · rw [List.getElem?_eq_none (by simp; omega)] at h1
     cases h1
 · rcases Nat.lt_trichotomy j xs.length with h | h | h
   · rw [List.getElem?_append_left h] at h1
     exact X.wt j y h1
   · subst h
     simp at h1
     subst h1
     exact ⟨hw, hz⟩
   · rw [List.getElem?_eq_none (by simp; omega)] at h1
     cases h1
 · have e : ∀ j, j < xs.length → (numL s xs).getD j 0 = (numL s (xs ++ [x])).getD j 0 := fun j hj => by
    rw [numL_get (getD_mem hj), numL_get (show (xs ++ [x])[j]? = some xs[j] by rw [List.getElem?_append_left hj]; exact getD_mem hj)]
   have e2 : (numL s (xs ++ [x])).getD xs.length 0 = q := by rw [numL_get (show (xs ++ [x])[xs.length]? = some x by simp), hq]
   have h0 := X.num
   rw [up_congr (nm' := fun j => (numL s (xs ++ [x])).getD j 0) xs.length e] at h0
   rw [List.length_append, List.length_singleton]
   simp only [upF, e2]
   rw [← hb]
   omega
def NthIH (T : Tbl) (s : GSig) (TAB : PV) (N : Nat) : Prop := ∀ (a m : Nat) (n : Int) (h : List AE.Obj), a < s.sorts.length → 1 ≤ m → m ≤ N → 0 ≤ n → n < cntOf s a m → ∃ p, Ev T 91 [.iptr TAB 0, .int .i64 (a : Int), .int .i64 (m : Int), .int .i64 n] h (.val p, ⟨h, [], []⟩) ∧ Nth91 s a m n p
include hT in
theorem nth_b3 (C : NthC s TAB i o so ri rest) {N ks kb kx lo : Nat} {n0 : Int} {szs bh : List Int} {h0 H0 : List AE.Obj} {ws0 : List Nat} {e0 : List PV} {Q : AExit → List PV → St → Prop} (h91 : T.sp 91 = none) (IH : NthIH T s TAB N) (hN : N < 60) (hso : so = (tabOf s).1) (hbe : beH o so szs 0 bh)
 (hok : okSz o so N o.args.length szs) (hb : okBh o.args.length 0 bh) (hn0 : 0 ≤ n0 ∧ n0 < beF (nsv o so) (szF szs) o.args.length o.args.length)
 (hks : H0[ks]? = some (.row 1 (szs.map encI))) (hsl : szs.length = o.args.length) (hkb : H0[kb]? = some (.row 1 (bh.map encI))) (hbl : bh.length = o.args.length + 1) (hkx : H0[kx]? = some (.row 3 [.agg [.int .i64 2, .int .i64 (i : Int), .slice 0 [] .nil]]))
 (hne : kx ≠ ks ∧ kx ≠ kb) (low0 : Low lo h0 H0) (hlo : lo ≤ h0.length ∧ lo ≤ kx) (hw0 : ∀ x ∈ ws0, lo ≤ x)
 (f0 : eget e0 0 = .iptr TAB 0) (f3 : eget e0 3 = .int .i64 n0) (f12 : eget e0 12 = .ptr kx 0 0 1) (f13 : eget e0 13 = .aref ks 1 0 o.args.length o.args.length) (f20 : eget e0 20 = .aref kb 1 0 (o.args.length + 1) (o.args.length + 1))
 (f180 : eget e0 180 = .slice 1 (o.args.map encI) .any) (f181 : eget e0 181 = .int .i64 (o.args.length : Int)) (f182 : eget e0 182 = .int .i64 0)
 (hQ : ∀ e' v es H' ws' ups', Same (fun j => j = 3 ∨ j = 22 ∨ j = 23 ∨ 182 ≤ j) e0 e' → es.length < 1000 → (∀ x, x ∈ es → IsT x) → (∃ xs, NthX s o so szs n0 0 es xs ∧ xs.length = o.args.length) → AppL H' v es lo → H'[kx]? = some (.row 3 [.agg [.int .i64 2, .int .i64 (i : Int), v]]) → (∀ (j sz : Nat) (r : List PV), j ≠ kx → H0[j]? = some (.row sz r) → H'[j]? = some (.row sz r)) → Low lo h0 H' → (∀ x ∈ ws', lo ≤ x) → (∀ x ∈ ups', lo ≤ x.1) → Q (.exit 8) e' ⟨H', ws', ups'⟩) :
 wpC T (.loop a91b3) e0 ⟨H0, ws0, []⟩ Q := by
 have hal := C.al
 refine wpC.loopM (fun d e st => ∃ (k : Nat) (n : Int) (v : PV) (es : List PV) (H : List AE.Obj) (ws : List Nat) (ups : List (Nat × Nat)), k + d = o.args.length ∧ (0 ≤ n ∧ n < beF (nsv o so) (szF szs) o.args.length (o.args.length - k)) ∧ es.length = k ∧ (∀ x, x ∈ es → IsT x) ∧ (∃ xs, NthX s o so szs n0 n es xs) ∧ AppL H v es lo ∧ H[kx]? = some (.row 3 [.agg [.int .i64 2, .int .i64 (i : Int), v]]) ∧ (∀ (j sz : Nat) (r : List PV), j ≠ kx → H0[j]? = some (.row sz r) → H[j]? = some (.row sz r)) ∧ Low lo h0 H ∧ (∀ x ∈ ws, lo ≤ x) ∧ (∀ x ∈ ups, lo ≤ x.1) ∧
  Same (fun j => j = 3 ∨ j = 22 ∨ j = 23 ∨ 182 ≤ j) e0 e ∧ eget e 3 = .int .i64 n ∧ eget e 182 = .int .i64 (k : Int) ∧ st = ⟨H, ws, ups⟩) ?_ o.args.length _ _
  ⟨0, n0, _, [], H0, ws0, [], by omega, hn0, rfl, by simp, ⟨[], rfl, by simp, by simp, by simp [upF]⟩, .inl ⟨rfl, rfl⟩, hkx, fun _ _ _ _ h => h, low0, hw0, by simp, Same.refl _, f3, f182, rfl⟩
 rintro d e st ⟨k, n, v, es, H, ws, ups, hd, hn, hel, hes, ⟨xs, X⟩, A, hkx, keep, low, hw, hu, hs, e3, e182, rfl⟩
 have e0' := (hs 0 (by omega)).trans f0
 have e12 := (hs 12 (by omega)).trans f12
 have e13 := (hs 13 (by omega)).trans f13
 have e20 := (hs 20 (by omega)).trans f20
 have e180 := (hs 180 (by omega)).trans f180
 have e181 := (hs 181 (by omega)).trans f181
 by_cases hk : k < o.args.length
 · obtain ⟨ga, gl⟩ := C.args.get hk
   have gaE : (o.args.map encI)[k]? = some (.int .i64 (((o.args.getD k 0).toNat : Nat) : Int)) := by rw [List.getElem?_map, ga]; rfl
   obtain ⟨m, hm, hm1, hmN, hmp⟩ := hok k hk
   generalize ha : (o.args.getD k 0).toNat = a at *
   have lm := ld_v (keep _ _ _ (Ne.symm hne.1) hks) hsl hk
   rw [hm] at lm
   have lb := ld_v (keep _ _ _ (Ne.symm hne.2) hkb) hbl (show k + 1 < o.args.length + 1 by omega)
   have hbb := hb (k + 1) (by omega) (by omega)
   have hbf := hbe (k + 1) (by omega) (by omega)
   have hxl : xs.length = k := by rw [← X.len]; exact hel
   have hzm : szF szs k = m := by unfold szF; rw [hm]; rfl
   have hnb := hn.2
   rw [show o.args.length - k = (o.args.length - (k + 1)) + 1 by omega] at hnb
   simp only [beF] at hnb
   rw [← hbf, show o.args.length - 1 - (o.args.length - (k + 1)) = k by omega, hzm] at hnb
   simp only [nsv, ha] at hnb
   have hnT : n ≤ 1099511627776 := by have := cap_le_top (bh.getD (k + 1) 0 * (so.getD a []).getD m 0); omega
   generalize hbv : bh.getD (k + 1) 0 = bv at *
   have hq : n.tdiv bv = n / bv := Int.tdiv_eq_ediv_of_nonneg hn.1
   have hq0 : 0 ≤ n.tdiv bv := by rw [hq]; exact Int.ediv_nonneg hn.1 (by omega)
   have hq1 : n.tdiv bv ≤ n := by rw [hq]; exact Int.ediv_le_self _ hn.1
   have hr : n.tmod bv = n % bv := Int.tmod_eq_emod_of_nonneg hn.1
   have hr0 : 0 ≤ n.tmod bv := by rw [hr]; exact Int.emod_nonneg _ (by omega)
   have hr1 : n.tmod bv ≤ n := by
    have h1 := Int.emod_add_mul_ediv n bv
    have h2 : 0 ≤ bv * (n / bv) := Int.mul_nonneg (by omega) (by rw [← hq]; exact hq0)
    omega
   have hb0 : ¬ bv = 0 := by omega
   have hcnt : cntOf s a m = (so.getD a []).getD m 0 := by rw [hso]; rfl
   have hql : n.tdiv bv < cntOf s a m := by
    rw [hq, hcnt]
    refine Int.ediv_lt_of_lt_mul (by omega) ?_
    have h1 := cap_le (bv * (so.getD a []).getD m 0)
    have h2 : n < bv * (so.getD a []).getD m 0 := by omega
    rw [Int.mul_comm]
    exact h2
   have hrl : n.tmod bv < bv := by rw [hr]; exact Int.emod_lt_of_pos _ (by omega)
   obtain ⟨p, hp, x, hx, hxw, hxn, hxq⟩ := IH a m (n.tdiv bv) H gl hm1 hmN hq0 hql
   have tp : IsT p := hx.isT (by omega)
   have hga : o.args.getD k 0 = (a : Int) := by rw [List.getD_eq_getElem?_getD, ga]; rfl
   have hnn : n = n.tdiv bv * bv + n.tmod bv := by
    have h1 := Int.emod_add_mul_ediv n bv
    rw [hq, hr, Int.mul_comm]
    omega
   have X' : NthX s o so szs n0 (n.tmod bv) (es ++ [p]) (xs ++ [x]) := X.snoc (q := n.tdiv bv) (b := bv) hx (by rw [hxl, hga]; exact hxw) (by rw [hxl, hzm]; exact hxn) hxq (by rw [hbf, hxl]; congr 1; omega) hnn
   obtain ⟨v', H', ws', ap, A', ⟨kt, hv'⟩, keep', low', hw'⟩ := append_one A tp (by omega) (by have := low.len; omega)
   have hkx' := keep' _ _ _ hkx
   have lv : loadAt false 1 (.ptr kx 0 2 1) H = some v := by rw [ld_at hkx]; rfl
   have fe : fillE 3 (List.replicate 1 (.agg [(.int .i64 0), (.int .i64 0), (.slice 0 [] .nil)])) [(0, p)] = some [p] := by
    obtain ⟨c1, c2, c3, c4⟩ := tp.cells
    simp [fillE, c1, c3]
   subst hv'
   obtain ⟨ups', sv, hups⟩ := st_f2 (ws := []) (ups := ups) (kt := kt) (es := es ++ [p]) hkx'
   have hk1 : k < o.args.length + 1 := by omega
   have hk2 : k + 1 < o.args.length + 1 := by omega
   have lb' : loadAt false 1 (.ptr kb (k + 1) 0 (o.args.length + 1)) (H'.set kx (.row 3 [.agg [.int .i64 2, .int .i64 (i : Int), .slice 3 (es ++ [p]) (.tok kt)]])) = some (.int .i64 bv) := by
    have := ld_v (get_set_ne (o' := .row 3 [.agg [.int .i64 2, .int .i64 (i : Int), .slice 3 (es ++ [p]) (.tok kt)]]) (keep' _ _ _ (keep _ _ _ (Ne.symm hne.2) hkb)) hne.2) hbl hk2
    rw [hbv] at this
    exact this
   simp (disch := first | omega | decide | simp only [go_sem]) only [go_sem, a91b3, e0', e3, e12, e13, e20, e180, e181, e182, hk, gaE, lm, lb, lv, hk1, hk2, hb0, cb hp, hT.prim, primOf, fe, ap, sv, lb']
   refine ⟨d - 1, by omega, k + 1, n.tmod bv, .slice 3 (es ++ [p]) (.tok kt), es ++ [p], _, _, _, by omega, ⟨hr0, by rw [← hbf]; exact hrl⟩, by simp; omega, fun x hx => ?_, ⟨_, X'⟩, A'.set hkx', get_set hkx', fun j sz r hj h => get_set_ne (keep' _ _ _ (keep _ _ _ hj h)) (Ne.symm hj), (low.trans low').trans (.set hlo.2), fun x hx => ?_, fun x hx => ?_, fun j hj => ?_, rfl, rfl, rfl⟩
   · rcases List.mem_append.1 hx with h | h
     · exact hes x h
     · rw [List.mem_singleton.1 h]; exact tp
   · rcases mem_wall hx with h | h
     · rcases mem_wadd h with h | h
       · rw [h]; exact hlo.2
       · cases h
     · rcases mem_wall h with h | h
       · exact hw' x h
       · exact hw x h
   · rcases hups x hx with h | h
     · exact hu x h
     · rw [h]; exact hlo.2
   · have h1 := hs j hj
     simp only [not_or, Nat.not_le] at hj
     simp (disch := omega) only [eget_eput_ne]
     exact h1
 · simp (disch := first | omega | decide | simp only [go_sem]) only [go_sem, a91b3, e0', e3, e12, e13, e20, e180, e181, e182, hk]
   have hn0' : n = 0 := by
    have h := hn.2
    rw [show o.args.length - k = 0 by omega] at h
    simp only [beF] at h
    omega
   subst hn0'
   refine hQ _ v es H ws ups (fun j hj => ?_) (by omega) hes ⟨xs, X, by rw [← X.len]; omega⟩ A hkx keep low hw hu
   have h1 := hs j hj
   simp only [not_or, Nat.not_le] at hj
   simp (disch := omega) only [eget_eput_ne]
   exact h1
end Go.Proofs.Tryz
