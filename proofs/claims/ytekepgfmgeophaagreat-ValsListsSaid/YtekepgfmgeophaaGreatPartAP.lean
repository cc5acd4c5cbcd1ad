/- Texts of the proof, one behind the other: ValIter, ValT0, ValS2, ValS3, ValFnsL, ValTab, ValL1, ValL2, ValL3, ValL4, ValL5, ValL6, ValL7, ValL8, ValL9, ValL10, ValL12, ValL13, ValL14. -/
import Derived.Test.YtekepgfmgeophaaGreatPartAI
import Derived.Test.YtekepgfmgeophaaGreatPartAO
import Derived.KernelRfl
import Derived.Test.YtekepgfmgeophaaGreatPartAJ
import Derived.Test.YtekepgfmgeophaaGreatPartAN
import Derived.Test.YtekepgfmgeophaaGreatPartAL
set_option linter.unusedVariables false
set_option linter.unusedSimpArgs false
/- The table's specials: slices.Clone, guarded; the iterator of assignments at the lists of the chapter's example. -/
namespace Go.Proofs.Tryz
open Go Go.AE

theorem mixed : Tryz.prog.follows .mixedOrders = true := by kernel_rfl
def i64 (n : Int) : PV := .int .i64 n
def sl (sz : Nat) (l : List PV) : PV := .slice sz l .any
def tm (n : Int) (l : List PV) : PV := .agg [i64 2, i64 n, sl 3 l]
def zT : PV := .agg [i64 2, i64 0, sl 0 []]
def oneT : PV := tm 1 [zT]
def domL : PV := sl 3 [zT, oneT]
/-- The iterator over no list, over one, over two. -/
def yss0 : Yss := [[sl 0 []]]
def yss1 : Yss := [[sl 3 [zT]], [sl 3 [oneT]]]
def yss2 : Yss := [[sl 3 [zT, zT]], [sl 3 [zT, oneT]], [sl 3 [oneT, zT]], [sl 3 [oneT, oneT]]]
noncomputable def af182 : AFunc := (compFn Tryz.prog [] Tryz.f182).getD ⟨0, 0, .bad, []⟩
theorem comp182 : compFn Tryz.prog [] Tryz.f182 = some af182 := by kernel_rfl
def caller0 : FuncId → List PV → List AE.Obj → Option CallRes := fun _ _ _ => none
theorem caller0_ok {P : Program} : CallOK P caller0 := fun _ _ _ _ _ h => by cases h
theorem caller0_step : CallStep caller0 := fun _ _ _ _ _ h => by cases h
theorem sem182 {captured : List PV} {yss : Yss} (hp : pures captured = true) (h : ∀ (l : Nat) (stop : Option Nat), yBody noTbl caller0 (fun i => decide (stop ≠ some i)) 30 af182 (.func (.yield l) [] [] :: weaks captured) = some ((upTo stop yss).map fun ys => (l, ys))) : IterSem Tryz.prog 182 captured yss :=
  iterSem_of (T := noTbl) mixed (fun _ _ h => by cases h) Tryz.func182 (by decide) comp182 hp fun l stop => ⟨caller0, 30, caller0_ok, caller0_step, h l stop⟩
theorem sem0 : IterSem Tryz.prog 182 [.iptr (sl 0 []) 0] yss0 := sem182 rfl fun l stop => match stop with
  | none => by kernel_rfl
  | some 0 => by kernel_rfl
  | some (k + 1) => by kernel_rfl
theorem sem1 : IterSem Tryz.prog 182 [.iptr (sl 1 [domL]) 0] yss1 := sem182 rfl fun l stop => match stop with
  | none => by kernel_rfl
  | some 0 => by kernel_rfl
  | some 1 => by kernel_rfl
  | some (k + 2) => by kernel_rfl
theorem sem2 : IterSem Tryz.prog 182 [.iptr (sl 1 [domL, domL]) 0] yss2 := sem182 rfl fun l stop => match stop with
  | none => by kernel_rfl
  | some 0 => by kernel_rfl
  | some 1 => by kernel_rfl
  | some 2 => by kernel_rfl
  | some 3 => by kernel_rfl
  | some (k + 4) => by kernel_rfl
def itNat (captured : List PV) : Option (List (List PV)) :=
  if peqs captured [.iptr (sl 0 []) 0] then some yss0 else if peqs captured [.iptr (sl 1 [domL]) 0] then some yss1 else if peqs captured [.iptr (sl 1 [domL, domL]) 0] then some yss2 else none

/-! ### slices.Clone -/
noncomputable def af54 : AFunc := (compFn Tryz.prog [] Tryz.f54).getD ⟨0, 0, .bad, []⟩
theorem comp54 : compFn Tryz.prog [] Tryz.f54 = some af54 := by kernel_rfl
noncomputable def af55 : AFunc := (compFn Tryz.prog [] Tryz.f55).getD ⟨0, 0, .bad, []⟩
theorem comp55 : compFn Tryz.prog [] Tryz.f55 = some af55 := by kernel_rfl
noncomputable def af75 : AFunc := (compFn Tryz.prog [] Tryz.f75).getD ⟨0, 0, .bad, []⟩
theorem comp75 : compFn Tryz.prog [] Tryz.f75 = some af75 := by kernel_rfl
noncomputable def af208 : AFunc := (compFn Tryz.prog [] Tryz.f208).getD ⟨0, 0, .bad, []⟩
theorem comp208 : compFn Tryz.prog [] Tryz.f208 = some af208 := by kernel_rfl
theorem clone_ok {f : Nat} {fn : Func} {af : AFunc} (hf : Tryz.prog.funcs[f]? = some fn) (hn : (fn.name == "runtime.NumGoroutine") = false) (hcomp : compFn Tryz.prog [] fn = some af)
    (h0 : ∀ call sz h, ∃ z, evBody noTbl call 1 1 af [.slice sz [] .nil] h = some (.val (.slice z [] .nil), { h, ws := [], ups := [] }))
    (h1 : ∀ call sz h, ∃ z, evBody noTbl call 1 1 af [.slice sz [] .nonnil] h = some (.val (.slice z [] .lit), { h, ws := [], ups := [] })) : SpOK Tryz.prog f (cloneSp af) :=
  ⟨fun _ hS _ _ _ _ h => by
    unfold cloneSp at h
    split at h
    · cases h; exact .refl _
    · exact evBody_step hS h, fun _ hS hC _ _ _ _ h => (cloneSp_ok mixed hf hn hcomp h0 h1 hS hC h).2⟩
theorem clone54 : SpOK Tryz.prog 54 (cloneSp af54) := clone_ok Tryz.func54 (by decide) comp54 (fun call sz h => ⟨0, by kernel_rfl⟩) (fun call sz h => ⟨1, by kernel_rfl⟩)
theorem clone55 : SpOK Tryz.prog 55 (cloneSp af55) := clone_ok Tryz.func55 (by decide) comp55 (fun call sz h => ⟨0, by kernel_rfl⟩) (fun call sz h => ⟨3, by kernel_rfl⟩)
theorem clone75 : SpOK Tryz.prog 75 (cloneSp af75) := clone_ok Tryz.func75 (by decide) comp75 (fun call sz h => ⟨0, by kernel_rfl⟩) (fun call sz h => ⟨6, by kernel_rfl⟩)
theorem clone208 : SpOK Tryz.prog 208 (cloneSp af208) := clone_ok Tryz.func208 (by decide) comp208 (fun call sz h => ⟨0, by kernel_rfl⟩) (fun call sz h => ⟨1, by kernel_rfl⟩)
theorem guard189 : SpOK Tryz.prog 189 (AE'.guardedSp 260 2) := ⟨fun _ hS _ _ _ _ h => AE'.guardedSp_step hS h, fun _ hS hC _ _ _ _ h => AE'.guardedSp_ok hS hC h⟩
end Go.Proofs.Tryz
/- The table, and that it is the program's. -/
namespace Go.Proofs.Tryz
open Go Go.AE

noncomputable def spOf : Nat → Option SpFn := fun f =>
  if f = 54 then some (cloneSp af54) else if f = 55 then some (cloneSp af55) else if f = 75 then some (cloneSp af75) else if f = 208 then some (cloneSp af208) else if f = 189 then some (AE'.guardedSp 260 2) else none
noncomputable def T0 : Tbl := { fn := fnOf, prim := primOf, sp := spOf, mode := fun f => if f = 178 then 1 else if f = 138 then 1 else 0, iter := fun f => if f = 182 then some itNat else none }
theorem prim247 : PrimOK Tryz.prog 247 .countString := ⟨Tryz.f247, Tryz.func247, by decide, rfl, by kernel_rfl, by kernel_rfl⟩
theorem prim272 : PrimOK Tryz.prog 272 .indexByteString := ⟨Tryz.f272, Tryz.func272, by decide, rfl, by kernel_rfl, by kernel_rfl⟩
theorem sp_ok {f : FuncId} {sp : SpFn} (h : spOf f = some sp) : SpOK Tryz.prog f sp := by
  unfold spOf at h
  split at h
  · rename_i e; cases e; cases h; exact clone54
  split at h
  · rename_i e; cases e; cases h; exact clone55
  split at h
  · rename_i e; cases e; cases h; exact clone75
  split at h
  · rename_i e; cases e; cases h; exact clone208
  split at h
  · rename_i e; cases e; cases h; exact guard189
  · cases h
theorem T0_fn : T0.fn = fnOf := by unfold T0; with_reducible rfl
theorem T0_prim : T0.prim = primOf := by unfold T0; with_reducible rfl
theorem T0_sp : T0.sp = spOf := by unfold T0; with_reducible rfl
theorem fnOf_ok {f : FuncId} {af : AFunc} (h : fnOf f = some af) : ∃ fn rows, Tryz.prog.funcs[f]? = some fn ∧ compFn Tryz.prog rows fn = some af ∧ (fn.name == "runtime.NumGoroutine") = false := by
  unfold fnOf at h
  revert h
  generalize Tryz.prog = P
  intro h
  split at h
  · rename_i fn hf
    split at h
    · rename_i hn
      exact ⟨fn, [], hf, h, hn⟩
    · cases h
  · cases h
theorem T0_ok : TblOK Tryz.prog T0 where
  mixed := mixed
  prim f p h := by
    rw [T0_prim] at h
    unfold primOf at h
    split at h
    · rename_i e; cases e; cases h; exact prim247
    split at h
    · rename_i e; cases e; cases h; exact prim272
    · cases h
  iter f it h captured yss hc := by
    have h : (if f = 182 then some itNat else none) = some it := h
    split at h
    · rename_i e
      cases e; cases h
      unfold itNat at hc
      split at hc
      · rename_i e; cases hc; rw [peqs_sound e]; exact sem0
      split at hc
      · rename_i e; cases hc; rw [peqs_sound e]; exact sem1
      split at hc
      · rename_i e; cases hc; rw [peqs_sound e]; exact sem2
      · cases hc
    · cases h
  fn f af h := fnOf_ok (by rw [← T0_fn]; exact h)
  step f sp h := (sp_ok (by rw [← T0_sp]; exact h)).step
  sp f sp h := (sp_ok (by rw [← T0_sp]; exact h)).sp
theorem T0_std : Std T0 where
  sp f h := by
    have h2 : f ≠ 54 ∧ f ≠ 55 ∧ f ≠ 75 ∧ f ≠ 208 ∧ f ≠ 189 ∧ f ≠ 15 ∧ f ≠ 87 ∧ f ≠ 91 := by simpa [spList] using h
    rw [T0_sp]
    unfold spOf
    rw [if_neg h2.1, if_neg h2.2.1, if_neg h2.2.2.1, if_neg h2.2.2.2.1, if_neg h2.2.2.2.2.1]
  fn f := by rw [T0_fn]
  prim := T0_prim
  mode f := rfl
end Go.Proofs.Tryz
/- sig.key: total. -/
namespace Go.Proofs.Tryz
open Go Go.AE
variable {T : Tbl} (hT : Std T)

def a208 : AFunc := ⟨1, 8, (.seq (.reg [
    ⟨(some 2), .move (.c (.slice 0 [] .nil)), none, false, 0, 0, false⟩])
  (.seq (.seq (.reg [
    ⟨(some 3), .move (.t 0), none, false, 0, 0, false⟩,
    ⟨(some 4), .eq false .slice (.t 3) (.c (.slice 0 [] .nil)), none, false, 0, 0, false⟩])
  (.cond (.t 4)
  (.seq (.reg [
    ⟨(some 2), .move (.c (.slice 0 [] .nil)), none, false, 0, 0, false⟩])
  .ret)
  .skip))
  (.seq (.reg [
    ⟨(some 5), .buildSlice 1 (.int .i64 0) 0 [], none, false, 0, 0, false⟩,
    ⟨(some 6), .move (.t 0), none, false, 0, 0, false⟩,
    ⟨(some 7), .append 1 8 (.t 5) (.t 6), none, true, 0, 0, false⟩,
    ⟨(some 2), .move (.t 7), none, false, 0, 0, false⟩])
  .ret))), [.t 2]⟩

theorem af208_eq : af208 = a208 := by kernel_rfl
theorem clone_ev (hC : T.sp 208 = some (cloneSp af208)) {x : Int} {l : List Int} (hl : l.length < 900) (h : List AE.Obj) : Ev T 208 [.slice 1 ((x :: l).map encI) .any] h (.val (.slice 1 ((x :: l).map encI) (.tok h.length)), ⟨h ++ [.tok 1 (l.length + 1)], [], []⟩) := by
  have hroom : (l.length + 1) * 8 ≤ room ∧ l.length + 1 ≤ room := by
    have : 100000 ≤ room := by decide
    constructor <;> omega
  have hc : ∀ y ∈ l, (encI y).cells.all PV.isCell = true := fun _ _ => rfl
  refine ⟨1, fun n hn => ?_⟩
  obtain ⟨n, rfl⟩ : ∃ k, n = k + 1 := ⟨n - 1, by omega⟩
  simp only [evCall, hC, cloneSp, List.map_cons, af208_eq]
  simp [evBody, a208, evCode, evOps, evOp, wantedA, putD, eput, eget, ax, eqop, isNil, fillE, appendop, elems, hroom, PV.cells, PV.isCell, encI, alloc, oval, resv, tupled, tidy, below]
theorem wall_low {n : Nat} : ∀ {a b : List Nat}, (∀ k ∈ a, n ≤ k) → (∀ k ∈ b, n ≤ k) → ∀ k ∈ wall a b, n ≤ k
  | [], b, _, hb => hb
  | x :: a, b, ha, hb => wadd_low (ha x (by simp)) (wall_low (a := a) (fun k hk => ha k (by simp [hk])) hb)
/-- A list of bytes. -/
def okBytes (bs : List PV) : Prop := ∀ b ∈ bs, ∃ u : Nat, u < 256 ∧ b = .int .u8 (u : Int)
theorem unbytes_ok : ∀ {bs : List PV}, okBytes bs → ∃ l, unbytes bs = some l
  | [], _ => ⟨[], rfl⟩
  | b :: bs, h => by
    obtain ⟨u, hu, rfl⟩ := h b (by simp)
    obtain ⟨l, hl⟩ := unbytes_ok (bs := bs) fun x hx => h x (by simp [hx])
    have h1 : (0 : Int) ≤ (u : Int) ∧ (u : Int) < 256 := ⟨by omega, by omega⟩
    refine ⟨UInt8.ofNat ((u : Int).toNat) :: l, ?_⟩
    simp only [unbytes, unbyte, h1, and_self, if_true, hl]
theorem bytesPV_ok (t : ByteArray) : okBytes (bytesPV t) ∧ (bytesPV t).length = t.size := by
  refine ⟨fun b hb => ?_, by simp [bytesPV]⟩
  obtain ⟨u, _, rfl⟩ := List.mem_map.1 hb
  exact ⟨u.toNat, u.toNat_lt, rfl⟩
theorem wrap_u8 (n : Int) : ∃ u : Nat, u < 256 ∧ IntKind.u8.wrap n = (u : Int) := by
  have h1 : IntKind.u8.wrap n = n % 256 := by rfl
  exact ⟨(n % 256).toNat, by omega, by rw [h1]; omega⟩
theorem key_loop {h0 H : List AE.Obj} {L : List Int} {m : SM} {kb : Nat} {bs : List PV} {ws : List Nat} {e : List PV} {Q : AExit → List PV → St → Prop} (hL : L.length < 1000) (hkb : h0.length ≤ kb) (low : Low h0.length h0 H) (hk : H[kb]? = some (.tok 1 bs.length)) (ok : okBytes bs) (hb : bs.length < 2000)
    (hw : ∀ k ∈ ws, h0.length ≤ k) (e3 : eget e 3 = .slice 1 bs (.tok kb)) (e16 : eget e 16 = .slice 1 (L.map encI) m) (e17 : eget e 17 = .int .i64 (L.length : Int)) (e18 : eget e 18 = .int .i64 0)
    (hQ : ∀ H' ws' bs' e', Low h0.length h0 H' → okBytes bs' → (∀ k ∈ ws', h0.length ≤ k) → eget e' 3 = .slice 1 bs' (.tok kb) → Q (.exit 0) e' ⟨H', ws', []⟩) : wpC T (.loop a164b0) e ⟨H, ws, []⟩ Q := by
  refine wpC.loopM (fun n e st => ∃ (i : Nat) (H : List AE.Obj) (ws : List Nat) (bs : List PV), i + n = L.length ∧ Low h0.length h0 H ∧ H[kb]? = some (.tok 1 bs.length) ∧ okBytes bs ∧ bs.length < 2000 + i ∧ (∀ k ∈ ws, h0.length ≤ k) ∧ eget e 3 = .slice 1 bs (.tok kb) ∧ eget e 16 = .slice 1 (L.map encI) m ∧ eget e 17 = .int .i64 (L.length : Int) ∧ eget e 18 = .int .i64 (i : Int) ∧ st = ⟨H, ws, []⟩) ?_ L.length _ _ ⟨0, H, ws, bs, by omega, low, hk, ok, by omega, hw, e3, e16, e17, e18, rfl⟩
  rintro n e st ⟨i, H, ws, bs, hi, low, hk, ok, hb, hw, e3, e16, e17, e18, rfl⟩
  by_cases h1 : i < L.length
  · have ga := get_enc h1
    obtain ⟨u, hu, hu2⟩ := wrap_u8 L[i]
    have hroom : (bs.length + 1) * 1 ≤ room ∧ bs.length + 1 ≤ room := by
      have : 100000 ≤ room := by decide
      constructor <;> omega
    have fe : fillE 1 (List.replicate 1 (PV.int .u8 0)) [(0, .int .u8 (u : Int))] = some [.int .u8 (u : Int)] := rfl
    have fa : appendop 1 1 (.slice 1 bs (.tok kb)) (.slice 1 [.int .u8 (u : Int)] .lit) ⟨H, ws, []⟩ = some (.slice 1 (bs ++ [.int .u8 (u : Int)]) (.tok kb), ⟨H.set kb (.tok 1 (bs.length + 1)), wadd kb ws, []⟩) := by
      simp [appendop, elems, hk, PV.cells, PV.isCell, hroom, wrote_none]
    simp (disch := first | omega | decide | (simp only [eget_eput', ↓reduceIte, Nat.reduceEqDiff]; done)) only [go_sem, ↓reduceIte, Nat.reduceEqDiff, Nat.reduceAdd, Nat.reduceMul, reduceCtorEq, a164b0, e3, e16, e17, e18, h1, ga, hu2, fe, fa]
    refine ⟨n - 1, by omega, i + 1, _, _, _, by omega, low.trans (.set hkb), by rw [get_set hk]; simp, fun b hb' => ?_, by simp; omega, wadd_low hkb hw, rfl, rfl, rfl⟩
    rcases List.mem_append.1 hb' with h | h
    · exact ok b h
    · rw [List.mem_singleton.1 h]; exact ⟨u, hu, rfl⟩
  · simp (disch := first | omega | decide | (simp only [eget_eput', ↓reduceIte, Nat.reduceEqDiff]; done)) only [go_sem, ↓reduceIte, Nat.reduceEqDiff, Nat.reduceAdd, Nat.reduceMul, reduceCtorEq, a164b0, e3, e16, e17, e18, h1]
    exact hQ _ _ _ _ low ok hw (by simp (disch := first | omega | decide | (simp only [eget_eput', ↓reduceIte, Nat.reduceEqDiff]; done)) only [go_sem, ↓reduceIte, Nat.reduceEqDiff, Nat.reduceAdd, Nat.reduceMul, reduceCtorEq, e3])
include hT in
theorem key_tot (hC : T.sp 208 = some (cloneSp af208)) {o : GOp} (ho : o.name.size < 1000 ∧ o.args.length < 900) (h : List AE.Obj) : ∃ t, Ev T 164 [encOp o] h (.val (.str t), ⟨h, [], []⟩) ∧ True := by
  refine Ev.walkP (hT.sp _ (by decide)) ((hT.fn _).trans fn164) (hT.mode _) rfl ?_
  have hts : (o.name ++ ByteArray.mk #[40]).size = o.name.size + 1 := by simp; rfl
  have hts2 : (ByteArray.mk #[40]).size = 1 := rfl
  have hroom : o.name.size + 1 ≤ room := by
    have : 100000 ≤ room := by decide
    omega
  generalize ht : o.name ++ ByteArray.mk #[40] = t at hts
  obtain ⟨okb, hbl⟩ := bytesPV_ok t
  have htr : t.size ≤ room := by omega
  have hsum : o.name.size + (ByteArray.mk #[40]).size ≤ 9223372036854775807 := by rw [hts2]; omega
  have fe : fillE 1 (List.replicate 1 (PV.int .i64 0)) [(0, .int .i64 o.res)] = some [.int .i64 o.res] := rfl
  generalize hkb : (h ++ [AE.Obj.row 3 [encOp o]]).length = kb
  generalize hH1 : ((h ++ [AE.Obj.row 3 [encOp o]]) ++ [AE.Obj.tok 1 t.size]) = H1
  have low1 : Low h.length h H1 := by
    rw [← hH1]
    exact ((Low.refl _ _).push (Nat.le_refl _)).push (by simp)
  have g0 : H1[h.length]? = some (.row 3 [encOp o]) := by rw [← hH1]; simp
  have gb : H1[kb]? = some (.tok 1 t.size) := by rw [← hH1, ← hkb]; simp
  have hlb : h.length ≤ kb := by rw [← hkb]; simp
  have hl1 : kb < H1.length := (List.getElem?_eq_some_iff.1 gb).1
  have keep : ∀ {k : Nat} {ob o2 : AE.Obj}, H1[k]? = some ob → (H1 ++ [o2])[k]? = some ob := fun hx => by
    rw [List.getElem?_append_left (List.getElem?_eq_some_iff.1 hx).1]; exact hx
  have hroom2 : (o.args.length + 1) * 8 ≤ room ∧ o.args.length + 1 ≤ room := by
    have : 100000 ≤ room := by decide
    constructor <;> omega
  have cl : ∃ v H2 m3 H3 ws3, Ev T 208 [.slice 1 (o.args.map encI) .any] H1 (.val v, ⟨H2, [], []⟩) ∧ refl1 v = [] ∧ H2[h.length]? = some (.row 3 [encOp o]) ∧ appendop 1 8 v (.slice 1 [.int .i64 o.res] .lit) ⟨H2, [], []⟩ = some (.slice 1 ((o.args ++ [o.res]).map encI) m3, ⟨H3, ws3, []⟩) ∧ Low h.length h H3 ∧ H3[kb]? = some (.tok 1 t.size) ∧ ∀ k ∈ ws3, h.length ≤ k := by
    cases ha : o.args with
    | nil =>
      refine ⟨.slice 1 [] .full, H1, .tok H1.length, H1 ++ [.tok 1 1], [], ⟨1, fun n hn => ?_⟩, rfl, g0, ?_, low1.push (by omega), keep gb, by simp⟩
      · obtain ⟨n, rfl⟩ : ∃ k, n = k + 1 := ⟨n - 1, by omega⟩
        simp only [evCall, hC, cloneSp, List.map_nil]
      · rw [ha] at hroom2
        simp at hroom2
        simp [appendop, elems, hroom2, PV.cells, PV.isCell, alloc, encI]
    | cons x l =>
      rw [ha] at hroom2
      refine ⟨_, H1 ++ [.tok 1 (l.length + 1)], .tok H1.length, (H1 ++ [AE.Obj.tok 1 (l.length + 1)]).set H1.length (AE.Obj.tok 1 (l.length + 2)), wadd H1.length [], clone_ev hC (by rw [ha] at ho; simp at ho; omega) H1, rfl, keep g0, ?_, (low1.push (by omega)).trans (.set (by omega)), get_set_ne (keep gb) (by omega), wadd_low (by omega) (by simp)⟩
      simp at hroom2
      have e1 : (H1 ++ [AE.Obj.tok 1 (l.length + 1)])[H1.length]? = some (.tok 1 (l.length + 1)) := by simp
      simp [appendop, elems, hroom2, PV.cells, PV.isCell, e1, wrote_none, encI]
  obtain ⟨v, H2, m3, H3, ws3, c1, c2, c3, c4, c5, c6, c7⟩ := cl
  have l1 : loadAt false 1 (.ptr h.length 0 1 1) H1 = some (.slice 1 (o.args.map encI) .any) := by rw [ld_at g0]; rfl
  have l2 : loadAt false 1 (.ptr h.length 0 2 1) H2 = some (.int .i64 o.res) := by rw [ld_at c3]; rfl
  simp (disch := first | omega | decide | (simp only [eget_eput', ↓reduceIte, Nat.reduceEqDiff]; done)) only [go_sem, ↓reduceIte, Nat.reduceEqDiff, Nat.reduceAdd, Nat.reduceMul, reduceCtorEq, ht, htr, hsum, fe, hkb, hH1, hT.prim, primOf, cb c1, c2, l1, l2, c4]
  refine key_loop (L := o.args ++ [o.res]) (m := m3) (kb := kb) (h0 := h) (by simp; omega) hlb c5 (by rw [hbl]; exact c6) okb (by omega) (wall_low c7 (by simp)) (by simp (disch := first | omega | decide | (simp only [eget_eput', ↓reduceIte, Nat.reduceEqDiff]; done)) only [go_sem, ↓reduceIte, Nat.reduceEqDiff, Nat.reduceAdd, Nat.reduceMul, reduceCtorEq, hkb]) (by simp (disch := first | omega | decide | (simp only [eget_eput', ↓reduceIte, Nat.reduceEqDiff]; done)) only [go_sem, ↓reduceIte, Nat.reduceEqDiff, Nat.reduceAdd, Nat.reduceMul, reduceCtorEq]) (by simp (disch := first | omega | decide | (simp only [eget_eput', ↓reduceIte, Nat.reduceEqDiff]; done)) only [go_sem, ↓reduceIte, Nat.reduceEqDiff, Nat.reduceAdd, Nat.reduceMul, reduceCtorEq]) (by simp (disch := first | omega | decide | (simp only [eget_eput', ↓reduceIte, Nat.reduceEqDiff]; done)) only [go_sem, ↓reduceIte, Nat.reduceEqDiff, Nat.reduceAdd, Nat.reduceMul, reduceCtorEq]) fun H' ws' bs' e' low' ok' hw' e3 => ?_
  obtain ⟨l, hl⟩ := unbytes_ok ok'
  have hsv : strofv (.slice 1 bs' (.tok kb)) H' = some (.str ⟨l.toArray⟩) := by simp [strofv, elems, hl]
  simp (disch := first | omega | decide | (simp only [eget_eput', ↓reduceIte, Nat.reduceEqDiff]; done)) only [go_sem, ↓reduceIte, Nat.reduceEqDiff, Nat.reduceAdd, Nat.reduceMul, reduceCtorEq, e3, hsv]
  exact ⟨_, tidy_low rfl rfl low' hw', trivial⟩
end Go.Proofs.Tryz
/- sig.Check: total; what it accepts has its sorts in range. -/
namespace Go.Proofs.Tryz
open Go Go.AE
variable {T : Tbl} (hT : Std T)

/-- A set of texts. -/
def okMap (es : List (PV × PV)) : Prop := ∀ p ∈ es, ∃ n, p = (.str n, .bool true)
theorem find_ok {n : ByteArray} : ∀ {es : List (PV × PV)}, okMap es → ∃ b, lookupv .str (.bool false) false (.map (some 0)) (.str n) [.map es] = some (.bool b)
  | [], _ => ⟨false, rfl⟩
  | p :: es, h => by
    obtain ⟨m, rfl⟩ := h p (by simp)
    obtain ⟨b, hb⟩ := find_ok (n := n) (es := es) fun q hq => h q (by simp [hq])
    simp only [lookupv, List.getElem?_cons_zero, isKey, if_true] at hb ⊢
    simp only [findK, sameKey]
    cases hnm : (n == m)
    · exact ⟨b, hb⟩
    · exact ⟨true, rfl⟩
theorem lookup_ok {n : ByteArray} {es : List (PV × PV)} {H : List AE.Obj} {k : Nat} (hk : H[k]? = some (.map es)) (ok : okMap es) : ∃ b, lookupv .str (.bool false) false (.map (some k)) (.str n) H = some (.bool b) := by
  obtain ⟨b, hb⟩ := find_ok (n := n) ok
  refine ⟨b, ?_⟩
  simp only [lookupv, hk]
  simpa only [lookupv, List.getElem?_cons_zero] using hb
theorem put_ok {n : ByteArray} : ∀ {es : List (PV × PV)}, okMap es → ∃ es', putK (.str n) (.bool true) es = some es' ∧ okMap es'
  | [], _ => ⟨[(.str n, .bool true)], rfl, fun p hp => ⟨n, List.mem_singleton.1 hp⟩⟩
  | p :: es, h => by
    obtain ⟨m, rfl⟩ := h p (by simp)
    have h2 : okMap es := fun q hq => h q (by simp [hq])
    obtain ⟨es', he, ok⟩ := put_ok (n := n) h2
    simp only [putK, sameKey]
    cases hnm : (n == m)
    · refine ⟨_, by rw [he]; rfl, fun q hq => ?_⟩
      rcases List.mem_cons.1 hq with rfl | hq
      · exact ⟨m, rfl⟩
      · exact ok q hq
    · refine ⟨_, rfl, fun q hq => ?_⟩
      rcases List.mem_cons.1 hq with rfl | hq
      · exact ⟨n, rfl⟩
      · exact h2 q hq
theorem upd_ok {n : ByteArray} {es : List (PV × PV)} {H : List AE.Obj} {k : Nat} {ws : List Nat} (hk : H[k]? = some (.map es)) (ok : okMap es) : ∃ es', mapupdv .str (.map (some k)) (.str n) (.bool true) ⟨H, ws, []⟩ = some ⟨H.set k (.map es'), wadd k ws, []⟩ ∧ okMap es' := by
  obtain ⟨es', he, ok'⟩ := put_ok (n := n) ok
  exact ⟨es', by simp only [mapupdv, hk, isKey, if_true, he, Option.map, PV.top, wrote_none], ok'⟩

include hT in
theorem check_b0 {s : GSig} (hs : Fits s) {h H : List AE.Obj} {k1 : Nat} {es : List (PV × PV)} {ws : List Nat} {e : List PV} {Q : AExit → List PV → St → Prop} (low : Low h.length h H) (hb : H[h.length]? = some (.row 2 [encSig s])) (hk1 : h.length < k1) (hm : H[k1]? = some (.map es)) (ok : okMap es) (hw : ∀ k ∈ ws, h.length ≤ k)
    (e1 : eget e 1 = .ptr h.length 0 0 1) (e3 : eget e 3 = .map (some k1)) (e21 : eget e 21 = .slice 1 (s.sorts.map .str) .any) (e22 : eget e 22 = .int .i64 (s.sorts.length : Int)) (e23 : eget e 23 = .int .i64 0)
    (q1 : ∀ H' ws' e', Low h.length h H' → (∀ k ∈ ws', h.length ≤ k) → eget e' 2 = .int .i64 40 → Q .ret e' ⟨H', ws', []⟩)
    (q2 : ∀ H' ws' e', Low h.length h H' → H'[h.length]? = some (.row 2 [encSig s]) → (∀ k ∈ ws', h.length ≤ k) → eget e' 1 = .ptr h.length 0 0 1 → Q (.exit 0) e' ⟨H', ws', []⟩) : wpC T (.loop a87b0) e ⟨H, ws, []⟩ Q := by
  have hs1 := hs.nS
  refine wpC.loopM (fun n e st => ∃ (i : Nat) (H : List AE.Obj) (ws : List Nat) (es : List (PV × PV)), i + n = s.sorts.length ∧ Low h.length h H ∧ H[h.length]? = some (.row 2 [encSig s]) ∧ H[k1]? = some (.map es) ∧ okMap es ∧ (∀ k ∈ ws, h.length ≤ k) ∧ eget e 1 = .ptr h.length 0 0 1 ∧ eget e 3 = .map (some k1) ∧ eget e 21 = .slice 1 (s.sorts.map .str) .any ∧ eget e 22 = .int .i64 (s.sorts.length : Int) ∧ eget e 23 = .int .i64 (i : Int) ∧ st = ⟨H, ws, []⟩) ?_ s.sorts.length _ _
    ⟨0, H, ws, es, by omega, low, hb, hm, ok, hw, e1, e3, e21, e22, e23, rfl⟩
  rintro n e st ⟨i, H, ws, es, hi, low, hb, hm, ok, hw, e1, e3, e21, e22, e23, rfl⟩
  by_cases h1 : i < s.sorts.length
  · have ga := get_str h1
    obtain ⟨b, hb1, _⟩ := name_tot hT s.sorts[i] H
    obtain ⟨c, hc1, _⟩ := contains_tot hT s.sorts[i] H
    obtain ⟨d, hd⟩ := lookup_ok (n := s.sorts[i]) hm ok
    obtain ⟨es', he, ok'⟩ := upd_ok (n := s.sorts[i]) (ws := ws) hm ok
    simp (disch := first | omega | decide | (simp only [eget_eput', ↓reduceIte, Nat.reduceEqDiff]; done)) only [go_sem, ↓reduceIte, Nat.reduceEqDiff, Nat.reduceAdd, Nat.reduceMul, reduceCtorEq, a87b0, e1, e3, e21, e22, e23, h1, ga, cb hb1, cb hc1, hd, he, hT.prim, primOf]
    repeat' first | exact q1 _ _ _ low hw (by simp (disch := first | omega | decide | (simp only [eget_eput', ↓reduceIte, Nat.reduceEqDiff]; done)) only [go_sem, ↓reduceIte, Nat.reduceEqDiff, Nat.reduceAdd, Nat.reduceMul, reduceCtorEq]) | refine bifs (fun _ => ?_) (fun _ => ?_)
    exact ⟨n - 1, by omega, i + 1, _, _, es', by omega, low.trans (.set (by omega)), get_set_ne hb (by omega), get_set hm, ok', wadd_low (by omega) hw, rfl, rfl⟩
  · simp (disch := first | omega | decide | (simp only [eget_eput', ↓reduceIte, Nat.reduceEqDiff]; done)) only [go_sem, ↓reduceIte, Nat.reduceEqDiff, Nat.reduceAdd, Nat.reduceMul, reduceCtorEq, a87b0, e1, e3, e21, e22, e23, h1]
    exact q2 _ _ _ low hb hw (by simp (disch := first | omega | decide | (simp only [eget_eput', ↓reduceIte, Nat.reduceEqDiff]; done)) only [go_sem, ↓reduceIte, Nat.reduceEqDiff, Nat.reduceAdd, Nat.reduceMul, reduceCtorEq, e1])
theorem tops_ints : ∀ l : List Int, tops (l.map encI) = none
  | [] => rfl
  | x :: l => by simp [tops, encI, PV.top, omax]; exact tops_ints l
theorem top_op (o : GOp) : (encOp o).top = none := by
  simp only [encOp, PV.top, tops, omax, tops_ints]
/-- What holds of an operation that fits. -/
def okOp1 (o : GOp) (nS : Nat) : Prop := okArgs o.args nS ∧ (0 ≤ o.res ∧ o.res < (nS : Int)) ∧ o.args.length < 900
include hT in
theorem check_b1 (hC : T.sp 208 = some (cloneSp af208)) {s : GSig} (hs : Fits s) {h H : List AE.Obj} {k2 : Nat} {ws : List Nat} {e : List PV} {Q : AExit → List PV → St → Prop} (low : Low h.length h H) (hb : H[h.length]? = some (.row 2 [encSig s])) (hk2 : h.length < k2) (hm : H[k2]? = some (.map [])) (hw : ∀ k ∈ ws, h.length ≤ k)
    (e1 : eget e 1 = .ptr h.length 0 0 1) (e6 : eget e 6 = .map (some k2)) (e44 : eget e 44 = .slice 3 (s.ops.map encOp) .any) (e45 : eget e 45 = .int .i64 (s.ops.length : Int)) (e46 : eget e 46 = .int .i64 0)
    (q1 : ∀ H' ws' e', Low h.length h H' → (∀ k ∈ ws', h.length ≤ k) → eget e' 2 = .int .i64 40 → Q .ret e' ⟨H', ws', []⟩)
    (q2 : okOps s.ops s.sorts.length → ∀ H' ws' e', Low h.length h H' → (∀ k ∈ ws', h.length ≤ k) → Q (.exit 2) e' ⟨H', ws', []⟩) : wpC T (.loop a87b1) e ⟨H, ws, []⟩ Q := by
  have hs1 := hs.nS
  have hs2 := hs.nO
  refine wpC.loopM (fun n e st => ∃ (i : Nat) (H : List AE.Obj) (ws : List Nat) (es : List (PV × PV)), i + n = s.ops.length ∧ Low h.length h H ∧ H[h.length]? = some (.row 2 [encSig s]) ∧ H[k2]? = some (.map es) ∧ okMap es ∧ (∀ k ∈ ws, h.length ≤ k) ∧ (∀ j (hj : j < s.ops.length), j < i → okOp1 s.ops[j] s.sorts.length) ∧ eget e 1 = .ptr h.length 0 0 1 ∧ eget e 6 = .map (some k2) ∧ eget e 44 = .slice 3 (s.ops.map encOp) .any ∧ eget e 45 = .int .i64 (s.ops.length : Int) ∧ eget e 46 = .int .i64 (i : Int) ∧ st = ⟨H, ws, []⟩) ?_ s.ops.length _ _
    ⟨0, H, ws, [], by omega, low, hb, hm, fun p hp => (by simp at hp), hw, fun j _ hj => by omega, e1, e6, e44, e45, e46, rfl⟩
  rintro n e st ⟨i, H, ws, es, hi, low, hb, hm, ok, hw, hp, e1, e6, e44, e45, e46, rfl⟩
  by_cases h1 : i < s.ops.length
  · have go := get_op h1
    obtain ⟨ho1, ho2⟩ := hs.ops _ (List.getElem_mem h1)
    have sb := st_box (h := H) (ws := ws) (ups := []) (z := .agg [(.str ⟨#[]⟩), (.slice 0 [] .nil), (.int .i64 0)]) (sz := 3) (c := encOp s.ops[i]) rfl rfl rfl (top_op _) ⟨_, rfl⟩ ⟨_, rfl⟩
    have hlen : h.length < H.length := (List.getElem?_eq_some_iff.1 hb).1
    have keep : ∀ {k : Nat} {ob o2 : AE.Obj}, H[k]? = some ob → (H ++ [o2])[k]? = some ob := fun hx => by
      rw [List.getElem?_append_left (List.getElem?_eq_some_iff.1 hx).1]; exact hx
    have fb : (H ++ [AE.Obj.row 3 [encOp s.ops[i]]])[H.length]? = some (.row 3 [encOp s.ops[i]]) := by simp
    have hb' : (H ++ [AE.Obj.row 3 [encOp s.ops[i]]])[h.length]? = some (.row 2 [encSig s]) := keep hb
    have hm' : (H ++ [AE.Obj.row 3 [encOp s.ops[i]]])[k2]? = some (.map es) := keep hm
    have low' : Low h.length h (H ++ [AE.Obj.row 3 [encOp s.ops[i]]]) := low.push (by omega)
    have hk2l : k2 < H.length := (List.getElem?_eq_some_iff.1 hm).1
    generalize hH1 : H ++ [AE.Obj.row 3 [encOp s.ops[i]]] = H1 at *
    generalize hkb : H.length = kb at *
    have l8 : loadAt true 3 (.ptr kb 0 0 1) H1 = some (encOp s.ops[i]) := by rw [ld_at fb]; rfl
    have l1 : loadAt false 1 (.ptr h.length 0 0 1) H1 = some (.slice 1 (s.sorts.map .str) .any) := by rw [ld_at hb']; rfl
    obtain ⟨b, hg, kg⟩ := good_tot hT hs (o := s.ops[i]) ho2 H1
    obtain ⟨t, ht, _⟩ := key_tot hT hC (o := s.ops[i]) ⟨ho1, ho2⟩ H1
    obtain ⟨d, hd⟩ := lookup_ok (n := t) hm' ok
    have hw' : ∀ k ∈ wadd kb ws, h.length ≤ k := wadd_low (by omega) hw
    obtain ⟨es', he, ok'⟩ := upd_ok (n := t) (ws := wadd kb ws) hm' ok
    simp (disch := first | omega | decide | (simp only [eget_eput', ↓reduceIte, Nat.reduceEqDiff]; done)) only [go_sem, ↓reduceIte, Nat.reduceEqDiff, Nat.reduceAdd, Nat.reduceMul, reduceCtorEq, a87b1, e1, e6, e44, e45, e46, h1, go, sb, hH1, hkb, l8, l1, cb hg, cb ht, hd, he, hT.prim, primOf, List.length_cons, List.length_nil]
    refine ⟨rfl, bifs (fun _ => q1 _ _ _ low' hw' (by simp (disch := first | omega | decide | (simp only [eget_eput', ↓reduceIte, Nat.reduceEqDiff]; done)) only [go_sem, ↓reduceIte, Nat.reduceEqDiff, Nat.reduceAdd, Nat.reduceMul, reduceCtorEq])) fun hb2 => bifs (fun _ => q1 _ _ _ low' hw' (by simp (disch := first | omega | decide | (simp only [eget_eput', ↓reduceIte, Nat.reduceEqDiff]; done)) only [go_sem, ↓reduceIte, Nat.reduceEqDiff, Nat.reduceAdd, Nat.reduceMul, reduceCtorEq])) fun _ => ?_⟩
    refine ⟨n - 1, by omega, i + 1, _, _, es', by omega, low'.trans (.set (by omega)), get_set_ne hb' (by omega), get_set hm', ok', wadd_low (by omega) hw', fun j hj hji => ?_, rfl, rfl⟩
    by_cases hjj : j = i
    · subst hjj
      exact kg (by simpa using hb2)
    · exact hp j hj (by omega)
  · simp (disch := first | omega | decide | (simp only [eget_eput', ↓reduceIte, Nat.reduceEqDiff]; done)) only [go_sem, ↓reduceIte, Nat.reduceEqDiff, Nat.reduceAdd, Nat.reduceMul, reduceCtorEq, a87b1, e1, e6, e44, e45, e46, h1]
    refine q2 (fun o ho => ?_) _ _ _ low hw
    obtain ⟨j, hj, rfl⟩ := List.getElem_of_mem ho
    exact hp j hj (by omega)
include hT in
theorem check_tot (h87 : T.sp 87 = none) (hC : T.sp 208 = some (cloneSp af208)) {s : GSig} (hs : Fits s) (h : List AE.Obj) : ∃ r : Int, Ev T 87 [encSig s] h (.val (.int .i64 r), ⟨h, [], []⟩) ∧ (r = 0 → okOps s.ops s.sorts.length) := by
  have hs1 := hs.nS
  have hs2 := hs.nO
  refine Ev.walkP h87 ((hT.fn _).trans fn87) (hT.mode _) rfl ?_
  have low : Low h.length h (h ++ [.row 2 [encSig s]] ++ [.map []]) := ((Low.refl _ _).push (Nat.le_refl _)).push (by simp)
  generalize hH : h ++ [AE.Obj.row 2 [encSig s]] ++ [AE.Obj.map []] = H at low
  have hb : H[h.length]? = some (.row 2 [encSig s]) := by rw [← hH]; simp
  generalize hk1 : (h ++ [AE.Obj.row 2 [encSig s]]).length = k1
  have hm : H[k1]? = some (.map []) := by rw [← hH, ← hk1]; simp
  have hk1h : h.length < k1 := by rw [← hk1]; simp
  have l0 : loadAt false 1 (.ptr h.length 0 0 1) H = some (.slice 1 (s.sorts.map .str) .any) := by rw [ld_at hb]; rfl
  simp (disch := first | omega | decide | (simp only [eget_eput', ↓reduceIte, Nat.reduceEqDiff]; done)) only [go_sem, ↓reduceIte, Nat.reduceEqDiff, Nat.reduceAdd, Nat.reduceMul, reduceCtorEq, hH, hk1, l0]
  refine bifs (fun _ => ⟨40, rfl, by simp⟩) fun _ => bifs (fun _ => ⟨40, rfl, by simp⟩) fun _ => ?_
  refine check_b0 hT hs low hb hk1h hm (fun p hp => by simp at hp) (by simp) (by simp (disch := first | omega | decide | (simp only [eget_eput', ↓reduceIte, Nat.reduceEqDiff]; done)) only [go_sem, ↓reduceIte, Nat.reduceEqDiff, Nat.reduceAdd, Nat.reduceMul, reduceCtorEq]) (by simp (disch := first | omega | decide | (simp only [eget_eput', ↓reduceIte, Nat.reduceEqDiff]; done)) only [go_sem, ↓reduceIte, Nat.reduceEqDiff, Nat.reduceAdd, Nat.reduceMul, reduceCtorEq]) (by simp (disch := first | omega | decide | (simp only [eget_eput', ↓reduceIte, Nat.reduceEqDiff]; done)) only [go_sem, ↓reduceIte, Nat.reduceEqDiff, Nat.reduceAdd, Nat.reduceMul, reduceCtorEq]) (by simp (disch := first | omega | decide | (simp only [eget_eput', ↓reduceIte, Nat.reduceEqDiff]; done)) only [go_sem, ↓reduceIte, Nat.reduceEqDiff, Nat.reduceAdd, Nat.reduceMul, reduceCtorEq]) (by simp (disch := first | omega | decide | (simp only [eget_eput', ↓reduceIte, Nat.reduceEqDiff]; done)) only [go_sem, ↓reduceIte, Nat.reduceEqDiff, Nat.reduceAdd, Nat.reduceMul, reduceCtorEq]) (fun H' ws' e' low' hw' e2 => ?_) (fun H' ws' e' low' hb' hw' e1 => ?_)
  · simp (disch := first | omega | decide | (simp only [eget_eput', ↓reduceIte, Nat.reduceEqDiff]; done)) only [go_sem, ↓reduceIte, Nat.reduceEqDiff, Nat.reduceAdd, Nat.reduceMul, reduceCtorEq, e2]
    exact ⟨40, tidy_low rfl rfl low' hw', by simp⟩
  · have hlen : h.length < H'.length := (List.getElem?_eq_some_iff.1 hb').1
    have hb2 : (H' ++ [AE.Obj.map []])[h.length]? = some (.row 2 [encSig s]) := by rw [List.getElem?_append_left hlen]; exact hb'
    have hm2 : (H' ++ [AE.Obj.map []])[H'.length]? = some (.map []) := by simp
    have l1 : loadAt false 1 (.ptr h.length 0 1 1) (H' ++ [AE.Obj.map []]) = some (.slice 3 (s.ops.map encOp) .any) := by rw [ld_at hb2]; rfl
    have low2 : Low h.length h (H' ++ [AE.Obj.map []]) := low'.push (by omega)
    simp (disch := first | omega | decide | (simp only [eget_eput', ↓reduceIte, Nat.reduceEqDiff]; done)) only [go_sem, ↓reduceIte, Nat.reduceEqDiff, Nat.reduceAdd, Nat.reduceMul, reduceCtorEq, e1, l1]
    refine check_b1 hT hC hs low2 hb2 (k2 := H'.length) (by omega) hm2 hw' (by simp (disch := first | omega | decide | (simp only [eget_eput', ↓reduceIte, Nat.reduceEqDiff]; done)) only [go_sem, ↓reduceIte, Nat.reduceEqDiff, Nat.reduceAdd, Nat.reduceMul, reduceCtorEq, e1]) (by simp (disch := first | omega | decide | (simp only [eget_eput', ↓reduceIte, Nat.reduceEqDiff]; done)) only [go_sem, ↓reduceIte, Nat.reduceEqDiff, Nat.reduceAdd, Nat.reduceMul, reduceCtorEq, e1]) (by simp (disch := first | omega | decide | (simp only [eget_eput', ↓reduceIte, Nat.reduceEqDiff]; done)) only [go_sem, ↓reduceIte, Nat.reduceEqDiff, Nat.reduceAdd, Nat.reduceMul, reduceCtorEq, e1]) (by simp (disch := first | omega | decide | (simp only [eget_eput', ↓reduceIte, Nat.reduceEqDiff]; done)) only [go_sem, ↓reduceIte, Nat.reduceEqDiff, Nat.reduceAdd, Nat.reduceMul, reduceCtorEq, e1]) (by simp (disch := first | omega | decide | (simp only [eget_eput', ↓reduceIte, Nat.reduceEqDiff]; done)) only [go_sem, ↓reduceIte, Nat.reduceEqDiff, Nat.reduceAdd, Nat.reduceMul, reduceCtorEq, e1]) (fun H3 ws3 e3 low3 hw3 e32 => ?_) (fun ok H3 ws3 e3 low3 hw3 => ?_)
    · simp (disch := first | omega | decide | (simp only [eget_eput', ↓reduceIte, Nat.reduceEqDiff]; done)) only [go_sem, ↓reduceIte, Nat.reduceEqDiff, Nat.reduceAdd, Nat.reduceMul, reduceCtorEq, e32]
      exact ⟨40, tidy_low rfl rfl low3 hw3, by simp⟩
    · simp (disch := first | omega | decide | (simp only [eget_eput', ↓reduceIte, Nat.reduceEqDiff]; done)) only [go_sem, ↓reduceIte, Nat.reduceEqDiff, Nat.reduceAdd, Nat.reduceMul, reduceCtorEq]
      exact ⟨0, tidy_low rfl rfl low3 hw3, fun _ => ok⟩
end Go.Proofs.Tryz
/- Functions, as the evaluator sees them: printed by tools/Print.lean. -/
namespace Go.Proofs.Tryz
open Go Go.AE
-- 10 madrigal/madrigallaw09.ValsLists
def a10b0 : ACode :=
  (.seq (.reg [
    ⟨(some 68), .bin .lss (.t 67) (.t 66), none, false, 0, 0, false⟩])
  (.seq (.cond (.t 68)
  .skip
  (.exit 2))
  (.seq (.block 3 (.seq (.reg [
    ⟨(some 69), .move (.t 67), none, false, 0, 0, false⟩,
    ⟨(some 15), .move (.t 69), none, false, 0, 0, false⟩])
  (.seq (.seq (.reg [
    ⟨(some 70), .move (.t 11), none, false, 0, 0, false⟩,
    ⟨(some 71), .move (.t 7), none, false, 0, 0, false⟩,
    ⟨(some 72), .lenL (.t 71), none, false, 0, 0, false⟩,
    ⟨(some 73), .bin .geq (.t 70) (.t 72), none, false, 0, 0, false⟩])
  (.cond (.t 73)
  (.seq (.reg [
    ⟨(some 6), .move (.c (.bool false)), none, false, 0, 0, false⟩])
  .ret)
  .skip))
  (.seq (.reg [
    ⟨(some 75), .load true 2 (.t 3), none, true, 0, 0, false⟩,
    ⟨(some 76), .move (.t 1), none, false, 0, 0, false⟩,
    ⟨(some 77), .move (.t 12), none, false, 0, 0, false⟩,
    ⟨(some 78), .move (.t 15), none, false, 0, 0, false⟩,
    ⟨(some 79), .call (.f 18) [(.t 75), (.t 76), (.t 77), (.t 78)], none, true, 0, 0, false⟩,
    ⟨(some 74), .move (.t 79), none, false, 0, 0, false⟩,
    ⟨(some 80), .extract (.t 74) 0, none, false, 0, 0, false⟩,
    ⟨(some 81), .extract (.t 74) 1, none, false, 0, 0, false⟩,
    ⟨(some 16), .box 3 (.c (.agg [(.int .i64 0), (.int .i64 0), (.slice 0 [] .nil)])), none, true, 0, 0, false⟩,
    ⟨none, .store 3 (.t 16) (.t 80), none, true, 0, 0, false⟩,
    ⟨(some 17), .move (.t 81), none, false, 0, 0, false⟩])
  (.seq (.seq (.regD [
    ⟨(some 82), .move (.t 17), none, false, 0, 0, true⟩,
    ⟨(some 83), .bin .neq (.t 82) (.c (.int .i64 0)), none, false, 1, 1, true⟩,
    ⟨(some 84), .move (.t 83), none, false, 2, 3, true⟩,
    ⟨(some 85), .load true 3 (.t 16), (some (84, false)), true, 3, 7, false⟩,
    ⟨(some 86), .move (.t 7), (some (84, false)), false, 4, 7, false⟩,
    ⟨(some 87), .move (.t 11), (some (84, false)), false, 5, 7, true⟩,
    ⟨(some 88), .idxAddr 3 (.t 86) (.t 87), (some (84, false)), false, 6, 55, true⟩,
    ⟨(some 89), .load true 3 (.t 88), (some (84, false)), true, 7, 119, true⟩,
    ⟨(some 90), .call (.f 22) [(.t 85), (.t 89)], (some (84, false)), true, 8, 255, true⟩,
    ⟨(some 91), .un .not (.t 90), (some (84, false)), false, 9, 511, true⟩,
    ⟨(some 92), .pick (.t 84) (.c (.bool true)) (.t 91), none, false, 10, 1023, true⟩])
  (.cond (.t 92)
  (.seq (.reg [
    ⟨(some 6), .move (.c (.bool false)), none, false, 0, 0, false⟩])
  .ret)
  .skip))
  (.reg [
    ⟨(some 93), .move (.t 11), none, false, 0, 0, false⟩,
    ⟨(some 94), .bin .add (.t 93) (.c (.int .i64 1)), none, false, 0, 0, false⟩,
    ⟨(some 11), .move (.t 94), none, false, 0, 0, false⟩]))))))
  (.reg [
    ⟨(some 95), .bin .add (.t 67) (.c (.int .i64 1)), none, false, 0, 0, false⟩,
    ⟨(some 67), .move (.t 95), none, false, 0, 0, false⟩]))))
def a10b1 : ACode :=
  (.seq (.seq (.reg [
    ⟨(some 52), .move (.t 12), none, false, 0, 0, false⟩,
    ⟨(some 53), .move (.t 2), none, false, 0, 0, false⟩,
    ⟨(some 54), .bin .leq (.t 52) (.t 53), none, false, 0, 0, false⟩])
  (.cond (.t 54)
  .skip
  (.exit 0)))
  (.seq (.block 1 (.seq (.reg [
    ⟨(some 58), .load true 2 (.t 3), none, true, 0, 0, false⟩,
    ⟨(some 59), .move (.t 1), none, false, 0, 0, false⟩,
    ⟨(some 60), .move (.t 12), none, false, 0, 0, false⟩,
    ⟨(some 61), .call (.f 44) [(.t 58), (.t 59), (.t 60)], none, true, 0, 0, false⟩,
    ⟨(some 57), .move (.t 61), none, false, 0, 0, false⟩,
    ⟨(some 62), .extract (.t 57) 0, none, false, 0, 0, false⟩,
    ⟨(some 63), .extract (.t 57) 1, none, false, 0, 0, false⟩,
    ⟨(some 13), .move (.t 62), none, false, 0, 0, false⟩,
    ⟨(some 14), .move (.t 63), none, false, 0, 0, false⟩])
  (.seq (.seq (.reg [
    ⟨(some 64), .move (.t 14), none, false, 0, 0, false⟩,
    ⟨(some 65), .bin .neq (.t 64) (.c (.int .i64 0)), none, false, 0, 0, false⟩])
  (.cond (.t 65)
  (.seq (.reg [
    ⟨(some 6), .move (.c (.bool false)), none, false, 0, 0, false⟩])
  .ret)
  .skip))
  (.seq (.reg [
    ⟨(some 66), .move (.t 13), none, false, 0, 0, false⟩,
    ⟨(some 67), .move (.c (.int .i64 0)), none, false, 0, 0, false⟩])
  (.block 2 (.loop a10b0))))))
  (.reg [
    ⟨(some 55), .move (.t 12), none, false, 0, 0, false⟩,
    ⟨(some 56), .bin .add (.t 55) (.c (.int .i64 1)), none, false, 0, 0, false⟩,
    ⟨(some 12), .move (.t 56), none, false, 0, 0, false⟩])))
def a10 : AFunc := ⟨3, 100, (.seq (.reg [
    ⟨(some 3), .box 2 (.t 0), none, true, 0, 0, false⟩,
    ⟨(some 6), .move (.c (.bool false)), none, false, 0, 0, false⟩])
  (.seq (.seq (.reg [
    ⟨(some 18), .call (.f 15) [], none, true, 0, 0, false⟩,
    ⟨(some 19), .un .not (.t 18), none, false, 0, 0, false⟩])
  (.cond (.t 19)
  (.seq (.reg [
    ⟨(some 6), .move (.c (.bool false)), none, false, 0, 0, false⟩])
  .ret)
  .skip))
  (.seq (.seq (.reg [
    ⟨(some 20), .load true 2 (.t 3), none, true, 0, 0, false⟩,
    ⟨(some 21), .call (.f 16) [(.t 20)], none, true, 0, 0, false⟩,
    ⟨(some 22), .un .not (.t 21), none, false, 0, 0, false⟩,
    ⟨(some 23), .move (.t 22), none, false, 0, 0, false⟩,
    ⟨(some 24), .load true 2 (.t 3), (some (23, false)), true, 0, 0, false⟩,
    ⟨(some 25), .move (.t 2), (some (23, false)), false, 0, 0, false⟩,
    ⟨(some 26), .call (.f 27) [(.t 24), (.t 25)], (some (23, false)), true, 0, 0, false⟩,
    ⟨(some 27), .un .not (.t 26), (some (23, false)), false, 0, 0, false⟩,
    ⟨(some 28), .pick (.t 23) (.c (.bool true)) (.t 27), none, false, 0, 0, false⟩])
  (.cond (.t 28)
  (.seq (.reg [
    ⟨(some 6), .move (.c (.bool true)), none, false, 0, 0, false⟩])
  .ret)
  .skip))
  (.seq (.reg [
    ⟨(some 30), .load true 2 (.t 3), none, true, 0, 0, false⟩,
    ⟨(some 31), .move (.t 1), none, false, 0, 0, false⟩,
    ⟨(some 32), .move (.t 2), none, false, 0, 0, false⟩,
    ⟨(some 33), .call (.f 59) [(.t 30), (.t 31), (.t 32)], none, true, 0, 0, false⟩,
    ⟨(some 29), .move (.t 33), none, false, 0, 0, false⟩,
    ⟨(some 34), .extract (.t 29) 0, none, false, 0, 0, false⟩,
    ⟨(some 35), .extract (.t 29) 1, none, false, 0, 0, false⟩,
    ⟨(some 7), .move (.t 34), none, false, 0, 0, false⟩,
    ⟨(some 8), .move (.t 35), none, false, 0, 0, false⟩])
  (.seq (.seq (.reg [
    ⟨(some 36), .move (.t 8), none, false, 0, 0, false⟩,
    ⟨(some 37), .bin .neq (.t 36) (.c (.int .i64 0)), none, false, 0, 0, false⟩])
  (.cond (.t 37)
  (.seq (.reg [
    ⟨(some 39), .load true 2 (.t 3), none, true, 0, 0, false⟩,
    ⟨(some 40), .move (.t 1), none, false, 0, 0, false⟩,
    ⟨(some 41), .move (.t 2), none, false, 0, 0, false⟩,
    ⟨(some 42), .call (.f 44) [(.t 39), (.t 40), (.t 41)], none, true, 0, 0, false⟩,
    ⟨(some 38), .move (.t 42), none, false, 0, 0, false⟩,
    ⟨(some 43), .extract (.t 38) 0, none, false, 0, 0, false⟩,
    ⟨(some 44), .extract (.t 38) 1, none, false, 0, 0, false⟩,
    ⟨(some 9), .move (.t 43), none, false, 0, 0, false⟩,
    ⟨(some 10), .move (.t 44), none, false, 0, 0, false⟩])
  (.seq (.reg [
    ⟨(some 45), .move (.t 8), none, false, 0, 0, false⟩,
    ⟨(some 46), .move (.t 10), none, false, 0, 0, false⟩,
    ⟨(some 47), .bin .eql (.t 45) (.t 46), none, false, 0, 0, false⟩,
    ⟨(some 48), .move (.t 47), none, false, 0, 0, false⟩,
    ⟨(some 49), .move (.t 8), (some (48, false)), false, 0, 0, false⟩,
    ⟨(some 50), .bin .eql (.t 49) (.c (.int .i64 2)), (some (48, false)), false, 0, 0, false⟩,
    ⟨(some 51), .pick (.t 48) (.c (.bool true)) (.t 50), none, false, 0, 0, false⟩,
    ⟨(some 6), .move (.t 51), none, false, 0, 0, false⟩])
  .ret))
  .skip))
  (.seq (.reg [
    ⟨(some 11), .move (.c (.int .i64 0)), none, false, 0, 0, false⟩])
  (.seq (.seq (.reg [
    ⟨(some 12), .move (.c (.int .i64 1)), none, false, 0, 0, false⟩])
  (.block 0 (.loop a10b1)))
  (.seq (.reg [
    ⟨(some 96), .move (.t 11), none, false, 0, 0, false⟩,
    ⟨(some 97), .move (.t 7), none, false, 0, 0, false⟩,
    ⟨(some 98), .lenL (.t 97), none, false, 0, 0, false⟩,
    ⟨(some 99), .bin .eql (.t 96) (.t 98), none, false, 0, 0, false⟩,
    ⟨(some 6), .move (.t 99), none, false, 0, 0, false⟩])
  .ret)))))))), [.t 6]⟩
theorem fn10 : fnOf 10 = some a10 := by kernel_rfl
-- 18 madrigal/vals.Nth
def a18 : AFunc := ⟨4, 51, (.seq (.reg [
    ⟨(some 4), .box 2 (.t 0), none, true, 0, 0, false⟩,
    ⟨(some 8), .box 3 (.c (.agg [(.int .i64 0), (.int .i64 0), (.slice 0 [] .nil)])), none, true, 0, 0, false⟩,
    ⟨(some 9), .move (.c (.int .i64 0)), none, false, 0, 0, false⟩])
  (.seq (.seq (.reg [
    ⟨(some 12), .load true 2 (.t 4), none, true, 0, 0, false⟩,
    ⟨(some 13), .call (.f 87) [(.t 12)], none, true, 0, 0, false⟩,
    ⟨(some 10), .move (.t 13), none, false, 0, 0, false⟩])
  (.seq (.reg [
    ⟨(some 14), .move (.t 10), none, false, 0, 0, false⟩,
    ⟨(some 15), .bin .neq (.t 14) (.c (.int .i64 0)), none, false, 0, 0, false⟩])
  (.cond (.t 15)
  (.seq (.reg [
    ⟨(some 16), .build [(.int .i64 0), (.int .i64 0), (.slice 0 [] .nil)] [], none, false, 0, 0, false⟩,
    ⟨(some 17), .move (.t 10), none, false, 0, 0, false⟩,
    ⟨none, .store 3 (.t 8) (.t 16), none, true, 0, 0, false⟩,
    ⟨(some 9), .move (.t 17), none, false, 0, 0, false⟩])
  .ret)
  .skip)))
  (.seq (.seq (.reg [
    ⟨(some 18), .load true 2 (.t 4), none, true, 0, 0, false⟩,
    ⟨(some 19), .move (.t 1), none, false, 0, 0, false⟩,
    ⟨(some 20), .call (.f 88) [(.t 18), (.t 19)], none, true, 0, 0, false⟩,
    ⟨(some 21), .un .not (.t 20), none, false, 0, 0, false⟩,
    ⟨(some 22), .move (.t 21), none, false, 0, 0, false⟩,
    ⟨(some 23), .move (.t 2), (some (22, false)), false, 0, 0, false⟩,
    ⟨(some 24), .call (.f 89) [(.t 23)], (some (22, false)), true, 0, 0, false⟩,
    ⟨(some 25), .un .not (.t 24), (some (22, false)), false, 0, 0, false⟩,
    ⟨(some 26), .pick (.t 22) (.c (.bool true)) (.t 25), none, false, 0, 0, false⟩,
    ⟨(some 27), .move (.t 26), none, false, 0, 0, false⟩,
    ⟨(some 28), .move (.t 3), (some (27, false)), false, 0, 0, false⟩,
    ⟨(some 29), .bin .lss (.t 28) (.c (.int .i64 0)), (some (27, false)), false, 0, 0, false⟩,
    ⟨(some 30), .pick (.t 27) (.c (.bool true)) (.t 29), none, false, 0, 0, false⟩])
  (.cond (.t 30)
  (.seq (.reg [
    ⟨(some 31), .build [(.int .i64 0), (.int .i64 0), (.slice 0 [] .nil)] [], none, false, 0, 0, false⟩,
    ⟨none, .store 3 (.t 8) (.t 31), none, true, 0, 0, false⟩,
    ⟨(some 9), .move (.c (.int .i64 1)), none, false, 0, 0, false⟩])
  .ret)
  .skip))
  (.seq (.reg [
    ⟨(some 32), .load true 2 (.t 4), none, true, 0, 0, false⟩,
    ⟨(some 33), .call (.f 90) [(.t 32)], none, true, 0, 0, false⟩,
    ⟨(some 11), .move (.t 33), none, false, 0, 0, false⟩])
  (.seq (.seq (.reg [
    ⟨(some 34), .move (.t 3), none, false, 0, 0, false⟩,
    ⟨(some 35), .move (.t 11), none, false, 0, 0, false⟩,
    ⟨(some 36), .nilCheck (.t 35), none, false, 0, 0, false⟩,
    ⟨(some 37), .fieldAddr 2 (.t 36), none, false, 0, 0, false⟩,
    ⟨(some 38), .load false 1 (.t 37), none, true, 0, 0, false⟩,
    ⟨(some 39), .move (.t 1), none, false, 0, 0, false⟩,
    ⟨(some 40), .move (.t 2), none, false, 0, 0, false⟩,
    ⟨(some 41), .idxAddr 61 (.t 38) (.t 39), none, false, 0, 0, false⟩,
    ⟨(some 42), .idxArr 61 1 (.t 41) (.t 40), none, false, 0, 0, false⟩,
    ⟨(some 43), .load false 1 (.t 42), none, true, 0, 0, false⟩,
    ⟨(some 44), .bin .geq (.t 34) (.t 43), none, false, 0, 0, false⟩])
  (.cond (.t 44)
  (.seq (.reg [
    ⟨(some 45), .build [(.int .i64 0), (.int .i64 0), (.slice 0 [] .nil)] [], none, false, 0, 0, false⟩,
    ⟨none, .store 3 (.t 8) (.t 45), none, true, 0, 0, false⟩,
    ⟨(some 9), .move (.c (.int .i64 1)), none, false, 0, 0, false⟩])
  .ret)
  .skip))
  (.seq (.reg [
    ⟨(some 46), .move (.t 11), none, false, 0, 0, false⟩,
    ⟨(some 47), .move (.t 1), none, false, 0, 0, false⟩,
    ⟨(some 48), .move (.t 2), none, false, 0, 0, false⟩,
    ⟨(some 49), .move (.t 3), none, false, 0, 0, false⟩,
    ⟨(some 50), .call (.f 91) [(.t 46), (.t 47), (.t 48), (.t 49)], none, true, 0, 0, false⟩,
    ⟨none, .store 3 (.t 8) (.t 50), none, true, 0, 0, false⟩,
    ⟨(some 9), .move (.c (.int .i64 0)), none, false, 0, 0, false⟩])
  .ret)))))), [.cell 8 true 3, .t 9]⟩
theorem fn18 : fnOf 18 = some a18 := by kernel_rfl
-- 22 madrigal/sig.Same
def a22 : AFunc := ⟨2, 24, (.seq (.reg [
    ⟨(some 2), .box 3 (.t 0), none, true, 0, 0, false⟩,
    ⟨(some 3), .box 3 (.t 1), none, true, 0, 0, false⟩,
    ⟨(some 4), .move (.c (.bool false)), none, false, 0, 0, false⟩])
  (.seq (.reg [
    ⟨(some 5), .fieldAddr 0 (.t 2), none, false, 0, 0, false⟩,
    ⟨(some 6), .load false 1 (.t 5), none, true, 0, 0, false⟩,
    ⟨(some 7), .fieldAddr 0 (.t 3), none, false, 0, 0, false⟩,
    ⟨(some 8), .load false 1 (.t 7), none, true, 0, 0, false⟩,
    ⟨(some 9), .bin .eql (.t 6) (.t 8), none, false, 0, 0, false⟩,
    ⟨(some 10), .move (.t 9), none, false, 0, 0, false⟩,
    ⟨(some 11), .fieldAddr 1 (.t 2), (some (10, true)), false, 0, 0, false⟩,
    ⟨(some 12), .load false 1 (.t 11), (some (10, true)), true, 0, 0, false⟩,
    ⟨(some 13), .fieldAddr 1 (.t 3), (some (10, true)), false, 0, 0, false⟩,
    ⟨(some 14), .load false 1 (.t 13), (some (10, true)), true, 0, 0, false⟩,
    ⟨(some 15), .bin .eql (.t 12) (.t 14), (some (10, true)), false, 0, 0, false⟩,
    ⟨(some 16), .pick (.t 10) (.t 15) (.c (.bool false)), none, false, 0, 0, false⟩,
    ⟨(some 17), .move (.t 16), none, false, 0, 0, false⟩,
    ⟨(some 18), .fieldAddr 2 (.t 2), (some (17, true)), false, 0, 0, false⟩,
    ⟨(some 19), .load false 1 (.t 18), (some (17, true)), true, 0, 0, false⟩,
    ⟨(some 20), .fieldAddr 2 (.t 3), (some (17, true)), false, 0, 0, false⟩,
    ⟨(some 21), .load false 1 (.t 20), (some (17, true)), true, 0, 0, false⟩,
    ⟨(some 22), .call (.f 32) [(.t 19), (.t 21), (.f 22)], (some (17, true)), true, 0, 0, false⟩,
    ⟨(some 23), .pick (.t 17) (.t 22) (.c (.bool false)), none, false, 0, 0, false⟩,
    ⟨(some 4), .move (.t 23), none, false, 0, 0, false⟩])
  .ret)), [.t 4]⟩
theorem fn22 : fnOf 22 = some a22 := by kernel_rfl
-- 32 slices.EqualFunc[[]madrigal/api.Term,[]madrigal/api.Term,madrigal/api.Term,madrigal/api.Term]
def a32b0 : ACode :=
  (.seq (.reg [
    ⟨(some 18), .bin .lss (.t 17) (.t 16), none, false, 0, 0, false⟩])
  (.seq (.cond (.t 18)
  .skip
  (.exit 0))
  (.seq (.block 1 (.seq (.reg [
    ⟨(some 19), .move (.t 17), none, false, 0, 0, false⟩,
    ⟨(some 20), .idxAddr 3 (.t 15) (.t 17), none, false, 0, 0, false⟩,
    ⟨(some 21), .load true 3 (.t 20), none, true, 0, 0, false⟩,
    ⟨(some 8), .box 3 (.c (.agg [(.int .i64 0), (.int .i64 0), (.slice 0 [] .nil)])), none, true, 0, 0, false⟩,
    ⟨(some 7), .move (.t 19), none, false, 0, 0, false⟩,
    ⟨none, .store 3 (.t 8) (.t 21), none, true, 0, 0, false⟩])
  (.seq (.reg [
    ⟨(some 22), .move (.t 1), none, false, 0, 0, false⟩,
    ⟨(some 23), .move (.t 7), none, false, 0, 0, false⟩,
    ⟨(some 24), .idxAddr 3 (.t 22) (.t 23), none, false, 0, 0, false⟩,
    ⟨(some 25), .load true 3 (.t 24), none, true, 0, 0, false⟩,
    ⟨(some 9), .box 3 (.c (.agg [(.int .i64 0), (.int .i64 0), (.slice 0 [] .nil)])), none, true, 0, 0, false⟩,
    ⟨none, .store 3 (.t 9) (.t 25), none, true, 0, 0, false⟩])
  (.seq (.reg [
    ⟨(some 26), .move (.t 2), none, false, 0, 0, false⟩,
    ⟨(some 27), .load true 3 (.t 8), none, true, 0, 0, false⟩,
    ⟨(some 28), .load true 3 (.t 9), none, true, 0, 0, false⟩,
    ⟨(some 29), .call (.t 26) [(.t 27), (.t 28)], none, true, 0, 0, false⟩,
    ⟨(some 30), .un .not (.t 29), none, false, 0, 0, false⟩])
  (.cond (.t 30)
  (.seq (.reg [
    ⟨(some 6), .move (.c (.bool false)), none, false, 0, 0, false⟩])
  .ret)
  .skip)))))
  (.reg [
    ⟨(some 31), .bin .add (.t 17) (.c (.int .i64 1)), none, false, 0, 0, false⟩,
    ⟨(some 17), .move (.t 31), none, false, 0, 0, false⟩]))))
def a32 : AFunc := ⟨3, 32, (.seq (.reg [
    ⟨(some 6), .move (.c (.bool false)), none, false, 0, 0, false⟩])
  (.seq (.seq (.reg [
    ⟨(some 10), .move (.t 0), none, false, 0, 0, false⟩,
    ⟨(some 11), .lenL (.t 10), none, false, 0, 0, false⟩,
    ⟨(some 12), .move (.t 1), none, false, 0, 0, false⟩,
    ⟨(some 13), .lenL (.t 12), none, false, 0, 0, false⟩,
    ⟨(some 14), .bin .neq (.t 11) (.t 13), none, false, 0, 0, false⟩])
  (.cond (.t 14)
  (.seq (.reg [
    ⟨(some 6), .move (.c (.bool false)), none, false, 0, 0, false⟩])
  .ret)
  .skip))
  (.seq (.seq (.reg [
    ⟨(some 15), .move (.t 0), none, false, 0, 0, false⟩,
    ⟨(some 16), .lenL (.t 15), none, false, 0, 0, false⟩,
    ⟨(some 17), .move (.c (.int .i64 0)), none, false, 0, 0, false⟩])
  (.block 0 (.loop a32b0)))
  (.seq (.reg [
    ⟨(some 6), .move (.c (.bool true)), none, false, 0, 0, false⟩])
  .ret)))), [.t 6]⟩
theorem fn32 : fnOf 32 = some a32 := by kernel_rfl
-- 44 madrigal/vals.Count
def a44 : AFunc := ⟨3, 33, (.seq (.reg [
    ⟨(some 3), .box 2 (.t 0), none, true, 0, 0, false⟩,
    ⟨(some 6), .move (.c (.int .i64 0)), none, false, 0, 0, false⟩,
    ⟨(some 7), .move (.c (.int .i64 0)), none, false, 0, 0, false⟩])
  (.seq (.seq (.reg [
    ⟨(some 9), .load true 2 (.t 3), none, true, 0, 0, false⟩,
    ⟨(some 10), .call (.f 87) [(.t 9)], none, true, 0, 0, false⟩,
    ⟨(some 8), .move (.t 10), none, false, 0, 0, false⟩])
  (.seq (.reg [
    ⟨(some 11), .move (.t 8), none, false, 0, 0, false⟩,
    ⟨(some 12), .bin .neq (.t 11) (.c (.int .i64 0)), none, false, 0, 0, false⟩])
  (.cond (.t 12)
  (.seq (.reg [
    ⟨(some 13), .move (.t 8), none, false, 0, 0, false⟩,
    ⟨(some 6), .move (.c (.int .i64 0)), none, false, 0, 0, false⟩,
    ⟨(some 7), .move (.t 13), none, false, 0, 0, false⟩])
  .ret)
  .skip)))
  (.seq (.seq (.reg [
    ⟨(some 14), .load true 2 (.t 3), none, true, 0, 0, false⟩,
    ⟨(some 15), .move (.t 1), none, false, 0, 0, false⟩,
    ⟨(some 16), .call (.f 88) [(.t 14), (.t 15)], none, true, 0, 0, false⟩,
    ⟨(some 17), .un .not (.t 16), none, false, 0, 0, false⟩,
    ⟨(some 18), .move (.t 17), none, false, 0, 0, false⟩,
    ⟨(some 19), .move (.t 2), (some (18, false)), false, 0, 0, false⟩,
    ⟨(some 20), .call (.f 89) [(.t 19)], (some (18, false)), true, 0, 0, false⟩,
    ⟨(some 21), .un .not (.t 20), (some (18, false)), false, 0, 0, false⟩,
    ⟨(some 22), .pick (.t 18) (.c (.bool true)) (.t 21), none, false, 0, 0, false⟩])
  (.cond (.t 22)
  (.seq (.reg [
    ⟨(some 6), .move (.c (.int .i64 0)), none, false, 0, 0, false⟩,
    ⟨(some 7), .move (.c (.int .i64 1)), none, false, 0, 0, false⟩])
  .ret)
  .skip))
  (.seq (.reg [
    ⟨(some 23), .load true 2 (.t 3), none, true, 0, 0, false⟩,
    ⟨(some 24), .call (.f 90) [(.t 23)], none, true, 0, 0, false⟩,
    ⟨(some 25), .nilCheck (.t 24), none, false, 0, 0, false⟩,
    ⟨(some 26), .fieldAddr 2 (.t 25), none, false, 0, 0, false⟩,
    ⟨(some 27), .load false 1 (.t 26), none, true, 0, 0, false⟩,
    ⟨(some 28), .move (.t 1), none, false, 0, 0, false⟩,
    ⟨(some 29), .move (.t 2), none, false, 0, 0, false⟩,
    ⟨(some 30), .idxAddr 61 (.t 27) (.t 28), none, false, 0, 0, false⟩,
    ⟨(some 31), .idxArr 61 1 (.t 30) (.t 29), none, false, 0, 0, false⟩,
    ⟨(some 32), .load false 1 (.t 31), none, true, 0, 0, false⟩,
    ⟨(some 6), .move (.t 32), none, false, 0, 0, false⟩,
    ⟨(some 7), .move (.c (.int .i64 0)), none, false, 0, 0, false⟩])
  .ret)))), [.t 6, .t 7]⟩
theorem fn44 : fnOf 44 = some a44 := by kernel_rfl
-- 59 madrigal/vals.Terms
def a59 : AFunc := ⟨3, 30, (.seq (.reg [
    ⟨(some 3), .box 2 (.t 0), none, true, 0, 0, false⟩,
    ⟨(some 6), .move (.c (.slice 0 [] .nil)), none, false, 0, 0, false⟩,
    ⟨(some 7), .move (.c (.int .i64 0)), none, false, 0, 0, false⟩])
  (.seq (.seq (.reg [
    ⟨(some 9), .load true 2 (.t 3), none, true, 0, 0, false⟩,
    ⟨(some 10), .call (.f 87) [(.t 9)], none, true, 0, 0, false⟩,
    ⟨(some 8), .move (.t 10), none, false, 0, 0, false⟩])
  (.seq (.reg [
    ⟨(some 11), .move (.t 8), none, false, 0, 0, false⟩,
    ⟨(some 12), .bin .neq (.t 11) (.c (.int .i64 0)), none, false, 0, 0, false⟩])
  (.cond (.t 12)
  (.seq (.reg [
    ⟨(some 13), .move (.t 8), none, false, 0, 0, false⟩,
    ⟨(some 6), .move (.c (.slice 0 [] .nil)), none, false, 0, 0, false⟩,
    ⟨(some 7), .move (.t 13), none, false, 0, 0, false⟩])
  .ret)
  .skip)))
  (.seq (.seq (.reg [
    ⟨(some 14), .load true 2 (.t 3), none, true, 0, 0, false⟩,
    ⟨(some 15), .move (.t 1), none, false, 0, 0, false⟩,
    ⟨(some 16), .call (.f 88) [(.t 14), (.t 15)], none, true, 0, 0, false⟩,
    ⟨(some 17), .un .not (.t 16), none, false, 0, 0, false⟩,
    ⟨(some 18), .move (.t 17), none, false, 0, 0, false⟩,
    ⟨(some 19), .move (.t 2), (some (18, false)), false, 0, 0, false⟩,
    ⟨(some 20), .call (.f 89) [(.t 19)], (some (18, false)), true, 0, 0, false⟩,
    ⟨(some 21), .un .not (.t 20), (some (18, false)), false, 0, 0, false⟩,
    ⟨(some 22), .pick (.t 18) (.c (.bool true)) (.t 21), none, false, 0, 0, false⟩])
  (.cond (.t 22)
  (.seq (.reg [
    ⟨(some 6), .move (.c (.slice 0 [] .nil)), none, false, 0, 0, false⟩,
    ⟨(some 7), .move (.c (.int .i64 1)), none, false, 0, 0, false⟩])
  .ret)
  .skip))
  (.seq (.reg [
    ⟨(some 23), .load true 2 (.t 3), none, true, 0, 0, false⟩,
    ⟨(some 24), .call (.f 90) [(.t 23)], none, true, 0, 0, false⟩,
    ⟨(some 25), .move (.t 1), none, false, 0, 0, false⟩,
    ⟨(some 26), .move (.t 2), none, false, 0, 0, false⟩,
    ⟨(some 27), .call (.f 144) [(.t 24), (.t 25), (.t 26)], none, true, 0, 0, false⟩,
    ⟨(some 28), .extract (.t 27) 0, none, false, 0, 0, false⟩,
    ⟨(some 29), .extract (.t 27) 1, none, false, 0, 0, false⟩,
    ⟨(some 6), .move (.t 28), none, false, 0, 0, false⟩,
    ⟨(some 7), .move (.t 29), none, false, 0, 0, false⟩])
  .ret)))), [.t 6, .t 7]⟩
theorem fn59 : fnOf 59 = some a59 := by kernel_rfl
-- 88 madrigal/vals.isSort
def a88 : AFunc := ⟨2, 14, (.seq (.reg [
    ⟨(some 2), .box 2 (.t 0), none, true, 0, 0, false⟩,
    ⟨(some 4), .move (.c (.bool false)), none, false, 0, 0, false⟩])
  (.seq (.reg [
    ⟨(some 5), .move (.t 1), none, false, 0, 0, false⟩,
    ⟨(some 6), .bin .geq (.t 5) (.c (.int .i64 0)), none, false, 0, 0, false⟩,
    ⟨(some 7), .move (.t 6), none, false, 0, 0, false⟩,
    ⟨(some 8), .move (.t 1), (some (7, true)), false, 0, 0, false⟩,
    ⟨(some 9), .fieldAddr 0 (.t 2), (some (7, true)), false, 0, 0, false⟩,
    ⟨(some 10), .load false 1 (.t 9), (some (7, true)), true, 0, 0, false⟩,
    ⟨(some 11), .lenL (.t 10), (some (7, true)), false, 0, 0, false⟩,
    ⟨(some 12), .bin .lss (.t 8) (.t 11), (some (7, true)), false, 0, 0, false⟩,
    ⟨(some 13), .pick (.t 7) (.t 12) (.c (.bool false)), none, false, 0, 0, false⟩,
    ⟨(some 4), .move (.t 13), none, false, 0, 0, false⟩])
  .ret)), [.t 4]⟩
theorem fn88 : fnOf 88 = some a88 := by kernel_rfl
-- 89 madrigal/vals.sized
def a89 : AFunc := ⟨1, 9, (.seq (.reg [
    ⟨(some 2), .move (.c (.bool false)), none, false, 0, 0, false⟩])
  (.seq (.reg [
    ⟨(some 3), .move (.t 0), none, false, 0, 0, false⟩,
    ⟨(some 4), .bin .geq (.t 3) (.c (.int .i64 0)), none, false, 0, 0, false⟩,
    ⟨(some 5), .move (.t 4), none, false, 0, 0, false⟩,
    ⟨(some 6), .move (.t 0), (some (5, true)), false, 0, 0, false⟩,
    ⟨(some 7), .bin .leq (.t 6) (.c (.int .i64 60)), (some (5, true)), false, 0, 0, false⟩,
    ⟨(some 8), .pick (.t 5) (.t 7) (.c (.bool false)), none, false, 0, 0, false⟩,
    ⟨(some 2), .move (.t 8), none, false, 0, 0, false⟩])
  .ret)), [.t 2]⟩
theorem fn89 : fnOf 89 = some a89 := by kernel_rfl
-- 91 (*madrigal/vals.table).nth
def a91b0 : ACode :=
  (.seq (.seq (.reg [
    ⟨(some 73), .move (.t 18), none, false, 0, 0, false⟩,
    ⟨(some 74), .move (.t 14), none, false, 0, 0, false⟩,
    ⟨(some 75), .bin .leq (.t 73) (.t 74), none, false, 0, 0, false⟩])
  (.cond (.t 75)
  .skip
  (.exit 4)))
  (.seq (.block 5 (.seq (.regD [
    ⟨(some 78), .move (.t 15), none, false, 0, 0, false⟩,
    ⟨(some 79), .move (.t 0), none, false, 1, 0, false⟩,
    ⟨(some 80), .nilCheck (.t 79), none, false, 2, 2, false⟩,
    ⟨(some 81), .fieldAddr 2 (.t 80), none, false, 3, 6, false⟩,
    ⟨(some 82), .load false 1 (.t 81), none, true, 4, 14, false⟩,
    ⟨(some 83), .move (.t 17), none, false, 5, 0, false⟩,
    ⟨(some 84), .move (.t 18), none, false, 6, 0, false⟩,
    ⟨(some 85), .idxAddr 61 (.t 82) (.t 83), none, false, 7, 62, false⟩,
    ⟨(some 86), .idxArr 61 1 (.t 85) (.t 84), none, false, 8, 254, false⟩,
    ⟨(some 87), .load false 1 (.t 86), none, true, 9, 510, false⟩,
    ⟨(some 88), .call (.f 165) [(.t 78), (.t 87)], none, true, 10, 1023, false⟩,
    ⟨(some 89), .move (.t 0), none, false, 11, 0, false⟩,
    ⟨(some 90), .nilCheck (.t 89), none, false, 12, 2048, false⟩,
    ⟨(some 91), .fieldAddr 3 (.t 90), none, false, 13, 6144, false⟩,
    ⟨(some 92), .load false 1 (.t 91), none, true, 14, 14336, false⟩,
    ⟨(some 93), .move (.t 9), none, false, 15, 0, false⟩,
    ⟨(some 94), .idxAddr 1 (.t 92) (.t 93), none, false, 16, 63488, false⟩,
    ⟨(some 95), .load false 1 (.t 94), none, true, 17, 129024, false⟩,
    ⟨(some 96), .move (.t 16), none, false, 18, 0, false⟩,
    ⟨(some 97), .bin .add (.t 96) (.c (.int .i64 1)), none, false, 19, 262144, false⟩,
    ⟨(some 98), .move (.t 14), none, false, 20, 0, false⟩,
    ⟨(some 99), .move (.t 18), none, false, 21, 0, false⟩,
    ⟨(some 100), .bin .sub (.t 98) (.t 99), none, false, 22, 3145728, false⟩,
    ⟨(some 101), .idxAddr 61 (.t 95) (.t 97), none, false, 23, 1046528, true⟩,
    ⟨(some 102), .idxArr 61 1 (.t 101) (.t 100), none, false, 24, 16775168, true⟩,
    ⟨(some 103), .load false 1 (.t 102), none, true, 25, 33552384, true⟩,
    ⟨(some 104), .call (.f 165) [(.t 88), (.t 103)], none, true, 26, 67108863, true⟩,
    ⟨(some 19), .move (.t 104), none, false, 27, 134217727, true⟩])
  (.seq (.seq (.reg [
    ⟨(some 105), .move (.t 3), none, false, 0, 0, false⟩,
    ⟨(some 106), .move (.t 19), none, false, 0, 0, false⟩,
    ⟨(some 107), .bin .lss (.t 105) (.t 106), none, false, 0, 0, false⟩])
  (.cond (.t 107)
  (.seq (.reg [
    ⟨(some 108), .move (.t 13), none, false, 0, 0, false⟩,
    ⟨(some 109), .move (.t 16), none, false, 0, 0, false⟩,
    ⟨(some 110), .move (.t 18), none, false, 0, 0, false⟩,
    ⟨(some 111), .idxAddr 1 (.t 108) (.t 109), none, false, 0, 0, false⟩,
    ⟨none, .store 1 (.t 111) (.t 110), none, true, 0, 0, false⟩])
  (.exit 4))
  .skip))
  (.reg [
    ⟨(some 112), .move (.t 3), none, false, 0, 0, false⟩,
    ⟨(some 113), .move (.t 19), none, false, 0, 0, false⟩,
    ⟨(some 114), .bin .sub (.t 112) (.t 113), none, false, 0, 0, false⟩,
    ⟨(some 3), .move (.t 114), none, false, 0, 0, false⟩]))))
  (.reg [
    ⟨(some 76), .move (.t 18), none, false, 0, 0, false⟩,
    ⟨(some 77), .bin .add (.t 76) (.c (.int .i64 1)), none, false, 0, 0, false⟩,
    ⟨(some 18), .move (.t 77), none, false, 0, 0, false⟩])))
def a91b1 : ACode :=
  (.seq (.reg [
    ⟨(some 69), .bin .lss (.t 68) (.t 67), none, false, 0, 0, false⟩])
  (.seq (.cond (.t 69)
  .skip
  (.exit 2))
  (.seq (.block 3 (.seq (.reg [
    ⟨(some 70), .move (.t 68), none, false, 0, 0, false⟩,
    ⟨(some 71), .idxAddr 1 (.t 66) (.t 68), none, false, 0, 0, false⟩,
    ⟨(some 72), .load false 1 (.t 71), none, true, 0, 0, false⟩,
    ⟨(some 16), .move (.t 70), none, false, 0, 0, false⟩,
    ⟨(some 17), .move (.t 72), none, false, 0, 0, false⟩])
  (.seq (.seq (.reg [
    ⟨(some 18), .move (.c (.int .i64 1)), none, false, 0, 0, false⟩])
  (.block 4 (.loop a91b0)))
  (.seq (.regD [
    ⟨(some 115), .move (.t 15), none, false, 0, 0, false⟩,
    ⟨(some 116), .move (.t 0), none, false, 1, 0, false⟩,
    ⟨(some 117), .nilCheck (.t 116), none, false, 2, 2, false⟩,
    ⟨(some 118), .fieldAddr 2 (.t 117), none, false, 3, 6, false⟩,
    ⟨(some 119), .load false 1 (.t 118), none, true, 4, 14, false⟩,
    ⟨(some 120), .move (.t 17), none, false, 5, 0, false⟩,
    ⟨(some 121), .move (.t 13), none, false, 6, 0, false⟩,
    ⟨(some 122), .move (.t 16), none, false, 7, 0, false⟩,
    ⟨(some 123), .idxAddr 1 (.t 121) (.t 122), none, false, 8, 192, false⟩,
    ⟨(some 124), .load false 1 (.t 123), none, true, 9, 448, false⟩,
    ⟨(some 125), .idxAddr 61 (.t 119) (.t 120), none, false, 10, 62, true⟩,
    ⟨(some 126), .idxArr 61 1 (.t 125) (.t 124), none, false, 11, 2046, true⟩,
    ⟨(some 127), .load false 1 (.t 126), none, true, 12, 4094, true⟩,
    ⟨(some 128), .call (.f 165) [(.t 115), (.t 127)], none, true, 13, 8191, true⟩,
    ⟨(some 15), .move (.t 128), none, false, 14, 16383, true⟩])
  (.reg [
    ⟨(some 129), .move (.t 14), none, false, 0, 0, false⟩,
    ⟨(some 130), .move (.t 13), none, false, 0, 0, false⟩,
    ⟨(some 131), .move (.t 16), none, false, 0, 0, false⟩,
    ⟨(some 132), .idxAddr 1 (.t 130) (.t 131), none, false, 0, 0, false⟩,
    ⟨(some 133), .load false 1 (.t 132), none, true, 0, 0, false⟩,
    ⟨(some 134), .bin .sub (.t 129) (.t 133), none, false, 0, 0, false⟩,
    ⟨(some 14), .move (.t 134), none, false, 0, 0, false⟩])))))
  (.reg [
    ⟨(some 135), .bin .add (.t 68) (.c (.int .i64 1)), none, false, 0, 0, false⟩,
    ⟨(some 68), .move (.t 135), none, false, 0, 0, false⟩]))))
def a91b2 : ACode :=
  (.seq (.seq (.reg [
    ⟨(some 150), .move (.t 21), none, false, 0, 0, false⟩,
    ⟨(some 151), .bin .geq (.t 150) (.c (.int .i64 0)), none, false, 0, 0, false⟩])
  (.cond (.t 151)
  .skip
  (.exit 6)))
  (.seq (.block 7 (.regD [
    ⟨(some 154), .move (.t 20), none, false, 0, 0, false⟩,
    ⟨(some 155), .move (.t 21), none, false, 1, 0, false⟩,
    ⟨(some 156), .move (.t 20), none, false, 2, 0, false⟩,
    ⟨(some 157), .move (.t 21), none, false, 3, 0, false⟩,
    ⟨(some 158), .bin .add (.t 157) (.c (.int .i64 1)), none, false, 4, 8, false⟩,
    ⟨(some 159), .idxAddr 1 (.t 156) (.t 158), none, false, 5, 28, false⟩,
    ⟨(some 160), .load false 1 (.t 159), none, true, 6, 60, false⟩,
    ⟨(some 161), .move (.t 0), none, false, 7, 0, false⟩,
    ⟨(some 162), .nilCheck (.t 161), none, false, 8, 128, false⟩,
    ⟨(some 163), .fieldAddr 2 (.t 162), none, false, 9, 384, false⟩,
    ⟨(some 164), .load false 1 (.t 163), none, true, 10, 896, false⟩,
    ⟨(some 165), .fieldAddr 1 (.t 10), none, false, 11, 0, false⟩,
    ⟨(some 166), .load false 1 (.t 165), none, true, 12, 2048, false⟩,
    ⟨(some 167), .move (.t 21), none, false, 13, 0, false⟩,
    ⟨(some 168), .idxAddr 1 (.t 166) (.t 167), none, false, 14, 14336, false⟩,
    ⟨(some 169), .load false 1 (.t 168), none, true, 15, 30720, false⟩,
    ⟨(some 170), .move (.t 13), none, false, 16, 0, false⟩,
    ⟨(some 171), .move (.t 21), none, false, 17, 0, false⟩,
    ⟨(some 172), .idxAddr 1 (.t 170) (.t 171), none, false, 18, 196608, false⟩,
    ⟨(some 173), .load false 1 (.t 172), none, true, 19, 458752, false⟩,
    ⟨(some 174), .idxAddr 61 (.t 164) (.t 169), none, false, 20, 65408, true⟩,
    ⟨(some 175), .idxArr 61 1 (.t 174) (.t 173), none, false, 21, 2097024, true⟩,
    ⟨(some 176), .load false 1 (.t 175), none, true, 22, 4194176, true⟩,
    ⟨(some 177), .call (.f 165) [(.t 160), (.t 176)], none, true, 23, 8388604, true⟩,
    ⟨(some 178), .idxAddr 1 (.t 154) (.t 155), none, false, 24, 16777215, true⟩,
    ⟨none, .store 1 (.t 178) (.t 177), none, true, 25, 33554431, true⟩]))
  (.reg [
    ⟨(some 152), .move (.t 21), none, false, 0, 0, false⟩,
    ⟨(some 153), .bin .sub (.t 152) (.c (.int .i64 1)), none, false, 0, 0, false⟩,
    ⟨(some 21), .move (.t 153), none, false, 0, 0, false⟩])))
def a91b3 : ACode :=
  (.seq (.reg [
    ⟨(some 183), .bin .lss (.t 182) (.t 181), none, false, 0, 0, false⟩])
  (.seq (.cond (.t 183)
  .skip
  (.exit 8))
  (.seq (.block 9 (.seq (.reg [
    ⟨(some 184), .move (.t 182), none, false, 0, 0, false⟩,
    ⟨(some 185), .idxAddr 1 (.t 180) (.t 182), none, false, 0, 0, false⟩,
    ⟨(some 186), .load false 1 (.t 185), none, true, 0, 0, false⟩,
    ⟨(some 22), .move (.t 184), none, false, 0, 0, false⟩,
    ⟨(some 23), .move (.t 186), none, false, 0, 0, false⟩])
  (.seq (.regD [
    ⟨(some 187), .fieldAddr 2 (.t 12), none, false, 0, 0, false⟩,
    ⟨(some 188), .load false 1 (.t 187), none, true, 1, 1, false⟩,
    ⟨(some 189), .move (.t 0), none, false, 2, 0, false⟩,
    ⟨(some 190), .move (.t 23), none, false, 3, 0, false⟩,
    ⟨(some 191), .move (.t 13), none, false, 4, 0, false⟩,
    ⟨(some 192), .move (.t 22), none, false, 5, 0, false⟩,
    ⟨(some 193), .idxAddr 1 (.t 191) (.t 192), none, false, 6, 48, false⟩,
    ⟨(some 194), .load false 1 (.t 193), none, true, 7, 112, false⟩,
    ⟨(some 195), .move (.t 3), none, false, 8, 0, false⟩,
    ⟨(some 196), .move (.t 20), none, false, 9, 0, false⟩,
    ⟨(some 197), .move (.t 22), none, false, 10, 0, true⟩,
    ⟨(some 198), .bin .add (.t 197) (.c (.int .i64 1)), none, false, 11, 1024, true⟩,
    ⟨(some 199), .idxAddr 1 (.t 196) (.t 198), none, false, 12, 3584, true⟩,
    ⟨(some 200), .load false 1 (.t 199), none, true, 13, 7680, true⟩,
    ⟨(some 201), .bin .quo (.t 195) (.t 200), none, false, 14, 16128, true⟩,
    ⟨(some 202), .call (.f 91) [(.t 189), (.t 190), (.t 194), (.t 201)], none, true, 15, 32764, true⟩,
    ⟨(some 203), .buildSlice 3 (.agg [(.int .i64 0), (.int .i64 0), (.slice 0 [] .nil)]) 1 [(0, (.t 202))], none, false, 16, 65532, true⟩,
    ⟨(some 204), .append 3 40 (.t 188) (.t 203), none, true, 17, 131071, true⟩,
    ⟨(some 205), .fieldAddr 2 (.t 12), none, false, 18, 262143, true⟩,
    ⟨none, .store 1 (.t 205) (.t 204), none, true, 19, 524287, true⟩])
  (.reg [
    ⟨(some 206), .move (.t 3), none, false, 0, 0, false⟩,
    ⟨(some 207), .move (.t 20), none, false, 0, 0, false⟩,
    ⟨(some 208), .move (.t 22), none, false, 0, 0, false⟩,
    ⟨(some 209), .bin .add (.t 208) (.c (.int .i64 1)), none, false, 0, 0, false⟩,
    ⟨(some 210), .idxAddr 1 (.t 207) (.t 209), none, false, 0, 0, false⟩,
    ⟨(some 211), .load false 1 (.t 210), none, true, 0, 0, false⟩,
    ⟨(some 212), .bin .rem (.t 206) (.t 211), none, false, 0, 0, false⟩,
    ⟨(some 3), .move (.t 212), none, false, 0, 0, false⟩]))))
  (.reg [
    ⟨(some 213), .bin .add (.t 182) (.c (.int .i64 1)), none, false, 0, 0, false⟩,
    ⟨(some 182), .move (.t 213), none, false, 0, 0, false⟩]))))
def a91b4 : ACode :=
  (.seq (.reg [
    ⟨(some 31), .bin .lss (.t 30) (.t 29), none, false, 0, 0, false⟩])
  (.seq (.cond (.t 31)
  .skip
  (.exit 0))
  (.seq (.block 1 (.seq (.reg [
    ⟨(some 32), .move (.t 30), none, false, 0, 0, false⟩,
    ⟨(some 33), .idxAddr 3 (.t 28) (.t 30), none, false, 0, 0, false⟩,
    ⟨(some 34), .load true 3 (.t 33), none, true, 0, 0, false⟩,
    ⟨(some 10), .box 3 (.c (.agg [(.str ⟨#[]⟩), (.slice 0 [] .nil), (.int .i64 0)])), none, true, 0, 0, false⟩,
    ⟨(some 9), .move (.t 32), none, false, 0, 0, false⟩,
    ⟨none, .store 3 (.t 10) (.t 34), none, true, 0, 0, false⟩])
  (.seq (.seq (.reg [
    ⟨(some 35), .fieldAddr 2 (.t 10), none, false, 0, 0, false⟩,
    ⟨(some 36), .load false 1 (.t 35), none, true, 0, 0, false⟩,
    ⟨(some 37), .move (.t 1), none, false, 0, 0, false⟩,
    ⟨(some 38), .bin .neq (.t 36) (.t 37), none, false, 0, 0, false⟩])
  (.cond (.t 38)
  (.exit 1)
  .skip))
  (.seq (.seq (.reg [
    ⟨(some 39), .move (.t 0), none, false, 0, 0, false⟩,
    ⟨(some 40), .nilCheck (.t 39), none, false, 0, 0, false⟩,
    ⟨(some 41), .fieldAddr 3 (.t 40), none, false, 0, 0, false⟩,
    ⟨(some 42), .load false 1 (.t 41), none, true, 0, 0, false⟩,
    ⟨(some 43), .move (.t 9), none, false, 0, 0, false⟩,
    ⟨(some 44), .idxAddr 1 (.t 42) (.t 43), none, false, 0, 0, false⟩,
    ⟨(some 45), .load false 1 (.t 44), none, true, 0, 0, false⟩,
    ⟨(some 46), .move (.t 2), none, false, 0, 0, false⟩,
    ⟨(some 47), .bin .sub (.t 46) (.c (.int .i64 1)), none, false, 0, 0, false⟩,
    ⟨(some 48), .idxAddr 61 (.t 45) (.c (.int .i64 0)), none, false, 0, 0, false⟩,
    ⟨(some 49), .idxArr 61 1 (.t 48) (.t 47), none, false, 0, 0, false⟩,
    ⟨(some 50), .load false 1 (.t 49), none, true, 0, 0, false⟩,
    ⟨(some 11), .move (.t 50), none, false, 0, 0, false⟩])
  (.seq (.reg [
    ⟨(some 51), .move (.t 3), none, false, 0, 0, false⟩,
    ⟨(some 52), .move (.t 11), none, false, 0, 0, false⟩,
    ⟨(some 53), .bin .geq (.t 51) (.t 52), none, false, 0, 0, false⟩])
  (.cond (.t 53)
  (.seq (.reg [
    ⟨(some 54), .move (.t 3), none, false, 0, 0, false⟩,
    ⟨(some 55), .move (.t 11), none, false, 0, 0, false⟩,
    ⟨(some 56), .bin .sub (.t 54) (.t 55), none, false, 0, 0, false⟩,
    ⟨(some 3), .move (.t 56), none, false, 0, 0, false⟩])
  (.exit 1))
  .skip)))
  (.seq (.reg [
    ⟨(some 57), .move (.t 9), none, false, 0, 0, false⟩,
    ⟨(some 58), .build [(.int .i64 0), (.int .i64 0), (.slice 0 [] .nil)] [(0, 1, (.c (.int .i64 2))), (1, 1, (.t 57))], none, false, 0, 0, false⟩,
    ⟨(some 12), .box 3 (.c (.agg [(.int .i64 0), (.int .i64 0), (.slice 0 [] .nil)])), none, true, 0, 0, false⟩,
    ⟨none, .store 3 (.t 12) (.t 58), none, true, 0, 0, false⟩])
  (.seq (.reg [
    ⟨(some 59), .fieldAddr 1 (.t 10), none, false, 0, 0, false⟩,
    ⟨(some 60), .load false 1 (.t 59), none, true, 0, 0, false⟩,
    ⟨(some 61), .lenL (.t 60), none, false, 0, 0, false⟩,
    ⟨(some 62), .makeSlice 1 (.int .i64 0) 8 (.t 61) (.t 61), none, true, 0, 0, false⟩,
    ⟨(some 13), .move (.t 62), none, false, 0, 0, false⟩])
  (.seq (.reg [
    ⟨(some 63), .move (.t 2), none, false, 0, 0, false⟩,
    ⟨(some 64), .bin .sub (.t 63) (.c (.int .i64 1)), none, false, 0, 0, false⟩,
    ⟨(some 14), .move (.t 64), none, false, 0, 0, false⟩,
    ⟨(some 15), .move (.c (.int .i64 1)), none, false, 0, 0, false⟩])
  (.seq (.seq (.reg [
    ⟨(some 65), .fieldAddr 1 (.t 10), none, false, 0, 0, false⟩,
    ⟨(some 66), .load false 1 (.t 65), none, true, 0, 0, false⟩,
    ⟨(some 67), .lenL (.t 66), none, false, 0, 0, false⟩,
    ⟨(some 68), .move (.c (.int .i64 0)), none, false, 0, 0, false⟩])
  (.block 2 (.loop a91b1)))
  (.seq (.reg [
    ⟨(some 136), .fieldAddr 1 (.t 10), none, false, 0, 0, false⟩,
    ⟨(some 137), .load false 1 (.t 136), none, true, 0, 0, false⟩,
    ⟨(some 138), .lenL (.t 137), none, false, 0, 0, false⟩,
    ⟨(some 139), .bin .add (.t 138) (.c (.int .i64 1)), none, false, 0, 0, false⟩,
    ⟨(some 140), .makeSlice 1 (.int .i64 0) 8 (.t 139) (.t 139), none, true, 0, 0, false⟩,
    ⟨(some 20), .move (.t 140), none, false, 0, 0, false⟩])
  (.seq (.reg [
    ⟨(some 141), .move (.t 20), none, false, 0, 0, false⟩,
    ⟨(some 142), .fieldAddr 1 (.t 10), none, false, 0, 0, false⟩,
    ⟨(some 143), .load false 1 (.t 142), none, true, 0, 0, false⟩,
    ⟨(some 144), .lenL (.t 143), none, false, 0, 0, false⟩,
    ⟨(some 145), .idxAddr 1 (.t 141) (.t 144), none, false, 0, 0, false⟩,
    ⟨none, .store 1 (.t 145) (.c (.int .i64 1)), none, true, 0, 0, false⟩])
  (.seq (.seq (.reg [
    ⟨(some 146), .fieldAddr 1 (.t 10), none, false, 0, 0, false⟩,
    ⟨(some 147), .load false 1 (.t 146), none, true, 0, 0, false⟩,
    ⟨(some 148), .lenL (.t 147), none, false, 0, 0, false⟩,
    ⟨(some 149), .bin .sub (.t 148) (.c (.int .i64 1)), none, false, 0, 0, false⟩,
    ⟨(some 21), .move (.t 149), none, false, 0, 0, false⟩])
  (.block 6 (.loop a91b2)))
  (.seq (.seq (.reg [
    ⟨(some 179), .fieldAddr 1 (.t 10), none, false, 0, 0, false⟩,
    ⟨(some 180), .load false 1 (.t 179), none, true, 0, 0, false⟩,
    ⟨(some 181), .lenL (.t 180), none, false, 0, 0, false⟩,
    ⟨(some 182), .move (.c (.int .i64 0)), none, false, 0, 0, false⟩])
  (.block 8 (.loop a91b3)))
  (.seq (.reg [
    ⟨(some 214), .load true 3 (.t 12), none, true, 0, 0, false⟩,
    ⟨none, .store 3 (.t 8) (.t 214), none, true, 0, 0, false⟩])
  .ret)))))))))))))
  (.reg [
    ⟨(some 215), .bin .add (.t 30) (.c (.int .i64 1)), none, false, 0, 0, false⟩,
    ⟨(some 30), .move (.t 215), none, false, 0, 0, false⟩]))))
def a91 : AFunc := ⟨4, 217, (.seq (.reg [
    ⟨(some 8), .box 3 (.c (.agg [(.int .i64 0), (.int .i64 0), (.slice 0 [] .nil)])), none, true, 0, 0, false⟩])
  (.seq (.seq (.reg [
    ⟨(some 24), .move (.t 0), none, false, 0, 0, false⟩,
    ⟨(some 25), .nilCheck (.t 24), none, false, 0, 0, false⟩,
    ⟨(some 26), .fieldAddr 0 (.t 25), none, false, 0, 0, false⟩,
    ⟨(some 27), .fieldAddr 1 (.t 26), none, false, 0, 0, false⟩,
    ⟨(some 28), .load false 1 (.t 27), none, true, 0, 0, false⟩,
    ⟨(some 29), .lenL (.t 28), none, false, 0, 0, false⟩,
    ⟨(some 30), .move (.c (.int .i64 0)), none, false, 0, 0, false⟩])
  (.block 0 (.loop a91b4)))
  (.seq (.reg [
    ⟨(some 216), .build [(.int .i64 0), (.int .i64 0), (.slice 0 [] .nil)] [], none, false, 0, 0, false⟩,
    ⟨none, .store 3 (.t 8) (.t 216), none, true, 0, 0, false⟩])
  .ret))), [.cell 8 true 3]⟩
theorem fn91 : fnOf 91 = some a91 := by kernel_rfl
-- 144 madrigal/vals.terms
def a144b0 : ACode :=
  (.seq (.seq (.reg [
    ⟨(some 13), .move (.t 9), none, false, 0, 0, false⟩,
    ⟨(some 14), .move (.t 2), none, false, 0, 0, false⟩,
    ⟨(some 15), .bin .leq (.t 13) (.t 14), none, false, 0, 0, false⟩])
  (.cond (.t 15)
  .skip
  (.exit 0)))
  (.seq (.block 1 (.reg [
    ⟨(some 18), .move (.t 8), none, false, 0, 0, false⟩,
    ⟨(some 19), .move (.t 0), none, false, 0, 0, false⟩,
    ⟨(some 20), .nilCheck (.t 19), none, false, 0, 0, false⟩,
    ⟨(some 21), .fieldAddr 2 (.t 20), none, false, 0, 0, false⟩,
    ⟨(some 22), .load false 1 (.t 21), none, true, 0, 0, false⟩,
    ⟨(some 23), .move (.t 1), none, false, 0, 0, false⟩,
    ⟨(some 24), .move (.t 9), none, false, 0, 0, false⟩,
    ⟨(some 25), .idxAddr 61 (.t 22) (.t 23), none, false, 0, 0, false⟩,
    ⟨(some 26), .idxArr 61 1 (.t 25) (.t 24), none, false, 0, 0, false⟩,
    ⟨(some 27), .load false 1 (.t 26), none, true, 0, 0, false⟩,
    ⟨(some 28), .call (.f 124) [(.t 18), (.t 27)], none, true, 0, 0, false⟩,
    ⟨(some 8), .move (.t 28), none, false, 0, 0, false⟩]))
  (.reg [
    ⟨(some 16), .move (.t 9), none, false, 0, 0, false⟩,
    ⟨(some 17), .bin .add (.t 16) (.c (.int .i64 1)), none, false, 0, 0, false⟩,
    ⟨(some 9), .move (.t 17), none, false, 0, 0, false⟩])))
def a144b1 : ACode :=
  (.seq (.reg [
    ⟨(some 46), .bin .lss (.t 45) (.t 44), none, false, 0, 0, false⟩])
  (.seq (.cond (.t 46)
  .skip
  (.exit 4))
  (.seq (.block 5 (.seq (.reg [
    ⟨(some 47), .move (.t 45), none, false, 0, 0, false⟩,
    ⟨(some 12), .move (.t 47), none, false, 0, 0, false⟩])
  (.reg [
    ⟨(some 48), .move (.t 10), none, false, 0, 0, false⟩,
    ⟨(some 49), .move (.t 0), none, false, 0, 0, false⟩,
    ⟨(some 50), .move (.t 1), none, false, 0, 0, false⟩,
    ⟨(some 51), .move (.t 11), none, false, 0, 0, false⟩,
    ⟨(some 52), .move (.t 12), none, false, 0, 0, false⟩,
    ⟨(some 53), .call (.f 91) [(.t 49), (.t 50), (.t 51), (.t 52)], none, true, 0, 0, false⟩,
    ⟨(some 54), .buildSlice 3 (.agg [(.int .i64 0), (.int .i64 0), (.slice 0 [] .nil)]) 1 [(0, (.t 53))], none, false, 0, 0, false⟩,
    ⟨(some 55), .append 3 40 (.t 48) (.t 54), none, true, 0, 0, false⟩,
    ⟨(some 10), .move (.t 55), none, false, 0, 0, false⟩])))
  (.reg [
    ⟨(some 56), .bin .add (.t 45) (.c (.int .i64 1)), none, false, 0, 0, false⟩,
    ⟨(some 45), .move (.t 56), none, false, 0, 0, false⟩]))))
def a144b2 : ACode :=
  (.seq (.seq (.reg [
    ⟨(some 31), .move (.t 11), none, false, 0, 0, false⟩,
    ⟨(some 32), .move (.t 2), none, false, 0, 0, false⟩,
    ⟨(some 33), .bin .leq (.t 31) (.t 32), none, false, 0, 0, false⟩])
  (.cond (.t 33)
  .skip
  (.exit 2)))
  (.seq (.block 3 (.seq (.reg [
    ⟨(some 36), .move (.t 0), none, false, 0, 0, false⟩,
    ⟨(some 37), .nilCheck (.t 36), none, false, 0, 0, false⟩,
    ⟨(some 38), .fieldAddr 2 (.t 37), none, false, 0, 0, false⟩,
    ⟨(some 39), .load false 1 (.t 38), none, true, 0, 0, false⟩,
    ⟨(some 40), .move (.t 1), none, false, 0, 0, false⟩,
    ⟨(some 41), .move (.t 11), none, false, 0, 0, false⟩,
    ⟨(some 42), .idxAddr 61 (.t 39) (.t 40), none, false, 0, 0, false⟩,
    ⟨(some 43), .idxArr 61 1 (.t 42) (.t 41), none, false, 0, 0, false⟩,
    ⟨(some 44), .load false 1 (.t 43), none, true, 0, 0, false⟩,
    ⟨(some 45), .move (.c (.int .i64 0)), none, false, 0, 0, false⟩])
  (.block 4 (.loop a144b1))))
  (.reg [
    ⟨(some 34), .move (.t 11), none, false, 0, 0, false⟩,
    ⟨(some 35), .bin .add (.t 34) (.c (.int .i64 1)), none, false, 0, 0, false⟩,
    ⟨(some 11), .move (.t 35), none, false, 0, 0, false⟩])))
def a144 : AFunc := ⟨3, 58, (.seq (.reg [
    ⟨(some 6), .move (.c (.slice 0 [] .nil)), none, false, 0, 0, false⟩,
    ⟨(some 7), .move (.c (.int .i64 0)), none, false, 0, 0, false⟩])
  (.seq (.reg [
    ⟨(some 8), .move (.c (.int .i64 0)), none, false, 0, 0, false⟩])
  (.seq (.seq (.reg [
    ⟨(some 9), .move (.c (.int .i64 1)), none, false, 0, 0, false⟩])
  (.block 0 (.loop a144b0)))
  (.seq (.seq (.reg [
    ⟨(some 29), .move (.t 8), none, false, 0, 0, false⟩,
    ⟨(some 30), .bin .gtr (.t 29) (.c (.int .i64 4000)), none, false, 0, 0, false⟩])
  (.cond (.t 30)
  (.seq (.reg [
    ⟨(some 6), .move (.c (.slice 0 [] .nil)), none, false, 0, 0, false⟩,
    ⟨(some 7), .move (.c (.int .i64 2)), none, false, 0, 0, false⟩])
  .ret)
  .skip))
  (.seq (.reg [
    ⟨(some 10), .move (.c (.slice 0 [] .nil)), none, false, 0, 0, false⟩])
  (.seq (.seq (.reg [
    ⟨(some 11), .move (.c (.int .i64 1)), none, false, 0, 0, false⟩])
  (.block 2 (.loop a144b2)))
  (.seq (.reg [
    ⟨(some 57), .move (.t 10), none, false, 0, 0, false⟩,
    ⟨(some 6), .move (.t 57), none, false, 0, 0, false⟩,
    ⟨(some 7), .move (.c (.int .i64 0)), none, false, 0, 0, false⟩])
  .ret))))))), [.t 6, .t 7]⟩
theorem fn144 : fnOf 144 = some a144 := by kernel_rfl

end Go.Proofs.Tryz
/- What the table of counts satisfies: the rest of each operation is a sum that is told as at most MaxCount. -/
namespace Go.Proofs.Tryz
open Go Go.AE

theorem inner_congr {xs xs' x1 x1' : List Int} {p : Nat} : ∀ (d m : Nat) (v : Int), (∀ j, m ≤ j → j < m + d → xs.getD j 0 = xs'.getD j 0) → (∀ j, m ≤ j → j < m + d → x1.getD (p - j) 0 = x1'.getD (p - j) 0) → inner xs x1 p d m v = inner xs' x1' p d m v
  | 0, _, _, _, _ => rfl
  | d + 1, m, v, h1, h2 => by
    simp only [inner]
    rw [h1 m (by omega) (by omega), h2 m (by omega) (by omega)]
    exact inner_congr d (m + 1) _ (fun j a b => h1 j (by omega) (by omega)) (fun j a b => h2 j (by omega) (by omega))

theorem getD_set {α : Type} {l : List α} {i j : Nat} {x d : α} (hi : i < l.length) : (l.set i x).getD j d = if i = j then x else l.getD j d := by
  simp only [List.getD_eq_getElem?_getD, List.getElem?_set]
  by_cases h : i = j
  · subst h; simp [hi]
  · simp [h]
theorem getD_set_ne {α : Type} {l : List α} {i j : Nat} {x d : α} (h : i ≠ j) : (l.set i x).getD j d = l.getD j d := by
  simp only [List.getD_eq_getElem?_getD, List.getElem?_set, h, if_false]

theorem rowsDown_len {so : List (List Int)} {args : List Int} {p : Nat} : ∀ (K : Nat) (ri : List (List Int)), (rowsDown so args p K ri).length = ri.length
  | 0, _ => rfl
  | k + 1, ri => by simp only [rowsDown]; rw [rowsDown_len k]; simp [rowStep]
theorem rowsDown_get {so : List (List Int)} {args : List Int} {p : Nat} : ∀ (K : Nat) (ri : List (List Int)), K < ri.length → ∀ k, (rowsDown so args p K ri).getD k [] =
    if k < K then (ri.getD k []).set p (inner (so.getD (args.getD k 0).toNat []) ((rowsDown so args p K ri).getD (k + 1) []) p p 1 ((ri.getD k []).getD p 0)) else ri.getD k []
  | 0, ri, _, k => by simp [rowsDown]
  | K + 1, ri, hK, k => by
    have hl : K < (rowStep so args p ri K).length := by simp [rowStep]; omega
    have ih := rowsDown_get (so := so) (args := args) (p := p) K (rowStep so args p ri K) hl
    simp only [rowsDown]
    by_cases h1 : k < K
    · rw [ih k, if_pos h1, if_pos (by omega)]
      have e : (rowStep so args p ri K).getD k [] = ri.getD k [] := by unfold rowStep; exact getD_set_ne (by omega)
      rw [e]
    · rw [ih k, if_neg h1]
      by_cases h2 : k = K
      · subst h2
        rw [if_pos (by omega), ih (k + 1), if_neg (by omega)]
        have e : (rowStep so args p ri k).getD (k + 1) [] = ri.getD (k + 1) [] := by unfold rowStep; exact getD_set_ne (by omega)
        rw [e]
        unfold rowStep
        rw [getD_set (by omega), if_pos rfl]
      · rw [if_neg (by omega)]
        unfold rowStep
        exact getD_set_ne (by omega)

/-- The equation of a number of lists. -/
def Eqn (t : Tab) (i : Nat) (o : GOp) (k q : Nat) : Prop := ((t.2.getD i []).getD k []).getD q 0 = inner (t.1.getD (o.args.getD k 0).toNat []) ((t.2.getD i []).getD (k + 1) []) q q 1 0
structure Sem (ops : List GOp) (t : Tab) (done : Nat → Nat) : Prop where
  last : ∀ i o, ops[i]? = some o → (t.2.getD i []).getD o.args.length [] = zeros.set 0 1
  eq : ∀ i o k q, ops[i]? = some o → k < o.args.length → q < done i → Eqn t i o k q
  zero : ∀ i o k q, ops[i]? = some o → k < o.args.length → done i ≤ q → ((t.2.getD i []).getD k []).getD q 0 = 0

theorem opStep_sem {ops : List GOp} {nS p i : Nat} {t : Tab} {o : GOp} {done : Nat → Nat} (K : TabOK ops nS t) (hops : okOps ops nS) (hp : p < 60) (ho : ops[i]? = some o) (S : Sem ops t done) (hd : done i = p) (hle : ∀ j, done j ≤ p + 1) :
    Sem ops (opStep p t i o) (fun j => if j = i then p + 1 else done j) := by
  have hi : i < t.2.length := by rw [K.len]; exact (List.getElem?_eq_some_iff.1 ho).1
  have e1 : t.2[i]? = some (t.2.getD i []) := by
    rw [List.getD_eq_getElem?_getD, List.getElem?_eq_getElem hi]; rfl
  obtain ⟨q1, q2⟩ := K.rows i o _ ho e1
  have hs : ∀ r j, j ≠ p + 1 → ((opStep p t i o).1.getD r []).getD j 0 = (t.1.getD r []).getD j 0 := fun r j hj => by
    simp only [opStep]
    by_cases hr : o.res.toNat = r
    · subst hr
      by_cases hl : o.res.toNat < t.1.length
      · rw [getD_set hl, if_pos rfl, getD_set_ne (by omega)]
      · rw [List.set_eq_of_length_le (by omega)]
    · rw [getD_set_ne hr]
  have hne : ∀ j, j ≠ i → (opStep p t i o).2.getD j [] = t.2.getD j [] := fun j hj => by
    simp only [opStep]
    exact getD_set_ne (by omega)
  have hsame : (opStep p t i o).2.getD i [] = rowsDown t.1 o.args p o.args.length (t.2.getD i []) := by
    simp only [opStep]
    rw [getD_set hi, if_pos rfl]
  have hrow := rowsDown_get (so := t.1) (args := o.args) (p := p) o.args.length (t.2.getD i []) (by omega)
  generalize hri : rowsDown t.1 o.args p o.args.length (t.2.getD i []) = ri at hsame hrow
  have hoff : ∀ k q, q ≠ p → (ri.getD k []).getD q 0 = ((t.2.getD i []).getD k []).getD q 0 := fun k q hq => by
    rw [hrow k]
    split
    · exact getD_set_ne (by omega)
    · rfl
  refine ⟨fun j o' ho' => ?_, fun j o' k q ho' hk hq => ?_, fun j o' k q ho' hk hq => ?_⟩
  · by_cases hj : j = i
    · subst hj
      rw [ho] at ho'
      cases ho'
      rw [hsame, hrow, if_neg (by omega)]
      exact S.last _ _ ho
    · rw [hne j hj]; exact S.last _ _ ho'
  · by_cases hj : j = i
    · subst hj
      rw [ho] at ho'
      cases ho'
      simp only [if_true] at hq
      unfold Eqn
      rw [hsame]
      by_cases hqp : q = p
      · subst hqp
        have h0 := S.zero j o k q ho hk (by omega)
        have hlen := (q1.get (k := k) (by omega)).2.1
        have e : (ri.getD k []).getD q 0 = inner (t.1.getD (o.args.getD k 0).toNat []) (ri.getD (k + 1) []) q q 1 (((t.2.getD j []).getD k []).getD q 0) := by
          rw [hrow k, if_pos hk, getD_set (by omega), if_pos rfl]
        rw [e, h0]
        exact inner_congr _ _ _ (fun m a b => (hs _ _ (by omega)).symm) (fun m a b => rfl)
      · rw [hoff k q hqp, S.eq j o k q ho hk (by omega)]
        exact inner_congr _ _ _ (fun m a b => (hs _ _ (by omega)).symm) (fun m a b => (hoff _ _ (by omega)).symm)
    · have hq' : q < done j := by simpa [hj] using hq
      have := hle j
      unfold Eqn
      rw [hne j hj, S.eq j o' k q ho' hk hq']
      exact inner_congr _ _ _ (fun m a b => (hs _ _ (by omega)).symm) (fun m a b => rfl)
  · by_cases hj : j = i
    · subst hj
      rw [ho] at ho'
      cases ho'
      simp only [if_true] at hq
      rw [hsame, hoff k q (by omega)]
      exact S.zero _ _ _ _ ho hk (by omega)
    · rw [hne j hj]
      exact S.zero _ _ _ _ ho' hk (by simpa [hj] using hq)
theorem opsFrom_sem {ops : List GOp} {nS p : Nat} (hops : okOps ops nS) (hp : p < 60) : ∀ (os : List GOp) (i : Nat) (t : Tab), TabOK ops nS t → (∀ j o, os[j]? = some o → ops[i + j]? = some o) → os.length + i = ops.length →
    Sem ops t (fun j => if j < i then p + 1 else p) → Sem ops (opsFrom p os i t) (fun _ => p + 1) ∧ TabOK ops nS (opsFrom p os i t)
  | [], i, t, h, _, hl, S => by
    refine ⟨⟨S.last, fun j o k q ho hk hq => S.eq j o k q ho hk ?_, fun j o k q ho hk hq => S.zero j o k q ho hk ?_⟩, h⟩
    · have := (List.getElem?_eq_some_iff.1 ho).1
      simp at hl
      rw [if_pos (by omega)]; exact hq
    · have := (List.getElem?_eq_some_iff.1 ho).1
      simp at hl
      rw [if_pos (by omega)]; exact hq
  | o :: os, i, t, h, ho, hl, S => by
    have h0 := ho 0 o rfl
    have S' := opStep_sem h hops hp (by simpa using h0) S (by simp) (fun j => by split <;> omega)
    refine opsFrom_sem hops hp os (i + 1) _ (opStep_ok h hops hp (by simpa using h0)) (fun j o' hj => ?_) (by simp at hl; omega) ?_
    · have := ho (j + 1) o' (by simpa using hj)
      rw [show i + 1 + j = i + (j + 1) by omega]
      exact this
    · refine ⟨S'.last, fun j o k q ho hk hq => S'.eq j o k q ho hk ?_, fun j o k q ho hk hq => S'.zero j o k q ho hk ?_⟩
      · split at hq <;> (repeat' split) <;> omega
      · split at hq <;> (repeat' split) <;> omega
theorem sizesFrom_sem {ops : List GOp} {nS : Nat} (hops : okOps ops nS) : ∀ (d p : Nat) (t : Tab), p + d = 60 → TabOK ops nS t → Sem ops t (fun _ => p) → Sem ops (sizesFrom ops d p t) (fun _ => 60) ∧ TabOK ops nS (sizesFrom ops d p t)
  | 0, p, t, hd, h, S => by
    have : p = 60 := by omega
    subst this
    exact ⟨S, h⟩
  | d + 1, p, t, hd, h, S => by
    obtain ⟨S', h'⟩ := opsFrom_sem hops (p := p) (by omega) ops 0 t h (fun j o hj => by simpa using hj) (by simp) (by simpa using S)
    exact sizesFrom_sem hops d (p + 1) _ (by omega) h' S'
theorem tab0_sem (s : GSig) : Sem s.ops (tab0 s) (fun _ => 0) := by
  refine ⟨fun i o ho => ?_, fun i o k q ho hk hq => by omega, fun i o k q ho hk _ => ?_⟩
  · have e : (tab0 s).2.getD i [] = rest0 o := by simp [tab0, List.getD_eq_getElem?_getD, ho]
    rw [e]
    unfold rest0
    rw [getD_set (by simp), if_pos rfl]
  · have e : (tab0 s).2.getD i [] = rest0 o := by simp [tab0, List.getD_eq_getElem?_getD, ho]
    rw [e]
    unfold rest0
    rw [getD_set_ne (by omega)]
    have : (List.replicate (o.args.length + 1) zeros).getD k [] = zeros := by
      simp only [List.getD_eq_getElem?_getD, List.getElem?_replicate]
      rw [if_pos (by omega)]; rfl
    rw [this]
    simp only [zeros, List.getD_eq_getElem?_getD, List.getElem?_replicate]
    split <;> rfl
theorem tabOf_sem {s : GSig} (hs : okOps s.ops s.sorts.length) : Sem s.ops (tabOf s) (fun _ => 60) ∧ TabOK s.ops s.sorts.length (tabOf s) :=
  sizesFrom_sem hs 60 0 (tab0 s) (by omega) (tab0_ok s) (tab0_sem s)

/-! ### A number below a product of sums lies in one of the parts -/
theorem cap_le (x : Int) : cap x ≤ x := by unfold cap; omega
theorem cap_mono {x y : Int} (h : x ≤ y) : cap x ≤ cap y := by unfold cap; omega
theorem cap_add {x y : Int} (hx : 0 ≤ x) (hy : 0 ≤ y) : cap (x + y) ≤ cap x + cap y := by unfold cap; omega
theorem cap_mul {x y : Int} (hy : 0 ≤ y) : cap (x * y) ≤ cap (cap x * y) := by
  by_cases hx : x ≤ 1099511627776
  · rw [show cap x = x by unfold cap; omega]; exact Int.le_refl _
  · rw [show cap x = 1099511627776 by unfold cap; omega]
    by_cases h0 : y = 0
    · subst h0; simp
    · have : 1099511627776 * 1 ≤ 1099511627776 * y := Int.mul_le_mul_of_nonneg_left (by omega) (by omega)
      unfold cap
      omega
/-- The parts, added up. -/
def sumP (ahead : Int) (xs x1 : List Int) (p : Nat) : Nat → Nat → Int
  | 0, _ => 0
  | d + 1, m => cap (cap (ahead * xs.getD m 0) * x1.getD (p - m) 0) + sumP ahead xs x1 p d (m + 1)
theorem inner_sumP {ahead : Int} {xs x1 : List Int} {p : Nat} (ha : 0 ≤ ahead) (hs : ∀ j, 0 ≤ xs.getD j 0) (h1 : ∀ j, 0 ≤ x1.getD j 0) : ∀ (d m : Nat) (v : Int), 0 ≤ v → cap (ahead * inner xs x1 p d m v) ≤ cap (ahead * v) + sumP ahead xs x1 p d m
  | 0, m, v, _ => by simp [inner, sumP]
  | d + 1, m, v, hv => by
    have hxy : 0 ≤ xs.getD m 0 * x1.getD (p - m) 0 := Int.mul_nonneg (hs _) (h1 _)
    have ih := inner_sumP (p := p) ha hs h1 d (m + 1) (min (v + min (xs.getD m 0 * x1.getD (p - m) 0) 1099511627776) 1099511627776) (by omega)
    simp only [inner, sumP]
    generalize hw : xs.getD m 0 * x1.getD (p - m) 0 = w at *
    have b1 : cap (ahead * min (v + min w 1099511627776) 1099511627776) ≤ cap (ahead * v + ahead * w) := by
      refine cap_mono ?_
      rw [← Int.mul_add]
      exact Int.mul_le_mul_of_nonneg_left (by omega) ha
    have b2 := cap_add (Int.mul_nonneg ha hv) (Int.mul_nonneg ha hxy)
    have b3 : cap (ahead * w) ≤ cap (cap (ahead * xs.getD m 0) * x1.getD (p - m) 0) := by
      rw [← hw, ← Int.mul_assoc]
      exact cap_mul (h1 _)
    omega
theorem okRow.nonneg {x : List Int} (h : okRow x) (j : Nat) : 0 ≤ x.getD j 0 := by
  by_cases hj : j < 61
  · exact (h.get hj).2.1
  · rw [List.getD_eq_getElem?_getD, List.getElem?_eq_none (by rw [h.1]; omega)]; decide
theorem okRow.le {x : List Int} (h : okRow x) (j : Nat) : x.getD j 0 ≤ 1099511627776 := by
  by_cases hj : j < 61
  · exact (h.get hj).2.2
  · rw [List.getD_eq_getElem?_getD, List.getElem?_eq_none (by rw [h.1]; omega)]; decide
end Go.Proofs.Tryz
/- isSort, sized; terms, and that each is the same as itself. -/
namespace Go.Proofs.Tryz
open Go Go.AE
variable {T : Tbl} (hT : Std T)

include hT in
theorem isSort_ev {s : GSig} (n : Int) (h : List AE.Obj) : Ev T 88 [encSig s, .int .i64 n] h (.val (.bool (isSortB n s.sorts.length)), ⟨h, [], []⟩) := by
  refine Ev.walk (hT.sp _ (by decide)) ((hT.fn _).trans fn88) (hT.mode _) rfl ?_
  have hk : (h ++ [AE.Obj.row 2 [encSig s]])[h.length]? = some (.row 2 [encSig s]) := by simp
  have fl : loadAt false 1 (.ptr h.length 0 0 1) (h ++ [AE.Obj.row 2 [encSig s]]) = some (.slice 1 (s.sorts.map .str) .any) := by rw [ld_at hk]; rfl
  have td : ∀ b, tidy 0 h.length (.val (.bool b)) ⟨h ++ [AE.Obj.row 2 [encSig s]], [], []⟩ = (.val (.bool b), ⟨h, [], []⟩) := fun b => tidy_low rfl rfl ((Low.refl _ _).push (Nat.le_refl _)) (by simp)
  by_cases h0 : 0 ≤ n
  · simp (disch := first | omega | decide | (simp only [eget_eput', ↓reduceIte, Nat.reduceEqDiff]; done)) only [go_sem, ↓reduceIte, Nat.reduceEqDiff, Nat.reduceAdd, Nat.reduceMul, reduceCtorEq, fl, h0, isSortB, Bool.true_and, td]
  · simp (disch := first | omega | decide | (simp only [eget_eput', ↓reduceIte, Nat.reduceEqDiff]; done)) only [go_sem, ↓reduceIte, Nat.reduceEqDiff, Nat.reduceAdd, Nat.reduceMul, reduceCtorEq, fl, h0, isSortB, Bool.false_and, td]
def sizedB (n : Int) : Bool := decide (0 ≤ n) && decide (n ≤ 60)
include hT in
theorem sized_ev (n : Int) (h : List AE.Obj) : Ev T 89 [.int .i64 n] h (.val (.bool (sizedB n)), ⟨h, [], []⟩) := by
  refine Ev.walk (hT.sp _ (by decide)) ((hT.fn _).trans fn89) (hT.mode _) rfl ?_
  by_cases h0 : 0 ≤ n
  · simp (disch := first | omega | decide | (simp only [eget_eput', ↓reduceIte, Nat.reduceEqDiff]; done)) only [go_sem, ↓reduceIte, Nat.reduceEqDiff, Nat.reduceAdd, Nat.reduceMul, reduceCtorEq, h0, sizedB, Bool.true_and]
  · simp (disch := first | omega | decide | (simp only [eget_eput', ↓reduceIte, Nat.reduceEqDiff]; done)) only [go_sem, ↓reduceIte, Nat.reduceEqDiff, Nat.reduceAdd, Nat.reduceMul, reduceCtorEq, h0, sizedB, Bool.false_and]

/-- A term. -/
inductive IsT : PV → Prop where
  | mk (k n : Int) (sz : Nat) (es : List PV) (hs : es = [] ∨ sz = 3) (hl : es.length < 1000) (he : ∀ x, x ∈ es → IsT x) : IsT (.agg [.int .i64 k, .int .i64 n, .slice sz es .any])
theorem IsT.top {p : PV} (h : IsT p) : p.top = none := by
  induction h with
  | mk k n sz es hs hl he ih =>
    have : ∀ l : List PV, (∀ x ∈ l, x.top = none) → tops l = none := fun l => by
      induction l with
      | nil => intro _; rfl
      | cons x l ihl => intro hx; simp [tops, hx x (by simp), ihl fun y hy => hx y (by simp [hy]), omax]
    simp [PV.top, tops, omax, this es ih]
theorem IsT.pureW {p : PV} (h : IsT p) : p.pure = true ∧ p.weak = p := by
  induction h with
  | mk k n sz es hs hl he ih =>
    have : ∀ l : List PV, (∀ x ∈ l, x.pure = true ∧ x.weak = x) → pures l = true ∧ weaks l = l := fun l => by
      induction l with
      | nil => intro _; exact ⟨rfl, rfl⟩
      | cons x l ihl =>
        intro hx
        obtain ⟨a, b⟩ := ihl fun y hy => hx y (by simp [hy])
        obtain ⟨c, d⟩ := hx x (by simp)
        simp [pures, weaks, a, b, c, d]
    obtain ⟨a, b⟩ := this es ih
    simp [PV.pure, pures, PV.weak, weaks, a, b]
theorem IsT.cells {p : PV} (h : IsT p) : p.cells.length = 3 ∧ p.cells.all PV.isCell = true ∧ p.isDef = true ∧ ∃ cs, p = .agg cs := by
  cases h
  exact ⟨rfl, rfl, rfl, _, rfl⟩
theorem IsT.sub {p : PV} (h : IsT p) : sub true 3 p 0 = some p := by
  cases h
  rfl
end Go.Proofs.Tryz
/- A term is the same as itself. -/
namespace Go.Proofs.Tryz
open Go Go.AE
variable {T : Tbl} (hT : Std T)

@[go_sem] theorem tget0 {a : PV} {l : List PV} : (a :: l)[0]? = some a := rfl
@[go_sem] theorem tget1 {a b : PV} {l : List PV} : (a :: b :: l)[1]? = some b := rfl
@[go_sem] theorem tget2 {a b c : PV} {l : List PV} : (a :: b :: c :: l)[2]? = some c := rfl
@[go_sem] theorem tget3 {a b c d : PV} {l : List PV} : (a :: b :: c :: d :: l)[3]? = some d := rfl
@[go_sem] theorem cdef_agg {cs : List PV} : (PV.agg cs).isDef = true := rfl
theorem get_lt {es : List PV} {i : Nat} (h : i < es.length) : es[i]? = some es[i] := List.getElem?_eq_getElem h
theorem keepL {H : List AE.Obj} {k : Nat} {ob o2 : AE.Obj} (hx : H[k]? = some ob) : (H ++ [o2])[k]? = some ob := by
  rw [List.getElem?_append_left (List.getElem?_eq_some_iff.1 hx).1]; exact hx
include hT in
theorem equal_ev {sz : Nat} {es : List PV} (hs : es = [] ∨ sz = 3) (hl : es.length < 5000) (he : ∀ x, x ∈ es → IsT x ∧ ∀ h, Ev T 22 [x, x] h (.val (.bool true), ⟨h, [], []⟩)) (h : List AE.Obj) :
    Ev T 32 [.slice sz es .any, .slice sz es .any, .func (.func 22) [] []] h (.val (.bool true), ⟨h, [], []⟩) := by
  refine Ev.walk (hT.sp _ (by decide)) ((hT.fn _).trans fn32) (hT.mode _) rfl ?_
  simp (disch := first | omega | decide | (simp only [eget_eput', ↓reduceIte, Nat.reduceEqDiff]; done)) only [go_sem, ↓reduceIte, Nat.reduceEqDiff, Nat.reduceAdd, Nat.reduceMul, reduceCtorEq, bne_self_eq_false]
  refine wpC.loopM (fun n e st => ∃ (i : Nat) (H : List AE.Obj) (ws : List Nat), i + n = es.length ∧ Low h.length h H ∧ (∀ k ∈ ws, h.length ≤ k) ∧ eget e 1 = .slice sz es .any ∧ eget e 2 = .func (.func 22) [] [] ∧ eget e 15 = .slice sz es .any ∧ eget e 16 = .int .i64 (es.length : Int) ∧ eget e 17 = .int .i64 (i : Int) ∧ st = ⟨H, ws, []⟩) ?_ es.length _ _ ⟨0, h, [], by omega, Low.refl _ _, by simp, by simp (disch := first | omega | decide | (simp only [eget_eput', ↓reduceIte, Nat.reduceEqDiff]; done)) only [go_sem, ↓reduceIte, Nat.reduceEqDiff, Nat.reduceAdd, Nat.reduceMul, reduceCtorEq], by simp (disch := first | omega | decide | (simp only [eget_eput', ↓reduceIte, Nat.reduceEqDiff]; done)) only [go_sem, ↓reduceIte, Nat.reduceEqDiff, Nat.reduceAdd, Nat.reduceMul, reduceCtorEq], by simp (disch := first | omega | decide | (simp only [eget_eput', ↓reduceIte, Nat.reduceEqDiff]; done)) only [go_sem, ↓reduceIte, Nat.reduceEqDiff, Nat.reduceAdd, Nat.reduceMul, reduceCtorEq], by simp (disch := first | omega | decide | (simp only [eget_eput', ↓reduceIte, Nat.reduceEqDiff]; done)) only [go_sem, ↓reduceIte, Nat.reduceEqDiff, Nat.reduceAdd, Nat.reduceMul, reduceCtorEq], by simp (disch := first | omega | decide | (simp only [eget_eput', ↓reduceIte, Nat.reduceEqDiff]; done)) only [go_sem, ↓reduceIte, Nat.reduceEqDiff, Nat.reduceAdd, Nat.reduceMul, reduceCtorEq]; rfl, rfl⟩
  rintro n e st ⟨i, H, ws, hi, low, hw, e1, e2, e15, e16, e17, rfl⟩
  by_cases h1 : i < es.length
  · have ga := get_lt h1
    obtain ⟨tx, ex⟩ := he _ (List.getElem_mem h1)
    have hsz : sz = 3 := by
      rcases hs with rfl | h
      · simp at h1
      · exact h
    subst hsz
    obtain ⟨c1, c2, c3, c4⟩ := tx.cells
    have tt := tx.top
    have ts := tx.sub
    generalize es[i] = x at *
    have s1 := st_box (h := H) (ws := ws) (ups := []) (z := .agg [(.int .i64 0), (.int .i64 0), (.slice 0 [] .nil)]) (sz := 3) (c := x) c1 rfl c2 tt ⟨_, rfl⟩ c4
    have s2 := st_box (h := H ++ [AE.Obj.row 3 [x]]) (ws := wadd H.length ws) (ups := []) (z := .agg [(.int .i64 0), (.int .i64 0), (.slice 0 [] .nil)]) (sz := 3) (c := x) c1 rfl c2 tt ⟨_, rfl⟩ c4
    have b1 : (H ++ [AE.Obj.row 3 [x]])[H.length]? = some (.row 3 [x]) := by simp
    have b1' : ((H ++ [AE.Obj.row 3 [x]]) ++ [AE.Obj.row 3 [x]])[H.length]? = some (.row 3 [x]) := keepL b1
    have b2 : ((H ++ [AE.Obj.row 3 [x]]) ++ [AE.Obj.row 3 [x]])[(H ++ [AE.Obj.row 3 [x]]).length]? = some (.row 3 [x]) := by simp
    have low2 : Low h.length h ((H ++ [AE.Obj.row 3 [x]]) ++ [AE.Obj.row 3 [x]]) := by
      have := low.len
      exact (low.push (by omega)).push (by simp; omega)
    have hHl := low.len
    generalize hk2 : (H ++ [AE.Obj.row 3 [x]]).length = k2 at *
    have hk2' : h.length ≤ k2 := by rw [← hk2]; simp; omega
    generalize hH2 : (H ++ [AE.Obj.row 3 [x]]) ++ [AE.Obj.row 3 [x]] = H2 at *
    have l1 : loadAt true 3 (.ptr H.length 0 0 1) H2 = some x := by rw [ld_at b1', ts]
    have l2 : loadAt true 3 (.ptr k2 0 0 1) H2 = some x := by rw [ld_at b2, ts]
    simp (disch := first | omega | decide | (simp only [eget_eput', ↓reduceIte, Nat.reduceEqDiff]; done)) only [go_sem, ↓reduceIte, Nat.reduceEqDiff, Nat.reduceAdd, Nat.reduceMul, reduceCtorEq, a32b0, e1, e2, e15, e16, e17, h1, ga, s1, s2, hk2, ts, l1, l2, cb (ex H2), hT.prim, primOf, List.length_cons, List.length_nil]
    exact ⟨n - 1, by omega, i + 1, _, _, by omega, low2, wadd_low (by omega) (wadd_low (by omega) hw), rfl, rfl⟩
  · simp (disch := first | omega | decide | (simp only [eget_eput', ↓reduceIte, Nat.reduceEqDiff]; done)) only [go_sem, ↓reduceIte, Nat.reduceEqDiff, Nat.reduceAdd, Nat.reduceMul, reduceCtorEq, a32b0, e1, e2, e15, e16, e17, h1]
    exact tidy_low rfl rfl low hw
include hT in
theorem same_ev {p : PV} (hp : IsT p) : ∀ h, Ev T 22 [p, p] h (.val (.bool true), ⟨h, [], []⟩) := by
  induction hp with
  | mk k n sz es hs hl he ih =>
    intro h
    refine Ev.walk (hT.sp _ (by decide)) ((hT.fn _).trans fn22) (hT.mode _) rfl ?_
    have hx := IsT.mk k n sz es hs hl he
    have b1 : (h ++ [AE.Obj.row 3 [PV.agg [.int .i64 k, .int .i64 n, .slice sz es .any]]])[h.length]? = some (.row 3 [PV.agg [.int .i64 k, .int .i64 n, .slice sz es .any]]) := by simp
    generalize hH1 : h ++ [AE.Obj.row 3 [PV.agg [.int .i64 k, .int .i64 n, .slice sz es .any]]] = H1 at *
    have b1' : (H1 ++ [AE.Obj.row 3 [PV.agg [.int .i64 k, .int .i64 n, .slice sz es .any]]])[h.length]? = some (.row 3 [PV.agg [.int .i64 k, .int .i64 n, .slice sz es .any]]) := keepL b1
    have b2 : (H1 ++ [AE.Obj.row 3 [PV.agg [.int .i64 k, .int .i64 n, .slice sz es .any]]])[H1.length]? = some (.row 3 [PV.agg [.int .i64 k, .int .i64 n, .slice sz es .any]]) := by simp
    have low : Low h.length h (H1 ++ [AE.Obj.row 3 [PV.agg [.int .i64 k, .int .i64 n, .slice sz es .any]]]) := by
      rw [← hH1]
      exact ((Low.refl _ _).push (Nat.le_refl _)).push (by simp)
    generalize hH2 : H1 ++ [AE.Obj.row 3 [PV.agg [.int .i64 k, .int .i64 n, .slice sz es .any]]] = H2 at *
    have l0 : ∀ j : Nat, loadAt false 1 (.ptr h.length 0 j 1) H2 = ([PV.int .i64 k, .int .i64 n, .slice sz es .any])[j]? := fun j => by rw [ld_at b1']; rfl
    have l1 : ∀ j : Nat, loadAt false 1 (.ptr H1.length 0 j 1) H2 = ([PV.int .i64 k, .int .i64 n, .slice sz es .any])[j]? := fun j => by rw [ld_at b2]; rfl
    have g0 : ([PV.int .i64 k, .int .i64 n, .slice sz es .any])[0]? = some (.int .i64 k) := rfl
    have g1 : ([PV.int .i64 k, .int .i64 n, .slice sz es .any])[1]? = some (.int .i64 n) := rfl
    have g2 : ([PV.int .i64 k, .int .i64 n, .slice sz es .any])[2]? = some (.slice sz es .any) := rfl
    have eq := equal_ev hT hs (by omega) (fun x hx => ⟨he x hx, ih x hx⟩) H2
    have td : tidy 0 h.length (.val (.bool true)) ⟨H2, [], []⟩ = (.val (.bool true), ⟨h, [], []⟩) := tidy_low rfl rfl low (by simp)
    simp (disch := first | omega | decide | (simp only [eget_eput', ↓reduceIte, Nat.reduceEqDiff]; done)) only [go_sem, ↓reduceIte, Nat.reduceEqDiff, Nat.reduceAdd, Nat.reduceMul, reduceCtorEq, hH1, hH2, l0, l1, g0, g1, g2, cb eq, hT.prim, primOf, td, List.length_cons, List.length_nil]
end Go.Proofs.Tryz
/- small, brief: total. -/
namespace Go.Proofs.Tryz
open Go Go.AE
variable {T : Tbl} (hT : Std T)

def opBig (o : GOp) : Bool := decide (20 < o.args.length) || decide (200 < o.name.size)
def strBig (t : ByteArray) : Bool := decide (200 < t.size)
def smallB (s : GSig) : Bool := decide (s.ops.length ≤ 40) && decide (s.sorts.length ≤ 20) && !s.ops.any opBig && !s.sorts.any strBig
theorem smallB_fits {s : GSig} (h : smallB s = true) : Fits s := by
  simp only [smallB, Bool.and_eq_true, decide_eq_true_eq, Bool.not_eq_true', List.any_eq_false] at h
  obtain ⟨⟨⟨h1, h2⟩, h3⟩, h4⟩ := h
  refine ⟨by omega, by omega, fun t ht => ?_, fun o ho => ?_⟩
  · have := h4 t ht
    simp only [strBig, decide_eq_true_eq] at this
    omega
  · have := h3 o ho
    simp only [opBig, Bool.or_eq_true, decide_eq_true_eq, not_or] at this
    omega
include hT in
theorem small1_ev (o : GOp) (h : List AE.Obj) : Ev T 81 [encOp o] h (.val (.bool (opBig o)), ⟨h, [], []⟩) := by
  refine Ev.walk (hT.sp _ (by decide)) ((hT.fn _).trans fn81) (hT.mode _) rfl ?_
  have hk : (h ++ [AE.Obj.row 3 [encOp o]])[h.length]? = some (.row 3 [encOp o]) := by simp
  have l1 : loadAt false 1 (.ptr h.length 0 1 1) (h ++ [AE.Obj.row 3 [encOp o]]) = some (.slice 1 (o.args.map encI) .any) := by rw [ld_at hk]; rfl
  have l0 : loadAt false 1 (.ptr h.length 0 0 1) (h ++ [AE.Obj.row 3 [encOp o]]) = some (.str o.name) := by rw [ld_at hk]; rfl
  have td : ∀ b, tidy 0 h.length (.val (.bool b)) ⟨h ++ [AE.Obj.row 3 [encOp o]], [], []⟩ = (.val (.bool b), ⟨h, [], []⟩) := fun b => tidy_low rfl rfl ((Low.refl _ _).push (Nat.le_refl _)) (by simp)
  by_cases h0 : 20 < o.args.length
  · have h0' : (20 : Int) < (o.args.length : Int) := by omega
    simp (disch := first | omega | decide | (simp only [eget_eput', ↓reduceIte, Nat.reduceEqDiff]; done)) only [go_sem, ↓reduceIte, Nat.reduceEqDiff, Nat.reduceAdd, Nat.reduceMul, reduceCtorEq, l0, l1, h0, h0', opBig, Bool.true_or, td]
  · have h0' : ¬ (20 : Int) < (o.args.length : Int) := by omega
    by_cases h1 : 200 < o.name.size
    · have h1' : (200 : Int) < (o.name.size : Int) := by omega
      simp (disch := first | omega | decide | (simp only [eget_eput', ↓reduceIte, Nat.reduceEqDiff]; done)) only [go_sem, ↓reduceIte, Nat.reduceEqDiff, Nat.reduceAdd, Nat.reduceMul, reduceCtorEq, l0, l1, h0, h0', h1, h1', opBig, Bool.false_or, td]
    · have h1' : ¬ (200 : Int) < (o.name.size : Int) := by omega
      simp (disch := first | omega | decide | (simp only [eget_eput', ↓reduceIte, Nat.reduceEqDiff]; done)) only [go_sem, ↓reduceIte, Nat.reduceEqDiff, Nat.reduceAdd, Nat.reduceMul, reduceCtorEq, l0, l1, h0, h0', h1, h1', opBig, Bool.false_or, td]
include hT in
theorem small2_ev (t : ByteArray) (h : List AE.Obj) : Ev T 83 [.str t] h (.val (.bool (strBig t)), ⟨h, [], []⟩) := by
  refine Ev.walk (hT.sp _ (by decide)) ((hT.fn _).trans fn83) (hT.mode _) rfl ?_
  by_cases h1 : 200 < t.size
  · have h1' : (200 : Int) < (t.size : Int) := by omega
    simp (disch := first | omega | decide | (simp only [eget_eput', ↓reduceIte, Nat.reduceEqDiff]; done)) only [go_sem, ↓reduceIte, Nat.reduceEqDiff, Nat.reduceAdd, Nat.reduceMul, reduceCtorEq, h1, h1', strBig]
  · have h1' : ¬ (200 : Int) < (t.size : Int) := by omega
    simp (disch := first | omega | decide | (simp only [eget_eput', ↓reduceIte, Nat.reduceEqDiff]; done)) only [go_sem, ↓reduceIte, Nat.reduceEqDiff, Nat.reduceAdd, Nat.reduceMul, reduceCtorEq, h1, h1', strBig]
theorem any_of {α : Type} {p : α → Bool} {l : List α} {i : Nat} (hi : i < l.length) (h : p l[i] = true) : l.any p = true := List.any_eq_true.2 ⟨_, List.getElem_mem hi, h⟩
theorem any_none {α : Type} {p : α → Bool} {l : List α} (h : ∀ j (hj : j < l.length), p l[j] = false) : l.any p = false := by
  rw [List.any_eq_false]
  intro a ha
  obtain ⟨j, hj, rfl⟩ := List.getElem_of_mem ha
  simp [h j hj]
include hT in
theorem index139_tot {g : FuncId} {cap : List PV} {p : GOp → Bool} {h : List AE.Obj} (hg : T.prim g = none) {ops : List GOp} {m : SM} (hf : ∀ a, Ev T g (encOp a :: cap) h (.val (.bool (p a)), ⟨h, [], []⟩)) (hal : ops.length < 1000000) :
    ∃ r : Int, Ev T 139 [.slice 3 (ops.map encOp) m, .func (.func g) [] cap] h (.val (.int .i64 r), ⟨h, [], []⟩) ∧ (decide (0 ≤ r) = ops.any p) := by
  refine Ev.walkP (hT.sp _ (by decide)) ((hT.fn _).trans fn139) (hT.mode _) rfl ?_
  simp (disch := first | omega | decide | (simp only [eget_eput', ↓reduceIte, Nat.reduceEqDiff]; done)) only [go_sem, ↓reduceIte, Nat.reduceEqDiff, Nat.reduceAdd, Nat.reduceMul, reduceCtorEq]
  refine wpC.loopM (fun n e s => ∃ i : Nat, i + n = ops.length ∧ eget e 0 = .slice 3 (ops.map encOp) m ∧ eget e 1 = .func (.func g) [] cap ∧ eget e 7 = .int .i64 (ops.length : Int) ∧ eget e 8 = .int .i64 (i : Int) ∧ (∀ j (hj : j < ops.length), j < i → p ops[j] = false) ∧ s = ⟨h, [], []⟩) ?_ ops.length _ _ ⟨0, by simp, by simp (disch := first | omega | decide | (simp only [eget_eput', ↓reduceIte, Nat.reduceEqDiff]; done)) only [go_sem, ↓reduceIte, Nat.reduceEqDiff, Nat.reduceAdd, Nat.reduceMul, reduceCtorEq], by simp (disch := first | omega | decide | (simp only [eget_eput', ↓reduceIte, Nat.reduceEqDiff]; done)) only [go_sem, ↓reduceIte, Nat.reduceEqDiff, Nat.reduceAdd, Nat.reduceMul, reduceCtorEq], by simp (disch := first | omega | decide | (simp only [eget_eput', ↓reduceIte, Nat.reduceEqDiff]; done)) only [go_sem, ↓reduceIte, Nat.reduceEqDiff, Nat.reduceAdd, Nat.reduceMul, reduceCtorEq], by simp (disch := first | omega | decide | (simp only [eget_eput', ↓reduceIte, Nat.reduceEqDiff]; done)) only [go_sem, ↓reduceIte, Nat.reduceEqDiff, Nat.reduceAdd, Nat.reduceMul, reduceCtorEq]; rfl, fun j _ hj => by omega, rfl⟩
  rintro n e s ⟨i, hi, e0, e1, e7, e8, hp, rfl⟩
  by_cases h1 : i < ops.length
  · have ga := get_op h1
    have sb : sub true 3 (encOp ops[i]) 0 = some (encOp ops[i]) := rfl
    simp (disch := first | omega | decide | (simp only [eget_eput', ↓reduceIte, Nat.reduceEqDiff]; done)) only [go_sem, ↓reduceIte, Nat.reduceEqDiff, Nat.reduceAdd, Nat.reduceMul, reduceCtorEq, a139b0, e0, e1, e7, e8, h1, ga, sb, hg, cb (hf ops[i])]
    refine bifs (fun hpi => ⟨(i : Int), rfl, by rw [any_of h1 hpi]; simp⟩) (fun hpi => ⟨n - 1, by omega, i + 1, by omega, rfl, fun j hj hji => ?_, trivial⟩)
    by_cases hjj : j = i
    · subst hjj; exact hpi
    · exact hp j hj (by omega)
  · simp (disch := first | omega | decide | (simp only [eget_eput', ↓reduceIte, Nat.reduceEqDiff]; done)) only [go_sem, ↓reduceIte, Nat.reduceEqDiff, Nat.reduceAdd, Nat.reduceMul, reduceCtorEq, a139b0, e0, e1, e7, e8, h1]
    exact ⟨_, rfl, by rw [any_none fun j hj => hp j hj (by omega)]; rfl⟩
include hT in
theorem contains80_ev {g : FuncId} {cap : List PV} {p : GOp → Bool} {h : List AE.Obj} (hg : T.prim g = none) {ops : List GOp} {m : SM} (hf : ∀ a, Ev T g (encOp a :: cap) h (.val (.bool (p a)), ⟨h, [], []⟩)) (hal : ops.length < 1000000) :
    Ev T 80 [.slice 3 (ops.map encOp) m, .func (.func g) [] cap] h (.val (.bool (ops.any p)), ⟨h, [], []⟩) := by
  obtain ⟨r, hr, kr⟩ := index139_tot hT (m := m) hg hf hal
  rw [← kr]
  refine Ev.walk (hT.sp _ (by decide)) ((hT.fn _).trans fn80) (hT.mode _) rfl ?_
  simp (disch := first | omega | decide | (simp only [eget_eput', ↓reduceIte, Nat.reduceEqDiff]; done)) only [go_sem, ↓reduceIte, Nat.reduceEqDiff, Nat.reduceAdd, Nat.reduceMul, reduceCtorEq, cb hr, hT.prim, primOf]
include hT in
theorem index160_tot {g : FuncId} {cap : List PV} {p : ByteArray → Bool} {h : List AE.Obj} (hg : T.prim g = none) {ss : List ByteArray} {m : SM} (hf : ∀ a, Ev T g (.str a :: cap) h (.val (.bool (p a)), ⟨h, [], []⟩)) (hal : ss.length < 1000000) :
    ∃ r : Int, Ev T 160 [.slice 1 (ss.map .str) m, .func (.func g) [] cap] h (.val (.int .i64 r), ⟨h, [], []⟩) ∧ (decide (0 ≤ r) = ss.any p) := by
  refine Ev.walkP (hT.sp _ (by decide)) ((hT.fn _).trans fn160) (hT.mode _) rfl ?_
  simp (disch := first | omega | decide | (simp only [eget_eput', ↓reduceIte, Nat.reduceEqDiff]; done)) only [go_sem, ↓reduceIte, Nat.reduceEqDiff, Nat.reduceAdd, Nat.reduceMul, reduceCtorEq]
  refine wpC.loopM (fun n e s => ∃ i : Nat, i + n = ss.length ∧ eget e 0 = .slice 1 (ss.map .str) m ∧ eget e 1 = .func (.func g) [] cap ∧ eget e 7 = .int .i64 (ss.length : Int) ∧ eget e 8 = .int .i64 (i : Int) ∧ (∀ j (hj : j < ss.length), j < i → p ss[j] = false) ∧ s = ⟨h, [], []⟩) ?_ ss.length _ _ ⟨0, by simp, by simp (disch := first | omega | decide | (simp only [eget_eput', ↓reduceIte, Nat.reduceEqDiff]; done)) only [go_sem, ↓reduceIte, Nat.reduceEqDiff, Nat.reduceAdd, Nat.reduceMul, reduceCtorEq], by simp (disch := first | omega | decide | (simp only [eget_eput', ↓reduceIte, Nat.reduceEqDiff]; done)) only [go_sem, ↓reduceIte, Nat.reduceEqDiff, Nat.reduceAdd, Nat.reduceMul, reduceCtorEq], by simp (disch := first | omega | decide | (simp only [eget_eput', ↓reduceIte, Nat.reduceEqDiff]; done)) only [go_sem, ↓reduceIte, Nat.reduceEqDiff, Nat.reduceAdd, Nat.reduceMul, reduceCtorEq], by simp (disch := first | omega | decide | (simp only [eget_eput', ↓reduceIte, Nat.reduceEqDiff]; done)) only [go_sem, ↓reduceIte, Nat.reduceEqDiff, Nat.reduceAdd, Nat.reduceMul, reduceCtorEq]; rfl, fun j _ hj => by omega, rfl⟩
  rintro n e s ⟨i, hi, e0, e1, e7, e8, hp, rfl⟩
  by_cases h1 : i < ss.length
  · have ga := get_str h1
    simp (disch := first | omega | decide | (simp only [eget_eput', ↓reduceIte, Nat.reduceEqDiff]; done)) only [go_sem, ↓reduceIte, Nat.reduceEqDiff, Nat.reduceAdd, Nat.reduceMul, reduceCtorEq, a160b0, e0, e1, e7, e8, h1, ga, hg, cb (hf ss[i])]
    refine bifs (fun hpi => ⟨(i : Int), rfl, by rw [any_of h1 hpi]; simp⟩) (fun hpi => ⟨n - 1, by omega, i + 1, by omega, rfl, fun j hj hji => ?_, trivial⟩)
    by_cases hjj : j = i
    · subst hjj; exact hpi
    · exact hp j hj (by omega)
  · simp (disch := first | omega | decide | (simp only [eget_eput', ↓reduceIte, Nat.reduceEqDiff]; done)) only [go_sem, ↓reduceIte, Nat.reduceEqDiff, Nat.reduceAdd, Nat.reduceMul, reduceCtorEq, a160b0, e0, e1, e7, e8, h1]
    exact ⟨_, rfl, by rw [any_none fun j hj => hp j hj (by omega)]; rfl⟩
include hT in
theorem contains82_ev {g : FuncId} {cap : List PV} {p : ByteArray → Bool} {h : List AE.Obj} (hg : T.prim g = none) {ss : List ByteArray} {m : SM} (hf : ∀ a, Ev T g (.str a :: cap) h (.val (.bool (p a)), ⟨h, [], []⟩)) (hal : ss.length < 1000000) :
    Ev T 82 [.slice 1 (ss.map .str) m, .func (.func g) [] cap] h (.val (.bool (ss.any p)), ⟨h, [], []⟩) := by
  obtain ⟨r, hr, kr⟩ := index160_tot hT (m := m) hg hf hal
  rw [← kr]
  refine Ev.walk (hT.sp _ (by decide)) ((hT.fn _).trans fn82) (hT.mode _) rfl ?_
  simp (disch := first | omega | decide | (simp only [eget_eput', ↓reduceIte, Nat.reduceEqDiff]; done)) only [go_sem, ↓reduceIte, Nat.reduceEqDiff, Nat.reduceAdd, Nat.reduceMul, reduceCtorEq, cb hr, hT.prim, primOf]
include hT in
theorem small_ev (s : GSig) (h : List AE.Obj) : Ev T 16 [encSig s] h (.val (.bool (smallB s)), ⟨h, [], []⟩) := by
  refine Ev.walk (hT.sp _ (by decide)) ((hT.fn _).trans fn16) (hT.mode _) rfl ?_
  have hk : (h ++ [AE.Obj.row 2 [encSig s]])[h.length]? = some (.row 2 [encSig s]) := by simp
  have l0 : loadAt false 1 (.ptr h.length 0 0 1) (h ++ [AE.Obj.row 2 [encSig s]]) = some (.slice 1 (s.sorts.map .str) .any) := by rw [ld_at hk]; rfl
  have l1 : loadAt false 1 (.ptr h.length 0 1 1) (h ++ [AE.Obj.row 2 [encSig s]]) = some (.slice 3 (s.ops.map encOp) .any) := by rw [ld_at hk]; rfl
  have td : ∀ b, tidy 0 h.length (.val (.bool b)) ⟨h ++ [AE.Obj.row 2 [encSig s]], [], []⟩ = (.val (.bool b), ⟨h, [], []⟩) := fun b => tidy_low rfl rfl ((Low.refl _ _).push (Nat.le_refl _)) (by simp)
  by_cases h0 : s.ops.length ≤ 40
  · have h0' : (s.ops.length : Int) ≤ 40 := by omega
    by_cases h1 : s.sorts.length ≤ 20
    · have h1' : (s.sorts.length : Int) ≤ 20 := by omega
      have c1 := contains80_ev hT (m := .any) (g := 81) (cap := []) (p := opBig) (ops := s.ops) (by rw [hT.prim]; rfl) (fun a => small1_ev hT a (h ++ [AE.Obj.row 2 [encSig s]])) (by omega)
      have c2 := contains82_ev hT (m := .any) (g := 83) (cap := []) (p := strBig) (ss := s.sorts) (by rw [hT.prim]; rfl) (fun a => small2_ev hT a (h ++ [AE.Obj.row 2 [encSig s]])) (by omega)
      simp (disch := first | omega | decide | (simp only [eget_eput', ↓reduceIte, Nat.reduceEqDiff]; done)) only [go_sem, ↓reduceIte, Nat.reduceEqDiff, Nat.reduceAdd, Nat.reduceMul, reduceCtorEq, l0, l1, h0, h0', h1, h1', smallB, Bool.true_and, cb c1, cb c2, hT.prim, primOf, td]
      cases s.ops.any opBig <;> rfl
    · have h1' : ¬ (s.sorts.length : Int) ≤ 20 := by omega
      simp (disch := first | omega | decide | (simp only [eget_eput', ↓reduceIte, Nat.reduceEqDiff]; done)) only [go_sem, ↓reduceIte, Nat.reduceEqDiff, Nat.reduceAdd, Nat.reduceMul, reduceCtorEq, l0, l1, h0, h0', h1, h1', smallB, Bool.true_and, Bool.false_and, td]
  · have h0' : ¬ (s.ops.length : Int) ≤ 40 := by omega
    simp (disch := first | omega | decide | (simp only [eget_eput', ↓reduceIte, Nat.reduceEqDiff]; done)) only [go_sem, ↓reduceIte, Nat.reduceEqDiff, Nat.reduceAdd, Nat.reduceMul, reduceCtorEq, l0, l1, h0, h0', smallB, Bool.false_and, td]
end Go.Proofs.Tryz
/- brief: total. -/
namespace Go.Proofs.Tryz
open Go Go.AE
variable {T : Tbl} (hT : Std T)

include hT in
theorem brief_b0 {s : GSig} (hs : Fits s) {size : Int} {h : List AE.Obj} {L : Nat} {Q : AExit → List PV → St → Prop} {i n : Nat} {many : Int} {e : List PV} (hm : 0 ≤ many ∧ many ≤ 300)
    (e1 : eget e 1 = .int .i64 size) (e2 : eget e 2 = .ptr h.length 0 0 1) (e5 : eget e 5 = .int .i64 (i : Int)) (e6 : eget e 6 = .int .i64 many) (e7 : eget e 7 = .int .i64 (n : Int)) (hn : n ≤ 13) (e34 : eget e 34 = .int .i64 (L : Int)) (e35 : eget e 35 = .int .i64 (i : Int))
    (q1 : ∀ e', eget e' 4 = .bool false → Q .ret e' ⟨h ++ [.row 2 [encSig s]], [], []⟩)
    (q2 : ∀ e', eget e' 1 = .int .i64 size → eget e' 2 = .ptr h.length 0 0 1 → eget e' 34 = .int .i64 (L : Int) → eget e' 35 = .int .i64 (i : Int) → Q (.exit 2) e' ⟨h ++ [.row 2 [encSig s]], [], []⟩) : wpC T (.loop a27b0) e ⟨h ++ [.row 2 [encSig s]], [], []⟩ Q := by
  have hk : (h ++ [AE.Obj.row 2 [encSig s]])[h.length]? = some (.row 2 [encSig s]) := by simp
  have ll : loadAt true 2 (.ptr h.length 0 0 1) (h ++ [AE.Obj.row 2 [encSig s]]) = some (encSig s) := by rw [ld_at hk]; rfl
  refine wpC.loopM (fun d e st => ∃ (n : Nat) (many : Int), n + d = 13 ∧ (0 ≤ many ∧ many ≤ 300) ∧ eget e 1 = .int .i64 size ∧ eget e 2 = .ptr h.length 0 0 1 ∧ eget e 5 = .int .i64 (i : Int) ∧ eget e 6 = .int .i64 many ∧ eget e 7 = .int .i64 (n : Int) ∧ eget e 34 = .int .i64 (L : Int) ∧ eget e 35 = .int .i64 (i : Int) ∧ st = ⟨h ++ [.row 2 [encSig s]], [], []⟩) ?_ (13 - n) _ _ ⟨n, many, by omega, hm, e1, e2, e5, e6, e7, e34, e35, rfl⟩
  rintro d e st ⟨n, many, hd, hm, e1, e2, e5, e6, e7, e34, e35, rfl⟩
  by_cases h1 : (n : Int) ≤ min size 12
  · obtain ⟨r, hr, kr⟩ := rcount_tot hT hs (i : Int) (n : Int) (h ++ [.row 2 [encSig s]])
    obtain ⟨k1, k2⟩ := kr
    simp (disch := first | omega | decide | (simp only [eget_eput', ↓reduceIte, Nat.reduceEqDiff]; done)) only [go_sem, ↓reduceIte, Nat.reduceEqDiff, Nat.reduceAdd, Nat.reduceMul, reduceCtorEq, a27b0, e1, e2, e5, e6, e7, e34, e35, h1, ll, cb hr, hT.prim, primOf, wrap64 (show -9223372036854775808 ≤ many + r.1 by omega) (show many + r.1 ≤ 9223372036854775807 by omega)]
    refine bifs (fun _ => q1 _ (by simp (disch := first | omega | decide | (simp only [eget_eput', ↓reduceIte, Nat.reduceEqDiff]; done)) only [go_sem, ↓reduceIte, Nat.reduceEqDiff, Nat.reduceAdd, Nat.reduceMul, reduceCtorEq])) fun _ => bifs (fun _ => q1 _ (by simp (disch := first | omega | decide | (simp only [eget_eput', ↓reduceIte, Nat.reduceEqDiff]; done)) only [go_sem, ↓reduceIte, Nat.reduceEqDiff, Nat.reduceAdd, Nat.reduceMul, reduceCtorEq])) fun h3 => ?_
    have h3' : many + r.1 ≤ 300 := by simpa using h3
    exact ⟨d - 1, by omega, n + 1, many + r.1, by omega, ⟨by omega, h3'⟩, rfl, rfl, trivial⟩
  · simp (disch := first | omega | decide | (simp only [eget_eput', ↓reduceIte, Nat.reduceEqDiff]; done)) only [go_sem, ↓reduceIte, Nat.reduceEqDiff, Nat.reduceAdd, Nat.reduceMul, reduceCtorEq, a27b0, e1, e2, e5, e6, e7, e34, e35, h1]
    exact q2 _ (by simp (disch := first | omega | decide | (simp only [eget_eput', ↓reduceIte, Nat.reduceEqDiff]; done)) only [go_sem, ↓reduceIte, Nat.reduceEqDiff, Nat.reduceAdd, Nat.reduceMul, reduceCtorEq, e1]) (by simp (disch := first | omega | decide | (simp only [eget_eput', ↓reduceIte, Nat.reduceEqDiff]; done)) only [go_sem, ↓reduceIte, Nat.reduceEqDiff, Nat.reduceAdd, Nat.reduceMul, reduceCtorEq, e2]) (by simp (disch := first | omega | decide | (simp only [eget_eput', ↓reduceIte, Nat.reduceEqDiff]; done)) only [go_sem, ↓reduceIte, Nat.reduceEqDiff, Nat.reduceAdd, Nat.reduceMul, reduceCtorEq, e34]) (by simp (disch := first | omega | decide | (simp only [eget_eput', ↓reduceIte, Nat.reduceEqDiff]; done)) only [go_sem, ↓reduceIte, Nat.reduceEqDiff, Nat.reduceAdd, Nat.reduceMul, reduceCtorEq, e35])
include hT in
theorem brief_tot {s : GSig} (hsm : smallB s = true) (size : Int) (h : List AE.Obj) : ∃ r, Ev T 27 [encSig s, .int .i64 size] h (.val (.bool r), ⟨h, [], []⟩) ∧ True := by
  refine Ev.walkP (hT.sp _ (by decide)) ((hT.fn _).trans fn27) (hT.mode _) rfl ?_
  have hs := smallB_fits hsm
  have hs1 := hs.nS
  have hk : (h ++ [AE.Obj.row 2 [encSig s]])[h.length]? = some (.row 2 [encSig s]) := by simp
  have ll : loadAt true 2 (.ptr h.length 0 0 1) (h ++ [AE.Obj.row 2 [encSig s]]) = some (encSig s) := by rw [ld_at hk]; rfl
  have l0 : loadAt false 1 (.ptr h.length 0 0 1) (h ++ [AE.Obj.row 2 [encSig s]]) = some (.slice 1 (s.sorts.map .str) .any) := by rw [ld_at hk]; rfl
  have td : ∀ b, ∃ a, tidy 0 h.length (.val (.bool b)) ⟨h ++ [AE.Obj.row 2 [encSig s]], [], []⟩ = (.val (.bool a), ⟨h, [], []⟩) ∧ True := fun b => ⟨b, tidy_low rfl rfl ((Low.refl _ _).push (Nat.le_refl _)) (by simp), trivial⟩
  have sm := small_ev hT s (h ++ [AE.Obj.row 2 [encSig s]])
  rw [hsm] at sm
  obtain ⟨c, hc, _⟩ := rcheck_tot hT s hs (h ++ [AE.Obj.row 2 [encSig s]])
  have main : ∀ (Q : AExit → List PV → St → Prop) (e : List PV), eget e 1 = .int .i64 size → eget e 2 = .ptr h.length 0 0 1 → eget e 34 = .int .i64 (s.sorts.length : Int) → eget e 35 = .int .i64 0 →
      (∀ e', eget e' 4 = .bool false → Q .ret e' ⟨h ++ [.row 2 [encSig s]], [], []⟩) → (∀ e', Q (.exit 0) e' ⟨h ++ [.row 2 [encSig s]], [], []⟩) → wpC T (.loop a27b1) e ⟨h ++ [.row 2 [encSig s]], [], []⟩ Q := by
    intro Q e e1 e2 e34 e35 q1 q2
    refine wpC.loopM (fun d e st => ∃ i : Nat, i + d = s.sorts.length ∧ eget e 1 = .int .i64 size ∧ eget e 2 = .ptr h.length 0 0 1 ∧ eget e 34 = .int .i64 (s.sorts.length : Int) ∧ eget e 35 = .int .i64 (i : Int) ∧ st = ⟨h ++ [.row 2 [encSig s]], [], []⟩) ?_ s.sorts.length _ _ ⟨0, by omega, e1, e2, e34, e35, rfl⟩
    rintro d e st ⟨i, hd, e1, e2, e34, e35, rfl⟩
    by_cases h1 : i < s.sorts.length
    · simp (disch := first | omega | decide | (simp only [eget_eput', ↓reduceIte, Nat.reduceEqDiff]; done)) only [go_sem, ↓reduceIte, Nat.reduceEqDiff, Nat.reduceAdd, Nat.reduceMul, reduceCtorEq, a27b1, e1, e2, e34, e35, h1]
      refine brief_b0 hT hs (i := i) (n := 1) (many := 0) (L := s.sorts.length) (size := size) (by omega) (by simp (disch := first | omega | decide | (simp only [eget_eput', ↓reduceIte, Nat.reduceEqDiff]; done)) only [go_sem, ↓reduceIte, Nat.reduceEqDiff, Nat.reduceAdd, Nat.reduceMul, reduceCtorEq, e1]) (by simp (disch := first | omega | decide | (simp only [eget_eput', ↓reduceIte, Nat.reduceEqDiff]; done)) only [go_sem, ↓reduceIte, Nat.reduceEqDiff, Nat.reduceAdd, Nat.reduceMul, reduceCtorEq, e2]) (by simp (disch := first | omega | decide | (simp only [eget_eput', ↓reduceIte, Nat.reduceEqDiff]; done)) only [go_sem, ↓reduceIte, Nat.reduceEqDiff, Nat.reduceAdd, Nat.reduceMul, reduceCtorEq]) (by simp (disch := first | omega | decide | (simp only [eget_eput', ↓reduceIte, Nat.reduceEqDiff]; done)) only [go_sem, ↓reduceIte, Nat.reduceEqDiff, Nat.reduceAdd, Nat.reduceMul, reduceCtorEq]) (by simp (disch := first | omega | decide | (simp only [eget_eput', ↓reduceIte, Nat.reduceEqDiff]; done)) only [go_sem, ↓reduceIte, Nat.reduceEqDiff, Nat.reduceAdd, Nat.reduceMul, reduceCtorEq]; rfl) (by omega) (by simp (disch := first | omega | decide | (simp only [eget_eput', ↓reduceIte, Nat.reduceEqDiff]; done)) only [go_sem, ↓reduceIte, Nat.reduceEqDiff, Nat.reduceAdd, Nat.reduceMul, reduceCtorEq, e34]) (by simp (disch := first | omega | decide | (simp only [eget_eput', ↓reduceIte, Nat.reduceEqDiff]; done)) only [go_sem, ↓reduceIte, Nat.reduceEqDiff, Nat.reduceAdd, Nat.reduceMul, reduceCtorEq, e35]) (fun e' h4 => ?_) (fun e' e1 e2 e34 e35 => ?_)
      · exact q1 _ h4
      · simp (disch := first | omega | decide | (simp only [eget_eput', ↓reduceIte, Nat.reduceEqDiff]; done)) only [go_sem, ↓reduceIte, Nat.reduceEqDiff, Nat.reduceAdd, Nat.reduceMul, reduceCtorEq, e1, e2, e34, e35]
        exact ⟨d - 1, by omega, i + 1, by omega, rfl, trivial⟩
    · simp (disch := first | omega | decide | (simp only [eget_eput', ↓reduceIte, Nat.reduceEqDiff]; done)) only [go_sem, ↓reduceIte, Nat.reduceEqDiff, Nat.reduceAdd, Nat.reduceMul, reduceCtorEq, a27b1, e1, e2, e34, e35, h1]
      exact q2 _
  simp (disch := first | omega | decide | (simp only [eget_eput', ↓reduceIte, Nat.reduceEqDiff]; done)) only [go_sem, ↓reduceIte, Nat.reduceEqDiff, Nat.reduceAdd, Nat.reduceMul, reduceCtorEq, ll, l0, cb sm, cb hc, hT.prim, primOf]
  repeat' first | exact ⟨_, rfl, trivial⟩ | exact td _ | refine bifs (fun _ => ?_) (fun _ => ?_)
  all_goals
    refine main _ _ (by simp (disch := first | omega | decide | (simp only [eget_eput', ↓reduceIte, Nat.reduceEqDiff]; done)) only [go_sem, ↓reduceIte, Nat.reduceEqDiff, Nat.reduceAdd, Nat.reduceMul, reduceCtorEq]) (by simp (disch := first | omega | decide | (simp only [eget_eput', ↓reduceIte, Nat.reduceEqDiff]; done)) only [go_sem, ↓reduceIte, Nat.reduceEqDiff, Nat.reduceAdd, Nat.reduceMul, reduceCtorEq]) (by simp (disch := first | omega | decide | (simp only [eget_eput', ↓reduceIte, Nat.reduceEqDiff]; done)) only [go_sem, ↓reduceIte, Nat.reduceEqDiff, Nat.reduceAdd, Nat.reduceMul, reduceCtorEq]) (by simp (disch := first | omega | decide | (simp only [eget_eput', ↓reduceIte, Nat.reduceEqDiff]; done)) only [go_sem, ↓reduceIte, Nat.reduceEqDiff, Nat.reduceAdd, Nat.reduceMul, reduceCtorEq]) (fun e' h4 => ?_) (fun e' => ?_)
    · simp (disch := first | omega | decide | (simp only [eget_eput', ↓reduceIte, Nat.reduceEqDiff]; done)) only [go_sem, ↓reduceIte, Nat.reduceEqDiff, Nat.reduceAdd, Nat.reduceMul, reduceCtorEq, h4]
      exact ⟨_, rfl, trivial⟩
    · simp (disch := first | omega | decide | (simp only [eget_eput', ↓reduceIte, Nat.reduceEqDiff]; done)) only [go_sem, ↓reduceIte, Nat.reduceEqDiff, Nat.reduceAdd, Nat.reduceMul, reduceCtorEq]
      exact ⟨_, rfl, trivial⟩
end Go.Proofs.Tryz
/- nth: the sizes of the arguments. -/
namespace Go.Proofs.Tryz
open Go Go.AE
variable {T : Tbl} (hT : Std T)

/-- The table, as nth reads it at one operation. -/
structure NthC (s : GSig) (TAB : PV) (i : Nat) (o : GOp) (so ri : List (List Int)) (rest : List PV) : Prop where
  t1 : sub false 1 TAB 1 = some (.slice 3 (s.ops.map encOp) .any)
  t2 : sub false 1 TAB 2 = some (.slice 61 (so.map arr) .any)
  t3 : sub false 1 TAB 3 = some (.slice 1 rest .any)
  ro : so.length = s.sorts.length
  okS : okRows so
  ho : s.ops[i]? = some o
  args : okArgs o.args s.sorts.length
  al : o.args.length < 900
  gr : rest[i]? = some (.slice 61 (ri.map arr) .any)
  rl : ri.length = o.args.length + 1
  okR : okRows ri
  eqn : ∀ k q, k < o.args.length → q < 60 → (ri.getD k []).getD q 0 = inner (so.getD (o.args.getD k 0).toNat []) (ri.getD (k + 1) []) q q 1 0
theorem ld_arr {x : List Int} (h : okRow x) {m : Nat} (hm : m < 61) : sub false 1 (arr x) m = some (.int .i64 (x.getD m 0)) := by
  have := (h.get hm).1
  show (x.map encI)[m]? = _
  rw [List.getElem?_map, this]; rfl
theorem get_arr {l : List (List Int)} (h : okRows l) {k : Nat} (hk : k < l.length) : (l.map arr)[k]? = some (arr (l.getD k [])) := by
  rw [List.getElem?_map, (h.get hk).1]; rfl
theorem cap_def {x : Int} : min x 1099511627776 = cap x := rfl
theorem cap_nn {x : Int} (h : 0 ≤ x) : 0 ≤ cap x := by unfold cap; omega
theorem cap_top (x : Int) : cap x ≤ 1099511627776 := by unfold cap; omega
@[go_sem] theorem sub_slice0 {sz n : Nat} {es : List PV} {m : SM} : sub false sz (.slice n es m) 0 = some (.slice n es m) := rfl

variable {s : GSig} {TAB : PV} {i : Nat} {o : GOp} {so ri : List (List Int)} {rest : List PV}
include hT in
theorem nth_b0 (C : NthC s TAB i o so ri rest) {k a left ks : Nat} {ahead n0 : Int} {szs : List Int} {H : List AE.Obj} {ws : List Nat} {e0 : List PV} {Q : AExit → List PV → St → Prop}
    (hk : k < o.args.length) (ha : o.args[k]? = some (a : Int)) (hal : a < s.sorts.length) (hleft : left < 60) (hah : 0 ≤ ahead ∧ ahead ≤ 1099511627776) (hn : 0 ≤ n0 ∧ n0 ≤ 1099511627776) (hsum : n0 < sumP ahead (so.getD a []) (ri.getD (k + 1) []) left left 1)
    (hks : H[ks]? = some (.row 1 (szs.map encI))) (hsl : szs.length = o.args.length)
    (h0 : eget e0 0 = .iptr TAB 0) (h3 : eget e0 3 = .int .i64 n0) (h9 : eget e0 9 = .int .i64 (i : Int)) (h13 : eget e0 13 = .aref ks 1 0 o.args.length o.args.length) (h14 : eget e0 14 = .int .i64 (left : Int)) (h15 : eget e0 15 = .int .i64 ahead) (h16 : eget e0 16 = .int .i64 (k : Int)) (h17 : eget e0 17 = .int .i64 (a : Int)) (h18 : eget e0 18 = .int .i64 1)
    (hQ : ∀ e' (m : Nat) (n' : Int), Same (fun j => j = 3 ∨ j = 18 ∨ j = 19 ∨ 73 ≤ j) e0 e' → eget e' 3 = .int .i64 n' → 1 ≤ m → m ≤ left → 0 ≤ n' → n' ≤ 1099511627776 → n' < cap (cap (ahead * (so.getD a []).getD m 0) * (ri.getD (k + 1) []).getD (left - m) 0) → Q (.exit 4) e' ⟨H.set ks (.row 1 ((szs.set k (m : Int)).map encI)), wadd ks ws, []⟩) :
    wpC T (.loop a91b0) e0 ⟨H, ws, []⟩ Q := by
  have hk9 : k < 900 := by have := C.al; omega
  have hso := (C.okS.get (k := a) (by rw [C.ro]; exact hal)).2
  have hr1 := (C.okR.get (k := k + 1) (by rw [C.rl]; omega)).2
  have gs := get_arr C.okS (k := a) (by rw [C.ro]; exact hal)
  have gk := get_arr C.okR (k := k + 1) (by rw [C.rl]; omega)
  have gr := C.gr
  have t2 := C.t2
  have t3 := C.t3
  refine wpC.loopM (fun d e st => ∃ (m : Nat) (n : Int), m + d = left + 1 ∧ 1 ≤ m ∧ (0 ≤ n ∧ n ≤ 1099511627776) ∧ n < sumP ahead (so.getD a []) (ri.getD (k + 1) []) left d m ∧ Same (fun j => j = 3 ∨ j = 18 ∨ j = 19 ∨ 73 ≤ j) e0 e ∧ eget e 3 = .int .i64 n ∧ eget e 18 = .int .i64 (m : Int) ∧ st = ⟨H, ws, []⟩) ?_ left _ _ ⟨1, n0, by omega, by omega, hn, hsum, Same.refl _, h3, h18, rfl⟩
  rintro d e st ⟨m, n, hd, hm1, hn, hsum, hs, e3, e18, rfl⟩
  cases d with
  | zero => simp only [sumP] at hsum; omega
  | succ d =>
    have e0' := (hs 0 (by omega)).trans h0
    have e9 := (hs 9 (by omega)).trans h9
    have e13 := (hs 13 (by omega)).trans h13
    have e14 := (hs 14 (by omega)).trans h14
    have e15 := (hs 15 (by omega)).trans h15
    have e16 := (hs 16 (by omega)).trans h16
    have e17 := (hs 17 (by omega)).trans h17
    have hml : m ≤ left := by omega
    have hm61 : m < 61 := by omega
    have hlm : left - m < 61 := by omega
    have ls := ld_arr hso hm61
    have l1 := ld_arr hr1 hlm
    have b2 := (hso.get hm61).2
    have b1 := (hr1.get hlm).2
    simp only [sumP] at hsum
    have hp1 : 0 ≤ ahead * (so.getD a []).getD m 0 := Int.mul_nonneg hah.1 b2.1
    have c1 := fun h => times_ev hT (h := h) hah.1 hah.2 b2.1 b2.2
    have c2 := fun h => times_ev hT (h := h) (cap_nn hp1) (cap_top _) b1.1 b1.2
    have hw0 : 0 ≤ cap (cap (ahead * (so.getD a []).getD m 0) * (ri.getD (k + 1) []).getD (left - m) 0) := cap_nn (Int.mul_nonneg (cap_nn hp1) b1.1)
    have hw1 := cap_top (cap (ahead * (so.getD a []).getD m 0) * (ri.getD (k + 1) []).getD (left - m) 0)
    simp only [cap_def] at c1 c2
    generalize hw : cap (cap (ahead * (so.getD a []).getD m 0) * (ri.getD (k + 1) []).getD (left - m) 0) = ways at *
    have sv := fun ws => st_v (h := H) (ws := ws) (ups := []) (v := (m : Int)) hks hsl hk
    by_cases hlt : n < ways
    · simp (disch := first | omega | decide | (simp only [eget_eput', ↓reduceIte, Nat.reduceEqDiff]; done)) only [go_sem, ↓reduceIte, Nat.reduceEqDiff, Nat.reduceAdd, Nat.reduceMul, reduceCtorEq, a91b0, e0', e3, e9, e13, e14, e15, e16, e17, e18, hml, t2, t3, gs, gk, gr, ls, l1, cb (c1 _), cb (c2 _), hT.prim, primOf, cast_sub hml, hm61, hlm, hlt, hk, sv]
      exact hQ _ m n (fun j hj => by
        have h' := hs j hj
        simp only [not_or, Nat.not_le] at hj
        simp (disch := omega) only [eget_eput_ne]
        exact h') (by simp (disch := first | omega | decide | (simp only [eget_eput', ↓reduceIte, Nat.reduceEqDiff]; done)) only [go_sem, ↓reduceIte, Nat.reduceEqDiff, Nat.reduceAdd, Nat.reduceMul, reduceCtorEq, e3]) hm1 hml hn.1 hn.2 (by rw [hw]; exact hlt)
    · simp (disch := first | omega | decide | (simp only [eget_eput', ↓reduceIte, Nat.reduceEqDiff]; done)) only [go_sem, ↓reduceIte, Nat.reduceEqDiff, Nat.reduceAdd, Nat.reduceMul, reduceCtorEq, a91b0, e0', e3, e9, e13, e14, e15, e16, e17, e18, hml, t2, t3, gs, gk, gr, ls, l1, cb (c1 _), cb (c2 _), hT.prim, primOf, cast_sub hml, hm61, hlm, hlt, hk, sv]
      refine ⟨d, by omega, m + 1, n - ways, by omega, by omega, by omega, by omega, fun j hj => ?_, rfl, rfl, trivial⟩
      have h' := hs j hj
      simp only [not_or, Nat.not_le] at hj
      simp (disch := omega) only [eget_eput_ne]
      exact h'
end Go.Proofs.Tryz
/- nth: the sizes of all arguments. -/
namespace Go.Proofs.Tryz
open Go Go.AE
variable {T : Tbl} (hT : Std T)
variable {s : GSig} {TAB : PV} {i : Nat} {o : GOp} {so ri : List (List Int)} {rest : List PV}

/-- Sizes of arguments of which there are terms. -/
def okSz (o : GOp) (so : List (List Int)) (N k : Nat) (szs : List Int) : Prop := ∀ j, j < k → ∃ m : Nat, szs.getD j 0 = (m : Int) ∧ 1 ≤ m ∧ m ≤ N ∧ 1 ≤ (so.getD (o.args.getD j 0).toNat []).getD m 0
include hT in
theorem nth_b1 (C : NthC s TAB i o so ri rest) {N ks : Nat} {n0 : Int} {szs0 : List Int} {H : List AE.Obj} {ws : List Nat} {e0 : List PV} {Q : AExit → List PV → St → Prop}
    (hN : N < 60) (hn0 : 0 ≤ n0 ∧ n0 ≤ 1099511627776) (hlt0 : n0 < (ri.getD 0 []).getD N 0)
    (hks : H[ks]? = some (.row 1 (szs0.map encI))) (hsl0 : szs0.length = o.args.length)
    (h0 : eget e0 0 = .iptr TAB 0) (h3 : eget e0 3 = .int .i64 n0) (h9 : eget e0 9 = .int .i64 (i : Int)) (h13 : eget e0 13 = .aref ks 1 0 o.args.length o.args.length) (h14 : eget e0 14 = .int .i64 (N : Int)) (h15 : eget e0 15 = .int .i64 1)
    (h66 : eget e0 66 = .slice 1 (o.args.map encI) .any) (h67 : eget e0 67 = .int .i64 (o.args.length : Int)) (h68 : eget e0 68 = .int .i64 0)
    (hQ : ∀ e' (n' : Int) szs ws', Same (fun j => j = 3 ∨ 14 ≤ j ∧ j ≤ 19 ∨ 68 ≤ j) e0 e' → eget e' 3 = .int .i64 n' → 0 ≤ n' → n' ≤ 1099511627776 → szs.length = o.args.length → okSz o so N o.args.length szs → (∀ x ∈ ws', x ∈ ws ∨ x = ks) → Q (.exit 2) e' ⟨H.set ks (.row 1 (szs.map encI)), ws', []⟩) :
    wpC T (.loop a91b1) e0 ⟨H, ws, []⟩ Q := by
  have hal := C.al
  have t2 := C.t2
  have hHs : H = H.set ks (.row 1 (szs0.map encI)) := (set_self hks).symm
  have hH0 : (⟨H, ws, []⟩ : St) = ⟨H.set ks (.row 1 (szs0.map encI)), ws, []⟩ := by rw [← hHs]
  rw [hH0]
  refine wpC.loopM (fun d e st => ∃ (k left : Nat) (n ahead : Int) (szs : List Int) (ws' : List Nat), k + d = o.args.length ∧ left ≤ N ∧ (0 ≤ n ∧ n ≤ 1099511627776) ∧ (1 ≤ ahead ∧ ahead ≤ 1099511627776) ∧ n < cap (ahead * (ri.getD k []).getD left 0) ∧ szs.length = o.args.length ∧ okSz o so N k szs ∧ (∀ x ∈ ws', x ∈ ws ∨ x = ks) ∧
      Same (fun j => j = 3 ∨ 14 ≤ j ∧ j ≤ 19 ∨ 68 ≤ j) e0 e ∧ eget e 3 = .int .i64 n ∧ eget e 14 = .int .i64 (left : Int) ∧ eget e 15 = .int .i64 ahead ∧ eget e 68 = .int .i64 (k : Int) ∧ st = ⟨H.set ks (.row 1 (szs.map encI)), ws', []⟩) ?_ o.args.length _ _
    ⟨0, N, n0, 1, szs0, ws, by omega, Nat.le_refl _, hn0, by omega, ?_, hsl0, fun j hj => by omega, fun x hx => .inl hx, Same.refl _, h3, h14, h15, h68, rfl⟩
  · rintro d e st ⟨k, left, n, ahead, szs, ws', hd, hleft, hn, hah, hlt, hsl, hok, hw, hs, e3, e14, e15, e68, rfl⟩
    have e0' := (hs 0 (by omega)).trans h0
    have e9 := (hs 9 (by omega)).trans h9
    have e13 := (hs 13 (by omega)).trans h13
    have e66 := (hs 66 (by omega)).trans h66
    have e67 := (hs 67 (by omega)).trans h67
    by_cases hk : k < o.args.length
    · obtain ⟨ga, gl⟩ := C.args.get hk
      have gaE : (o.args.map encI)[k]? = some (.int .i64 (((o.args.getD k 0).toNat : Nat) : Int)) := by rw [List.getElem?_map, ga]; rfl
      have heq := C.eqn k left hk (by omega)
      generalize ha : (o.args.getD k 0).toNat = a at *
      have hso := (C.okS.get (k := a) (by rw [C.ro]; exact gl)).2
      have hr1 := (C.okR.get (k := k + 1) (by rw [C.rl]; omega)).2
      have gs := get_arr C.okS (k := a) (by rw [C.ro]; exact gl)
      have hsum : n < sumP ahead (so.getD a []) (ri.getD (k + 1) []) left left 1 := by
        have := inner_sumP (ahead := ahead) (p := left) (by omega) hso.nonneg hr1.nonneg left 1 0 (by omega)
        rw [heq] at hlt
        have h00 : cap (ahead * 0) = 0 := by rw [Int.mul_zero]; rfl
        omega
      have hks' : (H.set ks (AE.Obj.row 1 (szs.map encI)))[ks]? = some (.row 1 (szs.map encI)) := get_set hks
      simp (disch := first | omega | decide | (simp only [eget_eput', ↓reduceIte, Nat.reduceEqDiff]; done)) only [go_sem, ↓reduceIte, Nat.reduceEqDiff, Nat.reduceAdd, Nat.reduceMul, reduceCtorEq, a91b1, e0', e3, e9, e13, e14, e15, e66, e67, e68, hk, gaE]
      refine nth_b0 hT C (szs := szs) (k := k) (a := a) (left := left) (ks := ks) (ahead := ahead) (n0 := n) hk ga gl (by omega) (by omega) hn hsum hks' hsl (by simp (disch := first | omega | decide | (simp only [eget_eput', ↓reduceIte, Nat.reduceEqDiff]; done)) only [go_sem, ↓reduceIte, Nat.reduceEqDiff, Nat.reduceAdd, Nat.reduceMul, reduceCtorEq, e0']) (by simp (disch := first | omega | decide | (simp only [eget_eput', ↓reduceIte, Nat.reduceEqDiff]; done)) only [go_sem, ↓reduceIte, Nat.reduceEqDiff, Nat.reduceAdd, Nat.reduceMul, reduceCtorEq, e3]) (by simp (disch := first | omega | decide | (simp only [eget_eput', ↓reduceIte, Nat.reduceEqDiff]; done)) only [go_sem, ↓reduceIte, Nat.reduceEqDiff, Nat.reduceAdd, Nat.reduceMul, reduceCtorEq, e9]) (by simp (disch := first | omega | decide | (simp only [eget_eput', ↓reduceIte, Nat.reduceEqDiff]; done)) only [go_sem, ↓reduceIte, Nat.reduceEqDiff, Nat.reduceAdd, Nat.reduceMul, reduceCtorEq, e13]) (by simp (disch := first | omega | decide | (simp only [eget_eput', ↓reduceIte, Nat.reduceEqDiff]; done)) only [go_sem, ↓reduceIte, Nat.reduceEqDiff, Nat.reduceAdd, Nat.reduceMul, reduceCtorEq, e14]) (by simp (disch := first | omega | decide | (simp only [eget_eput', ↓reduceIte, Nat.reduceEqDiff]; done)) only [go_sem, ↓reduceIte, Nat.reduceEqDiff, Nat.reduceAdd, Nat.reduceMul, reduceCtorEq, e15]) (by simp (disch := first | omega | decide | (simp only [eget_eput', ↓reduceIte, Nat.reduceEqDiff]; done)) only [go_sem, ↓reduceIte, Nat.reduceEqDiff, Nat.reduceAdd, Nat.reduceMul, reduceCtorEq]) (by simp (disch := first | omega | decide | (simp only [eget_eput', ↓reduceIte, Nat.reduceEqDiff]; done)) only [go_sem, ↓reduceIte, Nat.reduceEqDiff, Nat.reduceAdd, Nat.reduceMul, reduceCtorEq]) (by simp (disch := first | omega | decide | (simp only [eget_eput', ↓reduceIte, Nat.reduceEqDiff]; done)) only [go_sem, ↓reduceIte, Nat.reduceEqDiff, Nat.reduceAdd, Nat.reduceMul, reduceCtorEq]) fun e' m n' hs' e3' hm1 hml hn1 hn2 hlt' => ?_
      have f0 : eget e' 0 = .iptr TAB 0 := (hs' 0 (by omega)).trans (by simp (disch := first | omega | decide | (simp only [eget_eput', ↓reduceIte, Nat.reduceEqDiff]; done)) only [go_sem, ↓reduceIte, Nat.reduceEqDiff, Nat.reduceAdd, Nat.reduceMul, reduceCtorEq, e0'])
      have f13 : eget e' 13 = .aref ks 1 0 o.args.length o.args.length := (hs' 13 (by omega)).trans (by simp (disch := first | omega | decide | (simp only [eget_eput', ↓reduceIte, Nat.reduceEqDiff]; done)) only [go_sem, ↓reduceIte, Nat.reduceEqDiff, Nat.reduceAdd, Nat.reduceMul, reduceCtorEq, e13])
      have f14 : eget e' 14 = .int .i64 (left : Int) := (hs' 14 (by omega)).trans (by simp (disch := first | omega | decide | (simp only [eget_eput', ↓reduceIte, Nat.reduceEqDiff]; done)) only [go_sem, ↓reduceIte, Nat.reduceEqDiff, Nat.reduceAdd, Nat.reduceMul, reduceCtorEq, e14])
      have f15 : eget e' 15 = .int .i64 ahead := (hs' 15 (by omega)).trans (by simp (disch := first | omega | decide | (simp only [eget_eput', ↓reduceIte, Nat.reduceEqDiff]; done)) only [go_sem, ↓reduceIte, Nat.reduceEqDiff, Nat.reduceAdd, Nat.reduceMul, reduceCtorEq, e15])
      have f16 : eget e' 16 = .int .i64 (k : Int) := (hs' 16 (by omega)).trans (by simp (disch := first | omega | decide | (simp only [eget_eput', ↓reduceIte, Nat.reduceEqDiff]; done)) only [go_sem, ↓reduceIte, Nat.reduceEqDiff, Nat.reduceAdd, Nat.reduceMul, reduceCtorEq])
      have f17 : eget e' 17 = .int .i64 (a : Int) := (hs' 17 (by omega)).trans (by simp (disch := first | omega | decide | (simp only [eget_eput', ↓reduceIte, Nat.reduceEqDiff]; done)) only [go_sem, ↓reduceIte, Nat.reduceEqDiff, Nat.reduceAdd, Nat.reduceMul, reduceCtorEq])
      have f68 : eget e' 68 = .int .i64 (k : Int) := (hs' 68 (by omega)).trans (by simp (disch := first | omega | decide | (simp only [eget_eput', ↓reduceIte, Nat.reduceEqDiff]; done)) only [go_sem, ↓reduceIte, Nat.reduceEqDiff, Nat.reduceAdd, Nat.reduceMul, reduceCtorEq, e68])
      rw [List.set_set]
      have hks2 : (H.set ks (AE.Obj.row 1 ((szs.set k (m : Int)).map encI)))[ks]? = some (.row 1 ((szs.set k (m : Int)).map encI)) := get_set hks
      have lv := ld_v hks2 (show (szs.set k (m : Int)).length = o.args.length by simpa using hsl) hk
      have gv : (szs.set k (m : Int)).getD k 0 = (m : Int) := by rw [getD_set (by omega), if_pos rfl]
      rw [gv] at lv
      have hm61 : m < 61 := by omega
      have ls := ld_arr hso hm61
      have b2 := (hso.get hm61).2
      have hp1 : 0 ≤ ahead * (so.getD a []).getD m 0 := Int.mul_nonneg (by omega) b2.1
      have c1 := fun h => times_ev hT (h := h) (by omega) hah.2 b2.1 b2.2
      simp only [cap_def] at c1
      have hah' : 1 ≤ cap (ahead * (so.getD a []).getD m 0) := by
        have := cap_nn hp1
        by_cases hz : cap (ahead * (so.getD a []).getD m 0) = 0
        · rw [hz, Int.zero_mul] at hlt'
          have h00 : cap 0 = 0 := rfl
          omega
        · omega
      have hxs : 1 ≤ (so.getD a []).getD m 0 := by
        by_cases hz : (so.getD a []).getD m 0 = 0
        · rw [hz, Int.mul_zero] at hah'
          have h00 : cap 0 = 0 := rfl
          omega
        · omega
      simp (disch := first | omega | decide | (simp only [eget_eput', ↓reduceIte, Nat.reduceEqDiff]; done)) only [go_sem, ↓reduceIte, Nat.reduceEqDiff, Nat.reduceAdd, Nat.reduceMul, reduceCtorEq, f0, f13, f14, f15, f16, f17, f68, t2, gs, lv, ls, hm61, hk, cb (c1 _), hT.prim, primOf, cast_sub hml]
      refine ⟨d - 1, by omega, k + 1, left - m, n', cap (ahead * (so.getD a []).getD m 0), szs.set k (m : Int), wadd ks ws', by omega, by omega, ⟨hn1, hn2⟩, ⟨hah', cap_top _⟩, hlt', by simpa using hsl, fun j hj => ?_, fun x hx => ?_, fun j hj => ?_, e3', rfl, rfl, rfl, rfl⟩
      · by_cases hjk : j = k
        · subst hjk
          exact ⟨m, gv, hm1, by omega, by rw [ha]; exact hxs⟩
        · obtain ⟨m', h1, h2, h3, h4⟩ := hok j (by omega)
          exact ⟨m', by rw [getD_set_ne (by omega)]; exact h1, h2, h3, h4⟩
      · rcases mem_wadd hx with h | h
        · exact .inr h
        · exact hw x h
      · have h1 := hs j hj
        simp only [not_or, not_and, Nat.not_le] at hj
        have h2 := hs' j (by omega)
        simp (disch := omega) only [eget_eput_ne] at h2 ⊢
        exact h2.trans h1
    · simp (disch := first | omega | decide | (simp only [eget_eput', ↓reduceIte, Nat.reduceEqDiff]; done)) only [go_sem, ↓reduceIte, Nat.reduceEqDiff, Nat.reduceAdd, Nat.reduceMul, reduceCtorEq, a91b1, e0', e3, e9, e13, e14, e15, e66, e67, e68, hk]
      have hkl : k = o.args.length := by omega
      refine hQ _ n szs ws' (fun j hj => ?_) (by simp (disch := first | omega | decide | (simp only [eget_eput', ↓reduceIte, Nat.reduceEqDiff]; done)) only [go_sem, ↓reduceIte, Nat.reduceEqDiff, Nat.reduceAdd, Nat.reduceMul, reduceCtorEq, e3]) hn.1 hn.2 hsl (by rw [← hkl]; exact hok) hw
      have h1 := hs j hj
      simp only [not_or, not_and, Nat.not_le] at hj
      simp (disch := omega) only [eget_eput_ne]
      exact h1
  · have h1 := (C.okR.get (k := 0) (by rw [C.rl]; omega)).2.le N
    rw [Int.one_mul]
    unfold cap
    omega
end Go.Proofs.Tryz
/- nth: how many lists there are behind each argument. -/
namespace Go.Proofs.Tryz
open Go Go.AE
variable {T : Tbl} (hT : Std T)
variable {s : GSig} {TAB : PV} {i : Nat} {o : GOp} {so ri : List (List Int)} {rest : List PV}

def okBh (L k : Nat) (bh : List Int) : Prop := ∀ j, k ≤ j → j ≤ L → 1 ≤ bh.getD j 0 ∧ bh.getD j 0 ≤ 1099511627776
include hT in
theorem nth_b2 (C : NthC s TAB i o so ri rest) {N ks kb ko : Nat} {szs bh0 : List Int} {H : List AE.Obj} {ws : List Nat} {e0 : List PV} {Q : AExit → List PV → St → Prop}
    (hN : N < 60) (hok : okSz o so N o.args.length szs) (hb0 : okBh o.args.length o.args.length bh0)
    (hks : H[ks]? = some (.row 1 (szs.map encI))) (hsl : szs.length = o.args.length) (hkb : H[kb]? = some (.row 1 (bh0.map encI))) (hbl0 : bh0.length = o.args.length + 1) (hko : H[ko]? = some (.row 3 [encOp o])) (hne : kb ≠ ks ∧ kb ≠ ko)
    (h0 : eget e0 0 = .iptr TAB 0) (h10 : eget e0 10 = .ptr ko 0 0 1) (h13 : eget e0 13 = .aref ks 1 0 o.args.length o.args.length) (h20 : eget e0 20 = .aref kb 1 0 (o.args.length + 1) (o.args.length + 1)) (h21 : eget e0 21 = .int .i64 ((o.args.length : Int) - 1))
    (hQ : ∀ e' bh ws', Same (fun j => j = 21 ∨ 150 ≤ j) e0 e' → bh.length = o.args.length + 1 → okBh o.args.length 0 bh → (∀ x ∈ ws', x ∈ ws ∨ x = kb) → Q (.exit 6) e' ⟨H.set kb (.row 1 (bh.map encI)), ws', []⟩) :
    wpC T (.loop a91b2) e0 ⟨H, ws, []⟩ Q := by
  have hal := C.al
  have t2 := C.t2
  have hH0 : (⟨H, ws, []⟩ : St) = ⟨H.set kb (.row 1 (bh0.map encI)), ws, []⟩ := by rw [set_self hkb]
  rw [hH0]
  refine wpC.loopM (fun d e st => ∃ (bh : List Int) (ws' : List Nat), d ≤ o.args.length ∧ bh.length = o.args.length + 1 ∧ okBh o.args.length d bh ∧ (∀ x ∈ ws', x ∈ ws ∨ x = kb) ∧
      Same (fun j => j = 21 ∨ 150 ≤ j) e0 e ∧ eget e 21 = .int .i64 ((d : Int) - 1) ∧ st = ⟨H.set kb (.row 1 (bh.map encI)), ws', []⟩) ?_ o.args.length _ _
    ⟨bh0, ws, Nat.le_refl _, hbl0, hb0, fun x hx => .inl hx, Same.refl _, h21, rfl⟩
  rintro d e st ⟨bh, ws', hd, hbl, hb, hw, hs, e21, rfl⟩
  have e0' := (hs 0 (by omega)).trans h0
  have e10 := (hs 10 (by omega)).trans h10
  have e13 := (hs 13 (by omega)).trans h13
  have e20 := (hs 20 (by omega)).trans h20
  cases d with
  | zero =>
    have c : ¬ ((0 : Int) ≤ ((0 : Nat) : Int) - 1) := by omega
    simp (disch := first | omega | decide | (simp only [eget_eput', ↓reduceIte, Nat.reduceEqDiff]; done)) only [go_sem, ↓reduceIte, Nat.reduceEqDiff, Nat.reduceAdd, Nat.reduceMul, reduceCtorEq, a91b2, e0', e10, e13, e20, e21, c]
    refine hQ _ bh ws' (fun j hj => ?_) hbl hb hw
    have h1 := hs j hj
    simp only [not_or, Nat.not_le] at hj
    simp (disch := omega) only [eget_eput_ne]
    exact h1
  | succ k =>
    have c : (0 : Int) ≤ (k : Int) := by omega
    have hk : k < o.args.length := by omega
    obtain ⟨ga, gl⟩ := C.args.get hk
    have gaE : (o.args.map encI)[k]? = some (.int .i64 (((o.args.getD k 0).toNat : Nat) : Int)) := by rw [List.getElem?_map, ga]; rfl
    obtain ⟨m, hm, hm1, hmN, hmp⟩ := hok k hk
    generalize ha : (o.args.getD k 0).toNat = a at *
    have hso := (C.okS.get (k := a) (by rw [C.ro]; exact gl)).2
    have gs := get_arr C.okS (k := a) (by rw [C.ro]; exact gl)
    have hm61 : m < 61 := by omega
    have ls := ld_arr hso hm61
    have b2 := (hso.get hm61).2
    have hks' : (H.set kb (AE.Obj.row 1 (bh.map encI)))[ks]? = some (.row 1 (szs.map encI)) := get_set_ne hks hne.1
    have hko' : (H.set kb (AE.Obj.row 1 (bh.map encI)))[ko]? = some (.row 3 [encOp o]) := get_set_ne hko hne.2
    have hkb' : (H.set kb (AE.Obj.row 1 (bh.map encI)))[kb]? = some (.row 1 (bh.map encI)) := get_set hkb
    have lo : loadAt false 1 (.ptr ko 0 1 1) (H.set kb (AE.Obj.row 1 (bh.map encI))) = some (.slice 1 (o.args.map encI) .any) := by rw [ld_at hko']; rfl
    have lm := ld_v hks' hsl hk
    rw [hm] at lm
    have lb := ld_v hkb' hbl (show k + 1 < o.args.length + 1 by omega)
    have hbb := hb (k + 1) (by omega) (by omega)
    generalize hbv : bh.getD (k + 1) 0 = bv at *
    generalize hxv : (so.getD a []).getD m 0 = xv at *
    have hp1 : 1 ≤ bv * xv := by
      have : 1 * 1 ≤ bv * xv := Int.mul_le_mul hbb.1 hmp (by omega) (by omega)
      omega
    have c1 := fun h => times_ev hT (h := h) (by omega) hbb.2 b2.1 b2.2
    simp only [cap_def] at c1
    have sv := fun ws => st_v (ws := ws) (ups := []) (v := cap (bv * xv)) hkb' hbl (show k < o.args.length + 1 by omega)
    rw [List.set_set] at sv
    have hk1 : k < o.args.length + 1 := by omega
    have hk2 : k + 1 < o.args.length + 1 := by omega
    simp (disch := first | omega | decide | (simp only [eget_eput', ↓reduceIte, Nat.reduceEqDiff]; done)) only [go_sem, ↓reduceIte, Nat.reduceEqDiff, Nat.reduceAdd, Nat.reduceMul, reduceCtorEq, a91b2, e0', e10, e13, e20, e21, c, gaE, t2, gs, lm, lb, lo, ls, hm61, hk, hk1, hk2, cb (c1 _), hT.prim, primOf, sv]
    refine ⟨k, by omega, bh.set k (cap (bv * xv)), _, by omega, by simpa using hbl, fun j h1 h2 => ?_, fun x hx => ?_, fun j hj => ?_, rfl, rfl⟩
    · by_cases hjk : j = k
      · subst hjk
        rw [getD_set (by omega), if_pos rfl]
        exact ⟨by unfold cap; omega, cap_top _⟩
      · rw [getD_set_ne (by omega)]
        exact hb j (by omega) h2
    · rcases mem_wadd hx with h | h
      · exact .inr h
      · exact hw x h
    · have h1 := hs j hj
      simp only [not_or, Nat.not_le] at hj
      simp (disch := omega) only [eget_eput_ne]
      exact h1
end Go.Proofs.Tryz
/- nth: the arguments. -/
namespace Go.Proofs.Tryz
open Go Go.AE
variable {T : Tbl} (hT : Std T)
variable {s : GSig} {TAB : PV} {i : Nat} {o : GOp} {so ri : List (List Int)} {rest : List PV}

/-- A list of terms that grows. -/
def AppL (H : List AE.Obj) (v : PV) (es : List PV) (lo : Nat) : Prop := (es = [] ∧ v = .slice 0 [] .nil) ∨ ∃ kt, v = .slice 3 es (.tok kt) ∧ H[kt]? = some (.tok 3 es.length) ∧ lo ≤ kt
theorem AppL.set {H : List AE.Obj} {v : PV} {es : List PV} {lo k : Nat} {sz : Nat} {r r' : List PV} (A : AppL H v es lo) (hk : H[k]? = some (.row sz r)) : AppL (H.set k (.row sz r')) v es lo := by
  rcases A with h | ⟨kt, h1, h2, h3⟩
  · exact .inl h
  · refine .inr ⟨kt, h1, get_set_ne h2 ?_, h3⟩
    rintro rfl
    rw [hk] at h2
    cases h2
theorem append_one {H : List AE.Obj} {v p : PV} {es : List PV} {lo : Nat} (A : AppL H v es lo) (hp : IsT p) (hl : es.length < 100000) (hlo : lo ≤ H.length) :
    ∃ v' H' ws', (∀ ups, appendop 3 40 v (.slice 3 [p] .lit) ⟨H, [], ups⟩ = some (v', ⟨H', ws', ups⟩)) ∧ AppL H' v' (es ++ [p]) lo ∧ (∃ kt, v' = .slice 3 (es ++ [p]) (.tok kt)) ∧ (∀ (j sz : Nat) (r : List PV), H[j]? = some (.row sz r) → H'[j]? = some (.row sz r)) ∧ Low lo H H' ∧ ∀ x ∈ ws', lo ≤ x := by
  obtain ⟨c1, c2, c3, c4⟩ := hp.cells
  have hroom : (es.length + 1) * 40 ≤ room ∧ es.length + 1 ≤ room := by
    have : 10000000 ≤ room := by decide
    constructor <;> omega
  rcases A with ⟨rfl, rfl⟩ | ⟨kt, rfl, h2, h3⟩
  · simp at hroom
    refine ⟨.slice 3 [p] (.tok H.length), H ++ [.tok 3 1], [], fun ups => ?_, .inr ⟨H.length, rfl, by simp, hlo⟩, ⟨_, rfl⟩, fun j sz r hj => keepL hj, (Low.refl _ _).push hlo, by simp⟩
    simp [appendop, elems, c2, hroom, alloc]
  · refine ⟨.slice 3 (es ++ [p]) (.tok kt), H.set kt (.tok 3 (es.length + 1)), wadd kt [], fun ups => ?_, .inr ⟨kt, rfl, by rw [get_set h2]; simp, h3⟩, ⟨_, rfl⟩, fun j sz r hj => get_set_ne hj ?_, .set h3, wadd_low h3 (by simp)⟩
    · simp [appendop, elems, c2, hroom, h2, wrote_none]
    · rintro rfl
      rw [h2] at hj
      cases hj
theorem st_f2 {H : List AE.Obj} {ws : List Nat} {ups : List (Nat × Nat)} {kx kt : Nat} {a b v : PV} {es : List PV} (hk : H[kx]? = some (.row 3 [.agg [a, b, v]])) :
    ∃ ups', storeAt 1 (.ptr kx 0 2 1) (.slice 3 es (.tok kt)) ⟨H, ws, ups⟩ = some ⟨H.set kx (.row 3 [.agg [a, b, .slice 3 es (.tok kt)]]), wadd kx ws, ups'⟩ ∧ ∀ x ∈ ups', x ∈ ups ∨ x.1 = kx := by
  have hu : upd (.agg [a, b, v]) 2 (.slice 3 es (.tok kt)) = some (.agg [a, b, .slice 3 es (.tok kt)]) := rfl
  have h1 : storeAt 1 (.ptr kx 0 2 1) (.slice 3 es (.tok kt)) ⟨H, ws, ups⟩ = some (wrote kx (.row 3 [.agg [a, b, .slice 3 es (.tok kt)]]) (PV.slice 3 es (.tok kt)).top ⟨H, ws, ups⟩) := by
    simp only [storeAt, hk, List.length_cons, List.length_nil, PV.cells, List.all_cons, List.all_nil, PV.isCell, Bool.and_self, and_self, if_true, List.getElem?_cons_zero, hu, Option.map, List.set_cons_zero]
  rw [h1]
  cases (PV.slice 3 es (.tok kt)).top with
  | none => exact ⟨ups, by rw [wrote_none], fun x hx => .inl hx⟩
  | some j =>
    refine ⟨_, by rw [wrote_some], fun x hx => ?_⟩
    split at hx
    · rcases List.mem_cons.1 hx with rfl | h
      · exact .inr rfl
      · exact .inl h
    · exact .inl hx
/-- What a call with smaller numbers gives. -/
def NthIH (T : Tbl) (s : GSig) (TAB : PV) (N : Nat) : Prop := ∀ (a m : Nat) (n : Int) (h : List AE.Obj), a < s.sorts.length → 1 ≤ m → m ≤ N → 0 ≤ n → n ≤ 1099511627776 → ∃ p, Ev T 91 [.iptr TAB 0, .int .i64 (a : Int), .int .i64 (m : Int), .int .i64 n] h (.val p, ⟨h, [], []⟩) ∧ IsT p
include hT in
theorem nth_b3 (C : NthC s TAB i o so ri rest) {N ks kb kx lo : Nat} {n0 : Int} {szs bh : List Int} {h0 H0 : List AE.Obj} {ws0 : List Nat} {e0 : List PV} {Q : AExit → List PV → St → Prop} (h91 : T.sp 91 = none) (IH : NthIH T s TAB N)
    (hok : okSz o so N o.args.length szs) (hb : okBh o.args.length 0 bh) (hn0 : 0 ≤ n0 ∧ n0 ≤ 1099511627776)
    (hks : H0[ks]? = some (.row 1 (szs.map encI))) (hsl : szs.length = o.args.length) (hkb : H0[kb]? = some (.row 1 (bh.map encI))) (hbl : bh.length = o.args.length + 1) (hkx : H0[kx]? = some (.row 3 [.agg [.int .i64 2, .int .i64 (i : Int), .slice 0 [] .nil]]))
    (hne : kx ≠ ks ∧ kx ≠ kb) (low0 : Low lo h0 H0) (hlo : lo ≤ h0.length ∧ lo ≤ kx) (hw0 : ∀ x ∈ ws0, lo ≤ x)
    (f0 : eget e0 0 = .iptr TAB 0) (f3 : eget e0 3 = .int .i64 n0) (f12 : eget e0 12 = .ptr kx 0 0 1) (f13 : eget e0 13 = .aref ks 1 0 o.args.length o.args.length) (f20 : eget e0 20 = .aref kb 1 0 (o.args.length + 1) (o.args.length + 1))
    (f180 : eget e0 180 = .slice 1 (o.args.map encI) .any) (f181 : eget e0 181 = .int .i64 (o.args.length : Int)) (f182 : eget e0 182 = .int .i64 0)
    (hQ : ∀ e' v es H' ws' ups', Same (fun j => j = 3 ∨ j = 22 ∨ j = 23 ∨ 182 ≤ j) e0 e' → es.length < 1000 → (∀ x, x ∈ es → IsT x) → AppL H' v es lo → H'[kx]? = some (.row 3 [.agg [.int .i64 2, .int .i64 (i : Int), v]]) → (∀ (j sz : Nat) (r : List PV), j ≠ kx → H0[j]? = some (.row sz r) → H'[j]? = some (.row sz r)) → Low lo h0 H' → (∀ x ∈ ws', lo ≤ x) → (∀ x ∈ ups', lo ≤ x.1) → Q (.exit 8) e' ⟨H', ws', ups'⟩) :
    wpC T (.loop a91b3) e0 ⟨H0, ws0, []⟩ Q := by
  have hal := C.al
  refine wpC.loopM (fun d e st => ∃ (k : Nat) (n : Int) (v : PV) (es : List PV) (H : List AE.Obj) (ws : List Nat) (ups : List (Nat × Nat)), k + d = o.args.length ∧ (0 ≤ n ∧ n ≤ 1099511627776) ∧ es.length = k ∧ (∀ x, x ∈ es → IsT x) ∧ AppL H v es lo ∧ H[kx]? = some (.row 3 [.agg [.int .i64 2, .int .i64 (i : Int), v]]) ∧ (∀ (j sz : Nat) (r : List PV), j ≠ kx → H0[j]? = some (.row sz r) → H[j]? = some (.row sz r)) ∧ Low lo h0 H ∧ (∀ x ∈ ws, lo ≤ x) ∧ (∀ x ∈ ups, lo ≤ x.1) ∧
      Same (fun j => j = 3 ∨ j = 22 ∨ j = 23 ∨ 182 ≤ j) e0 e ∧ eget e 3 = .int .i64 n ∧ eget e 182 = .int .i64 (k : Int) ∧ st = ⟨H, ws, ups⟩) ?_ o.args.length _ _
    ⟨0, n0, _, [], H0, ws0, [], by omega, hn0, rfl, by simp, .inl ⟨rfl, rfl⟩, hkx, fun _ _ _ _ h => h, low0, hw0, by simp, Same.refl _, f3, f182, rfl⟩
  rintro d e st ⟨k, n, v, es, H, ws, ups, hd, hn, hel, hes, A, hkx, keep, low, hw, hu, hs, e3, e182, rfl⟩
  have e0' := (hs 0 (by omega)).trans f0
  have e12 := (hs 12 (by omega)).trans f12
  have e13 := (hs 13 (by omega)).trans f13
  have e20 := (hs 20 (by omega)).trans f20
  have e180 := (hs 180 (by omega)).trans f180
  have e181 := (hs 181 (by omega)).trans f181
  by_cases hk : k < o.args.length
  · obtain ⟨ga, gl⟩ := C.args.get hk
    have gaE : (o.args.map encI)[k]? = some (.int .i64 (((o.args.getD k 0).toNat : Nat) : Int)) := by rw [List.getElem?_map, ga]; rfl
    obtain ⟨m, hm, hm1, hmN, hmp⟩ := hok k hk
    generalize ha : (o.args.getD k 0).toNat = a at *
    have lm := ld_v (keep _ _ _ (Ne.symm hne.1) hks) hsl hk
    rw [hm] at lm
    have lb := ld_v (keep _ _ _ (Ne.symm hne.2) hkb) hbl (show k + 1 < o.args.length + 1 by omega)
    have hbb := hb (k + 1) (by omega) (by omega)
    generalize hbv : bh.getD (k + 1) 0 = bv at *
    have hq : n.tdiv bv = n / bv := Int.tdiv_eq_ediv_of_nonneg hn.1
    have hq0 : 0 ≤ n.tdiv bv := by rw [hq]; exact Int.ediv_nonneg hn.1 (by omega)
    have hq1 : n.tdiv bv ≤ n := by rw [hq]; exact Int.ediv_le_self _ hn.1
    have hr : n.tmod bv = n % bv := Int.tmod_eq_emod_of_nonneg hn.1
    have hr0 : 0 ≤ n.tmod bv := by rw [hr]; exact Int.emod_nonneg _ (by omega)
    have hr1 : n.tmod bv ≤ n := by
      have h1 := Int.emod_add_mul_ediv n bv
      have h2 : 0 ≤ bv * (n / bv) := Int.mul_nonneg (by omega) (by rw [← hq]; exact hq0)
      omega
    have hb0 : ¬ bv = 0 := by omega
    obtain ⟨p, hp, tp⟩ := IH a m (n.tdiv bv) H gl hm1 hmN hq0 (by omega)
    obtain ⟨v', H', ws', ap, A', ⟨kt, hv'⟩, keep', low', hw'⟩ := append_one A tp (by omega) (by have := low.len; omega)
    have hkx' := keep' _ _ _ hkx
    have lv : loadAt false 1 (.ptr kx 0 2 1) H = some v := by rw [ld_at hkx]; rfl
    have fe : fillE 3 (List.replicate 1 (.agg [(.int .i64 0), (.int .i64 0), (.slice 0 [] .nil)])) [(0, p)] = some [p] := by
      obtain ⟨c1, c2, c3, c4⟩ := tp.cells
      simp [fillE, c1, c3]
    subst hv'
    obtain ⟨ups', sv, hups⟩ := st_f2 (ws := []) (ups := ups) (kt := kt) (es := es ++ [p]) hkx'
    have hk1 : k < o.args.length + 1 := by omega
    have hk2 : k + 1 < o.args.length + 1 := by omega
    have lb' : loadAt false 1 (.ptr kb (k + 1) 0 (o.args.length + 1)) (H'.set kx (.row 3 [.agg [.int .i64 2, .int .i64 (i : Int), .slice 3 (es ++ [p]) (.tok kt)]])) = some (.int .i64 bv) := by
      have := ld_v (get_set_ne (o' := .row 3 [.agg [.int .i64 2, .int .i64 (i : Int), .slice 3 (es ++ [p]) (.tok kt)]]) (keep' _ _ _ (keep _ _ _ (Ne.symm hne.2) hkb)) hne.2) hbl hk2
      rw [hbv] at this
      exact this
    simp (disch := first | omega | decide | (simp only [eget_eput', ↓reduceIte, Nat.reduceEqDiff]; done)) only [go_sem, ↓reduceIte, Nat.reduceEqDiff, Nat.reduceAdd, Nat.reduceMul, reduceCtorEq, a91b3, e0', e3, e12, e13, e20, e180, e181, e182, hk, gaE, lm, lb, lv, hk1, hk2, hb0, cb hp, hT.prim, primOf, fe, ap, sv, lb']
    refine ⟨d - 1, by omega, k + 1, n.tmod bv, .slice 3 (es ++ [p]) (.tok kt), es ++ [p], _, _, _, by omega, ⟨hr0, by omega⟩, by simp; omega, fun x hx => ?_, A'.set hkx', get_set hkx', fun j sz r hj h => get_set_ne (keep' _ _ _ (keep _ _ _ hj h)) (Ne.symm hj), (low.trans low').trans (.set hlo.2), fun x hx => ?_, fun x hx => ?_, fun j hj => ?_, rfl, rfl, rfl⟩
    · rcases List.mem_append.1 hx with h | h
      · exact hes x h
      · rw [List.mem_singleton.1 h]; exact tp
    · rcases mem_wall hx with h | h
      · rcases mem_wadd h with h | h
        · rw [h]; exact hlo.2
        · cases h
      · rcases mem_wall h with h | h
        · exact hw' x h
        · exact hw x h
    · rcases hups x hx with h | h
      · exact hu x h
      · rw [h]; exact hlo.2
    · have h1 := hs j hj
      simp only [not_or, Nat.not_le] at hj
      simp (disch := omega) only [eget_eput_ne]
      exact h1
  · simp (disch := first | omega | decide | (simp only [eget_eput', ↓reduceIte, Nat.reduceEqDiff]; done)) only [go_sem, ↓reduceIte, Nat.reduceEqDiff, Nat.reduceAdd, Nat.reduceMul, reduceCtorEq, a91b3, e0', e3, e12, e13, e20, e180, e181, e182, hk]
    refine hQ _ v es H ws ups (fun j hj => ?_) (by omega) hes A hkx keep low hw hu
    have h1 := hs j hj
    simp only [not_or, Nat.not_le] at hj
    simp (disch := omega) only [eget_eput_ne]
    exact h1
end Go.Proofs.Tryz
/- nth: total; its result is a term. -/
namespace Go.Proofs.Tryz
open Go Go.AE
variable {T : Tbl} (hT : Std T)
variable {s : GSig} {TAB : PV} {i : Nat} {o : GOp} {so ri : List (List Int)} {rest : List PV}

@[go_sem] theorem idx_slice0 {sz sz' : Nat} {es : List PV} {m : SM} {k : IntKind} : idxaddr sz (.slice sz' es m) (.int k 0) = if sz' = sz then (es[0]?).map fun c => .iptr c 0 else none := idx_slice (n := 0)
theorem tidy_ups {h H : List AE.Obj} {v : PV} {ws : List Nat} {ups : List (Nat × Nat)} (hp : v.pure = true) (L : Low h.length h H) (hw : ∀ k ∈ ws, h.length ≤ k) (hu : ∀ x ∈ ups, h.length ≤ x.1) : tidy 0 h.length (.val v) ⟨H, ws, ups⟩ = (.val v.weak, ⟨h, [], []⟩) := by
  have hb : below h.length ws = [] := List.filter_eq_nil_iff.2 fun k hk => by have := hw k hk; simp; omega
  have hua : (ups.any fun (k, j) => k < h.length && h.length ≤ j) = false := by
    rw [List.any_eq_false]
    rintro ⟨k, j⟩ hx
    have := hu _ hx
    simp at this ⊢
    omega
  have huf : ups.filter (fun (k, _) => k < h.length) = [] := List.filter_eq_nil_iff.2 fun x hx => by have := hu x hx; simp; omega
  have ht : H.take h.length = h := by rw [L.take]; simp
  have hf : frz H h.length 64 v = some v.weak := frz_pure hp
  unfold tidy
  rw [if_neg (by decide), if_neg (by simpa using hua)]
  simp only [OR.v, hf, hb, huf, ht, OR.put]
  rfl
theorem st_k3 {H : List AE.Obj} {ws : List Nat} {ups : List (Nat × Nat)} {k sz : Nat} {a b c : PV} {x y : Int} {es : List PV} {m : SM} (hk : H[k]? = some (.row 3 [.agg [a, b, c]])) :
    ∃ ups', storeAt 3 (.ptr k 0 0 1) (.agg [.int .i64 x, .int .i64 y, .slice sz es m]) ⟨H, ws, ups⟩ = some ⟨H.set k (.row 3 [.agg [.int .i64 x, .int .i64 y, .slice sz es m]]), wadd k ws, ups'⟩ ∧ ∀ x ∈ ups', x ∈ ups ∨ x.1 = k := by
  have hu : upd (.agg [a, b, c]) 0 (.agg [.int .i64 x, .int .i64 y, .slice sz es m]) = some (.agg [.int .i64 x, .int .i64 y, .slice sz es m]) := rfl
  have h1 : storeAt 3 (.ptr k 0 0 1) (.agg [.int .i64 x, .int .i64 y, .slice sz es m]) ⟨H, ws, ups⟩ = some (wrote k (.row 3 [.agg [.int .i64 x, .int .i64 y, .slice sz es m]]) (PV.agg [.int .i64 x, .int .i64 y, .slice sz es m]).top ⟨H, ws, ups⟩) := by
    simp only [storeAt, hk, List.length_cons, List.length_nil, PV.cells, List.all_cons, List.all_nil, PV.isCell, Bool.and_self, and_self, if_true, List.getElem?_cons_zero, hu, Option.map, List.set_cons_zero]
  rw [h1]
  cases (PV.agg [.int .i64 x, .int .i64 y, .slice sz es m]).top with
  | none => exact ⟨ups, by rw [wrote_none], fun x hx => .inl hx⟩
  | some j =>
    refine ⟨_, by rw [wrote_some], fun x hx => ?_⟩
    split at hx
    · rcases List.mem_cons.1 hx with rfl | h
      · exact .inr rfl
      · exact .inl h
    · exact .inl hx
theorem AppL.slice {H : List AE.Obj} {v : PV} {es : List PV} {lo : Nat} (A : AppL H v es lo) : ∃ sz m, v = .slice sz es m ∧ (es = [] ∨ sz = 3) := by
  rcases A with ⟨rfl, rfl⟩ | ⟨kt, rfl, _, _⟩
  · exact ⟨0, .nil, rfl, .inl rfl⟩
  · exact ⟨3, _, rfl, .inr rfl⟩
theorem weaks_terms : ∀ {es : List PV}, (∀ x, x ∈ es → IsT x) → pures es = true ∧ weaks es = es
  | [], _ => ⟨rfl, rfl⟩
  | x :: es, h => by
    obtain ⟨a, b⟩ := (h x (by simp)).pureW
    obtain ⟨c, d⟩ := weaks_terms (es := es) fun y hy => h y (by simp [hy])
    simp [pures, weaks, a, b, c, d]

include hT in
theorem nth_step (hs : GOk s) (h91 : T.sp 91 = none) {N : Nat} (hN : N < 60)
    (CC : ∀ i o, s.ops[i]? = some o → NthC s TAB i o so ((tabOf s).2.getD i []) rest) (t1 : sub false 1 TAB 1 = some (.slice 3 (s.ops.map encOp) .any)) (IH : NthIH T s TAB N) (a : Nat) (n0 : Int) (h : List AE.Obj) (ha : a < s.sorts.length) (hn0 : 0 ≤ n0 ∧ n0 ≤ 1099511627776) :
    ∃ p, Ev T 91 [.iptr TAB 0, .int .i64 (a : Int), .int .i64 ((N + 1 : Nat) : Int), .int .i64 n0] h (.val p, ⟨h, [], []⟩) ∧ IsT p := by
  refine Ev.walkP h91 ((hT.fn _).trans fn91) (hT.mode _) rfl ?_
  have hnO := hs.nO
  have zT : IsT (.agg [.int .i64 0, .int .i64 0, .slice 0 [] .any]) := .mk 0 0 0 [] (.inl rfl) (by simp) (fun _ h => by simp at h)
  generalize hH0 : h ++ [AE.Obj.row 3 [PV.agg [.int .i64 0, .int .i64 0, .slice 0 [] .nil]]] = H0
  have k0 : H0[h.length]? = some (.row 3 [PV.agg [.int .i64 0, .int .i64 0, .slice 0 [] .nil]]) := by rw [← hH0]; simp
  have low0 : Low h.length h H0 := by rw [← hH0]; exact (Low.refl _ _).push (Nat.le_refl _)
  simp (disch := first | omega | decide | (simp only [eget_eput', ↓reduceIte, Nat.reduceEqDiff]; done)) only [go_sem, ↓reduceIte, Nat.reduceEqDiff, Nat.reduceAdd, Nat.reduceMul, reduceCtorEq, hH0, t1, List.length_cons, List.length_nil]
  refine wpC.loopM (fun d e st => ∃ (i : Nat) (n : Int) (H : List AE.Obj) (ws : List Nat), i + d = s.ops.length ∧ (0 ≤ n ∧ n ≤ 1099511627776) ∧ Low h.length h H ∧ H[h.length]? = some (.row 3 [PV.agg [.int .i64 0, .int .i64 0, .slice 0 [] .nil]]) ∧ (∀ x ∈ ws, h.length ≤ x) ∧
      eget e 0 = .iptr TAB 0 ∧ eget e 1 = .int .i64 (a : Int) ∧ eget e 2 = .int .i64 ((N + 1 : Nat) : Int) ∧ eget e 3 = .int .i64 n ∧ eget e 8 = .ptr h.length 0 0 1 ∧ eget e 28 = .slice 3 (s.ops.map encOp) .any ∧ eget e 29 = .int .i64 (s.ops.length : Int) ∧ eget e 30 = .int .i64 (i : Int) ∧ st = ⟨H, ws, []⟩) ?_ s.ops.length _ _
    ⟨0, n0, H0, [], by omega, hn0, low0, k0, by simp, by simp (disch := first | omega | decide | (simp only [eget_eput', ↓reduceIte, Nat.reduceEqDiff]; done)) only [go_sem, ↓reduceIte, Nat.reduceEqDiff, Nat.reduceAdd, Nat.reduceMul, reduceCtorEq], by simp (disch := first | omega | decide | (simp only [eget_eput', ↓reduceIte, Nat.reduceEqDiff]; done)) only [go_sem, ↓reduceIte, Nat.reduceEqDiff, Nat.reduceAdd, Nat.reduceMul, reduceCtorEq], by simp (disch := first | omega | decide | (simp only [eget_eput', ↓reduceIte, Nat.reduceEqDiff]; done)) only [go_sem, ↓reduceIte, Nat.reduceEqDiff, Nat.reduceAdd, Nat.reduceMul, reduceCtorEq], by simp (disch := first | omega | decide | (simp only [eget_eput', ↓reduceIte, Nat.reduceEqDiff]; done)) only [go_sem, ↓reduceIte, Nat.reduceEqDiff, Nat.reduceAdd, Nat.reduceMul, reduceCtorEq], by simp (disch := first | omega | decide | (simp only [eget_eput', ↓reduceIte, Nat.reduceEqDiff]; done)) only [go_sem, ↓reduceIte, Nat.reduceEqDiff, Nat.reduceAdd, Nat.reduceMul, reduceCtorEq], by simp (disch := first | omega | decide | (simp only [eget_eput', ↓reduceIte, Nat.reduceEqDiff]; done)) only [go_sem, ↓reduceIte, Nat.reduceEqDiff, Nat.reduceAdd, Nat.reduceMul, reduceCtorEq], by simp (disch := first | omega | decide | (simp only [eget_eput', ↓reduceIte, Nat.reduceEqDiff]; done)) only [go_sem, ↓reduceIte, Nat.reduceEqDiff, Nat.reduceAdd, Nat.reduceMul, reduceCtorEq], by simp (disch := first | omega | decide | (simp only [eget_eput', ↓reduceIte, Nat.reduceEqDiff]; done)) only [go_sem, ↓reduceIte, Nat.reduceEqDiff, Nat.reduceAdd, Nat.reduceMul, reduceCtorEq]; rfl, rfl⟩
  rintro d e st ⟨i, n, H, ws, hd, hn, low, k8, hw, e0, e1, e2, e3, e8, e28, e29, e30, rfl⟩
  by_cases hi : i < s.ops.length
  · have ho : s.ops[i]? = some s.ops[i] := List.getElem?_eq_getElem hi
    have C := CC i _ ho
    have go := get_op hi
    generalize s.ops[i] = o at *
    generalize (tabOf s).2.getD i [] = ri at *
    have hal := C.al
    have soo : sub true 3 (encOp o) 0 = some (encOp o) := rfl
    have sb := st_box (h := H) (ws := ws) (ups := []) (z := .agg [(.str ⟨#[]⟩), (.slice 0 [] .nil), (.int .i64 0)]) (sz := 3) (c := encOp o) rfl rfl rfl (top_op _) ⟨_, rfl⟩ ⟨_, rfl⟩
    have hHl : h.length < H.length := (List.getElem?_eq_some_iff.1 k8).1
    have ko : (H ++ [AE.Obj.row 3 [encOp o]])[H.length]? = some (.row 3 [encOp o]) := by simp
    have k81 : (H ++ [AE.Obj.row 3 [encOp o]])[h.length]? = some (.row 3 [PV.agg [.int .i64 0, .int .i64 0, .slice 0 [] .nil]]) := keepL k8
    have low1 : Low h.length h (H ++ [AE.Obj.row 3 [encOp o]]) := low.push (by omega)
    have hlen1 : (H ++ [AE.Obj.row 3 [encOp o]]).length = H.length + 1 := by simp
    generalize hH1 : H ++ [AE.Obj.row 3 [encOp o]] = H1 at *
    have l2 : loadAt false 1 (.ptr H.length 0 2 1) H1 = some (.int .i64 o.res) := by rw [ld_at ko]; rfl
    have l1 : loadAt false 1 (.ptr H.length 0 1 1) H1 = some (.slice 1 (o.args.map encI) .any) := by rw [ld_at ko]; rfl
    have t3 := C.t3
    have gr := C.gr
    have gk := get_arr C.okR (k := 0) (by rw [C.rl]; omega)
    have hr0 := (C.okR.get (k := 0) (by rw [C.rl]; omega)).2
    have lw := ld_arr hr0 (show N < 61 by omega)
    have bw := (hr0.get (show N < 61 by omega)).2
    generalize hways : (ri.getD 0 []).getD N 0 = ways at *
    have hN61 : N < 61 := by omega
    have h061 : (0 : Nat) < ri.length := by rw [C.rl]; omega
    by_cases hres : o.res = (a : Int)
    · by_cases hnw : ways ≤ n
      · simp (disch := first | omega | decide | (simp only [eget_eput', ↓reduceIte, Nat.reduceEqDiff]; done)) only [go_sem, ↓reduceIte, Nat.reduceEqDiff, Nat.reduceAdd, Nat.reduceMul, reduceCtorEq, a91b4, List.length_cons, List.length_nil, e0, e1, e2, e3, e8, e28, e29, e30, hi, go, soo, sb, hH1, l2, l1, hres, bne_self_eq_false, t3, gr, gk, lw, hN61, hnw]
        exact ⟨d - 1, by omega, i + 1, n - ways, H1, _, by omega, by omega, low1, k81, wadd_low (by omega) hw, rfl, rfl, rfl⟩
      · have fc2 : fillC [PV.int .i64 0, .int .i64 0, .slice 0 [] .nil] [(0, 1, .int .i64 2), (1, 1, .int .i64 (i : Int))] = some [.int .i64 2, .int .i64 (i : Int), .slice 0 [] .nil] := rfl
        have sb2 := st_box (h := H1) (ws := wadd H.length ws) (ups := []) (z := .agg [(.int .i64 0), (.int .i64 0), (.slice 0 [] .nil)]) (sz := 3) (c := .agg [.int .i64 2, .int .i64 (i : Int), .slice 0 [] .nil]) rfl rfl rfl rfl ⟨_, rfl⟩ ⟨_, rfl⟩
        have hkx2 : (H1 ++ [AE.Obj.row 3 [PV.agg [.int .i64 2, .int .i64 (i : Int), .slice 0 [] .nil]]])[H1.length]? = some (.row 3 [PV.agg [.int .i64 2, .int .i64 (i : Int), .slice 0 [] .nil]]) := by simp
        have ko2 : (H1 ++ [AE.Obj.row 3 [PV.agg [.int .i64 2, .int .i64 (i : Int), .slice 0 [] .nil]]])[H.length]? = some (.row 3 [encOp o]) := keepL ko
        have k82 : (H1 ++ [AE.Obj.row 3 [PV.agg [.int .i64 2, .int .i64 (i : Int), .slice 0 [] .nil]]])[h.length]? = some (.row 3 [PV.agg [.int .i64 0, .int .i64 0, .slice 0 [] .nil]]) := keepL k81
        have low2 : Low h.length h (H1 ++ [AE.Obj.row 3 [PV.agg [.int .i64 2, .int .i64 (i : Int), .slice 0 [] .nil]]]) := low1.push (by omega)
        have hlen2 : (H1 ++ [AE.Obj.row 3 [PV.agg [.int .i64 2, .int .i64 (i : Int), .slice 0 [] .nil]]]).length = H.length + 2 := by simp [hlen1]
        generalize hH2 : H1 ++ [AE.Obj.row 3 [PV.agg [.int .i64 2, .int .i64 (i : Int), .slice 0 [] .nil]]] = H2 at *
        have hmk1 := mk_ok (sz := 1) (bytes := 8) (n := o.args.length) (z := .int .i64 0) (by omega) (by omega) rfl
        have hmk2 := mk_ok (sz := 1) (bytes := 8) (n := o.args.length + 1) (z := .int .i64 0) (by omega) (by omega) rfl
        have hrep : ∀ n, List.replicate n (PV.int .i64 0) = (List.replicate n (0 : Int)).map encI := fun n => by simp [encI]
        have hks3 : (H2 ++ [AE.Obj.row 1 ((List.replicate o.args.length (0 : Int)).map encI)])[H2.length]? = some (.row 1 ((List.replicate o.args.length (0 : Int)).map encI)) := by simp
        have hkx3 : (H2 ++ [AE.Obj.row 1 ((List.replicate o.args.length (0 : Int)).map encI)])[H1.length]? = some (.row 3 [PV.agg [.int .i64 2, .int .i64 (i : Int), .slice 0 [] .nil]]) := keepL hkx2
        have ko3 : (H2 ++ [AE.Obj.row 1 ((List.replicate o.args.length (0 : Int)).map encI)])[H.length]? = some (.row 3 [encOp o]) := keepL ko2
        have k83 : (H2 ++ [AE.Obj.row 1 ((List.replicate o.args.length (0 : Int)).map encI)])[h.length]? = some (.row 3 [PV.agg [.int .i64 0, .int .i64 0, .slice 0 [] .nil]]) := keepL k82
        have low3 : Low h.length h (H2 ++ [AE.Obj.row 1 ((List.replicate o.args.length (0 : Int)).map encI)]) := low2.push (by omega)
        have hlen3 : (H2 ++ [AE.Obj.row 1 ((List.replicate o.args.length (0 : Int)).map encI)]).length = H.length + 3 := by simp [hlen2]
        have l12 : loadAt false 1 (.ptr H.length 0 1 1) H2 = some (.slice 1 (o.args.map encI) .any) := by rw [ld_at ko2]; rfl
        generalize hH3 : H2 ++ [AE.Obj.row 1 ((List.replicate o.args.length (0 : Int)).map encI)] = H3 at *
        have l13 : loadAt false 1 (.ptr H.length 0 1 1) H3 = some (.slice 1 (o.args.map encI) .any) := by rw [ld_at ko3]; rfl
        simp (disch := first | omega | decide | (simp only [eget_eput', ↓reduceIte, Nat.reduceEqDiff]; done)) only [go_sem, ↓reduceIte, Nat.reduceEqDiff, Nat.reduceAdd, Nat.reduceMul, reduceCtorEq, a91b4, List.length_cons, List.length_nil, e0, e1, e2, e3, e8, e28, e29, e30, hi, go, soo, sb, hH1, l2, l1, hres, bne_self_eq_false, t3, gr, gk, lw, hN61, hnw, fc2, sb2, hH2, hmk1, hrep, hH3, l12, l13]
        refine nth_b1 hT C (N := N) (ks := H2.length) (n0 := n) (szs0 := List.replicate o.args.length 0) hN hn (by rw [hways]; omega) hks3 (by simp) (by simp (disch := first | omega | decide | (simp only [eget_eput', ↓reduceIte, Nat.reduceEqDiff]; done)) only [go_sem, ↓reduceIte, Nat.reduceEqDiff, Nat.reduceAdd, Nat.reduceMul, reduceCtorEq, e0]) (by simp (disch := first | omega | decide | (simp only [eget_eput', ↓reduceIte, Nat.reduceEqDiff]; done)) only [go_sem, ↓reduceIte, Nat.reduceEqDiff, Nat.reduceAdd, Nat.reduceMul, reduceCtorEq, e3]) (by simp (disch := first | omega | decide | (simp only [eget_eput', ↓reduceIte, Nat.reduceEqDiff]; done)) only [go_sem, ↓reduceIte, Nat.reduceEqDiff, Nat.reduceAdd, Nat.reduceMul, reduceCtorEq]) (by simp (disch := first | omega | decide | (simp only [eget_eput', ↓reduceIte, Nat.reduceEqDiff]; done)) only [go_sem, ↓reduceIte, Nat.reduceEqDiff, Nat.reduceAdd, Nat.reduceMul, reduceCtorEq]) (by simp (disch := first | omega | decide | (simp only [eget_eput', ↓reduceIte, Nat.reduceEqDiff]; done)) only [go_sem, ↓reduceIte, Nat.reduceEqDiff, Nat.reduceAdd, Nat.reduceMul, reduceCtorEq]) (by simp (disch := first | omega | decide | (simp only [eget_eput', ↓reduceIte, Nat.reduceEqDiff]; done)) only [go_sem, ↓reduceIte, Nat.reduceEqDiff, Nat.reduceAdd, Nat.reduceMul, reduceCtorEq]) (by simp (disch := first | omega | decide | (simp only [eget_eput', ↓reduceIte, Nat.reduceEqDiff]; done)) only [go_sem, ↓reduceIte, Nat.reduceEqDiff, Nat.reduceAdd, Nat.reduceMul, reduceCtorEq]) (by simp (disch := first | omega | decide | (simp only [eget_eput', ↓reduceIte, Nat.reduceEqDiff]; done)) only [go_sem, ↓reduceIte, Nat.reduceEqDiff, Nat.reduceAdd, Nat.reduceMul, reduceCtorEq]) (by simp (disch := first | omega | decide | (simp only [eget_eput', ↓reduceIte, Nat.reduceEqDiff]; done)) only [go_sem, ↓reduceIte, Nat.reduceEqDiff, Nat.reduceAdd, Nat.reduceMul, reduceCtorEq]) fun e' n' szs ws' hs' e3' hn1 hn2 hsl hok hw' => ?_
        have g0 : eget e' 0 = .iptr TAB 0 := (hs' 0 (by omega)).trans (by simp (disch := first | omega | decide | (simp only [eget_eput', ↓reduceIte, Nat.reduceEqDiff]; done)) only [go_sem, ↓reduceIte, Nat.reduceEqDiff, Nat.reduceAdd, Nat.reduceMul, reduceCtorEq, e0])
        have g8 : eget e' 8 = .ptr h.length 0 0 1 := (hs' 8 (by omega)).trans (by simp (disch := first | omega | decide | (simp only [eget_eput', ↓reduceIte, Nat.reduceEqDiff]; done)) only [go_sem, ↓reduceIte, Nat.reduceEqDiff, Nat.reduceAdd, Nat.reduceMul, reduceCtorEq, e8])
        have g10 : eget e' 10 = .ptr H.length 0 0 1 := (hs' 10 (by omega)).trans (by simp (disch := first | omega | decide | (simp only [eget_eput', ↓reduceIte, Nat.reduceEqDiff]; done)) only [go_sem, ↓reduceIte, Nat.reduceEqDiff, Nat.reduceAdd, Nat.reduceMul, reduceCtorEq])
        have g12 : eget e' 12 = .ptr H1.length 0 0 1 := (hs' 12 (by omega)).trans (by simp (disch := first | omega | decide | (simp only [eget_eput', ↓reduceIte, Nat.reduceEqDiff]; done)) only [go_sem, ↓reduceIte, Nat.reduceEqDiff, Nat.reduceAdd, Nat.reduceMul, reduceCtorEq])
        have g13 : eget e' 13 = .aref H2.length 1 0 o.args.length o.args.length := (hs' 13 (by omega)).trans (by simp (disch := first | omega | decide | (simp only [eget_eput', ↓reduceIte, Nat.reduceEqDiff]; done)) only [go_sem, ↓reduceIte, Nat.reduceEqDiff, Nat.reduceAdd, Nat.reduceMul, reduceCtorEq])
        have ks4 : (H3.set H2.length (AE.Obj.row 1 (szs.map encI)))[H2.length]? = some (.row 1 (szs.map encI)) := get_set hks3
        have kx4 : (H3.set H2.length (AE.Obj.row 1 (szs.map encI)))[H1.length]? = some (.row 3 [PV.agg [.int .i64 2, .int .i64 (i : Int), .slice 0 [] .nil]]) := get_set_ne hkx3 (by omega)
        have ko4 : (H3.set H2.length (AE.Obj.row 1 (szs.map encI)))[H.length]? = some (.row 3 [encOp o]) := get_set_ne ko3 (by omega)
        have k84 : (H3.set H2.length (AE.Obj.row 1 (szs.map encI)))[h.length]? = some (.row 3 [PV.agg [.int .i64 0, .int .i64 0, .slice 0 [] .nil]]) := get_set_ne k83 (by omega)
        have low4 : Low h.length h (H3.set H2.length (AE.Obj.row 1 (szs.map encI))) := low3.trans (.set (by omega))
        have hlen4 : (H3.set H2.length (AE.Obj.row 1 (szs.map encI))).length = H.length + 3 := by simp [hlen3]
        generalize hH4 : H3.set H2.length (AE.Obj.row 1 (szs.map encI)) = H4 at *
        have l14 : loadAt false 1 (.ptr H.length 0 1 1) H4 = some (.slice 1 (o.args.map encI) .any) := by rw [ld_at ko4]; rfl
        have kb5 : (H4 ++ [AE.Obj.row 1 ((List.replicate (o.args.length + 1) (0 : Int)).map encI)])[H4.length]? = some (.row 1 ((List.replicate (o.args.length + 1) (0 : Int)).map encI)) := by simp
        have ks5 : (H4 ++ [AE.Obj.row 1 ((List.replicate (o.args.length + 1) (0 : Int)).map encI)])[H2.length]? = some (.row 1 (szs.map encI)) := keepL ks4
        have kx5 : (H4 ++ [AE.Obj.row 1 ((List.replicate (o.args.length + 1) (0 : Int)).map encI)])[H1.length]? = some (.row 3 [PV.agg [.int .i64 2, .int .i64 (i : Int), .slice 0 [] .nil]]) := keepL kx4
        have ko5 : (H4 ++ [AE.Obj.row 1 ((List.replicate (o.args.length + 1) (0 : Int)).map encI)])[H.length]? = some (.row 3 [encOp o]) := keepL ko4
        have k85 : (H4 ++ [AE.Obj.row 1 ((List.replicate (o.args.length + 1) (0 : Int)).map encI)])[h.length]? = some (.row 3 [PV.agg [.int .i64 0, .int .i64 0, .slice 0 [] .nil]]) := keepL k84
        have low5 : Low h.length h (H4 ++ [AE.Obj.row 1 ((List.replicate (o.args.length + 1) (0 : Int)).map encI)]) := low4.push (by omega)
        generalize hH5 : H4 ++ [AE.Obj.row 1 ((List.replicate (o.args.length + 1) (0 : Int)).map encI)] = H5 at *
        have l15 : loadAt false 1 (.ptr H.length 0 1 1) H5 = some (.slice 1 (o.args.map encI) .any) := by rw [ld_at ko5]; rfl
        have hL1 : o.args.length < o.args.length + 1 := by omega
        have sv5 := fun ws => st_v (ws := ws) (ups := []) (v := 1) kb5 (by simp) hL1
        have kb6 : (H5.set H4.length (AE.Obj.row 1 (((List.replicate (o.args.length + 1) (0 : Int)).set o.args.length 1).map encI)))[H4.length]? = some (.row 1 (((List.replicate (o.args.length + 1) (0 : Int)).set o.args.length 1).map encI)) := get_set kb5
        have ks6 : (H5.set H4.length (AE.Obj.row 1 (((List.replicate (o.args.length + 1) (0 : Int)).set o.args.length 1).map encI)))[H2.length]? = some (.row 1 (szs.map encI)) := get_set_ne ks5 (by omega)
        have kx6 : (H5.set H4.length (AE.Obj.row 1 (((List.replicate (o.args.length + 1) (0 : Int)).set o.args.length 1).map encI)))[H1.length]? = some (.row 3 [PV.agg [.int .i64 2, .int .i64 (i : Int), .slice 0 [] .nil]]) := get_set_ne kx5 (by omega)
        have ko6 : (H5.set H4.length (AE.Obj.row 1 (((List.replicate (o.args.length + 1) (0 : Int)).set o.args.length 1).map encI)))[H.length]? = some (.row 3 [encOp o]) := get_set_ne ko5 (by omega)
        have k86 : (H5.set H4.length (AE.Obj.row 1 (((List.replicate (o.args.length + 1) (0 : Int)).set o.args.length 1).map encI)))[h.length]? = some (.row 3 [PV.agg [.int .i64 0, .int .i64 0, .slice 0 [] .nil]]) := get_set_ne k85 (by omega)
        have low6 : Low h.length h (H5.set H4.length (AE.Obj.row 1 (((List.replicate (o.args.length + 1) (0 : Int)).set o.args.length 1).map encI))) := low5.trans (.set (by omega))
        have hb06 : okBh o.args.length o.args.length ((List.replicate (o.args.length + 1) (0 : Int)).set o.args.length 1) := fun j h1 h2 => by
          have : j = o.args.length := by omega
          subst this
          rw [getD_set (by simp), if_pos rfl]
          omega
        have hbl6 : ((List.replicate (o.args.length + 1) (0 : Int)).set o.args.length 1).length = o.args.length + 1 := by simp
        generalize ((List.replicate (o.args.length + 1) (0 : Int)).set o.args.length 1) = bh0 at *
        generalize hH6 : H5.set H4.length (AE.Obj.row 1 (bh0.map encI)) = H6 at *
        have l16 : loadAt false 1 (.ptr H.length 0 1 1) H6 = some (.slice 1 (o.args.map encI) .any) := by rw [ld_at ko6]; rfl
        simp (disch := first | omega | decide | (simp only [eget_eput', ↓reduceIte, Nat.reduceEqDiff]; done)) only [go_sem, ↓reduceIte, Nat.reduceEqDiff, Nat.reduceAdd, Nat.reduceMul, reduceCtorEq, List.length_cons, List.length_nil, g0, g8, g10, g12, g13, e3', l14, hmk2, hrep, hH5, l15, hL1, sv5, l16]
        refine nth_b2 hT C (N := N) (ks := H2.length) (kb := H4.length) (ko := H.length) (szs := szs) (bh0 := bh0) hN hok hb06 ks6 hsl kb6 hbl6 ko6 ⟨by omega, by omega⟩ (by simp (disch := first | omega | decide | (simp only [eget_eput', ↓reduceIte, Nat.reduceEqDiff]; done)) only [go_sem, ↓reduceIte, Nat.reduceEqDiff, Nat.reduceAdd, Nat.reduceMul, reduceCtorEq, g0]) (by simp (disch := first | omega | decide | (simp only [eget_eput', ↓reduceIte, Nat.reduceEqDiff]; done)) only [go_sem, ↓reduceIte, Nat.reduceEqDiff, Nat.reduceAdd, Nat.reduceMul, reduceCtorEq, g10]) (by simp (disch := first | omega | decide | (simp only [eget_eput', ↓reduceIte, Nat.reduceEqDiff]; done)) only [go_sem, ↓reduceIte, Nat.reduceEqDiff, Nat.reduceAdd, Nat.reduceMul, reduceCtorEq, g13]) (by simp (disch := first | omega | decide | (simp only [eget_eput', ↓reduceIte, Nat.reduceEqDiff]; done)) only [go_sem, ↓reduceIte, Nat.reduceEqDiff, Nat.reduceAdd, Nat.reduceMul, reduceCtorEq]) (by simp (disch := first | omega | decide | (simp only [eget_eput', ↓reduceIte, Nat.reduceEqDiff]; done)) only [go_sem, ↓reduceIte, Nat.reduceEqDiff, Nat.reduceAdd, Nat.reduceMul, reduceCtorEq]) fun e2' bh ws2 hs2 hbl hb hw2 => ?_
        have q0 : eget e2' 0 = .iptr TAB 0 := (hs2 0 (by omega)).trans (by simp (disch := first | omega | decide | (simp only [eget_eput', ↓reduceIte, Nat.reduceEqDiff]; done)) only [go_sem, ↓reduceIte, Nat.reduceEqDiff, Nat.reduceAdd, Nat.reduceMul, reduceCtorEq, g0])
        have q3 : eget e2' 3 = .int .i64 n' := (hs2 3 (by omega)).trans (by simp (disch := first | omega | decide | (simp only [eget_eput', ↓reduceIte, Nat.reduceEqDiff]; done)) only [go_sem, ↓reduceIte, Nat.reduceEqDiff, Nat.reduceAdd, Nat.reduceMul, reduceCtorEq, e3'])
        have q8 : eget e2' 8 = .ptr h.length 0 0 1 := (hs2 8 (by omega)).trans (by simp (disch := first | omega | decide | (simp only [eget_eput', ↓reduceIte, Nat.reduceEqDiff]; done)) only [go_sem, ↓reduceIte, Nat.reduceEqDiff, Nat.reduceAdd, Nat.reduceMul, reduceCtorEq, g8])
        have q10 : eget e2' 10 = .ptr H.length 0 0 1 := (hs2 10 (by omega)).trans (by simp (disch := first | omega | decide | (simp only [eget_eput', ↓reduceIte, Nat.reduceEqDiff]; done)) only [go_sem, ↓reduceIte, Nat.reduceEqDiff, Nat.reduceAdd, Nat.reduceMul, reduceCtorEq, g10])
        have q12 : eget e2' 12 = .ptr H1.length 0 0 1 := (hs2 12 (by omega)).trans (by simp (disch := first | omega | decide | (simp only [eget_eput', ↓reduceIte, Nat.reduceEqDiff]; done)) only [go_sem, ↓reduceIte, Nat.reduceEqDiff, Nat.reduceAdd, Nat.reduceMul, reduceCtorEq, g12])
        have q13 : eget e2' 13 = .aref H2.length 1 0 o.args.length o.args.length := (hs2 13 (by omega)).trans (by simp (disch := first | omega | decide | (simp only [eget_eput', ↓reduceIte, Nat.reduceEqDiff]; done)) only [go_sem, ↓reduceIte, Nat.reduceEqDiff, Nat.reduceAdd, Nat.reduceMul, reduceCtorEq, g13])
        have q20 : eget e2' 20 = .aref H4.length 1 0 (o.args.length + 1) (o.args.length + 1) := (hs2 20 (by omega)).trans (by simp (disch := first | omega | decide | (simp only [eget_eput', ↓reduceIte, Nat.reduceEqDiff]; done)) only [go_sem, ↓reduceIte, Nat.reduceEqDiff, Nat.reduceAdd, Nat.reduceMul, reduceCtorEq])
        have kb7 : (H6.set H4.length (AE.Obj.row 1 (bh.map encI)))[H4.length]? = some (.row 1 (bh.map encI)) := get_set kb6
        have ks7 : (H6.set H4.length (AE.Obj.row 1 (bh.map encI)))[H2.length]? = some (.row 1 (szs.map encI)) := get_set_ne ks6 (by omega)
        have kx7 : (H6.set H4.length (AE.Obj.row 1 (bh.map encI)))[H1.length]? = some (.row 3 [PV.agg [.int .i64 2, .int .i64 (i : Int), .slice 0 [] .nil]]) := get_set_ne kx6 (by omega)
        have ko7 : (H6.set H4.length (AE.Obj.row 1 (bh.map encI)))[H.length]? = some (.row 3 [encOp o]) := get_set_ne ko6 (by omega)
        have k87 : (H6.set H4.length (AE.Obj.row 1 (bh.map encI)))[h.length]? = some (.row 3 [PV.agg [.int .i64 0, .int .i64 0, .slice 0 [] .nil]]) := get_set_ne k86 (by omega)
        have low7 : Low h.length h (H6.set H4.length (AE.Obj.row 1 (bh.map encI))) := low6.trans (.set (by omega))
        generalize hH7 : H6.set H4.length (AE.Obj.row 1 (bh.map encI)) = H7 at *
        have l17 : loadAt false 1 (.ptr H.length 0 1 1) H7 = some (.slice 1 (o.args.map encI) .any) := by rw [ld_at ko7]; rfl
        have hw7 : ∀ x ∈ ws2, h.length ≤ x := fun x hx => by
          rcases hw2 x hx with hx | hx
          · rcases mem_wadd hx with hx | hx
            · omega
            · rcases hw' x hx with hx | hx
              · rcases mem_wadd hx with hx | hx
                · omega
                · rcases mem_wadd hx with hx | hx
                  · omega
                  · exact hw x hx
              · omega
          · omega
        simp (disch := first | omega | decide | (simp only [eget_eput', ↓reduceIte, Nat.reduceEqDiff]; done)) only [go_sem, ↓reduceIte, Nat.reduceEqDiff, Nat.reduceAdd, Nat.reduceMul, reduceCtorEq, List.length_cons, List.length_nil, q10, l17]
        refine nth_b3 hT C (N := N) (ks := H2.length) (kb := H4.length) (kx := H1.length) (lo := h.length) (n0 := n') (szs := szs) (bh := bh) (h0 := h) h91 IH hok hb ⟨hn1, hn2⟩ ks7 hsl kb7 hbl kx7 ⟨by omega, by omega⟩ low7 ⟨Nat.le_refl _, by omega⟩ hw7 (by simp (disch := first | omega | decide | (simp only [eget_eput', ↓reduceIte, Nat.reduceEqDiff]; done)) only [go_sem, ↓reduceIte, Nat.reduceEqDiff, Nat.reduceAdd, Nat.reduceMul, reduceCtorEq, q0]) (by simp (disch := first | omega | decide | (simp only [eget_eput', ↓reduceIte, Nat.reduceEqDiff]; done)) only [go_sem, ↓reduceIte, Nat.reduceEqDiff, Nat.reduceAdd, Nat.reduceMul, reduceCtorEq, q3]) (by simp (disch := first | omega | decide | (simp only [eget_eput', ↓reduceIte, Nat.reduceEqDiff]; done)) only [go_sem, ↓reduceIte, Nat.reduceEqDiff, Nat.reduceAdd, Nat.reduceMul, reduceCtorEq, q12]) (by simp (disch := first | omega | decide | (simp only [eget_eput', ↓reduceIte, Nat.reduceEqDiff]; done)) only [go_sem, ↓reduceIte, Nat.reduceEqDiff, Nat.reduceAdd, Nat.reduceMul, reduceCtorEq, q13]) (by simp (disch := first | omega | decide | (simp only [eget_eput', ↓reduceIte, Nat.reduceEqDiff]; done)) only [go_sem, ↓reduceIte, Nat.reduceEqDiff, Nat.reduceAdd, Nat.reduceMul, reduceCtorEq, q20]) (by simp (disch := first | omega | decide | (simp only [eget_eput', ↓reduceIte, Nat.reduceEqDiff]; done)) only [go_sem, ↓reduceIte, Nat.reduceEqDiff, Nat.reduceAdd, Nat.reduceMul, reduceCtorEq]) (by simp (disch := first | omega | decide | (simp only [eget_eput', ↓reduceIte, Nat.reduceEqDiff]; done)) only [go_sem, ↓reduceIte, Nat.reduceEqDiff, Nat.reduceAdd, Nat.reduceMul, reduceCtorEq]) (by simp (disch := first | omega | decide | (simp only [eget_eput', ↓reduceIte, Nat.reduceEqDiff]; done)) only [go_sem, ↓reduceIte, Nat.reduceEqDiff, Nat.reduceAdd, Nat.reduceMul, reduceCtorEq]) fun e3'' v es H8 ws8 ups8 hs3 hel hes A kx8 keep8 low8 hw8 hu8 => ?_
        have r8 : eget e3'' 8 = .ptr h.length 0 0 1 := (hs3 8 (by omega)).trans (by simp (disch := first | omega | decide | (simp only [eget_eput', ↓reduceIte, Nat.reduceEqDiff]; done)) only [go_sem, ↓reduceIte, Nat.reduceEqDiff, Nat.reduceAdd, Nat.reduceMul, reduceCtorEq, q8])
        have r12 : eget e3'' 12 = .ptr H1.length 0 0 1 := (hs3 12 (by omega)).trans (by simp (disch := first | omega | decide | (simp only [eget_eput', ↓reduceIte, Nat.reduceEqDiff]; done)) only [go_sem, ↓reduceIte, Nat.reduceEqDiff, Nat.reduceAdd, Nat.reduceMul, reduceCtorEq, q12])
        have k88 := keep8 _ _ _ (by omega) k87
        obtain ⟨sz, m, rfl, hsz⟩ := A.slice
        obtain ⟨ups', sv, hups⟩ := st_k3 (ws := ws8) (ups := ups8) (x := 2) (y := (i : Int)) (sz := sz) (es := es) (m := m) k88
        have lx : loadAt true 3 (.ptr H1.length 0 0 1) H8 = some (PV.agg [.int .i64 2, .int .i64 (i : Int), .slice sz es m]) := by rw [ld_at kx8]; rfl
        have ll : loadAt true 3 (.ptr h.length 0 0 1) (H8.set h.length (.row 3 [PV.agg [.int .i64 2, .int .i64 (i : Int), .slice sz es m]])) = some (PV.agg [.int .i64 2, .int .i64 (i : Int), .slice sz es m]) := by rw [ld_at (get_set k88)]; rfl
        obtain ⟨pes, wes⟩ := weaks_terms hes
        simp (disch := first | omega | decide | (simp only [eget_eput', ↓reduceIte, Nat.reduceEqDiff]; done)) only [go_sem, ↓reduceIte, Nat.reduceEqDiff, Nat.reduceAdd, Nat.reduceMul, reduceCtorEq, List.length_cons, List.length_nil, r8, r12, lx, sv, resv, ll]
        have tT : IsT (PV.agg [.int .i64 2, .int .i64 (i : Int), .slice sz es m]).weak := by
          simp only [PV.weak, weaks, wes]
          exact .mk 2 i sz es hsz hel hes
        refine ⟨_, tidy_ups (by simp [PV.pure, pures, pes]) (low8.trans (.set (Nat.le_refl _))) (fun x hx => ?_) (fun x hx => ?_), tT⟩
        · rcases mem_wadd hx with h | h
          · omega
          · exact hw8 x h
        · rcases hups x hx with h | h
          · exact hu8 x h
          · omega
    · have hres' : (o.res != (a : Int)) = true := by simpa using hres
      simp (disch := first | omega | decide | (simp only [eget_eput', ↓reduceIte, Nat.reduceEqDiff]; done)) only [go_sem, ↓reduceIte, Nat.reduceEqDiff, Nat.reduceAdd, Nat.reduceMul, reduceCtorEq, a91b4, List.length_cons, List.length_nil, e0, e1, e2, e3, e8, e28, e29, e30, hi, go, soo, sb, hH1, l2, hres']
      exact ⟨d - 1, by omega, i + 1, n, H1, _, by omega, hn, low1, k81, wadd_low (by omega) hw, rfl, rfl, rfl⟩
  · have fc0 : fillC [PV.int .i64 0, .int .i64 0, .slice 0 [] .nil] [] = some [.int .i64 0, .int .i64 0, .slice 0 [] .nil] := rfl
    obtain ⟨ups', sv, hups⟩ := st_k3 (ws := ws) (ups := []) (x := 0) (y := 0) (sz := 0) (es := []) (m := .nil) k8
    have hHl : h.length < H.length := (List.getElem?_eq_some_iff.1 k8).1
    have ll : loadAt true 3 (.ptr h.length 0 0 1) (H.set h.length (.row 3 [PV.agg [.int .i64 0, .int .i64 0, .slice 0 [] .nil]])) = some (PV.agg [.int .i64 0, .int .i64 0, .slice 0 [] .nil]) := by rw [ld_at (get_set k8)]; rfl
    simp (disch := first | omega | decide | (simp only [eget_eput', ↓reduceIte, Nat.reduceEqDiff]; done)) only [go_sem, ↓reduceIte, Nat.reduceEqDiff, Nat.reduceAdd, Nat.reduceMul, reduceCtorEq, a91b4, List.length_cons, List.length_nil, e0, e1, e2, e3, e8, e28, e29, e30, hi, fc0, sv, resv, ll]
    refine ⟨_, tidy_ups rfl (low.trans (.set (Nat.le_refl _))) (fun x hx => ?_) (fun x hx => ?_), zT⟩
    · rcases mem_wadd hx with h | h
      · omega
      · exact hw x h
    · rcases hups x hx with h | h
      · cases h
      · omega
end Go.Proofs.Tryz
/- nth: total at all sizes. -/
namespace Go.Proofs.Tryz
open Go Go.AE
variable {T : Tbl} (hT : Std T)

def tabV (s : GSig) : PV := .agg [.slice 1 (s.sorts.map .str) .any, .slice 3 (s.ops.map encOp) .any, .slice 61 ((tabOf s).1.map arr) .any, .slice 1 ((tabOf s).2.map fun r => .slice 61 (r.map arr) .any) .any]
theorem encTab_eq (s : GSig) : encTab s = .iptr (tabV s) 0 := rfl
theorem nthC {s : GSig} (hs : GOk s) {i : Nat} {o : GOp} (ho : s.ops[i]? = some o) : NthC s (tabV s) i o (tabOf s).1 ((tabOf s).2.getD i []) ((tabOf s).2.map fun r => .slice 61 (r.map arr) .any) := by
  obtain ⟨S, K⟩ := tabOf_sem hs.ops
  obtain ⟨a1, a2, a3⟩ := hs.ops o (List.mem_of_getElem? ho)
  have hi : i < (tabOf s).2.length := by rw [K.len]; exact (List.getElem?_eq_some_iff.1 ho).1
  have e1 : (tabOf s).2[i]? = some ((tabOf s).2.getD i []) := by
    rw [List.getD_eq_getElem?_getD, List.getElem?_eq_getElem hi]; rfl
  obtain ⟨q1, q2⟩ := K.rows i o _ ho e1
  exact ⟨rfl, rfl, rfl, K.sl, K.so, ho, a1, a3, by rw [List.getElem?_map, e1]; rfl, q2, q1, fun k q hk hq => S.eq i o k q ho hk hq⟩
include hT in
theorem nth_tot {s : GSig} (hs : GOk s) (h91 : T.sp 91 = none) : ∀ N, N ≤ 60 → NthIH T s (tabV s) N
  | 0, _ => fun a m n h _ h1 h2 => by omega
  | N + 1, hN => fun a m n h ha h1 h2 hn0 hn1 => by
    have ih := nth_tot hs h91 N (by omega)
    by_cases hm : m ≤ N
    · exact ih a m n h ha h1 hm hn0 hn1
    · have : m = N + 1 := by omega
      subst this
      exact nth_step hT hs h91 (by omega) (fun i o ho => nthC hs ho) rfl ih a n h ha ⟨hn0, hn1⟩
end Go.Proofs.Tryz
/- Count, Nth. -/
namespace Go.Proofs.Tryz
open Go Go.AE
variable {T : Tbl} (hT : Std T) {s : GSig}

theorem encSig_ld {h : List AE.Obj} : loadAt true 2 (.ptr h.length 0 0 1) (h ++ [AE.Obj.row 2 [encSig s]]) = some (encSig s) := by
  have hk : (h ++ [AE.Obj.row 2 [encSig s]])[h.length]? = some (.row 2 [encSig s]) := by simp
  rw [ld_at hk]; rfl
include hT in
theorem count_err {r : Int} (hr : r ≠ 0) (E87 : ∀ h, Ev T 87 [encSig s] h (.val (.int .i64 r), ⟨h, [], []⟩)) (sort size : Int) (h : List AE.Obj) : Ev T 44 [encSig s, .int .i64 sort, .int .i64 size] h (.val (.tuple [.int .i64 0, .int .i64 r]), ⟨h, [], []⟩) := by
  refine Ev.walk (hT.sp _ (by decide)) ((hT.fn _).trans fn44) (hT.mode _) rfl ?_
  have hr' : (r != 0) = true := by simpa using hr
  simp (disch := first | omega | decide | (simp only [eget_eput', ↓reduceIte, Nat.reduceEqDiff]; done)) only [go_sem, ↓reduceIte, Nat.reduceEqDiff, Nat.reduceAdd, Nat.reduceMul, reduceCtorEq, encSig_ld, cb (E87 _), hT.prim, primOf, hr']
include hT in
theorem count_arg (E87 : ∀ h, Ev T 87 [encSig s] h (.val (.int .i64 0), ⟨h, [], []⟩)) {sort size : Int} (hb : (isSortB sort s.sorts.length && sizedB size) = false) (h : List AE.Obj) : Ev T 44 [encSig s, .int .i64 sort, .int .i64 size] h (.val (.tuple [.int .i64 0, .int .i64 1]), ⟨h, [], []⟩) := by
  refine Ev.walk (hT.sp _ (by decide)) ((hT.fn _).trans fn44) (hT.mode _) rfl ?_
  have c1 := fun h => isSort_ev hT (s := s) sort h
  have c2 := fun h => sized_ev hT size h
  cases h1 : isSortB sort s.sorts.length
  · rw [h1] at c1
    simp (disch := first | omega | decide | (simp only [eget_eput', ↓reduceIte, Nat.reduceEqDiff]; done)) only [go_sem, ↓reduceIte, Nat.reduceEqDiff, Nat.reduceAdd, Nat.reduceMul, reduceCtorEq, encSig_ld, cb (E87 _), hT.prim, primOf, bne_self_eq_false, cb (c1 _)]
  · rw [h1, Bool.true_and] at hb
    rw [h1] at c1
    rw [hb] at c2
    simp (disch := first | omega | decide | (simp only [eget_eput', ↓reduceIte, Nat.reduceEqDiff]; done)) only [go_sem, ↓reduceIte, Nat.reduceEqDiff, Nat.reduceAdd, Nat.reduceMul, reduceCtorEq, encSig_ld, cb (E87 _), hT.prim, primOf, bne_self_eq_false, cb (c1 _), cb (c2 _)]
/-- How many terms there are of a sort with so many nodes. -/
def cntOf (s : GSig) (a m : Nat) : Int := ((tabOf s).1.getD a []).getD m 0
theorem cnt_ok {s : GSig} (hs : GOk s) {a : Nat} (ha : a < s.sorts.length) : okRow ((tabOf s).1.getD a []) ∧ ((tabOf s).1.map arr)[a]? = some (arr ((tabOf s).1.getD a [])) := by
  obtain ⟨S, K⟩ := tabOf_sem hs.ops
  have hl : a < (tabOf s).1.length := by rw [K.sl]; exact ha
  exact ⟨(K.so.get hl).2, get_arr K.so hl⟩
theorem tab_t2 : sub false 1 (tabV s) 2 = some (.slice 61 ((tabOf s).1.map arr) .any) := rfl
include hT in
theorem count_ok (hs : GOk s) (E87 : ∀ h, Ev T 87 [encSig s] h (.val (.int .i64 0), ⟨h, [], []⟩)) {a m : Nat} (ha : a < s.sorts.length) (hm : m ≤ 60) (h : List AE.Obj) : Ev T 44 [encSig s, .int .i64 (a : Int), .int .i64 (m : Int)] h (.val (.tuple [.int .i64 (cntOf s a m), .int .i64 0]), ⟨h, [], []⟩) := by
  refine Ev.walk (hT.sp _ (by decide)) ((hT.fn _).trans fn44) (hT.mode _) rfl ?_
  have c1 := fun h => isSort_ev hT (s := s) (a : Int) h
  have c2 := fun h => sized_ev hT (m : Int) h
  have h1 : isSortB (a : Int) s.sorts.length = true := by simp [isSortB]; omega
  have h2 : sizedB (m : Int) = true := by simp [sizedB]; omega
  rw [h1] at c1
  rw [h2] at c2
  have c3 := fun h => counted_ev hT hs (h := h)
  obtain ⟨k1, k2⟩ := cnt_ok hs ha
  have hm61 : m < 61 := by omega
  have ls := ld_arr k1 hm61
  simp (disch := first | omega | decide | (simp only [eget_eput', ↓reduceIte, Nat.reduceEqDiff]; done)) only [go_sem, ↓reduceIte, Nat.reduceEqDiff, Nat.reduceAdd, Nat.reduceMul, reduceCtorEq, encSig_ld, cb (E87 _), hT.prim, primOf, bne_self_eq_false, cb (c1 _), cb (c2 _), cb (c3 _), encTab_eq, tab_t2, k2, hm61, ls]
  rfl
include hT in
theorem nth_ok (hs : GOk s) (E87 : ∀ h, Ev T 87 [encSig s] h (.val (.int .i64 0), ⟨h, [], []⟩)) {a m : Nat} {k : Int} {p : PV} (ha : a < s.sorts.length) (hm : m ≤ 60) (hk : 0 ≤ k ∧ k < cntOf s a m) (tp : IsT p) (E91 : ∀ h, Ev T 91 [encTab s, .int .i64 (a : Int), .int .i64 (m : Int), .int .i64 k] h (.val p, ⟨h, [], []⟩)) (h : List AE.Obj) :
    Ev T 18 [encSig s, .int .i64 (a : Int), .int .i64 (m : Int), .int .i64 k] h (.val (.tuple [p, .int .i64 0]), ⟨h, [], []⟩) := by
  refine Ev.walk (hT.sp _ (by decide)) ((hT.fn _).trans fn18) (hT.mode _) rfl ?_
  have c1 := fun h => isSort_ev hT (s := s) (a : Int) h
  have c2 := fun h => sized_ev hT (m : Int) h
  have h1 : isSortB (a : Int) s.sorts.length = true := by simp [isSortB]; omega
  have h2 : sizedB (m : Int) = true := by simp [sizedB]; omega
  rw [h1] at c1
  rw [h2] at c2
  have c3 := fun h => counted_ev hT hs (h := h)
  rw [encTab_eq] at c3 E91
  obtain ⟨k1, k2⟩ := cnt_ok hs ha
  have hm61 : m < 61 := by omega
  have ls := ld_arr k1 hm61
  have hk0 : ¬ k < 0 := by omega
  have hk1 : ¬ ((tabOf s).1.getD a []).getD m 0 ≤ k := by have := hk.2; unfold cntOf at this; omega
  obtain ⟨p1, p2, p3, p4⟩ := tp.cells
  obtain ⟨w1, w2⟩ := tp.pureW
  have sb := fun ws => st_box (h := h ++ [AE.Obj.row 2 [encSig s]]) (ws := ws) (ups := []) (z := .agg [(.int .i64 0), (.int .i64 0), (.slice 0 [] .nil)]) (sz := 3) (c := p) p1 rfl p2 tp.top ⟨_, rfl⟩ p4
  have kk : ((h ++ [AE.Obj.row 2 [encSig s]]) ++ [AE.Obj.row 3 [PV.agg [.int .i64 0, .int .i64 0, .slice 0 [] .nil]]])[h.length]? = some (.row 2 [encSig s]) := keepL (by simp)
  have ll : loadAt true 2 (.ptr h.length 0 0 1) ((h ++ [AE.Obj.row 2 [encSig s]]) ++ [AE.Obj.row 3 [PV.agg [.int .i64 0, .int .i64 0, .slice 0 [] .nil]]]) = some (encSig s) := by rw [ld_at kk]; rfl
  have kp : ((h ++ [AE.Obj.row 2 [encSig s]]) ++ [AE.Obj.row 3 [p]])[(h ++ [AE.Obj.row 2 [encSig s]]).length]? = some (.row 3 [p]) := by simp
  have lp : loadAt true 3 (.ptr (h ++ [AE.Obj.row 2 [encSig s]]).length 0 0 1) ((h ++ [AE.Obj.row 2 [encSig s]]) ++ [AE.Obj.row 3 [p]]) = some p := by rw [ld_at kp]; exact tp.sub
  have low : Low h.length h ((h ++ [AE.Obj.row 2 [encSig s]]) ++ [AE.Obj.row 3 [p]]) := ((Low.refl _ _).push (Nat.le_refl _)).push (by simp)
  have hlen : h.length ≤ (h ++ [AE.Obj.row 2 [encSig s]]).length := by simp
  generalize hkb : (h ++ [AE.Obj.row 2 [encSig s]]).length = kb at *
  simp (disch := first | omega | decide | (simp only [eget_eput', ↓reduceIte, Nat.reduceEqDiff]; done)) only [go_sem, ↓reduceIte, Nat.reduceEqDiff, Nat.reduceAdd, Nat.reduceMul, reduceCtorEq, List.length_cons, List.length_nil, hkb, ll, cb (E87 _), hT.prim, primOf, bne_self_eq_false, cb (c1 _), cb (c2 _), cb (c3 _), tab_t2, k2, hm61, ls, hk0, hk1, cb (E91 _), sb, resv, lp]
  exact tidy_low (by simp [PV.pure, pures, w1]) (by simp [PV.weak, weaks, w2]) low (wadd_low hlen (by simp))
end Go.Proofs.Tryz
/- terms: the list of all terms up to a size. -/
namespace Go.Proofs.Tryz
open Go Go.AE
variable {T : Tbl} (hT : Std T) {s : GSig}

/-- How many terms there are up to a size. -/
def sumOf (s : GSig) (a : Nat) : Nat → Int
  | 0 => 0
  | n + 1 => sumOf s a n + cntOf s a (n + 1)
/-- The terms up to a size. -/
def termsL (s : GSig) (a : Nat) (pv : Nat → Nat → PV) : Nat → List PV
  | 0 => []
  | n + 1 => termsL s a pv n ++ (List.range (cntOf s a (n + 1)).toNat).map (pv (n + 1))
theorem cnt_nn (hs : GOk s) {a : Nat} (ha : a < s.sorts.length) (m : Nat) : 0 ≤ cntOf s a m ∧ cntOf s a m ≤ 1099511627776 := ⟨(cnt_ok hs ha).1.nonneg m, (cnt_ok hs ha).1.le m⟩
theorem sum_nn (hs : GOk s) {a : Nat} (ha : a < s.sorts.length) : ∀ n, 0 ≤ sumOf s a n
  | 0 => by simp [sumOf]
  | n + 1 => by have := sum_nn hs ha n; have := (cnt_nn hs ha (n + 1)).1; simp only [sumOf]; omega
theorem sum_mono (hs : GOk s) {a : Nat} (ha : a < s.sorts.length) : ∀ {n m : Nat}, n ≤ m → sumOf s a n ≤ sumOf s a m
  | n, 0, h => by
    have : n = 0 := by omega
    subst this
    exact Int.le_refl _
  | n, m + 1, h => by
    by_cases hn : n = m + 1
    · subst hn; exact Int.le_refl _
    · have := sum_mono hs ha (n := n) (m := m) (by omega)
      have := (cnt_nn hs ha (m + 1)).1
      simp only [sumOf]
      omega
theorem termsL_len (hs : GOk s) {a : Nat} (ha : a < s.sorts.length) {pv : Nat → Nat → PV} : ∀ n, ((termsL s a pv n).length : Int) = sumOf s a n
  | 0 => rfl
  | n + 1 => by
    have h1 := termsL_len hs ha (pv := pv) n
    have h2 := (cnt_nn hs ha (n + 1)).1
    simp only [termsL, sumOf, List.length_append, List.length_map, List.length_range]
    omega
include hT in
theorem terms_b0 (hs : GOk s) {a size : Nat} (ha : a < s.sorts.length) (hz : size ≤ 60) {h : List AE.Obj} {e0 : List PV} {Q : AExit → List PV → St → Prop}
    (f0 : eget e0 0 = .iptr (tabV s) 0) (f1 : eget e0 1 = .int .i64 (a : Int)) (f2 : eget e0 2 = .int .i64 (size : Int)) (f8 : eget e0 8 = .int .i64 0) (f9 : eget e0 9 = .int .i64 1)
    (hQ : ∀ e', eget e' 0 = .iptr (tabV s) 0 → eget e' 1 = .int .i64 (a : Int) → eget e' 2 = .int .i64 (size : Int) → eget e' 8 = .int .i64 (cap (sumOf s a size)) → Q (.exit 0) e' ⟨h, [], []⟩) : wpC T (.loop a144b0) e0 ⟨h, [], []⟩ Q := by
  refine wpC.loopM (fun d e st => ∃ n : Nat, n + d = size ∧ eget e 0 = .iptr (tabV s) 0 ∧ eget e 1 = .int .i64 (a : Int) ∧ eget e 2 = .int .i64 (size : Int) ∧ eget e 8 = .int .i64 (cap (sumOf s a n)) ∧ eget e 9 = .int .i64 ((n + 1 : Nat) : Int) ∧ st = ⟨h, [], []⟩) ?_ size _ _ ⟨0, by omega, f0, f1, f2, f8, f9, rfl⟩
  rintro d e st ⟨n, hd, e0, e1, e2, e8, e9, rfl⟩
  obtain ⟨k1, k2⟩ := cnt_ok hs ha
  by_cases h1 : n + 1 ≤ size
  · have hm61 : n + 1 < 61 := by omega
    have ls := ld_arr k1 hm61
    have c0 := cnt_nn hs ha (n + 1)
    have s0 := sum_nn hs ha n
    have c1 := fun h => plus_ev hT (h := h) (cap_nn s0) (cap_top _) c0.1 c0.2
    have hc : min (cap (sumOf s a n) + cntOf s a (n + 1)) 1099511627776 = cap (sumOf s a (n + 1)) := by
      simp only [sumOf]
      unfold cap
      omega
    rw [hc] at c1
    have hcnt : ((tabOf s).1.getD a []).getD (n + 1) 0 = cntOf s a (n + 1) := rfl
    rw [hcnt] at ls
    simp (disch := first | omega | decide | (simp only [eget_eput', ↓reduceIte, Nat.reduceEqDiff]; done)) only [go_sem, ↓reduceIte, Nat.reduceEqDiff, Nat.reduceAdd, Nat.reduceMul, reduceCtorEq, a144b0, e0, e1, e2, e8, e9, h1, tab_t2, k2, hm61, ls, cb (c1 _), hT.prim, primOf]
    exact ⟨d - 1, by omega, n + 1, by omega, rfl, rfl, trivial⟩
  · have : n = size := by omega
    subst this
    simp (disch := first | omega | decide | (simp only [eget_eput', ↓reduceIte, Nat.reduceEqDiff]; done)) only [go_sem, ↓reduceIte, Nat.reduceEqDiff, Nat.reduceAdd, Nat.reduceMul, reduceCtorEq, a144b0, e0, e1, e2, e8, e9, h1]
    exact hQ _ (by simp (disch := first | omega | decide | (simp only [eget_eput', ↓reduceIte, Nat.reduceEqDiff]; done)) only [go_sem, ↓reduceIte, Nat.reduceEqDiff, Nat.reduceAdd, Nat.reduceMul, reduceCtorEq, e0]) (by simp (disch := first | omega | decide | (simp only [eget_eput', ↓reduceIte, Nat.reduceEqDiff]; done)) only [go_sem, ↓reduceIte, Nat.reduceEqDiff, Nat.reduceAdd, Nat.reduceMul, reduceCtorEq, e1]) (by simp (disch := first | omega | decide | (simp only [eget_eput', ↓reduceIte, Nat.reduceEqDiff]; done)) only [go_sem, ↓reduceIte, Nat.reduceEqDiff, Nat.reduceAdd, Nat.reduceMul, reduceCtorEq, e2]) (by simp (disch := first | omega | decide | (simp only [eget_eput', ↓reduceIte, Nat.reduceEqDiff]; done)) only [go_sem, ↓reduceIte, Nat.reduceEqDiff, Nat.reduceAdd, Nat.reduceMul, reduceCtorEq, e8])
theorem range_succ_map {α : Type} (f : Nat → α) (k : Nat) : (List.range (k + 1)).map f = (List.range k).map f ++ [f k] := by
  rw [List.range_succ, List.map_append]; rfl
theorem fe_one {p : PV} (tp : IsT p) : fillE 3 (List.replicate 1 (.agg [(.int .i64 0), (.int .i64 0), (.slice 0 [] .nil)])) [(0, p)] = some [p] := by
  obtain ⟨c1, c2, c3, c4⟩ := tp.cells
  simp [fillE, c1, c3]
theorem append_ws {H : List AE.Obj} {v p : PV} {es : List PV} {lo : Nat} (A : AppL H v es lo) (hp : IsT p) (hl : es.length < 100000) (hlo : lo ≤ H.length) (ws : List Nat) :
    ∃ v' H' ws', (∀ ups, appendop 3 40 v (.slice 3 [p] .lit) ⟨H, ws, ups⟩ = some (v', ⟨H', ws', ups⟩)) ∧ AppL H' v' (es ++ [p]) lo ∧ Low lo H H' ∧ ∀ x ∈ ws', x ∈ ws ∨ lo ≤ x := by
  obtain ⟨c1, c2, c3, c4⟩ := hp.cells
  have hroom : (es.length + 1) * 40 ≤ room ∧ es.length + 1 ≤ room := by
    have : 10000000 ≤ room := by decide
    constructor <;> omega
  rcases A with ⟨rfl, rfl⟩ | ⟨kt, rfl, h2, h3⟩
  · simp at hroom
    refine ⟨.slice 3 [p] (.tok H.length), H ++ [.tok 3 1], ws, fun ups => ?_, .inr ⟨H.length, rfl, by simp, hlo⟩, (Low.refl _ _).push hlo, fun x hx => .inl hx⟩
    simp [appendop, elems, c2, hroom, alloc]
  · refine ⟨.slice 3 (es ++ [p]) (.tok kt), H.set kt (.tok 3 (es.length + 1)), wadd kt ws, fun ups => ?_, .inr ⟨kt, rfl, by rw [get_set h2]; simp, h3⟩, .set h3, fun x hx => ?_⟩
    · simp [appendop, elems, c2, hroom, h2, wrote_none]
    · rcases mem_wadd hx with h | h
      · rw [h]; exact .inr h3
      · exact .inl h
include hT in
theorem terms_b1 (hs : GOk s) {a n size : Nat} {pv : Nat → Nat → PV} (ha : a < s.sorts.length) (hn : n + 1 ≤ 60) {c : Nat} (hc : cntOf s a (n + 1) = (c : Int))
    (hpv : ∀ k : Nat, k < c → IsT (pv (n + 1) k) ∧ ∀ h, Ev T 91 [encTab s, .int .i64 (a : Int), .int .i64 ((n + 1 : Nat) : Int), .int .i64 (k : Int)] h (.val (pv (n + 1) k), ⟨h, [], []⟩))
    {L0 : List PV} (hL : L0.length + c ≤ 4000) {h H0 : List AE.Obj} {v0 : PV} {ws0 : List Nat} {e0 : List PV} {Q : AExit → List PV → St → Prop} (A0 : AppL H0 v0 L0 h.length) (low0 : Low h.length h H0) (hw0 : ∀ x ∈ ws0, h.length ≤ x)
    (f0 : eget e0 0 = .iptr (tabV s) 0) (f1 : eget e0 1 = .int .i64 (a : Int)) (f2 : eget e0 2 = .int .i64 (size : Int)) (f10 : eget e0 10 = v0) (f11 : eget e0 11 = .int .i64 ((n + 1 : Nat) : Int)) (f44 : eget e0 44 = .int .i64 (c : Int)) (f45 : eget e0 45 = .int .i64 0)
    (hQ : ∀ e' H ws v, AppL H v (L0 ++ (List.range c).map (pv (n + 1))) h.length → Low h.length h H → (∀ x ∈ ws, h.length ≤ x) → eget e' 0 = .iptr (tabV s) 0 → eget e' 1 = .int .i64 (a : Int) → eget e' 2 = .int .i64 (size : Int) → eget e' 10 = v → eget e' 11 = .int .i64 ((n + 1 : Nat) : Int) → Q (.exit 4) e' ⟨H, ws, []⟩) : wpC T (.loop a144b1) e0 ⟨H0, ws0, []⟩ Q := by
  refine wpC.loopM (fun d e st => ∃ (k : Nat) (H : List AE.Obj) (ws : List Nat) (v : PV), k + d = c ∧ AppL H v (L0 ++ (List.range k).map (pv (n + 1))) h.length ∧ Low h.length h H ∧ (∀ x ∈ ws, h.length ≤ x) ∧ eget e 0 = .iptr (tabV s) 0 ∧ eget e 1 = .int .i64 (a : Int) ∧ eget e 2 = .int .i64 (size : Int) ∧ eget e 10 = v ∧ eget e 11 = .int .i64 ((n + 1 : Nat) : Int) ∧ eget e 44 = .int .i64 (c : Int) ∧ eget e 45 = .int .i64 (k : Int) ∧ st = ⟨H, ws, []⟩) ?_ c _ _
    ⟨0, H0, ws0, v0, by omega, by simpa using A0, low0, hw0, f0, f1, f2, f10, f11, f44, f45, rfl⟩
  rintro d e st ⟨k, H, ws, v, hd, A, low, hw, e0, e1, e2, e10, e11, e44, e45, rfl⟩
  by_cases h1 : k < c
  · obtain ⟨tp, ep⟩ := hpv k h1
    rw [encTab_eq] at ep
    obtain ⟨v', H', ws', ap, A', low', hw'⟩ := append_ws A tp (by simp; omega) low.len ws
    have fe := fe_one tp
    rw [List.append_assoc, ← range_succ_map] at A'
    simp (disch := first | omega | decide | (simp only [eget_eput', ↓reduceIte, Nat.reduceEqDiff]; done)) only [go_sem, ↓reduceIte, Nat.reduceEqDiff, Nat.reduceAdd, Nat.reduceMul, reduceCtorEq, a144b1, e0, e1, e2, e10, e11, e44, e45, h1, cb (ep _), hT.prim, primOf, fe, ap]
    refine ⟨d - 1, by omega, k + 1, _, _, v', by omega, A', low.trans low', fun x hx => ?_, rfl, rfl, rfl⟩
    rcases hw' x hx with h | h
    · exact hw x h
    · exact h
  · have : k = c := by omega
    subst this
    simp (disch := first | omega | decide | (simp only [eget_eput', ↓reduceIte, Nat.reduceEqDiff]; done)) only [go_sem, ↓reduceIte, Nat.reduceEqDiff, Nat.reduceAdd, Nat.reduceMul, reduceCtorEq, a144b1, e0, e1, e2, e10, e11, e44, e45, h1]
    exact hQ _ H ws v A low hw (by simp (disch := first | omega | decide | (simp only [eget_eput', ↓reduceIte, Nat.reduceEqDiff]; done)) only [go_sem, ↓reduceIte, Nat.reduceEqDiff, Nat.reduceAdd, Nat.reduceMul, reduceCtorEq, e0]) (by simp (disch := first | omega | decide | (simp only [eget_eput', ↓reduceIte, Nat.reduceEqDiff]; done)) only [go_sem, ↓reduceIte, Nat.reduceEqDiff, Nat.reduceAdd, Nat.reduceMul, reduceCtorEq, e1]) (by simp (disch := first | omega | decide | (simp only [eget_eput', ↓reduceIte, Nat.reduceEqDiff]; done)) only [go_sem, ↓reduceIte, Nat.reduceEqDiff, Nat.reduceAdd, Nat.reduceMul, reduceCtorEq, e2]) (by simp (disch := first | omega | decide | (simp only [eget_eput', ↓reduceIte, Nat.reduceEqDiff]; done)) only [go_sem, ↓reduceIte, Nat.reduceEqDiff, Nat.reduceAdd, Nat.reduceMul, reduceCtorEq, e10]) (by simp (disch := first | omega | decide | (simp only [eget_eput', ↓reduceIte, Nat.reduceEqDiff]; done)) only [go_sem, ↓reduceIte, Nat.reduceEqDiff, Nat.reduceAdd, Nat.reduceMul, reduceCtorEq, e11])
include hT in
theorem terms_ev (hs : GOk s) {a size : Nat} {pv : Nat → Nat → PV} (ha : a < s.sorts.length) (hz : size ≤ 60)
    (hpv : ∀ m k : Nat, 1 ≤ m → m ≤ 60 → (k : Int) ≤ 4000 → IsT (pv m k) ∧ ∀ h, Ev T 91 [encTab s, .int .i64 (a : Int), .int .i64 (m : Int), .int .i64 (k : Int)] h (.val (pv m k), ⟨h, [], []⟩)) (h : List AE.Obj) :
    (4000 < cap (sumOf s a size) ∧ Ev T 144 [encTab s, .int .i64 (a : Int), .int .i64 (size : Int)] h (.val (.tuple [.slice 0 [] .any, .int .i64 2]), ⟨h, [], []⟩)) ∨
    (cap (sumOf s a size) ≤ 4000 ∧ ∃ sz, (termsL s a pv size = [] ∨ sz = 3) ∧ Ev T 144 [encTab s, .int .i64 (a : Int), .int .i64 (size : Int)] h (.val (.tuple [.slice sz (termsL s a pv size) .any, .int .i64 0]), ⟨h, [], []⟩)) := by
  by_cases hm : 4000 < cap (sumOf s a size)
  · refine .inl ⟨hm, ?_⟩
    refine Ev.walk (hT.sp _ (by decide)) ((hT.fn _).trans fn144) (hT.mode _) rfl ?_
    simp (disch := first | omega | decide | (simp only [eget_eput', ↓reduceIte, Nat.reduceEqDiff]; done)) only [go_sem, ↓reduceIte, Nat.reduceEqDiff, Nat.reduceAdd, Nat.reduceMul, reduceCtorEq, encTab_eq]
    refine terms_b0 hT hs ha hz (by simp (disch := first | omega | decide | (simp only [eget_eput', ↓reduceIte, Nat.reduceEqDiff]; done)) only [go_sem, ↓reduceIte, Nat.reduceEqDiff, Nat.reduceAdd, Nat.reduceMul, reduceCtorEq]) (by simp (disch := first | omega | decide | (simp only [eget_eput', ↓reduceIte, Nat.reduceEqDiff]; done)) only [go_sem, ↓reduceIte, Nat.reduceEqDiff, Nat.reduceAdd, Nat.reduceMul, reduceCtorEq]) (by simp (disch := first | omega | decide | (simp only [eget_eput', ↓reduceIte, Nat.reduceEqDiff]; done)) only [go_sem, ↓reduceIte, Nat.reduceEqDiff, Nat.reduceAdd, Nat.reduceMul, reduceCtorEq]) (by simp (disch := first | omega | decide | (simp only [eget_eput', ↓reduceIte, Nat.reduceEqDiff]; done)) only [go_sem, ↓reduceIte, Nat.reduceEqDiff, Nat.reduceAdd, Nat.reduceMul, reduceCtorEq]) (by simp (disch := first | omega | decide | (simp only [eget_eput', ↓reduceIte, Nat.reduceEqDiff]; done)) only [go_sem, ↓reduceIte, Nat.reduceEqDiff, Nat.reduceAdd, Nat.reduceMul, reduceCtorEq]) fun e' e0 e1 e2 e8 => ?_
    simp (disch := first | omega | decide | (simp only [eget_eput', ↓reduceIte, Nat.reduceEqDiff]; done)) only [go_sem, ↓reduceIte, Nat.reduceEqDiff, Nat.reduceAdd, Nat.reduceMul, reduceCtorEq, e8, hm]
    rfl
  · refine .inr ⟨by omega, ?_⟩
    have hS : sumOf s a size ≤ 4000 := by
      unfold cap at hm
      omega
    have hw : ∃ sz, Ev T 144 [encTab s, .int .i64 (a : Int), .int .i64 (size : Int)] h (.val (.tuple [.slice sz (termsL s a pv size) .any, .int .i64 0]), ⟨h, [], []⟩) ∧ (termsL s a pv size = [] ∨ sz = 3) := by
      refine Ev.walkP (hT.sp _ (by decide)) ((hT.fn _).trans fn144) (hT.mode _) rfl ?_
      simp (disch := first | omega | decide | (simp only [eget_eput', ↓reduceIte, Nat.reduceEqDiff]; done)) only [go_sem, ↓reduceIte, Nat.reduceEqDiff, Nat.reduceAdd, Nat.reduceMul, reduceCtorEq, encTab_eq]
      refine terms_b0 hT hs ha hz (by simp (disch := first | omega | decide | (simp only [eget_eput', ↓reduceIte, Nat.reduceEqDiff]; done)) only [go_sem, ↓reduceIte, Nat.reduceEqDiff, Nat.reduceAdd, Nat.reduceMul, reduceCtorEq]) (by simp (disch := first | omega | decide | (simp only [eget_eput', ↓reduceIte, Nat.reduceEqDiff]; done)) only [go_sem, ↓reduceIte, Nat.reduceEqDiff, Nat.reduceAdd, Nat.reduceMul, reduceCtorEq]) (by simp (disch := first | omega | decide | (simp only [eget_eput', ↓reduceIte, Nat.reduceEqDiff]; done)) only [go_sem, ↓reduceIte, Nat.reduceEqDiff, Nat.reduceAdd, Nat.reduceMul, reduceCtorEq]) (by simp (disch := first | omega | decide | (simp only [eget_eput', ↓reduceIte, Nat.reduceEqDiff]; done)) only [go_sem, ↓reduceIte, Nat.reduceEqDiff, Nat.reduceAdd, Nat.reduceMul, reduceCtorEq]) (by simp (disch := first | omega | decide | (simp only [eget_eput', ↓reduceIte, Nat.reduceEqDiff]; done)) only [go_sem, ↓reduceIte, Nat.reduceEqDiff, Nat.reduceAdd, Nat.reduceMul, reduceCtorEq]) fun e' e0 e1 e2 e8 => ?_
      simp (disch := first | omega | decide | (simp only [eget_eput', ↓reduceIte, Nat.reduceEqDiff]; done)) only [go_sem, ↓reduceIte, Nat.reduceEqDiff, Nat.reduceAdd, Nat.reduceMul, reduceCtorEq, e8, hm]
      refine wpC.loopM (fun d e st => ∃ (n : Nat) (H : List AE.Obj) (ws : List Nat) (v : PV), n + d = size ∧ AppL H v (termsL s a pv n) h.length ∧ Low h.length h H ∧ (∀ x ∈ ws, h.length ≤ x) ∧ eget e 0 = .iptr (tabV s) 0 ∧ eget e 1 = .int .i64 (a : Int) ∧ eget e 2 = .int .i64 (size : Int) ∧ eget e 10 = v ∧ eget e 11 = .int .i64 ((n + 1 : Nat) : Int) ∧ st = ⟨H, ws, []⟩) ?_ size _ _
        ⟨0, h, [], .slice 0 [] .nil, by omega, .inl ⟨rfl, rfl⟩, Low.refl _ _, by simp, by simp (disch := first | omega | decide | (simp only [eget_eput', ↓reduceIte, Nat.reduceEqDiff]; done)) only [go_sem, ↓reduceIte, Nat.reduceEqDiff, Nat.reduceAdd, Nat.reduceMul, reduceCtorEq, e0], by simp (disch := first | omega | decide | (simp only [eget_eput', ↓reduceIte, Nat.reduceEqDiff]; done)) only [go_sem, ↓reduceIte, Nat.reduceEqDiff, Nat.reduceAdd, Nat.reduceMul, reduceCtorEq, e1], by simp (disch := first | omega | decide | (simp only [eget_eput', ↓reduceIte, Nat.reduceEqDiff]; done)) only [go_sem, ↓reduceIte, Nat.reduceEqDiff, Nat.reduceAdd, Nat.reduceMul, reduceCtorEq, e2], by simp (disch := first | omega | decide | (simp only [eget_eput', ↓reduceIte, Nat.reduceEqDiff]; done)) only [go_sem, ↓reduceIte, Nat.reduceEqDiff, Nat.reduceAdd, Nat.reduceMul, reduceCtorEq], by simp (disch := first | omega | decide | (simp only [eget_eput', ↓reduceIte, Nat.reduceEqDiff]; done)) only [go_sem, ↓reduceIte, Nat.reduceEqDiff, Nat.reduceAdd, Nat.reduceMul, reduceCtorEq]; rfl, rfl⟩
      rintro d e st ⟨n, H, ws, v, hd, A, low, hw, e0, e1, e2, e10, e11, rfl⟩
      by_cases h1 : n + 1 ≤ size
      · obtain ⟨k1, k2⟩ := cnt_ok hs ha
        have hm61 : n + 1 < 61 := by omega
        have ls := ld_arr k1 hm61
        have hcnt : ((tabOf s).1.getD a []).getD (n + 1) 0 = cntOf s a (n + 1) := rfl
        rw [hcnt] at ls
        obtain ⟨c, hc⟩ := Int.eq_ofNat_of_zero_le (cnt_nn hs ha (n + 1)).1
        have hmono := sum_mono hs ha (n := n + 1) (m := size) h1
        have hlen := termsL_len hs ha (pv := pv) n
        simp only [sumOf] at hmono
        rw [hc] at ls
        simp (disch := first | omega | decide | (simp only [eget_eput', ↓reduceIte, Nat.reduceEqDiff]; done)) only [go_sem, ↓reduceIte, Nat.reduceEqDiff, Nat.reduceAdd, Nat.reduceMul, reduceCtorEq, a144b2, e0, e1, e2, e10, e11, h1, tab_t2, k2, hm61, ls]
        refine terms_b1 hT hs (n := n) (size := size) ha (by omega) hc (fun k hk => hpv (n + 1) k (by omega) (by omega) (by have := sum_nn hs ha n; omega)) (L0 := termsL s a pv n) (by omega) A low hw (by simp (disch := first | omega | decide | (simp only [eget_eput', ↓reduceIte, Nat.reduceEqDiff]; done)) only [go_sem, ↓reduceIte, Nat.reduceEqDiff, Nat.reduceAdd, Nat.reduceMul, reduceCtorEq, e0]) (by simp (disch := first | omega | decide | (simp only [eget_eput', ↓reduceIte, Nat.reduceEqDiff]; done)) only [go_sem, ↓reduceIte, Nat.reduceEqDiff, Nat.reduceAdd, Nat.reduceMul, reduceCtorEq, e1]) (by simp (disch := first | omega | decide | (simp only [eget_eput', ↓reduceIte, Nat.reduceEqDiff]; done)) only [go_sem, ↓reduceIte, Nat.reduceEqDiff, Nat.reduceAdd, Nat.reduceMul, reduceCtorEq, e2]) (by simp (disch := first | omega | decide | (simp only [eget_eput', ↓reduceIte, Nat.reduceEqDiff]; done)) only [go_sem, ↓reduceIte, Nat.reduceEqDiff, Nat.reduceAdd, Nat.reduceMul, reduceCtorEq, e10]) (by simp (disch := first | omega | decide | (simp only [eget_eput', ↓reduceIte, Nat.reduceEqDiff]; done)) only [go_sem, ↓reduceIte, Nat.reduceEqDiff, Nat.reduceAdd, Nat.reduceMul, reduceCtorEq, e11]) (by simp (disch := first | omega | decide | (simp only [eget_eput', ↓reduceIte, Nat.reduceEqDiff]; done)) only [go_sem, ↓reduceIte, Nat.reduceEqDiff, Nat.reduceAdd, Nat.reduceMul, reduceCtorEq]) (by simp (disch := first | omega | decide | (simp only [eget_eput', ↓reduceIte, Nat.reduceEqDiff]; done)) only [go_sem, ↓reduceIte, Nat.reduceEqDiff, Nat.reduceAdd, Nat.reduceMul, reduceCtorEq]) fun e' H' ws' v' A' low' hw' e0 e1 e2 e10 e11 => ?_
        simp (disch := first | omega | decide | (simp only [eget_eput', ↓reduceIte, Nat.reduceEqDiff]; done)) only [go_sem, ↓reduceIte, Nat.reduceEqDiff, Nat.reduceAdd, Nat.reduceMul, reduceCtorEq, e0, e1, e2, e10, e11]
        have hT' : termsL s a pv (n + 1) = termsL s a pv n ++ (List.range c).map (pv (n + 1)) := by
          simp only [termsL, hc, Int.toNat_natCast]
        exact ⟨d - 1, by omega, n + 1, H', ws', v', by omega, by rw [hT']; exact A', low', hw', rfl, rfl, rfl⟩
      · have : n = size := by omega
        subst this
        obtain ⟨sz, m, rfl, hsz⟩ := A.slice
        simp (disch := first | omega | decide | (simp only [eget_eput', ↓reduceIte, Nat.reduceEqDiff]; done)) only [go_sem, ↓reduceIte, Nat.reduceEqDiff, Nat.reduceAdd, Nat.reduceMul, reduceCtorEq, a144b2, e0, e1, e2, e10, e11, h1]
        have hall : ∀ n, n ≤ 60 → sumOf s a n ≤ 4000 → ∀ x, x ∈ termsL s a pv n → IsT x := fun n => by
          induction n with
          | zero => intro _ _ x hx; simp [termsL] at hx
          | succ n ih =>
            intro hn hle x hx
            have c0 := (cnt_nn hs ha (n + 1)).1
            have s0 := sum_nn hs ha n
            simp only [sumOf] at hle
            simp only [termsL, List.mem_append, List.mem_map, List.mem_range] at hx
            rcases hx with h | ⟨k, hk, rfl⟩
            · exact ih (by omega) (by omega) x h
            · exact (hpv (n + 1) k (by omega) (by omega) (by omega)).1
        obtain ⟨p1, p2⟩ := weaks_terms (hall n (by omega) hS)
        refine ⟨sz, ?_, hsz⟩
        have := tidy_ups (h := h) (H := H) (v := .tuple [.slice sz (termsL s a pv n) m, .int .i64 0]) (ws := ws) (ups := []) (by simp [PV.pure, pures, p1]) low hw (by simp)
        rw [this]
        simp [PV.weak, weaks, p2]
    obtain ⟨sz, h1, h2⟩ := hw
    exact ⟨sz, h2, h1⟩
end Go.Proofs.Tryz
/- Terms. -/
namespace Go.Proofs.Tryz
open Go Go.AE
variable {T : Tbl} (hT : Std T) {s : GSig}

include hT in
theorem terms_err {r : Int} (hr : r ≠ 0) (E87 : ∀ h, Ev T 87 [encSig s] h (.val (.int .i64 r), ⟨h, [], []⟩)) (sort size : Int) (h : List AE.Obj) : Ev T 59 [encSig s, .int .i64 sort, .int .i64 size] h (.val (.tuple [.slice 0 [] .any, .int .i64 r]), ⟨h, [], []⟩) := by
  refine Ev.walk (hT.sp _ (by decide)) ((hT.fn _).trans fn59) (hT.mode _) rfl ?_
  have hr' : (r != 0) = true := by simpa using hr
  simp (disch := first | omega | decide | (simp only [eget_eput', ↓reduceIte, Nat.reduceEqDiff]; done)) only [go_sem, ↓reduceIte, Nat.reduceEqDiff, Nat.reduceAdd, Nat.reduceMul, reduceCtorEq, encSig_ld, cb (E87 _), hT.prim, primOf, hr']
  exact tidy_ups rfl ((Low.refl _ _).push (Nat.le_refl _)) (by simp) (by simp)
include hT in
theorem terms_arg (E87 : ∀ h, Ev T 87 [encSig s] h (.val (.int .i64 0), ⟨h, [], []⟩)) {sort size : Int} (hb : (isSortB sort s.sorts.length && sizedB size) = false) (h : List AE.Obj) : Ev T 59 [encSig s, .int .i64 sort, .int .i64 size] h (.val (.tuple [.slice 0 [] .any, .int .i64 1]), ⟨h, [], []⟩) := by
  refine Ev.walk (hT.sp _ (by decide)) ((hT.fn _).trans fn59) (hT.mode _) rfl ?_
  have c1 := fun h => isSort_ev hT (s := s) sort h
  have c2 := fun h => sized_ev hT size h
  cases h1 : isSortB sort s.sorts.length
  · rw [h1] at c1
    simp (disch := first | omega | decide | (simp only [eget_eput', ↓reduceIte, Nat.reduceEqDiff]; done)) only [go_sem, ↓reduceIte, Nat.reduceEqDiff, Nat.reduceAdd, Nat.reduceMul, reduceCtorEq, encSig_ld, cb (E87 _), hT.prim, primOf, bne_self_eq_false, cb (c1 _)]
    exact tidy_ups rfl ((Low.refl _ _).push (Nat.le_refl _)) (by simp) (by simp)
  · rw [h1, Bool.true_and] at hb
    rw [h1] at c1
    rw [hb] at c2
    simp (disch := first | omega | decide | (simp only [eget_eput', ↓reduceIte, Nat.reduceEqDiff]; done)) only [go_sem, ↓reduceIte, Nat.reduceEqDiff, Nat.reduceAdd, Nat.reduceMul, reduceCtorEq, encSig_ld, cb (E87 _), hT.prim, primOf, bne_self_eq_false, cb (c1 _), cb (c2 _)]
    exact tidy_ups rfl ((Low.refl _ _).push (Nat.le_refl _)) (by simp) (by simp)
include hT in
theorem terms_ok (hs : GOk s) (E87 : ∀ h, Ev T 87 [encSig s] h (.val (.int .i64 0), ⟨h, [], []⟩)) {a m sz : Nat} {L : List PV} {r : Int} (ha : a < s.sorts.length) (hm : m ≤ 60) (pL : pures L = true) (wL : weaks L = L) {h : List AE.Obj} (E144 : Ev T 144 [encTab s, .int .i64 (a : Int), .int .i64 (m : Int)] (h ++ [AE.Obj.row 2 [encSig s]]) (.val (.tuple [.slice sz L .any, .int .i64 r]), ⟨h ++ [AE.Obj.row 2 [encSig s]], [], []⟩)) :
    Ev T 59 [encSig s, .int .i64 (a : Int), .int .i64 (m : Int)] h (.val (.tuple [.slice sz L .any, .int .i64 r]), ⟨h, [], []⟩) := by
  refine Ev.walk (hT.sp _ (by decide)) ((hT.fn _).trans fn59) (hT.mode _) rfl ?_
  have c1 := fun h => isSort_ev hT (s := s) (a : Int) h
  have c2 := fun h => sized_ev hT (m : Int) h
  have h1 : isSortB (a : Int) s.sorts.length = true := by simp [isSortB]; omega
  have h2 : sizedB (m : Int) = true := by simp [sizedB]; omega
  rw [h1] at c1
  rw [h2] at c2
  have c3 := fun h => counted_ev hT hs (h := h)
  simp (disch := first | omega | decide | (simp only [eget_eput', ↓reduceIte, Nat.reduceEqDiff]; done)) only [go_sem, ↓reduceIte, Nat.reduceEqDiff, Nat.reduceAdd, Nat.reduceMul, reduceCtorEq, encSig_ld, cb (E87 _), hT.prim, primOf, bne_self_eq_false, cb (c1 _), cb (c2 _), cb (c3 _), cb E144]
  refine (tidy_ups (by simp [PV.pure, pures, pL]) ((Low.refl _ _).push (Nat.le_refl _)) (by simp) (by simp)).trans ?_
  simp [PV.weak, weaks, wL]
theorem termsL_get {a : Nat} {pv : Nat → Nat → PV} {n k : Nat} (hk : k < (cntOf s a (n + 1)).toNat) : ∀ m, n + 1 ≤ m → (termsL s a pv m)[(termsL s a pv n).length + k]? = some (pv (n + 1) k)
  | 0, h => by omega
  | m + 1, h => by
    by_cases hm : m = n
    · subst hm
      simp only [termsL]
      rw [List.getElem?_append_right (by omega)]
      simp [hk]
    · have ih := termsL_get (pv := pv) hk m (by omega)
      have hl := (List.getElem?_eq_some_iff.1 ih).1
      simp only [termsL]
      rw [List.getElem?_append_left hl]
      exact ih
end Go.Proofs.Tryz
