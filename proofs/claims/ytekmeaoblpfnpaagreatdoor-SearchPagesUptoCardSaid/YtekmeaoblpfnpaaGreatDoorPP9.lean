/-
  Own texts on the laws of the seat, joined: the logic, and contracts of functions. Conditions: none.
-/
import Derived.Test.YtekmeaoblpfnpaaGreatDoorNmP
import Derived.Test.YtekmeaoblpfnpaaGreatDoorPP8
import Derived.Test.YtekmeaoblpfnpaaGreatDoorProg
import Derived.Deep.Draws
import Derived.Shelf.SlLaysF0
import Derived.Ground.SlsfProg
import Derived.Shelf.GgSortFunc.InsertionK
set_option maxRecDepth 100000
set_option maxHeartbeats 40000000
set_option maxRecDepth 100000
set_option maxHeartbeats 40000000
namespace Go.Sx
open Go Go.Proofs.Tryz
structure Wr (A : Prop) : Prop where
  w : A
theorem sz {P : Program} {T' n : Nat} (T : Nat) (h : T' = T) (hs : ∀ w, (sizeOf T).run P w = .ok n w) : ∀ w, (sizeOf T').run P w = .ok n w := h ▸ hs
set_option maxRecDepth 100000
theorem uU {T : Nat} {d : Option TypeDesc} (h : Go.Proofs.Tryz.prog.underlying T = d := by with_reducible first | (first | exact Tryz.underlying69 | exact Tryz.underlying9 | exact Tryz.underlying36 | exact Tryz.underlying32 | exact Tryz.underlying192 | exact Tryz.underlying114 | exact Tryz.underlying108 | exact Tryz.underlying51 | exact Tryz.underlying5 | exact Tryz.underlying197 | exact Tryz.underlying30 | exact Tryz.underlying3) | (first | exact Tryz.underlying4 | exact Tryz.underlying21 | exact Tryz.underlying48 | exact Tryz.underlying364 | exact Tryz.underlying281 | exact Tryz.underlying362 | exact Tryz.underlying50 | exact Tryz.underlying59 | exact Tryz.underlying213 | exact Tryz.underlying106 | exact Tryz.underlying161 | exact Tryz.underlying228) | (first | exact Tryz.underlying82 | exact Tryz.underlying120 | exact Tryz.underlying62 | exact Tryz.underlying112 | exact Tryz.underlying26 | exact Tryz.underlying54 | exact Tryz.underlying204 | exact Tryz.underlying110 | exact Tryz.underlying225 | exact Tryz.underlying176 | exact Tryz.underlying140 | exact Tryz.underlying55) | (first | exact Tryz.underlying24 | exact Tryz.underlying159 | exact Tryz.underlying57 | exact Tryz.underlying215 | exact Tryz.underlying35 | exact Tryz.underlying0 | exact Tryz.underlying23 | exact Tryz.underlying142 | exact Tryz.underlying188 | exact Tryz.underlying152 | exact Tryz.underlying80 | exact Tryz.underlying22) | (first | exact Tryz.underlying76 | exact Tryz.underlying123 | exact Tryz.underlying202 | exact Tryz.underlying268 | exact Tryz.underlying180 | exact Tryz.underlying183 | exact Tryz.underlying118 | exact Tryz.underlying238 | exact Tryz.underlying93 | exact Tryz.underlying308 | exact Tryz.underlying304 | exact Tryz.underlying163) | (first | exact Tryz.underlying284 | exact Tryz.underlying91 | exact Tryz.underlying279 | exact Tryz.underlying341 | exact Tryz.underlying246 | exact Tryz.underlying68 | exact Tryz.underlying328 | exact Tryz.underlying371 | exact Tryz.underlying372 | exact Tryz.underlying231 | exact Tryz.underlying232 | exact Tryz.underlying168) | (first | exact Tryz.underlying240 | exact Tryz.underlying272 | exact Tryz.underlying276 | exact Tryz.underlying324 | exact Tryz.underlying325 | exact Tryz.underlying200 | exact Tryz.underlying365 | exact Tryz.underlying20 | exact Tryz.underlying207 | exact Tryz.underlying208 | exact Tryz.underlying312 | exact Tryz.underlying313) | (first | exact Tryz.underlying316 | exact Tryz.underlying402 | exact Tryz.underlying254 | exact Tryz.underlying338 | exact Tryz.underlying340 | exact Tryz.underlying27 | exact Tryz.underlying293 | exact Tryz.underlying373 | exact Tryz.underlying351 | exact Tryz.underlying349 | exact Tryz.underlying405 | exact Tryz.underlying407) | (first | exact Tryz.underlying394 | exact Tryz.underlying367 | exact Tryz.underlying390 | exact Tryz.underlying391 | exact Tryz.underlying393 | exact Tryz.underlying396 | exact Tryz.underlying399 | exact Tryz.underlying417 | exact Tryz.underlying418 | exact Tryz.underlying149 | exact Tryz.underlying270 | exact Tryz.underlying128)) : Go.Proofs.Tryz.prog.underlying T = d := h
theorem uS {T n : Nat} (h : ∀ w, (sizeOf T).run Go.Proofs.Tryz.prog w = .ok n w := by first | (first | exact sz 9 rfl Tryz.sizeOf9 | exact sz 54 rfl Tryz.sizeOf54 | exact sz 32 rfl Tryz.sizeOf32 | exact sz 3 rfl Tryz.sizeOf3 | exact sz 5 rfl Tryz.sizeOf5 | exact sz 30 rfl Tryz.sizeOf30 | exact sz 112 rfl Tryz.sizeOf112 | exact sz 192 rfl Tryz.sizeOf192 | exact sz 108 rfl Tryz.sizeOf108 | exact sz 62 rfl Tryz.sizeOf62 | exact sz 110 rfl Tryz.sizeOf110 | exact sz 48 rfl Tryz.sizeOf48) | (first | exact sz 59 rfl Tryz.sizeOf59 | exact sz 21 rfl Tryz.sizeOf21 | exact sz 362 rfl Tryz.sizeOf362 | exact sz 69 rfl Tryz.sizeOf69 | exact sz 106 rfl Tryz.sizeOf106 | exact sz 152 rfl Tryz.sizeOf152 | exact sz 57 rfl Tryz.sizeOf57 | exact sz 176 rfl Tryz.sizeOf176 | exact sz 142 rfl Tryz.sizeOf142 | exact sz 4 rfl Tryz.sizeOf4 | exact sz 36 rfl Tryz.sizeOf36 | exact sz 159 rfl Tryz.sizeOf159) | (first | exact sz 55 rfl Tryz.sizeOf55 | exact sz 268 rfl Tryz.sizeOf268 | exact sz 80 rfl Tryz.sizeOf80 | exact sz 0 rfl Tryz.sizeOf0 | exact sz 93 rfl Tryz.sizeOf93 | exact sz 188 rfl Tryz.sizeOf188 | exact sz 202 rfl Tryz.sizeOf202 | exact sz 163 rfl Tryz.sizeOf163 | exact sz 238 rfl Tryz.sizeOf238 | exact sz 123 rfl Tryz.sizeOf123 | exact sz 215 rfl Tryz.sizeOf215 | exact sz 306 rfl Tryz.sizeOf306) | (first | exact sz 120 rfl Tryz.sizeOf120 | exact sz 341 rfl Tryz.sizeOf341 | exact sz 23 rfl Tryz.sizeOf23 | exact sz 281 rfl Tryz.sizeOf281 | exact sz 298 rfl Tryz.sizeOf298 | exact sz 328 rfl Tryz.sizeOf328 | exact sz 371 rfl Tryz.sizeOf371 | exact sz 372 rfl Tryz.sizeOf372 | exact sz 231 rfl Tryz.sizeOf231 | exact sz 232 rfl Tryz.sizeOf232 | exact sz 168 rfl Tryz.sizeOf168 | exact sz 240 rfl Tryz.sizeOf240) | (first | exact sz 272 rfl Tryz.sizeOf272 | exact sz 276 rfl Tryz.sizeOf276 | exact sz 324 rfl Tryz.sizeOf324 | exact sz 325 rfl Tryz.sizeOf325 | exact sz 91 rfl Tryz.sizeOf91 | exact sz 304 rfl Tryz.sizeOf304 | exact sz 302 rfl Tryz.sizeOf302 | exact sz 20 rfl Tryz.sizeOf20 | exact sz 204 rfl Tryz.sizeOf204 | exact sz 207 rfl Tryz.sizeOf207 | exact sz 208 rfl Tryz.sizeOf208 | exact sz 246 rfl Tryz.sizeOf246) | (first | exact sz 284 rfl Tryz.sizeOf284 | exact sz 312 rfl Tryz.sizeOf312 | exact sz 313 rfl Tryz.sizeOf313 | exact sz 316 rfl Tryz.sizeOf316 | exact sz 402 rfl Tryz.sizeOf402 | exact sz 254 rfl Tryz.sizeOf254 | exact sz 338 rfl Tryz.sizeOf338 | exact sz 340 rfl Tryz.sizeOf340 | exact sz 35 rfl Tryz.sizeOf35 | exact sz 24 rfl Tryz.sizeOf24 | exact sz 364 rfl Tryz.sizeOf364 | exact sz 121 rfl Tryz.sizeOf121) | (first | exact sz 293 rfl Tryz.sizeOf293 | exact sz 373 rfl Tryz.sizeOf373 | exact sz 351 rfl Tryz.sizeOf351 | exact sz 349 rfl Tryz.sizeOf349 | exact sz 405 rfl Tryz.sizeOf405 | exact sz 407 rfl Tryz.sizeOf407 | exact sz 394 rfl Tryz.sizeOf394 | exact sz 367 rfl Tryz.sizeOf367 | exact sz 390 rfl Tryz.sizeOf390 | exact sz 391 rfl Tryz.sizeOf391 | exact sz 393 rfl Tryz.sizeOf393 | exact sz 396 rfl Tryz.sizeOf396) | (first | exact sz 399 rfl Tryz.sizeOf399 | exact sz 417 rfl Tryz.sizeOf417 | exact sz 418 rfl Tryz.sizeOf418 | exact sz 149 rfl Tryz.sizeOf149 | exact sz 228 rfl Tryz.sizeOf228 | exact sz 270 rfl Tryz.sizeOf270 | exact sz 118 rfl Tryz.sizeOf118 | exact sz 128 rfl Tryz.sizeOf128)) : ∀ w, (sizeOf T).run Go.Proofs.Tryz.prog w = .ok n w := h
theorem uG {T : Nat} {b : Bool} (h : ∀ w, (isAgg T).run Go.Proofs.Tryz.prog w = .ok b w := by with_reducible first | (first | exact Tryz.isAgg9 | exact Tryz.isAgg32 | exact Tryz.isAgg54 | exact Tryz.isAgg3 | exact Tryz.isAgg192 | exact Tryz.isAgg30 | exact Tryz.isAgg108 | exact Tryz.isAgg26 | exact Tryz.isAgg48 | exact Tryz.isAgg152 | exact Tryz.isAgg5 | exact Tryz.isAgg69) | (first | exact Tryz.isAgg106 | exact Tryz.isAgg110 | exact Tryz.isAgg4 | exact Tryz.isAgg0 | exact Tryz.isAgg57 | exact Tryz.isAgg188 | exact Tryz.isAgg159 | exact Tryz.isAgg112 | exact Tryz.isAgg21 | exact Tryz.isAgg120 | exact Tryz.isAgg80 | exact Tryz.isAgg142) | (first | exact Tryz.isAgg238 | exact Tryz.isAgg55 | exact Tryz.isAgg36 | exact Tryz.isAgg202 | exact Tryz.isAgg59 | exact Tryz.isAgg93 | exact Tryz.isAgg341 | exact Tryz.isAgg328 | exact Tryz.isAgg371 | exact Tryz.isAgg372 | exact Tryz.isAgg231 | exact Tryz.isAgg232) | (first | exact Tryz.isAgg168 | exact Tryz.isAgg240 | exact Tryz.isAgg272 | exact Tryz.isAgg276 | exact Tryz.isAgg324 | exact Tryz.isAgg325 | exact Tryz.isAgg176 | exact Tryz.isAgg91 | exact Tryz.isAgg23 | exact Tryz.isAgg121 | exact Tryz.isAgg20 | exact Tryz.isAgg204) | (first | exact Tryz.isAgg207 | exact Tryz.isAgg208 | exact Tryz.isAgg246 | exact Tryz.isAgg284 | exact Tryz.isAgg312 | exact Tryz.isAgg313 | exact Tryz.isAgg316 | exact Tryz.isAgg402 | exact Tryz.isAgg254 | exact Tryz.isAgg338 | exact Tryz.isAgg340 | exact Tryz.isAgg215) | (first | exact Tryz.isAgg24 | exact Tryz.isAgg306 | exact Tryz.isAgg268 | exact Tryz.isAgg123 | exact Tryz.isAgg293 | exact Tryz.isAgg373 | exact Tryz.isAgg351 | exact Tryz.isAgg349 | exact Tryz.isAgg405 | exact Tryz.isAgg407 | exact Tryz.isAgg394 | exact Tryz.isAgg367) | (first | exact Tryz.isAgg390 | exact Tryz.isAgg391 | exact Tryz.isAgg393 | exact Tryz.isAgg396 | exact Tryz.isAgg399 | exact Tryz.isAgg417 | exact Tryz.isAgg418 | exact Tryz.isAgg149 | exact Tryz.isAgg228 | exact Tryz.isAgg270 | exact Tryz.isAgg118 | exact Tryz.isAgg128)) : ∀ w, (isAgg T).run Go.Proofs.Tryz.prog w = .ok b w := h
theorem uZ {T : Nat} {v : Value} (h : ∀ w, (zeroValue T).run Go.Proofs.Tryz.prog w = .ok v w := by with_reducible first | (first | exact Tryz.zeroValue9 | exact Tryz.zeroValue54 | exact Tryz.zeroValue32 | exact Tryz.zeroValue62 | exact Tryz.zeroValue3 | exact Tryz.zeroValue281 | exact Tryz.zeroValue5 | exact Tryz.zeroValue21 | exact Tryz.zeroValue4 | exact Tryz.zeroValue213 | exact Tryz.zeroValue108 | exact Tryz.zeroValue59) | (first | exact Tryz.zeroValue36 | exact Tryz.zeroValue0 | exact Tryz.zeroValue176 | exact Tryz.zeroValue188 | exact Tryz.zeroValue142 | exact Tryz.zeroValue140 | exact Tryz.zeroValue35 | exact Tryz.zeroValue69 | exact Tryz.zeroValue268 | exact Tryz.zeroValue238 | exact Tryz.zeroValue152 | exact Tryz.zeroValue163) | (first | exact Tryz.zeroValue57 | exact Tryz.zeroValue120 | exact Tryz.zeroValue123 | exact Tryz.zeroValue204 | exact Tryz.zeroValue328 | exact Tryz.zeroValue371 | exact Tryz.zeroValue372 | exact Tryz.zeroValue231 | exact Tryz.zeroValue232 | exact Tryz.zeroValue168 | exact Tryz.zeroValue240 | exact Tryz.zeroValue272) | (first | exact Tryz.zeroValue276 | exact Tryz.zeroValue324 | exact Tryz.zeroValue325 | exact Tryz.zeroValue114 | exact Tryz.zeroValue82 | exact Tryz.zeroValue24 | exact Tryz.zeroValue364 | exact Tryz.zeroValue121 | exact Tryz.zeroValue20 | exact Tryz.zeroValue192 | exact Tryz.zeroValue202 | exact Tryz.zeroValue207) | (first | exact Tryz.zeroValue208 | exact Tryz.zeroValue246 | exact Tryz.zeroValue284 | exact Tryz.zeroValue313 | exact Tryz.zeroValue316 | exact Tryz.zeroValue402 | exact Tryz.zeroValue254 | exact Tryz.zeroValue338 | exact Tryz.zeroValue340 | exact Tryz.zeroValue215 | exact Tryz.zeroValue50 | exact Tryz.zeroValue180) | (first | exact Tryz.zeroValue308 | exact Tryz.zeroValue293 | exact Tryz.zeroValue373 | exact Tryz.zeroValue351 | exact Tryz.zeroValue349 | exact Tryz.zeroValue405 | exact Tryz.zeroValue407 | exact Tryz.zeroValue394 | exact Tryz.zeroValue367 | exact Tryz.zeroValue390 | exact Tryz.zeroValue391 | exact Tryz.zeroValue393) | (first | exact Tryz.zeroValue396 | exact Tryz.zeroValue399 | exact Tryz.zeroValue417 | exact Tryz.zeroValue418 | exact Tryz.zeroValue149 | exact Tryz.zeroValue228 | exact Tryz.zeroValue270 | exact Tryz.zeroValue118 | exact Tryz.zeroValue128 | exact Tryz.zeroValue161)) : ∀ w, (zeroValue T).run Go.Proofs.Tryz.prog w = .ok v w := h
theorem bkA {S : World → Prop} {b : Nat} {o : Obj} (h : Blk S b o := by
  first
  | (with_reducible show Blk (SS _ _) _ _); first | exact Blk.atR atA | exact Blk.imm (by assumption) | exact Blk.at 0 rfl | exact Blk.at 1 rfl | exact Blk.at 2 rfl
  | (with_reducible show Blk (SC _ _ _) _ _); first | exact Blk.atCR atA | exact Blk.immC (by assumption) | exact Blk.atC 0 rfl | exact Blk.atC 1 rfl) : Blk S b o := h
theorem eqB {a b : Bool} (h : a = b := by first | exact rfl | assumption | exact congrArg not (by assumption)) : a = b := h
theorem JFix.mk' {I1 I : Heap} {A H : HL} {Z : CL} (h1 : HSub A H) (h2 : CSub Z H) (h3 : Le I1 I) : JFix I1 A Z I H := ⟨h1, h2, h3⟩
theorem fxA {I1 I : Heap} {A H : HL} {Z : CL} (h : JFix I1 A Z I H := by first | assumption | exact JFix.mk' (by repeat first | exact HSub.n | refine HSub.c 0 rfl ?_ | refine HSub.c 1 rfl ?_ | refine HSub.c 2 rfl ?_ | refine HSub.c 3 rfl ?_ | refine HSub.c 4 rfl ?_ | refine HSub.c 5 rfl ?_) CSub.n (by repeat first | exact Le.refl _ | assumption | refine Le.trans ?_ (by assumption))) : JFix I1 A Z I H := h
theorem yA {cx : Cx} {o : Oper} {e : Env} {S : World → Prop} {v : Value} (h : Yld cx o e S v := by first
  | exact q0
  | exact q1
  | exact yl_fieldAddr rfl rfl (by first | exact uU) (by first | exact rfl) (by first | exact uS) (by first | exact rfl)
  | exact yl_load rfl rfl (by first | exact uG) (by first | exact bkA) (by first | exact rfl)
  | exact yl_loadAgg rfl rfl (by first | exact uG) (by first | exact uS) (by first | exact bkA) (by first | exact rfl) (by first | exact rfl)
  | exact yl_add rfl rfl rfl (w64 (by omega))
  | exact q11
  | exact q6
  | exact yl_lenSlice rfl rfl (by first | exact uU)
  | exact yl_pick1 rfl rfl (by first | exact eqA) (by first | exact rfl)
  | exact yl_pick0 rfl rfl (by first | exact eqA) (by first | exact rfl)
  | exact q18
  | exact q19
  | exact yl_lenStr rfl rfl (by first | exact uU)
  | exact yl_neq rfl rfl rfl
  | exact yl_geq rfl rfl rfl
  | exact yl_leq rfl rfl rfl
  | exact yl_gtr rfl rfl rfl
  | exact yl_not rfl rfl
  | exact yl_eqlStr rfl rfl rfl
  | exact yl_neqStr rfl rfl rfl
  | exact yl_indexArr rfl rfl rfl (by first | exact uU) (by first | exact uS) (by decide) (by decide) (by first | exact rfl)
  | exact yl_buildS rfl rfl (by first | exact uZ) (by first | exact rfl) (by first | exact uU) (plA (by first | exact plB)) (by first | exact lbA)
  | exact yl_buildA rfl rfl (by first | exact uZ) (by first | exact rfl) (by first | exact uU) (by first | exact uS) (by first | exact rfl)
  | exact yl_toStr1 _ rfl rfl (by first | exact uU) (by first | exact uU) (by first | exact uU) (by first | exact bkA) (by first | exact rfl)
  | exact yl_sub rfl rfl rfl (w64 (by omega))
  | exact yl_eqlNil _ rfl rfl rfl (by first | exact uU) (by kernel_rfl)
  | exact yl_convInt rfl rfl (by first | exact uU) (by first | exact uU)
  | exact yl_add rfl rfl rfl (i32w (by omega))
  | exact yl_neqBool rfl rfl rfl (by first | exact uU)
  | exact yl_eqlBool rfl rfl rfl (by first | exact uU)
  | exact yl_neqSlice _ rfl rfl rfl (by first | exact uU)
  | exact yl_eqlSlice _ rfl rfl rfl (by first | exact uU)
  | exact yl_runeStr rfl rfl (by first | exact uU) (by first | exact uU)
  | exact yl_rem rfl rfl rfl (by decide)
  | exact yl_rem rfl rfl rfl (by omega)
  | exact yl_mul rfl rfl rfl (w64 (by omega))
  | exact yl_makeFunc rfl rfl rfl
  | exact yl_eqlMap _ rfl rfl rfl (by first | exact uU)
  | exact yl_neqMap _ rfl rfl rfl (by first | exact uU)
  | exact yl_makeIface rfl rfl (by first | exact uU) rfl) : Yld cx o e S v := h
section
variable {cx : Cx} {Q : Qt} {e : Env} {I I1 : Heap} {H A : HL} {Z : CL} {z fuel : Nat} {listed : Array Bool} {ops : Array Oper} {l : List Oper} {o : Oper}
theorem Cj.cT {c : Operand} {x y : Code} {b : Bool} (hv : ev e c = some (.bool b)) (hb : b = true) (h1 : Cj cx Q x e I H) : Cj cx Q (.cond c x y) e I H := Cj.cond hv (fun _ => h1) (fun h => Bool.noConfusion (hb.symm.trans h))
theorem Cj.cF {c : Operand} {x y : Code} {b : Bool} (hv : ev e c = some (.bool b)) (hb : b = false) (h1 : Cj cx Q y e I H) : Cj cx Q (.cond c x y) e I H := Cj.cond hv (fun h => Bool.noConfusion (hb.symm.trans h)) (fun _ => h1)
def fstN : Nat → List Bool → Nat → Option Nat
  | _, [], _ => none
  | s, true :: r, n => fstN s r (n + 1)
  | 0, false :: _, n => some n
  | s + 1, false :: r, n => fstN s r (n + 1)
theorem JA.tn (s : Nat) {i d : Nat} {v : Value} (_hl : fstN s listed.toList 0 = some i) (hi : l.toArray[i]? = some o) (hx : JFix I1 A Z I H) (hy : Yld cx o e (SC I1 A Z) v) (k : JA cx Q l I1 A Z z fuel (listed.setIfInBounds i true) ((d, v) :: e) I H)
    (hd : o.dst = some d := by rfl) (hg : o.guard = none := by rfl) (hn : Nat.blt d cx.n = true := by rfl) (hz : zok l.toArray listed z i = true := by first | rfl | kernel_rfl) (hs : Region.noSelect l.toArray = true := by kernel_rfl) (hf : Region.free .any l.toArray listed i = true := by kernel_rfl)
    (hr : (Region.ready .any l.toArray listed).contains i = true := by kernel_rfl) (hq : ∀ c a w, Q (.panic c) (a.put (some d) v) w → Q (.panic c) a w := by exact fun _ _ _ h => h) : JA cx Q l I1 A Z z (fuel + 1) listed e I H := JA.tk i hi hx hy k hd hg hn hz hs hf hr hq
theorem JA.dn (hl : fstN 0 listed.toList 0 = none) (hr : Region.ready .any l.toArray listed = []) (h : Ej cx Q .normal e I H) : JA cx Q l I1 A Z z fuel listed e I H := match hl with | _ => JA.done hr h
theorem JA.st1 {i : Nat} (_hl : fstN 0 listed.toList 0 = some i) (hi : l.toArray[i]? = some o) (hr : Region.ready .any l.toArray listed = [i]) (hg : o.guard = none) (k : OpJ cx Q o e I H (fun e' I' H' => (Le I1 I' ∧ HSub A H' ∧ CSub Z H') ∧ JA cx Q l I1 A Z z fuel (listed.setIfInBounds i true) e' I' H')) : JA cx Q l I1 A Z z (fuel + 1) listed e I H := JA.step i hr hi hg k
end
theorem kpA {P : Prop} (h : P := by
  first | intro _ _ _ _ h | intro _ _ h
  first
  | (obtain ⟨h, _⟩ := h; cases h; done)
  | (obtain ⟨_, h, _⟩ := h; cases h; done)
  | (obtain ⟨_, _, h, _⟩ := h; cases h; done)
  | (obtain ⟨_, _, _, h, _⟩ := h; cases h; done)
  | (obtain ⟨_, _, _, _, h, _⟩ := h; cases h; done)
  | (obtain ⟨_, _, _, _, _, h, _⟩ := h; cases h; done)
  | (obtain ⟨⟨_, h, _⟩, _⟩ := h; cases h; done)
  | (obtain ⟨⟨_, _, h, _⟩, _⟩ := h; cases h; done)
  | (obtain ⟨⟨_, h⟩, _⟩ := h; cases h; done)
  | (cases h; done)) : P := h
structure Cnt (n : Nat) : Prop where
theorem Cnt.p {n : Nat} (_ : Cnt (n + 1)) : Cnt n := ⟨⟩
structure Row (R : HL) : Prop where
section
variable {cx : Cx} {Q : Qt} {o : Oper} {e : Env} {I : Heap} {H : HL} {C : Ct} {S : World → Prop}
theorem yl_ixS {x y : Operand} {T E b off n c sz off' : Nat} {k : IntKind} {i : Int} (_ : Cnt off') (ho : o.op = .indexAddr T x y) (hx : ev e x = some (.slice (some ⟨b, off, none⟩) n c)) (hy : ev e y = some (.int k i))
    (hu : cx.P.underlying T = some (.slice E)) (hsz : ∀ w, (sizeOf E).run cx.P w = .ok sz w) (h0 : 0 ≤ i) (h1 : i < n) (hoff : off + i.toNat * sz = off') : Yld cx o e S (ptr b off') := yl_indexAddr ho hx hy hu hsz h0 h1 hoff
theorem op_cW {H1 R : HL} {d f : Nat} {fo : Operand} {xs : List Operand} {ts : Array TypeId} {fst cap vs : List Value} {post : Ending → Heap → HL → Prop} (_ : Row H1) (ho : o.op = .call ⟨.value fo, xs.toArray, ts⟩) (hd : o.dst = some d) (hn : Nat.blt d cx.n = true) (hf : ev e fo = some (.func (.func f) fst.toArray cap.toArray)) (hx : evs e xs = some vs)
    (hs : Ctr cx.P f (fst ++ vs ++ cap) I H1 post) (hH : H = H1 ++ R) (k : ∀ v I' H1', Le I I' → post (.returned v) I' H1' → C ((d, v) :: e) I' (H1' ++ R)) (kp : ∀ ch I' H1', Le I I' → post (.panicked ch) I' H1' → Ej cx Q (.panic ch) e I' (H1' ++ R))
    (ko : ∀ I' H1', ¬ post .outgrown I' H1') : OpJ cx Q o e I H C := by subst hH; exact op_call ho hd hn hf hx hs k kp ko
theorem op_crW {H1 R : HL} {d f : Nat} {fo : Operand} {xs : List Operand} {ts : Array TypeId} {fst cap vs : List Value} {post : Ending → Heap → HL → Prop} (_ : Row R) (hH : H = R ++ H1)
    (ho : o.op = .call ⟨.value fo, xs.toArray, ts⟩) (hd : o.dst = some d) (hn : Nat.blt d cx.n = true) (hf : ev e fo = some (.func (.func f) fst.toArray cap.toArray)) (hx : evs e xs = some vs)
    (hs : Ctr cx.P f (fst ++ vs ++ cap) I H1 post)
    (k : ∀ v I' H1', Le I I' → post (.returned v) I' H1' → C ((d, v) :: e) I' (R ++ H1'))
    (kp : ∀ ch I' H1', Le I I' → post (.panicked ch) I' H1' → Ej cx Q (.panic ch) e I' (R ++ H1'))
    (ko : ∀ I' H1', ¬ post .outgrown I' H1') : OpJ cx Q o e I H C := op_callR R hH ho hd hn hf hx hs k kp ko
end
theorem ax1 {A B : Prop} (a : A) (h : Wr A → B := by
  intro a
  first
  | (with_reducible show J _ _ _ _ _ _ _)
    first
    | with_reducible refine J.nil ?_
    | refine J.z (by first | exact yA) ?_
    | refine J.skip _ _ _ _ _ rfl rfl rfl (by first | exact eqA) rfl rfl ?_
    | refine J.skipU _ _ _ _ rfl rfl rfl rfl rfl ?_
    | refine J.opG _ _ _ _ rfl rfl rfl (by first | exact eqA) (op_yld (by first | exact yA) rfl rfl ?_)
    | refine J.op rfl (q15 ?_)
    | refine J.op rfl (op_alloc rfl rfl rfl (by first | exact uZ) rfl ?_)
    | refine J.op rfl (op_buildSlice rfl rfl rfl (by first | exact uU) (by first | exact uS) (by first | exact uZ) (by first | exact rfl) rfl (by first | exact rfl) (by first | exact rfl) (by first | exact lcA) ?_)
    | refine J.op rfl (op_storeA rfl rfl rfl rfl (by first | exact ceA) (by first | exact onA) (by first | exact uS) (by first | exact rfl) (by first | exact chA) (by first | exact lsA) ?_)
  | (with_reducible show JA _ _ _ _ _ _ _ _ _ _ _ _)
    first
    | refine JA.tn 0 rfl rfl (by first | exact fxA) (by first | exact yA) ?_
    | refine JA.tnS 0 rfl rfl (by first | exact fxA) rfl rfl rfl (by first | exact .inl (congrArg Value.bool (by first | exact eqA)) | exact .inr rfl) ?_
    | refine JA.tnG 0 rfl rfl (by first | exact fxA) rfl rfl rfl (by first | exact eqA) (by first | exact yA) ?_
    | refine JA.tn 1 rfl rfl (by first | exact fxA) (by first | exact yA) ?_
    | refine JA.tnS 1 rfl rfl (by first | exact fxA) rfl rfl rfl (by first | exact .inl (congrArg Value.bool (by first | exact eqA)) | exact .inr rfl) ?_
    | refine JA.tnG 1 rfl rfl (by first | exact fxA) rfl rfl rfl (by first | exact eqA) (by first | exact yA) ?_
    | refine JA.tn 2 rfl rfl (by first | exact fxA) (by first | exact yA) ?_
    | refine JA.tnS 2 rfl rfl (by first | exact fxA) rfl rfl rfl (by first | exact .inl (congrArg Value.bool (by first | exact eqA)) | exact .inr rfl) ?_
    | refine JA.tnG 2 rfl rfl (by first | exact fxA) rfl rfl rfl (by first | exact eqA) (by first | exact yA) ?_
    | refine JA.tn 3 rfl rfl (by first | exact fxA) (by first | exact yA) ?_
    | refine JA.tnS 3 rfl rfl (by first | exact fxA) rfl rfl rfl (by first | exact .inl (congrArg Value.bool (by first | exact eqA)) | exact .inr rfl) ?_
    | refine JA.tnG 3 rfl rfl (by first | exact fxA) rfl rfl rfl (by first | exact eqA) (by first | exact yA) ?_
    | refine JA.tn 4 rfl rfl (by first | exact fxA) (by first | exact yA) ?_
    | refine JA.tnS 4 rfl rfl (by first | exact fxA) rfl rfl rfl (by first | exact .inl (congrArg Value.bool (by first | exact eqA)) | exact .inr rfl) ?_
    | refine JA.tnG 4 rfl rfl (by first | exact fxA) rfl rfl rfl (by first | exact eqA) (by first | exact yA) ?_
    | refine JA.tn 5 rfl rfl (by first | exact fxA) (by first | exact yA) ?_
    | refine JA.tnS 5 rfl rfl (by first | exact fxA) rfl rfl rfl (by first | exact .inl (congrArg Value.bool (by first | exact eqA)) | exact .inr rfl) ?_
    | refine JA.tnG 5 rfl rfl (by first | exact fxA) rfl rfl rfl (by first | exact eqA) (by first | exact yA) ?_
    | refine JA.tn 6 rfl rfl (by first | exact fxA) (by first | exact yA) ?_
    | refine JA.tnS 6 rfl rfl (by first | exact fxA) rfl rfl rfl (by first | exact .inl (congrArg Value.bool (by first | exact eqA)) | exact .inr rfl) ?_
    | refine JA.tnG 6 rfl rfl (by first | exact fxA) rfl rfl rfl (by first | exact eqA) (by first | exact yA) ?_
    | refine JA.dn rfl (by kernel_rfl) ?_
    | refine JA.st1 rfl rfl (by kernel_rfl) rfl ?_
      first
      | refine (q15 ?_)
    | refine (op_alloc rfl rfl rfl (by first | exact uZ) rfl ?_)
    | refine (op_buildSlice rfl rfl rfl (by first | exact uU) (by first | exact uS) (by first | exact uZ) (by first | exact rfl) rfl (by first | exact rfl) (by first | exact rfl) (by first | exact lcA) ?_)
    | refine (op_storeA rfl rfl rfl rfl (by first | exact ceA) (by first | exact onA) (by first | exact uS) (by first | exact rfl) (by first | exact chA) (by first | exact lsA) ?_)
  | (with_reducible show And (And (Le _ _) _) _)
    refine And.intro (And.intro (by repeat first | exact Le.refl _ | assumption | refine Le.trans ?_ (by assumption)) (And.intro (by repeat first | exact HSub.n | refine HSub.c 0 rfl ?_ | refine HSub.c 1 rfl ?_ | refine HSub.c 2 rfl ?_ | refine HSub.c 3 rfl ?_ | refine HSub.c 4 rfl ?_ | refine HSub.c 5 rfl ?_) CSub.n)) ?_
  | (with_reducible show Cj _ _ _ _ _ _)
    first
    | with_reducible refine Cj.seq ?_
    | with_reducible refine Cj.region ?_
    | with_reducible refine Cj.block ?_
    | with_reducible refine Cj.skip ?_
    | with_reducible refine Cj.exit ?_
    | with_reducible refine Cj.ret ?_
    | (with_reducible show Cj _ _ (Code.cond _ _ _) _ _ _); first | refine Cj.cT (by first | exact rfl) (by first | exact eqB) ?_ | refine Cj.cF (by first | exact rfl) (by first | exact eqB) ?_
    | refine Cj.seq ?_
    | refine Cj.region ?_
  | (with_reducible show Ej _ _ _ _ _ _)
    first
    | with_reducible refine Ej.seq ?_
    | with_reducible refine Ej.blkNormal ?_
    | with_reducible refine Ej.seqExit ?_
    | with_reducible refine Ej.loopExit ?_
    | with_reducible refine Ej.loopRet ?_
    | with_reducible refine Ej.blkExit ?_
    | with_reducible refine Ej.seqRet ?_
    | with_reducible refine Ej.blkRet ?_
  exact a.1) : B := h ⟨a⟩
theorem axn (n : Nat) {A B : Prop} (a : A) (h : Cnt n → Wr A → B := by
  intro s a
  repeat (replace s := Cnt.p s; refine ax1 ?_)
  exact a.1) : B := h ⟨⟩ ⟨a⟩
theorem tst {b : Bool} {p n : Prop} (h : (b = true → p) ∧ (b = false → n) := by first
  | exact ⟨of_decide_eq_true, of_decide_eq_false⟩
  | exact ⟨eq_of_beq, ne_of_beq_false⟩
  | exact ⟨bne_iff_ne.1, bne_f⟩
  | exact ⟨id, id⟩) : (b = true → p) ∧ (b = false → n) := h
theorem axc {b : Bool} {p n A1 A0 B : Prop} (g1 : b = true → p → A1) (g0 : b = false → n → A0) (h : Wr (b = true → A1) → Wr (b = false → A0) → B := by
  intro a1 a0
  repeat refine ax1 ?_
  exact Cj.cond rfl a1.1 a0.1) (k : (b = true → p) ∧ (b = false → n) := by exact tst) : B := h ⟨fun h => g1 h (k.1 h)⟩ ⟨fun h => g0 h (k.2 h)⟩
theorem xca {P : Program} {f : FuncId} {args : List Value} {I : Heap} {H1 : HL} {post : Ending → Heap → HL → Prop} {A B : Prop} (c : Ctr P f args I H1 post) (a : A) (h : Row H1 → Ctr P f args I H1 post → Wr A → B := by
  intro r c a
  repeat refine ax1 ?_
  first
  | (with_reducible show J _ _ _ _ _ _ _)
    first
    | exact J.op rfl (op_cW r rfl rfl rfl rfl rfl c rfl a.1 (by first | exact kpA) (by first | exact kpA))
    | exact J.opG _ _ _ _ rfl rfl rfl (by first | exact eqA) (op_cW r rfl rfl rfl rfl rfl c rfl a.1 (by first | exact kpA) (by first | exact kpA))
  | (with_reducible show JA _ _ _ _ _ _ _ _ _ _ _ _)
    first
    | exact JA.st1 rfl rfl (by kernel_rfl) rfl (op_cW r rfl rfl rfl rfl rfl c rfl a.1 (by first | exact kpA) (by first | exact kpA))
    | exact JA.st2 rfl rfl (by kernel_rfl) rfl rfl rfl (by first | exact eqA) (op_cW r rfl rfl rfl rfl rfl c rfl a.1 (by first | exact kpA) (by first | exact kpA))
  | exact op_cW r rfl rfl rfl rfl rfl c rfl a.1 (by first | exact kpA) (by first | exact kpA)) : B := h ⟨⟩ c ⟨a⟩
theorem xcr {P : Program} {f : FuncId} {args : List Value} {I : Heap} {H1 : HL} (R : HL) {post : Ending → Heap → HL → Prop} {A B : Prop} (c : Ctr P f args I H1 post) (a : A) (h : Row R → Ctr P f args I H1 post → Wr A → B := by
  intro r c a
  repeat refine ax1 ?_
  first
  | (with_reducible show J _ _ _ _ _ _ _)
    first
    | exact J.op rfl (op_crW r rfl rfl rfl rfl rfl rfl c a.1 (by first | exact kpA) (by first | exact kpA))
    | exact J.opG _ _ _ _ rfl rfl rfl (by first | exact eqA) (op_crW r rfl rfl rfl rfl rfl rfl c a.1 (by first | exact kpA) (by first | exact kpA))
  | (with_reducible show JA _ _ _ _ _ _ _ _ _ _ _ _)
    first
    | exact JA.st1 rfl rfl (by kernel_rfl) rfl (op_crW r rfl rfl rfl rfl rfl rfl c a.1 (by first | exact kpA) (by first | exact kpA))
    | exact JA.st2 rfl rfl (by kernel_rfl) rfl rfl rfl (by first | exact eqA) (op_crW r rfl rfl rfl rfl rfl rfl c a.1 (by first | exact kpA) (by first | exact kpA))
  | exact op_crW r rfl rfl rfl rfl rfl rfl c a.1 (by first | exact kpA) (by first | exact kpA)) : B := h ⟨⟩ c ⟨a⟩
section
variable {cx : Cx} {Q : Qt} {e : Env} {I I1 : Heap} {H A : HL} {Z : CL} {z fuel : Nat} {listed : Array Bool} {ops : Array Oper} {l : List Oper} {o : Oper}
end
theorem xix (off : Nat) {A B : Prop} (a : A) (h : Cnt off → Wr A → B := by
  intro s a
  repeat refine ax1 ?_
  first
  | exact J.z (yl_ixS s rfl rfl rfl (by first | exact uU) (by first | exact uS) (by first | decide | omega) (by first | decide | omega) (by first | decide | omega | (simp; done) | (simp; omega))) a.1
  | exact JA.tn 0 rfl rfl (by first | exact fxA) (yl_ixS s rfl rfl rfl (by first | exact uU) (by first | exact uS) (by first | decide | omega) (by first | decide | omega) (by first | decide | omega | (simp; done) | (simp; omega))) a.1
  | exact J.zg (yl_ixS s rfl rfl rfl (by first | exact uU) (by first | exact uS) (by first | decide | omega) (by first | decide | omega) (by first | decide | omega | (simp; done) | (simp; omega))) a.1
  | exact JA.tnG 0 rfl rfl (by first | exact fxA) rfl rfl rfl (by first | exact eqA) (yl_ixS s rfl rfl rfl (by first | exact uU) (by first | exact uS) (by first | decide | omega) (by first | decide | omega) (by first | decide | omega | (simp; done) | (simp; omega))) a.1
  | exact J.z (yl_ixA s rfl rfl rfl (by first | exact uU) (by first | exact uS) (by first | decide | omega) (by first | decide | omega) (by first | decide | omega | (simp; done) | (simp; omega))) a.1
  | exact JA.tn 0 rfl rfl (by first | exact fxA) (yl_ixA s rfl rfl rfl (by first | exact uU) (by first | exact uS) (by first | decide | omega) (by first | decide | omega) (by first | decide | omega | (simp; done) | (simp; omega))) a.1
  | exact J.zg (yl_ixA s rfl rfl rfl (by first | exact uU) (by first | exact uS) (by first | decide | omega) (by first | decide | omega) (by first | decide | omega | (simp; done) | (simp; omega))) a.1
  | exact JA.tnG 0 rfl rfl (by first | exact fxA) rfl rfl rfl (by first | exact eqA) (yl_ixA s rfl rfl rfl (by first | exact uU) (by first | exact uS) (by first | decide | omega) (by first | decide | omega) (by first | decide | omega | (simp; done) | (simp; omega))) a.1) : B := h ⟨⟩ ⟨a⟩
section
variable {cx : Cx} {Q : Qt} {e : Env} {I I1 : Heap} {H A : HL} {Z : CL} {z fuel : Nat} {listed : Array Bool} {ops : Array Oper} {l : List Oper} {o : Oper}
theorem JA.ev (d : Nat) (v' : Value) {v : Value} (hv : eg e d = some v) (h : v = v') (k : JA cx Q l I1 A Z z fuel listed ((d, v') :: e) I H) : JA cx Q l I1 A Z z fuel listed e I H := JA.eqv d hv h k
theorem JA.zt (i : Nat) {d : Nat} {v : Value} (hi : l.toArray[i]? = some o) (hy : Yld cx o e (SC I1 A Z) v) (k : JA cx Q l I1 A Z z fuel (listed.setIfInBounds i true) ((d, v) :: e) I H) (hx : JFix I1 A Z I H := by exact fxA)
    (hd : o.dst = some d := by rfl) (hg : o.guard = none := by rfl) (hn : Nat.blt d cx.n = true := by rfl) (hz : zok l.toArray listed z i = true := by first | rfl | kernel_rfl) (hs : Region.noSelect l.toArray = true := by kernel_rfl) (hf : Region.free .any l.toArray listed i = true := by kernel_rfl)
    (hr : (Region.ready .any l.toArray listed).contains i = true := by kernel_rfl) (hq : ∀ c a w, Q (.panic c) (a.put (some d) v) w → Q (.panic c) a w := by exact fun _ _ _ h => h) : JA cx Q l I1 A Z z (fuel + 1) listed e I H := JA.tk i hi hx hy k hd hg hn hz hs hf hr hq
end
theorem xob {P : Program} {f : FuncId} {fn : Func} {c : Code} {args : List Value} {I : Heap} {H : HL} {post : Ending → Heap → HL → Prop} (hf : P.funcs[f]? = some fn)
    (h : ∀ w0, Ready I H w0 → Cj ⟨P, fn.ntmps, w0, H.map (·.1), I, [], none⟩ (bodyPost P fn (RR w0 (H.map (·.1)) I post)) c (argsEnv 0 args) I H) (hb : fn.body = some c := by rfl) (hname : fn.name ≠ "runtime.NumGoroutine" := by decide)
    (hn : args.length ≤ fn.ntmps := by exact Nat.le_of_ble_eq_true rfl) : Ctr P f args I H post := Ctr.of_body hf hb hname hn h
end Go.Sx
section
set_option maxHeartbeats 40000000
namespace Go.Proofs.YtekmeaoblpfnpaaGreatDoor
open _root_.Go.Proofs.Tryz
open Go Go.Sx
theorem Drop_some (ib : Nat) (s0 : Ist) (L : Ix.Ix) (t : Ix.Rec) (I : Heap) (hok0 : IstOk I s0 L) : Ctr Tryz.prog 43 [ptr ib 0, kvR t] I (istH ib s0)
    (fun e I' H' => ∃ s', e = .returned (.tuple #[]) ∧ IstOk I' s' (Ix.rdrop t L) ∧ H' = istH ib s') := by
 obtain ⟨vb, wb, kb, lv, cv, lw, cw, Nw, lk, ck, Nk⟩ := s0
 unfold istH
 dsimp only
 have hok := hok0
 refine xob func43 fun w0 hw0 => ?_
 refine axn 3 ?_
 intro b1 hb1
 refine axn 1 ?_
 intro b2 hb2
 refine axn 4 ?_
 refine Cj.pull (Pull.s Pull.z) ?_
 refine Cj.persist hb1 (fun I4 hle3 hb1i => ?_)
 have hok := hok.mono hle3
 refine Cj.persist hb2 (fun I6 hle5 hb2i => ?_)
 have hok := hok.mono hle5
 have hb1i := hle5 _ _ hb1i
 refine axn 10 ?_
 have hv0 := hok.vals
 obtain ⟨vv, hvv, hvs⟩ := hv0.at t
 obtain ⟨xs, hrow, hX⟩ := hvs
 obtain ⟨vp, vc, rfl, hvc, -⟩ := id hrow
 have hvok := rget_vok hok.srt hok.vok t
 have hxl := hX.len
 have hvl := hvok.1
 have hY0 : YD ib vb wb kb L t ((Ix.rget L t).getD []) 0 ((ib, cel 114 (ixC vb wb kb)) :: (setH wb lw cw Nw ++ setH kb lk ck Nk)) := ⟨lw, cw, Nw, lk, ck, Nk, (by have h := hok.nw; rw [cnt_way Ix.plW rfl L t] at h; exact h), (by have h := hok.nk; rw [cnt_way Ix.plK rfl L t] at h; exact h), rfl⟩
 refine Cj.drawSel [0, 1] [] 8 (by kernel_rfl) ?_
 refine axn 5 ?_
 refine JA.zt 5 rfl (yl_lookup1 (kv := kvR) (l := lv) (a := t) rfl rfl rfl rfl tU110 keyR tZ140 (Blk.atC 0 rfl)) ?_
 refine JA.ev 13 (.slice vp xs.length vc) rfl hvv ?_
 refine axn 5 ?_
 refine Cj.loop (ι := DA) (fun y => y.i ≤ xs.length ∧ Le I6 y.J ∧ YD ib vb wb kb L t ((Ix.rget L t).getD []) y.i y.Y) (fun y => xs.length - y.i) (fun y => [(2, ptr b1 0), (3, ptr b2 0), (13, .slice vp xs.length vc), (14, i64 (xs.length : Int)), (15, i64 (y.i : Int))]) (fun y => y.J) (fun y => (vb, mobj kvR lv cv) :: y.Y) ⟨0, _, (ib, cel 114 (ixC vb wb kb)) :: (setH _ _ _ _ ++ setH _ _ _ _)⟩ ⟨Nat.zero_le _, Le.refl _, hY0⟩ ⟨rfl, rfl, rfl, rfl, rfl, trivial⟩ rfl rfl ?_
 rintro ⟨i, Jh, Y9⟩ ⟨hi, hIJ, hY⟩
 dsimp only at hi hIJ hY ⊢
 have hrow := hrow.mono hIJ
 have hX := hX.mono hIJ
 have hb1i := hIJ _ _ hb1i
 have hb2i := hIJ _ _ hb2i
 refine axc (fun hc9 hc9p => ?_) (fun hc9 hc9p => ?_)
 ·have hlt : i < xs.length := by omega
  obtain ⟨x, hget⟩ : ∃ x, xs[i]? = some x := ⟨_, lgg hlt⟩
  obtain ⟨vp1, vc1, hve, -, hvb⟩ := id hrow
  cases hve
  obtain ⟨rb, rsp, rfl, hrb⟩ := hvb (ne_nil_of hlt)
  have hws := hX.2 x (lmg hget)
  have hgv := (congrArg (fun l => l[i]?) hX.1).symm.trans ((List.getElem?_map).trans (congrArg (Option.map (·.1)) hget))
  dsimp only [Option.map_some] at hgv
  refine xix (0 + i * 3) ?_
  refine J.z (yl_loadAgg rfl rfl isAgg142 tS142 (Blk.imm hrb) (row_from vwC_len (o := 0) rfl hget) rfl) ?_
  refine axn 1 ?_
  intro b10 hb10
  refine J.op rfl (op_store 0 rfl rfl rfl rfl rfl (vw_one hws rfl rfl) tS142 rfl rfl (LSpl.c (LSpl.c (LSpl.c LSpl.z))) LSet.z ?_)
  refine xcr [_, _] (each_drop b1 b2 ib vb wb kb L t ((Ix.rget L t).getD []) hvok i x.1 x.2 hgv _ hws hb1i hb2i _ hY) ?_
  intro v11 I12 H13 hle14 hp15
  have hIJ := hIJ.mono hle14
  obtain ⟨h, hY1⟩ := hp15; cases h
  refine axn 7 ?_
  refine Ej.keep (Keeps.d (Keeps.k Keeps.r)) ?_
  refine Ej.round ⟨i + 1, _, H13⟩ ⟨by dsimp only; omega, hIJ, hY1⟩ (by dsimp only; omega) ⟨rfl, rfl, rfl, rfl, rfl, trivial⟩ rfl rfl
 have hil : i = ((Ix.rget L t).getD []).length := by omega
 obtain ⟨lw2, cw2, Nw2, lk2, ck2, Nk2, hw2, hk2, rfl⟩ := hY
 rw [hil, List.drop_length] at hw2 hk2
 refine axn 5 ?_
 refine Cj.drawSel [1] [] 6 (by kernel_rfl) ?_
 refine axn 5 ?_
 refine q4 5 rfl (op_delete0 (kv := kvR) (a := t) 0 rfl rfl rfl rfl rfl tU110 keyR rfl LSet.z ?_)
 refine axn 2 ?_
 refine Ej.end0 rfl rfl ?_
 exact ⟨⟨vb, wb, kb, mdel lv t, cv, lw2, cw2, Nw2, lk2, ck2, Nk2⟩, rfl, hok.drop hIJ t hw2 hk2, rfl⟩
theorem Drop_none (ib : Nat) (t : Ix.Rec) (I : Heap) : Ctr Tryz.prog 43 [ptr ib 0, kvR t] I [(ib, cel 114 [.map none, .map none, .map none])]
    (fun e _ H' => e = .returned (.tuple #[]) ∧ H' = [(ib, cel 114 [.map none, .map none, .map none])]) := by
 refine xob func43 fun w0 hw0 => ?_
 refine axn 3 ?_
 intro b1 hb1
 refine axn 1 ?_
 intro b2 hb2
 refine axn 14 ?_
 refine Cj.drawSel [0, 1, 2] [] 8 (by kernel_rfl) ?_
 refine JA.fix fxA (fun fx4 => ?_)
 refine JA.tk 0 rfl fx4 (q3 tA26 (Blk.atC 1 rfl)) ?_
 refine JA.tk 1 rfl fx4 q6 ?_
 refine JA.tk 2 rfl fx4 (q2 (off' := 0) tU114 tS110) ?_
 refine JA.tk 3 rfl fx4 (q3 isAgg110 (Blk.atC 2 rfl)) ?_
 refine JA.tk 4 rfl fx4 (q10 tA54 tS54 (Blk.atC 0 rfl)) ?_
 refine JA.tk 5 rfl fx4 (yl_lookupNil1 (kv := kvR) (a := t) rfl rfl rfl rfl tU110 keyR tZ140) ?_
 refine axn 5 ?_
 refine Cj.rounds 1 ?_
 refine Rj.succ ?_
 refine axn 6 ?_
 refine Cj.cond rfl (fun hc5 => ?_) (fun hc5 => ?_)
 ·have hc5p := odt hc5
  exact absurd (odt hc5) (by decide)
 have hc5p := odf hc5
 refine Cj.exit (Ej.seqExit (Ej.seqExit (Ej.blkExit (Ej.seq ?_))))
 refine Cj.drawSel [0, 1, 2] [] 6 (by kernel_rfl) ?_
 refine JA.fix fxA (fun fx6 => ?_)
 refine JA.tk 0 rfl fx6 (q3 tA26 (Blk.atC 1 rfl)) ?_
 refine JA.tk 1 rfl fx6 q6 ?_
 refine JA.tk 2 rfl fx6 (q2 (off' := 0) tU114 tS110) ?_
 refine JA.tk 3 rfl fx6 (q3 isAgg110 (Blk.atC 2 rfl)) ?_
 refine JA.tk 4 rfl fx6 (q10 tA54 tS54 (Blk.atC 0 rfl)) ?_
 refine q4 5 rfl (op_deleteNil (kv := kvR) (a := t) rfl rfl rfl rfl rfl tU110 keyR ?_)
 refine axn 2 ?_
 refine Ej.keep (Keeps.d (Keeps.d (Keeps.k Keeps.n))) ?_
 refine Ej.end0 rfl rfl ?_
 exact ⟨rfl, rfl⟩
theorem iput_end {I I' : Heap} {vb wb kb : Nat} {lv : ML Ix.Rec} {cv : Nat} {lw : ML Ix.Pl} {cw : Nat} {Nw : Nest Ix.Pl Ix.Rec} {lk : ML Ix.Pl} {ck : Nat} {Nk : Nest Ix.Pl Ix.Rec} {L : Ix.Ix} {t : Ix.Rec} (h : IstOk I ⟨vb, wb, kb, lv, cv, lw, cw, Nw, lk, ck, Nk⟩ (Ix.rdrop t L)) (hs : Ix.Srt L) (hL : L.length < 100000) {vs : List Ix.V} (hv : VOK vs) {w : Value} (hw0 : ValsS I' vs w) (hle : Le I I') {lw2 : ML Ix.Pl} {cw2 : Nat} {Nw2 : Nest Ix.Pl Ix.Rec} {lk2 : ML Ix.Pl} {ck2 : Nat} {Nk2 : Nest Ix.Pl Ix.Rec}
    (hw : NestS lw2 cw2 Nw2 (Ix.way (Ix.cnt Ix.plW L) t fun p => (Ix.plW vs).count p)) (hk : NestS lk2 ck2 Nk2 (Ix.way (Ix.cnt Ix.plK L) t fun p => (Ix.plK vs).count p)) : IstOk I' ⟨vb, wb, kb, mset lv t w cv, mclk lv t cv, lw2, cw2, Nw2, lk2, ck2, Nk2⟩ (Ix.rput t vs L) := by
  have hb : (Ix.rdrop t L).length < 100000 := Nat.lt_of_le_of_lt (List.length_filter_le _ _) hL
  have hww : ∀ (pl : List Ix.V → List Ix.Pl), (Ix.way (Ix.cnt pl L) t fun p => (pl vs).count p) = Ix.way (Ix.cnt pl (Ix.rdrop t L)) t fun p => (pl vs).count p := fun pl => by
    rw [Ix.cnt_rdrop hs]
    funext p u
    unfold Ix.way
    split <;> rfl
  rw [hww] at hw hk
  have h2 := (h.mono hle).put hb hv hw0 hw hk
  rw [Ix.rput_rdrop hs] at h2
  exact h2
theorem Put_some (ib : Nat) (s0 : Ist) (L : Ix.Ix) (e0 : Ent) (I : Heap) (hok : IstOk I s0 L) (hbig : L.length < 100000) (hek : EOK e0.fs) (hrec : RecS I e0.fs e0.v) : Ctr Tryz.prog 50 [ptr ib 0, .agg (entC e0).toArray] I (istH ib s0)
    (fun e I' H' => ∃ s', e = .returned (.tuple #[]) ∧ IstOk I' s' (Ix.rput e0.t (Ix.vals e0.fs) L) ∧ H' = istH ib s') := by
 have hsrt := hok.srt
 obtain ⟨vp0, vc0, hev, -, -⟩ := id hrec.1
 refine xob func50 fun w0 hw0 => ?_
 refine axn 3 ?_
 intro b1 hb1
 refine axn 1 ?_
 intro b2 hb2
 refine axn 4 ?_
 refine Cj.pull (Pull.s Pull.z) ?_
 refine Cj.persist hb1 (fun I4 hle3 hb1i => ?_)
 have hok := hok.mono hle3
 have hrec := hrec.mono hle3
 refine Cj.persist hb2 (fun I6 hle5 hb2i => ?_)
 have hok := hok.mono hle5
 have hrec := hrec.mono hle5
 have hb1i := hle5 _ _ hb1i
 refine xcr [] (Drop_some ib s0 L e0.t _ hok) ?_
 intro v8 I9 H10 hle11 hp12
 have hok := hok.mono hle11
 have hrec := hrec.mono hle11
 have hb1i := hle11 _ _ hb1i
 have hb2i := hle11 _ _ hb2i
 obtain ⟨s1, h, hok, rfl⟩ := hp12; cases h
 obtain ⟨vb, wb, kb, lv, cv, lw, cw, Nw, lk, ck, Nk⟩ := s1
 unfold istH
 dsimp only
 refine axn 16 ?_
 refine Cj.drawSel [1] [] 10 (by kernel_rfl) ?_
 have hb1i_5 := hb1i
 have hb2i_5 := hb2i
 refine xca (valuesOf_ok e0.fs e0.v e0.k e0.l hek _ hrec) ?_
 intro v15 I16 H17 hle18 hp19
 have hb1i := hle18 _ _ hb1i
 have hb2i := hle18 _ _ hb2i
 have hok := hok.mono hle18
 obtain ⟨vv, h, hvs, rfl⟩ := hp19; cases h
 obtain ⟨xs, hrow, hX⟩ := hvs
 obtain ⟨vp, vc, rfl, hvc, -⟩ := id hrow
 have hvok := vok_of hek
 have hxl := hX.len
 have hvl := hvok.1
 refine axn 1 ?_
 refine q4 9 rfl (op_insert (kv := kvR) (a := e0.t) 0 (.inr rfl) rfl rfl rfl rfl rfl tU110 keyR rfl LSet.z ?_)
 refine axn 4 ?_
 have hY0 : YP ib vb wb kb L e0.t (Ix.vals e0.fs) 0 ((ib, cel 114 (ixC vb wb kb)) :: (setH wb lw cw Nw ++ setH kb lk ck Nk)) := ⟨lw, cw, Nw, lk, ck, Nk, (by have h := hok.nw; rw [Ix.cnt_rdrop hsrt] at h; exact h), (by have h := hok.nk; rw [Ix.cnt_rdrop hsrt] at h; exact h), rfl⟩
 refine Cj.drawSel [0, 1] [] 9 (by kernel_rfl) ?_
 refine axn 6 ?_
 refine JA.zt 6 rfl (yl_lookup1 (kv := kvR) (l := (mset lv e0.t (.slice vp xs.length vc) cv)) (a := e0.t) rfl rfl rfl rfl tU110 keyR tZ140 (Blk.atC 0 rfl)) ?_
 refine JA.ev 44 (.slice vp xs.length vc) rfl getD_set ?_
 refine axn 5 ?_
 refine Cj.loop (ι := DA) (fun y => y.i ≤ xs.length ∧ Le I16 y.J ∧ YP ib vb wb kb L e0.t (Ix.vals e0.fs) y.i y.Y) (fun y => xs.length - y.i) (fun y => [(2, ptr b1 0), (3, ptr b2 0), (44, .slice vp xs.length vc), (45, i64 (xs.length : Int)), (46, i64 (y.i : Int))]) (fun y => y.J) (fun y => (vb, mobj kvR (mset lv e0.t (.slice vp xs.length vc) cv) (mclk lv e0.t cv)) :: y.Y) ⟨0, _, (ib, cel 114 (ixC vb wb kb)) :: (setH _ _ _ _ ++ setH _ _ _ _)⟩ ⟨Nat.zero_le _, Le.refl _, hY0⟩ ⟨rfl, rfl, rfl, rfl, rfl, trivial⟩ rfl rfl ?_
 rintro ⟨i, Jh, Y9⟩ ⟨hi, hIJ, hY⟩
 dsimp only at hi hIJ hY ⊢
 have hrow := hrow.mono hIJ
 have hX := hX.mono hIJ
 have hb1i := hIJ _ _ hb1i
 have hb2i := hIJ _ _ hb2i
 refine axc (fun hc21 hc21p => ?_) (fun hc21 hc21p => ?_)
 ·have hlt : i < xs.length := by omega
  obtain ⟨x, hget⟩ : ∃ x, xs[i]? = some x := ⟨_, lgg hlt⟩
  obtain ⟨vp1, vc1, hve, -, hvb⟩ := id hrow
  cases hve
  obtain ⟨rb, rsp, rfl, hrb⟩ := hvb (ne_nil_of hlt)
  have hws := hX.2 x (lmg hget)
  have hgv := (congrArg (fun l => l[i]?) hX.1).symm.trans ((List.getElem?_map).trans (congrArg (Option.map (·.1)) hget))
  dsimp only [Option.map_some] at hgv
  refine xix (0 + i * 3) ?_
  refine J.z (yl_loadAgg rfl rfl isAgg142 tS142 (Blk.imm hrb) (row_from vwC_len (o := 0) rfl hget) rfl) ?_
  refine axn 1 ?_
  intro b22 hb22
  refine J.op rfl (op_store 0 rfl rfl rfl rfl rfl (vw_one hws rfl rfl) tS142 rfl rfl (LSpl.c (LSpl.c (LSpl.c LSpl.z))) LSet.z ?_)
  refine xcr [_, _] (each_put b1 b2 ib vb wb kb e0.k e0.l e0.v L e0.t (Ix.vals e0.fs) hvok i x.1 x.2 hgv _ hws hb1i hb2i _ hY) ?_
  intro v23 I24 H25 hle26 hp27
  have hIJ := hIJ.mono hle26
  obtain ⟨h, hY1⟩ := hp27; cases h
  refine axn 7 ?_
  refine Ej.keep (Keeps.d (Keeps.k Keeps.r)) ?_
  refine Ej.round ⟨i + 1, _, H25⟩ ⟨by dsimp only; omega, hIJ, hY1⟩ (by dsimp only; omega) ⟨rfl, rfl, rfl, rfl, rfl, trivial⟩ rfl rfl
 have hil : i = (Ix.vals e0.fs).length := by omega
 obtain ⟨lw2, cw2, Nw2, lk2, ck2, Nk2, hw2, hk2, rfl⟩ := hY
 rw [hil, List.take_length] at hw2 hk2
 refine axn 4 ?_
 refine Ej.end0 rfl rfl ?_
 exact ⟨⟨vb, wb, kb, (mset lv e0.t (.slice vp xs.length vc) cv), (mclk lv e0.t cv), lw2, cw2, Nw2, lk2, ck2, Nk2⟩, rfl, iput_end hok hsrt hbig hvok ⟨xs, hrow, hX⟩ hIJ hw2 hk2, rfl⟩
theorem Put_none (ib : Nat) (e0 : Ent) (I : Heap) (hek : EOK e0.fs) (hrec : RecS I e0.fs e0.v) : Ctr Tryz.prog 50 [ptr ib 0, .agg (entC e0).toArray] I [(ib, cel 114 [.map none, .map none, .map none])]
    (fun e I' H' => ∃ s', e = .returned (.tuple #[]) ∧ IstOk I' s' (Ix.rput e0.t (Ix.vals e0.fs) []) ∧ H' = istH ib s') := by
 obtain ⟨vp0, vc0, hev, -, -⟩ := id hrec.1
 refine xob func50 fun w0 hw0 => ?_
 refine axn 3 ?_
 intro b1 hb1
 refine axn 1 ?_
 intro b2 hb2
 refine axn 4 ?_
 refine Cj.pull (Pull.s Pull.z) ?_
 refine Cj.persist hb1 (fun I4 hle3 hb1i => ?_)
 have hrec := hrec.mono hle3
 refine Cj.persist hb2 (fun I6 hle5 hb2i => ?_)
 have hrec := hrec.mono hle5
 have hb1i := hle5 _ _ hb1i
 refine axn 13 ?_
 refine J.pull Pull.z ?_
 refine xca (Drop_none ib e0.t _) ?_
 intro v8 I9 H10 hle11 hp12
 have hrec := hrec.mono hle11
 have hb1i := hle11 _ _ hb1i
 have hb2i := hle11 _ _ hb2i
 obtain ⟨h, rfl⟩ := hp12; cases h
 refine axn 2 ?_
 refine Cj.join (ι := Nat × Nat × Nat) (fun y => True) (fun y => [(2, ptr b1 0), (3, ptr b2 0)]) (fun y => I9) (fun y => (y.1, mobj kvR [] 0) :: (ib, cel 114 (ixC y.1 y.2.1 y.2.2)) :: (setH y.2.1 [] 0 [] ++ setH y.2.2 [] 0 [])) ?_ (fun hcut => ?_)
 ·rintro ⟨vb, wb, kb⟩ -
  dsimp only
  refine axn 1 ?_
  refine Cj.drawSel [1] [] 10 (by kernel_rfl) ?_
  have hb1i_5 := hb1i
  have hb2i_5 := hb2i
  refine xca (valuesOf_ok e0.fs e0.v e0.k e0.l hek _ hrec) ?_
  intro v14 I15 H16 hle17 hp18
  have hb1i := hle17 _ _ hb1i
  have hb2i := hle17 _ _ hb2i
  obtain ⟨vv, h, hvs, rfl⟩ := hp18; cases h
  obtain ⟨xs, hrow, hX⟩ := hvs
  obtain ⟨vp, vc, rfl, hvc, -⟩ := id hrow
  have hvok := vok_of hek
  have hxl := hX.len
  have hvl := hvok.1
  refine axn 1 ?_
  refine q4 9 rfl (op_insert (kv := kvR) (a := e0.t) 0 (.inr rfl) rfl rfl rfl rfl rfl tU110 keyR rfl LSet.z ?_)
  refine axn 4 ?_
  have hY0 : YP ib vb wb kb [] e0.t (Ix.vals e0.fs) 0 ((ib, cel 114 (ixC vb wb kb)) :: (setH wb [] 0 [] ++ setH kb [] 0 [])) := ⟨[], 0, [], [], 0, [], (by rw [List.take_zero]; have h := (NestS.nil : NestS ([] : ML Ix.Pl) 0 ([] : Nest Ix.Pl Ix.Rec) (fun _ _ => 0)); exact (show (Ix.way (Ix.cnt Ix.plW []) e0.t fun p => (Ix.plW []).count p) = (fun _ _ => 0) by funext p u; unfold Ix.way; split <;> rfl) ▸ h), (by rw [List.take_zero]; have h := (NestS.nil : NestS ([] : ML Ix.Pl) 0 ([] : Nest Ix.Pl Ix.Rec) (fun _ _ => 0)); exact (show (Ix.way (Ix.cnt Ix.plK []) e0.t fun p => (Ix.plK []).count p) = (fun _ _ => 0) by funext p u; unfold Ix.way; split <;> rfl) ▸ h), rfl⟩
  refine Cj.drawSel [0, 1] [] 9 (by kernel_rfl) ?_
  refine axn 6 ?_
  refine JA.zt 6 rfl (yl_lookup1 (kv := kvR) (l := (mset ([] : ML Ix.Rec) e0.t (.slice vp xs.length vc) 0)) (a := e0.t) rfl rfl rfl rfl tU110 keyR tZ140 (Blk.atC 0 rfl)) ?_
  refine JA.ev 44 (.slice vp xs.length vc) rfl getD_set ?_
  refine axn 5 ?_
  refine Cj.loop (ι := DA) (fun y => y.i ≤ xs.length ∧ Le I15 y.J ∧ YP ib vb wb kb [] e0.t (Ix.vals e0.fs) y.i y.Y) (fun y => xs.length - y.i) (fun y => [(2, ptr b1 0), (3, ptr b2 0), (44, .slice vp xs.length vc), (45, i64 (xs.length : Int)), (46, i64 (y.i : Int))]) (fun y => y.J) (fun y => (vb, mobj kvR (mset ([] : ML Ix.Rec) e0.t (.slice vp xs.length vc) 0) (mclk ([] : ML Ix.Rec) e0.t 0)) :: y.Y) ⟨0, _, (ib, cel 114 (ixC vb wb kb)) :: (setH _ _ _ _ ++ setH _ _ _ _)⟩ ⟨Nat.zero_le _, Le.refl _, hY0⟩ ⟨rfl, rfl, rfl, rfl, rfl, trivial⟩ rfl rfl ?_
  rintro ⟨i, Jh, Y9⟩ ⟨hi, hIJ, hY⟩
  dsimp only at hi hIJ hY ⊢
  have hrow := hrow.mono hIJ
  have hX := hX.mono hIJ
  have hb1i := hIJ _ _ hb1i
  have hb2i := hIJ _ _ hb2i
  refine axc (fun hc20 hc20p => ?_) (fun hc20 hc20p => ?_)
  ·have hlt : i < xs.length := by omega
   obtain ⟨x, hget⟩ : ∃ x, xs[i]? = some x := ⟨_, lgg hlt⟩
   obtain ⟨vp1, vc1, hve, -, hvb⟩ := id hrow
   cases hve
   obtain ⟨rb, rsp, rfl, hrb⟩ := hvb (ne_nil_of hlt)
   have hws := hX.2 x (lmg hget)
   have hgv := (congrArg (fun l => l[i]?) hX.1).symm.trans ((List.getElem?_map).trans (congrArg (Option.map (·.1)) hget))
   dsimp only [Option.map_some] at hgv
   refine xix (0 + i * 3) ?_
   refine J.z (yl_loadAgg rfl rfl isAgg142 tS142 (Blk.imm hrb) (row_from vwC_len (o := 0) rfl hget) rfl) ?_
   refine axn 1 ?_
   intro b21 hb21
   refine J.op rfl (op_store 0 rfl rfl rfl rfl rfl (vw_one hws rfl rfl) tS142 rfl rfl (LSpl.c (LSpl.c (LSpl.c LSpl.z))) LSet.z ?_)
   refine xcr [_, _] (each_put b1 b2 ib vb wb kb e0.k e0.l e0.v [] e0.t (Ix.vals e0.fs) hvok i x.1 x.2 hgv _ hws hb1i hb2i _ hY) ?_
   intro v22 I23 H24 hle25 hp26
   have hIJ := hIJ.mono hle25
   obtain ⟨h, hY1⟩ := hp26; cases h
   refine axn 7 ?_
   refine Ej.keep (Keeps.d (Keeps.k Keeps.r)) ?_
   refine Ej.round ⟨i + 1, _, H24⟩ ⟨by dsimp only; omega, hIJ, hY1⟩ (by dsimp only; omega) ⟨rfl, rfl, rfl, rfl, rfl, trivial⟩ rfl rfl
  have hil : i = (Ix.vals e0.fs).length := by omega
  obtain ⟨lw2, cw2, Nw2, lk2, ck2, Nk2, hw2, hk2, rfl⟩ := hY
  rw [hil, List.take_length] at hw2 hk2
  refine axn 4 ?_
  refine Ej.end0 rfl rfl ?_
  exact ⟨⟨vb, wb, kb, (mset ([] : ML Ix.Rec) e0.t (.slice vp xs.length vc) 0), (mclk ([] : ML Ix.Rec) e0.t 0), lw2, cw2, Nw2, lk2, ck2, Nk2⟩, rfl, iput_end (L := []) (ist_new _ vb wb kb) List.Pairwise.nil (by decide) hvok ⟨xs, hrow, hX⟩ hIJ hw2 hk2, rfl⟩
 refine axn 10 ?_
 refine Cj.drawSel [] [] 15 (by kernel_rfl) ?_
 refine axn 3 ?_
 refine JA.all [3, 4, 5] (by kernel_rfl) (by simp) ?_
 intro i hi
 simp only [List.mem_cons, List.not_mem_nil, or_false] at hi
 rcases hi with rfl | rfl | rfl
 ·refine ⟨_, rfl, rfl, ?_⟩
  refine op_makeMap rfl rfl rfl ?_
  intro b29 hb29
  refine axn 3 ?_
  refine JA.all [4, 5, 8] (by kernel_rfl) (by simp) ?_
  intro i hi
  simp only [List.mem_cons, List.not_mem_nil, or_false] at hi
  rcases hi with rfl | rfl | rfl
  ·refine ⟨_, rfl, rfl, ?_⟩
   refine op_makeMap rfl rfl rfl ?_
   intro b31 hb31
   refine axn 1 ?_
   refine JA.all [5, 8] (by kernel_rfl) (by simp) ?_
   intro i hi
   simp only [List.mem_cons, List.not_mem_nil, or_false] at hi
   rcases hi with rfl | rfl
   ·refine ⟨_, rfl, rfl, ?_⟩
    refine op_makeMap rfl rfl rfl ?_
    intro b32 hb32
    refine ⟨fx0, ?_⟩
    refine q4 8 rfl (q9 3 tS110 (LSpl.c LSpl.z) (LSet.s (LSet.s (LSet.s LSet.z))) ?_)
    refine ⟨fx0, ?_⟩
    refine JA.fix fxA (fun fx33 => ?_)
    refine JA.tk 9 rfl fx33 q6 ?_
    refine JA.tk 10 rfl fx33 (q2 (off' := 1) tU114 tS112) ?_
    refine q4 11 rfl (q9 3 tS112 (LSpl.s (LSpl.c LSpl.z)) (LSet.s (LSet.s (LSet.s LSet.z))) ?_)
    refine ⟨fx0, ?_⟩
    refine JA.fix fxA (fun fx34 => ?_)
    refine JA.tk 12 rfl fx34 q6 ?_
    refine JA.tk 13 rfl fx34 (q2 (off' := 2) tU114 tS112) ?_
    refine q4 14 rfl (q9 3 tS112 (LSpl.s (LSpl.s (LSpl.c LSpl.z))) (LSet.s (LSet.s (LSet.s LSet.z))) ?_)
    refine ⟨fx0, ?_⟩
    refine q8 ?_
    refine Ej.keep (Keeps.k (Keeps.k (Keeps.k (Keeps.k Keeps.n)))) ?_
    refine Ej.pull Pull.z ?_
    refine Ej.pull (Pull.s Pull.z) ?_
    refine Ej.pull (Pull.s (Pull.s (Pull.s Pull.z))) ?_
    refine Ej.pull (Pull.s (Pull.s (Pull.s Pull.z))) ?_
    exact hcut (b29, b31, b32) _ _ _ trivial ⟨rfl, rfl, trivial⟩ rfl rfl
   refine ⟨_, rfl, rfl, ?_⟩
   refine q9 2 tS110 (LSpl.c LSpl.z) (LSet.s (LSet.s LSet.z)) ?_
   refine axn 3 ?_
   refine JA.all [5, 11] (by kernel_rfl) (by simp) ?_
   intro i hi
   simp only [List.mem_cons, List.not_mem_nil, or_false] at hi
   rcases hi with rfl | rfl
   ·refine ⟨_, rfl, rfl, ?_⟩
    refine op_makeMap rfl rfl rfl ?_
    intro b36 hb36
    refine ⟨fx0, ?_⟩
    refine q4 11 rfl (q9 3 tS112 (LSpl.s (LSpl.c LSpl.z)) (LSet.s (LSet.s (LSet.s LSet.z))) ?_)
    refine ⟨fx0, ?_⟩
    refine JA.fix fxA (fun fx37 => ?_)
    refine JA.tk 12 rfl fx37 q6 ?_
    refine JA.tk 13 rfl fx37 (q2 (off' := 2) tU114 tS112) ?_
    refine q4 14 rfl (q9 3 tS112 (LSpl.s (LSpl.s (LSpl.c LSpl.z))) (LSet.s (LSet.s (LSet.s LSet.z))) ?_)
    refine ⟨fx0, ?_⟩
    refine q8 ?_
    refine Ej.keep (Keeps.k (Keeps.k (Keeps.k (Keeps.k Keeps.n)))) ?_
    refine Ej.pull Pull.z ?_
    refine Ej.pull (Pull.s Pull.z) ?_
    refine Ej.pull (Pull.s (Pull.s (Pull.s Pull.z))) ?_
    refine Ej.pull (Pull.s (Pull.s (Pull.s Pull.z))) ?_
    exact hcut (b29, b31, b36) _ _ _ trivial ⟨rfl, rfl, trivial⟩ rfl rfl
   refine ⟨_, rfl, rfl, ?_⟩
   refine q9 2 tS112 (LSpl.s (LSpl.c LSpl.z)) (LSet.s (LSet.s LSet.z)) ?_
   refine axn 1 ?_
   refine q4 5 rfl (op_makeMap rfl rfl rfl ?_)
   intro b38 hb38
   refine ⟨fx0, ?_⟩
   refine JA.fix fxA (fun fx39 => ?_)
   refine JA.tk 12 rfl fx39 q6 ?_
   refine JA.tk 13 rfl fx39 (q2 (off' := 2) tU114 tS112) ?_
   refine q4 14 rfl (q9 3 tS112 (LSpl.s (LSpl.s (LSpl.c LSpl.z))) (LSet.s (LSet.s (LSet.s LSet.z))) ?_)
   refine ⟨fx0, ?_⟩
   refine q8 ?_
   refine Ej.keep (Keeps.k (Keeps.k (Keeps.k (Keeps.k Keeps.n)))) ?_
   refine Ej.pull Pull.z ?_
   refine Ej.pull (Pull.s Pull.z) ?_
   refine Ej.pull (Pull.s (Pull.s (Pull.s Pull.z))) ?_
   refine Ej.pull (Pull.s (Pull.s (Pull.s Pull.z))) ?_
   exact hcut (b29, b31, b38) _ _ _ trivial ⟨rfl, rfl, trivial⟩ rfl rfl
  ·refine ⟨_, rfl, rfl, ?_⟩
   refine op_makeMap rfl rfl rfl ?_
   intro b40 hb40
   refine axn 1 ?_
   refine JA.all [4, 8] (by kernel_rfl) (by simp) ?_
   intro i hi
   simp only [List.mem_cons, List.not_mem_nil, or_false] at hi
   rcases hi with rfl | rfl
   ·refine ⟨_, rfl, rfl, ?_⟩
    refine op_makeMap rfl rfl rfl ?_
    intro b41 hb41
    refine ⟨fx0, ?_⟩
    refine q4 8 rfl (q9 3 tS110 (LSpl.c LSpl.z) (LSet.s (LSet.s (LSet.s LSet.z))) ?_)
    refine ⟨fx0, ?_⟩
    refine JA.fix fxA (fun fx42 => ?_)
    refine JA.tk 9 rfl fx42 q6 ?_
    refine JA.tk 10 rfl fx42 (q2 (off' := 1) tU114 tS112) ?_
    refine q4 11 rfl (q9 3 tS112 (LSpl.s (LSpl.c LSpl.z)) (LSet.s (LSet.s (LSet.s LSet.z))) ?_)
    refine ⟨fx0, ?_⟩
    refine JA.fix fxA (fun fx43 => ?_)
    refine JA.tk 12 rfl fx43 q6 ?_
    refine JA.tk 13 rfl fx43 (q2 (off' := 2) tU114 tS112) ?_
    refine q4 14 rfl (q9 3 tS112 (LSpl.s (LSpl.s (LSpl.c LSpl.z))) (LSet.s (LSet.s (LSet.s LSet.z))) ?_)
    refine ⟨fx0, ?_⟩
    refine q8 ?_
    refine Ej.keep (Keeps.k (Keeps.k (Keeps.k (Keeps.k Keeps.n)))) ?_
    refine Ej.pull (Pull.s Pull.z) ?_
    refine Ej.pull (Pull.s Pull.z) ?_
    refine Ej.pull (Pull.s (Pull.s (Pull.s Pull.z))) ?_
    refine Ej.pull (Pull.s (Pull.s (Pull.s Pull.z))) ?_
    exact hcut (b29, b41, b40) _ _ _ trivial ⟨rfl, rfl, trivial⟩ rfl rfl
   refine ⟨_, rfl, rfl, ?_⟩
   refine q9 2 tS110 (LSpl.c LSpl.z) (LSet.s (LSet.s LSet.z)) ?_
   refine axn 1 ?_
   refine q4 4 rfl (op_makeMap rfl rfl rfl ?_)
   intro b44 hb44
   refine ⟨fx0, ?_⟩
   refine JA.fix fxA (fun fx45 => ?_)
   refine JA.tk 9 rfl fx45 q6 ?_
   refine JA.tk 10 rfl fx45 (q2 (off' := 1) tU114 tS112) ?_
   refine q4 11 rfl (q9 3 tS112 (LSpl.s (LSpl.c LSpl.z)) (LSet.s (LSet.s (LSet.s LSet.z))) ?_)
   refine ⟨fx0, ?_⟩
   refine JA.fix fxA (fun fx46 => ?_)
   refine JA.tk 12 rfl fx46 q6 ?_
   refine JA.tk 13 rfl fx46 (q2 (off' := 2) tU114 tS112) ?_
   refine q4 14 rfl (q9 3 tS112 (LSpl.s (LSpl.s (LSpl.c LSpl.z))) (LSet.s (LSet.s (LSet.s LSet.z))) ?_)
   refine ⟨fx0, ?_⟩
   refine q8 ?_
   refine Ej.keep (Keeps.k (Keeps.k (Keeps.k (Keeps.k Keeps.n)))) ?_
   refine Ej.pull (Pull.s Pull.z) ?_
   refine Ej.pull (Pull.s Pull.z) ?_
   refine Ej.pull (Pull.s (Pull.s (Pull.s Pull.z))) ?_
   refine Ej.pull (Pull.s (Pull.s (Pull.s Pull.z))) ?_
   exact hcut (b29, b44, b40) _ _ _ trivial ⟨rfl, rfl, trivial⟩ rfl rfl
  refine ⟨_, rfl, rfl, ?_⟩
  refine q9 1 tS110 (LSpl.c LSpl.z) (LSet.s LSet.z) ?_
  refine axn 1 ?_
  refine JA.all [4, 5] (by kernel_rfl) (by simp) ?_
  intro i hi
  simp only [List.mem_cons, List.not_mem_nil, or_false] at hi
  rcases hi with rfl | rfl
  ·refine ⟨_, rfl, rfl, ?_⟩
   refine op_makeMap rfl rfl rfl ?_
   intro b47 hb47
   refine axn 3 ?_
   refine JA.all [5, 11] (by kernel_rfl) (by simp) ?_
   intro i hi
   simp only [List.mem_cons, List.not_mem_nil, or_false] at hi
   rcases hi with rfl | rfl
   ·refine ⟨_, rfl, rfl, ?_⟩
    refine op_makeMap rfl rfl rfl ?_
    intro b49 hb49
    refine ⟨fx0, ?_⟩
    refine q4 11 rfl (q9 3 tS112 (LSpl.s (LSpl.c LSpl.z)) (LSet.s (LSet.s (LSet.s LSet.z))) ?_)
    refine ⟨fx0, ?_⟩
    refine JA.fix fxA (fun fx50 => ?_)
    refine JA.tk 12 rfl fx50 q6 ?_
    refine JA.tk 13 rfl fx50 (q2 (off' := 2) tU114 tS112) ?_
    refine q4 14 rfl (q9 3 tS112 (LSpl.s (LSpl.s (LSpl.c LSpl.z))) (LSet.s (LSet.s (LSet.s LSet.z))) ?_)
    refine ⟨fx0, ?_⟩
    refine q8 ?_
    refine Ej.keep (Keeps.k (Keeps.k (Keeps.k (Keeps.k Keeps.n)))) ?_
    refine Ej.pull Pull.z ?_
    refine Ej.pull (Pull.s Pull.z) ?_
    refine Ej.pull (Pull.s (Pull.s (Pull.s Pull.z))) ?_
    refine Ej.pull (Pull.s (Pull.s (Pull.s Pull.z))) ?_
    exact hcut (b29, b47, b49) _ _ _ trivial ⟨rfl, rfl, trivial⟩ rfl rfl
   refine ⟨_, rfl, rfl, ?_⟩
   refine q9 2 tS112 (LSpl.s (LSpl.c LSpl.z)) (LSet.s (LSet.s LSet.z)) ?_
   refine axn 1 ?_
   refine q4 5 rfl (op_makeMap rfl rfl rfl ?_)
   intro b51 hb51
   refine ⟨fx0, ?_⟩
   refine JA.fix fxA (fun fx52 => ?_)
   refine JA.tk 12 rfl fx52 q6 ?_
   refine JA.tk 13 rfl fx52 (q2 (off' := 2) tU114 tS112) ?_
   refine q4 14 rfl (q9 3 tS112 (LSpl.s (LSpl.s (LSpl.c LSpl.z))) (LSet.s (LSet.s (LSet.s LSet.z))) ?_)
   refine ⟨fx0, ?_⟩
   refine q8 ?_
   refine Ej.keep (Keeps.k (Keeps.k (Keeps.k (Keeps.k Keeps.n)))) ?_
   refine Ej.pull Pull.z ?_
   refine Ej.pull (Pull.s Pull.z) ?_
   refine Ej.pull (Pull.s (Pull.s (Pull.s Pull.z))) ?_
   refine Ej.pull (Pull.s (Pull.s (Pull.s Pull.z))) ?_
   exact hcut (b29, b47, b51) _ _ _ trivial ⟨rfl, rfl, trivial⟩ rfl rfl
  refine ⟨_, rfl, rfl, ?_⟩
  refine op_makeMap rfl rfl rfl ?_
  intro b53 hb53
  refine axn 1 ?_
  refine q4 4 rfl (op_makeMap rfl rfl rfl ?_)
  intro b54 hb54
  refine ⟨fx0, ?_⟩
  refine JA.fix fxA (fun fx55 => ?_)
  refine JA.tk 9 rfl fx55 q6 ?_
  refine JA.tk 10 rfl fx55 (q2 (off' := 1) tU114 tS112) ?_
  refine q4 11 rfl (q9 3 tS112 (LSpl.s (LSpl.c LSpl.z)) (LSet.s (LSet.s (LSet.s LSet.z))) ?_)
  refine ⟨fx0, ?_⟩
  refine JA.fix fxA (fun fx56 => ?_)
  refine JA.tk 12 rfl fx56 q6 ?_
  refine JA.tk 13 rfl fx56 (q2 (off' := 2) tU114 tS112) ?_
  refine q4 14 rfl (q9 3 tS112 (LSpl.s (LSpl.s (LSpl.c LSpl.z))) (LSet.s (LSet.s (LSet.s LSet.z))) ?_)
  refine ⟨fx0, ?_⟩
  refine q8 ?_
  refine Ej.keep (Keeps.k (Keeps.k (Keeps.k (Keeps.k Keeps.n)))) ?_
  refine Ej.pull (Pull.s Pull.z) ?_
  refine Ej.pull (Pull.s Pull.z) ?_
  refine Ej.pull (Pull.s (Pull.s (Pull.s Pull.z))) ?_
  refine Ej.pull (Pull.s (Pull.s (Pull.s Pull.z))) ?_
  exact hcut (b29, b54, b53) _ _ _ trivial ⟨rfl, rfl, trivial⟩ rfl rfl
 ·refine ⟨_, rfl, rfl, ?_⟩
  refine op_makeMap rfl rfl rfl ?_
  intro b57 hb57
  refine axn 1 ?_
  refine JA.all [3, 5] (by kernel_rfl) (by simp) ?_
  intro i hi
  simp only [List.mem_cons, List.not_mem_nil, or_false] at hi
  rcases hi with rfl | rfl
  ·refine ⟨_, rfl, rfl, ?_⟩
   refine op_makeMap rfl rfl rfl ?_
   intro b58 hb58
   refine axn 3 ?_
   refine JA.all [5, 8] (by kernel_rfl) (by simp) ?_
   intro i hi
   simp only [List.mem_cons, List.not_mem_nil, or_false] at hi
   rcases hi with rfl | rfl
   ·refine ⟨_, rfl, rfl, ?_⟩
    refine op_makeMap rfl rfl rfl ?_
    intro b60 hb60
    refine ⟨fx0, ?_⟩
    refine q4 8 rfl (q9 3 tS110 (LSpl.c LSpl.z) (LSet.s (LSet.s (LSet.s LSet.z))) ?_)
    refine ⟨fx0, ?_⟩
    refine JA.fix fxA (fun fx61 => ?_)
    refine JA.tk 9 rfl fx61 q6 ?_
    refine JA.tk 10 rfl fx61 (q2 (off' := 1) tU114 tS112) ?_
    refine q4 11 rfl (q9 3 tS112 (LSpl.s (LSpl.c LSpl.z)) (LSet.s (LSet.s (LSet.s LSet.z))) ?_)
    refine ⟨fx0, ?_⟩
    refine JA.fix fxA (fun fx62 => ?_)
    refine JA.tk 12 rfl fx62 q6 ?_
    refine JA.tk 13 rfl fx62 (q2 (off' := 2) tU114 tS112) ?_
    refine q4 14 rfl (q9 3 tS112 (LSpl.s (LSpl.s (LSpl.c LSpl.z))) (LSet.s (LSet.s (LSet.s LSet.z))) ?_)
    refine ⟨fx0, ?_⟩
    refine q8 ?_
    refine Ej.keep (Keeps.k (Keeps.k (Keeps.k (Keeps.k Keeps.n)))) ?_
    refine Ej.pull Pull.z ?_
    refine Ej.pull (Pull.s (Pull.s Pull.z)) ?_
    refine Ej.pull (Pull.s (Pull.s (Pull.s Pull.z))) ?_
    refine Ej.pull (Pull.s (Pull.s (Pull.s Pull.z))) ?_
    exact hcut (b58, b57, b60) _ _ _ trivial ⟨rfl, rfl, trivial⟩ rfl rfl
   refine ⟨_, rfl, rfl, ?_⟩
   refine q9 2 tS110 (LSpl.c LSpl.z) (LSet.s (LSet.s LSet.z)) ?_
   refine axn 3 ?_
   refine JA.all [5, 11] (by kernel_rfl) (by simp) ?_
   intro i hi
   simp only [List.mem_cons, List.not_mem_nil, or_false] at hi
   rcases hi with rfl | rfl
   ·refine ⟨_, rfl, rfl, ?_⟩
    refine op_makeMap rfl rfl rfl ?_
    intro b64 hb64
    refine ⟨fx0, ?_⟩
    refine q4 11 rfl (q9 3 tS112 (LSpl.s (LSpl.c LSpl.z)) (LSet.s (LSet.s (LSet.s LSet.z))) ?_)
    refine ⟨fx0, ?_⟩
    refine JA.fix fxA (fun fx65 => ?_)
    refine JA.tk 12 rfl fx65 q6 ?_
    refine JA.tk 13 rfl fx65 (q2 (off' := 2) tU114 tS112) ?_
    refine q4 14 rfl (q9 3 tS112 (LSpl.s (LSpl.s (LSpl.c LSpl.z))) (LSet.s (LSet.s (LSet.s LSet.z))) ?_)
    refine ⟨fx0, ?_⟩
    refine q8 ?_
    refine Ej.keep (Keeps.k (Keeps.k (Keeps.k (Keeps.k Keeps.n)))) ?_
    refine Ej.pull Pull.z ?_
    refine Ej.pull (Pull.s (Pull.s Pull.z)) ?_
    refine Ej.pull (Pull.s (Pull.s (Pull.s Pull.z))) ?_
    refine Ej.pull (Pull.s (Pull.s (Pull.s Pull.z))) ?_
    exact hcut (b58, b57, b64) _ _ _ trivial ⟨rfl, rfl, trivial⟩ rfl rfl
   refine ⟨_, rfl, rfl, ?_⟩
   refine q9 2 tS112 (LSpl.s (LSpl.c LSpl.z)) (LSet.s (LSet.s LSet.z)) ?_
   refine axn 1 ?_
   refine q4 5 rfl (op_makeMap rfl rfl rfl ?_)
   intro b66 hb66
   refine ⟨fx0, ?_⟩
   refine JA.fix fxA (fun fx67 => ?_)
   refine JA.tk 12 rfl fx67 q6 ?_
   refine JA.tk 13 rfl fx67 (q2 (off' := 2) tU114 tS112) ?_
   refine q4 14 rfl (q9 3 tS112 (LSpl.s (LSpl.s (LSpl.c LSpl.z))) (LSet.s (LSet.s (LSet.s LSet.z))) ?_)
   refine ⟨fx0, ?_⟩
   refine q8 ?_
   refine Ej.keep (Keeps.k (Keeps.k (Keeps.k (Keeps.k Keeps.n)))) ?_
   refine Ej.pull Pull.z ?_
   refine Ej.pull (Pull.s (Pull.s Pull.z)) ?_
   refine Ej.pull (Pull.s (Pull.s (Pull.s Pull.z))) ?_
   refine Ej.pull (Pull.s (Pull.s (Pull.s Pull.z))) ?_
   exact hcut (b58, b57, b66) _ _ _ trivial ⟨rfl, rfl, trivial⟩ rfl rfl
  refine ⟨_, rfl, rfl, ?_⟩
  refine op_makeMap rfl rfl rfl ?_
  intro b68 hb68
  refine axn 1 ?_
  refine q4 3 rfl (op_makeMap rfl rfl rfl ?_)
  intro b69 hb69
  refine ⟨fx0, ?_⟩
  refine JA.fix fxA (fun fx70 => ?_)
  refine JA.tk 6 rfl fx70 q6 ?_
  refine JA.tk 7 rfl fx70 (q2 (off' := 0) tU114 tS110) ?_
  refine q4 8 rfl (q9 3 tS110 (LSpl.c LSpl.z) (LSet.s (LSet.s (LSet.s LSet.z))) ?_)
  refine ⟨fx0, ?_⟩
  refine JA.fix fxA (fun fx71 => ?_)
  refine JA.tk 9 rfl fx71 q6 ?_
  refine JA.tk 10 rfl fx71 (q2 (off' := 1) tU114 tS112) ?_
  refine q4 11 rfl (q9 3 tS112 (LSpl.s (LSpl.c LSpl.z)) (LSet.s (LSet.s (LSet.s LSet.z))) ?_)
  refine ⟨fx0, ?_⟩
  refine JA.fix fxA (fun fx72 => ?_)
  refine JA.tk 12 rfl fx72 q6 ?_
  refine JA.tk 13 rfl fx72 (q2 (off' := 2) tU114 tS112) ?_
  refine q4 14 rfl (q9 3 tS112 (LSpl.s (LSpl.s (LSpl.c LSpl.z))) (LSet.s (LSet.s (LSet.s LSet.z))) ?_)
  refine ⟨fx0, ?_⟩
  refine q8 ?_
  refine Ej.keep (Keeps.k (Keeps.k (Keeps.k (Keeps.k Keeps.n)))) ?_
  refine Ej.pull (Pull.s Pull.z) ?_
  refine Ej.pull (Pull.s (Pull.s Pull.z)) ?_
  refine Ej.pull (Pull.s (Pull.s (Pull.s Pull.z))) ?_
  refine Ej.pull (Pull.s (Pull.s (Pull.s Pull.z))) ?_
  exact hcut (b69, b57, b68) _ _ _ trivial ⟨rfl, rfl, trivial⟩ rfl rfl
 refine ⟨_, rfl, rfl, ?_⟩
 refine op_makeMap rfl rfl rfl ?_
 intro b73 hb73
 refine axn 1 ?_
 refine JA.all [3, 4] (by kernel_rfl) (by simp) ?_
 intro i hi
 simp only [List.mem_cons, List.not_mem_nil, or_false] at hi
 rcases hi with rfl | rfl
 ·refine ⟨_, rfl, rfl, ?_⟩
  refine op_makeMap rfl rfl rfl ?_
  intro b74 hb74
  refine axn 3 ?_
  refine JA.all [4, 8] (by kernel_rfl) (by simp) ?_
  intro i hi
  simp only [List.mem_cons, List.not_mem_nil, or_false] at hi
  rcases hi with rfl | rfl
  ·refine ⟨_, rfl, rfl, ?_⟩
   refine op_makeMap rfl rfl rfl ?_
   intro b76 hb76
   refine ⟨fx0, ?_⟩
   refine q4 8 rfl (q9 3 tS110 (LSpl.c LSpl.z) (LSet.s (LSet.s (LSet.s LSet.z))) ?_)
   refine ⟨fx0, ?_⟩
   refine JA.fix fxA (fun fx77 => ?_)
   refine JA.tk 9 rfl fx77 q6 ?_
   refine JA.tk 10 rfl fx77 (q2 (off' := 1) tU114 tS112) ?_
   refine q4 11 rfl (q9 3 tS112 (LSpl.s (LSpl.c LSpl.z)) (LSet.s (LSet.s (LSet.s LSet.z))) ?_)
   refine ⟨fx0, ?_⟩
   refine JA.fix fxA (fun fx78 => ?_)
   refine JA.tk 12 rfl fx78 q6 ?_
   refine JA.tk 13 rfl fx78 (q2 (off' := 2) tU114 tS112) ?_
   refine q4 14 rfl (q9 3 tS112 (LSpl.s (LSpl.s (LSpl.c LSpl.z))) (LSet.s (LSet.s (LSet.s LSet.z))) ?_)
   refine ⟨fx0, ?_⟩
   refine q8 ?_
   refine Ej.keep (Keeps.k (Keeps.k (Keeps.k (Keeps.k Keeps.n)))) ?_
   refine Ej.pull (Pull.s (Pull.s Pull.z)) ?_
   refine Ej.pull (Pull.s Pull.z) ?_
   refine Ej.pull (Pull.s (Pull.s (Pull.s Pull.z))) ?_
   refine Ej.pull (Pull.s (Pull.s (Pull.s Pull.z))) ?_
   exact hcut (b74, b76, b73) _ _ _ trivial ⟨rfl, rfl, trivial⟩ rfl rfl
  refine ⟨_, rfl, rfl, ?_⟩
  refine q9 2 tS110 (LSpl.c LSpl.z) (LSet.s (LSet.s LSet.z)) ?_
  refine axn 1 ?_
  refine q4 4 rfl (op_makeMap rfl rfl rfl ?_)
  intro b79 hb79
  refine ⟨fx0, ?_⟩
  refine JA.fix fxA (fun fx80 => ?_)
  refine JA.tk 9 rfl fx80 q6 ?_
  refine JA.tk 10 rfl fx80 (q2 (off' := 1) tU114 tS112) ?_
  refine q4 11 rfl (q9 3 tS112 (LSpl.s (LSpl.c LSpl.z)) (LSet.s (LSet.s (LSet.s LSet.z))) ?_)
  refine ⟨fx0, ?_⟩
  refine JA.fix fxA (fun fx81 => ?_)
  refine JA.tk 12 rfl fx81 q6 ?_
  refine JA.tk 13 rfl fx81 (q2 (off' := 2) tU114 tS112) ?_
  refine q4 14 rfl (q9 3 tS112 (LSpl.s (LSpl.s (LSpl.c LSpl.z))) (LSet.s (LSet.s (LSet.s LSet.z))) ?_)
  refine ⟨fx0, ?_⟩
  refine q8 ?_
  refine Ej.keep (Keeps.k (Keeps.k (Keeps.k (Keeps.k Keeps.n)))) ?_
  refine Ej.pull (Pull.s (Pull.s Pull.z)) ?_
  refine Ej.pull (Pull.s Pull.z) ?_
  refine Ej.pull (Pull.s (Pull.s (Pull.s Pull.z))) ?_
  refine Ej.pull (Pull.s (Pull.s (Pull.s Pull.z))) ?_
  exact hcut (b74, b79, b73) _ _ _ trivial ⟨rfl, rfl, trivial⟩ rfl rfl
 refine ⟨_, rfl, rfl, ?_⟩
 refine op_makeMap rfl rfl rfl ?_
 intro b82 hb82
 refine axn 1 ?_
 refine q4 3 rfl (op_makeMap rfl rfl rfl ?_)
 intro b83 hb83
 refine ⟨fx0, ?_⟩
 refine JA.fix fxA (fun fx84 => ?_)
 refine JA.tk 6 rfl fx84 q6 ?_
 refine JA.tk 7 rfl fx84 (q2 (off' := 0) tU114 tS110) ?_
 refine q4 8 rfl (q9 3 tS110 (LSpl.c LSpl.z) (LSet.s (LSet.s (LSet.s LSet.z))) ?_)
 refine ⟨fx0, ?_⟩
 refine JA.fix fxA (fun fx85 => ?_)
 refine JA.tk 9 rfl fx85 q6 ?_
 refine JA.tk 10 rfl fx85 (q2 (off' := 1) tU114 tS112) ?_
 refine q4 11 rfl (q9 3 tS112 (LSpl.s (LSpl.c LSpl.z)) (LSet.s (LSet.s (LSet.s LSet.z))) ?_)
 refine ⟨fx0, ?_⟩
 refine JA.fix fxA (fun fx86 => ?_)
 refine JA.tk 12 rfl fx86 q6 ?_
 refine JA.tk 13 rfl fx86 (q2 (off' := 2) tU114 tS112) ?_
 refine q4 14 rfl (q9 3 tS112 (LSpl.s (LSpl.s (LSpl.c LSpl.z))) (LSet.s (LSet.s (LSet.s LSet.z))) ?_)
 refine ⟨fx0, ?_⟩
 refine q8 ?_
 refine Ej.keep (Keeps.k (Keeps.k (Keeps.k (Keeps.k Keeps.n)))) ?_
 refine Ej.pull (Pull.s (Pull.s Pull.z)) ?_
 refine Ej.pull (Pull.s (Pull.s Pull.z)) ?_
 refine Ej.pull (Pull.s (Pull.s (Pull.s Pull.z))) ?_
 refine Ej.pull (Pull.s (Pull.s (Pull.s Pull.z))) ?_
 exact hcut (b83, b82, b73) _ _ _ trivial ⟨rfl, rfl, trivial⟩ rfl rfl
end Go.Proofs.YtekmeaoblpfnpaaGreatDoor
end
namespace Go.Sx
open Go
@[reducible] def yesDR : DR := ⟨true⟩
attribute [local instance] yesDR
theorem Ctr.same {P : Program} {f : FuncId} {args : List Value} {I : Heap} {H : HL} {v : Value} (he : Enters P f) (h : ∀ w, Ready I H w → Calls P f args.toArray w fun e w' => e = .returned v ∧ w' = w) : Ctr P f args I H (fun e I' H' => e = .returned v ∧ I' = I ∧ H' = H) :=
  ⟨he, fun w hw => (h w hw).mono fun _e w' ⟨h1, h2⟩ => ⟨I, H, by subst h2; exact St.start w' I H hw.1 hw.2.1 hw.2.2.1 hw.2.2.2, h1, rfl, rfl⟩⟩
theorem Ctr.grows {P : Program} {f : FuncId} {args : List Value} {v : Value} {post : Ending → Heap → HL → Prop} (h : Ctr P f args (fun _ => none) [] post) (hp : ∀ e I' H', post e I' H' → e = .returned v) (w : World) : Calls P f args.toArray w fun e w' => e = .returned v ∧ ∃ q os', w' = Sort.grow (w.drewN q) os' :=
  have hr : Ready (fun _ => none) [] w := by
    unfold Ready
    exact ⟨(fun b o hb => by cases hb), (fun p hp => by cases hp), List.Pairwise.nil, (fun p hp => by cases hp)⟩
  (h.2 w hr).mono fun e w' ⟨I', H', hs, hq⟩ => ⟨hp e I' H' hq, w'.drawn - w.drawn, w'.heap.extract w.heap.size w'.heap.size, by
    have hh : w'.heap = w.heap ++ w'.heap.extract w.heap.size w'.heap.size := by
      apply Array.ext_getElem?
      intro i
      rw [Array.getElem?_append]
      split
      · rename_i hi; exact hs.frm i hi (by simp)
      rename_i hi
      rw [Array.getElem?_extract]
      split
      · congr 1; omega
      rw [Array.getElem?_eq_none (by omega)]
    have h1 := hs.os
    have h2 := hs.tape
    have h3 := hs.output
    have h4 := hs.drw rfl
    have h5 : w.drawn + (w'.drawn - w.drawn) = w'.drawn := by omega
    unfold Sort.grow World.drewN
    rw [h5]
    cases w'
    cases w
    simp only at h1 h2 h3 hh ⊢
    subst h1 h2 h3
    rw [← hh]⟩
end Go.Sx
namespace Go.Proofs.YtekmeaoblpfnpaaGreatDoor
open _root_.Go.Proofs.Tryz
open Go Go.Sx
attribute [local instance] yesDR
def orR (r s : Int) : Int := if r ≠ 0 then r else s
section
open Go.Shelf Go.RowKit Go.Lib
theorem or2_ok (b : Nat) (r0 r1 : Int) (w : World) (h0 : w.cell? ⟨b, 0, none⟩ = some (.int .i64 r0)) (h1 : w.cell? ⟨b, 1, none⟩ = some (.int .i64 r1)) :
    Calls Tryz.prog 57 #[.slice (some ⟨b, 0, none⟩) 2 2] w fun e w' => e = .returned (.int .i64 (orR r0 r1)) ∧ w' = w := by
  go_enter func57, Tryz.ntmps57
  go_wp2
  refine wp_loop_rounds 3 ?_
  rw [rounds_succ]
  go_wp2
  · have hr : (r0 != 0) = true := by assumption
    have hc : orR r0 r1 = r0 := if_pos (by simpa using hr)
    go_ret
    exact ⟨by rw [hc]; rfl, rfl⟩
  have hr : (r0 != 0) = false := by assumption
  have hc : orR r0 r1 = r1 := if_neg (by simpa using hr)
  rw [rounds_succ]
  go_wp2
  · go_ret
    exact ⟨by rw [hc]; rfl, rfl⟩
  have hs : (r1 != 0) = false := by assumption
  have hs1 : r1 = 0 := by simpa using hs
  rw [rounds_succ]
  go_wp2
  go_ret
  exact ⟨by rw [hc, hs1]; rfl, rfl⟩
end
def cmpS (a b : List UInt8) : Int := if a < b then -1 else if b < a then 1 else 0
theorem str_gt {a b : List UInt8} (h : ¬ a < b) {t : Bool} (ht : (!(decide (a < b) || a == b)) = t) : if t then b < a else ¬ b < a := by
  rw [decide_eq_false h, Bool.false_or] at ht
  subst ht
  by_cases he : a = b
  · subst he; simp
  have hb : (a == b) = false := by simpa using he
  rw [hb]
  simp only [Bool.not_false, if_true]
  exact Std.lt_of_le_of_ne (Std.not_lt.1 h) (Ne.symm he)
theorem cmpOr_ok (b : Nat) (r0 r1 : Int) (I : Heap) : Ctr Tryz.prog 57 [.slice (some ⟨b, 0, none⟩) 2 2] I [(b, cel 3 [i64 r0, i64 r1])] (fun e I' H' => e = .returned (i64 (orR r0 r1)) ∧ I' = I ∧ H' = [(b, cel 3 [i64 r0, i64 r1])]) :=
  Ctr.same ⟨_, func57, by decide, rfl⟩ fun w hw => by
    have hb := hw.2.1 _ (.head _)
    refine or2_ok b r0 r1 w ?_ ?_ <;> simp [World.cell?, hb, cel]
theorem ceq_ok (x y : Int) (I : Heap) : Ctr Tryz.prog 59 [i64 x, i64 y] I [] (fun e I' H' => e = .returned (i64 (Lib.compareInt x y)) ∧ I' = I ∧ H' = []) :=
  Ctr.same ⟨_, func59, by decide, rfl⟩ fun w _ => Tryz.cmp_Compare_int x y w
theorem compareD_ok (x0 x1 y0 y1 : Int) (I : Heap) : Ctr Tryz.prog 78 [.agg #[i64 x0, i64 x1], .agg #[i64 y0, i64 y1]] I [] (fun e _ H' => e = .returned (i64 (orR (Lib.compareInt x0 y0) (Lib.compareInt x1 y1))) ∧ H' = []) := by
 refine Ctr.ob func78 ?_
 intro w0 hw0
 refine Cj.sr (J.op rfl (q15 ?_))
 intro b1 hb1
 refine J.op rfl (q15 ?_)
 intro b2 hb2
 refine J.z q1 ?_
 refine J.nss (Cj.drawSel [0, 1] [] 13 (by kernel_rfl) ?_)
 refine JA.fix ⟨(HSub.c 0 rfl (HSub.c 1 rfl HSub.n)), CSub.n, (Le.refl _)⟩ (fun fx3 => ?_)
 refine JA.tk 0 rfl fx3 (q2 (off' := 0) underlying54 sizeOf3) ?_
 refine JA.tk 1 rfl fx3 (q3 isAgg3 (Blk.atC 1 rfl)) ?_
 refine JA.tk 2 rfl fx3 (q2 (off' := 0) underlying54 sizeOf3) ?_
 refine JA.tk 3 rfl fx3 (q3 isAgg3 (Blk.atC 0 rfl)) ?_
 refine JA.tk 5 rfl fx3 (q2 (off' := 1) underlying54 sizeOf3) ?_
 refine JA.tk 6 rfl fx3 (q3 isAgg3 (Blk.atC 1 rfl)) ?_
 refine JA.tk 7 rfl fx3 (q2 (off' := 1) underlying54 sizeOf3) ?_
 refine JA.tk 8 rfl fx3 (q3 isAgg3 (Blk.atC 0 rfl)) ?_
 refine q4 4 rfl (op_call (H1 := []) rfl rfl rfl rfl rfl (ceq_ok x0 y0 _) ?_ (fun _ _ _ _ h => by cases h.1) (fun _ _ h => by cases h.1))
 intro v4 I5 H6 hle7 hp8
 obtain ⟨h, rfl, rfl⟩ := hp8; cases h
 refine ⟨⟨(Le.trans (Le.refl _) hle7), (HSub.c 0 rfl (HSub.c 1 rfl HSub.n)), CSub.n⟩, ?_⟩
 refine q4 9 rfl (op_call (H1 := []) rfl rfl rfl rfl rfl (ceq_ok x1 y1 _) ?_ (fun _ _ _ _ h => by cases h.1) (fun _ _ h => by cases h.1))
 intro v9 I10 H11 hle12 hp13
 obtain ⟨h, rfl, rfl⟩ := hp13; cases h
 refine ⟨⟨(Le.trans (Le.trans (Le.refl _) hle7) hle12), (HSub.c 0 rfl (HSub.c 1 rfl HSub.n)), CSub.n⟩, ?_⟩
 refine q4 10 rfl (q17 underlying23 sizeOf3 zeroValue3 (LCat.one rfl (LCat.one rfl LCat.none)) ?_)
 intro b14 hb14
 refine ⟨⟨(Le.trans (Le.trans (Le.refl _) hle7) hle12), (HSub.c 1 rfl (HSub.c 2 rfl HSub.n)), CSub.n⟩, ?_⟩
 refine JA.pull Pull.z ?_
 refine q4 11 rfl (op_call (H1 := [_]) rfl rfl rfl rfl rfl (cmpOr_ok _ (Lib.compareInt x0 y0) (Lib.compareInt x1 y1) _) ?_ (fun _ _ _ _ h => by cases h.1) (fun _ _ h => by cases h.1))
 intro v15 I16 H17 hle18 hp19
 obtain ⟨h, rfl, rfl⟩ := hp19; cases h
 refine ⟨⟨(Le.trans (Le.trans (Le.trans (Le.refl _) hle7) hle12) hle18), (HSub.c 1 rfl (HSub.c 2 rfl HSub.n)), CSub.n⟩, ?_⟩
 refine JA.fix ⟨(HSub.c 1 rfl (HSub.c 2 rfl HSub.n)), CSub.n, (Le.trans (Le.trans (Le.trans (Le.refl _) hle7) hle12) hle18)⟩ (fun fx20 => ?_)
 refine JA.tk 12 rfl fx20 q1 ?_
 refine q8 ?_
 refine Ej.seq (Cj.ret (Ej.bare ?_))
 refine q5 ?_
 exact ⟨rfl, rfl⟩
theorem isNaNS_ok (s : List UInt8) (I : Heap) : Ctr Tryz.prog 263 [str s] I [] (fun e I' H' => e = .returned (.bool false) ∧ I' = I ∧ H' = []) := by
 refine Ctr.ob func263 ?_
 intro w0 hw0
 refine Cj.sr (J.z q1 ?_)
 refine J.nssr (J.z q0 ?_)
 refine J.z q0 ?_
 refine J.z (yl_neqStr rfl rfl rfl) ?_
 refine J.z q1 ?_
 refine J.ns (Cj.ret (q5 ?_))
 exact ⟨by rw [bne_self_eq_false], rfl, rfl⟩
theorem compareS_ok (a b : List UInt8) (I : Heap) : Ctr Tryz.prog 221 [str a, str b] I [] (fun e I' H' => e = .returned (i64 (cmpS a b)) ∧ I' = I ∧ H' = []) := by
 refine Ctr.ob func221 ?_
 intro w0 hw0
 refine Cj.sr (J.z q1 ?_)
 refine J.nssr (J.z q0 ?_)
 refine J.op rfl (op_call (H1 := []) rfl rfl rfl rfl rfl (isNaNS_ok a _) ?_ (fun _ _ _ _ h => by cases h.1) (fun _ _ h => by cases h.1))
 intro v1 I2 H3 hle4 hp5
 obtain ⟨h, rfl, rfl⟩ := hp5; cases h
 refine J.z q1 ?_
 refine J.nssr (J.z q0 ?_)
 refine J.op rfl (op_call (H1 := []) rfl rfl rfl rfl rfl (isNaNS_ok b _) ?_ (fun _ _ _ _ h => by cases h.1) (fun _ _ h => by cases h.1))
 intro v6 I7 H8 hle9 hp10
 obtain ⟨h, rfl, rfl⟩ := hp10; cases h
 refine J.z q1 ?_
 refine J.nsss (Cj.region (J.z q0 ?_))
 refine J.c0 (fun hc11 => ?_)
 refine Cj.skip (Ej.seq (Cj.seq (Cj.sr (J.z q0 ?_))))
 refine J.c0 (fun hc12 => ?_)
 refine Cj.skip (Ej.seq (Cj.seq (Cj.sr (J.z q0 ?_))))
 refine J.z q0 ?_
 refine J.z (yl_lssStr rfl rfl rfl) ?_
 refine J.cd (fun hc13 => ?_) (fun hc13 => ?_)
 ·have hc16p := of_decide_eq_true hc13
  refine Cj.sr (J.z q1 ?_)
  refine J.ns (Cj.ret (Ej.seqRet (q5 ?_)))
  rw [cmpS, if_pos hc16p]
  exact ⟨rfl, rfl, rfl⟩
 have hc16p := of_decide_eq_false hc13
 refine Cj.skip (Ej.seq (Cj.seq (Cj.sr (J.z q0 ?_))))
 refine J.z q0 ?_
 refine J.z (yl_gtrStr rfl rfl rfl) ?_
 refine J.cd (fun hc14 => ?_) (fun hc14 => ?_)
 ·refine Cj.sr (J.z q1 ?_)
  refine J.ns (Cj.ret (Ej.seqRet (q5 ?_)))
  rw [cmpS, if_neg hc16p, if_pos (by have h := str_gt hc16p hc14; simpa using h)]
  exact ⟨rfl, rfl, rfl⟩
 refine Cj.skip (Ej.seq (Cj.sr (J.z q1 ?_)))
 refine J.ns (Cj.ret (q5 ?_))
 rw [cmpS, if_neg hc16p, if_neg (by have h := str_gt hc16p hc14; simpa using h)]
 exact ⟨rfl, rfl, rfl⟩
theorem scan1D_ok (a b : List UInt8) (n m : Int) (I : Heap) : Ctr Tryz.prog 220 [.agg #[str a, i64 n], .agg #[str b, i64 m]] I [] (fun e _ H' => e = .returned (i64 (cmpS a b)) ∧ H' = []) := by
 refine Ctr.ob func220 ?_
 intro w0 hw0
 refine Cj.sr (J.op rfl (q15 ?_))
 intro b1 hb1
 refine J.op rfl (q15 ?_)
 intro b2 hb2
 refine J.z q1 ?_
 refine J.nssr (J.z (q2 (off' := 0) underlying268 sizeOf9) ?_)
 refine J.z (q3 isAgg9 (Blk.at 1 rfl)) ?_
 refine J.z (q2 (off' := 0) underlying268 sizeOf9) ?_
 refine J.z (q3 isAgg9 (Blk.at 0 rfl)) ?_
 refine J.op rfl (op_call (H1 := []) rfl rfl rfl rfl rfl (compareS_ok a b _) ?_ (fun _ _ _ _ h => by cases h.1) (fun _ _ h => by cases h.1))
 intro v3 I4 H5 hle6 hp7
 obtain ⟨h, rfl, rfl⟩ := hp7; cases h
 refine J.z q1 ?_
 refine J.ns (Cj.ret (Ej.bare ?_))
 refine q5 ?_
 exact ⟨rfl, rfl⟩
theorem compareR_ok (x0 x1 y0 y1 : Int) (w : World) : Calls Tryz.prog 78 #[.agg #[i64 x0, i64 x1], .agg #[i64 y0, i64 y1]] w fun e w' => e = .returned (i64 (orR (Lib.compareInt x0 y0) (Lib.compareInt x1 y1))) ∧ ∃ q os', w' = Sort.grow (w.drewN q) os' :=
  Ctr.grows (compareD_ok x0 x1 y0 y1 _) (fun _ _ _ h => h.1) w
theorem scan1_ok (a b : List UInt8) (n m : Int) (w : World) : Calls Tryz.prog 220 #[.agg #[str a, i64 n], .agg #[str b, i64 m]] w fun e w' => e = .returned (i64 (cmpS a b)) ∧ ∃ q os', w' = Sort.grow (w.drewN q) os' :=
  Ctr.grows (scan1D_ok a b n m _) (fun _ _ _ h => h.1) w
end Go.Proofs.YtekmeaoblpfnpaaGreatDoor
namespace Go.Proofs
open _root_.Go.Proofs.Tryz
open Go.Shelf
def Tryz.sortF_ren : Go.Shelf.Ren := ⟨fun | 6 => 77 | 15 => 108 | 14 => 134 | 28 => 170 | 29 => 171 | 20 => 185 | 21 => 186 | 22 => 187 | 23 => 188 | 24 => 189 | 25 => 190 | 26 => 191 | 27 => 192 | 46 => 235 | 47 => 224 | 48 => 225 | 49 => 236 | 50 => 237 | 57 => 267 | n => n, fun | 22 => 36 | 24 => 54 | 25 => 149 | 3 => 3 | 39 => 188 | 0 => 0 | 53 => 238 | 55 => 240 | 4 => 4 | 46 => 232 | 45 => 231 | 50 => 168 | 5 => 5 | 9 => 9 | 66 => 272 | 70 => 276 | 76 => 324 | 77 => 325 | n => n, fun | n => n⟩
theorem Tryz.sortF : Go.Proofs.SlLaysF0.n6 Tryz.prog Tryz.sortF_ren := {
  mixed := by kernel_rfl
  f6 := ⟨Tryz.f77.name, by decide, func77.trans (congrArg some (by kernel_rfl))⟩
  f14 := ⟨Tryz.f134.name, by decide, func134.trans (congrArg some (by kernel_rfl))⟩
  f15 := func108.trans (congrArg some (by kernel_rfl))
  f20 := ⟨Tryz.f185.name, by decide, func185.trans (congrArg some (by kernel_rfl))⟩
  f21 := ⟨Tryz.f186.name, by decide, func186.trans (congrArg some (by kernel_rfl))⟩
  f22 := ⟨Tryz.f187.name, by decide, func187.trans (congrArg some (by kernel_rfl))⟩
  f23 := ⟨Tryz.f188.name, by decide, func188.trans (congrArg some (by kernel_rfl))⟩
  f24 := ⟨Tryz.f189.name, by decide, func189.trans (congrArg some (by kernel_rfl))⟩
  f25 := ⟨Tryz.f190.name, by decide, func190.trans (congrArg some (by kernel_rfl))⟩
  f26 := ⟨Tryz.f191.name, by decide, func191.trans (congrArg some (by kernel_rfl))⟩
  f27 := ⟨Tryz.f192.name, by decide, func192.trans (congrArg some (by kernel_rfl))⟩
  f28 := func170.trans (congrArg some (by kernel_rfl))
  f29 := func171.trans (congrArg some (by kernel_rfl))
  f46 := ⟨Tryz.f235.name, by decide, func235.trans (congrArg some (by kernel_rfl))⟩
  f47 := func224.trans (congrArg some (by kernel_rfl))
  f48 := func225.trans (congrArg some (by kernel_rfl))
  f49 := ⟨Tryz.f236.name, by decide, func236.trans (congrArg some (by kernel_rfl))⟩
  f50 := ⟨Tryz.f237.name, by decide, func237.trans (congrArg some (by kernel_rfl))⟩
  f57 := ⟨Tryz.f267.name, by decide, func267.trans (congrArg some (by kernel_rfl))⟩
  t0 := underlying0
  a0 := isAgg0
  z0 := sizeOf0
  v0 := zeroValue0
  t3 := underlying3
  a3 := isAgg3
  z3 := sizeOf3
  v3 := zeroValue3
  t4 := underlying4
  a4 := isAgg4
  z4 := sizeOf4
  v4 := zeroValue4
  t5 := underlying5
  a5 := isAgg5
  z5 := sizeOf5
  v5 := zeroValue5
  t9 := underlying9
  a9 := isAgg9
  z9 := sizeOf9
  v9 := zeroValue9
  t22 := underlying36
  a22 := isAgg36
  z22 := sizeOf36
  v22 := zeroValue36
  t25 := underlying149
  a25 := isAgg149
  z25 := sizeOf149
  v25 := zeroValue149
  t39 := underlying188
  a39 := isAgg188
  z39 := sizeOf188
  v39 := zeroValue188
  t45 := underlying231
  a45 := isAgg231
  z45 := sizeOf231
  v45 := zeroValue231
  t46 := underlying232
  a46 := isAgg232
  z46 := sizeOf232
  v46 := zeroValue232
  t50 := underlying168
  a50 := isAgg168
  z50 := sizeOf168
  v50 := zeroValue168
  t53 := underlying238
  a53 := isAgg238
  z53 := sizeOf238
  v53 := zeroValue238
  t55 := underlying240
  a55 := isAgg240
  z55 := sizeOf240
  v55 := zeroValue240
  t66 := underlying272
  a66 := isAgg272
  z66 := sizeOf272
  v66 := zeroValue272
  t70 := underlying276
  a70 := isAgg276
  z70 := sizeOf276
  v70 := zeroValue276
  t76 := underlying324
  a76 := isAgg324
  z76 := sizeOf324
  v76 := zeroValue324
  t77 := underlying325
  a77 := isAgg325
  z77 := sizeOf325
  v77 := zeroValue325 }
def Tryz.sortL_ren : Go.Shelf.Ren := ⟨fun | 6 => 219 | 15 => 108 | 14 => 262 | 28 => 170 | 29 => 171 | 20 => 290 | 21 => 291 | 22 => 292 | 23 => 293 | 24 => 294 | 25 => 295 | 26 => 296 | 27 => 297 | 46 => 312 | 47 => 224 | 48 => 225 | 49 => 313 | 50 => 314 | 57 => 329 | n => n, fun | 22 => 228 | 24 => 268 | 25 => 270 | 3 => 3 | 39 => 188 | 0 => 0 | 53 => 238 | 55 => 240 | 4 => 4 | 46 => 232 | 45 => 231 | 50 => 168 | 5 => 5 | 9 => 9 | 66 => 272 | 70 => 276 | 76 => 324 | 77 => 325 | n => n, fun | n => n⟩
theorem Tryz.sortL : Go.Proofs.SlLaysF0.n6 Tryz.prog Tryz.sortL_ren := {
  mixed := by kernel_rfl
  f6 := ⟨Tryz.f219.name, by decide, func219.trans (congrArg some (by kernel_rfl))⟩
  f14 := ⟨Tryz.f262.name, by decide, func262.trans (congrArg some (by kernel_rfl))⟩
  f15 := func108.trans (congrArg some (by kernel_rfl))
  f20 := ⟨Tryz.f290.name, by decide, func290.trans (congrArg some (by kernel_rfl))⟩
  f21 := ⟨Tryz.f291.name, by decide, func291.trans (congrArg some (by kernel_rfl))⟩
  f22 := ⟨Tryz.f292.name, by decide, func292.trans (congrArg some (by kernel_rfl))⟩
  f23 := ⟨Tryz.f293.name, by decide, func293.trans (congrArg some (by kernel_rfl))⟩
  f24 := ⟨Tryz.f294.name, by decide, func294.trans (congrArg some (by kernel_rfl))⟩
  f25 := ⟨Tryz.f295.name, by decide, func295.trans (congrArg some (by kernel_rfl))⟩
  f26 := ⟨Tryz.f296.name, by decide, func296.trans (congrArg some (by kernel_rfl))⟩
  f27 := ⟨Tryz.f297.name, by decide, func297.trans (congrArg some (by kernel_rfl))⟩
  f28 := func170.trans (congrArg some (by kernel_rfl))
  f29 := func171.trans (congrArg some (by kernel_rfl))
  f46 := ⟨Tryz.f312.name, by decide, func312.trans (congrArg some (by kernel_rfl))⟩
  f47 := func224.trans (congrArg some (by kernel_rfl))
  f48 := func225.trans (congrArg some (by kernel_rfl))
  f49 := ⟨Tryz.f313.name, by decide, func313.trans (congrArg some (by kernel_rfl))⟩
  f50 := ⟨Tryz.f314.name, by decide, func314.trans (congrArg some (by kernel_rfl))⟩
  f57 := ⟨Tryz.f329.name, by decide, func329.trans (congrArg some (by kernel_rfl))⟩
  t0 := underlying0
  a0 := isAgg0
  z0 := sizeOf0
  v0 := zeroValue0
  t3 := underlying3
  a3 := isAgg3
  z3 := sizeOf3
  v3 := zeroValue3
  t4 := underlying4
  a4 := isAgg4
  z4 := sizeOf4
  v4 := zeroValue4
  t5 := underlying5
  a5 := isAgg5
  z5 := sizeOf5
  v5 := zeroValue5
  t9 := underlying9
  a9 := isAgg9
  z9 := sizeOf9
  v9 := zeroValue9
  t22 := underlying228
  a22 := isAgg228
  z22 := sizeOf228
  v22 := zeroValue228
  t25 := underlying270
  a25 := isAgg270
  z25 := sizeOf270
  v25 := zeroValue270
  t39 := underlying188
  a39 := isAgg188
  z39 := sizeOf188
  v39 := zeroValue188
  t45 := underlying231
  a45 := isAgg231
  z45 := sizeOf231
  v45 := zeroValue231
  t46 := underlying232
  a46 := isAgg232
  z46 := sizeOf232
  v46 := zeroValue232
  t50 := underlying168
  a50 := isAgg168
  z50 := sizeOf168
  v50 := zeroValue168
  t53 := underlying238
  a53 := isAgg238
  z53 := sizeOf238
  v53 := zeroValue238
  t55 := underlying240
  a55 := isAgg240
  z55 := sizeOf240
  v55 := zeroValue240
  t66 := underlying272
  a66 := isAgg272
  z66 := sizeOf272
  v66 := zeroValue272
  t70 := underlying276
  a70 := isAgg276
  z70 := sizeOf276
  v70 := zeroValue276
  t76 := underlying324
  a76 := isAgg324
  z76 := sizeOf324
  v76 := zeroValue324
  t77 := underlying325
  a77 := isAgg325
  z77 := sizeOf325
  v77 := zeroValue325 }
def Tryz.sortR_ren : Go.Shelf.Ren := ⟨fun | 6 => 55 | 15 => 108 | 14 => 107 | 28 => 170 | 29 => 171 | 20 => 162 | 21 => 163 | 22 => 164 | 23 => 165 | 24 => 166 | 25 => 167 | 26 => 168 | 27 => 169 | 46 => 223 | 47 => 224 | 48 => 225 | 49 => 226 | 50 => 227 | 57 => 264 | n => n, fun | 22 => 118 | 24 => 123 | 25 => 128 | 3 => 3 | 39 => 188 | 0 => 0 | 53 => 238 | 55 => 240 | 4 => 4 | 46 => 232 | 45 => 231 | 50 => 168 | 5 => 5 | 9 => 9 | 66 => 272 | 70 => 276 | 76 => 324 | 77 => 325 | n => n, fun | n => n⟩
theorem Tryz.sortR : Go.Proofs.SlLaysF0.n6 Tryz.prog Tryz.sortR_ren := {
  mixed := by kernel_rfl
  f6 := ⟨Tryz.f55.name, by decide, func55.trans (congrArg some (by kernel_rfl))⟩
  f14 := ⟨Tryz.f107.name, by decide, func107.trans (congrArg some (by kernel_rfl))⟩
  f15 := func108.trans (congrArg some (by kernel_rfl))
  f20 := ⟨Tryz.f162.name, by decide, func162.trans (congrArg some (by kernel_rfl))⟩
  f21 := ⟨Tryz.f163.name, by decide, func163.trans (congrArg some (by kernel_rfl))⟩
  f22 := ⟨Tryz.f164.name, by decide, func164.trans (congrArg some (by kernel_rfl))⟩
  f23 := ⟨Tryz.f165.name, by decide, func165.trans (congrArg some (by kernel_rfl))⟩
  f24 := ⟨Tryz.f166.name, by decide, func166.trans (congrArg some (by kernel_rfl))⟩
  f25 := ⟨Tryz.f167.name, by decide, func167.trans (congrArg some (by kernel_rfl))⟩
  f26 := ⟨Tryz.f168.name, by decide, func168.trans (congrArg some (by kernel_rfl))⟩
  f27 := ⟨Tryz.f169.name, by decide, func169.trans (congrArg some (by kernel_rfl))⟩
  f28 := func170.trans (congrArg some (by kernel_rfl))
  f29 := func171.trans (congrArg some (by kernel_rfl))
  f46 := ⟨Tryz.f223.name, by decide, func223.trans (congrArg some (by kernel_rfl))⟩
  f47 := func224.trans (congrArg some (by kernel_rfl))
  f48 := func225.trans (congrArg some (by kernel_rfl))
  f49 := ⟨Tryz.f226.name, by decide, func226.trans (congrArg some (by kernel_rfl))⟩
  f50 := ⟨Tryz.f227.name, by decide, func227.trans (congrArg some (by kernel_rfl))⟩
  f57 := ⟨Tryz.f264.name, by decide, func264.trans (congrArg some (by kernel_rfl))⟩
  t0 := underlying0
  a0 := isAgg0
  z0 := sizeOf0
  v0 := zeroValue0
  t3 := underlying3
  a3 := isAgg3
  z3 := sizeOf3
  v3 := zeroValue3
  t4 := underlying4
  a4 := isAgg4
  z4 := sizeOf4
  v4 := zeroValue4
  t5 := underlying5
  a5 := isAgg5
  z5 := sizeOf5
  v5 := zeroValue5
  t9 := underlying9
  a9 := isAgg9
  z9 := sizeOf9
  v9 := zeroValue9
  t22 := underlying118
  a22 := isAgg118
  z22 := sizeOf118
  v22 := zeroValue118
  t25 := underlying128
  a25 := isAgg128
  z25 := sizeOf128
  v25 := zeroValue128
  t39 := underlying188
  a39 := isAgg188
  z39 := sizeOf188
  v39 := zeroValue188
  t45 := underlying231
  a45 := isAgg231
  z45 := sizeOf231
  v45 := zeroValue231
  t46 := underlying232
  a46 := isAgg232
  z46 := sizeOf232
  v46 := zeroValue232
  t50 := underlying168
  a50 := isAgg168
  z50 := sizeOf168
  v50 := zeroValue168
  t53 := underlying238
  a53 := isAgg238
  z53 := sizeOf238
  v53 := zeroValue238
  t55 := underlying240
  a55 := isAgg240
  z55 := sizeOf240
  v55 := zeroValue240
  t66 := underlying272
  a66 := isAgg272
  z66 := sizeOf272
  v66 := zeroValue272
  t70 := underlying276
  a70 := isAgg276
  z70 := sizeOf276
  v70 := zeroValue276
  t76 := underlying324
  a76 := isAgg324
  z76 := sizeOf324
  v76 := zeroValue324
  t77 := underlying325
  a77 := isAgg325
  z77 := sizeOf325
  v77 := zeroValue325 }
end Go.Proofs
namespace Go.Sx
open Go Go.Sort Go.Proofs
theorem row_holdsV {w : World} {b : Nat} {T : TypeId} {vs sp : List Value} (h : w.heap[b]? = some (cel T (vs ++ sp))) : Holds id w b 0 vs.toArray := fun j hj => by
  have hj' : j < vs.length := by simpa using hj
  have h1 : (vs ++ sp)[j]? = some vs[j] := by rw [List.getElem?_append_left hj']; exact List.getElem?_eq_getElem hj'
  have h2 : vs.toArray[j]! = vs[j] := by rw [getElem!_pos _ j hj]; simp
  refine ⟨?_, ?_⟩
  · rw [h2]
    simp only [World.cell?, h, cel, Nat.zero_add]
    simpa using h1
  simp only [World.frozen?, h, cel]; simp
theorem row_putV {vs vs' sp : List Value} (hl : vs'.length = vs.length) : putCells id 0 vs'.toArray (vs ++ sp).toArray = (vs' ++ sp).toArray := by
  apply Array.ext_getElem?
  intro k
  simp only [putCells, Array.getElem?_mapIdx, List.getElem?_toArray, List.size_toArray, Nat.zero_le, true_and, Nat.zero_add, Nat.sub_zero]
  rcases Nat.lt_or_ge k vs.length with h | h
  · have h1 : (vs ++ sp)[k]? = some vs[k] := by rw [List.getElem?_append_left h]; exact List.getElem?_eq_getElem h
    have h2 : (vs' ++ sp)[k]? = some (vs'[k]'(by omega)) := by rw [List.getElem?_append_left (by omega)]; exact List.getElem?_eq_getElem _
    have h3 : vs'.toArray[k]! = vs'[k]'(by omega) := by rw [getElem!_pos _ k (by simpa using (by omega : k < vs'.length))]; simp
    rw [h1, h2, Option.map_some, if_pos (by omega), h3]
    rfl
  rw [List.getElem?_append_right h, List.getElem?_append_right (by omega), hl]
  cases sp[k - vs.length]? with
  | none => rfl
  | some v => rw [Option.map_some, if_neg (by omega)]
theorem St.rowV {w : World} {I : Heap} {b : Nat} {T : TypeId} {vs vs' sp : List Value} (n : Nat) (os : Array Obj) (hr : Ready I [(b, cel T (vs ++ sp))] w) (hl : vs'.length = vs.length) :
    St w [b] I I [(b, cel T (vs' ++ sp))] (grow (putRow id (Sort.ahead w n) b 0 vs'.toArray) os) := by
  obtain ⟨r1, r2, r3, r4⟩ := hr
  have hb := r2 _ (List.mem_singleton.2 rfl)
  have hlt : ∀ {c : Nat} {o' : Obj}, w.heap[c]? = some o' → c < w.heap.size := fun {c o'} hc => by
    rcases Nat.lt_or_ge c w.heap.size with h' | h'
    · exact h'
    simp [Array.getElem?_eq_none h'] at hc
  have hsz : (putRow id (Sort.ahead w n) b 0 vs'.toArray).heap.size = w.heap.size := by simp [putRow, mapBlock, Sort.ahead]
  have hother : ∀ c, c < w.heap.size → c ≠ b → (grow (putRow id (Sort.ahead w n) b 0 vs'.toArray) os).heap[c]? = w.heap[c]? := fun c hc hne => by
    simp only [grow]
    rw [Array.getElem?_append_left (by omega)]
    simp only [putRow, mapBlock, Sort.ahead, Array.getElem?_modify, if_neg (Ne.symm hne)]
  have hown : (grow (putRow id (Sort.ahead w n) b 0 vs'.toArray) os).heap[b]? = some (cel T (vs' ++ sp)) := by
    have hbl := hlt hb
    simp only [grow]
    rw [Array.getElem?_append_left (by omega)]
    simp only [putRow, mapBlock, Sort.ahead, Array.getElem?_modify, if_true]
    rw [hb]
    simp only [Option.map_some, onCells, cel]
    rw [row_putV hl]
  refine ⟨rfl, rfl, rfl, ?_, ?_, ?_, ?_, by simp, ?_, ?_, fun _ _ => rfl, Le.refl _, noDr⟩
  · simp only [grow, Array.size_append]; omega
  · intro c hc hd
    exact hother c hc (by simpa using hd)
  · intro c o hc
    have h1 := r1 c o hc
    refine (hother c (hlt h1) ?_).trans h1
    rintro rfl
    have := r4 _ (List.mem_singleton.2 rfl)
    rw [this] at hc; cases hc
  · intro p hp
    rw [List.mem_singleton.1 hp]; exact hown
  · intro p hp
    rw [List.mem_singleton.1 hp]; exact r4 (b, cel T (vs ++ sp)) (List.mem_singleton.2 rfl)
  intro p hp
  rw [List.mem_singleton.1 hp]; exact .inl (.head _)
section
variable {α : Type} [Inhabited α] {enc : α → List Value} {k : Nat}
theorem flatK_list (hk : ∀ x, (enc x).length = k) (l : List α) : flatK enc k l.toArray = (l.flatMap enc).toArray := by
  refine ext_get! (by simp [flat_len hk]) fun t ht => ?_
  have ht' : t < l.length * k := by simpa using ht
  have h0 : 0 < k := by
    rcases Nat.eq_zero_or_pos k with e | e
    · subst e; simp at ht'
    exact e
  have hd : t / k < l.length := (Nat.div_lt_iff_lt_mul h0).2 ht'
  have hm : t % k < k := Nat.mod_lt _ h0
  rw [get_flatK _ _ _ _ (by simpa using ht')]
  have h1 : l.toArray[t / k]! = l[t / k] := by rw [getElem!_pos _ _ (by simpa using hd)]; simp
  have h2 : l[t / k]? = some l[t / k] := List.getElem?_eq_getElem hd
  have h3 := row_cell hk (sp := []) h2 (t % k) hm
  rw [List.append_nil, Nat.mul_comm, Nat.div_add_mod] at h3
  have h4 : t < (l.flatMap enc).length := by rw [flat_len hk]; exact ht'
  rw [h1, getElem!_pos _ t (by simpa using h4), List.getElem_toArray, getElem!_pos _ _ (by rw [hk]; exact hm)]
  rw [List.getElem?_eq_getElem h4, List.getElem?_eq_getElem (by rw [hk]; exact hm)] at h3
  exact (Option.some.inj h3).symm
theorem perm_in {l : List α} {d' : Array α} (h : PermIn 0 l.length l.toArray d') : d'.toList.Perm l := by
  obtain ⟨h1, _, h3⟩ := h
  have h4 : d'.size = l.length := by rw [h1]; simp
  rw [← h4] at h3
  simp only [Array.extract_size] at h3
  rw [h4] at h3
  have h5 : l.toArray.extract 0 l.length = l.toArray := by
    have := Array.extract_size (xs := l.toArray)
    rwa [List.size_toArray] at this
  rw [h5] at h3
  simpa using h3
theorem sorted_in {lt : α → α → Bool} {d' : Array α} (h : SortedIn lt 0 d'.size d') : d'.toList.Pairwise fun x y => lt y x = false := by
  rw [List.pairwise_iff_getElem]
  intro i j hi hj hij
  have hi' : i < d'.size := by simpa using hi
  have hj' : j < d'.size := by simpa using hj
  have := h i j (Nat.zero_le _) hij hj'
  rw [getElem!_pos d' i hi', getElem!_pos d' j hj'] at this
  simpa using this
