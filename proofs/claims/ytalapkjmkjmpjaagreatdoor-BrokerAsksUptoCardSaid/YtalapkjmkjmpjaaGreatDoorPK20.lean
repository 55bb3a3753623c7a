/-
  Own texts on the laws of the seat, joined: the logic, and contracts of functions. Conditions: none.
-/
import Derived.Test.YtalapkjmkjmpjaaGreatDoorNmK
import Derived.Test.YtalapkjmkjmpjaaGreatDoorPK19
set_option linter.all false
set_option maxRecDepth 100000
set_option maxHeartbeats 40000000
open Go.Sx.J renaming z -> aA,op -> aS,ez -> dJ,nil -> dL
open Go.Sx.Ej renaming round -> aB,keep -> aJ,MN -> bD,persist -> bW,seq -> dB,pull -> dX,a2U -> dZ,c1P -> eF
open Ix renaming sat -> aC,a7O -> aV,a5X -> aZ,a6r -> dA,a2B -> dF,scan -> dG,c4r -> dM,Few -> eH,TOK -> eP
open Go.Sx.Keeps renaming d -> aF,r -> aT,k -> bC,n -> bZ
open Go.Sx.AX renaming c -> aG,z -> aN,s -> aQ
open Go.Sx.GU renaming part -> aH,none -> bM
open Cq renaming ZB -> aI,plain -> aO,blank -> aU,isTerm -> aW,ZE -> bI,GV -> bK,operator -> bU,relations -> bV,relation -> dD,low -> dK,c9c -> dR
open Go.Proofs.Tryz renaming prog -> aK
open Go.Value renaming bool -> aP
open Go.Sx.Cj renaming EX -> aX,region -> bF,loop -> bQ,keepR -> dN,perm -> dV,cond -> dW
open Go.Sx.DC renaming none -> aY,agg -> bH
open Go.Sx.JA renaming tk -> bG,fix -> dP
open Go.Sx.yX renaming YR -> bJ,RU -> cZ
open Go.Sx.Src renaming slice -> bP,row -> dH
open Bool renaming false_and -> bT,false_or -> eG,true_or -> eU
open Go.Sx.Pull renaming s -> bY,z -> dI
open Ke renaming words -> cO
open Go.Sx.BL renaming z -> dQ
open Nat renaming mul_le_mul -> dS
open Go.Sx.Le renaming refl -> dU
open Go.Sx.zJ renaming take -> dY
section
namespace Go.Proofs.YtalapkjmkjmpjaaGreatDoor
open _root_.Go.Proofs.Tryz
open Go Go.Sx
def b3s (k:Int) (a b:Bool):Bool:=if k=2 then a && b else if k=3 then a || b else if k=4 then a && !b else a
theorem c3z{k}(h2:2≤k)(A:k≤4) a b:b3s k a b=Ix.comb k a b:=by
 have h:k=2∨k=3∨k=4:=oM;rcases h with rfl|rfl|rfl<;>rfl
theorem a9M{L q t}(A:t∈L.map (·.1)):decide (t∈aZ L q)=aC L q t:=by
 rw[yM,zG,Ix.b3u];exact⟨fun h=>h.2,fun h=>⟨A,h⟩⟩
theorem c2J{es:List DT}{i:Nat}{t}(h:(es.map (·.t))[i]?=some t):t∈(es.map zQ).map (·.1):=by rw[a9S];exact CJ h
def c6q (rb:Nat) (es:List DT) (q:Cq.Qn) (e:Ending) (I':Heap) (H':HL):Prop:=∃v l,e= .returned v∧(∀t∈(es.map zQ).map (·.1),decide (t∈l)=aC (es.map zQ) q t)∧zJ recC I' l v∧l.length≤1000000∧H'=[]
theorem d0a(a b:Nat):((a:Int) == (b:Int))=decide (a=b):=by rw[yM,beq_iff_eq,zG];omega
theorem c1C rb es q p c (hk:q.k=1)(bl:q.r∈bV)(cz:q.wide≤10000000)(a4:eH (es.map zQ))(bm:eP (es.map zQ)) I (M:VF I rb es):yY aK 87 [ptr rb 0,.agg (BR q p c).toArray] I [] (c6q rb es q):=by
 have di:q.t.length≤10000000:=by unfold Cq.Qn.wide at cz;omega
 have dj:=Ke.NU q.t;have bn:(es.map zQ).length≤1000:=by rw[wO];exact M.len
 have dk:(es.map (·.t)).length≤1000:=by rw[wO];exact M.len
 have ad:=M.JC;obtain⟨d0,_⟩:=b0Z a4 q.i q.t;obtain⟨bo,bu⟩:=b0Z a4 q.i [];rw[Ix.a2j]at bo bu;have dl:=c4B ad q.i (Ix.keyOf q.i q.t);refine zN func87 fun w0 _=>?_;refine yU 3 ?_;intro b1 bp;refine yZ ?_ ?_<;>intro b0 bv
 ·have N:q.r=[61]:=BP b0;refine yZ ?_ ?_<;>intro hc3 bw
  ·refine zX (a9V rb es q.i q.t oM _ M) ?_;intro _ _ _ _ d1;obtain⟨va,h,O,rfl⟩:=d1;cases h;obtain⟨pa,ca,rfl⟩:=EF O;refine zV ?_;exact⟨_,_,rfl,fun t ht=>by rw[aV hk,N];show _=dF _ _ Ix.rEq _ _;rw[Ix.c2E,zF (show q.i=Ix.QH from BP hc3)],O,(FD (Ix.ZO _ _ _) oM),rfl⟩
  refine zX (a8U rb es q.i q.t oM _ M) ?_;intro _ _ _ _ bx;obtain⟨va,h,O,rfl⟩:=bx;cases h;obtain⟨pa,ca,rfl⟩:=EF O;refine zV ?_;exact⟨_,_,rfl,fun t ht=>by rw[aV hk,N];show _=dF _ _ Ix.rEq _ _;rw[Ix.c2E,zD (show q.i≠Ix.QH from CB hc3)],O,(FD (a9D _ _ _) oM),rfl⟩
 have d2:q.r≠[61]:=CB b0;refine yZ ?_ ?_<;>intro ae b6
 ·have N:q.r=[61,61]:=BP ae;refine zX (a9V rb es q.i q.t oM _ M) ?_;intro _ _ _ _ bz;obtain⟨va,h,O,rfl⟩:=bz;cases h;obtain⟨pa,ca,rfl⟩:=EF O;refine zV ?_;exact⟨_,_,rfl,fun t ht=>by rw[aV hk,N];exact(Ix.c7Q _ _ _ _).symm,O,(FD (Ix.ZO _ _ _) oM),rfl⟩
 have d3:q.r≠[61,61]:=CB ae;refine yZ ?_ ?_<;>intro af b7
 ·have N:q.r=[62,61]:=BP af;refine yU 1 ?_;refine Cj.persist bp (fun _ b8 Q=>?_);have M:=M.mono b8;refine aX [] [] 11 kR ?_;have d4:=Q;refine zX (a7J rb es q.i q.t (by first|omega|decide) OY _ M) ?_;intro _ _ _ au c3;have M:=M.mono au;have Q:=au _ _ Q;obtain⟨va,h,O,rfl⟩:=c3;cases h;obtain⟨pa,ca,ag,c4,-⟩:=id O;subst ag;refine NG (b1q rb es _ rfl q.i ((dG (es.map zQ) q.i q.t OY).map EI) _ (b2D bm a4 ad q.i q.t) oM _ M O) ?_;intro _ _ _ b9 c5 c6;have Q:=b9 _ _ Q;obtain⟨d5,h,ah⟩:=c6;cases h;have ai:=c5;refine yU 1 ?_;refine JA.a3A ah ai (fun d6 a9 a0=>?_);have Q:=a9 _ _ Q;replace a0:=a0.row;refine zV ?_;exact⟨_,_,rfl,fun t ht=>by rw[aV hk,N,a2s a4];rfl,a0,(FD (a2i _ _ _) (FD (dS (by rw[wO];omega:_≤480) bn) dE)),rfl⟩
 have d7:q.r≠[62,61]:=CB af;refine yZ ?_ ?_<;>intro aj ba
 ·have N:q.r=[60]:=BP aj;refine zX (a7J rb es q.i [] (by first|omega|decide) OY _ M) ?_;intro _ _ _ bb c7;have M:=M.mono bb;obtain⟨va,h,O,rfl⟩:=c7;cases h;obtain⟨pa,ca,ag,c4,-⟩:=id O;subst ag;refine zX (a7J rb es q.i q.t (by first|omega|decide) OY _ M) ?_;intro _ _ _ av c8;have M:=M.mono av;have O:=O.mono av;obtain⟨_,h,d8,rfl⟩:=c8;cases h;obtain⟨_,cd,c9,_,-⟩:=id d8;subst c9;refine yU 4 ?_;refine Cj.persist bp (fun _ aw Q=>?_);have M:=M.mono aw;have O:=O.mono aw;refine aX [] [] 12 kR ?_;have cy:=Q;refine yU 9 ?_;refine JA.ez 72 (i64 ((((dG (es.map zQ) q.i [] OY).map EI).length-((dG (es.map zQ) q.i q.t OY).map EI).length):Nat)) rfl (zC i64 oM) ?_;refine JA.zt 9 rfl (a4l rfl rfl rfl RN NQ oM) ?_;refine NG (b1q rb es _ rfl q.i (((dG (es.map zQ) q.i [] OY).map EI).take (((dG (es.map zQ) q.i [] OY).map EI).length-((dG (es.map zQ) q.i q.t OY).map EI).length)) _ (fun x M=>b2D bm a4 ad q.i [] x (vO M)) (by rw[wI];omega) _ M (dY O (Nat.sub_le _ _))) ?_;intro _ _ _ bc hn50 cb;have Q:=bc _ _ Q;obtain⟨d5,h,ah⟩:=cb;cases h;have ai:=hn50;refine yU 1 ?_;refine JA.a3A ah ai (fun d6 a9 a0=>?_);have Q:=a9 _ _ Q;replace a0:=a0.row;refine zV ?_;exact⟨_,_,rfl,fun t ht=>by rw[aV hk,N,List.map_take,a2s a4,d0,bo,Ix.a2j];rfl,a0,(FD (a2i _ _ _) (FD (dS (by rw[wO,wI];omega:_≤480) bn) dE)),rfl⟩
 have d9:q.r≠[60]:=CB aj;refine yU 4 ?_;have da:q.r=[97,110,121]∨q.r=[97,108,108]:=by
  simp only[bV,vX,vG,or_false]at bl;rcases bl with h|h|h|h|h|h
  ·exact absurd h d2
  ·exact absurd h d3
  ·exact absurd h d9
  ·exact absurd h d7
  ·exact .inl h
  exact .inr h
 refine NG (TY q.t oM _) ?_;intro _ _ _ bd ce cf;have M:=M.mono bd;obtain⟨_,a7,h,rfl⟩:=cf;cases h;refine J.NV (a7.base ce) (fun _ ch hw=>?_);have M:=M.mono ch;obtain⟨pw,cw,ax⟩:=KG hw;refine J.eqv 77 rfl ax ?_;rw[ax]at hw;refine zX ((let ⟨_,_,hR⟩:=M.ex;a8G rb _ es (by have:=M.len;omega) _ hR.1 hR.2)) ?_;intro _ db _ ay ci;have M:=M.mono ay;have hw:=hw.mono ay;obtain⟨_,h,az,rfl⟩:=ci;cases h;obtain⟨pt,ct,rfl⟩:=EF az;refine yU 10 ?_;refine bQ (ι:=Nat×Heap×Gs) (fun y=>y.1≤(es.map (·.t)).length∧Le db y.2.1∧AL w0.heap.size 2 (((es.map (·.t)).take y.1).filter fun t=>aC (es.map zQ) q t).length ((((es.map (·.t)).take y.1).filter fun t=>aC (es.map zQ) q t).flatMap recC) y.2.2) (fun y=>(es.map (·.t)).length-y.1) (fun y=>[(0,ptr rb 0),(3,ptr b1 0),(7,.slice pw (cO q.t).length cw),(9,.slice pt (es.map (·.t)).length ct),(8,gV (((es.map (·.t)).take y.1).filter fun t=>aC (es.map zQ) q t).length y.2.2),(10,i64 (y.1:Int))]) (fun y=>y.2.1) (fun y=>(b1,yV 73 (BR q p c))::gH 42 ((((es.map (·.t)).take y.1).filter fun t=>aC (es.map zQ) q t).flatMap recC) y.2.2) (0,_,none) ⟨sQ _,dU _,rfl,rfl⟩ rT rfl rfl ?_;rintro⟨i,J1,g⟩ ⟨hi,Z,hg⟩;dsimp only at hi Z hg ⊢;have M:=M.mono Z;have hw:=hw.mono Z;have az:=az.mono Z;have dm:=a8n (fun t=>aC (es.map zQ) q t) (es.map (·.t)) i;refine yZ ?_ ?_<;>intro cj be
 ·have bq:i<(es.map (·.t)).length:=oM;obtain⟨t,G⟩:∃x,(es.map (·.t))[i]?=some x:=⟨_,AA bq⟩;have dq:=c2J G;obtain⟨_,_,cm,_,dc⟩:=id az;cases cm;obtain⟨tb,a8,_,_,_,_,rfl,a2,ac⟩:=dc (zK bq);refine yU 16 ?_;refine Cj.keep (bC aT) ?_;refine bQ (ι:=Nat×Heap) (fun y=>y.1≤(cO q.t).length∧Le J1 y.2) (fun y=>(cO q.t).length-y.1) (fun y=>[(0,ptr rb 0),(3,ptr b1 0),(7,.slice pw (cO q.t).length cw),(9,.slice (some ⟨tb,a8,none⟩) (es.map (·.t)).length ct),(8,gV (((es.map (·.t)).take i).filter fun t=>aC (es.map zQ) q t).length g),(10,i64 (i:Int)),(11,i64 ((Ix.a2f (es.map zQ) q.i q.t t y.1):Int)),(12,i64 (y.1:Int))]) (fun y=>y.2) (fun y=>(b1,yV 73 (BR q p c))::gH 42 ((((es.map (·.t)).take i).filter fun t=>aC (es.map zQ) q t).flatMap recC) g) (0,_) ⟨sQ _,dU _⟩ rT rfl rfl ?_;rintro⟨k,K1⟩ ⟨dd,a3⟩;dsimp only at dd a3 ⊢;have Z:=Z.trans a3;have a2:=a3 _ _ a2;have M:=M.mono a3;have hw:=hw.mono a3;have dr:=Ix.c5g (es.map zQ) q.i q.t t k;refine yZ ?_ ?_<;>intro co bf
  ·have br:k<(cO q.t).length:=oM;obtain⟨x,a7⟩:∃x,(cO q.t)[k]?=some x:=⟨_,AA br⟩;have dt:=Ke.NY _ x (CJ a7);obtain⟨wb,_,_,ax,b2⟩:=hw.some (zK br);cases ax;have cp:=b0r (es.map zQ) q.i x;refine yU 5 ?_;refine aX [0] [] 13 kR ?_;have b3:=a2;have b4:=b2;refine yU 5 ?_;refine dP CP (fun a5=>?_);refine bG 5 rfl a5 (FZ (off':=k) ED BD) ?_;refine bG 6 rfl a5 (DI DU (cZ b4) (EL a7)) ?_;refine bG 8 rfl a5 zS ?_;refine bG 9 rfl a5 zS ?_;refine bG 10 rfl a5 (FZ (off':=a8+i*2) JI BM) ?_;refine bG 11 rfl a5 (CX FY BM (cZ b3) (AY AP ac G)) ?_;refine qq2 7 rfl (zU (H1:=[]) rfl rfl rfl rfl rfl (c4J rb es q.i x oM _ M) ?_ (fun _ _ _ _ ⟨_,h,_⟩=>by cases h) (fun _ _ ⟨_,h,_⟩=>by cases h));intro _ _ _ aa cq;have a2:=aa _ _ a2;have a3:=a3.mono aa;have b2:=aa _ _ b2;obtain⟨_,h,bt,rfl⟩:=cq;cases h;obtain⟨_,cc,rfl⟩:=EF bt;refine zO (b0k (Ix.word (es.map zQ) q.i x) t _ (FD cp oM) _ bt) ?_;refine DF ?_ ?_<;>intro al
   ·have b5:t∈Ix.word (es.map zQ) q.i x:=DK al;refine yU 12 ?_;refine aB (k+1,_) ⟨dO,a3⟩ dO ⟨rfl,rfl,rfl,rfl,rfl,rfl,zC (fun x=>some (i64 x)) (by dsimp only;rw[Ix.a9p a7,zF b5];omega),rfl,trivial⟩ rfl rfl
   have b5:¬t∈Ix.word (es.map zQ) q.i x:=DN al;refine yU 8 ?_;refine aB (k+1,_) ⟨dO,a3⟩ dO ⟨rfl,rfl,rfl,rfl,rfl,rfl,zC (fun x=>some (i64 x)) (by dsimp only;rw[Ix.a9p a7,zD b5];omega),rfl,trivial⟩ rfl rfl
  refine yU 6 ?_;have a6:(Ix.a2f (es.map zQ) q.i q.t t k)=Ix.hits (es.map zQ) q.i q.t t:=Ix.c2I _ _ _ _ oM;refine DZ ?_ ?_<;>intro a1 bg
  ·refine DZ ?_ ?_<;>intro am bh
   ·refine yU 14 ?_;refine dJ 128 (.bool (aC (es.map zQ) q t)) rfl (zC aP (by have N:q.r=[97,110,121]:=BP a1;rw[aV hk,N];show _=dF _ _ Ix.c0E _ _;rw[Ix.b8z,zH (by rw[←a6];have h2:=DK am;omega)])) ?_;refine DF ?_ ?_<;>intro an
    ·have A:(aC (es.map zQ) q t)=true:=an;refine zW (a8+i*2) ?_;refine aA (CX FY BM (bJ a2) (AY AP ac G)) ?_;refine yU 1 ?_;intro _ _;refine KT 15 [_,_] hg ?_;intro de cr;refine yU 9 ?_;refine aJ (aF (bC aT)) ?_;refine aB (i+1,_,de) ⟨dO,Z,by dsimp only;rw[BK _ G,zF A,wV,xP];exact cr⟩ dO ⟨rfl,rfl,rfl,rfl,by dsimp only;rw[BK _ G,zF A,wV];rfl,rfl,trivial⟩ rfl (by dsimp only;rw[BK _ G,zF A,xP];rfl)
    have A:¬(aC (es.map zQ) q t)=true:=by rw[an];decide
    refine yU 8 ?_;refine aB (i+1,_,g) ⟨dO,Z,by dsimp only;rw[BK _ G,zD A,yD];exact hg⟩ dO ⟨rfl,rfl,rfl,rfl,by dsimp only;rw[BK _ G,zD A,yD];rfl,rfl,trivial⟩ rfl (by dsimp only;rw[BK _ G,zD A,yD])
   refine yU 4 ?_;refine J.skip 11 118 119 true _ rfl rfl rfl (by rw[show q.r=[97,110,121] from BP a1];rfl) rfl rfl ?_;refine J.skip 11 118 120 true _ rfl rfl rfl (by rw[show q.r=[97,110,121] from BP a1];rfl) rfl rfl ?_;refine J.zg (SN rfl rfl (by rw[show q.r=[97,110,121] from BP a1];rfl) rfl) ?_;refine yU 7 ?_;refine dJ 128 (.bool (aC (es.map zQ) q t)) rfl (zC aP (by have N:q.r=[97,110,121]:=BP a1;rw[aV hk,N];show _=dF _ _ Ix.c0E _ _;rw[Ix.b8z,zI (by rw[←a6];have h2:=DN am;omega)])) ?_;refine DF ?_ ?_<;>intro ao
   ·have A:(aC (es.map zQ) q t)=true:=ao;refine zW (a8+i*2) ?_;refine aA (CX FY BM (bJ a2) (AY AP ac G)) ?_;refine yU 1 ?_;intro _ _;refine KT 15 [_,_] hg ?_;intro df hg84;refine yU 9 ?_;refine aJ (aF (bC aT)) ?_;refine aB (i+1,_,df) ⟨dO,Z,by dsimp only;rw[BK _ G,zF A,wV,xP];exact hg84⟩ dO ⟨rfl,rfl,rfl,rfl,by dsimp only;rw[BK _ G,zF A,wV];rfl,rfl,trivial⟩ rfl (by dsimp only;rw[BK _ G,zF A,xP];rfl)
   have A:¬(aC (es.map zQ) q t)=true:=by rw[ao];decide
   refine yU 8 ?_;refine aB (i+1,_,g) ⟨dO,Z,by dsimp only;rw[BK _ G,zD A,yD];exact hg⟩ dO ⟨rfl,rfl,rfl,rfl,by dsimp only;rw[BK _ G,zD A,yD];rfl,rfl,trivial⟩ rfl (by dsimp only;rw[BK _ G,zD A,yD])
  refine DZ ?_ ?_<;>intro ab bi
  ·refine DZ ?_ ?_<;>intro ap bj
   ·refine yU 6 ?_;refine dJ 128 (.bool (aC (es.map zQ) q t)) rfl (zC aP (by have N:q.r=[97,108,108]:=BP ab;rw[aV hk,N];show _=dF _ _ Ix.b9V _ _;rw[Ix.b8g,zH (by rw[←a6];have h2:=DK ap;omega),yJ,a6];exact d0a _ _)) ?_;refine DF ?_ ?_<;>intro aq
    ·have A:(aC (es.map zQ) q t)=true:=aq;refine zW (a8+i*2) ?_;refine aA (CX FY BM (bJ a2) (AY AP ac G)) ?_;refine yU 1 ?_;intro _ _;refine KT 15 [_,_] hg ?_;intro dg cu;refine yU 9 ?_;refine aJ (aF (bC aT)) ?_;refine aB (i+1,_,dg) ⟨dO,Z,by dsimp only;rw[BK _ G,zF A,wV,xP];exact cu⟩ dO ⟨rfl,rfl,rfl,rfl,by dsimp only;rw[BK _ G,zF A,wV];rfl,rfl,trivial⟩ rfl (by dsimp only;rw[BK _ G,zF A,xP];rfl)
    have A:¬(aC (es.map zQ) q t)=true:=by rw[aq];decide
    refine yU 8 ?_;refine aB (i+1,_,g) ⟨dO,Z,by dsimp only;rw[BK _ G,zD A,yD];exact hg⟩ dO ⟨rfl,rfl,rfl,rfl,by dsimp only;rw[BK _ G,zD A,yD];rfl,rfl,trivial⟩ rfl (by dsimp only;rw[BK _ G,zD A,yD])
   refine yU 6 ?_;refine dJ 128 (.bool (aC (es.map zQ) q t)) rfl (zC aP (by have N:q.r=[97,108,108]:=BP ab;rw[aV hk,N];show _=dF _ _ Ix.b9V _ _;rw[Ix.b8g,zI (by rw[←a6];have h2:=DN ap;omega),bT])) ?_;refine DF ?_ ?_<;>intro ar
   ·have A:(aC (es.map zQ) q t)=true:=ar;refine zW (a8+i*2) ?_;refine aA (CX FY BM (bJ a2) (AY AP ac G)) ?_;refine yU 1 ?_;intro _ _;refine KT 15 [_,_] hg ?_;intro dh cx;refine yU 9 ?_;refine aJ (aF (bC aT)) ?_;refine aB (i+1,_,dh) ⟨dO,Z,by dsimp only;rw[BK _ G,zF A,wV,xP];exact cx⟩ dO ⟨rfl,rfl,rfl,rfl,by dsimp only;rw[BK _ G,zF A,wV];rfl,rfl,trivial⟩ rfl (by dsimp only;rw[BK _ G,zF A,xP];rfl)
   have A:¬(aC (es.map zQ) q t)=true:=by rw[ar];decide
   refine yU 8 ?_;refine aB (i+1,_,g) ⟨dO,Z,by dsimp only;rw[BK _ G,zD A,yD];exact hg⟩ dO ⟨rfl,rfl,rfl,rfl,by dsimp only;rw[BK _ G,zD A,yD];rfl,rfl,trivial⟩ rfl (by dsimp only;rw[BK _ G,zD A,yD])
  exact absurd (da.resolve_left (CB a1)) (CB ab)
 refine yU 12 ?_;rw[tX (oM:(es.map (·.t)).length≤i)]at hg ⊢;refine aJ (aF aT) ?_;refine Ej.perm (H':=gH 42 (((es.map (·.t)).filter fun t=>aC (es.map zQ) q t).flatMap recC) g++[]) (.of_eq (yD _)) ?_;refine Ej.keepR AP dE hg rfl (fun _ _ hv=>?_);refine zM ?_;exact⟨_,_,rfl,fun t ht=>by rw[←a9S];exact a9M ht,hv,FD (wP _ _) oM,rfl⟩
structure SaS where
  J:Heap
  la:List Ix.Rec
  lb:List Ix.Rec
  p1:Option Addr
  c1:Nat
  p2:Option Addr
  c2:Nat
  P:Option Addr
def c0A (rb:Nat) (es:List DT) (q:Cq.Qn):Prop:=∀(p:Option Addr) (c:Nat) (tv:Value) (I:Heap),PS I q.ps p→VF I rb es→zJ recC I (es.map (·.t)) tv→q.wide≤10000000→Cq.form q=true→
 yY aK 54 [ptr rb 0,.agg (BR q p c).toArray,tv] I [] (fun e I' H'=>∃v,e= .returned v∧zJ recC I' (aZ (es.map zQ) q) v∧H'=[])
theorem b2L rb es (ao:eH (es.map zQ))(b3:eP (es.map zQ)) q (ih:∀q',Cq.Qn.size q'<q.size→c0A rb es q'):c0A rb es q:=by
 intro p c _ I b4 hx A b5 a2;have bq:(es.map (·.t)).length≤1000:=by rw[wO];exact hx.len
 have br:(es.map zQ).length≤1000:=by rw[wO];exact hx.len
 obtain⟨pt,ct,rfl⟩:=EF A;refine zN func54 fun w0 _=>?_;refine yU 3 ?_;intro b1 _;refine yU 18 ?_;refine Cj.join (ι:=SaS) (fun y=>y.la.length≤1000000∧y.lb.length≤1000000∧zJ recC y.J y.la (.slice y.p1 y.la.length y.c1)∧zJ recC y.J y.lb (.slice y.p2 y.lb.length y.c2)∧zJ recC y.J (es.map (·.t)) (.slice pt (es.map (·.t)).length ct)∧∀t∈(es.map zQ).map (·.1),b3s q.k (decide (t∈y.la)) (decide (t∈y.lb))=aC (es.map zQ) q t) (fun y=>[(2,.slice pt (es.map (·.t)).length ct),(4,ptr b1 0),(7,.slice none 0 0),(8,.slice y.p1 y.la.length y.c1),(9,.slice y.p2 y.lb.length y.c2)]) (fun y=>y.J) (fun y=>[(b1,yV 73 (BR q y.P c))]) ?_ (fun G=>?_)
 ·rintro⟨J8,la,lb,p1,c1,p2,c2,P8⟩ ⟨a7,ap,M,a4,A,Z⟩;dsimp only at a7 ap M a4 A Z ⊢;refine yU 7 ?_;refine bQ (ι:=Nat×Gs) (fun y=>y.1≤(es.map (·.t)).length∧AL w0.heap.size 2 (((es.map (·.t)).take y.1).filter fun t=>aC (es.map zQ) q t).length ((((es.map (·.t)).take y.1).filter fun t=>aC (es.map zQ) q t).flatMap recC) y.2) (fun y=>(es.map (·.t)).length-y.1) (fun y=>[(2,.slice pt (es.map (·.t)).length ct),(4,ptr b1 0),(7,gV (((es.map (·.t)).take y.1).filter fun t=>aC (es.map zQ) q t).length y.2),(8,.slice p1 la.length c1),(9,.slice p2 lb.length c2),(10,i64 (y.1:Int))]) (fun y=>_) (fun y=>(b1,yV 73 (BR q P8 c))::gH 42 ((((es.map (·.t)).take y.1).filter fun t=>aC (es.map zQ) q t).flatMap recC) y.2) (0,none) ⟨sQ _,rfl,rfl⟩ rT rfl rfl ?_;rintro⟨i,g⟩ ⟨hi,hg⟩;dsimp only at hi hg ⊢;have bt:=a8n (fun t=>aC (es.map zQ) q t) (es.map (·.t)) i;refine yZ ?_ ?_<;>intro b6 aq
  ·have an:i<(es.map (·.t)).length:=oM;obtain⟨t,N⟩:∃x,(es.map (·.t))[i]?=some x:=⟨_,AA an⟩;have b7:=c2J N;have O:=Z t b7;obtain⟨_,_,ar,_,b8⟩:=id A;cases ar;obtain⟨tb,aa,_,_,_,_,rfl,ab,ac⟩:=b8 (zK an);refine zW (aa+i*2) ?_;refine aA (CX FY BM (bJ ab) (AY AP ac N)) ?_;refine zO (b0k la t _ oM _ M) ?_;refine zW (aa+i*2) ?_;refine aA (CX FY BM (bJ ab) (AY AP ac N)) ?_;refine zO (b0k lb t _ oM _ a4) ?_;refine yU 3 ?_;refine Cj.join (ι:=Unit) (fun _y=>True) (fun _y=>[(2,.slice (some ⟨tb,aa,none⟩) (es.map (·.t)).length ct),(4,ptr b1 0),(7,gV (((es.map (·.t)).take i).filter fun t=>aC (es.map zQ) q t).length g),(8,.slice p1 la.length c1),(9,.slice p2 lb.length c2),(10,i64 (i:Int)),(11,.bool (aC (es.map zQ) q t))]) (fun _y=>J8) (fun _y=>(b1,yV 73 (BR q P8 c))::gH 42 ((((es.map (·.t)).take i).filter fun t=>aC (es.map zQ) q t).flatMap recC) g) ?_ (fun G=>?_)
   ·rintro _ -;refine DF ?_ ?_<;>intro ad
    ·have Q:(aC (es.map zQ) q t)=true:=ad;refine zW (aa+i*2) ?_;refine aA (CX FY BM (bJ ab) (AY AP ac N)) ?_;refine yU 1 ?_;intro _ _;refine KT 15 [_,_] hg ?_;intro g5 b9;refine yU 9 ?_;refine aJ (aF (bC aT)) ?_;refine aB (i+1,g5) ⟨dO,by dsimp only;rw[BK _ N,zF Q,wV,xP];exact b9⟩ dO ⟨rfl,rfl,by dsimp only;rw[BK _ N,zF Q,wV];rfl,rfl,rfl,rfl,trivial⟩ rfl (by dsimp only;rw[BK _ N,zF Q,xP];rfl)
    have Q:¬(aC (es.map zQ) q t)=true:=by rw[ad];decide
    refine yU 8 ?_;refine aB (i+1,g) ⟨dO,by dsimp only;rw[BK _ N,zD Q,yD];exact hg⟩ dO ⟨rfl,rfl,by dsimp only;rw[BK _ N,zD Q,yD];rfl,rfl,rfl,rfl,trivial⟩ rfl (by dsimp only;rw[BK _ N,zD Q,yD])
   refine yZ ?_ ?_<;>intro ae au
   ·have a5:q.k=2:=BP ae;rw[a5]at O;refine EH ?_ ?_<;>intro af
    ·refine yU 5 ?_;exact G () _ _ _ trivial ⟨rfl,rfl,rfl,rfl,rfl,rfl,(zC (fun b=>some (aP b)) (by rw[←O,af];first|rfl|exact(yJ _).symm|exact(bT _).symm)),trivial⟩ rfl rfl
    refine yU 5 ?_;exact G () _ _ _ trivial ⟨rfl,rfl,rfl,rfl,rfl,rfl,(zC (fun b=>some (aP b)) (by rw[←O,af];first|rfl|exact(yJ _).symm|exact(bT _).symm)),trivial⟩ rfl rfl
   have av:q.k≠2:=CB ae;refine yZ ?_ ?_<;>intro ag aw
   ·have a5:q.k=3:=BP ag;rw[a5]at O;refine EH ?_ ?_<;>intro ah
    ·refine yU 5 ?_;exact G () _ _ _ trivial ⟨rfl,rfl,rfl,rfl,rfl,rfl,(zC (fun b=>some (aP b)) (by rw[←O,ah];first|rfl|exact(eU _).symm|exact(eG _).symm)),trivial⟩ rfl rfl
    refine yU 5 ?_;exact G () _ _ _ trivial ⟨rfl,rfl,rfl,rfl,rfl,rfl,(zC (fun b=>some (aP b)) (by rw[←O,ah];first|rfl|exact(eU _).symm|exact(eG _).symm)),trivial⟩ rfl rfl
   have ax:q.k≠3:=CB ag;refine yZ ?_ ?_<;>intro a8 aj
   ·have a5:q.k=4:=BP a8;rw[a5]at O;refine EH ?_ ?_<;>intro a9
    ·refine yU 6 ?_;exact G () _ _ _ trivial ⟨rfl,rfl,rfl,rfl,rfl,rfl,(zC (fun b=>some (aP b)) (by rw[←O,a9];first|rfl|exact(yJ _).symm|exact(bT _).symm)),trivial⟩ rfl rfl
    refine yU 6 ?_;exact G () _ _ _ trivial ⟨rfl,rfl,rfl,rfl,rfl,rfl,(zC (fun b=>some (aP b)) (by rw[←O,a9];first|rfl|exact(yJ _).symm|exact(bT _).symm)),trivial⟩ rfl rfl
   have ay:q.k≠4:=CB a8;refine yU 2 ?_;exact G () _ _ _ trivial ⟨rfl,rfl,rfl,rfl,rfl,rfl,(zC (fun b=>some (aP b)) (by rw[←O];unfold b3s;rw[zD av,zD ax,zD ay])),trivial⟩ rfl rfl
  refine yU 12 ?_;rw[tX (oM:(es.map (·.t)).length≤i)]at hg ⊢;refine aJ (aF aT) ?_;refine Ej.perm (H':=gH 42 (((es.map (·.t)).filter fun t=>aC (es.map zQ) q t).flatMap recC) g++[]) (.of_eq (yD _)) ?_;refine Ej.keepR AP dE hg rfl (fun _ _ hv=>?_);refine zM ?_;exact⟨_,rfl,by unfold aZ;rw[a9S];exact hv,rfl⟩
 refine yZ ?_ ?_<;>intro az al
 ·have hk:q.k=1:=oM;have ba:q.r∈bV:=by
   rw[Cq.a0w hk,yP,yP]at a2;exact yB.1 a2.1.2
  refine zX (c1C rb es q p c hk ba b5 ao b3 _ hx) ?_;intro _ _ _ am b0;have A:=A.mono am;obtain⟨_,la,h,bb,M,a7,rfl⟩:=b0;cases h;obtain⟨p1,c1,rfl⟩:=EF M;have Z:∀t∈(es.map zQ).map (·.1),b3s q.k (decide (t∈la)) (decide (t∈([]:List Ix.Rec)))=aC (es.map zQ) q t:=fun t ht=>by rw[hk,bb t ht];rfl
  refine yU 2 ?_;exact G ⟨_,la,[],p1,c1,none,0,p⟩ _ _ _ ⟨a7,sQ _,M,zJ.nil,A,Z⟩ rT rfl rfl
 have hk:q.k≠1:=oM;obtain⟨_,bc,bd,qa,qb,a6,be,bf⟩:=(Cq.WL a2).resolve_left hk;obtain⟨bl,off,cs',T,fr,pa,ca,pb,cb,rfl,a1,bg,bh,_,bi,ai⟩:=b4.a5W a6;have bo:=a6.size;have bp:=a6.wide;have bu:=a6.len;refine zW off ?_;refine aA (CX CW AU (bJ a1) bg) ?_;refine zX (ih qa oM pa ca _ _ bi hx A oM be) ?_;intro _ _ _ a0 hp22;have hx:=hx.mono a0;have A:=A.mono a0;have a1:=a0 _ _ a1;have ai:=ai.mono a0;obtain⟨_,h,M,rfl⟩:=hp22;cases h;obtain⟨bj,ca1,rfl⟩:=EF M;refine zW (off+5) ?_;refine aA (CX CW AU (bJ a1) bh) ?_;refine zX (ih qb oM pb cb _ _ ai hx A oM bf) ?_;intro _ _ _ a3 b2;have A:=A.mono a3;have a1:=a3 _ _ a1;have M:=M.mono a3;obtain⟨vb,h,a4,rfl⟩:=b2;cases h;obtain⟨bm,bn,rfl⟩:=EF a4;refine yU 2 ?_;exact G ⟨_,aZ (es.map zQ) qa,aZ (es.map zQ) qb,bj,ca1,bm,bn,some ⟨bl,off,none⟩⟩ _ _ _ ⟨FD (dM _ _) oM,FD (dM _ _) oM,M,a4,A,fun t ht=>by rw[c3z bc bd,a9M ht,a9M ht,Ix.a9Z hk a6]⟩ rT rfl rfl
theorem b6M A es (G:eH (es.map zQ))(M:eP (es.map zQ)) q:c0A A es q:=by
 suffices ∀n (q:Cq.Qn),q.size<n→c0A A es q from this _ q (sZ _)
 intro n
 induction n with
 |zero=>intro q h;omega
 |succ n N=>intro q h;exact b2L A es G M q fun O _=>N O oM
theorem c7j G es a b I (M:VF I G es):yY aK 56 [ptr G 0,AB a,AB b] I [] (fun e _ H'=>e= .returned (.bool (dA (es.map zQ) a b))∧H'=[]):=by
 refine zN func56 fun w0 _=>?_;refine yU 3 ?_;intro _ _;refine yU 1 ?_;intro _ _;refine zX (b2w G es a _ M) ?_;intro _ _ _ O Z;have M:=M.mono O;obtain⟨h,rfl⟩:=Z;cases h;refine zX (b2w G es b _ M) ?_;intro _ _ _ _ Q;obtain⟨h,rfl⟩:=Q;cases h;refine yZ ?_ ?_<;>intro A N
 ·refine yU 4 ?_;refine aA (a0i rfl rfl rfl) ?_;refine zV ?_;have a0:=bne_iff_ne.1 A;refine⟨?_,rfl⟩;unfold dA;rw[zD a0]
 refine zO (a3n a b _) ?_;refine zV ?_;have he:=EC A;refine⟨?_,rfl⟩;unfold dA;rw[zF he]
structure RW where
  i:Nat
  J:Heap
  out:List Ix.Rec
  v:Value
theorem c8G rb es q p c (c3:q.size≤1000000000)(bg:q.wide≤10000000)(hR:Cq.right q=true)(b0:eH (es.map zQ))(bh:eP (es.map zQ)) I (ai:PS I q.ps p)(N:VF I rb es):yY aK 22 [ptr rb 0,.agg (BR q p c).toArray] I [] (fun e I' H'=>∃v r,e= .returned (.tuple #[v,i64 0])∧Ix.NK (es.map zQ) q r∧zJ recC I' r v∧H'=[]):=by
 have ar:Cq.form q=true:=by unfold Cq.right at hR;rw[yP]at hR;exact hR.1
 have bz:=dM (es.map zQ) q;have c4:(es.map zQ).length≤1000:=by rw[wO];exact N.len
 refine zN func22 fun w0 _=>?_;refine yU 3 ?_;intro _ _;refine zO (c6B q p c (by have:=Cq.b3b q;omega) _ ai) ?_;refine dJ 13 (.bool true) rfl (zC aP hR) ?_;refine yU 24 ?_;refine aX [0] [] 6 kR ?_;refine zX ((let ⟨_,_,hR⟩:=N.ex;a8G rb _ es (by have:=N.len;omega) _ hR.1 hR.2)) ?_;intro _ I6 _ am bi;have N:=N.mono am;have ai:=ai.mono am;obtain⟨_,h,ax,rfl⟩:=bi;cases h;obtain⟨_,_,rfl⟩:=EF ax;refine zX (b6M rb es b0 bh q p c _ _ ai N ax bg ar) ?_;intro _ bj _ au b1;have N:=N.mono au;obtain⟨_,h,aj,rfl⟩:=b1;cases h;obtain⟨pl,cl,rfl⟩:=EF aj;refine yU 16 ?_;refine Cj.keep (aF bZ) ?_;refine bQ (ι:=RW) (fun y=>y.i≤(aZ (es.map zQ) q).length∧Le bj y.J∧Ix.a0U (es.map zQ) (aZ (es.map zQ) q) y.out y.i∧zJ recC y.J y.out y.v) (fun y=>(aZ (es.map zQ) q).length-y.i) (fun y=>[(0,ptr rb 0),(7,.slice pl (aZ (es.map zQ) q).length cl),(8,y.v),(9,i64 (y.i:Int))]) (fun y=>y.J) (fun y=>[]) ⟨0,_,[],_⟩ ⟨sQ _,dU _,Ix.a0U.nil _ _,zJ.nil⟩ rT rfl rfl ?_;rintro⟨i,J1,out,_⟩ ⟨hi,G,a3,A⟩;dsimp only at hi G a3 A ⊢;have N:=N.mono G;have aj:=aj.mono G;obtain⟨po,co,rfl⟩:=EF A;have c5:=a3.len;refine yZ ?_ ?_<;>intro b2 av
 ·have ay:i<(aZ (es.map zQ) q).length:=oM;obtain⟨t,ae⟩:∃x,(aZ (es.map zQ) q)[i]?=some x:=⟨_,AA ay⟩;obtain⟨_,_,b3,_,bl⟩:=id aj;cases b3;obtain⟨lb,lo,_,_,_,_,rfl,M,an⟩:=bl (zK ay);refine yU 11 ?_;refine bQ (ι:=Nat×Heap) (fun y=>y.1≤out.length∧Le J1 y.2∧∀x∈out.take y.1,Ix.JK (es.map zQ) x t) (fun y=>out.length-y.1) (fun y=>[(0,ptr rb 0),(7,.slice (some ⟨lb,lo,none⟩) (aZ (es.map zQ) q).length cl),(8,.slice po out.length co),(9,i64 (i:Int)),(10,i64 (y.1:Int))]) (fun y=>y.2) (fun y=>[]) (0,_) ⟨sQ _,dU _,fun x N=>by simp at N⟩ rT rfl rfl ?_;rintro⟨k,K1⟩ ⟨a0,a2,aa⟩;dsimp only at a0 a2 aa ⊢;have G:=G.trans a2;have M:=a2 _ _ M;have N:=N.mono a2;have A:=A.mono a2;refine yU 2 ?_;refine aX [] [] 16 kR ?_;have ao:=M;refine yU 5 ?_;refine JA.split 33 rfl (fun O=>?_) (fun O=>?_)
  rotate_left
  ·have aw:=DN O;refine yU 20 ?_;have ab:∀x,out[k]?=some x→dA (es.map zQ) x t=false:=fun x al=>absurd (xC.1 al).1 (by have h:=DN O;omega);have ac:=a3.next (Ix.a9K N.JC q) ae aa ab a0;refine aX [] [] 10 kR ?_;refine yU 2 ?_;refine dP CP (fun a4=>?_);refine bG 2 rfl a4 (FZ (off':=lo+i*2) JI BM) ?_;refine bG 3 rfl a4 (CX FY BM (cZ M) (AY AP an ae)) ?_;refine bG 5 rfl a4 zS ?_;refine bG 6 rfl a4 zS ?_;refine bG 7 rfl a4 (MH (j:=k) rfl rfl rfl JI BM rfl a0 (by obtain⟨_,_,a5,af,_⟩:=id A;cases a5;exact af)) ?_;refine qq2 4 rfl (CY JI BM VT (bH rfl aY) ?_);intro bm b4;refine⟨fx0,?_⟩;refine qq2 8 rfl (zT (by':=15) (n:=1) (g:=some (bm,1,[])) (xs:=recC t) [] rfl rfl rfl rfl rfl JI (.inr ⟨_,JI⟩) kR BM VT rfl ⟨b4,rfl,rfl⟩ rfl (dH AP (zJ.from AP A a0) (fun x _=>VX x)) (by rw[wS];omega) ?_);intro bn b5;refine yU 4 ?_;have ap:([t]++out.drop k).length=1+(out.drop k).length:=by rw[wV];rfl
   refine dV (H':=gH 42 (([t]++out.drop k).flatMap recC) bn++[]) (.of_eq (yD _)) ?_;refine dN AP dE b5 ap.symm (fun I7 Q a6=>?_);have G:=G.mono Q;have A:=A.mono Q;have M:=Q _ _ M;obtain⟨ps,cs,ag⟩:=EF a6;refine Cj.ez 11 (.slice ps ([t]++out.drop k).length cs) rfl ag ?_;rw[ag]at a6;refine yU 1 ?_;refine aS rfl (a3h rfl rfl rfl JI BM ?_);intro bo b6;refine yU 2 ?_;refine aA (IG (k:=k) rfl rfl rfl JI BM rfl (by obtain⟨_,_,a5,af,_⟩:=id A;cases a5;omega)) ?_;refine aS rfl (zT (by':=15) (n:=0) (g:=some (bo,0,[])) (xs:=[]) [] rfl rfl rfl rfl rfl JI (.inr ⟨_,JI⟩) kR BM VT rfl ⟨b6,rfl,rfl⟩ rfl (dH AP (dY A a0) (fun x _=>VX x)) (by rw[wI];omega) ?_);intro _ b7;refine yU 1 ?_;refine aS rfl (zT (by':=15) [] rfl rfl rfl rfl rfl JI (.inr ⟨_,JI⟩) kR BM VT rfl b7 rfl (dH AP a6 (fun x _=>VX x)) (by rw[wI,wV,wS];simp only[wU,wL];omega) ?_);intro bp b8;refine yU 4 ?_;have h3:(out.take k++([t]++out.drop k)).length=0+(out.take k).length+([t]++out.drop k).length:=by rw[wV,sS]
   refine dV (H':=gH 42 ((out.take k++([t]++out.drop k)).flatMap recC) bp++[]) (by rw[xP];exact .of_eq (yD _)) ?_;refine dN AP dE (by rw[xP];exact b8) h3.symm (fun I6 a1 a7=>?_);have G:=G.mono a1;have M:=a1 _ _ M;rw[←yE]at a7;refine yU 5 ?_;refine aB ⟨i+1,_,_,_⟩ ⟨dO,G,ac,a7⟩ dO rT rfl rfl
  have aw:=DK O;have az:k<out.length:=oM;obtain⟨o,aq⟩:∃x,out[k]?=some x:=⟨_,AA az⟩;obtain⟨_,_,b9,_,bq⟩:=id A;cases b9;obtain⟨ob,oo,_,_,_,_,rfl,a8,br⟩:=bq (zK az);refine yU 3 ?_;refine dP CP (fun ad=>?_);refine JA.tkG 8 4 33 true _ rfl ad rfl rfl O (FZ (off':=oo+k*2) JI BM) ?_;refine yU 2 ?_;refine dP CP (fun ad=>?_);refine JA.tkG 12 4 33 true _ rfl ad rfl rfl O (FZ (off':=lo+i*2) JI BM) ?_;refine JA.tkG 13 4 33 true _ rfl ad rfl rfl O (CX FY BM (cZ ao) (AY AP an ae)) ?_;refine JA.stepG 9 4 33 true _ kR rfl rfl rfl rfl O (CU (CX FY BM (bJ a8) (AY AP br aq)) ?_);refine zX (c7j rb es o t _ N) ?_;intro _ _ _ Z ba;have G:=G.mono Z;have N:=N.mono Z;have A:=A.mono Z;have M:=Z _ _ M;have a2:=a2.mono Z;have a8:=Z _ _ a8;obtain⟨h,rfl⟩:=ba;cases h;refine DF ?_ ?_<;>intro ah
  ·have bt:dA (es.map zQ) o t=true:=ah;refine yU 9 ?_;refine aB (k+1,_) ⟨dO,a2,Ix.b8V aa aq bt⟩ dO rT rfl rfl
  refine yU 6 ?_;have ab:∀x,out[k]?=some x→dA (es.map zQ) x t=false:=fun x al=>by rw[aq]at al;cases al;exact ah
  have ac:=a3.next (Ix.a9K N.JC q) ae aa ab a0;refine aX [] [] 10 kR ?_;refine yU 2 ?_;refine dP CP (fun a9=>?_);refine bG 2 rfl a9 (FZ (off':=lo+i*2) JI BM) ?_;refine bG 3 rfl a9 (CX FY BM (cZ M) (AY AP an ae)) ?_;refine bG 5 rfl a9 zS ?_;refine bG 6 rfl a9 zS ?_;refine bG 7 rfl a9 (MH (j:=k) rfl rfl rfl JI BM rfl a0 (by obtain⟨_,_,a5,af,_⟩:=id A;cases a5;exact af)) ?_;refine qq2 4 rfl (CY JI BM VT (bH rfl aY) ?_);intro bu bb;refine⟨fx0,?_⟩;refine qq2 8 rfl (zT (by':=15) (n:=1) (g:=some (bu,1,[])) (xs:=recC t) [] rfl rfl rfl rfl rfl JI (.inr ⟨_,JI⟩) kR BM VT rfl ⟨bb,rfl,rfl⟩ rfl (dH AP (zJ.from AP A a0) (fun x _=>VX x)) (by rw[wS];omega) ?_);intro bv bc;refine yU 4 ?_;have ap:([t]++out.drop k).length=1+(out.drop k).length:=by rw[wV];rfl
  refine dV (H':=gH 42 (([t]++out.drop k).flatMap recC) bv++[]) (.of_eq (yD _)) ?_;refine dN AP dE bc ap.symm (fun I7 Q a6=>?_);have G:=G.mono Q;have A:=A.mono Q;have M:=Q _ _ M;have a8:=Q _ _ a8;obtain⟨ps,cs,ag⟩:=EF a6;refine Cj.ez 11 (.slice ps ([t]++out.drop k).length cs) rfl ag ?_;rw[ag]at a6;refine yU 1 ?_;refine aS rfl (a3h rfl rfl rfl JI BM ?_);intro bw bd;refine yU 2 ?_;refine aA (IG (k:=k) rfl rfl rfl JI BM rfl (by obtain⟨_,_,a5,af,_⟩:=id A;cases a5;omega)) ?_;refine aS rfl (zT (by':=15) (n:=0) (g:=some (bw,0,[])) (xs:=[]) [] rfl rfl rfl rfl rfl JI (.inr ⟨_,JI⟩) kR BM VT rfl ⟨bd,rfl,rfl⟩ rfl (dH AP (dY A a0) (fun x _=>VX x)) (by rw[wI];omega) ?_);intro _ be;refine yU 1 ?_;refine aS rfl (zT (by':=15) [] rfl rfl rfl rfl rfl JI (.inr ⟨_,JI⟩) kR BM VT rfl be rfl (dH AP a6 (fun x _=>VX x)) (by rw[wI,wV,wS];simp only[wU,wL];omega) ?_);intro bx bf;refine yU 4 ?_;have h3:(out.take k++([t]++out.drop k)).length=0+(out.take k).length+([t]++out.drop k).length:=by rw[wV,sS]
  refine dV (H':=gH 42 ((out.take k++([t]++out.drop k)).flatMap recC) bx++[]) (by rw[xP];exact .of_eq (yD _)) ?_;refine dN AP dE (by rw[xP];exact bf) h3.symm (fun I6 a1 a7=>?_);have G:=G.mono a1;have M:=a1 _ _ M;have a8:=a1 _ _ a8;rw[←yE]at a7;refine yU 5 ?_;refine aB ⟨i+1,_,_,_⟩ ⟨dO,G,ac,a7⟩ dO rT rfl rfl
 refine zV ?_;exact⟨_,out,rfl,a3.run oM,A,rfl⟩
end Go.Proofs.YtalapkjmkjmpjaaGreatDoor
end
section
namespace Go.Proofs.YtalapkjmkjmpjaaGreatDoor
open _root_.Go.Proofs.Tryz
open Go Go.Sx
theorem a8l c I:Pure aK 79 [u8 c] I (.bool (aU c)):=by
 refine zN func79 fun w0 _=>?_;refine EH ?_ ?_<;>intro A
 ·refine zM ?_;refine⟨?_,rfl,rfl⟩;simp_all[aU,aO]
 refine EH ?_ ?_<;>intro G
 ·refine zM ?_;refine⟨?_,rfl,rfl⟩;simp_all[aU,aO]
 refine EH ?_ ?_<;>intro M
 ·refine zM ?_;refine⟨?_,rfl,rfl⟩;simp_all[aU,aO]
 refine zM ?_;refine⟨?_,rfl,rfl⟩;simp_all[aU,aO]
theorem a8M c I:Pure aK 80 [u8 c] I (.bool (aO c)):=by
 refine zN func80 fun w0 _=>?_;refine zO (a8l _ _) ?_;refine EH ?_ ?_<;>intro A
 ·refine EH ?_ ?_<;>intro G
  ·refine EH ?_ ?_<;>intro M
   ·refine EH ?_ ?_<;>intro N
    ·refine EH ?_ ?_<;>intro O
     ·refine EH ?_ ?_<;>intro Q
      ·refine zM ?_;refine⟨?_,rfl,rfl⟩;simp_all[aU,aO]
      refine zM ?_;refine⟨?_,rfl,rfl⟩;simp_all[aU,aO]
     refine zM ?_;refine⟨?_,rfl,rfl⟩;simp_all[aU,aO]
    refine zM ?_;refine⟨?_,rfl,rfl⟩;simp_all[aU,aO]
   refine zM ?_;refine⟨?_,rfl,rfl⟩;simp_all[aU,aO]
  refine zM ?_;refine⟨?_,rfl,rfl⟩;simp_all[aU,aO]
 refine zM ?_;refine⟨?_,rfl,rfl⟩;simp_all[aU,aO]
theorem c3A(s:List UInt8)(i:Nat)(hi:i<s.length)(hs:s.length≤281474976710656) I:Pure aK 81 [str s,i64 i] I (.tuple #[str (bK s i).1,i64 (bK s i).2]):=by
 refine zN func81 fun w0 _=>?_;refine yU 20 ?_;refine bQ (ι:=Nat×List UInt8) (fun j=>Cq.QF s i j.1 j.2) (fun j=>s.length+2-j.1) (fun j=>[(0,str s),(1,i64 (j.1:Int)),(6,str j.2)]) (fun j=>I) (fun j=>[]) (i+1,[]) (Cq.QF.start s i hi) rT rfl rfl ?_;rintro⟨k,out⟩ G;dsimp only at G ⊢;have a9:=G.le;have aa:=G.ol;refine yZ ?_ ?_<;>intro a5 a2
 ·have M:k<s.length:=oM;obtain⟨c,A⟩:∃c,s[k]?=some c:=⟨_,AA M⟩;refine yU 8 ?_;refine aA (FB rfl rfl rfl AV oM (by simpa using A)) ?_;refine yZ ?_ ?_<;>intro a6 N
  ·have a0:c=34:=OW (d:=34) N;refine zM ?_;rw[G.quote c A a0];exact rT
  have a0:c≠34:=LQ (d:=34) N;refine yU 7 ?_;refine aA (FB rfl rfl rfl AV oM (by simpa using A)) ?_;refine yZ ?_ ?_<;>intro a7 O
  ·have Q:c=92:=OW (d:=92) O;refine yZ ?_ ?_<;>intro a8 a3
   ·obtain⟨d,Z⟩:∃d,s[k+1]?=some d:=⟨_,AA oM⟩;refine yU 6 ?_;refine aA (AO (p:=k+1) (q:=k+2) rfl rfl AV ⟨_,rfl⟩ ⟨_,rfl⟩ oM oM) ?_;refine dJ 35 (str [d]) rfl (zC str (b9T Z)) ?_;refine aA (BQ rfl rfl rfl (by first|omega|(simp only[wV];omega)|(simp;omega))) ?_;refine aA BI ?_;refine J.UM (aA zS ?_);refine aA (FM rfl rfl rfl (IJ oM)) ?_;refine aA BI ?_;refine dL (bD ?_);refine aB (k+2,out++[d]) (G.esc M c A Q d Z) (by simp;omega) rT rfl rfl
   refine Cj.skip (dB (bF (aA zS ?_)));refine aA (FM rfl rfl rfl (IJ oM)) ?_;refine aA BI ?_;refine dL (bD ?_);refine aB (k+2,out) (G.fin M c A Q oM) (by simp;omega) rT rfl rfl
  have Q:c≠92:=LQ (d:=92) O;refine Cj.skip (dB (Cj.seq (Cj.sr (aA zS ?_))));refine aA zS ?_;refine aA (a5r rfl rfl AV) ?_;refine aA (a8P rfl rfl rfl) ?_;refine J.ns ?_;refine dW rfl ?_ ?_<;>intro a1
  rotate_left
  ·have a4:=DN a1;exact absurd M oM
  have a4:=DK a1;refine bF (aA zS ?_);refine aA zS ?_;refine aA zS ?_;refine aA zS ?_;refine aA (FM rfl rfl rfl (IJ oM)) ?_;refine aA (AO (p:=k) (q:=k+1) rfl rfl AV ⟨_,rfl⟩ ⟨_,rfl⟩ oM oM) ?_;refine J.eqv 35 rfl (show _=str [c] from zC str (b9T A)) ?_;refine aA (BQ rfl rfl rfl (by first|omega|(simp only[wV];omega)|(simp;omega))) ?_;refine aA BI ?_;refine J.UM (aA zS ?_);refine aA (FM rfl rfl rfl (IJ oM)) ?_;refine aA BI ?_;refine dL (bD ?_);refine aB (k+1,out++[c]) (G.byte M c A a0 Q) (by simp;omega) rT rfl rfl
 refine zM ?_;rw[G.past oM];exact rT
theorem a4o s (hs:s.length≤4000000000) I:Pure aK 138 [str s] I (str (Cq.small s)):=by
 refine zN func138 fun w0 _=>?_;refine yU 8 ?_;refine aS rfl (XK rfl rfl rfl rfl AV KE tU5 ?_);intro b1 c2 Z a0 _ a2;refine yU 10 ?_;refine bQ (ι:=Nat×List UInt8) (fun j=>Cq.YV s j.1 j.2) (fun j=>s.length-j.1) (fun j=>[(0,str s),(3,.slice (some ⟨b1,0,none⟩) s.length c2),(4,i64 (j.1:Int))]) (fun j=>I) (fun j=>[(b1,.cells (DJ j.2++Z).toArray 5 (a0,a0+1))]) (0,s) ⟨oM,sI⟩ rT rfl rfl ?_;rintro⟨k,l⟩ M;dsimp only at M ⊢;have a7:=M.le;have a1:=M.len;refine yZ ?_ ?_<;>intro a5 a3
 ·have a6:k<s.length:=oM;obtain⟨c,G⟩:∃c,s[k]?=some c:=⟨_,AA a6⟩;have N:=c9M l Z k c (M.get G);refine zW k ?_;refine aA (DI tA5 (yX.at 0 rfl) N) ?_;refine EH ?_ ?_<;>intro O
  ·refine yU 2 ?_;refine J.zg (FZ (off':=k) KE tS5) ?_;refine J.zg (DI tA5 (yX.at 0 rfl) N) ?_;refine yZ ?_ ?_<;>intro Q a4
   ·refine zW k ?_;refine aA (DI tA5 (yX.at 0 rfl) N) ?_;refine aA (c9I 32 rfl rfl rfl rfl) ?_;refine zW k ?_;refine aS rfl (MG 0 rfl rfl rfl rfl rfl rfl tS5 rfl (.inr (by simp only[wV,NT,a1]at a2 ⊢;omega)) (by simp only[wV,NT];omega) dQ ?_);refine yU 8 ?_;have A:dK c=c+32:=by unfold dK;rw[zF];have:=DK O;have:=DK Q;omega
    refine aB (k+1,l.set k (c+32)) (A▸M.next G) (by simp;omega) rT rfl (by dsimp only;rw[c9n _ _ _ _ oM])
   refine yU 8 ?_;have A:dK c=c:=by unfold dK;rw[zD];have:=DN Q;omega
   refine aB (k+1,l) (M.same G A) (by simp;omega) rT rfl rfl
  refine yU 17 ?_;have A:dK c=c:=by unfold dK;rw[zD];have:=DN O;omega
  refine aB (k+1,l) (M.same G A) (by simp;omega) rT rfl rfl
 refine yU 8 ?_;refine aA (OE l rfl rfl a1 KE AV tU5 (yX.at 0 rfl) (by rw[xU,List.take_left' (by rw[NT])])) ?_;refine zV ?_;rw[←M.done oM];exact rT
theorem b9u I:yY aK 140 [] I [] (fun e M H'=>(∃v,e= .returned v∧IK 9 M Cq.indexes v)∧H'=[]):=by
 refine zN func140 fun w0 _=>?_;refine yU 8 ?_;intro N G;refine yU 4 ?_;refine bW G (fun _ _ A=>?_);refine zM ?_;exact⟨⟨_,rfl,N,6,[],rfl,A⟩,rfl⟩
theorem b5F I:yY aK 142 [] I [] (fun e M H'=>(∃v,e= .returned v∧IK 9 M bV v)∧H'=[]):=by
 refine zN func142 fun w0 _=>?_;refine yU 8 ?_;intro N G;refine yU 4 ?_;refine bW G (fun _ _ A=>?_);refine zM ?_;exact⟨⟨_,rfl,N,6,[],rfl,A⟩,rfl⟩
theorem b4f l x v (hl:l.length≤1000000) I (hv:IK 9 I l v):Pure aK 139 [v,str x] I (.bool (l.contains x)):=by
 obtain⟨bb,cc,sp,rfl,Z⟩:=hv;refine zN func139 fun w0 _=>?_;refine yU 12 ?_;refine bQ (ι:=Nat) (fun k=>k≤l.length∧∀j y,j<k→l[j]?=some y→y≠x) (fun k=>l.length-k) (fun k=>[(0,.slice (some ⟨bb,0,none⟩) l.length cc),(1,str x),(5,i64 (k:Int))]) (fun k=>I) (fun k=>[]) 0 ⟨oM,fun j y h=>absurd h oM⟩ rT rfl rfl ?_;rintro k ⟨_,M⟩;refine yZ ?_ ?_<;>intro a0 O
 ·have a1:k<l.length:=oM;obtain⟨y,A⟩:∃y,l[k]?=some y:=⟨_,AA a1⟩;refine zW k ?_;refine aA (DI DU (bJ Z) (EL A)) ?_;refine yZ ?_ ?_<;>intro a2 G
  ·refine zM ?_;have:l.contains x=true:=by rw[yB];exact CJ (G▸A)
   rw[this];exact rT
  refine yU 8 ?_;refine aB (k+1) ⟨oM,fun j y N Q=>by rcases Nat.lt_succ_iff_lt_or_eq.1 N with h|rfl;exact M j y h Q;rw[A]at Q;cases Q;exact G⟩ oM rT rfl rfl
 refine zM ?_;have:l.contains x=false:=by
  rw[yN];intro h;rw[yB]at h;obtain⟨j,N⟩:=List.mem_iff_getElem?.1 h;obtain⟨_,_⟩:=xC.1 N;exact M j x oM N rfl
 rw[this];exact rT
theorem OG t (ht:t.text.length≤4000000000) I:Pure aK 83 [a7D t] I (i64 (bU t:Nat)):=by
 refine zN func83 fun w0 _=>?_;refine yU 3 ?_;intro _ _;refine zO (a4o _ oM _) ?_;refine yZ ?_ ?_<;>intro O A
 ·have hk:¬t.kind=3:=oM;refine zV ?_;refine⟨?_,rfl,rfl⟩
  simp_all[bU]
 have hk:t.kind=3:=oM;refine yZ ?_ ?_<;>intro Q G
 ·refine zV ?_;refine⟨?_,rfl,rfl⟩
  simp_all[bU]
 refine yZ ?_ ?_<;>intro Z M
 ·refine zV ?_;refine⟨?_,rfl,rfl⟩
  simp_all[bU]
 refine yZ ?_ ?_<;>intro a0 N
 ·refine zV ?_;refine⟨?_,rfl,rfl⟩
  simp_all[bU]
 refine zV ?_;refine⟨?_,rfl,rfl⟩
 simp_all[bU]
theorem b6K t (Z:t.text.length≤4000000000) I:yY aK 137 [a7D t] I [] (fun e I' H'=>e= .returned (.bool (dD t))∧H'=[]):=by
 refine zN func137 fun w0 _=>?_;refine yU 3 ?_;intro _ _;refine yU 4 ?_;refine aX [0] [] 6 kR ?_;refine zX (b5F _) ?_;intro _ _ _ _ M;obtain⟨⟨_,N,G⟩,rfl⟩:=M;cases N;refine zO (a4o _ oM _) ?_;refine zO (b4f bV _ _ dE _ G) ?_;refine EH ?_ ?_<;>intro O
 ·refine EH ?_ ?_<;>intro A
  ·have Q:t.kind=3:=by have:=BP A;omega
   refine zV ?_;refine⟨?_,rfl⟩
   simp_all[dD,nb1]
  have Q:¬t.kind=3:=by have:=CB A;omega
  refine zV ?_;refine⟨?_,rfl⟩
  simp_all[dD,nb1]
 refine zV ?_;refine⟨?_,rfl⟩
 simp_all[dD,nb1]
end Go.Proofs.YtalapkjmkjmpjaaGreatDoor
end
section
namespace Go.Proofs.YtalapkjmkjmpjaaGreatDoor
open _root_.Go.Proofs.Tryz
open Go Go.Sx
theorem c0L s (hs:s.length≤1000000000) I:yY aK 49 [str s] I [] (fun e I' H'=>(∃v,e= .returned v∧d1e 127 I' (Cq.tokens s) v)∧H'=[]):=by
 refine zN func49 fun w0 _=>?_;refine yU 17 ?_;refine bQ (ι:=Nat×List Cq.Tok×Gs) (fun j=>Cq.a0C s j.1 j.2.1∧AL w0.heap.size 3 j.2.1.length (j.2.1.flatMap aI) j.2.2) (fun j=>s.length+1-j.1) (fun j=>[(0,str s),(3,gV j.2.1.length j.2.2),(4,i64 (j.1:Int))]) (fun j=>I) (fun j=>gH 127 (j.2.1.flatMap aI) j.2.2) (0,[],none) ⟨Cq.a0C.start s,rfl,rfl⟩ rT rfl rfl ?_;rintro⟨k,Z,g⟩ ⟨hk,hg⟩;dsimp only at hk hg ⊢;have a5:=hk.le;have cb:=hk.num;refine yZ ?_ ?_<;>intro br hc1p
 ·have bt:k<s.length:=oM;obtain⟨c,G⟩:∃c,s[k]?=some c:=⟨_,AA bt⟩;have Q:s[(k:Int).toNat]?=some c:=by simpa using G
  refine yU 7 ?_;refine aA (IC AV Q) ?_;refine zO (a8l _ _) ?_;refine DF ?_ ?_<;>intro b5
  ·have a0:aU c=true:=b5;refine yU 10 ?_;refine aB (k+1,Z,g) ⟨hk.blank G a0,hg⟩ dO rT rfl rfl
  have a0:aU c=false:=b5;refine yU 9 ?_;refine aA (AO (p:=k) (q:=k+1) rfl rfl AV ⟨_,rfl⟩ ⟨_,rfl⟩ oM oM) ?_;refine dJ 27 (str [c]) rfl (zC str (b9T G)) ?_;refine aA (zL (pl:= #[(0,1),(1,1),(2,1)]) rfl rfl JE rfl XO (fun w=>by simp[AZ,BD]) (aH rfl rfl rfl (aQ (aQ (aG aN))) (aH rfl rfl rfl (aG aN) (aH rfl rfl rfl (aQ (aG aN)) bM)))) ?_;refine aS rfl (EN rfl rfl rfl JE rfl ?_);intro b3 _;refine aS rfl (CG 0 EG (aG (aG (aG aN))) dQ ?_);refine J.ER (aA zS ?_);refine aA zS ?_;refine aA (IC AV Q) ?_;refine zO (a8M _ _) ?_;refine yU 9 ?_;refine aA (IC AV Q) ?_;refine yZ ?_ ?_<;>intro bu an
  ·have ab:c=34:=OW (d:=34) an;refine zO (c3A _ _ oM oM _) ?_;refine aA zS ?_;refine aA (JV rfl rfl rfl) ?_;refine aA (JV rfl rfl rfl) ?_;refine aA BI ?_;refine aA BI ?_;refine J.ER (aA zS ?_);refine aA zS ?_;refine aA (zL (pl:= #[(0,1),(1,1),(2,1)]) rfl rfl JE rfl XO (fun w=>by simp[AZ,BD]) (aH rfl rfl rfl (aQ (aQ (aG aN))) (aH rfl rfl rfl (aG aN) (aH rfl rfl rfl (aQ (aG aN)) bM)))) ?_;refine aS rfl (CG 0 EG (aG (aG (aG aN))) dQ ?_);refine J.a2t (bF (aA zS ?_));refine aA (QO rfl rfl rfl) ?_;refine J.ns ?_;refine yZ ?_ ?_<;>intro bv ao
   ·have bw:(bK s k).2=0:=by have:=ao;omega
    refine Cj.sr (aA zS ?_);refine aA zS ?_;refine aA (zL (pl:= #[(0,1),(1,1),(2,1)]) rfl rfl JE rfl XO (fun w=>by simp[AZ,BD]) (aH rfl rfl rfl (aQ (aQ (aG aN))) (aH rfl rfl rfl (aG aN) bM))) ?_;refine aS rfl (CY FV EG JE (bH rfl aY) ?_);intro _ _;refine aS rfl (zT (by':=31) [_,_] rfl rfl rfl rfl rfl FV (.inr ⟨_,FV⟩) kR EG JE rfl hg rfl (bP (yX.at 0 rfl) rfl rfl rfl) oM ?_);intro _ bx;refine aA BI ?_;refine J.ns (Cj.ret (dZ (eF (dZ (eF (Ej.b8q (eF (dZ ?_))))))));obtain⟨bb,cc,sp,rfl,a6⟩:=bx.some oM;refine dX (bY (bY dI)) ?_;refine bW a6 (fun I9 ap a7=>?_);refine Ej.bare ?_;refine Ej.YI rfl rfl rfl ?_;have N:=(hk.last ((Cq.b0V G a0 ab).1 bw) rfl);exact⟨⟨_,rfl,bb,cc,sp,by rw[N];simp[gV],by rw[a7,N];simp[aI,str]⟩,rfl⟩
   have bz:(bK s k).2≠0:=by have:=ao;omega
   refine Cj.skip (dB (bF (aA zS ?_)));refine aA BI ?_;refine dL (bD (dB (bF (aA zS ?_))));refine aA (DX UK EG (yX.at 0 rfl)) ?_;refine aS rfl (CY FV EG JE (bH rfl aY) ?_);intro _ _;refine aS rfl (zT (by':=31) [_,_] rfl rfl rfl rfl rfl FV (.inr ⟨_,FV⟩) kR EG JE rfl hg rfl (bP (yX.at 0 rfl) rfl rfl rfl) oM ?_);intro g9 hg9;refine yU 3 ?_;have M:=((Cq.b0V G a0 ab).2 bz);have a8:k<(bK s k).2:=by have:=(bI s k a5 (by rw[M];rfl)).1;rw[M]at this;exact this
   have A:=hk.push M rfl;have a2:=A.le;refine aJ (aF (aF aT)) ?_;refine aB ((bK s k).2,Z++[⟨2,(bK s k).1,k⟩],g9) ⟨A,by simpa[aI,str]using hg9⟩ dO ⟨rfl,by simp only[wV,wU,wL];rfl,rfl,trivial⟩ rfl (by simp[aI,str])
  have ab:c≠34:=LQ (d:=34) an;refine DF ?_ ?_<;>intro aq
  ·have ac:aO c=true:=aq;refine yU 8 ?_;refine bQ (ι:=Nat) (fun n=>Cq.KA s k n) (fun n=>s.length-n) (fun n=>[(0,str s),(3,gV Z.length g),(4,i64 (k:Int)),(6,ptr b3 0),(10,i64 (n:Int))]) (fun n=>I) (fun n=>(b3,yV 127 [i64 1,str [c],i64 (k:Int)])::gH 127 (Z.flatMap aI) g) k (Cq.KA.start oM) rT rfl rfl ?_;intro n hw;have ce:=hw.lo;have cf:=hw.le;refine EH ?_ ?_<;>intro ar
   ·have bc:=DK ar;obtain⟨c3,ad⟩:∃c3,s[n]?=some c3:=⟨_,AA oM⟩;have b6:s[(n:Int).toNat]?=some c3:=by simpa using ad
    refine yU 2 ?_;refine J.zg (IC AV b6) ?_;refine zO (a8M _ _) ?_;refine DF ?_ ?_<;>intro au
    ·have bd:aO c3=true:=au;refine yU 9 ?_;refine aB (n+1) (hw.next ad bd) oM rT rfl rfl
    refine yU 5 ?_;have b7:∀c,s[n]?=some c→aO c=false:=fun c' h=>by rw[ad]at h;cases h;exact au
    refine yU 6 ?_;refine aA (AO (p:=k) (q:=n) rfl rfl AV ⟨_,rfl⟩ ⟨_,rfl⟩ oM oM) ?_;refine aA (zL (pl:= #[(0,1),(1,1),(2,1)]) rfl rfl JE rfl XO (fun w=>by simp[AZ,BD]) (aH rfl rfl rfl (aQ (aQ (aG aN))) (aH rfl rfl rfl (aG aN) (aH rfl rfl rfl (aQ (aG aN)) bM)))) ?_;refine aS rfl (CG 0 EG (aG (aG (aG aN))) dQ ?_);refine J.UM (aA zS ?_);refine aA BI ?_;refine dL (bD (dB (bF (aA zS ?_))));refine aA (DX UK EG (yX.at 0 rfl)) ?_;refine aS rfl (CY FV EG JE (bH rfl aY) ?_);intro _ _;refine aS rfl (zT (by':=31) [_,_] rfl rfl rfl rfl rfl FV (.inr ⟨_,FV⟩) kR EG JE rfl hg rfl (bP (yX.at 0 rfl) rfl rfl rfl) oM ?_);intro c4 be;refine yU 3 ?_;have M:=(Cq.b5Y G a0 ac hw b7);have a8:k<n:=by have:=(bI s k a5 (by rw[M];rfl)).1;rw[M]at this;exact this
    have A:=hk.push M rfl;have a2:=A.le;refine aJ (aF (aF aT)) ?_;refine aB (n,Z++[⟨3,(s.take n).drop k,k⟩],c4) ⟨A,by simpa[aI,str]using be⟩ dO ⟨rfl,by simp only[wV,wU,wL];rfl,rfl,trivial⟩ rfl (by simp[aI,str])
   have bc:=DN ar;refine yU 13 ?_;have b7:∀c,s[n]?=some c→aO c=false:=fun c' h=>by obtain⟨h1,_⟩:=xC.1 h;omega
   refine yU 6 ?_;refine aA (AO (p:=k) (q:=n) rfl rfl AV ⟨_,rfl⟩ ⟨_,rfl⟩ oM oM) ?_;refine aA (zL (pl:= #[(0,1),(1,1),(2,1)]) rfl rfl JE rfl XO (fun w=>by simp[AZ,BD]) (aH rfl rfl rfl (aQ (aQ (aG aN))) (aH rfl rfl rfl (aG aN) (aH rfl rfl rfl (aQ (aG aN)) bM)))) ?_;refine aS rfl (CG 0 EG (aG (aG (aG aN))) dQ ?_);refine J.UM (aA zS ?_);refine aA BI ?_;refine dL (bD (dB (bF (aA zS ?_))));refine aA (DX UK EG (yX.at 0 rfl)) ?_;refine aS rfl (CY FV EG JE (bH rfl aY) ?_);intro _ _;refine aS rfl (zT (by':=31) [_,_] rfl rfl rfl rfl rfl FV (.inr ⟨_,FV⟩) kR EG JE rfl hg rfl (bP (yX.at 0 rfl) rfl rfl rfl) oM ?_);intro c5 bf;refine yU 3 ?_;have M:=(Cq.b5Y G a0 ac hw b7);have a8:k<n:=by have:=(bI s k a5 (by rw[M];rfl)).1;rw[M]at this;exact this
   have A:=hk.push M rfl;have a2:=A.le;refine aJ (aF (aF aT)) ?_;refine aB (n,Z++[⟨3,(s.take n).drop k,k⟩],c5) ⟨A,by simpa[aI,str]using bf⟩ dO ⟨rfl,by simp only[wV,wU,wL];rfl,rfl,trivial⟩ rfl (by simp[aI,str])
  have ac:aO c=false:=aq;refine yU 4 ?_;refine aA (IC AV Q) ?_;refine EH ?_ ?_<;>intro av
  ·have al:c=61:=OW (d:=61) (BP av);have b8:c=61∨c=62:= .inl al;refine EH ?_ ?_<;>intro aw
   ·have ax:=DK aw;obtain⟨d,a1⟩:∃d,s[k+1]?=some d:=⟨_,AA oM⟩;have a9:s[((k:Int)+1).toNat]?=some d:=by rw[show((k:Int)+1).toNat=k+1 by omega];exact a1
    refine yU 3 ?_;refine J.zg (IC AV a9) ?_;refine yZ ?_ ?_<;>intro ay b9
    ·have a3:d=61:=OW (d:=61) (BP ay);have h2:s[k+1]?=some 61:=a3▸a1;refine yU 6 ?_;refine aA (AO (p:=k) (q:=k+2) rfl rfl AV ⟨_,rfl⟩ ⟨_,rfl⟩ oM oM) ?_;refine dJ 108 (str [c,61]) rfl (zC str (c9V G h2)) ?_;refine yU 15 ?_;intro _ _;refine KT 31 [_,_] hg ?_;intro c6 bg;refine yU 3 ?_;have M:=(Cq.b8p G a0 b8 h2);have a8:k<k+2:=by have:=(bI s k a5 (by rw[M];rfl)).1;rw[M]at this;exact this
     have A:=hk.push M rfl;have a2:=A.le;refine aJ (aF (aF aT)) ?_;refine aB (k+2,Z++[⟨1,[c,61],k⟩],c6) ⟨A,by simpa[aI,str]using bg⟩ dO ⟨rfl,by simp only[wV,wU,wL];rfl,rfl,trivial⟩ rfl (by simp[aI,str])
    have a3:d≠61:=LQ (d:=61) (CB ay);refine yU 4 ?_;refine aA (IC AV Q) ?_;refine yZ ?_ ?_<;>intro bh ae
    ·have O:c=62:=OW (d:=62) ae;exact absurd (al.symm.trans O) dE
    have O:c≠62:=LQ (d:=62) ae;have a4:c≠62:=O;have aa:s[k+1]?≠some 61:=by
     intro h;rw[a1]at h;cases h;exact a3 rfl
    have am:¬(c=61∧s[k+1]?=some 61):=fun h=>aa h.2;refine yU 11 ?_;intro _ _;refine KT 31 [_,_] hg ?_;intro c7 bi;refine yU 3 ?_;have M:=(dR G a0 ab ac a4 am);have a8:k<k+1:=by have:=(bI s k a5 (by rw[M];rfl)).1;rw[M]at this;exact this
    have A:=hk.push M rfl;have a2:=A.le;refine aJ (aF (aF aT)) ?_;refine aB (k+1,Z++[⟨1,[c],k⟩],c7) ⟨A,by simpa[aI,str]using bi⟩ dO ⟨rfl,by simp only[wV,wU,wL];rfl,rfl,trivial⟩ rfl (by simp[aI,str])
   have ax:=DN aw;refine yU 14 ?_;refine aA (IC AV Q) ?_;refine yZ ?_ ?_<;>intro bj af
   ·have O:c=62:=OW (d:=62) af;exact absurd (al.symm.trans O) dE
   have O:c≠62:=LQ (d:=62) af;have a4:c≠62:=O;have aa:s[k+1]?≠some 61:=by
    intro h;obtain⟨h1,_⟩:=xC.1 h;omega
   have am:¬(c=61∧s[k+1]?=some 61):=fun h=>aa h.2;refine yU 11 ?_;intro _ _;refine KT 31 [_,_] hg ?_;intro c8 bl;refine yU 3 ?_;have M:=(dR G a0 ab ac a4 am);have a8:k<k+1:=by have:=(bI s k a5 (by rw[M];rfl)).1;rw[M]at this;exact this
   have A:=hk.push M rfl;have a2:=A.le;refine aJ (aF (aF aT)) ?_;refine aB (k+1,Z++[⟨1,[c],k⟩],c8) ⟨A,by simpa[aI,str]using bl⟩ dO ⟨rfl,by simp only[wV,wU,wL];rfl,rfl,trivial⟩ rfl (by simp[aI,str])
  have al:c≠61:=LQ (d:=61) (CB av);refine yU 2 ?_;refine J.zg (IC AV Q) ?_;refine EH ?_ ?_<;>intro az
  ·have ag:c=62:=OW (d:=62) (BP az);have b8:c=61∨c=62:= .inr ag;refine EH ?_ ?_<;>intro b0
   ·have ax:=DK b0;obtain⟨d,a1⟩:∃d,s[k+1]?=some d:=⟨_,AA oM⟩;have a9:s[((k:Int)+1).toNat]?=some d:=by rw[show((k:Int)+1).toNat=k+1 by omega];exact a1
    refine yU 3 ?_;refine J.zg (IC AV a9) ?_;refine yZ ?_ ?_<;>intro b1 ba
    ·have a3:d=61:=OW (d:=61) (BP b1);have h2:s[k+1]?=some 61:=a3▸a1;refine yU 6 ?_;refine aA (AO (p:=k) (q:=k+2) rfl rfl AV ⟨_,rfl⟩ ⟨_,rfl⟩ oM oM) ?_;refine dJ 108 (str [c,61]) rfl (zC str (c9V G h2)) ?_;refine yU 15 ?_;intro _ _;refine KT 31 [_,_] hg ?_;intro c9 bm;refine yU 3 ?_;have M:=(Cq.b8p G a0 b8 h2);have a8:k<k+2:=by have:=(bI s k a5 (by rw[M];rfl)).1;rw[M]at this;exact this
     have A:=hk.push M rfl;have a2:=A.le;refine aJ (aF (aF aT)) ?_;refine aB (k+2,Z++[⟨1,[c,61],k⟩],c9) ⟨A,by simpa[aI,str]using bm⟩ dO ⟨rfl,by simp only[wV,wU,wL];rfl,rfl,trivial⟩ rfl (by simp[aI,str])
    have a3:d≠61:=LQ (d:=61) (CB b1);refine yU 4 ?_;refine aA (IC AV Q) ?_;refine yU 4 ?_;refine dW rfl ?_ ?_<;>intro b2
    rotate_left
    ·have ah:=CB b2;have O:c≠62:=LQ (d:=62) ah;exact absurd ag O
    have ah:=BP b2;have O:c=62:=OW (d:=62) ah;have aa:s[k+1]?≠some 61:=by
     intro h;rw[a1]at h;cases h;exact a3 rfl
    refine Cj.sr (aA zS ?_);refine aA zS ?_;refine aA (zL (pl:= #[(0,1),(1,1),(2,1)]) rfl rfl JE rfl XO (fun w=>by simp[AZ,BD]) (aH rfl rfl rfl (aQ (aQ (aG aN))) (aH rfl rfl rfl (aG aN) bM))) ?_;refine aS rfl (CY FV EG JE (bH rfl aY) ?_);intro _ _;refine aS rfl (zT (by':=31) [_,_] rfl rfl rfl rfl rfl FV (.inr ⟨_,FV⟩) kR EG JE rfl hg rfl (bP (yX.at 0 rfl) rfl rfl rfl) oM ?_);intro _ bn;refine yU 10 ?_;obtain⟨bb,cc,sp,rfl,a6⟩:=bn.some oM;refine dX (bY (bY dI)) ?_;refine bW a6 (fun I9 ap a7=>?_);refine zV ?_;have N:=(hk.last (Cq.b7z G a0 O aa) rfl);exact⟨⟨_,rfl,bb,cc,sp,by rw[N];simp[gV],by rw[a7,N];simp[aI,str]⟩,rfl⟩
   have ax:=DN b0;refine yU 14 ?_;refine aA (IC AV Q) ?_;refine yU 4 ?_;refine dW rfl ?_ ?_<;>intro hc39
   rotate_left
   ·have ai:=CB hc39;have O:c≠62:=LQ (d:=62) ai;exact absurd ag O
   have ai:=BP hc39;have O:c=62:=OW (d:=62) ai;have aa:s[k+1]?≠some 61:=by
    intro h;obtain⟨h1,_⟩:=xC.1 h;omega
   refine Cj.sr (aA zS ?_);refine aA zS ?_;refine aA (zL (pl:= #[(0,1),(1,1),(2,1)]) rfl rfl JE rfl XO (fun w=>by simp[AZ,BD]) (aH rfl rfl rfl (aQ (aQ (aG aN))) (aH rfl rfl rfl (aG aN) bM))) ?_;refine aS rfl (CY FV EG JE (bH rfl aY) ?_);intro _ _;refine aS rfl (zT (by':=31) [_,_] rfl rfl rfl rfl rfl FV (.inr ⟨_,FV⟩) kR EG JE rfl hg rfl (bP (yX.at 0 rfl) rfl rfl rfl) oM ?_);intro _ bo;refine yU 10 ?_;obtain⟨bb,cc,sp,rfl,a6⟩:=bo.some oM;refine dX (bY (bY dI)) ?_;refine bW a6 (fun I9 ap a7=>?_);refine zV ?_;have N:=(hk.last (Cq.b7z G a0 O aa) rfl);exact⟨⟨_,rfl,bb,cc,sp,by rw[N];simp[gV],by rw[a7,N];simp[aI,str]⟩,rfl⟩
  have a4:c≠62:=LQ (d:=62) (CB az);refine yU 21 ?_;refine aA (IC AV Q) ?_;refine yU 4 ?_;refine dW rfl ?_ ?_<;>intro b4
  ·have aj:=BP b4;have O:c=62:=OW (d:=62) aj;exact absurd O a4
  have aj:=CB b4;have O:c≠62:=LQ (d:=62) aj;have am:¬(c=61∧s[k+1]?=some 61):=fun h=>al h.1;refine bF (aA zS ?_);refine aA (FM rfl rfl rfl (IJ oM)) ?_;refine aA BI ?_;refine dL (bD (dB (bF (aA zS ?_))));refine aA (DX UK EG (yX.at 0 rfl)) ?_;refine aS rfl (CY FV EG JE (bH rfl aY) ?_);intro _ _;refine aS rfl (zT (by':=31) [_,_] rfl rfl rfl rfl rfl FV (.inr ⟨_,FV⟩) kR EG JE rfl hg rfl (bP (yX.at 0 rfl) rfl rfl rfl) oM ?_);intro ca bp;refine yU 3 ?_;have M:=(dR G a0 ab ac a4 am);have a8:k<k+1:=by have:=(bI s k a5 (by rw[M];rfl)).1;rw[M]at this;exact this
  have A:=hk.push M rfl;have a2:=A.le;refine aJ (aF (aF aT)) ?_;refine aB (k+1,Z++[⟨1,[c],k⟩],ca) ⟨A,by simpa[aI,str]using bp⟩ dO ⟨rfl,by simp only[wV,wU,wL];rfl,rfl,trivial⟩ rfl (by simp[aI,str])
 obtain rfl:k=s.length:=oM;refine Cj.exit (Ej.a1b (Ej.a4A (Ej.YW (dB (Cj.sr (aA zS ?_))))));refine aA zS ?_;refine aA (a5r rfl rfl AV) ?_;refine aA (zL (pl:= #[(0,1),(1,1),(2,1)]) rfl rfl JE rfl XO (fun w=>by simp[AZ,BD]) (aH rfl rfl rfl (aQ (aQ (aG aN))) (aH rfl rfl rfl (aG aN) bM))) ?_;refine aS rfl (CY FV EG JE (bH rfl aY) ?_);intro _ _;refine aS rfl (zT (by':=31) [_] rfl rfl rfl rfl rfl FV (.inr ⟨_,FV⟩) kR EG JE rfl hg rfl (bP (yX.at 0 rfl) rfl rfl rfl) oM ?_);intro _ bq;refine yU 4 ?_;obtain⟨bb,cc,sp,rfl,a6⟩:=bq.some oM;refine dX (bY dI) ?_;refine bW a6 (fun I9 ap a7=>?_);refine zV ?_;have N:=(hk.last (Cq.c8X s) rfl);exact⟨⟨_,rfl,bb,cc,sp,by rw[N];simp[gV],by rw[a7,N];simp[aI,str]⟩,rfl⟩
end Go.Proofs.YtalapkjmkjmpjaaGreatDoor
end
section
namespace Go.Sx
open Cq
abbrev RP (pb bt ct n:Nat) (k deep a e:Nat):HL:=[(pb,yV 124 [.slice (some ⟨bt,0,none⟩) n ct,i64 k,i64 deep,i64 a,i64 e])]
def QE (pb bt ct:Nat) (all:List Tok) (deep:Nat) (res:Res):Ending→Heap→HL→Prop:=fun en I' H'=>
 match res with
 | .ok q ts2=>∃v k2,en= .returned v∧QV I' q v∧H'=RP pb bt ct all.length k2 deep 0 0∧all.drop k2=ts2
 | .err pos e=>∃q p c k2 deep2,en= .returned (.agg (BR q p c).toArray)∧H'=RP pb bt ct all.length k2 deep2 pos e∧e≠0
theorem QE.ret{M N O all deep A G Q H'}(h:QE M N O all deep A G Q H'):∃v,G= .returned v:=by
 cases A with
 |ok q ts=>obtain⟨v,_,h,_⟩:=h;exact⟨v,h⟩
 |err p e=>obtain⟨_,_,_,_,_,h,_⟩:=h;exact⟨_,h⟩
structure a0F (I:Heap) (bt:Nat) (all:List Tok) (spt:List Value) (k:Nat) (ts:List Tok):Prop where
  blk:I bt=some (yV 127 (all.flatMap ZB++spt))
  drop:all.drop k=ts
  good:YG ts
  len:all.length≤1000000001
  txt:∀t∈all,t.text.length≤1000000000
theorem a0F.mono{I G M all A k ts}(h:a0F I M all A k ts)(N:Le I G):a0F G M all A k ts:=⟨N _ _ h.blk,h.drop,h.good,h.len,h.txt⟩
theorem a0F.to{I M all G k N ts A}(h:a0F I M all G k ts)(h1:all.drop N=A)(h2:YG A):a0F I M all G N A:=⟨h.blk,h1,h2,h.len,h.txt⟩
theorem a0F.tx{I G all A k t r}(h:a0F I G all A k (t::r)):t.text.length≤1000000000:=
 h.txt t (vP (by rw[h.drop];exact .head _))
end Go.Sx
namespace Go.Proofs.YtalapkjmkjmpjaaGreatDoor
open Go Go.Sx
theorem WI A G k deep a t (M:Nat) I:yY aK 51 [ptr A 0,a7D t,i64 M] I [(A,yV 124 [G,k,deep,a,i64 0])]
 (fun e N H'=>e= .returned (.tuple #[])∧H'=[(A,yV 124 [G,k,deep,i64 t.pos,i64 M])]):=by
 refine zN Tryz.func51 fun w0 _=>?_;refine yU 3 ?_;intro _ _;refine yU 29 ?_;refine aJ (aF (bC bZ)) ?_;refine Ej.PU rfl rfl ?_;exact rT
theorem a4c Z bt ct k deep all a9 t r I (A:a0F I bt all a9 k (t::r)):
 yY aK 141 [ptr Z 0] I (RP Z bt ct all.length k deep 0 0) (fun e I' H'=>if aW t then e= .returned (str t.text)∧H'=RP Z bt ct all.length (k+1) deep 0 0 else e= .returned (str [])∧H'=RP Z bt ct all.length k deep t.pos 40):=by
 have aa:=A.blk;have ac:=PK A.drop;have ad:=A.tx;have ae:=A.len;refine zN Tryz.func141 fun w0 _=>?_;refine yU 6 ?_;refine aX [0] [] 12 kR ?_;refine zW (k*3) ?_;refine JA.zt 9 rfl (CX UK EG (cZ aa) (RZ A.drop)) ?_;refine yU 1 ?_;intro _ _;refine EH ?_ ?_<;>intro Q
 ·have a2:t.kind≠2:=by have:=bne_iff_ne.1 Q;omega
  refine EH ?_ ?_<;>intro O
  ·have a3:t.kind≠3:=by have:=bne_iff_ne.1 O;omega
   have G:aW t=false:=by simp[aW,a2,a3]
   refine yU 11 ?_;refine J.pull (bY dI) ?_;refine zX (WI _ _ _ _ _ _ _ _) ?_;intro _ _ _ _ a4;obtain⟨ab,rfl⟩:=a4;cases ab;refine yU 9 ?_;refine aJ (bC (aF bZ)) ?_;refine zM ?_;simp only[G];exact⟨by trivial,by trivial⟩
  have a3:t.kind=3:=by have:=EC O;omega
  refine yU 1 ?_;refine J.XA 8 22 false _ rfl rfl rfl O (EK rfl rfl rfl rfl rfl (OG _ oM _) ?_);refine yZ ?_ ?_<;>intro M a0
  ·have G:aW t=false:=by have:=DK M;simp[aW];omega
   refine yU 4 ?_;refine J.pull (bY dI) ?_;refine zX (WI _ _ _ _ _ _ _ _) ?_;intro _ _ _ _ a5;obtain⟨a6,rfl⟩:=a5;cases a6;refine yU 9 ?_;refine aJ (bC (aF bZ)) ?_;refine zM ?_;simp only[G];exact⟨by trivial,by trivial⟩
  have G:aW t=true:=by have:=DN M;simp[aW];omega
  refine yU 22 ?_;refine aJ (aF (bC bZ)) ?_;refine zM ?_;simp only[G];exact⟨by trivial,by trivial⟩
 have a2:t.kind=2:=by have:=EC Q;omega
 refine yU 6 ?_;refine J.XA 8 22 false _ rfl rfl rfl rfl (EK rfl rfl rfl rfl rfl (OG _ oM _) ?_);refine yZ ?_ ?_<;>intro N a1
 ·have G:aW t=false:=by have:=DK N;simp[aW];omega
  refine yU 4 ?_;refine J.pull (bY dI) ?_;refine zX (WI _ _ _ _ _ _ _ _) ?_;intro _ _ _ _ a7;obtain⟨a8,rfl⟩:=a7;cases a8;refine yU 9 ?_;refine aJ (bC (aF bZ)) ?_;refine zM ?_;simp only[G];exact⟨by trivial,by trivial⟩
 have G:aW t=true:=by have:=DN N;simp[aW];omega
 refine yU 22 ?_;refine aJ (aF (bC bZ)) ?_;refine zM ?_;simp only[G];exact⟨by trivial,by trivial⟩
