/-
  Own texts on the laws of the seat, joined: the logic, and contracts of functions. Conditions: none.
-/
import Derived.Test.YtalapkjmkjmpjaaGreatDoorNmK
import Derived.Test.YtalapkjmkjmpjaaGreatDoorPK15
set_option linter.all false
set_option maxRecDepth 100000
set_option maxHeartbeats 40000000
open Go.Sx.Keeps renaming d -> aA,n -> aK,k -> dF,r -> dQ
open Go.Sx.AX renaming c -> aB,z -> aG,s -> aJ
open Cq renaming parse -> aC
open Go.Sx.GU renaming part -> aF,none -> aT
open Prod renaming fst -> aH,snd -> aS
open Go.Sx.Ej renaming a2R -> aI,keep -> bG,persist -> bP,pull -> dG,round -> dI
open Go.Sx.BL renaming z -> aN,s -> aY
open Go.Sx.PD renaming mark -> aO,keep -> aP,b8O -> aQ
open Go.Sx.J renaming z -> aU,op -> bD
open Go.Sx.JA renaming all -> aV
open Go.Proofs.Tryz renaming prog -> aW
open Bool renaming noConfusion -> aX
open Ke renaming all -> aZ,FN -> bQ
open Go.Sx.Pull renaming s -> bC,z -> bH
open Go.Proofs.YtalapkjmkjmpjaaGreatDoor.Fv renaming f -> bF
open Go.Sx.DC renaming none -> bI,agg -> cZ
open Bk renaming ans -> bJ,found -> bT,Lb -> bU,YF -> bZ,a4y -> dD
open List.Sublist renaming cons -> bK,refl -> bM
open List renaming find?_cons_of_pos -> bV,find?_cons_of_neg -> bW,flatMap_map -> dJ,all_nil -> dP
open Ix renaming a0e -> bY
open Go.Sx.Cj renaming EX -> cO,pull -> dL,perm -> dM
open Go.Sx.Src renaming slice -> dA
open Go.Sx.yX renaming YR -> dB
open Go.Sx.zJ renaming of -> dH
open Go renaming Value -> dK
open Go.Value renaming oneCell' -> dN
namespace Cq
theorem d1C{q}(h:form q=true)(N:q.k≠1):∃a b:Qn,q.Two a b∧2≤q.k∧q.k≤4∧form a=true∧form b=true∧q=two q.k.toNat a b:=by
 obtain⟨_,h2,h4,a,b,A,ha,hb⟩:=(WL h).resolve_left N;have O:¬(q.k<2∨q.k>4∨q.i≠[]∨q.r≠[]∨q.t≠[]∨q.ps.len≠2):=fun M=>by rw[a3u N M]at h;cases h
 simp only[not_or,Decidable.not_not]at O;obtain⟨_,_,Q,Z,ht,_⟩:=O;refine⟨a,b,A,h2,h4,ha,hb,?_⟩;have G:q.ps=a.push (b.push .nil):=A;obtain⟨k,i,r,t,ps⟩:=q;simp only at Q Z ht G h2;subst Q Z ht G;simp only[two,Qn.mk.injEq,and_self,and_true];omega
theorem c4d{t}(h:relation t=true):relations.contains (small t.text)=true:=by
 simp only[relation,yP]at h;exact h.1
theorem OJ t:operator t=0∨operator t=2∨operator t=3∨operator t=4:=by
 unfold operator
 split
 ·exact .inl rfl
 split
 ·exact .inr (.inl rfl)
 split
 ·exact .inr (.inr (.inl rfl))
 split
 ·exact .inr (.inr (.inr rfl))
 exact .inl rfl
theorem c6p{t a b}(h:operator t≠0)(G:form a=true)(M:form b=true):form (two (operator t) a b)=true:=by
 have N:(two (operator t) a b).k≠1:=by
  have:=OJ t;simp only[two];omega
 have A:¬((two (operator t) a b).k<2∨(two (operator t) a b).k>4∨(two (operator t) a b).i≠[]∨(two (operator t) a b).r≠[]∨(two (operator t) a b).t≠[]∨(two (operator t) a b).ps.len≠2):=by
  have:=OJ t;simp only[two,Qn.push,Qs.len,not_or];refine⟨oM,oM,sI,sI,sI,sI⟩
 rw[a1H N A (rfl:(two (operator t) a b).Two a b),G,M];rfl
theorem c2w{t a b}(A:operator t≠0):depth (two (operator t) a b)=max (depth b+up b.k) (depth a):=by
 refine a0p ?_ (rfl:(two (operator t) a b).Two a b);have:=OJ t;simp only[two];omega
def Good (d:Nat):Res→Prop
 | .ok q _=>form q=true∧depth q+d≤50
 | .err _ e=>e≠0
def c7p (d:Nat):Res→Prop
 | .ok q _=>form q=true∧depth q+up q.k+d≤50
 | .err _ e=>e≠0
theorem b1c{i r t d}(A:indexes.contains i=true)(G:relations.contains r=true)(M:d≤50):form ⟨1,i,r,t,.nil⟩=true∧depth ⟨1,i,r,t,.nil⟩+up 1+d≤50:=by
 refine⟨?_,?_⟩
 ·rw[a0w rfl];simp only[A,G];rfl
 rw[XI rfl];simp[up];omega
theorem c7s:∀f,(∀deep ts,YG ts→2*ts.length+1≤f→deep≤50→c7p deep (clause f deep ts))∧(∀deep ts,YG ts→2*ts.length+2≤f→deep≤50→Good deep (query f deep ts))∧∀deep q ts,YG ts→2*ts.length+1≤f→form q=true→depth q+deep≤50→Good deep (more f deep q ts)
 |0=>⟨fun _ _ _ h=>oM,fun _ _ _ h=>oM,fun _ _ _ _ h=>oM⟩
 |f+1=>by
  obtain⟨hc,hq,hm⟩:=c7s f;refine⟨fun deep ts M Q Z=>?_,fun deep ts M Q Z=>?_,fun deep q ts M Q a0 a1=>?_⟩
  ·obtain⟨t,r,rfl⟩:=M.ne;simp only[wU]at Q;unfold clause
   by_cases h1:lp t=true
   ·have N:=M.cons (a3b h1);rw[zF h1]
    split
    ·exact(dE:(41:Nat)≠0)
    have A:=hq (deep+1) r N oM oM;have G:=(less f).2.1 (deep+1) r N;cases hx:query f (deep+1) r with
    |err p e=>rw[hx]at A;exact A
    |ok q O=>
     rw[hx]at A G;obtain⟨t2,r2,rfl⟩:=G.1.ne;simp only[]
     split
     ·have hu:up q.k≤1:=by unfold up;split<;>omega
      exact⟨A.1,by have:=A.2;omega⟩
     exact(dE:(40:Nat)≠0)
   rw[zD h1]
   by_cases h2:isTerm t=true
   ·have N:=M.cons (TG h2);rw[zD (by simp[h2])];have bare:c7p deep (.ok ⟨1,[97,110,121],[61],t.text,.nil⟩ r):=b1c dE dE Z;obtain⟨t2,r2,rfl⟩:=N.ne;cases h3:t.kind == 3 with
    |false=>exact bare
    |true=>
     simp only[]
     by_cases h4:relation t2=true
     ·rw[zF h4];have a2:=N.cons (a1z h4)
      split
      ·exact(dE:(42:Nat)≠0)
      rename_i h5
      obtain⟨_,_,rfl⟩:=a2.ne;simp only[]
      split
      ·exact b1c (by simpa using h5) (c4d h4) Z
      exact(dE:(40:Nat)≠0)
     rw[zD h4];exact bare
   rw[zF (by simpa using h2)];exact(dE:(40:Nat)≠0)
  ·unfold query;have A:=hc deep ts M oM Z;have G:=(less f).1 deep ts M;cases hx:clause f deep ts with
   |err p e=>rw[hx]at A;exact A
   |ok q O=>
    rw[hx]at A G;exact hm deep q O G.1 (by have:=G.2;omega) A.1 (by have:=A.2;omega)
  obtain⟨t,r,rfl⟩:=M.ne;simp only[wU]at Q;unfold more
  by_cases h1:operator t=0
  ·rw[zF h1];exact⟨a0,a1⟩
  rw[zD h1];have N:=M.cons (a6q h1);have A:=hc deep r N oM oM;have G:=(less f).1 deep r N;cases hx:clause f deep r with
  |err p e=>rw[hx]at A;exact A
  |ok q2 O=>
   rw[hx]at A G;simp only[];exact hm deep _ O G.1 (by have:=G.2;omega) (c6p h1 a0 A.1) (by rw[c2w h1];have:=A.2;omega)
theorem a6Y s:((parse s).2.2=0→right (parse s).1=true∧(parse s).2.1=0)∧((parse s).2.2≠0→(parse s).1=zero):=by
 have h0:=SH s (s.length+1) 0 oM oM;have G:YG (tokens s):=h0.1;have N:(tokens s).length≤s.length+1:=h0.2.1;have A:=(c7s (4*s.length+9)).2.1 0 (tokens s) G oM oM;have M:=(less (4*s.length+9)).2.1 0 (tokens s) G;unfold parse;cases hq:query (4*s.length+9) 0 (tokens s)with
 |err p e=>
  rw[hq]at A;exact⟨fun h=>absurd h A,fun _=>rfl⟩
 |ok q ts=>
  rw[hq]at A M;obtain⟨t,r,rfl⟩:=M.1.ne;simp only[]
  split
  ·refine⟨fun _=>⟨?_,rfl⟩,fun h=>absurd rfl h⟩;unfold right;rw[A.1];have:=A.2;simp;omega
  exact⟨fun h=>(by cases h),fun _=>rfl⟩
end Cq
section

end
namespace Cq
theorem c3e l:(small l).length=l.length:=by simp[small]
theorem c7i k a b:(two k a b).wide=a.wide+b.wide:=by
 simp only[two,Qn.wide,Qn.push,Qs.wide,wL];omega
end Cq
section
namespace Go.Proofs.YtalapkjmkjmpjaaGreatDoor
open _root_.Go.Proofs.Tryz
open Go Go.Sx
abbrev KQ (e:DT):Ix.Rec×List bQ:=(e.t,e.fs)
theorem b1P(es:List DT):(es.map KQ).map (fun e=>(e.1,Ix.vals e.2))=es.map zQ:=by rw[wE];rfl
def a1l (I:Heap) (lb:Nat) (b:bU):Prop:=∃ib mb l c,I lb=some (yV 86 [ptr ib 0,.map (some mb)])∧XC I ib b.L∧Ix.TOK b.L∧MS l c∧(∀t,(AQ l t).getD (str [])=str (b.key t))∧I mb=some (zZ AB l c)
theorem a1l.mono{I G lb b}(h:a1l I lb b)(A:Le I G):a1l G lb b:=let ⟨M,N,l,c,h1,h2,h3,O,Q,Z⟩:=h;⟨M,N,l,c,A _ _ h1,h2.mono A,h3,O,Q,A _ _ Z⟩
def a7m (I:Heap) (v:Value) (o:Option bU):Prop:=(v= .pointer none∧o=none)∨∃lb b,v=ptr lb 0∧o=some b∧a1l I lb b
theorem a7m.mono{I A v o}(h:a7m I v o)(G:Le I A):a7m A v o:=h.imp id fun⟨lb,b,h1,h2,h3⟩=>⟨lb,b,h1,h2,h3.mono G⟩
structure TLg where
  i:Nat
  J:Heap
  l:ML Ix.Rec
  c:Nat
theorem c9Q{fs}(h:RI fs):∀v∈Ix.vals fs,v.text.length≤4000000:=fun v A=>by
 unfold Ix.vals at A;obtain⟨f,G,A⟩:=vV.1 A;obtain⟨_,_,_⟩:=h.2 f G;unfold Ix.a6t at A;rcases wB.1 A with g|g
 ·obtain⟨s,M,rfl⟩:=vU.1 g;have:=a4s M;dsimp only;omega
 split at g
 ·rw[vN]at g;subst g;have:=a0n f [];rw[a0x]at this;dsimp only;omega
 cases g
theorem b4X{fs}(h:FOK fs):(aZ fs).length≤4300000000000:=by
 have h1:=Ix.PZ (Ke.raw fs) [];have h2:=a3O (l:=fs) fun f A=>(h.2 f A).1;have h3:(Ke.raw fs).length≤(IU fs).length+1:=by
  unfold Ke.raw Ke.UY;rw[wV]
  split<;>simp[IU]
 have G:=h.1;unfold aZ;rw[wL]at h1;omega
theorem c0X{es:List DT}(h:∀e∈es,RI e.fs):Ix.TOK (bY (es.map zQ) []):=fun x A v G=>by
 rcases Bk.a5o _ _ _ A with g|g
 ·obtain⟨e,M,rfl⟩:=vU.1 g;exact c9Q (h e M) v G
 cases g
theorem c2R fs v rk rl (O:FOK fs) I (hr:KC I fs v):yY aW 26 [a1A rk rl v] I [] (fun e _ H'=>e= .returned (str (Bk.keyOf fs))∧H'=[]):=by
 have a3:=b4X O;refine zN func26 fun w0 _=>?_;refine yU 3 ?_;intro _ _;refine zX (d0T fs v rk rl O _ hr) ?_;intro _ _ _ _ a1;obtain⟨_,h,hw,rfl⟩:=a1;cases h;obtain⟨wp,_,rfl⟩:=KG hw;refine DZ ?_ ?_<;>intro G Z
 ·have a0:(aZ fs)=[]:=wR.1 (by have h:=BP G;omega);refine zV ?_;rw[Bk.a9E a0];exact rT
 have M:(aZ fs)≠[]:=fun e=>CB G (by rw[e];rfl);obtain⟨wb,_,_,a2,Q⟩:=hw.some M;cases a2;obtain⟨z,hz⟩:∃z,(aZ fs)[(aZ fs).length-1]?=some z:=⟨_,AA (by have:=wK.2 M;omega)⟩;have a4:=wK.2 M;have A:(aZ fs).getLast?=some z:=by rw[List.getLast?_eq_getElem?];exact hz
 refine yU 4 ?_;refine J.ez 13 (i64 (((aZ fs).length-1:Nat):Int)) rfl (zC i64 oM) ?_;refine J.zg (FZ (off':=((aZ fs).length-1)) ED BD) ?_;refine J.zg (DI DU (dB Q) (EL hz)) ?_;refine zO (a1x z [116,105,116,108,101,32] dE _) ?_;refine DF ?_ ?_<;>intro N
 ·refine zV ?_;rw[Bk.a3r A,zD (fun g=>by have h:=N;unfold Bk.a5j at g;first|(rw[Bool.not_eq_true']at h;rw[h]at g;cases g)|(rw[h]at g;cases g))];exact rT
 refine yU 8 ?_;refine J.ez 22 (i64 (((aZ fs).length-1:Nat):Int)) rfl (zC i64 oM) ?_;refine zW (((aZ fs).length-1)) ?_;refine aU (DI DU (dB Q) (EL hz)) ?_;refine zV ?_;rw[Bk.a3r A,zF (by have h:=N;unfold Bk.a5j;simpa using h)];exact rT
theorem c5T{es:List DT}{i A}(G:es[i]?=some A){m c}(h:∀t,AQ m t=(dD ((es.take i).map KQ) t).map str) t:AQ (BF m A.t (str (Bk.keyOf A.fs)) c) t=(dD ((es.take (i+1)).map KQ) t).map str:=by
 rw[MI,KR KQ G,Bk.b1r,h t]
 by_cases ht:t=A.t
 ·subst ht;rw[zF sI,zF rfl];rfl
 rw[zD (by simpa using ht),zD (Ne.symm ht)]
theorem a4W es v (af:es.length≤1000)(a3:∀e∈es,RI e.fs) I (A:EU I es v):yY aW 11 [v] I [] (fun e I' H'=>∃lb,e= .returned (ptr lb 0)∧a1l I' lb (bZ (es.map KQ))∧H'=[]):=by
 obtain⟨p,c0,rfl,_,-⟩:=id A.1;refine zN func11 fun w0 _=>?_;refine NG (c4k es _ af a3 _ A) ?_;intro _ _ _ ab ag ah;have A:=A.mono ab;obtain⟨ib,o,h,a8,rfl⟩:=ah;cases h;refine J.persists (ixH ib o) ag (fun Ip a4 hK=>?_);have A:=A.mono a4;have G:XC Ip ib (bY (es.map zQ) []):=⟨o,a8.mono a4,hK⟩;clear a8 hK;refine bD rfl (BG rfl rfl rfl ?_);intro b7 ai;refine aU (zL (pl:= #[(0,1),(1,1)]) rfl rfl zeroValue86 rfl underlying86 (fun w=>by simp[sizeOf82,sizeOf84]) (aF rfl rfl rfl (aB aG) (aF rfl rfl rfl (aJ (aB aG)) aT))) ?_;refine bD rfl (KP rfl rfl rfl rfl rfl ?_);intro b8 aj;refine aU BI ?_;refine J.a2t (Cj.region (aU zS ?_));refine aU (QT rfl rfl SY) ?_;refine aU zS ?_;refine J.ns (Cj.block ?_);refine Cj.loop (ι:=TLg) (fun y=>y.i≤es.length∧EU y.J es (.slice p es.length c0)∧XC y.J ib (bY (es.map zQ) [])∧MS y.l y.c∧(∀t,AQ y.l t=(dD ((es.take y.i).map KQ) t).map str)) (fun y=>es.length-y.i) (fun y=>[(3,ptr b8 0),(11,.slice p es.length c0),(12,i64 (es.length:Int)),(13,i64 (y.i:Int))]) (fun y=>y.J) (fun y=>[(b8,yV 86 [ptr ib 0,.map (some b7)]),(b7,zZ AB y.l y.c)]) ⟨0,_,[],0⟩ ⟨sQ _,A,G,MS.nil,fun _=>rfl⟩ rT rfl rfl ?_;rintro⟨i,_,m,c⟩ ⟨hi,A,G,a5,Z⟩;dsimp only at hi A G a5 Z ⊢;refine yZ ?_ ?_<;>intro al ac
 ·have a9:i<es.length:=oM;obtain⟨N,O⟩:∃e,es[i]?=some e:=⟨_,AA a9⟩;have aa:=CJ O;obtain⟨⟨p1,c1,am,_,hp⟩,a0⟩:=id A;cases am;obtain⟨_,eo,_,_,_,_,rfl,a1,an⟩:=hp (zK a9);have a6:=a0 N aa;clear a0;obtain⟨_,_,ao,-,-⟩:=id a6.1;refine zW (eo+i*5) ?_;refine aU (CX isAgg47 NR (dB a1) (AY JQ an O)) ?_;refine yU 1 ?_;intro _ _;refine bD rfl (DV 0 rfl rfl rfl rfl rfl (a2X ao) NR rfl rfl (aB (aB (aB (aB (aB aG))))) aN ?_);refine yU 2 ?_;refine cO [0,1] [] 10 kR ?_;have ap:=a1;refine zX (c2R N.fs N.v N.k N.l (a3 N aa).fok _ a6) ?_;intro _ _ _ M ad;have A:=A.mono M;have G:=G.mono M;have a1:=M _ _ a1;obtain⟨h,rfl⟩:=ad;cases h;refine yU 1 ?_;refine qq2 9 rfl (EY (kv:=AB) (a:=N.t) 2 (.inr rfl) rfl rfl rfl rfl rfl underlying84 FQ rfl (aY (aY aN)) ?_);refine yU 8 ?_;refine bG (aA (dF (dF aK))) ?_;refine dI ⟨i+1,_,_,_⟩ ⟨dO,A,G,a5.set N.t _,fun t=>by dsimp only;exact c5T O Z t⟩ dO rT rfl rfl
 refine yU 12 ?_;rw[tX (oM:es.length≤i)]at Z;refine dG (bC bH) ?_;refine bP ai (fun _ a7 Q=>?_);have G:=G.mono a7;refine bP aj (fun _ a2 ae=>?_);have G:=G.mono a2;have Q:=a2 _ _ Q;refine zM ?_;exact⟨_,rfl,⟨ib,_,m,c,ae,by rw[show(bZ (es.map KQ)).L=bY (es.map zQ) [] from by unfold bZ;rw[b1P]];exact G,by rw[show(bZ (es.map KQ)).L=bY (es.map zQ) [] from by unfold bZ;rw[b1P]];exact c0X a3,a5,fun t=>by rw[Z t];show _=str ((dD (es.map KQ) t).getD []);cases dD (es.map KQ) t<;>rfl,Q⟩,rfl⟩
structure TF9 where
  i:Nat
  J:Heap
  fs:List Fv
  g:Gs
theorem a4B{b}{r:List Ix.Rec}{i x}(h:r[i]?=some x) k:bT b (r.take (i+1)) k=bT b (r.take i) k++[⟨x,b.key x,[(k:Int)]⟩]:=by
 unfold bT;rw[KR (fun t=>(⟨t,b.key t,[(k:Int)]⟩:Bk.Fd)) h]
theorem ZQ fs z:(fs++[z]).flatMap CV=fs.flatMap CV++CV z:=sI
theorem b8K lb b q p c (k:Nat)(al:q.size≤1000000000)(am:q.wide≤10000000)(hR:Cq.right q=true) I (a3:PS I q.ps p)(hl:a1l I lb b)(hT:NP I):yY aW 36 [ptr lb 0,.agg (BR q p c).toArray,i64 (k:Int)] I []
 (fun e I' H'=>∃(x:Rw Fv) (r:List Ix.Rec),e= .returned (.tuple #[x.v,i64 0])∧Ix.NK b.L q r∧x.l.map bF=bT b r k∧a0K I' x∧H'=[]):=by
 obtain⟨ib,mb,l,c9,G,hx,an,_,ad,A⟩:=hl;have b2:=hx.big;refine zN func36 fun w0 _=>?_;refine yU 3 ?_;intro _ ao;refine yU 15 ?_;refine Cj.persist ao (fun _ O Q=>?_);have G:=O _ _ G;have A:=O _ _ A;have hx:=hx.mono O;have a3:=a3.mono O;have hT:=hT.mono O;refine cO [] [] 11 kR ?_;have b0:=G;have b1:=A;have ap:=Q;refine NG (d0W (ptr ib 0) b.L q p c al am hR an _ a3 (.inr ⟨ib,rfl,hx⟩) hT) ?_;intro _ I8 _ a0 aq ae;have G:=a0 _ _ G;have A:=a0 _ _ A;have Q:=a0 _ _ Q;obtain⟨_,r,h,a4,ho⟩:=ae;cases h;have ar:=aq;refine yU 1 ?_;refine JA.a3A ho ar (fun _ a2 N=>?_);have G:=a2 _ _ G;have A:=a2 _ _ A;have Q:=a2 _ _ Q;replace N:=N.row;obtain⟨pr,cr,rfl⟩:=rowLen N;refine yU 14 ?_;refine Cj.cond rfl (fun a5=>aX (Eq.trans (Eq.symm (by first|rfl|decide)) a5)) (fun a5=>?_);refine yU 16 ?_;refine Cj.loop (ι:=TF9) (fun y=>y.i≤r.length∧zJ recC y.J r (.slice pr r.length cr)∧y.J lb=some (yV 86 [ptr ib 0,.map (some mb)])∧y.J mb=some (zZ AB l c9)∧y.fs.map bF=bT b (r.take y.i) k∧(∀z∈y.fs,YH y.J z)∧AL w0.heap.size 4 y.fs.length (y.fs.flatMap CV) y.g) (fun y=>r.length-y.i) (fun y=>[(0,ptr lb 0),(2,i64 (k:Int)),(10,gV y.fs.length y.g),(27,.slice pr r.length cr),(28,i64 (r.length:Int)),(29,i64 (y.i:Int))]) (fun y=>y.J) (fun y=>gH 52 (y.fs.flatMap CV) y.g) ⟨0,_,[],none⟩ ⟨sQ _,N,G,A,rfl,fun _ h=>(by cases h),rfl,rfl⟩ rT rfl rfl ?_;rintro⟨i,_,fs,g⟩ ⟨hi,N,G,A,a1,Z,hg⟩;dsimp only at hi N G A a1 Z hg ⊢;refine yZ ?_ ?_<;>intro af aa
 ·have ac:i<r.length:=oM;obtain⟨x,a6⟩:∃x,r[i]?=some x:=⟨_,AA ac⟩;obtain⟨p1,c1,au,_,av⟩:=id N;cases au;obtain⟨_,ro,rcs,_,_,_,rfl,a7,aw⟩:=av (zK ac);have b3:fs.length=i:=by have h:=zC List.length a1;unfold bT at h;rw[wO,wO,wI]at h;omega
  have b4:=a4.len;refine zW (ro+i*2) ?_;refine aU (CX FY BM (dB a7) (AY AP aw a6)) ?_;refine yU 1 ?_;intro _ _;refine yU 3 ?_;refine cO [0] [] 14 kR ?_;refine yU 7 ?_;refine JA.zt 7 rfl (BJ (kv:=AB) (l:=l) (a:=x) rfl rfl rfl rfl underlying84 FQ tZ9 (yX.RU A)) ?_;refine JA.ez 40 (str (b.key x)) rfl (ad x) ?_;refine yU 2 ?_;intro ax ag;refine yU 1 ?_;refine JA.persist ag (fun _ M ab=>?_);have N:=N.mono M;have G:=M _ _ G;have A:=M _ _ A;have Z:=fun x9 a8=>(Z x9 a8).mono M;have a7:=M _ _ a7;refine JA.fix CP (fun ah=>?_);refine JA.tk 10 rfl ah (zL (pl:= #[(0,2),(2,1),(3,1)]) rfl rfl LW rfl IB (fun w=>by simp[BM,KD,BD]) (aF rfl rfl rfl (aB (aB aG)) (aF rfl rfl rfl (aJ (aJ (aB aG))) (aF rfl rfl rfl (aJ (aJ (aJ (aB aG)))) aT)))) ?_;refine qq2 11 rfl (CY JY FH LW (cZ rfl bI) ?_);intro _ _;refine⟨⟨(Le.trans (Le.refl _) M),(HSub.c 1 rfl HSub.n),CSub.n⟩,?_⟩;refine qq2 12 rfl (zT (by':=55) [_,_] rfl rfl rfl rfl rfl JY (.inr ⟨_,JY⟩) kR FH LW rfl hg rfl (dA (yX.at 0 rfl) rfl rfl rfl) oM ?_);intro ay ai;refine yU 9 ?_;refine bG (aA (aA dQ)) ?_;refine dI ⟨i+1,_,fs++[⟨⟨x,b.key x,[(k:Int)]⟩,some ⟨ax,0,none⟩,1⟩],ay⟩ ⟨dO,N,G,A,by dsimp only;rw[a4B a6,wG,a1];rfl,fun z hz=>(wB.1 hz).elim (Z z) fun hz=>by rw[vN.1 hz];exact⟨dH (l:=[(k:Int)]) (sp:=[]) (tH _) ab,rfl⟩,by dsimp only;rw[ZQ,wV];exact ai⟩ dO ⟨rfl,rfl,by rw[wV];rfl,rfl,rfl,rfl,trivial⟩ rfl (by dsimp only;rw[ZQ];rfl)
 refine yU 13 ?_;refine bG dQ ?_;rw[tX (oM:r.length≤i)]at a1;refine Ej.perm (H':=gH 52 (fs.flatMap CV) g++[]) (.of_eq (yD _)) ?_;refine Ej.keepR CQ dE hg rfl (fun I8 aj a9=>?_);have Z:=fun x9 a8=>(Z x9 a8).mono aj;obtain⟨pw,cw,az⟩:=rowLen a9;refine zM ?_;rw[az]at a9 ⊢;exact⟨⟨fs,pw,cw⟩,r,rfl,a4,a1,⟨a9,Z⟩,rfl⟩
theorem c7g q p c k I:Pure aW 36 [.pointer none,.agg (BR q p c).toArray,i64 k] I (.tuple #[.slice none 0 0,i64 32]):=by
 refine yY.toPure ?_;refine zN func36 fun w0 _=>?_;refine yU 3 ?_;intro _ _;refine yU 20 ?_;refine bG (aA aK) ?_;refine zM ?_;exact rT
theorem find_ok v o s (h0:(aC s).2.2=0) p c (k:Nat)(M:(aC s).1.size≤1000000000)(N:(aC s).1.wide≤10000000) I (O:PS I (aC s).1.ps p)(A:a7m I v o)(Z:NP I):yY aW 36 [v,.agg (BR (aC s).1 p c).toArray,i64 (k:Int)] I []
 (fun e G H'=>∃(x:Rw Fv) (Q:Int),e= .returned (.tuple #[x.v,i64 Q])∧bJ (aC s) o k (x.l.map bF) Q∧a0K G x∧H'=[]):=by
 rcases A with⟨rfl,rfl⟩|⟨lb,b,rfl,rfl,A⟩
 ·exact(c7g _ p c k I).mono fun e G H' _ ⟨h1,h2,h3⟩=>⟨⟨[],none,0⟩,32,h1,by unfold bJ;rw[zD oM];exact rT,⟨zJ.nil,fun _ h=>by cases h⟩,h3⟩
 exact(b8K lb b _ p c k M N ((Cq.a6Y s).1 h0).1 I O A Z).mono fun e G H' _ ⟨x,r,h1,h2,h3,h4,h5⟩=>⟨x,0,h1,by unfold bJ;rw[zD oM];exact⟨rfl,r,h2,h3⟩,h4,h5⟩
abbrev lvC (x:Value×Option bU):List Value:=[x.1]
theorem b0R x:(lvC x).length=1:=rfl
def a1j (I:Heap) (xs:List (Value×Option bU)) (v:Value):Prop:=zJ lvC I xs v∧∀x∈xs,a7m I x.1 x.2
theorem a1j.mono{I G xs v}(h:a1j I xs v)(A:Le I G):a1j G xs v:=⟨h.1.mono A,fun x M=>(h.2 x M).mono A⟩
theorem c7W{cs sp:List Value}{o}{l:List (Value×Option bU)}(h:cs.drop o=l.flatMap lvC++sp){k x}(G:l[k]?=some x):cs[o+k]?=some x.1:=by
 have A:=BO (f:=lvC) (n:=1) b0R h G 0 Nat.zero_lt_one;rw[Nat.mul_one,Nat.add_zero]at A;exact A
abbrev FE:=Rw Fv×Int
def nxA (p:Cq.Qn×Nat×Nat) (os:List (Option bU)):Heap→List FE→List Value→List FE→Prop:=fun I s args s'=>∃(o:Option bU) (x:Rw Fv) (e:Int),os[s.length]?=some o∧args=[x.v,i64 e]∧a0K I x∧bJ p o s.length (x.l.map bF) e∧s'=s++[(x,e)]
theorem c9s{p os}:∀I s args A,nxA p os I s args A→args.length=2:=fun _ _ _ _ ⟨_,_,_,_,h,_⟩=>by rw[h];rfl
structure TA9 where
  s:List FE
  J:Heap
  H:HL
theorem b6b qb af s (hs:s.length≤1000000000)(ag:(aC s).1.size≤1000000000∧(aC s).1.wide≤10000000) xs vl (ay:xs.length≤1000000) I (ah:I qb=some (yV 9 [str s]))(a8:I af=some (yV 26 [vl]))(A:a1j I xs vl)(N:NP I)(ht:Tabs I):
 a2v aW 34 [] [ptr qb 0,ptr af 0] I ([]:List FE) (nxA (aC s) (xs.map aS)) (fun s9=>s9.length=(xs.map aS).length):=by
 obtain⟨pl,cl,rfl,_,-⟩:=id A.1;refine⟨Enters.of func34 dE rfl,fun ly Y Z a7 ai H a9=>?_⟩;refine zN func34 fun w0 _=>?_;refine zX (c2y s hs _ ht) ?_;intro _ _ O a0 ap;have ah:=a0 _ _ ah;have a8:=a0 _ _ a8;have A:=A.mono a0;have N:=N.mono a0;obtain⟨⟨v9,h,pq,cq,rfl,M⟩,rfl⟩:=ap;cases h;have a9:=a7 _ _ _ _ a0 a9;refine yU 5 ?_;intro b6 _;refine yU 13 ?_;refine Cj.loop (ι:=TA9) (fun y=>y.s.length≤xs.length∧PS y.J (aC s).1.ps pq∧a1j y.J xs (.slice pl xs.length cl)∧NP y.J∧Y y.s y.J y.H) (fun y=>xs.length-y.s.length) (fun y=>[(0,.func (.yield ly) #[] #[]),(4,ptr b6 0),(6,i64 ((aC s).2.2:Int)),(17,.slice pl xs.length cl),(18,i64 (xs.length:Int)),(19,i64 (y.s.length:Int))]) (fun y=>y.J) (fun y=>(b6,yV 73 (BR (aC s).1 pq cq))::y.H) ⟨[],_,H⟩ ⟨sQ _,M,A,N,a9⟩ rT rfl rfl ?_;rintro⟨S,_,HY⟩ ⟨hi,M,A,N,hY⟩;dsimp only at hi M A N hY ⊢;obtain⟨i,a2⟩:∃i,i=S.length:=⟨_,rfl⟩;rw[←a2]at hi ⊢;refine yZ ?_ ?_<;>intro aq al
 ·have aj:i<xs.length:=oM;obtain⟨x,a3⟩:∃x,xs[i]?=some x:=⟨_,AA aj⟩;have ar:=A.2 x (CJ a3);obtain⟨p1,c1,au,_,av⟩:=id A.1;cases au;obtain⟨_,fo,_,_,_,_,rfl,a1,aw⟩:=av (zK aj);refine zW (fo+i) ?_;refine aU (DI isAgg39 (dB a1) (c7W aw a3)) ?_;refine yZ ?_ ?_<;>intro aa am
  ·have ab:(aC s).2.2=0:=by have h:=BP aa;omega
   refine zX (find_ok x.1 x.2 s ab pq cq i ag.1 ag.2 _ M ar N) ?_;intro v9 _ _ Q an;have M:=M.mono Q;have A:=A.mono Q;have N:=N.mono Q;have a1:=Q _ _ a1;obtain⟨x9,e9,h,ao,ax,rfl⟩:=an;cases h;have hY:=a7 _ _ _ _ Q hY;refine yU 12 ?_;refine J.yield [_] rfl rfl rfl rfl rfl rfl (ai S [_,_] (S++[(x9,e9)]) _ HY ⟨x.2,x9,e9,by rw[←a2,xB,a3];rfl,rfl,ax,by rw[←a2];exact ao,rfl⟩ hY) ?_ (fun _ _ _ h=>by rcases h with⟨h,_⟩|⟨h,_⟩<;>cases h) (fun _ _ h=>by rcases h with⟨h,_⟩|⟨h,_⟩<;>cases h);intro v3 I3 O G ac;have M:=M.mono G;have A:=A.mono G;have N:=N.mono G;have a1:=G _ _ a1;obtain⟨t3,h3,a4⟩:∃t:Bool,v3= .bool t∧((t=true∧Y (S++[(x9,e9)]) I3 O)∨(t=false∧Z I3 O)):=by
    rcases ac with⟨h,h2⟩|⟨h,h2⟩
    ·cases h;exact⟨true,rfl,.inl ⟨rfl,h2⟩⟩
    cases h;exact⟨false,rfl,.inr ⟨rfl,h2⟩⟩
   subst h3;refine DF ?_ ?_<;>intro a5
   ·have ad:Z I3 O:=by
     rcases a4 with⟨rfl,_⟩|⟨_,h⟩
     ·exact aX a5
     exact h
    refine yU 5 ?_;refine bG (H':=O) (bK _ (bM _)) ?_;exact Ej.a7H rfl rfl ⟨rfl,.inr ad⟩
   have ae:Y (S++[(x9,e9)]) I3 O:=by
    rcases a4 with⟨_,h⟩|⟨rfl,_⟩
    ·exact h
    exact aX a5
   refine yU 7 ?_;refine dI ⟨S++[(x9,e9)],_,O⟩ ⟨by dsimp only;rw[wV,wJ];omega,M,A,N,ae⟩ (by dsimp only;rw[wV,wJ];omega) ⟨rfl,rfl,rfl,rfl,rfl,by rw[wV,wJ,←a2];rfl,trivial⟩ rfl rfl
  have ab:(aC s).2.2≠0:=fun e=>CB aa (by rw[e];rfl);refine yU 7 ?_;refine J.yield [_] rfl rfl rfl rfl rfl rfl (ai S [_,_] (S++[((⟨[],none,0⟩:Rw Fv),((aC s).2.2:Int))]) _ HY ⟨x.2,(⟨[],none,0⟩:Rw Fv),((aC s).2.2:Int),by rw[←a2,xB,a3];rfl,rfl,⟨zJ.nil,fun _ h=>by cases h⟩,by unfold bJ;rw[zF ab];exact rT,rfl⟩ hY) ?_ (fun _ _ _ h=>by rcases h with⟨h,_⟩|⟨h,_⟩<;>cases h) (fun _ _ h=>by rcases h with⟨h,_⟩|⟨h,_⟩<;>cases h);intro v3 I3 O G ac;have M:=M.mono G;have A:=A.mono G;have N:=N.mono G;have a1:=G _ _ a1;obtain⟨t3,h3,a4⟩:∃t:Bool,v3= .bool t∧((t=true∧Y (S++[((⟨[],none,0⟩:Rw Fv),((aC s).2.2:Int))]) I3 O)∨(t=false∧Z I3 O)):=by
   rcases ac with⟨h,h2⟩|⟨h,h2⟩
   ·cases h;exact⟨true,rfl,.inl ⟨rfl,h2⟩⟩
   cases h;exact⟨false,rfl,.inr ⟨rfl,h2⟩⟩
  subst h3;refine DF ?_ ?_<;>intro a6
  ·have ad:Z I3 O:=by
    rcases a4 with⟨rfl,_⟩|⟨_,h⟩
    ·exact aX a6
    exact h
   refine yU 5 ?_;refine bG (H':=O) (bK _ (bM _)) ?_;exact Ej.a7H rfl rfl ⟨rfl,.inr ad⟩
  have ae:Y (S++[((⟨[],none,0⟩:Rw Fv),((aC s).2.2:Int))]) I3 O:=by
   rcases a4 with⟨_,h⟩|⟨rfl,_⟩
   ·exact h
   exact aX a6
  refine yU 7 ?_;refine dI ⟨S++[((⟨[],none,0⟩:Rw Fv),((aC s).2.2:Int))],_,O⟩ ⟨by dsimp only;rw[wV,wJ];omega,M,A,N,ae⟩ (by dsimp only;rw[wV,wJ];omega) ⟨rfl,rfl,rfl,rfl,rfl,by rw[wV,wJ,←a2];rfl,trivial⟩ rfl rfl
 refine yU 4 ?_;refine bG (H':=HY) (bK _ (bM _)) ?_;refine Ej.PU rfl rfl ⟨rfl,.inl ⟨S,by rw[wO];omega,hY⟩⟩
theorem b8L G nv cv s I:yY aW 16 [.slice G nv cv,str s] I [] (fun e _ H'=>∃A M,e= .returned (.func (.func 34) #[] #[ptr M 0,ptr A 0])∧H'=[(M,yV 9 [str s]),(A,yV 26 [.slice G nv cv])]):=by
 refine zN func16 fun w0 _=>?_;refine yU 3 ?_;intro N _;refine yU 1 ?_;intro O _;refine zM ?_;exact⟨N,O,rfl,rfl⟩
end Go.Proofs.YtalapkjmkjmpjaaGreatDoor
end
section
namespace Go.Proofs.YtalapkjmkjmpjaaGreatDoor
open _root_.Go.Proofs.Tryz
open Go Go.Sx
def JZ (p:Cq.Qn×Nat×Nat) (os:List (Option bU)) (S:List FE):Prop:=∀i x,S[i]?=some x→∃o,os[i]?=some o∧bJ p o i (x.1.l.map bF) x.2
theorem JZ.nil{p os}:JZ p os []:=fun i x h=>by simp at h
theorem JZ.snoc{p os S}(h:JZ p os S){o x e}(G:os[S.length]?=some o)(M:bJ p o S.length (x.l.map bF) e):JZ p os (S++[(x,e)]):=fun i y A=>by
 rcases tC i S.length with g|g
 ·rw[xJ g]at A;exact h i y A
 rw[xI g]at A;have N:i=S.length:=by
  rcases tC 0 (i-S.length)with k|k
  ·rw[xE (by rw[wJ];omega)]at A;cases A
  omega
 subst N;rw[Nat.sub_self]at A;cases A;exact⟨o,G,M⟩
theorem JZ.bound{p}{os:List (Option bU)}(A:∀b,some b∈os→b.L.length≤100000):∀{S:List FE},(∀x∈S,∃o∈os,∃i,bJ p o i (x.1.l.map bF) x.2)→(flt bF (S.map aH)).length≤S.length*100000∧Bk.OI (flt bF (S.map aH))≤S.length*100000
 |[],_=>⟨tH _,tH _⟩
 |x::S,h=>by
  obtain⟨h1,h2⟩:=JZ.bound A (S:=S) fun y G=>h y (.tail _ G);obtain⟨o,M,i,N⟩:=h x (.head _);obtain⟨h3,_⟩:=Bk.c8O N fun b e=>A b (e▸M);have e:flt bF ((x::S).map aH)=x.1.l.map bF++flt bF (S.map aH):=rfl;rw[e,wV,Bk.VB,wU,Nat.add_mul];omega
theorem JZ.mem{p os S}(h:JZ p os S):∀x∈S,∃o∈os,∃i,bJ p o i (x.1.l.map bF) x.2:=fun x A=>by
 obtain⟨i,G⟩:=List.getElem?_of_mem A;obtain⟨o,M,N⟩:=h i x G;exact⟨o,CJ M,i,N⟩
theorem a3s{α β:Type}(S:List α)(x:α) φ (f:β→List Value):((S++[x]).map φ).flatMap f=(S.map φ).flatMap f++f (φ x):=sI
theorem c6J{α:Type}(x y z:α)(C:List α):(x::y::z::C).Perm (x::((y::z::C)++[])):= .of_eq (by rw[yD])
theorem c9G{α:Type}(x y z:α)(A C:List α):(A++([x,y,z]++C)).Perm (x::y::z::(A++C)):=by
 refine(List.perm_append_comm_assoc A [x,y,z] C).trans ?_;exact .refl _
theorem zJ.QX{α:Type}{f:α→List Value}{I:Heap}{l:List α}{p:Option Addr}{c:Nat}(h:zJ f I l (.slice p l.length c))(most:Int):zJ f I (l.take most.toNat) (.slice p (min l.length most.toNat) (min l.length most.toNat)):=by
 have h1:=zJ.take h (sV l.length most.toNat);obtain⟨p1,c1,M,N,A⟩:=h1;obtain⟨O,-,Q⟩:=Value.slice.inj M;subst O;subst Q;rw[a7q]at N A;have G:(l.take most.toNat).length=min l.length most.toNat:=by rw[wI,Nat.min_comm]
 exact⟨p,_,by rw[G],by rw[G];exact tH _,A⟩
theorem a5x xs vl s most (hs:s.length≤1000000000)(b9:(aC s).1.size≤1000000000∧(aC s).1.wide≤10000000)(bh:xs.length≤1000) I (hL:a1j I xs vl)(hT:NP I)(ht:Tabs I):yY aW 6 [vl,str s,i64 most] I []
 (fun e I' H'=>∃(S:List FE) (r:List Fv) (w we:Value),e= .returned (.tuple #[w,we])∧S.length=xs.length∧JZ (aC s) (xs.map aS) S∧Bk.NZ (flt bF (S.map aH)) (r.map bF)∧zJ CV I' (r.take most.toNat) w∧(∀z∈r,YH I' z)∧zJ EP I' (S.map aS) we∧H'=[]):=by
 refine yY.YZ func6 rfl dE (tJ rfl) ?_;intro w0 _;obtain⟨pv,cv,rfl⟩:=rowLen hL.1;have ar:∀b,some b∈xs.map aS→b.L.length≤100000:=fun b hb=>by
  obtain⟨y,hy,he⟩:=vU.1 hb;rcases hL.2 y hy with⟨_,h2⟩|⟨lb,b2,_,h2,ib,mb,l,c,_,hx,_⟩
  ·rw[h2]at he;cases he
  rw[h2]at he;cases he;exact hx.big
 refine yU 9 ?_;intro b1 _;refine yU 5 ?_;intro b2 _;refine NG (b8L pv xs.length cv s _) ?_;intro _ _ _ a2 ba bb;have hL:=hL.mono a2;have hT:=hT.mono a2;have ht:=ht.mono a2;obtain⟨bc,qb,h,rfl⟩:=bb;cases h;have ap:=ba;refine J.persist (ap _ (.head _)) (fun _ a6 a8=>?_);have hL:=hL.mono a6;have hT:=hT.mono a6;have ht:=ht.mono a6;refine J.persist (ap _ (.tail _ (.head _))) (fun _ a3 au=>?_);have hL:=hL.mono a3;have hT:=hT.mono a3;have ht:=ht.mono a3;have a8:=a3 _ _ a8;have av:=b6b qb bc s hs b9 xs _ oM _ a8 au hL hT ht;refine yU 3 ?_;refine dL bH ?_;refine dL (bC bH) ?_;refine Cj.a4p (ps:=[15,16]) (H1:=[_,_]) (R:=[]) ([]:List FE) (nxA (aC s) (xs.map aS)) (fun s9=>s9.length=(xs.map aS).length) (fun S I' H'=>(∀x∈S,a0K I' x.1)∧JZ (aC s) (xs.map aS) S∧∃g h,AL 0 1 S.length ((S.map aH).flatMap rwC) g∧AL 0 1 S.length ((S.map aS).flatMap EP) h∧H'=(b1,yV 64 [gV S.length g])::(b2,yV 31 [gV S.length h])::(gH 30 ((S.map aH).flatMap rwC) g++gH 58 ((S.map aS).flatMap EP) h)) (fun _ _ _=>False) rfl (c7I rfl rfl) c9s rfl av (fun _ _ _ _ a4 h=>⟨fun x hx=>(h.1 x hx).mono a4,h.2⟩) ⟨fun _ h=>(by cases h),JZ.nil,none,none,⟨rfl,rfl⟩,⟨rfl,rfl⟩,rfl⟩ ?_ ?_ ?_
 ·intro l r k args _ _ _ _ hk a4 hY;obtain⟨_,x9,_,aq,rfl,a5,bd,rfl⟩:=hk;obtain⟨hS,hA,g,hh,hg,a9,rfl⟩:=hY;have be:k.length<(xs.map aS).length:=(xC.1 aq).1;rw[wO]at be;refine yU 8 ?_;refine Ej.asg ?_;refine yU 6 ?_;intro _ _;refine J.perm (H':=[_,_,_,_]++(gH _ _ _++gH _ _ _)) (IZ [_,_,_,_] _ _) ?_;refine bD rfl (GX 0 (sQ _) (by':=23) ([_,_,_,_]++gH _ _ _) rfl rfl rfl rfl rfl tU64 (.inr ⟨_,tU64⟩) kR sizeOf30 b9j rfl hg rfl (dA (yX.at 0 rfl) rfl rfl rfl) oM ?_);intro _ aw;refine bD rfl (DV 2 rfl rfl rfl rfl (a1B _ _) (a9i _ _) sizeOf64 rfl rfl (aB aG) (aY (aY aN)) ?_);refine J.UM (aU (BX UQ (yX.at 3 rfl)) ?_);refine aU zS ?_;refine bD rfl (CY ZR MW a4j (DC.one rfl bI) ?_);intro _ _;refine J.perm (H':=[_,_,_,_,_]++(gH _ _ _++gH _ _ _)) (IZ [_,_,_,_,_] _ _) ?_;refine bD rfl (GX 0 (sQ _) (by':=7) ([_,_,_,_,_]++gH _ _ _) rfl rfl rfl rfl rfl ZR (.inr ⟨_,ZR⟩) kR MW a4j rfl a9 rfl (dA (yX.at 0 rfl) rfl rfl rfl) oM ?_);intro _ ax;refine yU 3 ?_;refine dG (bC (bC bH)) ?_;refine bG (dF (aA (aA (dF (dF dQ))))) ?_;exact Ej.a3z ⟨fun x hx=>(wB.1 hx).elim (hS x) fun hx=>by rw[vN.1 hx];exact a5,hA.snoc aq bd,_,_,by rw[a3s,wV];exact aw,by rw[a3s,wV];exact ax,by rw[a3s,a3s,wV];rfl⟩
 ·intro _ O _ _ aa a4 hY;obtain⟨hS,hA,g,hh,hg,a9,rfl⟩:=hY;refine Ej.MN (Ej.seq (Cj.seq ?_));refine dM (c6J _ _ _ _) ?_;refine Cj.a6e rfl (fun ab=>?_);refine dM (H':=gH 30 ((O.map aH).flatMap rwC) g++([_,_,_]++gH 58 ((O.map aS).flatMap EP) hh)) (c9G _ _ _ _ _) ?_;have bf:∀p∈gH 30 ((O.map aH).flatMap rwC) g,w0.heap.size≤p.1:=fun p hp=>ab p (.tail _ (.tail _ (.tail _ (vZ _ hp))));have bg:∀p∈gH 58 ((O.map aS).flatMap EP) hh,w0.heap.size≤p.1:=fun p hp=>ab p (.tail _ (.tail _ (.tail _ (vY _ hp))));refine Cj.keepR a9T dE (hg.base bf) (wO ..).symm (fun _ a2 a7=>?_);have hS:=fun x9 a5=>(hS x9 a5).mono a2;refine dM (H':=gH 58 ((O.map aS).flatMap EP) hh++[_,_,_]) uQ ?_;refine Cj.keepR GN dE (a9.base bg) (wO ..).symm (fun I6 ac G=>?_);have hS:=fun x9 a5=>(hS x9 a5).mono ac;have a7:=a7.mono ac;have a0:O.length=xs.length:=by rw[wO]at aa;exact aa
  have bi:=JZ.bound (p:=(aC s)) (os:=(xs.map aS)) ar hA.mem;obtain⟨pl,cl,a4⟩:=rowLen a7;rw[wO]at a4;have a1:LsS I6 (O.map aH) (gV O.length g):=⟨a7,fun x hx=>by obtain⟨y,hy,rfl⟩:=vU.1 hx;exact hS y hy⟩;refine cO [0,1,2] [] 7 kR ?_;refine aV [0,2,4] kR sI ?_;intro i M;simp only[vX,vG,or_false]at M;rcases M with rfl|rfl|rfl
  ·refine⟨_,rfl,rfl,?_⟩;refine CU (BX isAgg64 (yX.at 1 rfl)) ?_;refine yU 1 ?_;refine aV [1,2,4] kR sI ?_;intro i M;simp only[vX,vG,or_false]at M;rcases M with rfl|rfl|rfl
   ·refine⟨_,rfl,rfl,?_⟩;refine zX (NH (O.map aH) _ (by rw[wO];omega) oM oM _ a1) ?_;intro _ _ _ ad ay;have G:=G.mono ad;obtain⟨r,wm,h,A,Z,rfl⟩:=ay;cases h;obtain⟨pm,cm,rfl,N,-⟩:=id A.1;refine yU 1 ?_;refine aV [2,4] kR sI ?_;intro i M;simp only[vX,vG,or_false]at M;rcases M with rfl|rfl
    ·refine⟨_,rfl,rfl,?_⟩;refine CU zS ?_;refine yU 1 ?_;refine aV [3,4] kR sI ?_;intro i M;simp only[vX,vG,or_false]at M;rcases M with rfl|rfl
     ·refine⟨_,rfl,rfl,?_⟩;refine zO (II pm r.length cm most N _) ?_;refine yU 1 ?_;refine aV [4,5] kR sI ?_;intro i M;simp only[vX,vG,or_false]at M;rcases M with rfl|rfl
      ·refine⟨_,rfl,rfl,?_⟩;refine CU (BX UQ (yX.at 2 rfl)) ?_;refine yU 1 ?_;refine qq2 5 rfl (CU BI ?_);refine yU 1 ?_;refine qq2 6 rfl (CU BI ?_);refine yU 4 ?_;refine aI (.inl rfl) ?_;refine aO 0 rfl aN ?_;refine aP (aA (aA (aA aK))) ?_;exact aQ rfl rfl rfl ⟨O,r,_,_,rfl,a0,hA,Z,zJ.QX A.1.row most,fun z Q=>(A.2 z Q).YQ,G,rfl⟩
      refine⟨_,rfl,rfl,?_⟩;refine CU BI ?_;refine yU 1 ?_;refine qq2 4 rfl (CU (BX UQ (yX.at 2 rfl)) ?_);refine yU 1 ?_;refine qq2 6 rfl (CU BI ?_);refine yU 4 ?_;refine aI (.inl rfl) ?_;refine aO 0 rfl aN ?_;refine aP (aA (aA (aA aK))) ?_;exact aQ rfl rfl rfl ⟨O,r,_,_,rfl,a0,hA,Z,zJ.QX A.1.row most,fun z Q=>(A.2 z Q).YQ,G,rfl⟩
     refine⟨_,rfl,rfl,?_⟩;refine CU (BX UQ (yX.at 2 rfl)) ?_;refine zO (II pm r.length cm most N _) ?_;refine yU 1 ?_;refine qq2 5 rfl (CU BI ?_);refine yU 1 ?_;refine qq2 6 rfl (CU BI ?_);refine yU 4 ?_;refine aI (.inl rfl) ?_;refine aO 0 rfl aN ?_;refine aP (aA (aA (aA aK))) ?_;exact aQ rfl rfl rfl ⟨O,r,_,_,rfl,a0,hA,Z,zJ.QX A.1.row most,fun z Q=>(A.2 z Q).YQ,G,rfl⟩
    refine⟨_,rfl,rfl,?_⟩;refine CU (BX UQ (yX.at 2 rfl)) ?_;refine yU 1 ?_;refine qq2 2 rfl (CU zS ?_);refine zO (II pm r.length cm most N _) ?_;refine yU 1 ?_;refine qq2 5 rfl (CU BI ?_);refine yU 1 ?_;refine qq2 6 rfl (CU BI ?_);refine yU 4 ?_;refine aI (.inl rfl) ?_;refine aO 0 rfl aN ?_;refine aP (aA (aA (aA aK))) ?_;exact aQ rfl rfl rfl ⟨O,r,_,_,rfl,a0,hA,Z,zJ.QX A.1.row most,fun z Q=>(A.2 z Q).YQ,G,rfl⟩
   ·refine⟨_,rfl,rfl,?_⟩;refine CU zS ?_;refine yU 1 ?_;refine aV [1,4] kR sI ?_;intro i M;simp only[vX,vG,or_false]at M;rcases M with rfl|rfl
    ·refine⟨_,rfl,rfl,?_⟩;refine zX (NH (O.map aH) _ (by rw[wO];omega) oM oM _ a1) ?_;intro _ _ _ ae az;have G:=G.mono ae;obtain⟨r,wm,h,A,Z,rfl⟩:=az;cases h;obtain⟨pm,cm,rfl,N,-⟩:=id A.1;refine yU 1 ?_;refine aV [3,4] kR sI ?_;intro i M;simp only[vX,vG,or_false]at M;rcases M with rfl|rfl
     ·refine⟨_,rfl,rfl,?_⟩;refine zO (II pm r.length cm most N _) ?_;refine yU 1 ?_;refine aV [4,5] kR sI ?_;intro i M;simp only[vX,vG,or_false]at M;rcases M with rfl|rfl
      ·refine⟨_,rfl,rfl,?_⟩;refine CU (BX UQ (yX.at 2 rfl)) ?_;refine yU 1 ?_;refine qq2 5 rfl (CU BI ?_);refine yU 1 ?_;refine qq2 6 rfl (CU BI ?_);refine yU 4 ?_;refine aI (.inl rfl) ?_;refine aO 0 rfl aN ?_;refine aP (aA (aA (aA aK))) ?_;exact aQ rfl rfl rfl ⟨O,r,_,_,rfl,a0,hA,Z,zJ.QX A.1.row most,fun z Q=>(A.2 z Q).YQ,G,rfl⟩
      refine⟨_,rfl,rfl,?_⟩;refine CU BI ?_;refine yU 1 ?_;refine qq2 4 rfl (CU (BX UQ (yX.at 2 rfl)) ?_);refine yU 1 ?_;refine qq2 6 rfl (CU BI ?_);refine yU 4 ?_;refine aI (.inl rfl) ?_;refine aO 0 rfl aN ?_;refine aP (aA (aA (aA aK))) ?_;exact aQ rfl rfl rfl ⟨O,r,_,_,rfl,a0,hA,Z,zJ.QX A.1.row most,fun z Q=>(A.2 z Q).YQ,G,rfl⟩
     refine⟨_,rfl,rfl,?_⟩;refine CU (BX UQ (yX.at 2 rfl)) ?_;refine zO (II pm r.length cm most N _) ?_;refine yU 1 ?_;refine qq2 5 rfl (CU BI ?_);refine yU 1 ?_;refine qq2 6 rfl (CU BI ?_);refine yU 4 ?_;refine aI (.inl rfl) ?_;refine aO 0 rfl aN ?_;refine aP (aA (aA (aA aK))) ?_;exact aQ rfl rfl rfl ⟨O,r,_,_,rfl,a0,hA,Z,zJ.QX A.1.row most,fun z Q=>(A.2 z Q).YQ,G,rfl⟩
    refine⟨_,rfl,rfl,?_⟩;refine CU (BX UQ (yX.at 2 rfl)) ?_;refine zX (NH (O.map aH) _ (by rw[wO];omega) oM oM _ a1) ?_;intro _ _ _ af b0;have G:=G.mono af;obtain⟨r,wm,h,A,Z,rfl⟩:=b0;cases h;obtain⟨pm,cm,rfl,N,-⟩:=id A.1;refine zO (II pm r.length cm most N _) ?_;refine yU 1 ?_;refine qq2 5 rfl (CU BI ?_);refine yU 1 ?_;refine qq2 6 rfl (CU BI ?_);refine yU 4 ?_;refine aI (.inl rfl) ?_;refine aO 0 rfl aN ?_;refine aP (aA (aA (aA aK))) ?_;exact aQ rfl rfl rfl ⟨O,r,_,_,rfl,a0,hA,Z,zJ.QX A.1.row most,fun z Q=>(A.2 z Q).YQ,G,rfl⟩
   refine⟨_,rfl,rfl,?_⟩;refine CU (BX UQ (yX.at 2 rfl)) ?_;refine yU 1 ?_;refine aV [1,2] kR sI ?_;intro i M;simp only[vX,vG,or_false]at M;rcases M with rfl|rfl
   ·refine⟨_,rfl,rfl,?_⟩;refine zX (NH (O.map aH) _ (by rw[wO];omega) oM oM _ a1) ?_;intro _ _ _ ag hp33;have G:=G.mono ag;obtain⟨r,wm,h,A,Z,rfl⟩:=hp33;cases h;obtain⟨pm,cm,rfl,N,-⟩:=id A.1;refine yU 1 ?_;refine qq2 2 rfl (CU zS ?_);refine zO (II pm r.length cm most N _) ?_;refine yU 1 ?_;refine qq2 5 rfl (CU BI ?_);refine yU 1 ?_;refine qq2 6 rfl (CU BI ?_);refine yU 4 ?_;refine aI (.inl rfl) ?_;refine aO 0 rfl aN ?_;refine aP (aA (aA (aA aK))) ?_;exact aQ rfl rfl rfl ⟨O,r,_,_,rfl,a0,hA,Z,zJ.QX A.1.row most,fun z Q=>(A.2 z Q).YQ,G,rfl⟩
   refine⟨_,rfl,rfl,?_⟩;refine CU zS ?_;refine zX (NH (O.map aH) _ (by rw[wO];omega) oM oM _ a1) ?_;intro _ _ _ ah hp38;have G:=G.mono ah;obtain⟨r,wm,h,A,Z,rfl⟩:=hp38;cases h;obtain⟨pm,cm,rfl,N,-⟩:=id A.1;refine zO (II pm r.length cm most N _) ?_;refine yU 1 ?_;refine qq2 5 rfl (CU BI ?_);refine yU 1 ?_;refine qq2 6 rfl (CU BI ?_);refine yU 4 ?_;refine aI (.inl rfl) ?_;refine aO 0 rfl aN ?_;refine aP (aA (aA (aA aK))) ?_;exact aQ rfl rfl rfl ⟨O,r,_,_,rfl,a0,hA,Z,zJ.QX A.1.row most,fun z Q=>(A.2 z Q).YQ,G,rfl⟩
  ·refine⟨_,rfl,rfl,?_⟩;refine CU zS ?_;refine yU 1 ?_;refine aV [0,4] kR sI ?_;intro i M;simp only[vX,vG,or_false]at M;rcases M with rfl|rfl
   ·refine⟨_,rfl,rfl,?_⟩;refine CU (BX isAgg64 (yX.at 1 rfl)) ?_;refine yU 1 ?_;refine aV [1,4] kR sI ?_;intro i M;simp only[vX,vG,or_false]at M;rcases M with rfl|rfl
    ·refine⟨_,rfl,rfl,?_⟩;refine zX (NH (O.map aH) _ (by rw[wO];omega) oM oM _ a1) ?_;intro _ _ _ ai b3;have G:=G.mono ai;obtain⟨r,wm,h,A,Z,rfl⟩:=b3;cases h;obtain⟨pm,cm,rfl,N,-⟩:=id A.1;refine yU 1 ?_;refine aV [3,4] kR sI ?_;intro i M;simp only[vX,vG,or_false]at M;rcases M with rfl|rfl
     ·refine⟨_,rfl,rfl,?_⟩;refine zO (II pm r.length cm most N _) ?_;refine yU 1 ?_;refine aV [4,5] kR sI ?_;intro i M;simp only[vX,vG,or_false]at M;rcases M with rfl|rfl
      ·refine⟨_,rfl,rfl,?_⟩;refine CU (BX UQ (yX.at 2 rfl)) ?_;refine yU 1 ?_;refine qq2 5 rfl (CU BI ?_);refine yU 1 ?_;refine qq2 6 rfl (CU BI ?_);refine yU 4 ?_;refine aI (.inl rfl) ?_;refine aO 0 rfl aN ?_;refine aP (aA (aA (aA aK))) ?_;exact aQ rfl rfl rfl ⟨O,r,_,_,rfl,a0,hA,Z,zJ.QX A.1.row most,fun z Q=>(A.2 z Q).YQ,G,rfl⟩
      refine⟨_,rfl,rfl,?_⟩;refine CU BI ?_;refine yU 1 ?_;refine qq2 4 rfl (CU (BX UQ (yX.at 2 rfl)) ?_);refine yU 1 ?_;refine qq2 6 rfl (CU BI ?_);refine yU 4 ?_;refine aI (.inl rfl) ?_;refine aO 0 rfl aN ?_;refine aP (aA (aA (aA aK))) ?_;exact aQ rfl rfl rfl ⟨O,r,_,_,rfl,a0,hA,Z,zJ.QX A.1.row most,fun z Q=>(A.2 z Q).YQ,G,rfl⟩
     refine⟨_,rfl,rfl,?_⟩;refine CU (BX UQ (yX.at 2 rfl)) ?_;refine zO (II pm r.length cm most N _) ?_;refine yU 1 ?_;refine qq2 5 rfl (CU BI ?_);refine yU 1 ?_;refine qq2 6 rfl (CU BI ?_);refine yU 4 ?_;refine aI (.inl rfl) ?_;refine aO 0 rfl aN ?_;refine aP (aA (aA (aA aK))) ?_;exact aQ rfl rfl rfl ⟨O,r,_,_,rfl,a0,hA,Z,zJ.QX A.1.row most,fun z Q=>(A.2 z Q).YQ,G,rfl⟩
    refine⟨_,rfl,rfl,?_⟩;refine CU (BX UQ (yX.at 2 rfl)) ?_;refine zX (NH (O.map aH) _ (by rw[wO];omega) oM oM _ a1) ?_;intro _ _ _ aj b4;have G:=G.mono aj;obtain⟨r,wm,h,A,Z,rfl⟩:=b4;cases h;obtain⟨pm,cm,rfl,N,-⟩:=id A.1;refine zO (II pm r.length cm most N _) ?_;refine yU 1 ?_;refine qq2 5 rfl (CU BI ?_);refine yU 1 ?_;refine qq2 6 rfl (CU BI ?_);refine yU 4 ?_;refine aI (.inl rfl) ?_;refine aO 0 rfl aN ?_;refine aP (aA (aA (aA aK))) ?_;exact aQ rfl rfl rfl ⟨O,r,_,_,rfl,a0,hA,Z,zJ.QX A.1.row most,fun z Q=>(A.2 z Q).YQ,G,rfl⟩
   refine⟨_,rfl,rfl,?_⟩;refine CU (BX UQ (yX.at 2 rfl)) ?_;refine yU 1 ?_;refine qq2 0 rfl (CU (BX isAgg64 (yX.at 1 rfl)) ?_);refine zX (NH (O.map aH) _ (by rw[wO];omega) oM oM _ a1) ?_;intro _ _ _ al b5;have G:=G.mono al;obtain⟨r,wm,h,A,Z,rfl⟩:=b5;cases h;obtain⟨pm,cm,rfl,N,-⟩:=id A.1;refine zO (II pm r.length cm most N _) ?_;refine yU 1 ?_;refine qq2 5 rfl (CU BI ?_);refine yU 1 ?_;refine qq2 6 rfl (CU BI ?_);refine yU 4 ?_;refine aI (.inl rfl) ?_;refine aO 0 rfl aN ?_;refine aP (aA (aA (aA aK))) ?_;exact aQ rfl rfl rfl ⟨O,r,_,_,rfl,a0,hA,Z,zJ.QX A.1.row most,fun z Q=>(A.2 z Q).YQ,G,rfl⟩
  refine⟨_,rfl,rfl,?_⟩;refine CU (BX UQ (yX.at 2 rfl)) ?_;refine yU 1 ?_;refine aV [0,2] kR sI ?_;intro i M;simp only[vX,vG,or_false]at M;rcases M with rfl|rfl
  ·refine⟨_,rfl,rfl,?_⟩;refine CU (BX isAgg64 (yX.at 1 rfl)) ?_;refine yU 1 ?_;refine aV [1,2] kR sI ?_;intro i M;simp only[vX,vG,or_false]at M;rcases M with rfl|rfl
   ·refine⟨_,rfl,rfl,?_⟩;refine zX (NH (O.map aH) _ (by rw[wO];omega) oM oM _ a1) ?_;intro _ _ _ am b6;have G:=G.mono am;obtain⟨r,wm,h,A,Z,rfl⟩:=b6;cases h;obtain⟨pm,cm,rfl,N,-⟩:=id A.1;refine yU 1 ?_;refine qq2 2 rfl (CU zS ?_);refine zO (II pm r.length cm most N _) ?_;refine yU 1 ?_;refine qq2 5 rfl (CU BI ?_);refine yU 1 ?_;refine qq2 6 rfl (CU BI ?_);refine yU 4 ?_;refine aI (.inl rfl) ?_;refine aO 0 rfl aN ?_;refine aP (aA (aA (aA aK))) ?_;exact aQ rfl rfl rfl ⟨O,r,_,_,rfl,a0,hA,Z,zJ.QX A.1.row most,fun z Q=>(A.2 z Q).YQ,G,rfl⟩
   refine⟨_,rfl,rfl,?_⟩;refine CU zS ?_;refine zX (NH (O.map aH) _ (by rw[wO];omega) oM oM _ a1) ?_;intro _ _ _ an b7;have G:=G.mono an;obtain⟨r,wm,h,A,Z,rfl⟩:=b7;cases h;obtain⟨pm,cm,rfl,N,-⟩:=id A.1;refine zO (II pm r.length cm most N _) ?_;refine yU 1 ?_;refine qq2 5 rfl (CU BI ?_);refine yU 1 ?_;refine qq2 6 rfl (CU BI ?_);refine yU 4 ?_;refine aI (.inl rfl) ?_;refine aO 0 rfl aN ?_;refine aP (aA (aA (aA aK))) ?_;exact aQ rfl rfl rfl ⟨O,r,_,_,rfl,a0,hA,Z,zJ.QX A.1.row most,fun z Q=>(A.2 z Q).YQ,G,rfl⟩
  refine⟨_,rfl,rfl,?_⟩;refine CU zS ?_;refine yU 1 ?_;refine qq2 0 rfl (CU (BX isAgg64 (yX.at 1 rfl)) ?_);refine zX (NH (O.map aH) _ (by rw[wO];omega) oM oM _ a1) ?_;intro _ _ _ ao b8;have G:=G.mono ao;obtain⟨r,wm,h,A,Z,rfl⟩:=b8;cases h;obtain⟨pm,cm,rfl,N,-⟩:=id A.1;refine zO (II pm r.length cm most N _) ?_;refine yU 1 ?_;refine qq2 5 rfl (CU BI ?_);refine yU 1 ?_;refine qq2 6 rfl (CU BI ?_);refine yU 4 ?_;refine aI (.inl rfl) ?_;refine aO 0 rfl aN ?_;refine aP (aA (aA (aA aK))) ?_;exact aQ rfl rfl rfl ⟨O,r,_,_,rfl,a0,hA,Z,zJ.QX A.1.row most,fun z Q=>(A.2 z Q).YQ,G,rfl⟩
 exact fun _ _ _ _ _ hZ=>hZ.elim
end Go.Proofs.YtalapkjmkjmpjaaGreatDoor
end
namespace Go.Proofs.YtalapkjmkjmpjaaGreatDoor
open Go Go.Sx
theorem PW{α:Type}(f:α→List Value) l x:(l++[x]).flatMap f=l.flatMap f++f x:=sI
end Go.Proofs.YtalapkjmkjmpjaaGreatDoor
namespace Ke
def b4S (f:FN):FN:={ f with sv:= .slice none 0 0 }
def nrm (fs:List FN):List FN:=fs.map b4S
theorem a1J{g}(A:∀f,(g f).tag=f.tag) tag:∀fs:List FN,find (fs.map g) tag=(find fs tag).map g
 |[]=>rfl
 |f::r=>by
  have G:=a1J A tag r;unfold find at G ⊢;rw[wF]
  by_cases h:f.tag=tag
  ·rw[bV (by rw[A];simpa using h),bV (by simpa using h)];rfl
  rw[bW (by rw[A];simpa using h),bW (by simpa using h),G]
theorem c0M {g : FN → FN} (hg : ∀ f, (g f).tag = f.tag) (hz : g zf = zf) (tag : Bs) (fs : List FN) : first (fs.map g) tag = g (first fs tag) := by
  unfold first
  rw [a1J hg]
  cases find fs tag with
  | none => exact hz.symm
  | some f => rfl
theorem b1m (fs : List FN) (tag : Bs) : first (nrm fs) tag = b4S (first fs tag) := c0M (g := b4S) (fun _ => rfl) rfl tag fs
theorem c0W(fs:List FN):title (nrm fs)=title fs:=by unfold title;rw[b1m];rfl
theorem b7X(fs:List FN):all (nrm fs)=all fs:=by
 have h1:(nrm fs).flatMap books=fs.flatMap books:=by unfold nrm;rw[dJ];rfl
 have h2:UY (nrm fs)=UY fs:=by unfold UY;rw[c0W,b1m];rfl
 unfold all raw;rw[h1,h2]
end Ke
namespace Bk
open Ix
def N0:dK:= .slice none 0 0
def bkT (t:List UInt8) (w:dK):bQ:=⟨[50,52,53],[49,48],[],w,[⟨97,t⟩]⟩
def bkA (a:List UInt8) (w:dK):bQ:=⟨[49,48,48],[49,32],[],w,[⟨97,a⟩]⟩
def bk (t a:List UInt8) (w1 w2:dK):List bQ:=if a≠[]then[bkT t w1,bkA a w2]else[bkT t w1]
theorem d0Q t A G:bk t [] A G=[bkT t A]:=rfl
theorem d0O{a}(h:a≠[]) t A G:bk t a A G=[bkT t A,bkA a G]:=zF h
theorem c1t t a A G:Ke.nrm (bk t a A G)=Ke.nrm (bk t a N0 N0):=by
 unfold bk
 split<;>rfl
theorem b1R fs:vals (Ke.nrm fs)=vals fs:=by
 unfold vals Ke.nrm;rw[dJ];rfl
theorem b0c t a A G:vals (bk t a A G)=vals (bk t a N0 N0):=by
 rw[←b1R (bk t a A G),c1t,b1R]
theorem b5m t a A G:keyOf (bk t a A G)=keyOf (bk t a N0 N0):=by
 unfold keyOf;rw[←Ke.b7X (bk t a A G),c1t,Ke.b7X]
theorem b5P{es A}(h:es.map (fun e=>(e.1,vals e.2,keyOf e.2))=A.map (fun e=>(e.1,vals e.2,keyOf e.2))):YF es=YF A:=by
 have h1:∀l:List (Rec×List bQ),YF l=⟨a0e ((l.map fun e=>(e.1,vals e.2,keyOf e.2)).map fun x=>(x.1,x.2.1)) [],fun t=>((l.map fun e=>(e.1,vals e.2,keyOf e.2)).foldl (fun o x=>if x.1=t then some x.2.2 else o) none).getD []⟩:=fun l=>by
  unfold YF a4y;simp only[wE,List.foldl_map];rfl
 rw[h1,h1,h]
def a8H:List UInt8:=[69,109,109,97]
def a2V:List UInt8:=[65,117,115,116,101,110,44,32,74,97,110,101]
def b4c:List UInt8:=[83,101,97,32,115,116,111,114,105,101,115]
def a8D:List UInt8:=[69,77,77,65,46]
def a9B:List UInt8:=[65,117,115,116,101,110]
def LA:Lb:=YF [((1,1),bk a8H a2V N0 N0),((1,2),bk b4c [] N0 N0)]
def LB:Lb:=YF [((2,7),bk a8D a9B N0 N0)]
theorem d1d u x v y:YF [((1,1),bk a8H a2V u x),((1,2),bk b4c [] v y)]=LA:=b5P (by
 simp only[wF,wC];rw[b0c a8H a2V u x,b0c b4c [] v y,b5m a8H a2V u x,b5m b4c [] v y])
theorem d1t u x:YF [((2,7),bk a8D a9B u x)]=LB:=b5P (by
 simp only[wF,wC];rw[b0c a8D a9B u x,b5m a8D a9B u x])
def s1:List UInt8:=[116,105,116,108,101,32,61,32,101,109,109,97]
def s2:List UInt8:=[97,110,121,32,61,32,115,116,111,114,105,101,115]
def s3:List UInt8:=[116,105,116,108,101,32,61,32]
def s4:List UInt8:=[101,109,109,97]
def K1:List UInt8:=[116,105,116,108,101,32,101,109,109,97,32,47,32,97,117,115,116,101,110]
def K2:List UInt8:=[116,105,116,108,101,32,115,101,97,32,115,116,111,114,105,101,115,32,47,32]
theorem c4W{p b k fs e}(h:ans p (some b) k fs e)(A:p.2.2=0){r}(G:NK b.L p.1 r){gs}(M:found b r k=gs):fs=gs∧e=0:=by
 unfold ans at h;rw[zD (fun g=>g A)]at h;obtain⟨h1,s,h2,h3⟩:=h;obtain rfl:s=r:=h2.eq G;exact⟨h3.trans M,h1⟩
theorem c5N{p k fs e}(h:ans p none k fs e)(A:p.2.2=0):fs=[]∧e=32:=by
 unfold ans at h;rw[zD (fun g=>g A)]at h;exact h
theorem b7H{p o k fs e}(h:ans p o k fs e)(A:p.2.2=40):fs=[]∧e=40:=by
 unfold ans at h;rw[zF (by rw[A];decide),A]at h;exact h
theorem a3x{xs r s}(h:NZ xs r)(A:a1y xs=s)(G:s.Pairwise fun p q=>KO q p=false):r=s:=h.uniq (b0g (.of_eq A.symm) G)
theorem p1:(aC s1).2.2=0:=by decide +kernel
theorem p2:(aC s2).2.2=0:=by decide +kernel
theorem p3:(aC s3).2.2=40:=by decide +kernel
theorem p4:(aC s4).2.2=0:=by decide +kernel
theorem b9s{t}(A:t∈LA.L.map (·.1)):t=(1,1)∨t=(1,2):=by
 have A:t∈[((1,1):Rec),(1,2)]:=A;simpa only[vX,vG,or_false]using A
theorem c7z{t}(A:t∈LB.L.map (·.1)):t=(2,7):=by
 have A:t∈[((2,7):Rec)]:=A;simpa only[vX,vG,or_false]using A
theorem rA1:NK LA.L (aC s1).1 [(1,1)]:=a1L (uT _ _) (fun t A=>by rcases b9s A with rfl|rfl<;>decide +kernel) (by decide +kernel)
theorem rB1:NK LB.L (aC s1).1 [(2,7)]:=a1L (uT _ _) (fun t A=>by rcases c7z A with rfl;decide +kernel) (by decide +kernel)
theorem rA2:NK LA.L (aC s2).1 [(1,2)]:=a1L (uT _ _) (fun t A=>by rcases b9s A with rfl|rfl<;>decide +kernel) (by decide +kernel)
theorem rB2:NK LB.L (aC s2).1 []:=a1L .nil (fun t A=>by rcases c7z A with rfl;decide +kernel) (fun _ h=>by cases h)
theorem rA4:NK LA.L (aC s4).1 [(1,1)]:=a1L (uT _ _) (fun t A=>by rcases b9s A with rfl|rfl<;>decide +kernel) (by decide +kernel)
theorem fA1:found LA [(1,1)] 0=[⟨(1,1),K1,[0]⟩]:=by decide +kernel
theorem fB1:found LB [(2,7)] 1=[⟨(2,7),K1,[1]⟩]:=by decide +kernel
theorem fA2:found LA [(1,2)] 0=[⟨(1,2),K2,[0]⟩]:=by decide +kernel
theorem m1{r}(h:NZ [⟨(1,1),K1,[0]⟩,⟨(2,7),K1,[1]⟩] r):r=[⟨(1,1),K1,[0,1]⟩]:=a3x h (by decide +kernel) (uT _ _)
theorem m2{r}(h:NZ [⟨(1,2),K2,[0]⟩] r):r=[⟨(1,2),K2,[0]⟩]:=a3x h (by decide +kernel) (uT _ _)
theorem m3{r}(h:NZ [] r):r=[]:=a3x h rfl .nil
theorem m4{r}(h:NZ [⟨(1,1),K1,[0]⟩] r):r=[⟨(1,1),K1,[0]⟩]:=a3x h (by decide +kernel) (uT _ _)
theorem sc1:(allL [([97],1),([99],2),([97],3),([98],1)]).take 2=[([97],4),([98],1)]:=by decide +kernel
end Bk
section
namespace Go.Proofs.YtalapkjmkjmpjaaGreatDoor
open _root_.Go.Proofs.Tryz
open Go Go.Sx
open Bk
theorem b0z n m t a I:yY aW 12 [i64 n,i64 m,str t,str a] I []
 (fun e I' H'=>∃w w1 w2,e= .returned (.agg (JG ⟨(n,m),0,0,w,Bk.bk t a w1 w2⟩).toArray)∧KC I' (Bk.bk t a w1 w2) w∧H'=[]):=by
 refine zN func12 fun w0 _=>?_;refine yU 3 ?_;intro _ _;refine J.ER (aU zS ?_);refine aU (zL (pl:= #[(0,1),(1,1)]) rfl rfl a7K rfl a3B (fun w=>by simp[tS5,BD]) (aF rfl rfl rfl (aB aG) (aF rfl rfl rfl (aJ (aB aG)) aT))) ?_;refine bD rfl (CY a5N a1G a7K (cZ rfl bI) ?_);intro G a1;refine aU (zL (pl:= #[(0,1),(1,1),(2,1),(3,1)]) rfl rfl a2x rfl a9X (fun w=>by simp[BD,sizeOf90]) (aF rfl rfl rfl (aB aG) (aF rfl rfl rfl (aJ (aB aG)) (aF rfl rfl rfl (aJ (aJ (aJ (aB aG)))) aT)))) ?_;refine bD rfl (CY a7Q KX a2x (cZ rfl bI) ?_);intro b3 a2;refine aU (zL (pl:= #[(0,1),(1,1),(2,1)]) rfl rfl zeroValue45 rfl b4T (fun w=>by simp[sizeOf43,tS5]) (aF rfl rfl rfl (aJ (aJ (aB aG))) aT)) ?_;refine bD rfl (EN rfl rfl rfl zeroValue45 rfl ?_);intro _ _;refine yZ ?_ ?_<;>intro M a3
 ·refine dL (bC (bC bH)) ?_;refine Cj.persist a1 (fun _ _ A=>?_);refine dL (bC bH) ?_;refine dM (H':=[_,_]++[_]) (uQ (l₁:=[_,_]) (l₂:=[_])) ?_;refine Cj.region (aU (zY (off':=2) b4T sizeOf43) ?_);refine aU (BX isAgg43 (yX.at 0 rfl)) ?_;refine aU zS ?_;refine aU (zL (pl:= #[(0,1),(1,1)]) rfl rfl a7K rfl a3B (fun w=>by simp[tS5,BD]) (aF rfl rfl rfl (aB aG) (aF rfl rfl rfl (aJ (aB aG)) aT))) ?_;refine bD rfl (CY a5N a1G a7K (cZ rfl bI) ?_);intro b8 a7;refine aU (zL (pl:= #[(0,1),(1,1),(2,1),(3,1)]) rfl rfl a2x rfl a9X (fun w=>by simp[BD,sizeOf90]) (aF rfl rfl rfl (aB aG) (aF rfl rfl rfl (aJ (aB aG)) (aF rfl rfl rfl (aJ (aJ (aJ (aB aG)))) aT)))) ?_;refine bD rfl (CY a7Q KX a2x (cZ rfl bI) ?_);intro _ _;refine bD rfl (zT (by':=71) (n:=1) (g:=some (b3,1,[])) (xs:=IQ (Bk.bkT t (.slice (some ⟨G,0,none⟩) 1 1))) [_,_,_,_] rfl rfl rfl rfl rfl a7Q (.inr ⟨_,a7Q⟩) kR KX a2x rfl ⟨a2,rfl,rfl⟩ rfl (dA (yX.at 0 rfl) rfl rfl rfl) oM ?_);intro a8 a4;refine aU (zY (off':=2) b4T sizeOf43) ?_;refine bD rfl (DV 2 rfl rfl rfl rfl (a1B _ _) (a9i _ _) sizeOf43 rfl rfl (aJ (aJ (aB aG))) (aY (aY aN)) ?_);refine J.ER (aU zS ?_);refine aU zS ?_;refine aU (zL (pl:= #[(0,1),(1,1)]) rfl rfl VT rfl a0y (fun w=>by simp[AZ]) (aF rfl rfl rfl (aB aG) (aF rfl rfl rfl (aJ (aB aG)) aT))) ?_;refine aU (DX isAgg45 PI (yX.at 2 rfl)) ?_;refine aU (zL (pl:= #[(0,2),(2,3)]) rfl rfl a2y rfl a4X (fun w=>by simp[BM,PI]) (aF rfl rfl rfl (aB (aB aG)) (aF rfl rfl rfl (aJ (aJ (aB (aB (aB aG))))) aT))) ?_;refine bD rfl (DV 3 rfl rfl rfl rfl rfl (by first|rfl|(show[i64 n,i64 m,u8 0,u8 0,gV _ _].all dN=true;simp only[yH,dP,a2S,yO];rfl)) NR rfl rfl (aB (aB (aB (aB (aB aG))))) (aY (aY (aY aN))) ?_);refine yU 3 ?_;refine dG (bC bH) ?_;refine bP a7 (fun _ Q a5=>?_);have A:=Q _ _ A;have N:a≠[]:=bne_iff_ne.1 M;refine Ej.perm (H':=gH 92 (([Bk.bkT t (.slice (some ⟨G,0,none⟩) 1 1),Bk.bkA a (.slice (some ⟨b8,0,none⟩) 1 1)]:List bQ).flatMap IQ) a8++[_,_,_]) uQ ?_;refine Ej.keepR (l:=([Bk.bkT t (.slice (some ⟨G,0,none⟩) 1 1),Bk.bkA a (.slice (some ⟨b8,0,none⟩) 1 1)]:List bQ)) LK dE a4 rfl (fun _ O a9=>?_);refine Ej.b3L (aA (aA (aA aK))) rfl rfl rfl (yX.at 2 rfl) isAgg47 NR rfl ?_;refine⟨_,(.slice (some ⟨G,0,none⟩) 1 1),(.slice (some ⟨b8,0,none⟩) 1 1),rfl,?_,rfl⟩;rw[d0O N];refine⟨a9,fun f Z=>?_⟩;simp only[vX,vG,or_false]at Z;rcases Z with rfl|rfl
  ·exact dH (l:=([⟨97,t⟩]:List Ke.Sub)) (sp:=[]) (tH _) (O _ _ A)
  exact dH (l:=([⟨97,a⟩]:List Ke.Sub)) (sp:=[]) (tH _) (O _ _ a5)
 refine Cj.ks (Cj.sr (aU zS ?_));refine aU zS ?_;refine aU (zL (pl:= #[(0,1),(1,1)]) rfl rfl VT rfl a0y (fun w=>by simp[AZ]) (aF rfl rfl rfl (aB aG) (aF rfl rfl rfl (aJ (aB aG)) aT))) ?_;refine aU (DX isAgg45 PI (yX.at 0 rfl)) ?_;refine aU (zL (pl:= #[(0,2),(2,3)]) rfl rfl a2y rfl a4X (fun w=>by simp[BM,PI]) (aF rfl rfl rfl (aB (aB aG)) (aF rfl rfl rfl (aJ (aJ (aB (aB (aB aG))))) aT))) ?_;refine bD rfl (DV 3 rfl rfl rfl rfl rfl (by first|rfl|(show[i64 n,i64 m,u8 0,u8 0,gV _ _].all dN=true;simp only[yH,dP,a2S,yO];rfl)) NR rfl rfl (aB (aB (aB (aB (aB aG))))) (aY (aY (aY aN))) ?_);refine yU 3 ?_;refine dG (bC (bC bH)) ?_;refine bP a1 (fun _ _ A=>?_);refine dG (bC bH) ?_;refine bP a2 (fun _ a0 a6=>?_);have A:=a0 _ _ A;have N:a=[]:=EC M;subst N;refine Ej.b3L (aA (aA aK)) rfl rfl rfl (yX.at 1 rfl) isAgg47 NR rfl ?_;refine⟨_,(.slice (some ⟨G,0,none⟩) 1 1),.slice none 0 0,rfl,?_,rfl⟩;rw[d0Q];refine⟨dH (l:=([Bk.bkT t (.slice (some ⟨G,0,none⟩) 1 1)]:List bQ)) (sp:=[]) (tH _) a6,fun f Z=>?_⟩;rw[vN.1 Z];exact dH (l:=([⟨97,t⟩]:List Ke.Sub)) (sp:=[]) (tH _) A
end Go.Proofs.YtalapkjmkjmpjaaGreatDoor
end
namespace Bk
open Ix
end Bk
namespace Cq
def tw4:List Tok→Nat
 |[]=>0
 |t::r=>t.text.length+4+tw4 r
def VJ (ts:List Tok):Res→Prop
 | .ok q ts2=>q.wide+tw4 ts2≤tw4 ts
 | .err _ _=>True
theorem c3a:∀f,(∀deep ts,VJ ts (clause f deep ts))∧(∀deep ts,VJ ts (query f deep ts))∧∀deep q ts M A,more f deep q ts= .ok M A→M.wide+tw4 A≤q.wide+tw4 ts
 |0=>⟨fun _ _=>by simp[clause,VJ],fun _ _=>by simp[query,VJ],fun _ _ _ _ _ h=>by simp[more]at h⟩
 |f+1=>by
  obtain⟨N,hq,O⟩:=c3a f;refine⟨fun deep ts=>?_,fun deep ts=>?_,fun deep q ts M A h=>?_⟩
  ·cases ts with
   |nil=>simp[clause,VJ]
   |cons t r=>
    unfold clause
    by_cases h1:lp t=true
    ·rw[zF h1]
     split
     ·trivial
     have:=hq (deep+1) r;cases hx:query f (deep+1) r with
     |err p e=>trivial
     |ok q A=>
      rw[hx]at this;cases A with
      |nil=>trivial
      |cons t2 Q=>
       simp only[]
       split
       ·simp only[VJ,tw4]at this ⊢;omega
       trivial
    rw[zD h1];have bare:VJ (t::r) (.ok ⟨1,[97,110,121],[61],t.text,.nil⟩ r):=by simp[VJ,tw4,Qn.wide,Qs.wide];omega
    split
    ·trivial
    cases r with
    |nil=>cases t.kind == 3<;>exact bare
    |cons t2 Q=>
     cases t.kind == 3 with
     |false=>exact bare
     |true=>
      simp only[]
      split
      ·split
       ·trivial
       cases Q with
       |nil=>trivial
       |cons t3 r3=>
        simp only[]
        split
        ·simp only[VJ,tw4,Qn.wide,Qs.wide,c3e];omega
        trivial
      exact bare
  ·unfold query;have:=N deep ts;cases hx:clause f deep ts with
   |err p e=>trivial
   |ok q A=>
    rw[hx]at this;simp only[];cases hy:more f deep q A with
    |err p e=>trivial
    |ok Z G=>
     have h2:=O deep q A Z G hy;simp only[VJ]at this ⊢;omega
  cases ts with
  |nil=>simp[more]at h
  |cons t r=>
   unfold more at h
   by_cases h1:operator t=0
   ·rw[zF h1]at h;cases h;exact tH _
   rw[zD h1]at h;have:=N deep r;cases hx:clause f deep r with
   |err p e=>rw[hx]at h;cases h
   |ok Z G=>
    rw[hx]at h this;have h2:=O deep _ G M A h;rw[c7i]at h2;simp only[VJ,tw4]at this ⊢;omega
theorem a3I:∀(n:Nat) (r:List UInt8) (p:List UInt8×Nat),r.length≤n→quoted r=some p→p.1.length≤p.2
 |0,r,p,hn,h=>by
  have:r=[]:=wR.1 oM;subst this;rw[YJ]at h;cases h
 |n+1,[],p,_,h=>by rw[YJ]at h;cases h
 |n+1,c::r,p,hn,h=>by
  rw[wU]at hn
  by_cases h34:c=34
  ·subst h34;rw[a4b]at h;cases h;exact sQ _
  by_cases h92:c=92
  ·subst h92;cases r with
   |nil=>rw[a2H]at h;cases h
   |cons d r=>
    rw[a3S,sO]at h;obtain⟨q,A,rfl⟩:=h;have:=a3I n r q (by rw[wU]at hn;omega) A;simp only[wU];omega
  rw[a2E c r h34 h92,sO]at h;obtain⟨q,A,rfl⟩:=h;have:=a3I n r q oM A;simp only[wU];omega
theorem c6i rest j:(head rest j).1.text.length≤(head rest j).2:=by
 unfold head;cases rest with
 |nil=>exact tH _
 |cons c r=>
  dsimp only
  split
  ·cases hq:quoted r with
   |none=>exact sQ _
   |some p=>obtain⟨t,n⟩:=p;exact Nat.le_succ_of_le (a3I _ r _ (tH _) hq)
  split
  ·exact tH _
  split
  ·exact tH _
  split
  ·exact tH _
  split
  ·exact tH _
  exact tH _
theorem c0e rest j (h:over (head rest j).1=true):(head rest j).1.text=[]:=by
 unfold head at h ⊢;cases rest with
 |nil=>rfl
 |cons c r=>
  dsimp only at h ⊢
  split at h
  ·rename_i h1
   rw[zF h1];cases hq:quoted r with
   |none=>rfl
   |some p=>obtain⟨t,n⟩:=p;rw[hq]at h;cases h
  rename_i h1
  rw[zD h1]
  split at h
  ·cases h
  rename_i h2
  rw[zD h2]
  split at h
  ·cases h
  rename_i h3
  rw[zD h3]
  split at h
  ·rename_i A
   rw[zF A]
  split at h<;>cases h
theorem b4w s:∀f i,i≤s.length→tw4 (toks s f i)+5*i≤5*s.length+4
 |0,i,h=>by simp only[toks,tw4];omega
 |f+1,i,h=>by
  unfold toks
  split
  ·rename_i A
   have h1:(lex s i).1.text=[]:=c0e _ _ A;simp only[tw4,h1,wL];omega
  rename_i A
  have h2:=ZE s i h (by simpa using A);have h3:=b4w s f (lex s i).2 h2.2;have G:(lex s i).1.text.length≤(lex s i).2-skip s i:=by
   have:=c6i (s.drop (skip s i)) (skip s i);unfold lex;dsimp only;omega
  have M:=(b0f s i h).1;simp only[tw4];omega
theorem b6p s:(parse s).1.wide≤5*s.length+4:=by
 have h1:tw4 (tokens s)≤5*s.length+4:=b4w s _ 0 (sQ _);have h:=(c3a (4*s.length+9)).2.1 0 (tokens s);have A:zero.wide≤5*s.length+4:=sQ _;unfold parse;cases hq:query (4*s.length+9) 0 (tokens s)with
 |err p e=>exact A
 |ok q ts=>
  rw[hq]at h;cases ts with
  |nil=>exact A
  |cons t r=>
   simp only[]
   split
   ·simp only[VJ]at h;show q.wide≤_;omega
   exact A
