/-
  Own texts on the laws of the seat, joined: the logic, and contracts of functions. Conditions: none.
-/
import Derived.Test.YtalapkjmkjmpjaaGreatDoorNmK
import Derived.Test.YtalapkjmkjmpjaaGreatDoorPK9
set_option linter.all false
set_option maxRecDepth 100000
set_option maxHeartbeats 40000000
open Go.Sx.Pull renaming s -> aA,z -> aC
open Go.Sx.Ej renaming pull -> aB,keep -> aN,round -> bG,PU -> eF
open Go.Proofs.Tryz renaming prog -> aF
open Ix renaming plW -> aG,plK -> aH,Rec -> aI,way -> aJ,cnt -> aK,LX -> aQ,within -> aU,phrase -> aX,vals -> aZ,JB -> bH,c0K -> bT,OM -> bV,Ix -> bW,FK -> cO,keyOf -> cZ,a3K -> dG,Pl -> dN,V -> dX,a1F -> eG,b6k -> eH,MV -> eU
open Ke renaming words -> aO,NU -> dJ,GL -> dW
open Go.Sx.Cj renaming EX -> aP,persist -> bC,loop -> bQ,pull -> dY,rounds -> eP
open Go.Sx.AX renaming c -> aS,z -> aV,s -> dL
open Go.Sx.Keeps renaming n -> aT,d -> bK,r -> dZ
open Go.Sx.yY renaming toPure -> aW
open Go.Sx.BL renaming s -> aY,z -> bD
open Go.Sx.JA renaming tk -> bF,all -> bI,zt -> dH,fix -> dK
open Go.Sx.yX renaming YR -> bJ,NI -> bP,RU -> dI
open Prod renaming fst -> bM
open List renaming take_zero -> bU,drop_length -> bZ,sublist_append_left -> dA,prefix_iff_eq_take -> dB,find?_eq_none -> dM,find?_some -> dS,length_set -> dU,find?_cons -> dV
open Go.Sx.GU renaming part -> bY,none -> eX
open Go.Sx.J renaming op -> dD
open Go.Sx.Le renaming refl -> dF,trans -> dQ
open Nat renaming add_mul -> dP
open Option renaming map -> dR
namespace Go.Proofs.YtalapkjmkjmpjaaGreatDoor
open Go Go.Sx
theorem b5W f t xs q:bump (aJ f t fun p=>xs.count p) q t (· +1)=aJ f t fun p=>(xs++[q]).count p:=by
 funext p u
 unfold bump aJ
 by_cases hu:u=t
 ·subst hu
  by_cases hp:p=q
  ·subst hp;simp
  have h1:(p == q)=false:=by simpa using hp
  have h2:List.count p [q]=0:=List.count_eq_zero.2 (by simpa using hp);simp[h1,List.count_append,h2]
 have h1:(u == t)=false:=by simpa using hu
 simp[h1,hu]
theorem b3H f t ys q:bump (aJ f t fun p=>(q::ys).count p) q t (· -1)=aJ f t fun p=>ys.count p:=by
 funext p u
 unfold bump aJ
 by_cases hu:u=t
 ·subst hu
  by_cases hp:p=q
  ·subst hp;simp
  have h1:(p == q)=false:=by simpa using hp
  have h2:(q == p)=false:=by simpa using Ne.symm hp
  simp[h1,List.count_cons,h2]
 have h1:(u == t)=false:=by simpa using hu
 simp[h1,hu]
theorem a3a f t n p:aJ f t n p t=n p:=zF rfl
def LD (vs:List dX):Prop:=vs.length≤10000000∧∀v∈vs,v.ws.length≤10000000
theorem b7J:∀(vs:List dX),(∀v∈vs,v.ws.length≤10000000)→(aG vs).length≤vs.length*10000000
 |[],_=>by simp[aG]
 |v::r,h=>by
  have h1:=b7J r fun x A=>h x (.tail _ A);have h2:=h v (.head _);unfold aG at h1 ⊢;rw[xO,wV,wO,wU,dP];omega
theorem b8H:∀(vs:List dX),(aH vs).length≤vs.length
 |[]=>by simp[aH]
 |v::r=>by
  have h1:=b8H r;unfold aH at h1 ⊢;rw[xO,wV,wU]
  by_cases hk:v.key=[]
  ·rw[zF hk,wL];omega
  rw[zD hk,wJ];omega
theorem LD.w{vs}(h:LD vs):(aG vs).length≤100000000000000:=FD (b7J vs h.2) (sU _ h.1)
theorem LD.k{vs}(h:LD vs):(aH vs).length≤10000000:=FD (b8H vs) h.1
theorem c2Y{fs}(h:RI fs):LD (aZ fs):=by
 have h1:=b1M fs h fs.length;rw[tY]at h1;refine⟨FD h1 (FD (sU _ h.1) dE),fun v A=>?_⟩;unfold aZ at A;obtain⟨f,M,A⟩:=vV.1 A;obtain⟨_,_,_⟩:=h.2 f M;have G:v.ws.length≤v.text.length+1:=(dJ v.text).1;unfold Ix.a6t at A;rcases wB.1 A with g|g
 ·obtain⟨s,N,rfl⟩:=vU.1 g;have:=a4s N;dsimp only at G;omega
 split at g
 ·rw[vN]at g;subst g;have:=a0n f [];rw[a0x]at this;dsimp only at G;omega
 cases g
structure Ist where
  vb:Nat
  wb:Nat
  kb:Nat
  lv:ML Ix.Rec
  cv:Nat
  lw:ML Ix.Pl
  cw:Nat
  Nw:SL Ix.Pl Ix.Rec
  lk:ML Ix.Pl
  ck:Nat
  Nk:SL Ix.Pl Ix.Rec
def a5n (ib:Nat) (s:Ist):HL:=(s.vb,zZ AB s.lv s.cv)::(ib,yV 142 (TU s.vb s.wb s.kb))::(setH s.wb s.lw s.cw s.Nw++setH s.kb s.lk s.ck s.Nk)
def YB (I:Heap) (lv:ML aI) (L:bW):Prop:=∀t,(aQ L t=none→AQ lv t=none)∧∀vs,aQ L t=some vs→∃w,AQ lv t=some w∧VN I vs w
theorem YB.mono{I A lv L}(h:YB I lv L)(G:Le I A):YB A lv L:=fun t=>⟨(h t).1,fun vs M=>let ⟨w,h1,h2⟩:=(h t).2 vs M;⟨w,h1,h2.mono G⟩⟩
theorem VN.nil I:VN I [] (.slice none 0 0):=⟨[],RV.nil,rfl,fun _ h=>by cases h⟩
theorem YB.at{I lv L}(h:YB I lv L) t:∃w,(AQ lv t).getD (.slice none 0 0)=w∧VN I ((aQ L t).getD []) w:=by
 cases hg:aQ L t with
 |none=>rw[(h t).1 hg];exact⟨_,rfl,VN.nil I⟩
 |some vs=>
  obtain⟨w,h1,h2⟩:=(h t).2 vs hg;rw[h1];exact⟨w,rfl,h2⟩
structure IY (I:Heap) (s:Ist) (L:Ix.Ix):Prop where
  JC:Ix.JB L
  big:L.length≤100000
  vok:∀e∈L,LD e.2
  vms:MS s.lv s.cv
  vals:YB I s.lv L
  nw:CS s.lw s.cw s.Nw (Ix.cnt Ix.plW L)
  nk:CS s.lk s.ck s.Nk (Ix.cnt Ix.plK L)
theorem IY.mono{I A s L}(h:IY I s L)(G:Le I A):IY A s L:=⟨h.JC,h.big,h.vok,h.vms,h.vals.mono G,h.nw,h.nk⟩
theorem b7l pl (h0:pl []=[]) L t:aK pl L=aJ (aK pl L) t fun p=>(pl ((aQ L t).getD [])).count p:=by
 cases hg:aQ L t with
 |none=>
  rw[Option.getD_none,h0];exact Ix.c7e hg
 |some vs=>exact Ix.c5H hg
theorem b5J{L}(A:bH L)(h:∀e∈L,LD e.2) t:LD ((aQ L t).getD []):=by
 cases hg:aQ L t with
 |none=>exact⟨sQ _,fun _ h=>by cases h⟩
 |some vs=>exact h _ ((Ix.JU A).1 hg)
def YS (ib vb wb kb:Nat) (fw fk:dN→aI→Nat) (Y:HL):Prop:=∃lw cw Nw lk ck Nk,CS lw cw Nw fw∧CS lk ck Nk fk∧Y=(ib,yV 142 (TU vb wb kb))::(setH wb lw cw Nw++setH kb lk ck Nk)
theorem YS.word{A vb wb kb Q Z O g args J H}(hY:YS A vb wb kb Q Z H)
 (h:∀l c N,CS l c N Q→yY aF g args J ([(A,yV 142 (TU vb wb kb))]++setH wb l c N) (fun e _ H'=>∃l' G M,e= .returned (.tuple #[])∧CS l' G M O∧H'=[(A,yV 142 (TU vb wb kb))]++setH wb l' G M)):
 yY aF g args J H (fun e _ H'=>e= .returned (.tuple #[])∧YS A vb wb kb O Z H'):=by
 obtain⟨lw,cw,Nw,lk,ck,Nk,h1,h2,rfl⟩:=hY;refine((h lw cw Nw h1).frame (setH kb lk ck Nk)).mono fun e _ H' _ ⟨H1,hH,l',G,M,he,hN,a0⟩=>⟨he,l',G,M,lk,ck,Nk,hN,h2,?_⟩;rw[hH,a0];rfl
theorem YS.key{A vb wb kb Q Z O g args J H}(hY:YS A vb wb kb Q Z H)
 (h:∀l c N,CS l c N Z→yY aF g args J ([(A,yV 142 (TU vb wb kb))]++setH kb l c N) (fun e _ H'=>∃l' G M,e= .returned (.tuple #[])∧CS l' G M O∧H'=[(A,yV 142 (TU vb wb kb))]++setH kb l' G M)):
 yY aF g args J H (fun e _ H'=>e= .returned (.tuple #[])∧YS A vb wb kb Q O H'):=by
 obtain⟨lw,cw,Nw,lk,ck,Nk,h1,h2,rfl⟩:=hY;have hp:∀X,(((A,yV 142 (TU vb wb kb))::(X++setH wb lw cw Nw):HL)).Perm ((A,yV 142 (TU vb wb kb))::(setH wb lw cw Nw++X)):=fun X=>List.Perm.cons _ uQ;refine(yY.perm (hp (setH kb lk ck Nk)) ((h lk ck Nk h2).frame (setH wb lw cw Nw))).leave fun e _ H' _ ⟨H1,hH,l',G,M,he,hN,a0⟩=>⟨_,[],?_,he,lw,cw,Nw,l',G,M,h1,hN,rfl⟩;rw[yD,hH,a0];exact(hp _).symm
theorem a5e{α:Type}{l:List α}{k x}(h:l[k]?=some x):l.drop k=x::l.drop (k+1):=by
 obtain⟨_,A⟩:=xC.1 h;rw[←A,wX]
theorem b4r v r:aG (v::r)=v.ws.map (fun w=>(v.name,w))++aG r:=by unfold aG;rw[xO]
theorem a7W v r:aH (v::r)=(if v.key=[]then[]else[(v.name,v.key)])++aH r:=by unfold aH;rw[xO]
theorem a9U xs v:aG (xs++[v])=aG xs++v.ws.map fun w=>(v.name,w):=by unfold aG;rw[xP];simp
theorem b7L xs v:aH (xs++[v])=aH xs++if v.key=[]then[]else[(v.name,v.key)]:=by unfold aH;rw[xP];simp
theorem b4K{vs}(h:LD vs) i:(aG (vs.drop i)).length≤100000000000000:=
 LD.w ⟨by rw[wS];have:=h.1;omega,fun v A=>h.2 v (vP A)⟩
theorem b4s{vs}(h:LD vs) i:(aH (vs.drop i)).length≤10000000:=
 LD.k ⟨by rw[wS];have:=h.1;omega,fun v A=>h.2 v (vP A)⟩
theorem b4i{vs}(h:LD vs) i:(aG (vs.take i)).length≤100000000000000:=
 LD.w ⟨by rw[wI];have:=h.1;omega,fun v A=>h.2 v (vO A)⟩
theorem b5s{vs}(h:LD vs) i:(aH (vs.take i)).length≤10000000:=
 LD.k ⟨by rw[wI];have:=h.1;omega,fun v A=>h.2 v (vO A)⟩
def YD (ib vb wb kb:Nat) (L:bW) (t:aI) (vs:List dX) (i:Nat):HL→Prop:=YS ib vb wb kb (aJ (aK aG L) t fun p=>(aG (vs.drop i)).count p) (aJ (aK aH L) t fun p=>(aH (vs.drop i)).count p)
theorem c4c O Q G vb wb kb L t vs (hv:LD vs) i v wv (a0:vs[i]?=some v) I (a6:IV 9 I v.ws wv)(a1:I O=some (yV 82 [ptr G 0]))(a2:I Q=some (yV 42 [i64 t.1,i64 t.2])) Y (hY:YD G vb wb kb L t vs i Y):
 yY aF 96 [.agg (vwC (v,wv)).toArray,.func (.func 156) #[] [ptr O 0,ptr Q 0].toArray,.func (.func 158) #[] [ptr O 0,ptr Q 0].toArray] I Y (fun e _ H'=>e= .returned (.tuple #[])∧YD G vb wb kb L t vs (i+1) H'):=by
 have Z:=a5e a0;have a8:=hv.2 v (CJ a0);have a9:=b4K hv i;have a3:=b4s hv i;refine b7O v wv _ _ [ptr O 0,ptr Q 0] (fun k=>YS G vb wb kb (aJ (aK aG L) t fun p=>((v.ws.drop k).map (fun w=>(v.name,w))++aG (vs.drop (i+1))).count p) (aJ (aK aH L) t fun p=>(aH (vs.drop i)).count p)) (YD G vb wb kb L t vs (i+1)) oM I a6 Y ?_ ?_ ?_ ?_
 ·unfold YD at hY;rw[Z,b4r]at hY;rw[Z];exact hY
 ·intro k w H J hk M A;refine A.word fun l c N hN=>?_;have a4:(v.ws.drop k).map (fun w=>(v.name,w))++aG (vs.drop (i+1))=(v.name,w)::((v.ws.drop (k+1)).map (fun w=>(v.name,w))++aG (vs.drop (i+1))):=by rw[a5e hk];rfl
  rw[a4]at hN;have hb:=b3H (aK aG L) t ((v.ws.drop (k+1)).map (fun w=>(v.name,w))++aG (vs.drop (i+1))) (v.name,w);rw[←hb];refine c4M O Q G vb wb kb l c N _ (v.name,w) t hN ?_ ?_ J (M _ _ a1) (M _ _ a2)
  ·rw[a3a];exact vF.2 (.head _)
  rw[a3a];refine FD xZ ?_;have h9:((v.name,w)::((v.ws.drop (k+1)).map (fun w=>(v.name,w))++aG (vs.drop (i+1)))).length≤(aG (vs.drop i)).length:=by
   rw[Z,b4r,←a4,wV,wV,wO,wO,wS];omega
  omega
 ·intro H J a5 M A;have a7:YS G vb wb kb (aJ (aK aG L) t fun p=>(aG (vs.drop (i+1))).count p) (aJ (aK aH L) t fun p=>((v.name,v.key)::aH (vs.drop (i+1))).count p) H:=by
   rw[bZ,wC,vM,Z,a7W,zD a5]at A;exact A
  unfold YD;refine a7.key fun l c N hN=>?_;rw[←b3H (aK aH L) t (aH (vs.drop (i+1))) (v.name,v.key)];refine c5k O Q G vb wb kb l c N _ (v.name,v.key) t hN ?_ ?_ J (M _ _ a1) (M _ _ a2)
  ·rw[a3a];exact vF.2 (.head _)
  rw[a3a];refine FD xZ ?_;rw[Z,a7W,zD a5]at a3;have:((v.name,v.key)::aH (vs.drop (i+1))).length≤10000000:=a3;omega
 intro he H A;rw[bZ,wC,vM,Z,a7W,zF he,vM]at A;exact A
def YP (ib vb wb kb:Nat) (L:bW) (t:aI) (vs:List dX) (i:Nat):HL→Prop:=YS ib vb wb kb (aJ (aK aG L) t fun p=>(aG (vs.take i)).count p) (aJ (aK aH L) t fun p=>(aH (vs.take i)).count p)
theorem take_one{α:Type}{l:List α}{k x}(h:l[k]?=some x):l.take (k+1)=l.take k++[x]:=by
 obtain⟨A,G⟩:=xC.1 h;rw[tN A,G]
theorem b5i O Q G vb wb kb ek el ev L t vs (hv:LD vs) i v wv (Z:vs[i]?=some v) I (a2:IV 9 I v.ws wv)(a0:I O=some (yV 82 [ptr G 0]))(a1:I Q=some (yV 47 [i64 t.1,i64 t.2,u8 ek,u8 el,ev])) Y (hY:YP G vb wb kb L t vs i Y):
 yY aF 96 [.agg (vwC (v,wv)).toArray,.func (.func 97) #[] [ptr O 0,ptr Q 0].toArray,.func (.func 99) #[] [ptr O 0,ptr Q 0].toArray] I Y (fun e _ H'=>e= .returned (.tuple #[])∧YP G vb wb kb L t vs (i+1) H'):=by
 have hd:=take_one Z;have a7:=hv.2 v (CJ Z);have a8:=b4i hv (i+1);have a3:=b5s hv (i+1);refine b7O v wv _ _ [ptr O 0,ptr Q 0] (fun k=>YS G vb wb kb (aJ (aK aG L) t fun p=>(aG (vs.take i)++(v.ws.take k).map (fun w=>(v.name,w))).count p) (aJ (aK aH L) t fun p=>(aH (vs.take i)).count p)) (YP G vb wb kb L t vs (i+1)) oM I a2 Y ?_ ?_ ?_ ?_
 ·unfold YP at hY;rw[bU,wC,yD];exact hY
 ·intro k w H J hk M A;refine A.word fun l c N hN=>?_;have a4:aG (vs.take i)++(v.ws.take (k+1)).map (fun w=>(v.name,w))=(aG (vs.take i)++(v.ws.take k).map (fun w=>(v.name,w)))++[(v.name,w)]:=by rw[take_one hk,wG,yE];rfl
  rw[a4,←b5W (aK aG L) t (aG (vs.take i)++(v.ws.take k).map (fun w=>(v.name,w))) (v.name,w)];refine c8D O Q G vb wb kb ek el ev l c N _ (v.name,w) t hN ?_ J (M _ _ a0) (M _ _ a1);rw[a3a];refine FD xZ ?_;have h9:(aG (vs.take i)++(v.ws.take k).map (fun w=>(v.name,w))).length≤(aG (vs.take (i+1))).length:=by
   rw[hd,a9U,wV,wV,wO,wO,wI];omega
  omega
 ·intro H J a5 M A;have a6:YS G vb wb kb (aJ (aK aG L) t fun p=>(aG (vs.take (i+1))).count p) (aJ (aK aH L) t fun p=>(aH (vs.take i)).count p) H:=by
   rw[tY,←a9U,←hd]at A;exact A
  unfold YP;refine a6.key fun l c N hN=>?_;have e1:aH (vs.take (i+1))=aH (vs.take i)++[(v.name,v.key)]:=by rw[hd,b7L,zD a5]
  rw[e1,←b5W (aK aH L) t (aH (vs.take i)) (v.name,v.key)];refine c8j O Q G vb wb kb ek el ev l c N _ (v.name,v.key) t hN ?_ J (M _ _ a0) (M _ _ a1);rw[a3a];refine FD xZ ?_;rw[e1,wV]at a3;omega
 intro he H A;unfold YP;rw[tY,←a9U,←hd]at A;have e1:aH (vs.take (i+1))=aH (vs.take i):=by rw[hd,b7L,zF he,yD]
 rw[e1];exact A
structure DA where
  i:Nat
  J:Heap
  Y:HL
theorem a3Z t v:∀L:bW,(bV t v L).length≤L.length+1
 |[]=>by simp[bV]
 |(u,x)::r=>by
  unfold bV
  split
  ·have:=a3Z t v r;rw[wU,wU];omega
  split
  ·simp
  simp
theorem IY.drop{I I' vb wb kb lv cv lw cw Nw lk ck Nk L}(h:IY I ⟨vb,wb,kb,lv,cv,lw,cw,Nw,lk,ck,Nk⟩ L)(a1:Le I I') t {M N O Q Z a0}
 (hw:CS M N O (aJ (aK aG L) t fun p=>(aG []).count p))(hk:CS Q Z a0 (aJ (aK aH L) t fun p=>(aH []).count p)):IY I' ⟨vb,wb,kb,IW lv t,cv,M,N,O,Q,Z,a0⟩ (dG t L):=by
 refine⟨Ix.a2h t h.JC,FD (wP _ _) h.big,fun e he=>h.vok e ((Ix.a0k t L e).1 he).1,h.vms.del t,fun u=>⟨fun A=>?_,fun vs A=>?_⟩,?_,?_⟩
 ·show AQ (IW lv t) u=none;rw[a4U h.vms.1]
  split
  ·rfl
  rename_i G
  rw[Ix.a3t h.JC,zD (by simpa using G)]at A;exact(h.vals u).1 A
 ·rw[Ix.a3t h.JC]at A
  split at A
  ·cases A
  rename_i G
  obtain⟨w,h1,h2⟩:=(h.vals u).2 vs A;refine⟨w,?_,h2.mono a1⟩;show AQ (IW lv t) u=some w;rw[a4U h.vms.1,zD (by simpa using G)];exact h1
 ·rw[bT h.JC];exact hw
 rw[bT h.JC];exact hk
theorem IY.put{I vb wb kb lv cv lw cw Nw lk ck Nk L}(h:IY I ⟨vb,wb,kb,lv,cv,lw,cw,Nw,lk,ck,Nk⟩ L){t}(hL:L.length<100000){vs}(hv:LD vs){w}(a1:VN I vs w){M N O Q Z a0}
 (hw:CS M N O (aJ (aK aG L) t fun p=>(aG vs).count p))(hk:CS Q Z a0 (aJ (aK aH L) t fun p=>(aH vs).count p)):IY I ⟨vb,wb,kb,BF lv t w cv,EJ lv t cv,M,N,O,Q,Z,a0⟩ (bV t vs L):=by
 refine⟨Ix.WG t vs h.JC,?_,fun e he=>?_,h.vms.set t w,fun u=>⟨fun A=>?_,fun us A=>?_⟩,?_,?_⟩
 ·have:=a3Z t vs L;omega
 ·rcases(Ix.TQ t vs h.JC e).1 he with g|g
  ·rw[g];exact hv
  exact h.vok e g.1
 ·show AQ (BF lv t w cv) u=none;rw[Ix.a6a h.JC]at A;rw[MI]
  split at A
  ·cases A
  rename_i G
  rw[zD (by simpa using G)];exact(h.vals u).1 A
 ·show ∃w',AQ (BF lv t w cv) u=some w'∧_;rw[Ix.a6a h.JC]at A;rw[MI]
  split at A
  ·rename_i he
   cases A;exact⟨w,by rw[zF (by simpa using he)],a1⟩
  rename_i G
  rw[zD (by simpa using G)];exact(h.vals u).2 us A
 ·rw[Ix.b4q h.JC];exact hw
 rw[Ix.b4q h.JC];exact hk
theorem c7P I vb wb kb:IY I ⟨vb,wb,kb,[],0,[],0,[],[],0,[]⟩ []:=
 ⟨List.Pairwise.nil,sQ _,fun _ h=>(by cases h),MS.nil,fun _=>⟨fun _=>rfl,fun _ h=>by cases h⟩,CS.nil,CS.nil⟩
end Go.Proofs.YtalapkjmkjmpjaaGreatDoor
section
namespace Go.Proofs.YtalapkjmkjmpjaaGreatDoor
open _root_.Go.Proofs.Tryz
open Go Go.Sx
theorem c1e Z s0 L t I (a9:IY I s0 L):yY aF 94 [ptr Z 0,AB t] I (a5n Z s0)
 (fun e I' H'=>∃s',e= .returned (.tuple #[])∧IY I' s' (dG t L)∧H'=a5n Z s'):=by
 obtain⟨vb,wb,kb,lv,cv,lw,cw,Nw,lk,ck,Nk⟩:=s0;unfold a5n;dsimp only;have A:=a9;refine zN func94 fun w0 _=>?_;refine yU 3 ?_;intro b1 ad;refine yU 1 ?_;intro b2 ae;refine yU 4 ?_;refine dY (aA aC) ?_;refine bC ad (fun _ aa G=>?_);have A:=A.mono aa;refine bC ae (fun I6 a1 O=>?_);have A:=A.mono a1;have G:=a1 _ _ G;refine yU 10 ?_;have af:=A.vals;obtain⟨_,ag,ah⟩:=af.at t;obtain⟨xs,Q,hX⟩:=ah;obtain⟨vp,vc,rfl,_,-⟩:=id Q;have a2:=b5J A.JC A.vok t;have ay:=hX.len;have az:=a2.1;have ai:YD Z vb wb kb L t ((aQ L t).getD []) 0 ((Z,yV 142 (TU vb wb kb))::(setH wb lw cw Nw++setH kb lk ck Nk)):=⟨lw,cw,Nw,lk,ck,Nk,(by have h:=A.nw;rw[b7l aG rfl L t]at h;exact h),(by have h:=A.nk;rw[b7l aH rfl L t]at h;exact h),rfl⟩;refine aP [0,1] [] 8 kR ?_;refine yU 5 ?_;refine dH 5 rfl (BJ (kv:=AB) (l:=lv) (a:=t) rfl rfl rfl rfl UE FQ a0R (bP 0 rfl)) ?_;refine JA.ez 13 (.slice vp xs.length vc) rfl ag ?_;refine yU 5 ?_;refine bQ (ι:=DA) (fun y=>y.i≤xs.length∧Le I6 y.J∧YD Z vb wb kb L t ((aQ L t).getD []) y.i y.Y) (fun y=>xs.length-y.i) (fun y=>[(2,ptr b1 0),(3,ptr b2 0),(13,.slice vp xs.length vc),(14,i64 (xs.length:Int)),(15,i64 (y.i:Int))]) (fun y=>y.J) (fun y=>(vb,zZ AB lv cv)::y.Y) ⟨0,_,(Z,yV 142 (TU vb wb kb))::(setH _ _ _ _++setH _ _ _ _)⟩ ⟨sQ _,dF _,ai⟩ rT rfl rfl ?_;rintro⟨i,_,_⟩ ⟨hi,M,hY⟩;dsimp only at hi M hY ⊢;have Q:=Q.mono M;have hX:=hX.mono M;have G:=M _ _ G;have O:=M _ _ O;refine yZ ?_ ?_<;>intro aj ab
 ·have a4:i<xs.length:=oM;obtain⟨x,a0⟩:∃x,xs[i]?=some x:=⟨_,AA a4⟩;obtain⟨_,_,al,-,am⟩:=id Q;cases al;obtain⟨_,_,rfl,a3⟩:=am (zK a4);have a5:=hX.2 x (CJ a0);have a6:=(zC (fun l=>l[i]?) hX.1).symm.trans ((xB).trans (zC (dR (·.1)) a0));dsimp only[Option.map_some]at a6;refine zW (0+i*3) ?_;refine J.z (CX isAgg192 XW (bJ a3) (AY a1c (o:=0) rfl a0)) ?_;refine yU 1 ?_;intro _ _;refine dD rfl (DV 0 rfl rfl rfl rfl rfl (a5a a5 rfl rfl) XW rfl rfl (aS (aS (aS aV))) bD ?_);refine RS [_,_] (c4c b1 b2 Z vb wb kb L t ((aQ L t).getD []) a2 i x.1 x.2 a6 _ a5 G O _ hY) ?_;intro _ _ an N ac;have G:=N _ _ G;have O:=N _ _ O;have M:=M.mono N;have a3:=N _ _ a3;obtain⟨h,ao⟩:=ac;cases h;refine yU 7 ?_;refine aN (bK (Keeps.k dZ)) ?_;refine bG ⟨i+1,_,an⟩ ⟨dO,M,ao⟩ dO rT rfl rfl
 have ap:i=((aQ L t).getD []).length:=oM;obtain⟨aq,ar,au,av,aw,ax,a7,a8,rfl⟩:=hY;rw[ap,bZ]at a7 a8;refine yU 5 ?_;refine aP [1] [] 6 kR ?_;refine yU 5 ?_;refine qq2 5 rfl (XY (kv:=AB) (a:=t) 0 rfl rfl rfl rfl rfl UE FQ rfl bD ?_);refine yU 2 ?_;refine eF rfl rfl ?_;exact⟨⟨vb,wb,kb,IW lv t,cv,aq,ar,au,av,aw,ax⟩,rfl,A.drop M t a7 a8,rfl⟩
theorem c1w N t I:yY aF 94 [ptr N 0,AB t] I [(N,yV 142 [.map none,.map none,.map none])]
 (fun e _ H'=>e= .returned (.tuple #[])∧H'=[(N,yV 142 [.map none,.map none,.map none])]):=by
 refine zN func94 fun w0 _=>?_;refine yU 3 ?_;intro _ _;refine yU 1 ?_;intro _ _;refine yU 14 ?_;refine aP [0,1,2] [] 8 kR ?_;refine dK CP (fun A=>?_);refine bF 0 rfl A (BX isAgg82 (bP 1 rfl)) ?_;refine bF 1 rfl A ET ?_;refine bF 2 rfl A (zY (off':=0) underlying142 a2c) ?_;refine bF 3 rfl A (BX isAgg138 (bP 2 rfl)) ?_;refine bF 4 rfl A (DX FY BM (bP 0 rfl)) ?_;refine bF 5 rfl A (LM (kv:=AB) (a:=t) rfl rfl rfl rfl UE FQ a0R) ?_;refine yU 5 ?_;refine eP 1 ?_;refine Rj.succ ?_;refine yU 6 ?_;refine Cj.cond rfl ?_ ?_<;>intro M
 ·have O:=DK M;exact absurd (DK M) dE
 have O:=DN M;refine Cj.exit (Ej.a1b (Ej.a1b (Ej.YW (Ej.seq ?_))));refine aP [0,1,2] [] 6 kR ?_;refine dK CP (fun G=>?_);refine bF 0 rfl G (BX isAgg82 (bP 1 rfl)) ?_;refine bF 1 rfl G ET ?_;refine bF 2 rfl G (zY (off':=0) underlying142 a2c) ?_;refine bF 3 rfl G (BX isAgg138 (bP 2 rfl)) ?_;refine bF 4 rfl G (DX FY BM (bP 0 rfl)) ?_;refine qq2 5 rfl (b4t (kv:=AB) (a:=t) rfl rfl rfl rfl rfl UE FQ ?_);refine yU 2 ?_;refine aN (bK (bK (Keeps.k aT))) ?_;refine eF rfl rfl ?_;exact rT
theorem b4b{I Z vb wb kb lv cv lw cw Nw lk ck Nk L t}(h:IY I ⟨vb,wb,kb,lv,cv,lw,cw,Nw,lk,ck,Nk⟩ (dG t L))(hs:bH L)(hL:L.length<100000){vs}(hv:LD vs){w}(a0:VN Z vs w)(a1:Le I Z){A G M N O Q}
 (hw:CS A G M (aJ (aK aG L) t fun p=>(aG vs).count p))(hk:CS N O Q (aJ (aK aH L) t fun p=>(aH vs).count p)):IY Z ⟨vb,wb,kb,BF lv t w cv,EJ lv t cv,A,G,M,N,O,Q⟩ (bV t vs L):=by
 have hb:(dG t L).length<100000:=Nat.lt_of_le_of_lt (wP _ _) hL;have a2:∀(pl:List dX→List dN),(aJ (aK pl L) t fun p=>(pl vs).count p)=aJ (aK pl (dG t L)) t fun p=>(pl vs).count p:=fun pl=>by
  rw[bT hs]
  funext p u
  unfold aJ
  split<;>rfl
 rw[a2]at hw hk;have h2:=(h.mono a1).put hb hv a0 hw hk;rw[Ix.c0h hs]at h2;exact h2
theorem c5l ib s0 L A I (M:IY I s0 L)(ag:L.length<100000)(aa:RI A.fs)(O:KC I A.fs A.v):yY aF 60 [ptr ib 0,.agg (JG A).toArray] I (a5n ib s0)
 (fun e I' H'=>∃s',e= .returned (.tuple #[])∧IY I' s' (bV A.t (aZ A.fs) L)∧H'=a5n ib s'):=by
 have a3:=M.JC;obtain⟨_,_,_,-,-⟩:=id O.1;refine zN func60 fun w0 _=>?_;refine yU 3 ?_;intro b1 am;refine yU 1 ?_;intro b2 an;refine yU 4 ?_;refine dY (aA aC) ?_;refine bC am (fun _ a7 G=>?_);have M:=M.mono a7;have O:=O.mono a7;refine bC an (fun _ a4 N=>?_);have M:=M.mono a4;have O:=O.mono a4;have G:=a4 _ _ G;refine RS [] (c1e ib s0 L A.t _ M) ?_;intro _ _ _ Z ah;have M:=M.mono Z;have O:=O.mono Z;have G:=Z _ _ G;have N:=Z _ _ N;obtain⟨s1,h,M,rfl⟩:=ah;cases h;obtain⟨vb,wb,kb,lv,cv,lw,cw,Nw,lk,ck,Nk⟩:=s1;unfold a5n;dsimp only;refine yU 16 ?_;refine aP [1] [] 10 kR ?_;have ao:=G;have ap:=N;refine zX (a7c A.fs A.v A.k A.l aa _ O) ?_;intro _ aq _ a2 ai;have G:=a2 _ _ G;have N:=a2 _ _ N;have M:=M.mono a2;obtain⟨_,h,ar,rfl⟩:=ai;cases h;obtain⟨xs,a1,hX⟩:=ar;obtain⟨vp,vc,rfl,_,-⟩:=id a1;have a5:=c2Y aa;have b6:=hX.len;have b7:=a5.1;refine yU 1 ?_;refine qq2 9 rfl (EY (kv:=AB) (a:=A.t) 0 (.inr rfl) rfl rfl rfl rfl rfl UE FQ rfl bD ?_);refine yU 4 ?_;have au:YP ib vb wb kb L A.t (aZ A.fs) 0 ((ib,yV 142 (TU vb wb kb))::(setH wb lw cw Nw++setH kb lk ck Nk)):=⟨lw,cw,Nw,lk,ck,Nk,(by have h:=M.nw;rw[bT a3]at h;exact h),(by have h:=M.nk;rw[bT a3]at h;exact h),rfl⟩;refine aP [0,1] [] 9 kR ?_;refine yU 6 ?_;refine dH 6 rfl (BJ (kv:=AB) (l:=(BF lv A.t (.slice vp xs.length vc) cv)) (a:=A.t) rfl rfl rfl rfl UE FQ a0R (bP 0 rfl)) ?_;refine JA.ez 44 (.slice vp xs.length vc) rfl SE ?_;refine yU 5 ?_;refine bQ (ι:=DA) (fun y=>y.i≤xs.length∧Le aq y.J∧YP ib vb wb kb L A.t (aZ A.fs) y.i y.Y) (fun y=>xs.length-y.i) (fun y=>[(2,ptr b1 0),(3,ptr b2 0),(44,.slice vp xs.length vc),(45,i64 (xs.length:Int)),(46,i64 (y.i:Int))]) (fun y=>y.J) (fun y=>(vb,zZ AB (BF lv A.t (.slice vp xs.length vc) cv) (EJ lv A.t cv))::y.Y) ⟨0,_,(ib,yV 142 (TU vb wb kb))::(setH _ _ _ _++setH _ _ _ _)⟩ ⟨sQ _,dF _,au⟩ rT rfl rfl ?_;rintro⟨i,_,_⟩ ⟨hi,Q,hY⟩;dsimp only at hi Q hY ⊢;have a1:=a1.mono Q;have hX:=hX.mono Q;have G:=Q _ _ G;have N:=Q _ _ N;refine yZ ?_ ?_<;>intro aj a9
 ·have ab:i<xs.length:=oM;obtain⟨x,a6⟩:∃x,xs[i]?=some x:=⟨_,AA ab⟩;obtain⟨_,_,av,-,aw⟩:=id a1;cases av;obtain⟨_,_,rfl,a8⟩:=aw (zK ab);have ac:=hX.2 x (CJ a6);have ad:=(zC (fun l=>l[i]?) hX.1).symm.trans ((xB).trans (zC (dR (·.1)) a6));dsimp only[Option.map_some]at ad;refine zW (0+i*3) ?_;refine J.z (CX isAgg192 XW (bJ a8) (AY a1c (o:=0) rfl a6)) ?_;refine yU 1 ?_;intro _ _;refine dD rfl (DV 0 rfl rfl rfl rfl rfl (a5a ac rfl rfl) XW rfl rfl (aS (aS (aS aV))) bD ?_);refine RS [_,_] (b5i b1 b2 ib vb wb kb A.k A.l A.v L A.t (aZ A.fs) a5 i x.1 x.2 ad _ ac G N _ hY) ?_;intro _ _ ax a0 al;have G:=a0 _ _ G;have N:=a0 _ _ N;have Q:=Q.mono a0;have a8:=a0 _ _ a8;obtain⟨h,ay⟩:=al;cases h;refine yU 7 ?_;refine aN (bK (Keeps.k dZ)) ?_;refine bG ⟨i+1,_,ax⟩ ⟨dO,Q,ay⟩ dO rT rfl rfl
 have az:i=(aZ A.fs).length:=oM;obtain⟨b0,cw2,Nw2,b3,b4,b5,ae,af,rfl⟩:=hY;rw[az,tY]at ae af;refine yU 4 ?_;refine eF rfl rfl ?_;exact⟨⟨vb,wb,kb,(BF lv A.t (.slice vp xs.length vc) cv),(EJ lv A.t cv),b0,cw2,Nw2,b3,b4,b5⟩,rfl,b4b M a3 ag a5 ⟨xs,a1,hX⟩ Q ae af,rfl⟩
theorem c5q ib M I (ae:RI M.fs)(Q:KC I M.fs M.v):yY aF 60 [ptr ib 0,.agg (JG M).toArray] I [(ib,yV 142 [.map none,.map none,.map none])]
 (fun e I' H'=>∃s',e= .returned (.tuple #[])∧IY I' s' (bV M.t (aZ M.fs) [])∧H'=a5n ib s'):=by
 obtain⟨_,_,_,-,-⟩:=id Q.1;refine zN func60 fun w0 _=>?_;refine yU 3 ?_;intro b1 av;refine yU 1 ?_;intro b2 aw;refine yU 4 ?_;refine dY (aA aC) ?_;refine bC av (fun _ ao N=>?_);have Q:=Q.mono ao;refine bC aw (fun _ a8 O=>?_);have Q:=Q.mono a8;have N:=a8 _ _ N;refine yU 13 ?_;refine J.pull aC ?_;refine zX (c1w ib M.t _) ?_;intro _ I9 _ a3 ap;have Q:=Q.mono a3;have N:=a3 _ _ N;have O:=a3 _ _ O;obtain⟨h,rfl⟩:=ap;cases h;refine yU 2 ?_;refine Cj.join (ι:=Nat×Nat×Nat) (fun y=>True) (fun y=>[(2,ptr b1 0),(3,ptr b2 0)]) (fun y=>I9) (fun y=>(y.1,zZ AB [] 0)::(ib,yV 142 (TU y.1 y.2.1 y.2.2))::(setH y.2.1 [] 0 []++setH y.2.2 [] 0 [])) ?_ (fun G=>?_)
 ·rintro⟨vb,wb,kb⟩ -;dsimp only;refine yU 1 ?_;refine aP [1] [] 10 kR ?_;have ax:=N;have ay:=O;refine zX (a7c M.fs M.v M.k M.l ae _ Q) ?_;intro _ az _ a6 aq;have N:=a6 _ _ N;have O:=a6 _ _ O;obtain⟨_,h,b0,rfl⟩:=aq;cases h;obtain⟨xs,a2,hX⟩:=b0;obtain⟨vp,vc,rfl,_,-⟩:=id a2;have a4:=c2Y ae;have bx:=hX.len;have bz:=a4.1;refine yU 1 ?_;refine qq2 9 rfl (EY (kv:=AB) (a:=M.t) 0 (.inr rfl) rfl rfl rfl rfl rfl UE FQ rfl bD ?_);refine yU 4 ?_;have hY0:YP ib vb wb kb [] M.t (aZ M.fs) 0 ((ib,yV 142 (TU vb wb kb))::(setH wb [] 0 []++setH kb [] 0 [])):=⟨[],0,[],[],0,[],(by rw[bU];have h:=(CS.nil:CS ([]:ML dN) 0 ([]:SL dN aI) (fun _ _=>0));exact(show(aJ (aK aG []) M.t fun p=>(aG []).count p)=(fun _ _=>0) by funext p u;unfold aJ;split<;>rfl)▸h),(by rw[bU];have h:=(CS.nil:CS ([]:ML dN) 0 ([]:SL dN aI) (fun _ _=>0));exact(show(aJ (aK aH []) M.t fun p=>(aH []).count p)=(fun _ _=>0) by funext p u;unfold aJ;split<;>rfl)▸h),rfl⟩;refine aP [0,1] [] 9 kR ?_;refine yU 6 ?_;refine dH 6 rfl (BJ (kv:=AB) (l:=(BF ([]:ML aI) M.t (.slice vp xs.length vc) 0)) (a:=M.t) rfl rfl rfl rfl UE FQ a0R (bP 0 rfl)) ?_;refine JA.ez 44 (.slice vp xs.length vc) rfl SE ?_;refine yU 5 ?_;refine bQ (ι:=DA) (fun y=>y.i≤xs.length∧Le az y.J∧YP ib vb wb kb [] M.t (aZ M.fs) y.i y.Y) (fun y=>xs.length-y.i) (fun y=>[(2,ptr b1 0),(3,ptr b2 0),(44,.slice vp xs.length vc),(45,i64 (xs.length:Int)),(46,i64 (y.i:Int))]) (fun y=>y.J) (fun y=>(vb,zZ AB (BF ([]:ML aI) M.t (.slice vp xs.length vc) 0) (EJ ([]:ML aI) M.t 0))::y.Y) ⟨0,_,(ib,yV 142 (TU vb wb kb))::(setH _ _ _ _++setH _ _ _ _)⟩ ⟨sQ _,dF _,hY0⟩ rT rfl rfl ?_;rintro⟨i,_,_⟩ ⟨A,Z,hY⟩;dsimp only at A Z hY ⊢;have a2:=a2.mono Z;have hX:=hX.mono Z;have N:=Z _ _ N;have O:=Z _ _ O;refine yZ ?_ ?_<;>intro ar ad
  ·have af:i<xs.length:=oM;obtain⟨x,a5⟩:∃x,xs[i]?=some x:=⟨_,AA af⟩;obtain⟨_,_,hve,-,b3⟩:=id a2;cases hve;obtain⟨_,_,rfl,a9⟩:=b3 (zK af);have ag:=hX.2 x (CJ a5);have ah:=(zC (fun l=>l[i]?) hX.1).symm.trans ((xB).trans (zC (dR (·.1)) a5));dsimp only[Option.map_some]at ah;refine zW (0+i*3) ?_;refine J.z (CX isAgg192 XW (bJ a9) (AY a1c (o:=0) rfl a5)) ?_;refine yU 1 ?_;intro _ _;refine dD rfl (DV 0 rfl rfl rfl rfl rfl (a5a ag rfl rfl) XW rfl rfl (aS (aS (aS aV))) bD ?_);refine RS [_,_] (b5i b1 b2 ib vb wb kb M.k M.l M.v [] M.t (aZ M.fs) a4 i x.1 x.2 ah _ ag N O _ hY) ?_;intro _ _ b4 a1 au;have N:=a1 _ _ N;have O:=a1 _ _ O;have Z:=Z.mono a1;have a9:=a1 _ _ a9;obtain⟨h,b5⟩:=au;cases h;refine yU 7 ?_;refine aN (bK (Keeps.k dZ)) ?_;refine bG ⟨i+1,_,b4⟩ ⟨dO,Z,b5⟩ dO rT rfl rfl
  have b6:i=(aZ M.fs).length:=oM;obtain⟨b7,b8,b9,ba,bb,bc,ai,aj,rfl⟩:=hY;rw[b6,tY]at ai aj;refine yU 4 ?_;refine eF rfl rfl ?_;exact⟨⟨vb,wb,kb,(BF ([]:ML aI) M.t (.slice vp xs.length vc) 0),(EJ ([]:ML aI) M.t 0),b7,b8,b9,ba,bb,bc⟩,rfl,b4b (L:=[]) (c7P _ vb wb kb) List.Pairwise.nil dE a4 ⟨xs,a2,hX⟩ Z ai aj,rfl⟩
 refine yU 10 ?_;refine aP [] [] 15 kR ?_;refine yU 3 ?_;refine bI [3,4,5] kR sI ?_;intro i A;simp only[vX,vG,or_false]at A;rcases A with rfl|rfl|rfl
 ·refine⟨_,rfl,rfl,?_⟩;refine BG rfl rfl rfl ?_;intro a0 _;refine yU 3 ?_;refine bI [4,5,8] kR sI ?_;intro i A;simp only[vX,vG,or_false]at A;rcases A with rfl|rfl|rfl
  ·refine⟨_,rfl,rfl,?_⟩;refine BG rfl rfl rfl ?_;intro aa _;refine yU 1 ?_;refine bI [5,8] kR sI ?_;intro i A;simp only[vX,vG,or_false]at A;rcases A with rfl|rfl
   ·refine⟨_,rfl,rfl,?_⟩;refine BG rfl rfl rfl ?_;intro bd _;refine yU 12 ?_;refine aN (Keeps.k (Keeps.k (Keeps.k (Keeps.k aT)))) ?_;refine aB aC ?_;refine aB (aA aC) ?_;refine aB (aA (aA (aA aC))) ?_;refine aB (aA (aA (aA aC))) ?_;exact G (a0,aa,bd) _ _ _ trivial rT rfl rfl
   refine⟨_,rfl,rfl,?_⟩;refine CG 2 a2c (aS aV) (aY (aY bD)) ?_;refine yU 3 ?_;refine bI [5,11] kR sI ?_;intro i A;simp only[vX,vG,or_false]at A;rcases A with rfl|rfl
   ·refine⟨_,rfl,rfl,?_⟩;refine BG rfl rfl rfl ?_;intro be _;refine yU 8 ?_;refine aN (Keeps.k (Keeps.k (Keeps.k (Keeps.k aT)))) ?_;refine aB aC ?_;refine aB (aA aC) ?_;refine aB (aA (aA (aA aC))) ?_;refine aB (aA (aA (aA aC))) ?_;exact G (a0,aa,be) _ _ _ trivial rT rfl rfl
   refine⟨_,rfl,rfl,?_⟩;refine CG 2 sizeOf140 (dL (aS aV)) (aY (aY bD)) ?_;refine yU 1 ?_;refine qq2 5 rfl (BG rfl rfl rfl ?_);intro bf _;refine yU 6 ?_;refine aN (Keeps.k (Keeps.k (Keeps.k (Keeps.k aT)))) ?_;refine aB aC ?_;refine aB (aA aC) ?_;refine aB (aA (aA (aA aC))) ?_;refine aB (aA (aA (aA aC))) ?_;exact G (a0,aa,bf) _ _ _ trivial rT rfl rfl
  ·refine⟨_,rfl,rfl,?_⟩;refine BG rfl rfl rfl ?_;intro al _;refine yU 1 ?_;refine bI [4,8] kR sI ?_;intro i A;simp only[vX,vG,or_false]at A;rcases A with rfl|rfl
   ·refine⟨_,rfl,rfl,?_⟩;refine BG rfl rfl rfl ?_;intro bg _;refine yU 12 ?_;refine aN (Keeps.k (Keeps.k (Keeps.k (Keeps.k aT)))) ?_;refine aB (aA aC) ?_;refine aB (aA aC) ?_;refine aB (aA (aA (aA aC))) ?_;refine aB (aA (aA (aA aC))) ?_;exact G (a0,bg,al) _ _ _ trivial rT rfl rfl
   refine⟨_,rfl,rfl,?_⟩;refine CG 2 a2c (aS aV) (aY (aY bD)) ?_;refine yU 1 ?_;refine qq2 4 rfl (BG rfl rfl rfl ?_);intro bh _;refine yU 10 ?_;refine aN (Keeps.k (Keeps.k (Keeps.k (Keeps.k aT)))) ?_;refine aB (aA aC) ?_;refine aB (aA aC) ?_;refine aB (aA (aA (aA aC))) ?_;refine aB (aA (aA (aA aC))) ?_;exact G (a0,bh,al) _ _ _ trivial rT rfl rfl
  refine⟨_,rfl,rfl,?_⟩;refine CG 1 a2c (aS aV) (aY bD) ?_;refine yU 1 ?_;refine bI [4,5] kR sI ?_;intro i A;simp only[vX,vG,or_false]at A;rcases A with rfl|rfl
  ·refine⟨_,rfl,rfl,?_⟩;refine BG rfl rfl rfl ?_;intro am _;refine yU 3 ?_;refine bI [5,11] kR sI ?_;intro i A;simp only[vX,vG,or_false]at A;rcases A with rfl|rfl
   ·refine⟨_,rfl,rfl,?_⟩;refine BG rfl rfl rfl ?_;intro bi _;refine yU 8 ?_;refine aN (Keeps.k (Keeps.k (Keeps.k (Keeps.k aT)))) ?_;refine aB aC ?_;refine aB (aA aC) ?_;refine aB (aA (aA (aA aC))) ?_;refine aB (aA (aA (aA aC))) ?_;exact G (a0,am,bi) _ _ _ trivial rT rfl rfl
   refine⟨_,rfl,rfl,?_⟩;refine CG 2 sizeOf140 (dL (aS aV)) (aY (aY bD)) ?_;refine yU 1 ?_;refine qq2 5 rfl (BG rfl rfl rfl ?_);intro bj _;refine yU 6 ?_;refine aN (Keeps.k (Keeps.k (Keeps.k (Keeps.k aT)))) ?_;refine aB aC ?_;refine aB (aA aC) ?_;refine aB (aA (aA (aA aC))) ?_;refine aB (aA (aA (aA aC))) ?_;exact G (a0,am,bj) _ _ _ trivial rT rfl rfl
  refine⟨_,rfl,rfl,?_⟩;refine BG rfl rfl rfl ?_;intro bl _;refine yU 1 ?_;refine qq2 4 rfl (BG rfl rfl rfl ?_);intro bm _;refine yU 10 ?_;refine aN (Keeps.k (Keeps.k (Keeps.k (Keeps.k aT)))) ?_;refine aB (aA aC) ?_;refine aB (aA aC) ?_;refine aB (aA (aA (aA aC))) ?_;refine aB (aA (aA (aA aC))) ?_;exact G (a0,bm,bl) _ _ _ trivial rT rfl rfl
 ·refine⟨_,rfl,rfl,?_⟩;refine BG rfl rfl rfl ?_;intro a7 _;refine yU 1 ?_;refine bI [3,5] kR sI ?_;intro i A;simp only[vX,vG,or_false]at A;rcases A with rfl|rfl
  ·refine⟨_,rfl,rfl,?_⟩;refine BG rfl rfl rfl ?_;intro ab _;refine yU 3 ?_;refine bI [5,8] kR sI ?_;intro i A;simp only[vX,vG,or_false]at A;rcases A with rfl|rfl
   ·refine⟨_,rfl,rfl,?_⟩;refine BG rfl rfl rfl ?_;intro bn _;refine yU 12 ?_;refine aN (Keeps.k (Keeps.k (Keeps.k (Keeps.k aT)))) ?_;refine aB aC ?_;refine aB (aA (aA aC)) ?_;refine aB (aA (aA (aA aC))) ?_;refine aB (aA (aA (aA aC))) ?_;exact G (ab,a7,bn) _ _ _ trivial rT rfl rfl
   refine⟨_,rfl,rfl,?_⟩;refine CG 2 a2c (aS aV) (aY (aY bD)) ?_;refine yU 3 ?_;refine bI [5,11] kR sI ?_;intro i A;simp only[vX,vG,or_false]at A;rcases A with rfl|rfl
   ·refine⟨_,rfl,rfl,?_⟩;refine BG rfl rfl rfl ?_;intro bo _;refine yU 8 ?_;refine aN (Keeps.k (Keeps.k (Keeps.k (Keeps.k aT)))) ?_;refine aB aC ?_;refine aB (aA (aA aC)) ?_;refine aB (aA (aA (aA aC))) ?_;refine aB (aA (aA (aA aC))) ?_;exact G (ab,a7,bo) _ _ _ trivial rT rfl rfl
   refine⟨_,rfl,rfl,?_⟩;refine CG 2 sizeOf140 (dL (aS aV)) (aY (aY bD)) ?_;refine yU 1 ?_;refine qq2 5 rfl (BG rfl rfl rfl ?_);intro bp _;refine yU 6 ?_;refine aN (Keeps.k (Keeps.k (Keeps.k (Keeps.k aT)))) ?_;refine aB aC ?_;refine aB (aA (aA aC)) ?_;refine aB (aA (aA (aA aC))) ?_;refine aB (aA (aA (aA aC))) ?_;exact G (ab,a7,bp) _ _ _ trivial rT rfl rfl
  refine⟨_,rfl,rfl,?_⟩;refine BG rfl rfl rfl ?_;intro bq _;refine yU 1 ?_;refine qq2 3 rfl (BG rfl rfl rfl ?_);intro br _;refine yU 14 ?_;refine aN (Keeps.k (Keeps.k (Keeps.k (Keeps.k aT)))) ?_;refine aB (aA aC) ?_;refine aB (aA (aA aC)) ?_;refine aB (aA (aA (aA aC))) ?_;refine aB (aA (aA (aA aC))) ?_;exact G (br,a7,bq) _ _ _ trivial rT rfl rfl
 refine⟨_,rfl,rfl,?_⟩;refine BG rfl rfl rfl ?_;intro ac _;refine yU 1 ?_;refine bI [3,4] kR sI ?_;intro i A;simp only[vX,vG,or_false]at A;rcases A with rfl|rfl
 ·refine⟨_,rfl,rfl,?_⟩;refine BG rfl rfl rfl ?_;intro an _;refine yU 3 ?_;refine bI [4,8] kR sI ?_;intro i A;simp only[vX,vG,or_false]at A;rcases A with rfl|rfl
  ·refine⟨_,rfl,rfl,?_⟩;refine BG rfl rfl rfl ?_;intro bt _;refine yU 12 ?_;refine aN (Keeps.k (Keeps.k (Keeps.k (Keeps.k aT)))) ?_;refine aB (aA (aA aC)) ?_;refine aB (aA aC) ?_;refine aB (aA (aA (aA aC))) ?_;refine aB (aA (aA (aA aC))) ?_;exact G (an,bt,ac) _ _ _ trivial rT rfl rfl
  refine⟨_,rfl,rfl,?_⟩;refine CG 2 a2c (aS aV) (aY (aY bD)) ?_;refine yU 1 ?_;refine qq2 4 rfl (BG rfl rfl rfl ?_);intro bu _;refine yU 10 ?_;refine aN (Keeps.k (Keeps.k (Keeps.k (Keeps.k aT)))) ?_;refine aB (aA (aA aC)) ?_;refine aB (aA aC) ?_;refine aB (aA (aA (aA aC))) ?_;refine aB (aA (aA (aA aC))) ?_;exact G (an,bu,ac) _ _ _ trivial rT rfl rfl
 refine⟨_,rfl,rfl,?_⟩;refine BG rfl rfl rfl ?_;intro bv _;refine yU 1 ?_;refine qq2 3 rfl (BG rfl rfl rfl ?_);intro bw _;refine yU 14 ?_;refine aN (Keeps.k (Keeps.k (Keeps.k (Keeps.k aT)))) ?_;refine aB (aA (aA aC)) ?_;refine aB (aA (aA aC)) ?_;refine aB (aA (aA (aA aC))) ?_;refine aB (aA (aA (aA aC))) ?_;exact G (bw,bv,ac) _ _ _ trivial rT rfl rfl
end Go.Proofs.YtalapkjmkjmpjaaGreatDoor
end
section
namespace Go.Proofs.YtalapkjmkjmpjaaGreatDoor
open _root_.Go.Proofs.Tryz
open Go Go.Sx
def ixH (ib:Nat):Option Ist→HL
 |none=>[(ib,yV 142 [.map none,.map none,.map none])]
 |some s=>a5n ib s
def a0G (I:Heap):Option Ist→bW→Prop
 |none,L=>L=[]
 |some s,L=>IY I s L
theorem a0G.mono{I A o L}(h:a0G I o L)(G:Le I A):a0G A o L:=by
 cases o with
 |none=>exact h
 |some s=>exact IY.mono h G
theorem a0G.JC{I o L}(h:a0G I o L):bH L:=by
 cases o with
 |none=>rw[show L=[] from h];exact List.Pairwise.nil
 |some s=>exact IY.JC h
theorem a0G.big{I o L}(h:a0G I o L):L.length≤100000:=by
 cases o with
 |none=>rw[show L=[] from h];exact sQ _
 |some s=>exact IY.big h
theorem d0E G o L A I (N:a0G I o L)(Q:L.length<100000)(O:RI A.fs)(M:KC I A.fs A.v):yY aF 60 [ptr G 0,.agg (JG A).toArray] I (ixH G o)
 (fun e Z H'=>∃o',e= .returned (.tuple #[])∧a0G Z o' (bV A.t (aZ A.fs) L)∧H'=ixH G o'):=by
 cases o with
 |none=>
  have hL:L=[]:=N;subst hL;exact(c5q G A I O M).mono fun e Z H' _ ⟨s',h1,h2,h3⟩=>⟨some s',h1,h2,h3⟩
 |some s=>exact(c5l G s L A I N Q O M).mono fun e Z H' _ ⟨s',h1,h2,h3⟩=>⟨some s',h1,h2,h3⟩
def XC (I:Heap) (ib:Nat) (L:bW):Prop:=∃o,a0G I o L∧∀p∈ixH ib o,I p.1=some p.2
theorem XC.mono{I G M L}(h:XC I M L)(A:Le I G):XC G M L:=let ⟨o,h1,h2⟩:=h;⟨o,h1.mono A,fun p N=>A _ _ (h2 p N)⟩
theorem XC.JC{I A L}(h:XC I A L):bH L:=let ⟨_,h1,_⟩:=h;h1.JC
theorem XC.big{I A L}(h:XC I A L):L.length≤100000:=let ⟨_,h1,_⟩:=h;h1.big
def b0C (I:Heap) (mv:Option Nat) (f:dN→aI→Nat):Prop:=(mv=none∧∀p t,f p t=0)∨∃b l c N,mv=some b∧CS l c N f∧∀q∈setH b l c N,I q.1=some q.2
theorem b0C.mono{I A mv f}(h:b0C I mv f)(G:Le I A):b0C A mv f:=by
 rcases h with h|⟨b,l,c,N,h1,h2,h3⟩
 ·exact .inl h
 exact .inr ⟨b,l,c,N,h1,h2,fun q M=>G _ _ (h3 q M)⟩
def b4A (I:Heap) (mv:Option Nat) (L:bW):Prop:=(mv=none∧L=[])∨∃b l c,mv=some b∧MS l c∧YB I l L∧I b=some (zZ AB l c)
theorem b4A.mono{I G mv L}(h:b4A I mv L)(A:Le I G):b4A G mv L:=by
 rcases h with h|⟨b,l,c,h1,h2,h3,M⟩
 ·exact .inl h
 exact .inr ⟨b,l,c,h1,h2,h3.mono A,A _ _ M⟩
theorem XC.parts{I G L}(h:XC I G L):∃N O Q,I G=some (yV 142 [.map N,.map O,.map Q])∧b4A I N L∧b0C I O (aK aG L)∧b0C I Q (aK aH L):=by
 obtain⟨o,h1,h2⟩:=h;cases o with
 |none=>
  have Z:L=[]:=h1;subst Z;exact⟨none,none,none,h2 _ (.head _),.inl rT,.inl ⟨rfl,fun _ _=>rfl⟩,.inl ⟨rfl,fun _ _=>rfl⟩⟩
 |some s=>
  have A:IY I s L:=h1;refine⟨some s.vb,some s.wb,some s.kb,h2 (G,_) (.tail _ (.head _)),.inr ⟨s.vb,s.lv,s.cv,rfl,A.vms,A.vals,h2 (s.vb,_) (.head _)⟩,.inr ⟨s.wb,s.lw,s.cw,s.Nw,rfl,A.nw,fun q M=>h2 q ?_⟩,.inr ⟨s.kb,s.lk,s.ck,s.Nk,rfl,A.nk,fun q M=>h2 q ?_⟩⟩
  ·exact .tail _ (.tail _ (vZ _ M))
  exact .tail _ (.tail _ (vY _ M))
theorem ZT{α:Type}[BEq α][LawfulBEq α]{l m:List α}(A:l.Nodup)(h:∀x∈l,x∈m):l.length≤m.length:=by
 induction l generalizing m with
 |nil=>simp
 |cons a r O=>
  rw[vJ]at A;have G:=h a (.head _);have:=O (m:=m.erase a) A.2 fun x M=>by
   have N:x≠a:=fun e=>A.1 (e▸M);exact(List.mem_erase_of_ne N).2 (h x (.tail _ M))
  rw[List.length_erase_of_mem G]at this;have h0:0<m.length:=List.length_pos_of_mem G;rw[wU];omega
theorem c9L{L:bW}{m k}{f:aI→Nat}(A:MS m k)(G:∀t,AQ m t=cv (f t))(Q:bH L)(M:∀t,f t≠0→∃e∈L,e.1=t):m.length≤L.length:=by
 have h1:(m.map (·.1)).length≤(L.map (·.1)).length:=by
  refine ZT A.1 fun t N=>?_;have h2:AQ m t≠none:=fun h=>IX.1 h N;rw[G]at h2;have h3:f t≠0:=fun h=>h2 (by rw[h];rfl);obtain⟨e,O,rfl⟩:=M t h3;exact vT O
 rw[wO,wO]at h1;exact h1
structure TA where
  vis:ML Ix.Rec
  rest:ML Ix.Rec
  g:Gs
theorem b9q{m k}{f:aI→Nat}(O:MS m k)(G:∀t,AQ m t=cv (f t)){vis:ML aI}(M:vis.Perm m){l':List aI}(A:l'.Perm (vis.map bM))(Q:l'.Pairwise fun p q=>cO q p=false):(l'.Pairwise fun a b=>cO a b=true)∧∀t,t∈l'↔f t≠0:=by
 have N:l'.Nodup:=A.nodup_iff.2 ((M.map _).nodup_iff.2 O.1);refine⟨?_,fun t=>?_⟩
 ·refine(List.pairwise_and_iff.2 ⟨Q,vI.1 N⟩).imp fun {a b} ⟨h1,h2⟩=>?_;rcases Ix.SB a b with h|h|h
  ·exact h
  ·exact absurd h h2
  rw[h]at h1;cases h1
 rw[A.mem_iff,(M.map _).mem_iff];constructor
 ·intro h;have h2:AQ m t≠none:=fun g=>IX.1 g h;rw[G]at h2;exact fun g=>h2 (by rw[g];rfl)
 intro h;refine Classical.byContradiction fun g=>?_;have:=IX.2 g;rw[G,c1M h]at this;cases this
theorem c8E(vis:ML aI) g:gV (vis.map bM).length g=gV vis.length g:=by rw[wO]
theorem a3N{base sz n xs g}(h:AL base sz n xs g):AL 0 sz n xs g:=by
 cases g with
 |none=>exact h
 |some q=>exact⟨sQ _,h.2⟩
theorem d0y{base}{l l':List aI}{g}(h:AL base 2 l.length (l.flatMap recC) g)(A:l'.length=l.length):AL base 2 l'.length (l'.flatMap recC) g:=by
 rw[A];exact PN h (by rw[BZ AP,BZ AP,A])
theorem b9U b l c p O m k (f:aI→Nat)(hm:AQ l p=some (.map (some O)))(A:MS m k)(a5:∀t,AQ m t=cv (f t))(ab:m.length≤100000) I (hb:I b=some (zZ GH l c))(G:I O=some (zZ AB m k)):yY aF 332 [.map (some b),GH p] I []
 (fun e _ H'=>∃(ts:List aI) (g:Gs),(ts.Pairwise fun a b=>cO a b=true)∧(∀t,t∈ts↔f t≠0)∧AL 0 2 ts.length (ts.flatMap recC) g∧e= .returned (gV ts.length g)∧H'=gH 42 (ts.flatMap recC) g):=by
 refine zN func332 fun w0 _=>?_;refine yU 3 ?_;intro _ _;refine yU 13 ?_;refine J.z (BJ (kv:=GH) (l:=l) (a:=p) rfl rfl rfl rfl KJ QL OU (bJ hb)) ?_;refine J.ez 9 (.map (some O)) rfl (by rw[hm];rfl) ?_;refine dD rfl (MJ (kv:=AB) (l:=m) rfl rfl rfl rfl JL (bJ G) ?_);intro b2 _;refine yU 3 ?_;refine Cj.keep (Keeps.k (bK aT)) ?_;refine bQ (ι:=TA) (fun y=>(y.vis++y.rest).Perm m∧AL w0.heap.size 2 y.vis.length ((y.vis.map bM).flatMap recC) y.g) (fun y=>y.rest.length) (fun y=>[(5,gV y.vis.length y.g),(10,ptr b2 0)]) (fun y=>_) (fun y=>(b2,XZ O k y.vis k)::gH 42 ((y.vis.map bM).flatMap recC) y.g) ⟨[],m,none⟩ ⟨.refl _,rfl,rfl⟩ rT rfl rfl ?_;rintro⟨vis,rest,g⟩ ⟨M,hg⟩;dsimp only at M hg ⊢;have a1:=M.length_eq;rw[wV]at a1;refine yU 2 ?_;refine dD rfl (NW (kv:=AB) (l:=m) 0 rfl rfl rfl rfl rfl (bJ G) A.2.2 (tH _) A.2.1 M ?_ ?_)
 ·rintro x Q H9 a6 Z ⟨-,hset⟩;simp only[uM,uN]at hset;subst hset;refine yU 10 ?_;refine J.z (RQ (kv:=AB) (l:=m) rfl rfl (yX.at 0 rfl) (bJ G) (Z.mem_iff.1 (vZ _ (vY _ (.head _)))) A.2.1) ?_;refine yU 2 ?_;intro _ _;refine yU 7 ?_;intro _ _;refine KT 15 [_,_,_] hg ?_;intro g6 a7;refine yU 3 ?_;refine aN (bK (bK (Keeps.k dZ))) ?_;refine bG ⟨vis++[x],Q,g6⟩ ⟨Z,by dsimp only;rw[wV,wG,xP];exact a7⟩ (by have h:=a6.length_eq;simp only[wU]at h;dsimp only;omega) ⟨by dsimp only;rw[wV];rfl,rfl,trivial⟩ rfl (by dsimp only;rw[wG,xP];rfl)
 intro a2;refine yU 11 ?_;have a8:vis.Perm m:=by rw[a2,yD]at M;exact M
 have a0:AL w0.heap.size 2 (vis.map bM).length ((vis.map bM).flatMap recC) g:=by rw[wO];exact hg
 refine yU 2 ?_;refine J.ez 19 (gV (vis.map bM).length g) rfl ((c8E vis g).symm) ?_;refine RS [_] (a3M (vis.map bM) g a0 (by rw[wO];omega) _) ?_;rintro _ _ H9 _ ⟨ts,N,a9,h,rfl⟩;cases h;obtain⟨a3,a4⟩:=b9q A a5 a8 N a9;have aa:vis.length=ts.length:=by rw[N.length_eq,wO]
 refine yU 9 ?_;refine aN (H':=gH 42 (ts.flatMap recC) g) (List.sublist_append_right [_] _) ?_;refine zM ?_;rw[aa];exact⟨ts,g,a3,a4,a3N (d0y a0 N.length_eq),rfl,rfl⟩
theorem b9m p (f:aI→Nat)(M:∀t,f t=0) I:yY aF 332 [.map none,GH p] I []
 (fun e _ H'=>∃(ts:List aI) (g:Gs),(ts.Pairwise fun a b=>cO a b=true)∧(∀t,t∈ts↔f t≠0)∧AL 0 2 ts.length (ts.flatMap recC) g∧e= .returned (gV ts.length g)∧H'=gH 42 (ts.flatMap recC) g):=by
 refine zN func332 fun w0 _=>?_;refine yU 3 ?_;intro _ _;refine yU 13 ?_;refine J.z (LM (kv:=GH) (a:=p) rfl rfl rfl rfl KJ QL OU) ?_;refine dD rfl (OD rfl rfl rfl rfl JL ?_);intro _ _;refine yU 3 ?_;refine eP 1 ?_;refine Rj.succ ?_;refine yU 2 ?_;refine dD rfl (QM 0 rfl rfl rfl rfl rfl ?_);refine RS [_,_] (a3M (base:=0) [] none rT dE _) ?_;rintro _ _ _ _ ⟨ts,A,_,h,rfl⟩;cases h;have G:=A.eq_nil;subst G;refine zV ?_;exact⟨[],none,List.Pairwise.nil,fun t=>⟨fun h=>(by cases h),fun h=>absurd (M t) h⟩,⟨rfl,rfl⟩,rfl,rfl⟩
theorem b6f b l c p (f:aI→Nat)(M:AQ l p=none)(N:∀t,f t=0) I (O:I b=some (zZ GH l c)):yY aF 332 [.map (some b),GH p] I []
 (fun e _ H'=>∃(ts:List aI) (g:Gs),(ts.Pairwise fun a b=>cO a b=true)∧(∀t,t∈ts↔f t≠0)∧AL 0 2 ts.length (ts.flatMap recC) g∧e= .returned (gV ts.length g)∧H'=gH 42 (ts.flatMap recC) g):=by
 refine zN func332 fun w0 _=>?_;refine yU 3 ?_;intro _ _;refine yU 13 ?_;refine J.z (BJ (kv:=GH) (l:=l) (a:=p) rfl rfl rfl rfl KJ QL OU (bJ O)) ?_;refine J.ez 9 (.map none) rfl (by rw[M];rfl) ?_;refine dD rfl (OD rfl rfl rfl rfl JL ?_);intro _ _;refine yU 3 ?_;refine eP 1 ?_;refine Rj.succ ?_;refine yU 2 ?_;refine dD rfl (QM 0 rfl rfl rfl rfl rfl ?_);refine RS [_,_] (a3M (base:=0) [] none rT dE _) ?_;rintro _ _ _ _ ⟨ts,A,_,h,rfl⟩;cases h;have G:=A.eq_nil;subst G;refine zV ?_;exact⟨[],none,List.Pairwise.nil,fun t=>⟨fun h=>(by cases h),fun h=>absurd (N t) h⟩,⟨rfl,rfl⟩,rfl,rfl⟩
theorem a5T mv G (L:bW) p I (h:b0C I mv G)(hs:bH L)(hL:L.length≤100000)(hf:∀t,G p t≠0→∃e∈L,e.1=t):yY aF 332 [.map mv,GH p] I []
 (fun e _ H'=>∃(ts:List aI) (g:Gs),(ts.Pairwise fun a b=>cO a b=true)∧(∀t,t∈ts↔G p t≠0)∧AL 0 2 ts.length (ts.flatMap recC) g∧e= .returned (gV ts.length g)∧H'=gH 42 (ts.flatMap recC) g):=by
 rcases h with⟨rfl,Z⟩|⟨b,l,c,N,rfl,hN,hI⟩
 ·exact b9m p (G p) (Z p) I
 rcases hN.find p with⟨a0,M,Z⟩|⟨A,ib,m,k,B,rfl,M,O,a1,Q,hA,hB⟩
 ·exact b6f b l c p (G p) M Z I (hI (b,_) (.head _))
 exact b9U b l c p ib m k (G p) M O Q (FD (c9L O Q hs hf) hL) I (hI (b,_) (.head _)) (hI (ib,zZ AB m k) (.tail _ (vU.2 ⟨(p,ib,m,k),sI,rfl⟩)))
theorem b5T{pl L}(h:bH L) p t (A:aK pl L p t≠0):∃e∈L,e.1=t:=by
 unfold aK at A;cases hg:aQ L t with
 |none=>rw[hg]at A;exact absurd rfl A
 |some vs=>exact⟨_,(Ix.JU h).1 hg,rfl⟩
end Go.Proofs.YtalapkjmkjmpjaaGreatDoor
end
namespace Go.Sx
open Go
section
variable {cx:Cx} {Q:Qt} {e:Env} {I:Heap} {H:HL} {o:Oper} {C:Ct}
end
theorem a6o{α:Type}{f:α→List Value}{n:Nat}(A:∀x,(f x).length=n){sp:List Value}{x}:∀{l:List α} {i:Nat},i<l.length→AX (l.flatMap f++sp) (i*n) (f x) ((l.set i x).flatMap f++sp)
 |[],_,h=>by simp at h
 |a::r,0,_=>by
  refine⟨by rw[Nat.zero_mul,A,xO,wV,wV,A];omega,?_⟩;rw[Nat.zero_mul,bU,vM,sS,uM,xO,xO,yE,yE,A,←A a,List.drop_left]
 |a::r,i+1,h=>by
  obtain⟨h1,h2⟩:=a6o A (sp:=sp) (x:=x) (l:=r) (i:=i) (by simpa using h);have G:=A a;refine⟨by rw[xO,yE,wV,G,dP];omega,?_⟩;rw[uN,xO,yE,h2,xO,yE (f a),show(i+1)*n=(f a).length+i*n by rw[G,dP];omega,List.take_length_add_append,Nat.add_assoc,List.drop_length_add_append];simp only[yE]
end Go.Sx
section
namespace Go.Proofs.YtalapkjmkjmpjaaGreatDoor
open _root_.Go.Proofs.Tryz
open Go Go.Sx
theorem a4Y{w l}(h:l.length<w.length):aU w l=false:=by
 rw[yN,Ne,Ix.within_iff];exact fun g=>by have:=g.length_le;omega
theorem a9t{w l}(h:l.take w.length=w):aU w l=true:=by
 rw[Ix.within_iff];exact(dB.2 h.symm).isInfix
theorem a7b{w l:Ke.Row}{k}(N:k+w.length≤l.length)(h:¬(l.drop k).take w.length=w):aU w (l.drop k)=aU w (l.drop (k+1)):=by
 rcases tC k l.length with A|M
 ·rw[←wX A]at h ⊢
  conv=>lhs;unfold aU
  have:w.isPrefixOf (l[k]::l.drop (k+1))=false:=by
   rw[yN,Ne,wW,dB];exact fun e=>h e.symm
  rw[this,Bool.false_or]
 have G:w=[]:=wR.1 oM;subst G;exact absurd rfl h
theorem c8P{a b:List (List UInt8)}{k x y}(h:a.take k=b.take k)(A:a[k]?=some x)(G:b[k]?=some y)(M:x=y):a.take (k+1)=b.take (k+1):=by
 obtain⟨h1,N⟩:=xC.1 A;obtain⟨h2,O⟩:=xC.1 G;rw[tN h1,tN h2,h,N,O,M]
theorem b3N{I l a n c}(h:FI I l (.slice a n c)){j k}(A:j≤k)(G:k≤l.length):FI I ((l.drop j).take (k-j)) (.slice (a3T a c j 1) (k-j) (c-j)):=
 a1N.2 (zJ.cut (f:=fun s=>[str s]) (sz:=1) (fun _=>rfl) (a1N.1 h) A G)
theorem c1j a b va vb I (ha:FI I a va)(hb:FI I b vb)(aa:a.length≤100000000000000):Pure aF 366 [va,vb] I (.bool (decide (a=b))):=by
 refine aW ?_;obtain⟨p1,c1,rfl,_,a3⟩:=ha;obtain⟨p2,c2,rfl,_,a4⟩:=hb;refine zN func366 fun w0 _=>?_;refine yZ ?_ ?_<;>intro a0 A
 ·refine zM ?_;rw[zI (fun e=>A (by rw[e]))];exact rT
 have a9:a.length=b.length:=by have h:=A;omega
 refine yU 11 ?_;refine bQ (ι:=Nat) (fun j=>j≤a.length∧a.take j=b.take j) (fun j=>a.length-j) (fun j=>[(0,.slice p1 a.length c1),(1,.slice p2 b.length c2),(12,i64 (a.length:Int)),(13,i64 (j:Int))]) (fun j=>I) (fun j=>[]) 0 ⟨sQ _,rfl⟩ rT rfl rfl ?_;rintro j ⟨_,M⟩;refine yZ ?_ ?_<;>intro a1 O
 ·have Z:j<a.length:=oM;obtain⟨x,Q⟩:∃x,a[j]?=some x:=⟨_,AA Z⟩;obtain⟨y,hy⟩:∃y,b[j]?=some y:=⟨_,AA oM⟩;obtain⟨_,oa,_,_,_,_,rfl,a5,a6⟩:=a3 (zK Z);obtain⟨_,ob,DJ,_,_,_,rfl,a7,a8⟩:=a4 (zK (oM:j<b.length));refine yU 11 ?_;refine aP [] [] 9 kR ?_;refine zW (oa+j) ?_;refine dH 3 rfl (DI DU (dI a5) (GR a6 Q)) ?_;refine zW (ob+j) ?_;refine dH 7 rfl (DI DU (dI a7) (GR a8 hy)) ?_;refine yZ ?_ ?_<;>intro a2 G
  ·have N:x≠y:=G;refine zM ?_;rw[zI (fun e=>N (by rw[e,hy]at Q;exact(sK Q).symm))];exact rT
  have N:x=y:=G;refine yU 7 ?_;refine bG (j+1) ⟨oM,c8P M Q hy N⟩ oM rT rfl rfl
 refine zM ?_;rw[tX (oM:a.length≤j),tX (oM:b.length≤j)]at M;rw[zH M];exact rT
theorem b6u a b va vb I (ha:FI I a va)(hb:FI I b vb)(a1:a.length≤100000000000000)(a2:b.length≤100000000000000):Pure aF 338 [va,vb] I (.bool (aU b a)):=by
 refine aW ?_;obtain⟨p1,c1,rfl,_,-⟩:=id ha;obtain⟨p2,c2,rfl,_,-⟩:=id hb;refine zN func338 fun w0 _=>?_;refine yU 12 ?_;refine bQ (ι:=Nat) (fun k=>k≤a.length+1∧(0<k→0<b.length)∧aU b (a.drop k)=aU b a) (fun k=>a.length+1-k) (fun k=>[(0,.slice p1 a.length c1),(1,.slice p2 b.length c2),(5,i64 (k:Int))]) (fun k=>I) (fun k=>[]) 0 ⟨sQ _,fun h=>absurd h (Nat.lt_irrefl 0),rfl⟩ rT rfl rfl ?_;rintro k ⟨_,a0,Q⟩;refine yZ ?_ ?_<;>intro Z M
 ·have N:k+b.length≤a.length:=oM;refine yU 12 ?_;refine J.z (b1T (j:=k) (k:=(k+b.length)) rfl rfl rfl rfl ED BD rfl oM oM) ?_;refine zO (c1j _ b _ _ _ (b3N ha (Nat.le_add_right k b.length) N) hb (by rw[wI,wS];omega)) ?_;refine DF ?_ ?_<;>intro A
  ·have O:=DK A;rw[tK]at O;refine zM ?_;rw[←Q,a9t O];exact rT
  have G:=DN A;rw[tK]at G;refine yU 8 ?_;refine bG (k+1) ⟨oM,fun _=>wK.2 (fun e=>G (by rw[e];rfl)),by rw[←Q,a7b N G]⟩ oM rT rfl rfl
 refine zM ?_;rw[←Q,a4Y (by rw[wS];rcases Nat.eq_zero_or_pos k with h|h<;>(first|omega|(have:=a0 h;omega)))];exact rT
theorem a0J l v M g N (hl:l.length≤100000000000000) I (hr:zJ vwC I l v)(hw:∀x∈l,IV 9 I x.1.ws x.2)(a1:∀x∈l,Pure aF g (.agg (vwC x).toArray::N) I (.bool (M x))):Pure aF 209 [v,.func (.func g) #[] N.toArray] I (i64 (ZP M l)):=by
 refine aW ?_;obtain⟨p,c,rfl,_,hp⟩:=hr;refine zN func209 fun w0 _=>?_;refine yU 14 ?_;refine bQ (ι:=Nat) (fun j=>j≤l.length∧∀x∈l.take j,M x=false) (fun j=>l.length-j) (fun j=>[(0,.slice p l.length c),(1,.func (.func g) #[] N.toArray),(7,i64 (l.length:Int)),(8,i64 (j:Int))]) (fun j=>I) (fun j=>[]) 0 ⟨sQ _,fun g hg=>by simp at hg⟩ rT rfl rfl ?_;rintro j ⟨_,A⟩;refine yZ ?_ ?_<;>intro a2 a0
 ·have Z:j<l.length:=oM;obtain⟨x,G⟩:∃x,l[j]?=some x:=⟨_,AA Z⟩;obtain⟨_,fo,_,_,_,sp,rfl,a3,a4⟩:=hp (zK Z);refine zW (fo+j*3) ?_;refine J.z (CX isAgg192 XW (bJ a3) (AY a1c a4 G)) ?_;refine zO (a1 x (CJ G)) ?_;refine DF ?_ ?_<;>intro O
  ·have ht:M x=true:=O;refine zM ?_;rw[a6g A G ht];exact rT
  have a5:M x=false:=O;refine yU 7 ?_;refine bG (j+1) ⟨oM,a0S A G a5⟩ oM rT rfl rfl
 have Q:l.take j=l:=tX oM;rw[Q]at A;refine zM ?_;rw[a2n A];exact rT
theorem a4D l v M g N (hl:l.length≤100000000000000) I (hr:zJ recC I l v)(a1:∀x∈l,Pure aF g (AB x::N) I (.bool (M x))):Pure aF 365 [v,.func (.func g) #[] N.toArray] I (i64 (ZP M l)):=by
 refine aW ?_;obtain⟨p,c,rfl,_,hp⟩:=hr;refine zN func365 fun w0 _=>?_;refine yU 14 ?_;refine bQ (ι:=Nat) (fun j=>j≤l.length∧∀x∈l.take j,M x=false) (fun j=>l.length-j) (fun j=>[(0,.slice p l.length c),(1,.func (.func g) #[] N.toArray),(7,i64 (l.length:Int)),(8,i64 (j:Int))]) (fun j=>I) (fun j=>[]) 0 ⟨sQ _,fun g hg=>by simp at hg⟩ rT rfl rfl ?_;rintro j ⟨_,A⟩;refine yZ ?_ ?_<;>intro a2 a0
 ·have Z:j<l.length:=oM;obtain⟨x,G⟩:∃x,l[j]?=some x:=⟨_,AA Z⟩;obtain⟨_,fo,_,_,_,sp,rfl,a3,a4⟩:=hp (zK Z);refine zW (fo+j*2) ?_;refine J.z (CX FY BM (bJ a3) (AY AP a4 G)) ?_;refine zO (a1 x (CJ G)) ?_;refine DF ?_ ?_<;>intro O
  ·have ht:M x=true:=O;refine zM ?_;rw[a6g A G ht];exact rT
  have a5:M x=false:=O;refine yU 7 ?_;refine bG (j+1) ⟨oM,a0S A G a5⟩ oM rT rfl rfl
 have Q:l.take j=l:=tX oM;rw[Q]at A;refine zM ?_;rw[a2n A];exact rT
theorem b0M b c sp l (O:l.length≤c) G g A (Q:l.length≤100000000000000) I (N:∀J,Le I J→∀x∈l,Pure aF g (AB x::A) J (.bool (G x))):
 yY aF 365 [.slice (some ⟨b,0,none⟩) l.length c,.func (.func g) #[] A.toArray] I [(b,yV 42 (l.flatMap recC++sp))] (fun e _ H'=>e= .returned (i64 (ZP G l))∧H'=[(b,yV 42 (l.flatMap recC++sp))]):=by
 refine yY.b1p (Enters.of func365 dE rfl) fun Z hd=>?_;have hr:zJ recC (ZX [(b,yV 42 (l.flatMap recC++sp))] I) l (.slice (some ⟨b,0,none⟩) l.length c):=zJ.of O (a1r Z _ (.head _));refine(yY.borrow (a4D l _ G g A Q _ hr (N _ (b3t hd)))).mono fun e _ H' _ ⟨J,_,⟨h1,_,h3⟩,h4,_⟩=>⟨h1,?_⟩;rw[h4,h3,yD]
theorem c7N{α:Type}(p:α→Bool)(l:List α):decide (0≤ZP p l)=l.any p:=by
 rcases QJ p l with⟨h1,h2⟩|⟨k,x,h1,h2,h3⟩
 ·rw[h1];have:l.any p=false:=by
   rw[yN,Ne,yF];rintro⟨y,A,G⟩;exact absurd G (by simpa using dM.1 h2 y A)
  rw[this];rfl
 rw[h1];have:l.any p=true:=yF.2 ⟨x,CJ h2,by have:=dS h3;exact this⟩;rw[this];exact zH oM
theorem a1k l v G g A (N:l.length≤100000000000000) I (O:zJ vwC I l v)(Q:∀x∈l,IV 9 I x.1.ws x.2)(M:∀x∈l,Pure aF g (.agg (vwC x).toArray::A) I (.bool (G x))):Pure aF 336 [v,.func (.func g) #[] A.toArray] I (.bool (l.any G)):=by
 refine aW ?_;refine zN func336 fun w0 _=>?_;refine zO (a0J l v G g A N _ O Q M) ?_;refine zM ?_;rw[←c7N];exact rT
theorem c6a x p n c (A:x.2= .slice p n c) I:Pure aF 210 [.agg (vwC x).toArray] I (.bool (decide (x.1.name=eU))):=by
 refine aW ?_;refine zN func210 fun w0 _=>?_;refine yU 3 ?_;intro _ _;refine yU 8 ?_;refine J.ez 5 (.bool (decide (x.1.name=eU))) rfl (zC Value.bool (by rw[yM,beq_iff_eq,zG];exact Iff.rfl)) ?_;refine zV ?_;exact rT
theorem a6L x nb lb n w M I (N:IV 9 I x.1.ws x.2)(Q:x.1.ws.length≤10000000)(Z:w.length≤1000000000)(O:IV 9 I w M)(a0:I nb=some (yV 9 [str n]))(a1:I lb=some (yV 118 [M])):Pure aF 337 [.agg (vwC x).toArray,ptr nb 0,ptr lb 0] I (.bool (decide (x.1.name=n) && aU w x.1.ws)):=by
 refine aW ?_;refine zN func337 fun w0 _=>?_;refine yU 3 ?_;intro _ _;refine DZ ?_ ?_<;>intro A G
 ·refine zO (b6u x.1.ws w _ _ _ (FI.of N) (FI.of O) oM oM) ?_;refine zV ?_;rw[zH (BP A:x.1.name=n),yJ];exact rT
 refine zV ?_;rw[zI (CB A:x.1.name≠n)];exact rT
theorem c8d{α β:Type} f (p:β→Bool)(l:List α):(l.map f).any p=l.any fun x=>p (f x):=by rw[List.any_map];rfl
theorem b5U{I xs vs}(h:RD I xs vs) n w:xs.any (fun x=>decide (x.1.name=n) && aU w x.1.ws)=eG n w vs:=by
 unfold eG;rw[←h.1,c8d]
def lacks (L:bW) (n:List UInt8) (w:Ke.Row) (t:aI):Bool:= !eG n w ((aQ L t).getD [])
theorem b5x Q nb lb Z mb m k wm km L n w N t I (hs:bH L)(M:LD ((aQ L t).getD []))(a0:w.length≤1000000000)(hw:IV 9 I w N)(a1:I Q=some (yV 82 [ptr Z 0]))(a2:I nb=some (yV 9 [str n]))(a3:I lb=some (yV 118 [N]))(a4:I Z=some (yV 142 [.map (some mb),.map wm,.map km]))(a5:I mb=some (zZ AB m k))(aa:MS m k)(a6:YB I m L):Pure aF 335 [AB t,ptr Q 0,ptr nb 0,ptr lb 0] I (.bool (lacks L n w t)):=by
 refine aW ?_;obtain⟨vv,a7,xs,O,A⟩:=a6.at t;have ab:=A.len;have ac:=M.1;refine zN func335 fun w0 _=>?_;refine yU 3 ?_;intro _ _;refine yU 4 ?_;refine aP [0] [] 10 kR ?_;have a8:=a1;have a9:=a4;have G:=a5;refine yU 5 ?_;refine dH 5 rfl (BJ (kv:=AB) (l:=m) (a:=t) rfl rfl rfl rfl UE FQ a0R (dI G)) ?_;refine JA.ez 11 vv rfl a7 ?_;refine zO (a1k xs _ (fun x=>decide (x.1.name=n) && aU w x.1.ws) _ [ptr nb 0,ptr lb 0] oM _ O.row A.2 (fun x hx=>a6L x nb lb n w N _ (A.2 x hx) (M.2 _ (A.1▸vT hx)) a0 hw a2 a3)) ?_;refine zV ?_;rw[b5U A];exact rT
theorem b4V O nb lb Q wm km L n w M t I (hs:bH L)(G:LD ((aQ L t).getD []))(Z:w.length≤1000000000)(hw:IV 9 I w M)(a0:I O=some (yV 82 [ptr Q 0]))(a1:I nb=some (yV 9 [str n]))(a2:I lb=some (yV 118 [M]))(a3:I Q=some (yV 142 [.map none,.map wm,.map km]))(hL:L=[]):Pure aF 335 [AB t,ptr O 0,ptr nb 0,ptr lb 0] I (.bool (lacks L n w t)):=by
 refine aW ?_;subst hL;obtain⟨xs,N,A⟩:=VN.nil I;have a4:=A.len;rw[wL]at a4;have a7:=G.1;refine zN func335 fun w0 _=>?_;refine yU 3 ?_;intro _ _;refine yU 4 ?_;refine aP [0] [] 10 kR ?_;have a5:=a0;have a6:=a3;refine yU 5 ?_;refine dH 5 rfl (LM (kv:=AB) (a:=t) rfl rfl rfl rfl UE FQ a0R) ?_;refine zO (a1k xs _ (fun x=>decide (x.1.name=n) && aU w x.1.ws) _ [ptr nb 0,ptr lb 0] oM _ N.row A.2 (fun x hx=>a6L x nb lb n w M _ (A.2 x hx) (G.2 _ (A.1▸vT hx)) Z hw a1 a2)) ?_;refine zV ?_;rw[b5U A];exact rT
structure DL where
  i:Nat
  j:Nat
  zs:List Ix.Rec
theorem c1d{ts:List aI}{A:aI→Bool}{k x}(G:ts[k]?=some x)(M:A x=true)(h:∀y∈ts.take k,A y=false):(ts.take (k+1)).filter (fun t=> !A t)=ts.take k:=by
 rw[take_one G,xR,xQ.2 (fun y N=>by simp[h y N])];simp[M]
theorem c5K{ts zs:List aI}{A:aI→Bool}{i j x}(h:zs.take i=(ts.take j).filter (fun t=> !A t))(G:ts[j]?=some x)(M:A x=true):zs.take i=(ts.take (j+1)).filter (fun t=> !A t):=by
 rw[take_one G,xR,←h];simp[M]
theorem c6Y{ts zs:List aI}{A:aI→Bool}{i j x}(N:i<j)(h:zs.take i=(ts.take j).filter (fun t=> !A t))(O:zs.drop j=ts.drop j)(G:ts[j]?=some x)(M:A x=false)(Q:zs.length=ts.length):(zs.set i x).take (i+1)=(ts.take (j+1)).filter (fun t=> !A t):=by
 have Z:j<ts.length:=(xC.1 G).1;rw[take_one G,xR,←h,tN (by rw[dU];omega),List.take_set_of_le (tH i)];simp[M]
theorem c5Z{ts:List aI}{A}(h:ts.find? A=none):(ts.filter fun t=> !A t)=ts:=by
 rw[dM]at h;exact xQ.2 fun y G=>by simp[h y G]
theorem c5E{zs:List aI}{n i sp}(_:zs.length=n)(A:i≤zs.length):(zs.flatMap recC++sp).take (0+i*2)=(zs.take i).flatMap recC:=by
 have h1:zs.flatMap recC=(zs.take i).flatMap recC++(zs.drop i).flatMap recC:=by rw[←xP,uD]
 have h2:((zs.take i).flatMap recC).length=0+i*2:=by rw[BZ AP,wI,sW A];omega
 rw[h1,yE,←h2,List.take_left]
theorem c0o{A}:∀{l:List aI} {k:Nat},ZP A l=(k:Int)→∀y∈l.take k,A y=false:=fun {l k} h=>by
 unfold ZP at h;cases hf:l.findIdx? A with
 |none=>rw[hf]at h;simp only at h;omega
 |some j=>
  rw[hf]at h;have M:j=k:=by simp only at h;omega
  subst M;obtain⟨h1,h2,h3⟩:=List.findIdx?_eq_some_iff_getElem.1 hf;intro y N;obtain⟨i,O,rfl⟩:=List.mem_iff_getElem.1 N;have G:i<j:=by rw[wI]at O;omega
  have:=h3 i G;rw[List.getElem_take];simpa using this
theorem b5O{base} b c sp (ts:List aI)(hg:AL base 2 ts.length (ts.flatMap recC) (some (b,c,sp)))(A:aI→Bool) g O (hl:ts.length≤100000000000000) I (Q:∀J,Le I J→∀x∈ts,Pure aF g (AB x::O) J (.bool (A x))):yY aF 334 [.slice (some ⟨b,0,none⟩) ts.length c,.func (.func g) #[] O.toArray] I [(b,yV 42 (ts.flatMap recC++sp))]
 (fun e _ H'=>∃g':Gs,AL 0 2 (ts.filter fun t=> !A t).length ((ts.filter fun t=> !A t).flatMap recC) g'∧e= .returned (gV (ts.filter fun t=> !A t).length g')∧H'=gH 42 ((ts.filter fun t=> !A t).flatMap recC) g'):=by
 have hc:ts.length≤c:=by
  obtain⟨_,h2,h3⟩:=hg;rw[BZ AP]at h3;omega
 obtain⟨-,_,_⟩:=id hg;refine zN func334 fun w0 _=>?_;refine yU 9 ?_;refine J.pull aC ?_;refine zX (b0M b c sp ts hc A g O hl _ Q) ?_;intro _ _ _ aa af;have Q:=fun J9 h9=>Q J9 (dQ aa h9);obtain⟨h,rfl⟩:=af;cases h;refine yZ ?_ ?_<;>intro a1 ab
 ·have a5:ts.find? A=none:=by
   rcases QJ A ts with h|⟨k,x,h1,-,-⟩
   ·exact h.2
   have h9:=BP a1;rw[h1]at h9;omega
  refine zM ?_;rw[c5Z a5];exact⟨some (b,c,sp),a3N hg,rfl,rfl⟩
 obtain⟨k,x0,a8,Z,a6⟩:=(QJ A ts).resolve_left (fun h=>by have h9:=CB a1;exact h9 h.1);have ac:=c0o a8;have ag:A x0=true:=by have:=dS a6;exact this
 have an:=(xC.1 Z).1;rw[a8];refine yU 11 ?_;refine bQ (ι:=DL) (fun y=>y.i<y.j∧y.j≤ts.length∧y.zs.length=ts.length∧y.zs.take y.i=(ts.take y.j).filter (fun t=> !A t)∧y.zs.drop y.j=ts.drop y.j) (fun y=>ts.length-y.j) (fun y=>[(0,.slice (some ⟨b,0,none⟩) ts.length c),(1,.func (.func g) #[] O.toArray),(5,i64 (y.i:Int)),(6,i64 (y.j:Int))]) (fun y=>_) (fun y=>[(b,yV 42 (y.zs.flatMap recC++sp))]) ⟨k,k+1,ts⟩ ⟨sZ k,dO,rfl,by dsimp only;exact(c1d Z ag ac).symm,rfl⟩ rT rfl rfl ?_;rintro⟨i,j,zs⟩ ⟨a9,hj,G,a0,N⟩;dsimp only at a9 hj G a0 N ⊢;refine yZ ?_ ?_<;>intro ah ad
 ·have ai:j<ts.length:=oM;obtain⟨x,M⟩:∃x,ts[j]?=some x:=⟨_,AA ai⟩;have a7:zs[j]?=some x:=by rw[←M,←Nat.add_zero j,←xH,←xH,N]
  refine zW (0+j*2) ?_;refine J.z (CX FY BM (yX.at 0 rfl) (AY AP (o:=0) rfl a7)) ?_;refine yU 1 ?_;intro _ _;refine zO (Q _ (dF _) x (CJ M)) ?_;refine DF ?_ ?_<;>intro a2
  ·have a3:A x=false:=by have h:=a2;simpa using h
   refine zW (i*2) ?_;refine dD rfl (DV 1 rfl rfl rfl rfl rfl rfl BM rfl rfl (a6o (x:=x) AP oM) (aY bD) ?_);refine yU 14 ?_;refine aN (bK (Keeps.k aT)) ?_;refine bG ⟨i+1,j+1,zs.set i x⟩ ⟨dO,dO,by dsimp only;rw[dU];exact G,by dsimp only;exact c6Y a9 a0 N M a3 G,by dsimp only;rw[List.drop_set_of_lt oM,←xY,N,xY]⟩ dO rT rfl rfl
  have a3:A x=true:=by have h:=a2;simpa using h
  refine yU 8 ?_;refine aN (bK (Keeps.k aT)) ?_;refine bG ⟨i,j+1,zs⟩ ⟨dO,dO,G,by dsimp only;exact c5K a0 M a3,by dsimp only;rw[←xY,N,xY]⟩ dO rT rfl rfl
 refine yU 9 ?_;refine J.z (MH (j:=i) rfl rfl rfl JI BM rfl oM oM) ?_;refine J.ez 38 (.slice (some ⟨b,0+i*2,none⟩) (ts.length-i) (c-i)) rfl (by unfold a3T;rw[zD oM,sN,Addr.add_lit]) ?_;refine dD rfl (c6D (sz:=2) 0 rfl rfl rfl oM JI VT rfl dE rfl rfl (by rw[wV,BZ AP,G];omega) ?_);rintro aj _ ae ⟨-,hset⟩;simp only[uM,uN]at hset;subst hset;refine yU 3 ?_;have al:=ae;refine yU 3 ?_;refine J.z (IG (k:=i) rfl rfl rfl JI BM rfl oM) ?_;refine zM ?_;have am:(ts.filter fun t=> !A t)=zs.take i:=by rw[a0,tX (oM:ts.length≤j)]
 have a4:(zs.take i).length=i:=by rw[wI];omega
 rw[am,a4];refine⟨some (b,c,aj++(zs.flatMap recC++sp).drop (0+i*2+(ts.length-i)*2)),⟨sQ _,by rw[BZ AP,a4],?_⟩,rfl,?_⟩
 ·rw[BZ AP,a4,wV,al,wS,wV,BZ AP,G];omega
 show[_]=[_];rw[c5E G (oM:i≤zs.length),yE]
end Go.Proofs.YtalapkjmkjmpjaaGreatDoor
end
section
namespace Go.Proofs.YtalapkjmkjmpjaaGreatDoor
open _root_.Go.Proofs.Tryz
open Go Go.Sx
abbrev a2F (l:List aI) (v:Value) (H:HL):Prop:=QA 42 recC l v H
theorem a9d{base n l g}(A:n=l.length)(G:AL base 2 n (l.flatMap recC) g):a2F l (gV n g) (gH 42 (l.flatMap recC) g):=QA.c7f AP dE A G
theorem a6k:a2F [] (.slice none 0 0) []:= .inl rT
theorem b7A{L n s}(h:(aO s).length≠1):Ix.word L n s=[]:=zD h
theorem c4s{L n s w}(h:aO s=[w]):Ix.word L n s=aX L n [w]:=by
 unfold Ix.word;rw[h];rfl
theorem d0c{l:Ke.Row}{w:List UInt8}(h:l.length=1)(A:l[0]?=some w):l=[w]:=by
 match l,h with
 |[a],_=>simp at A;rw[A]
theorem b8X{L}(A:bH L) n x w:(aX L n [x]).filter (fun t=> !lacks L n (x::w) t)=aX L n (x::w):=
 Ix.c3O n x w _ A fun t vs G=>by unfold lacks;rw[G,Bool.not_not];rfl
theorem a5R{L:bW}{t:aI}:Ix.JW L t=match ((aQ L t).getD []).find? fun v=>decide (v.name=eU)with
 |none=>[]
 |some v=>v.key:=by
 unfold Ix.JW;cases aQ L t with
 |none=>rfl
 |some vs=>rfl
theorem a1J{α β}(f:α→β) p (l:List α):(l.map f).find? p=(l.find? fun x=>p (f x)).map f:=by
 induction l with
 |nil=>rfl
 |cons a r A=>
  rw[wF,dV,dV];cases p (f a)with
  |true=>rfl
  |false=>exact A
theorem b2o{I A L}(h:XC I A L) t:LD ((aQ L t).getD []):=by
 obtain⟨o,h1,_⟩:=h;cases o with
 |none=>rw[show L=[] from h1];exact⟨sQ _,fun _ h=>by cases h⟩
 |some s=>exact b5J (IY.JC h1) (IY.vok h1) t
theorem a7P n s (N:s.length≤100000000) I:Pure aF 333 [str n,str s] I (str (cZ n s)):=by
 refine aW ?_;have Q:=a4m s;refine zN func333 fun w0 _=>?_;refine zO (b0S s N _) ?_;refine EH ?_ ?_<;>intro A
 ·refine yZ ?_ ?_<;>intro G O
  ·have M:cZ n s=dW (Ke.WC s).1 0:=zF ⟨A,BP G⟩;refine zO (WU (Ke.WC s).1 0 oM _) ?_;refine zM ?_;rw[M];exact rT
  have M:cZ n s=dW s 0:=zD (fun g=>CB G g.2);refine zO (WU s 0 N _) ?_;refine zM ?_;rw[M];exact rT
 have M:cZ n s=dW s 0:=zD (fun g=>Bool.noConfusion (g.1.symm.trans A));refine zO (WU s 0 N _) ?_;refine zM ?_;rw[M];exact rT
theorem c8Y ib L n s (hs:s.length≤100000000) I (hx:XC I ib L):yY aF 339 [ptr ib 0,str n,str s] I [] (fun e _ H'=>∃v,e= .returned v∧a2F (Ix.word L n s) v H'):=by
 have G:=hx.JC;have a0:=hx.big;obtain⟨_,wm,_,A,_,hW,_⟩:=hx.parts;have ae:=(dJ s).1;refine zN func339 fun w0 _=>?_;refine zX (VR s oM _) ?_;intro _ _ _ M a5;have A:=M _ _ A;have hW:=hW.mono M;obtain⟨_,h,hw,rfl⟩:=a5;cases h;obtain⟨wp,_,rfl⟩:=KG hw;refine yZ ?_ ?_<;>intro N a1
 ·have a2:(aO s).length≠1:=by have h:=bne_iff_ne.1 N;omega
  refine yU 7 ?_;rw[b7A a2];refine zV ?_;exact⟨_,rfl,a6k⟩
 have a6:(aO s).length=1:=by have h:=EC N;omega
 obtain⟨w1,O⟩:∃w,(aO s)[0]?=some w:=⟨_,AA oM⟩;have a7:=d0c a6 O;obtain⟨wb,_,_,a8,a9⟩:=hw.some (zK (oM:0<(aO s).length));cases a8;refine yU 3 ?_;refine aP [] [] 11 kR ?_;have ad:=A;have Q:=a9;refine zW 0 ?_;refine dH 7 rfl (DI DU (dI Q) (EL O)) ?_;refine dK CP (fun aa=>?_);refine bF 8 rfl aa (zL (pl:= #[(0,1),(1,1)]) rfl rfl a8Q rfl a6x (fun w=>by simp[BD]) (bY rfl rfl rfl (aS aV) (bY rfl rfl rfl (dL (aS aV)) eX))) ?_;refine zX (a5T wm _ L (n,w1) _ hW G a0 (b5T G _)) ?_;intro _ _ _ Z a3;have A:=Z _ _ A;obtain⟨ts,g,ab,a4,hg,h,rfl⟩:=a3;cases h;refine yU 5 ?_;have ac:=eH G ab a4;rw[c4s a7];subst ac;refine aN (H':=gH _ _ g) (dA _ _) ?_;refine zM ?_;exact⟨_,rfl,a9d rfl hg⟩
theorem d0A Z L n s (hs:s.length≤100000000) I (M:XC I Z L):yY aF 272 [ptr Z 0,str n,str s] I [] (fun e _ H'=>∃v,e= .returned v∧a2F (Ix.JD L n (cZ n s)) v H'):=by
 have A:=M.JC;have N:=M.big;obtain⟨_,_,km,G,_,_,hK⟩:=M.parts;refine zN func272 fun w0 _=>?_;refine yU 16 ?_;refine aP [] [] 11 kR ?_;have a4:=G;refine zO (a7P n s hs _) ?_;refine⟨fx0,?_⟩;refine dK CP (fun a0=>?_);refine bF 8 rfl a0 (zL (pl:= #[(0,1),(1,1)]) rfl rfl a8Q rfl a6x (fun w=>by simp[BD]) (bY rfl rfl rfl (aS aV) (bY rfl rfl rfl (dL (aS aV)) eX))) ?_;refine zX (a5T km _ L (n,cZ n s) _ hK A N (b5T A _)) ?_;intro _ _ _ O a1;have G:=O _ _ G;obtain⟨ts,g,a2,Q,hg,h,rfl⟩:=a1;cases h;refine yU 5 ?_;have a3:=Ix.b9L A a2 Q;subst a3;refine aN (H':=gH _ _ g) (dA _ _) ?_;refine zM ?_;exact⟨_,rfl,a9d rfl hg⟩
theorem b3X(G:aI→Bool) g (A:List Value) I:yY aF 334 [.slice none 0 0,.func (.func g) #[] A.toArray] I [] (fun e _ H'=>e= .returned (.slice none 0 0)∧H'=[]):=by
 refine zN func334 fun w0 _=>?_;refine zO (a4D [] _ G g A dE _ zJ.nil (fun x M=>by cases M)) ?_;refine J.ez 10 (i64 (-1)) rfl rfl ?_;refine zM ?_;exact rT
theorem b9z A nb lb G vm wm km L n w M t I (hs:bH L)(N:LD ((aQ L t).getD []))(O:w.length≤1000000000)(hw:IV 9 I w M)(Q:I A=some (yV 82 [ptr G 0]))(Z:I nb=some (yV 9 [str n]))(a0:I lb=some (yV 118 [M]))(a1:I G=some (yV 142 [.map vm,.map wm,.map km]))(hV:b4A I vm L):Pure aF 335 [AB t,ptr A 0,ptr nb 0,ptr lb 0] I (.bool (lacks L n w t)):=by
 rcases hV with⟨rfl,hL⟩|⟨b,l,c,rfl,a2,a3,hb⟩
 ·exact b4V A nb lb G wm km L n w M t I hs N O hw Q Z a0 a1 hL
 exact b5x A nb lb G b l c wm km L n w M t I hs N O hw Q Z a0 a1 hb a2 a3
theorem b9O{base}(ts:List aI) g (N:AL base 2 ts.length (ts.flatMap recC) g)(A:aI→Bool) f G (Q:ts.length≤100000000000000) I (O:∀J,Le I J→∀x∈ts,Pure aF f (AB x::G) J (.bool (A x))):yY aF 334 [gV ts.length g,.func (.func f) #[] G.toArray] I (gH 42 (ts.flatMap recC) g)
 (fun e _ H'=>∃M:Gs,AL 0 2 (ts.filter fun t=> !A t).length ((ts.filter fun t=> !A t).flatMap recC) M∧e= .returned (gV (ts.filter fun t=> !A t).length M)∧H'=gH 42 ((ts.filter fun t=> !A t).flatMap recC) M):=by
 cases g with
 |none=>
  have h0:ts=[]:=wR.1 N.1;subst h0;exact(b3X A f G I).mono fun e _ H' _ ⟨h1,h2⟩=>⟨none,⟨rfl,rfl⟩,h1,h2⟩
 |some q=>
  obtain⟨b,c,sp⟩:=q;exact b5O b c sp ts N A f G Q I O
theorem c7C{L}(A:bH L)(G:L.length≤100000) n w:(aX L n w).length≤100000000000000:=by
 unfold aX
 split
 ·simp
 rw[wO];have:=wP (fun e:aI×List dX=>eG n w e.2) L;omega
theorem b9b ib L n s (hs:s.length≤100000000) I (hx:XC I ib L):yY aF 274 [ptr ib 0,str n,str s] I [] (fun e _ H'=>∃g,AL 0 2 (aX L n (aO s)).length ((aX L n (aO s)).flatMap recC) g∧e= .returned (gV (aX L n (aO s)).length g)∧H'=gH 42 ((aX L n (aO s)).flatMap recC) g):=by
 have a0:=hx.JC;have a7:=hx.big;obtain⟨vm,wm,km,M,hV,hW,_⟩:=hx.parts;have ae:=fun t=>b2o hx t;have ay:=(dJ s).1;refine zN func274 fun w0 _=>?_;refine yU 3 ?_;intro b1 an;refine yU 1 ?_;intro b2 ao;refine yU 4 ?_;refine dY (aA aC) ?_;refine bC an (fun _ a5 A=>?_);have M:=a5 _ _ M;have hW:=hW.mono a5;have hV:=hV.mono a5;refine bC ao (fun _ a2 N=>?_);have M:=a2 _ _ M;have hW:=hW.mono a2;have hV:=hV.mono a2;have A:=a2 _ _ A;refine zX (VR s oM _) ?_;intro _ _ H9 Z af;have M:=Z _ _ M;have hW:=hW.mono Z;have hV:=hV.mono Z;have A:=Z _ _ A;have N:=Z _ _ N;obtain⟨_,h,hw,rfl⟩:=af;cases h;obtain⟨wp,_,rfl⟩:=KG hw;refine yU 1 ?_;intro aa ag;refine yU 5 ?_;refine bC ag (fun _ O Q=>?_);have M:=O _ _ M;have hW:=hW.mono O;have hV:=hV.mono O;have A:=O _ _ A;have N:=O _ _ N;have hw:=hw.mono O;refine yZ ?_ ?_<;>intro a6 a8
 ·refine yU 7 ?_;rw[show aX L n (aO s)=[] from zF (wR.1 (by have h:=BP a6;omega))];refine zV ?_;exact⟨none,⟨rfl,rfl⟩,rfl,rfl⟩
 have ab:(aO s).length≠0:=by have h:=CB a6;omega
 obtain⟨x,w,ac⟩:∃x w,aO s=x::w:=by
  cases hc:aO s with
  |nil=>rw[hc]at ab;exact absurd rfl ab
  |cons a r=>exact⟨a,r,rfl⟩
 have ah:(aO s)[0]?=some x:=by rw[ac];rfl
 obtain⟨wb,_,_,ap,a4⟩:=hw.some (zK (oM:0<(aO s).length));cases ap;refine yU 3 ?_;refine aP [] [] 13 kR ?_;have ax:=M;have aq:=A;have ar:=N;have am:=Q;have a9:=a4;refine yU 6 ?_;refine dK CP (fun a3=>?_);refine bF 6 rfl a3 (a1v (off':=0) rfl rfl rfl ED BD dE oM sI) ?_;refine bF 7 rfl a3 (DI DU (dI a9) (EL ah)) ?_;refine bF 8 rfl a3 (zL (pl:= #[(0,1),(1,1)]) rfl rfl a8Q rfl a6x (fun w=>by simp[BD]) (bY rfl rfl rfl (aS aV) (bY rfl rfl rfl (dL (aS aV)) eX))) ?_;refine bF 10 rfl a3 (a6K rfl rfl rfl) ?_;refine qq2 9 rfl (zU (H1:=[]) rfl rfl rfl rfl rfl (a5T wm _ L (n,x) _ hW a0 a7 (b5T a0 _)) ?_ (fun _ _ _ _ ⟨_,_,_,_,_,h,_⟩=>by cases h) (fun _ _ ⟨_,_,_,_,_,h,_⟩=>by cases h));intro _ _ _ G ai;have M:=G _ _ M;have hV:=hV.mono G;have A:=G _ _ A;have N:=G _ _ N;have hw:=hw.mono G;have Q:=G _ _ Q;have a4:=G _ _ a4;obtain⟨ts,g,au,aj,hg,h,rfl⟩:=ai;cases h;have ad:=eH a0 au aj;have av:=hg;refine⟨⟨(dQ (dF _) G),HSub.n,CSub.n⟩,?_⟩;refine qq2 11 rfl (b5H (H1:=gH 42 (ts.flatMap recC) g) [] (yD _) rfl rfl rfl rfl rfl (b9O ts g av (lacks L n (aO s)) _ [ptr b1 0,ptr b2 0,ptr aa 0] (by rw[ad];exact c7C a0 a7 _ _) _ (fun J9 h9 t _=>b9z b1 b2 aa ib vm wm km L n (aO s) _ t J9 a0 (ae t) oM (hw.mono h9) (h9 _ _ A) (h9 _ _ N) (h9 _ _ Q) (h9 _ _ M) (hV.mono h9))) ?_ (fun _ _ _ _ h=>by obtain⟨_,_,h,_⟩:=h;cases h) (fun _ _ h=>by obtain⟨_,_,h,_⟩:=h;cases h));rintro _ _ H9 a1 ⟨g9,aw,h,rfl⟩;cases h;have M:=a1 _ _ M;have A:=a1 _ _ A;have N:=a1 _ _ N;have Q:=a1 _ _ Q;have a4:=a1 _ _ a4;refine⟨⟨(dQ (dQ (dF _) G) a1),HSub.n,CSub.n⟩,?_⟩;refine dK CP (fun al=>?_);refine bF 12 rfl al BI ?_;refine JA.done kR ?_;refine Ej.seq (Cj.ret ?_);rw[ad,ac,b8X a0 n x w]at *;refine Ej.YI rfl rfl rfl ?_;exact⟨g9,aw,rfl,rfl⟩
theorem c3W A L n s (G:s.length≤100000000) I (M:XC I A L):yY aF 274 [ptr A 0,str n,str s] I [] (fun e _ H'=>∃v,e= .returned v∧a2F (aX L n (aO s)) v H'):=
 (b9b A L n s G I M).mono fun _ _ _ _ ⟨_,h1,h2,h3⟩=>⟨_,h2,by rw[h3];exact a9d rfl h1⟩
