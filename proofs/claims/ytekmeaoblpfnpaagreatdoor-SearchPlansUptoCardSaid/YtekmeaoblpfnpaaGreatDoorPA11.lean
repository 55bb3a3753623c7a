/-
  Own texts on the laws of the seat, joined: the logic, and contracts of functions. Conditions: none.
-/
import Derived.Test.YtekmeaoblpfnpaaGreatDoorNmA
import Derived.Test.YtekmeaoblpfnpaaGreatDoorPA10
import Derived.Lib.FieldsU
set_option linter.all false
set_option maxRecDepth 100000
set_option maxHeartbeats 40000000
section
namespace Go.Proofs.YtekmeaoblpfnpaaGreatDoor
open _root_.Go.Proofs.Tryz
open Go Go.Sx
def RxS (I:Heap) (rb:Nat) (es:List FY) (p:Option Addr) (c:Nat):Prop:=I rb=some (yX 50 [.slice p es.length c])∧FN I es (.slice p es.length c)
theorem RxS.mono{I I' rb es p c}(h:RxS I rb es p c)(hle:Le I I'):RxS I' rb es p c:=⟨hle _ _ h.1,h.2.mono hle⟩
structure VE (I:Heap) (rb:Nat) (es:List FY):Prop where
  ex:∃p c,RxS I rb es p c
  len:es.length≤1000
  eok:∀e∈es,RH e.fs
  GY:Ix.BK (es.map zJ)
theorem VE.mono{I I' rb es}(h:VE I rb es)(hle:Le I I'):VE I' rb es:=⟨let ⟨p,c,g⟩:=h.ex;⟨p,c,g.mono hle⟩,h.len,h.eok,h.GY⟩
theorem VE.of{I rb es w}(h1:I rb=some (yX 50 [w]))(h2:FN I es w)(hl:es.length≤1000)(he:∀e∈es,RH e.fs)(hs:Ix.BK (es.map zJ)):VE I rb es:=by
  obtain⟨p,c,rfl,-⟩:=h2.len;exact⟨⟨p,c,h1,h2⟩,hl,he,hs⟩
theorem a2d{cs sp:List Value}{o k}{es:List FY}{x}(h:cs.drop o=es.flatMap IB++sp)(hx:es[k]?=some x):(cs.drop (o+k*5+2)).take 3=[u8 x.k,u8 x.l,x.v]:=by
  have h1:=BF IL h hx;rw[show(cs.drop (o+k*5+2)).take 3=((cs.drop (o+k*5)).take 5).drop 2 by rw[List.drop_take,List.drop_drop],h1];rfl
def KR (P:FY→Bool) (es:List FY):List Ix.Rec:=(es.filter P).map (·.t)
theorem a8n{P}{es:List FY}{k x}(h:es[k]?=some x):KR P (es.take (k+1))=KR P (es.take k)++if P x=true then[x.t]else[]:=by
  obtain⟨hlt,hg⟩:=List.getElem?_eq_some_iff.1 h;unfold KR;rw[List.take_succ_eq_append_getElem hlt,hg,List.filter_append,List.map_append]
  by_cases hc:P x=true
  · rw[List.filter_cons_of_pos hc,if_pos hc];rfl
  rw[List.filter_cons_of_neg hc,if_neg hc];rfl
theorem a5n P es:(KR P es).length≤es.length:=by
  unfold KR;rw[List.length_map];exact List.length_filter_le _ _
theorem a1B{α:Type}{p}{l:List α}{k x}(h:l[k]?=some x):(l.take (k+1)).any p=((l.take k).any p || p x):=by
  obtain⟨hlt,hg⟩:=List.getElem?_eq_some_iff.1 h;rw[List.take_succ_eq_append_getElem hlt,hg,List.any_append];simp
def wIn (w:Ke.Row) (x:List UInt8×Nat):Bool:=Ix.within w (Ke.words x.1)
def kIn (k:List UInt8) (x:List UInt8×Nat):Bool:=decide (Ke.GI x.1 x.2=k)
def TV (n:List UInt8) (w:Ke.Row) (e:FY):Bool:=(Ix.valsN e.fs n).any (wIn w)
def a6B (n k:List UInt8) (e:FY):Bool:=(Ix.valsN e.fs n).any (kIn k)
theorem c4g n w e:Ix.ZF n w (Ix.vals e.fs)=TV n w e:=by
  unfold TV Ix.ZF;rw[←Ix.b0F,List.any_map,List.any_filter];rfl
theorem c0C n k e:Ix.hasK n k (Ix.vals e.fs)=a6B n k e:=by
  unfold a6B Ix.hasK;rw[←Ix.b0F,List.any_map,List.any_filter];rfl
theorem b6H(f:List Ix.V→Bool) P (h:∀e,f (Ix.vals e.fs)=P e) es:((es.map zJ).filter fun e=>f e.2).map (·.1)=KR P es:=by
  unfold KR;rw[List.filter_map,List.map_map];have:(fun e:Ix.Rec×List Ix.V=>f e.2)∘zJ=P:=funext fun e=>h e;rw[this];rfl
theorem c4A{es:List FY}{n w k}(h0:k=0∨w≠[])(hk:es.length≤k):KR (TV n w) (es.take k)=Ix.phrase (es.map zJ) n w:=by
  unfold Ix.phrase
  by_cases hw:w=[]
  · have h1:=h0.resolve_right fun g=>g hw;subst h1;rw[if_pos hw];rfl
  rw[if_neg hw,b6H _ _ (fun e=>c4g n w e),List.take_of_length_le hk]
theorem c5E{es:List FY}{n w k}(h0:k=0∨w≠[])(hw:w=[]):KR (TV n w) (es.take k)=Ix.phrase (es.map zJ) n w:=by
  have h1:=h0.resolve_right fun g=>g hw;subst h1;unfold Ix.phrase;rw[if_pos hw];rfl
def NZ (n k:List UInt8) (e:FY):Bool:=a6B n k e && decide (k≠[])
theorem b3H es n k:KR (NZ n k) es=Ix.GU (es.map zJ) n k:=by
  unfold Ix.GU
  by_cases hk:k=[]
  · rw[if_pos hk];unfold KR NZ;rw[List.filter_eq_nil_iff.2 fun e _=>by simp[hk]];rfl
  rw[if_neg hk];exact(b6H _ (NZ n k) (fun e=>by unfold NZ;rw[c0C,decide_eq_true hk,Bool.and_true]) es).symm
theorem c0G{f n x}(h:x∈Ix.ofN f n):x.1.length≤CZ f.subs+f.subs.length+13:=by
  have ht:∀c:List UInt8,(Ke.textOf f c).length≤CZ f.subs+f.subs.length:=a1t f;have hp:∀(u:List UInt8→List UInt8×Bool) (c:UInt8),(∀s,(u s).2=true→(u s).1.length≤13)→x∈JU u c f.subs→x.1.length≤CZ f.subs+f.subs.length+13:=fun u c hu hx=>by
    unfold JU at hx;obtain⟨y,hy,rfl⟩:=List.mem_map.1 hx;obtain⟨s,_,he⟩:=List.mem_filterMap.1 hy;unfold OC at he
    split at he
    · rename_i hc;cases he;have:=hu _ hc.1;dsimp only;omega
    cases he
  by_cases h1:n=Ix.KW
  · rw[OQ h1]at h;split at h
    · rw[List.mem_singleton.1 h];have:=ht [97,98];dsimp only;omega
    cases h
  by_cases h2:n=Ix.KN
  · rw[MN h2]at h;split at h
    · rw[List.mem_singleton.1 h];have:=ht [97];dsimp only;omega
    cases h
  by_cases h3:n=Ix.KU
  · rw[LH h3]at h;split at h
    · rw[List.mem_singleton.1 h];have:=ht [97,120];dsimp only;omega
    cases h
  by_cases h4:n=Ix.MX
  · rw[SI h4]at h;split at h
    · exact hp _ _ (fun s _=>a1F s) h
    cases h
  by_cases h5:n=Ix.a0p
  · rw[TD h5]at h;split at h
    · refine hp _ _ (fun s hs=>?_) h;unfold uy at hs ⊢;cases hy:Ix.KT s with
      |none=>simp
      |some y=>have:=a5Q hy;dsimp only[Option.getD];omega
    cases h
  by_cases h6:n=Ix.PI
  · rw[PV h6]at h;split at h
    · rw[List.mem_singleton.1 h];have:=b3P f;dsimp only;omega
    cases h
  rw[of_none h1 h2 h3 h4 h5 h6]at h;cases h
theorem a1N{fs}(hok:RH fs){n x}(h:x∈Ix.valsN fs n):x.1.length≤3002000:=by
  unfold Ix.valsN at h;obtain⟨f,hf,hx⟩:=List.mem_flatMap.1 h;have h1:=c0G hx;have h2:=hok.2 f hf;omega
theorem zS.len{α:Type}{f:α→List Value}{I:Heap}{l:List α}{v:Value}(h:zS f I l v):∃p c,v= .slice p l.length c:=let ⟨p,c,h1,_⟩:=h;⟨p,c,h1⟩
theorem a6K rb es n s (hs:s.length≤1000000000) I (hx:VE I rb es):yY Tryz.prog 175 [ptr rb 0,str n,str s] I [] (fun e I' H'=>∃v,e= .returned v∧zS recC I' (Ix.phrase (es.map zJ) n (Ke.words s)) v∧H'=[]):=by
 have hlen:=hx.len;have heok:=hx.eok;obtain⟨p,c,hR⟩:=hx.ex;have hrb:=hR.1;have hwl:=(Ke.KG s).1;refine zQ func175 fun w0 hw0=>?_;refine LD (SY s hs _) ?_;intro v2 I3 H4 hle5 hn1 hp6;have hR:=hR.mono hle5;have hrb:=hle5 _ _ hrb;obtain⟨gw,hgw,h,rfl⟩:=hp6;cases h;refine J.RU (hgw.base hn1) (fun Iw hlew hw=>?_);have hR:=hR.mono hlew;have hrb:=hlew _ _ hrb;obtain⟨pw,cw,hwe⟩:=JQ hw;refine J.eqv 15 rfl hwe ?_;rw[hwe]at hw;replace hw:=EY.of hw;refine yU 15 ?_;refine Cj.loop (ι:=Nat×Heap×Gs) (fun y=>y.1≤es.length∧(y.1=0∨(Ke.words s)≠[])∧EY y.2.1 (Ke.words s) (.slice pw (Ke.words s).length cw)∧RxS y.2.1 rb es p c∧BL w0.heap.size 2 (KR (TV n (Ke.words s)) (es.take y.1)).length ((KR (TV n (Ke.words s)) (es.take y.1)).flatMap recC) y.2.2) (fun y=>es.length-y.1) (fun y=>[(0,ptr rb 0),(1,str n),(7,.slice pw (Ke.words s).length cw),(8,gV (KR (TV n (Ke.words s)) (es.take y.1)).length y.2.2),(9,i64 (y.1:Int))]) (fun y=>y.2.1) (fun y=>gH 54 ((KR (TV n (Ke.words s)) (es.take y.1)).flatMap recC) y.2.2) (0,_,none) ⟨Nat.zero_le _,.inl rfl,hw,hR,rfl,rfl⟩ ⟨rfl,rfl,rfl,rfl,rfl,trivial⟩ rfl rfl ?_;rintro⟨k,J1,g⟩ ⟨hk,hk0,hw,hR,hg⟩;dsimp only at hk hk0 hw hR hg ⊢;have hrb:=hR.1;have hsl:=a5n (TV n (Ke.words s)) (es.take k);rw[List.length_take,Nat.min_eq_left hk]at hsl;refine EK (fun hg7 hg7p=>?_) (fun hg7 hg7p=>?_)
 ·refine zK (fun hc8 hc8p=>?_) (fun hc8 hc8p=>?_)
  ·have hwne:(Ke.words s)≠[]:=zU (k:=0) (by omega);refine yU 5 ?_;have hlt:k<es.length:=by omega
   obtain⟨e0,hget⟩:∃x,es[k]?=some x:=⟨_,BM hlt⟩;have hek:=heok e0 (CX hget);obtain⟨p1,c1,hpe,hc1,hp⟩:=id hR.2.1;cases hpe;obtain⟨eb,eo,ecs,ety,efr,esp,rfl,heb,hed⟩:=hp (zU hlt);have hrec:=hR.2.2 e0 (CX hget);obtain⟨vp0,vc0,hev,-,-⟩:=id hrec.1;have hnx:=a8n (P:=(TV n (Ke.words s))) hget;refine zW (eo+k*5) ?_;refine J.z (CV (off':=eo+k*5+2) a2R UE) ?_;refine J.z (BJ isAgg57 UE (yZ.LK heb) (a2d hed hget)) ?_;refine AP (a2g e0.fs e0.v e0.k e0.l n hek _ hrec) ?_;intro v9 I10 H11 hle12 hp13;have hR:=hR.mono hle12;have hrb:=hle12 _ _ hrb;have hw:=hw.mono hle12;have heb:=hle12 _ _ heb;have hrec:=hrec.mono hle12;obtain⟨vv,h,hvals,rfl⟩:=hp13;cases h;obtain⟨pv,cv,rfl⟩:=zS.len hvals;have hvl:(Ix.valsN e0.fs n).length≤1000000:=by have h1:=SH n e0.fs (fun f hf=>(hek.2 f hf).1);have h2:=hek.1;omega
   refine yU 15 ?_;refine Cj.keep Keeps.r ?_;refine Cj.loop (ι:=Nat×Heap) (fun y=>y.1≤(Ix.valsN e0.fs n).length∧Le I10 y.2) (fun y=>(Ix.valsN e0.fs n).length-y.1) (fun y=>[(0,ptr rb 0),(1,str n),(7,.slice pw (Ke.words s).length cw),(8,gV (KR (TV n (Ke.words s)) (es.take k)).length g),(9,i64 (k:Int)),(10,.slice pv (Ix.valsN e0.fs n).length cv),(11,.bool (((Ix.valsN e0.fs n).take y.1).any (wIn (Ke.words s)))),(12,i64 (y.1:Int))]) (fun y=>y.2) (fun y=>gH 54 ((KR (TV n (Ke.words s)) (es.take k)).flatMap recC) g) (0,_) ⟨Nat.zero_le _,Le.refl _⟩ ⟨rfl,rfl,rfl,rfl,rfl,rfl,rfl,rfl,trivial⟩ rfl rfl ?_;rintro⟨j,J2⟩ ⟨hj,hIJ⟩;dsimp only at hj hIJ ⊢;have hR:=hR.mono hIJ;have hrb:=hR.1;have hw:=hw.mono hIJ;have heb:=hIJ _ _ heb;have hvals:=hvals.mono hIJ;refine zK (fun hc14 hc14p=>?_) (fun hc14 hc14p=>?_)
   ·have hjlt:j<(Ix.valsN e0.fs n).length:=by omega
    obtain⟨x,hvget⟩:∃x,(Ix.valsN e0.fs n)[j]?=some x:=⟨_,BM hjlt⟩;have hxt:=a1N hek (CX hvget);obtain⟨p2,c2,hpe2,hc2,hp2⟩:=id hvals;cases hpe2;obtain⟨vb,vo,vcs,vty,vfr,vsp,rfl,hvb,hvd⟩:=hp2 (zU hjlt);refine zW (vo+j*2) ?_;refine yU 1 ?_;refine J.z (AX rfl rfl CU (yZ.LK hvb) (DT OO hvd hvget 0 (by decide))) ?_;refine LD (SY x.1 (by omega) _) ?_;intro v16 I17 H18 hle19 hn15 hp20;have hIJ:=hIJ.mono hle19;have hR:=hR.mono hle19;have hrb:=hle19 _ _ hrb;have hw:=hw.mono hle19;have heb:=hle19 _ _ heb;have hvals:=hvals.mono hle19;have hvb:=hle19 _ _ hvb;obtain⟨gx,hgx,h,rfl⟩:=hp20;cases h;refine J.RU (hgx.base hn15) (fun Ix1 hlex hwx=>?_);have hIJ:=hIJ.mono hlex;have hR:=hR.mono hlex;have hrb:=hlex _ _ hrb;have hw:=hw.mono hlex;have heb:=hlex _ _ heb;have hvals:=hvals.mono hlex;have hvb:=hlex _ _ hvb;replace hwx:=EY.of hwx;refine zX (b4J (Ke.words x.1) (Ke.words s) _ _ _ hwx hw (by have:=(Ke.KG x.1).1;omega) (by omega)) ?_;refine FM (fun hg21=>?_) (fun hg21=>?_)
    ·have hfd:=hg21;refine yU 11 ?_;refine Ej.round (j+1,_) ⟨by dsimp only;omega,hIJ⟩ (by dsimp only;omega) ⟨rfl,rfl,rfl,rfl,rfl,rfl,by dsimp only;rw[a1B hvget,hfd];rfl,rfl,trivial⟩ rfl rfl
    have hfd:=hg21;refine yU 11 ?_;refine Ej.round (j+1,_) ⟨by dsimp only;omega,hIJ⟩ (by dsimp only;omega) ⟨rfl,rfl,rfl,rfl,rfl,rfl,by dsimp only;rw[a1B hvget,hfd,Bool.false_or];rfl,rfl,trivial⟩ rfl rfl
   refine DI (fun hc22=>?_) (fun hc22=>?_)
   ·have hh:(TV n (Ke.words s)) e0=true:=by have h:=hc22;rw[List.take_of_length_le (by omega)]at h;exact h
    rw[if_pos hh]at hnx;refine zW (eo+k*5) ?_;refine yU 1 ?_;refine J.z (BJ IZ EJ (yZ.LK heb) (a0Y hed hget)) ?_;refine yU 1 ?_;intro b23 hb23;refine RD 15 [_] hg ?_;intro g24 hg24;refine yU 9 ?_;refine Ej.keep (Keeps.d Keeps.r) ?_;refine Ej.round (k+1,_,g24) ⟨by dsimp only;omega,.inr hwne,hw,hR,by dsimp only;rw[hnx,List.length_append,List.flatMap_append];exact hg24⟩ (by dsimp only;omega) ⟨rfl,rfl,rfl,by dsimp only;rw[hnx,List.length_append];rfl,rfl,trivial⟩ rfl (by dsimp only;rw[hnx,List.flatMap_append];rfl)
   have hh:(TV n (Ke.words s)) e0=false:=by have h:=hc22;rw[List.take_of_length_le (by omega)]at h;exact h
   rw[if_neg (fun g=>Bool.noConfusion (g.symm.trans hh))]at hnx;refine yU 8 ?_;refine Ej.round (k+1,_,g) ⟨by dsimp only;omega,.inr hwne,hw,hR,by dsimp only;rw[hnx,List.append_nil];exact hg⟩ (by dsimp only;omega) ⟨rfl,rfl,rfl,by dsimp only;rw[hnx,List.append_nil];rfl,rfl,trivial⟩ rfl (by dsimp only;rw[hnx,List.append_nil])
  refine yU 12 ?_;have hph:=c5E hk0 (List.length_eq_zero_iff.1 (by omega)) (es:=es) (n:=n) (w:=(Ke.words s)) (k:=k);rw[hph]at hg ⊢;refine Ej.perm (H':=gH 54 ((Ix.phrase (es.map zJ) n (Ke.words s)).flatMap recC) g++[]) (.of_eq (List.append_nil _)) ?_;refine Ej.keepR BR (by decide) hg rfl (fun I8 hle8 hw8=>?_);refine zV ?_;exact⟨_,rfl,hw8,rfl⟩
 refine yU 19 ?_;have hph:=c4A hk0 (by omega) (es:=es) (n:=n) (w:=(Ke.words s)) (k:=k);rw[hph]at hg ⊢;refine Ej.perm (H':=gH 54 ((Ix.phrase (es.map zJ) n (Ke.words s)).flatMap recC) g++[]) (.of_eq (List.append_nil _)) ?_;refine Ej.keepR BR (by decide) hg rfl (fun I8 hle8 hw8=>?_);refine zV ?_;exact⟨_,rfl,hw8,rfl⟩
theorem c1b rb es n s (hs:s.length≤1000000000) I (hx:VE I rb es):yY Tryz.prog 178 [ptr rb 0,str n,str s] I [] (fun e I' H'=>∃v,e= .returned v∧zS recC I' (Ix.word (es.map zJ) n s) v∧H'=[]):=by
 have hwl:=(Ke.KG s).1;refine zQ func178 fun w0 hw0=>?_;refine LD (SY s hs _) ?_;intro v2 I3 H4 hle5 hn1 hp6;have hx:=hx.mono hle5;obtain⟨gw,hgw,h,rfl⟩:=hp6;cases h;refine J.RU (hgw.base hn1) (fun Iw hlew hw=>?_);have hx:=hx.mono hlew;obtain⟨pw,cw,hwe⟩:=JQ hw;refine J.eqv 8 rfl hwe ?_;rw[hwe]at hw;replace hw:=EY.of hw;refine zK (fun hc7 hc7p=>?_) (fun hc7 hc7p=>?_)
 ·have hne:Ix.word (es.map zJ) n s=[]:=b3X (by have h:=bne_iff_ne.1 hc7;omega);refine yU 7 ?_;rw[hne];refine zV ?_;exact⟨_,rfl,zS.nil,rfl⟩
 have hne:Ix.word (es.map zJ) n s=Ix.phrase (es.map zJ) n (Ke.words s):=if_pos (by have h:=JR hc7;omega);refine AP (a6K rb es n s hs _ hx) ?_;intro v8 I9 H10 hle11 hp12;have hx:=hx.mono hle11;have hw:=hw.mono hle11;obtain⟨vhph,h,hph,rfl⟩:=hp12;cases h;refine yU 4 ?_;rw[hne];refine zV ?_;exact⟨_,rfl,hph,rfl⟩
theorem a9Z rb es n key I (hx:VE I rb es):yY Tryz.prog 228 [ptr rb 0,str n,str key] I [] (fun e I' H'=>∃v,e= .returned v∧zS recC I' (Ix.GU (es.map zJ) n key) v∧H'=[]):=by
 have hlen:=hx.len;have heok:=hx.eok;obtain⟨p,c,hR⟩:=hx.ex;have hrb:=hR.1;refine zQ func228 fun w0 hw0=>?_;refine yU 17 ?_;refine Cj.loop (ι:=Nat×Heap×Gs) (fun y=>y.1≤es.length∧RxS y.2.1 rb es p c∧BL w0.heap.size 2 (KR (NZ n key) (es.take y.1)).length ((KR (NZ n key) (es.take y.1)).flatMap recC) y.2.2) (fun y=>es.length-y.1) (fun y=>[(0,ptr rb 0),(1,str n),(2,str key),(7,gV (KR (NZ n key) (es.take y.1)).length y.2.2),(8,i64 (y.1:Int))]) (fun y=>y.2.1) (fun y=>gH 54 ((KR (NZ n key) (es.take y.1)).flatMap recC) y.2.2) (0,_,none) ⟨Nat.zero_le _,hR,rfl,rfl⟩ ⟨rfl,rfl,rfl,rfl,rfl,trivial⟩ rfl rfl ?_;rintro⟨k,J1,g⟩ ⟨hk,hR,hg⟩;dsimp only at hk hR hg ⊢;have hrb:=hR.1;have hsl:=a5n (NZ n key) (es.take k);rw[List.length_take,Nat.min_eq_left hk]at hsl;refine zK (fun hc1 hc1p=>?_) (fun hc1 hc1p=>?_)
 ·refine yU 5 ?_;have hlt:k<es.length:=by omega
  obtain⟨e0,hget⟩:∃x,es[k]?=some x:=⟨_,BM hlt⟩;have hek:=heok e0 (CX hget);obtain⟨p1,c1,hpe,hc1,hp⟩:=id hR.2.1;cases hpe;obtain⟨eb,eo,ecs,ety,efr,esp,rfl,heb,hed⟩:=hp (zU hlt);have hrec:=hR.2.2 e0 (CX hget);obtain⟨vp0,vc0,hev,-,-⟩:=id hrec.1;have hnx:=a8n (P:=(NZ n key)) hget;refine zW (eo+k*5) ?_;refine J.z (CV (off':=eo+k*5+2) a2R UE) ?_;refine J.z (BJ isAgg57 UE (yZ.LK heb) (a2d hed hget)) ?_;refine AP (a2g e0.fs e0.v e0.k e0.l n hek _ hrec) ?_;intro v2 I3 H4 hle5 hp6;have hR:=hR.mono hle5;have hrb:=hle5 _ _ hrb;have heb:=hle5 _ _ heb;have hrec:=hrec.mono hle5;obtain⟨vv,h,hvals,rfl⟩:=hp6;cases h;obtain⟨pv,cv,rfl⟩:=zS.len hvals;have hvl:(Ix.valsN e0.fs n).length≤1000000:=by have h1:=SH n e0.fs (fun f hf=>(hek.2 f hf).1);have h2:=hek.1;omega
  refine yU 15 ?_;refine Cj.keep Keeps.r ?_;refine Cj.loop (ι:=Nat) (fun j=>j≤(Ix.valsN e0.fs n).length) (fun j=>(Ix.valsN e0.fs n).length-j) (fun j=>[(0,ptr rb 0),(1,str n),(2,str key),(7,gV (KR (NZ n key) (es.take k)).length g),(8,i64 (k:Int)),(9,.slice pv (Ix.valsN e0.fs n).length cv),(10,.bool (((Ix.valsN e0.fs n).take j).any (kIn key))),(11,i64 (j:Int))]) (fun j=>_) (fun j=>gH 54 ((KR (NZ n key) (es.take k)).flatMap recC) g) 0 (Nat.zero_le _) ⟨rfl,rfl,rfl,rfl,rfl,rfl,rfl,rfl,trivial⟩ rfl rfl ?_;intro j hj;refine zK (fun hc7 hc7p=>?_) (fun hc7 hc7p=>?_)
  ·have hjlt:j<(Ix.valsN e0.fs n).length:=by omega
   obtain⟨x,hvget⟩:∃x,(Ix.valsN e0.fs n)[j]?=some x:=⟨_,BM hjlt⟩;have hxt:=a1N hek (CX hvget);obtain⟨p2,c2,hpe2,hc2,hp2⟩:=id hvals;cases hpe2;obtain⟨vb,vo,vcs,vty,vfr,vsp,rfl,hvb,hvd⟩:=hp2 (zU hjlt);refine yU 5 ?_;refine Cj.EX [] [] 13 (by kernel_rfl) ?_;have hrb_10:=hrb;have heb_10:=heb;have hvb_10:=hvb;refine zW (vo+j*2) ?_;refine yU 1 ?_;refine JA.zt 4 rfl (AX rfl rfl CU (yZ.OA hvb_10) (DT OO hvd hvget 0 (by decide))) ?_;refine zW (vo+j*2) ?_;refine JA.zt 8 rfl (CV (off':=vo+j*2+1) a2F DX) ?_;refine JA.zt 9 rfl (AX rfl rfl OG (yZ.OA hvb_10) (DT OO hvd hvget 1 (by decide))) ?_;refine zX (ZQ x.1 _ (by omega) _) ?_;refine zK (fun hc10 hc10p=>?_) (fun hc10 hc10p=>?_)
   ·have hks:kIn key x=true:=decide_eq_true (CO hc10);refine yU 10 ?_;refine Ej.round (j+1) (by omega) (by omega) ⟨rfl,rfl,rfl,rfl,rfl,rfl,by rw[a1B hvget,hks,Bool.or_true];rfl,rfl,trivial⟩ rfl rfl
   have hks:kIn key x=false:=decide_eq_false (CW hc10);refine yU 8 ?_;refine Ej.round (j+1) (by omega) (by omega) ⟨rfl,rfl,rfl,rfl,rfl,rfl,by rw[a1B hvget,hks,Bool.or_false];rfl,rfl,trivial⟩ rfl rfl
  refine FM (fun hg11=>?_) (fun hg11=>?_)
  ·have hfd:a6B n key e0=true:=by have h:=hg11;rw[List.take_of_length_le (by omega)]at h;exact h
   refine zK (fun hc12 hc12p=>?_) (fun hc12 hc12p=>?_)
   ·have hh:(NZ n key) e0=true:=by unfold NZ;rw[hfd,decide_eq_true (bne_iff_ne.1 hc12)];rfl
    rw[if_pos hh]at hnx;refine zW (eo+k*5) ?_;refine yU 1 ?_;refine J.z (BJ IZ EJ (yZ.LK heb) (a0Y hed hget)) ?_;refine yU 1 ?_;intro b13 hb13;refine RD 15 [_] hg ?_;intro g14 hg14;refine yU 9 ?_;refine Ej.keep (Keeps.d Keeps.r) ?_;refine Ej.round (k+1,_,g14) ⟨by dsimp only;omega,hR,by dsimp only;rw[hnx,List.length_append,List.flatMap_append];exact hg14⟩ (by dsimp only;omega) ⟨rfl,rfl,rfl,by dsimp only;rw[hnx,List.length_append];rfl,rfl,trivial⟩ rfl (by dsimp only;rw[hnx,List.flatMap_append];rfl)
   have hh:(NZ n key) e0=false:=by unfold NZ;rw[decide_eq_false (fun g=>g (JR hc12)),Bool.and_false]
   rw[if_neg (fun g=>Bool.noConfusion (g.symm.trans hh))]at hnx;refine yU 8 ?_;refine Ej.round (k+1,_,g) ⟨by dsimp only;omega,hR,by dsimp only;rw[hnx,List.append_nil];exact hg⟩ (by dsimp only;omega) ⟨rfl,rfl,rfl,by dsimp only;rw[hnx,List.append_nil];rfl,rfl,trivial⟩ rfl (by dsimp only;rw[hnx,List.append_nil])
  have hfd:a6B n key e0=false:=by have h:=hg11;rw[List.take_of_length_le (by omega)]at h;exact h
  have hh:(NZ n key) e0=false:=by unfold NZ;rw[hfd];rfl
  rw[if_neg (fun g=>Bool.noConfusion (g.symm.trans hh))]at hnx;refine yU 14 ?_;refine Ej.round (k+1,_,g) ⟨by dsimp only;omega,hR,by dsimp only;rw[hnx,List.append_nil];exact hg⟩ (by dsimp only;omega) ⟨rfl,rfl,rfl,by dsimp only;rw[hnx,List.append_nil];rfl,rfl,trivial⟩ rfl (by dsimp only;rw[hnx,List.append_nil])
 refine yU 12 ?_;have hph:=b3H es n key;rw[List.take_of_length_le (by omega:es.length≤k),hph]at hg ⊢;refine Ej.perm (H':=gH 54 ((Ix.GU (es.map zJ) n key).flatMap recC) g++[]) (.of_eq (List.append_nil _)) ?_;refine Ej.keepR BR (by decide) hg rfl (fun I8 hle8 hw8=>?_);refine zV ?_;exact⟨_,rfl,hw8,rfl⟩
theorem a7E rb es n s (hs:s.length≤100000000) I (hx:VE I rb es):yY Tryz.prog 174 [ptr rb 0,str n,str s] I [] (fun e I' H'=>∃v,e= .returned v∧zS recC I' (Ix.GU (es.map zJ) n (Ix.keyOf n s)) v∧H'=[]):=by
 refine zQ func174 fun w0 hw0=>?_;refine zX (a8F n s hs _) ?_;refine AP (a9Z rb es n (Ix.keyOf n s) _ hx) ?_;intro v1 I2 H3 hle4 hp5;have hx:=hx.mono hle4;obtain⟨vhph,h,hph,rfl⟩:=hp5;cases h;refine zV ?_;exact⟨_,rfl,hph,rfl⟩
end Go.Proofs.YtekmeaoblpfnpaaGreatDoor
end
section
namespace Go.Proofs.YtekmeaoblpfnpaaGreatDoor
open _root_.Go.Proofs.Tryz
open Go Go.Sx
def kOf (b:List UInt8) (x:List UInt8×Nat):List (List UInt8):=if Ke.GI x.1 x.2≠[]∧¬Ke.GI x.1 x.2<b then[Ke.GI x.1 x.2]else[]
def ksP (n b:List UInt8) (es:List FY):List (List UInt8):=es.flatMap fun e=>(Ix.valsN e.fs n).flatMap (kOf b)
theorem b3F b:∀xs:List (List UInt8×Nat),xs.flatMap (kOf b)=((xs.map fun x=>Ke.GI x.1 x.2).filter fun k=>decide (k≠[])).filter fun k=>decide (¬k<b)
  |[]=>rfl
  | x::r=>by
    rw[List.flatMap_cons,b3F b r,List.map_cons,List.filter_cons];unfold kOf
    by_cases h1:Ke.GI x.1 x.2=[]
    · rw[if_neg (fun g=>g.1 h1),if_neg (by simp[h1])];rfl
    rw[if_pos (decide_eq_true h1),List.filter_cons]
    by_cases h2:Ke.GI x.1 x.2<b
    · rw[if_neg (fun g=>g.2 h2),if_neg (fun g=>absurd h2 (ED g))];rfl
    rw[if_pos ⟨h1,h2⟩,if_pos (decide_eq_true h2)];rfl
theorem b9d n b:∀es:List FY,ksP n b es=((es.map zJ).flatMap fun e=>Ix.keysOf n e.2).filter fun k=>decide (¬k<b)
  |[]=>rfl
  | e::r=>by
    have ih:=b9d n b r;unfold ksP at ih ⊢;rw[List.flatMap_cons,ih,List.map_cons,List.flatMap_cons,List.filter_append,b3F]
    congr 2
    unfold Ix.keysOf;rw[←Ix.b0F,List.map_map];rfl
theorem c5c n b es:(ksP n b es).foldl Ke.put []=Ix.EI (es.map zJ) n b:=by rw[b9d];rfl
theorem a0f{α β:Type}(f:α→List β){l:List α}{k x}(h:l[k]?=some x):(l.take (k+1)).flatMap f=(l.take k).flatMap f++f x:=by
  obtain⟨hlt,h⟩:=List.getElem?_eq_some_iff.1 h;rw[List.take_succ_eq_append_getElem hlt,h,List.flatMap_append];simp
theorem a7L b:∀xs:List (List UInt8×Nat),(xs.flatMap (kOf b)).length≤xs.length
  |[]=>Nat.le_refl _
  | x::r=>by
    have:=a7L b r;have h1:(kOf b x).length≤1:=by unfold kOf;split<;>simp
    rw[List.flatMap_cons,List.length_append,List.length_cons];omega
theorem b4f n b:∀es:List FY,(∀e∈es,RH e.fs)→(ksP n b es).length≤es.length*1000000
  |[],_=>by simp[ksP]
  | e::r,h=>by
    have h1:=b4f n b r fun x hx=>h x (.tail _ hx);have he:=h e (.head _);have h2:=a7L b (Ix.valsN e.fs n);have h3:=SH n e.fs fun f hf=>(he.2 f hf).1;have h4:=he.1;unfold ksP at h1 ⊢;rw[List.flatMap_cons,List.length_append,List.length_cons,Nat.add_mul];omega
theorem b7Z(xs:List (List UInt8)):Ke.Inc (xs.foldl Ke.put []):=Ke.a5d xs List.Pairwise.nil
theorem a8g{α:Type}{l:List α}{i:Nat}{most}(h0:(i:Int)≤most∨i=0)(hi:i≤l.length)(h:l.length≤i∨most≤(i:Int)):l.take i=l.take most.toNat:=by
  rcases h with h|h
  · rw[List.take_of_length_le h];rcases h0 with g|g
    · rw[List.take_of_length_le (by omega)]
    subst g;have:l=[]:=List.length_eq_zero_iff.1 (by omega);subst this;simp
  rcases h0 with g|g
  · rw[show most.toNat=i by omega]
  rw[show most.toNat=i by omega]
def lnK (L:Ix.Ix) (n k:List UInt8):List UInt8×Nat:=(k,(Ix.GU L n k).length)
def lnR (L:Ix.Ix) (n:List UInt8) (ks:List (List UInt8)):List (List UInt8×Int):=(ks.map (lnK L n)).map DK
theorem b9i L n {ks:List (List UInt8)}{i k}(h:ks[i]?=some k):lnR L n (ks.take (i+1))=lnR L n (ks.take i)++[DK (lnK L n k)]:=by
  unfold lnR;rw[RV _ h,List.map_append];rfl
theorem c3f L n ks:(lnR L n ks).length=ks.length:=by unfold lnR;rw[List.length_map,List.length_map]
theorem b6D(es:List FY) n k:(Ix.GU (es.map zJ) n k).length≤es.length:=by
  rw[←b3H];exact a5n _ _
theorem c5r{a b:List UInt8}(h:(!decide (a<b))=true):¬a<b:=by simpa using h
theorem c4p{a b:List UInt8}(h:(!decide (a<b))=false):a<b:=by simpa using h
theorem a5C rb es n s (hs:s.length≤100000000) most I (hx:VE I rb es):yY Tryz.prog 177 [ptr rb 0,str n,str s,i64 most] I [] (fun e I' H'=>∃v,e= .returned v∧zS II I' ((Ix.scan (es.map zJ) n s most).map DK) v∧H'=[]):=by
 have hlen:=hx.len;have heok:=hx.eok;obtain⟨p,c,hR⟩:=hx.ex;have hrb:=hR.1;refine zQ func177 fun w0 hw0=>?_;refine zX (a8F n s hs _) ?_;refine yU 15 ?_;refine Cj.loop (ι:=Nat×Heap×Value) (fun y=>y.1≤es.length∧RxS y.2.1 rb es p c∧EY y.2.1 ((ksP n (Ix.keyOf n s) (es.take y.1)).foldl Ke.put []) y.2.2) (fun y=>es.length-y.1) (fun y=>[(0,ptr rb 0),(1,str n),(3,i64 most),(9,str (Ix.keyOf n s)),(10,y.2.2),(11,i64 (y.1:Int))]) (fun y=>y.2.1) (fun y=>[]) (0,_,_) ⟨Nat.zero_le _,hR,⟨none,0,rfl,Nat.le_refl _,fun h=>absurd rfl h⟩⟩ ⟨rfl,rfl,rfl,rfl,rfl,rfl,trivial⟩ rfl rfl ?_;rintro⟨k,J1,w⟩ ⟨hk,hR,hv⟩;dsimp only at hk hR hv ⊢;have hrb:=hR.1;have hkl:=b4f n (Ix.keyOf n s) (es.take k) (fun e he=>heok e (List.mem_of_mem_take he));rw[List.length_take,Nat.min_eq_left hk]at hkl;refine zK (fun hc1 hc1p=>?_) (fun hc1 hc1p=>?_)
 ·refine yU 5 ?_;have hlt:k<es.length:=by omega
  obtain⟨e0,hget⟩:∃x,es[k]?=some x:=⟨_,BM hlt⟩;have hek:=heok e0 (CX hget);obtain⟨p1,c1,hpe,hc1,hp⟩:=id hR.2.1;cases hpe;obtain⟨eb,eo,ecs,ety,efr,esp,rfl,heb,hed⟩:=hp (zU hlt);have hrec:=hR.2.2 e0 (CX hget);obtain⟨vp0,vc0,hev,-,-⟩:=id hrec.1;have hnx:ksP n (Ix.keyOf n s) (es.take (k+1))=ksP n (Ix.keyOf n s) (es.take k)++(Ix.valsN e0.fs n).flatMap (kOf (Ix.keyOf n s)):=a0f _ hget;refine zW (eo+k*5) ?_;refine J.z (CV (off':=eo+k*5+2) a2R UE) ?_;refine J.z (BJ isAgg57 UE (yZ.LK heb) (a2d hed hget)) ?_;refine AP (a2g e0.fs e0.v e0.k e0.l n hek _ hrec) ?_;intro v2 I3 H4 hle5 hp6;have hR:=hR.mono hle5;have hrb:=hle5 _ _ hrb;have hv:=hv.mono hle5;have heb:=hle5 _ _ heb;have hrec:=hrec.mono hle5;obtain⟨vv,h,hvals,rfl⟩:=hp6;cases h;obtain⟨pv,cv,rfl⟩:=zS.len hvals;have hvl:(Ix.valsN e0.fs n).length≤1000000:=by have h1:=SH n e0.fs (fun f hf=>(hek.2 f hf).1);have h2:=hek.1;omega
  refine yU 9 ?_;refine Cj.loop (ι:=Nat×Heap×Value) (fun y=>y.1≤(Ix.valsN e0.fs n).length∧Le I3 y.2.1∧EY y.2.1 ((ksP n (Ix.keyOf n s) (es.take k)++((Ix.valsN e0.fs n).take y.1).flatMap (kOf (Ix.keyOf n s))).foldl Ke.put []) y.2.2) (fun y=>(Ix.valsN e0.fs n).length-y.1) (fun y=>[(0,ptr rb 0),(1,str n),(3,i64 most),(9,str (Ix.keyOf n s)),(10,y.2.2),(11,i64 (k:Int)),(12,.slice pv (Ix.valsN e0.fs n).length cv),(13,i64 (y.1:Int))]) (fun y=>y.2.1) (fun y=>[]) (0,_,_) ⟨Nat.zero_le _,Le.refl _,by dsimp only;rw[List.take_zero,List.flatMap_nil,List.append_nil];exact hv⟩ ⟨rfl,rfl,rfl,rfl,rfl,rfl,rfl,rfl,trivial⟩ rfl rfl ?_;rintro⟨j,J2,w2⟩ ⟨hj,hIJ,hv⟩;dsimp only at hj hIJ hv ⊢;have hR:=hR.mono hIJ;have hrb:=hR.1;have hvals:=hvals.mono hIJ;have hrl:=VQ (ksP n (Ix.keyOf n s) (es.take k)++((Ix.valsN e0.fs n).take j).flatMap (kOf (Ix.keyOf n s))) [];have hr2:=a7L (Ix.keyOf n s) ((Ix.valsN e0.fs n).take j);rw[List.length_take,Nat.min_eq_left hj]at hr2;rw[List.length_append,List.length_nil]at hrl;refine zK (fun hc7 hc7p=>?_) (fun hc7 hc7p=>?_)
  ·have hjlt:j<(Ix.valsN e0.fs n).length:=by omega
   obtain⟨x,hvget⟩:∃x,(Ix.valsN e0.fs n)[j]?=some x:=⟨_,BM hjlt⟩;have hxt:=a1N hek (CX hvget);have hvn:=a0f (kOf (Ix.keyOf n s)) hvget;obtain⟨p2,c2,hpe2,hc2,hp2⟩:=id hvals;cases hpe2;obtain⟨vb,vo,vcs,vty,vfr,vsp,rfl,hvb,hvd⟩:=hp2 (zU hjlt);refine yU 5 ?_;refine Cj.EX [] [] 12 (by kernel_rfl) ?_;have hrb_10:=hrb;have heb_10:=heb;have hvb_10:=hvb;refine zW (vo+j*2) ?_;refine yU 1 ?_;refine JA.zt 4 rfl (AX rfl rfl CU (yZ.OA hvb_10) (DT OO hvd hvget 0 (by decide))) ?_;refine zW (vo+j*2) ?_;refine JA.zt 8 rfl (CV (off':=vo+j*2+1) a2F DX) ?_;refine JA.zt 9 rfl (AX rfl rfl OG (yZ.OA hvb_10) (DT OO hvd hvget 1 (by decide))) ?_;refine zX (ZQ x.1 _ (by omega) _) ?_;refine EK (fun hg10 hg10p=>?_) (fun hg10 hg10p=>?_)
   ·have hk1:Ke.GI x.1 x.2≠[]:=bne_iff_ne.1 hg10;refine yU 2 ?_;refine J.zg (a3l rfl rfl rfl) ?_;refine DI (fun hc11=>?_) (fun hc11=>?_)
    ·have hko:kOf (Ix.keyOf n s) x=[Ke.GI x.1 x.2]:=if_pos ⟨hk1,c5r hc11⟩;refine AP (c4x _ _ (Ke.GI x.1 x.2) (b7Z _) (by omega) _ hv) ?_;intro v12 I13 H14 hle15 hp16;have hIJ:=hIJ.mono hle15;have hR:=hR.mono hle15;have hrb:=hle15 _ _ hrb;have hv:=hv.mono hle15;have hvals:=hvals.mono hle15;have hvb:=hle15 _ _ hvb;obtain⟨wv,h,hv2,rfl⟩:=hp16;cases h;replace hv:=hv2;refine yU 9 ?_;refine Ej.round (j+1,_,_) ⟨by dsimp only;omega,hIJ,by dsimp only;rw[hvn,hko,←List.append_assoc,c0U];exact hv⟩ (by dsimp only;omega) ⟨rfl,rfl,rfl,rfl,rfl,rfl,rfl,rfl,trivial⟩ rfl rfl
    have hko:kOf (Ix.keyOf n s) x=[]:=if_neg (fun g=>g.2 (c4p hc11));refine yU 8 ?_;refine Ej.round (j+1,_,_) ⟨by dsimp only;omega,hIJ,by dsimp only;rw[hvn,hko,List.append_nil];exact hv⟩ (by dsimp only;omega) ⟨rfl,rfl,rfl,rfl,rfl,rfl,rfl,rfl,trivial⟩ rfl rfl
   have hko:kOf (Ix.keyOf n s) x=[]:=if_neg (fun g=>g.1 (JR hg10));refine yU 15 ?_;refine Ej.round (j+1,_,_) ⟨by dsimp only;omega,hIJ,by dsimp only;rw[hvn,hko,List.append_nil];exact hv⟩ (by dsimp only;omega) ⟨rfl,rfl,rfl,rfl,rfl,rfl,rfl,rfl,trivial⟩ rfl rfl
  refine yU 11 ?_;refine Ej.round (k+1,_,_) ⟨by dsimp only;omega,hR,by dsimp only;rw[hnx];rw[List.take_of_length_le (show(Ix.valsN e0.fs n).length≤j by omega)]at hv;exact hv⟩ (by dsimp only;omega) ⟨rfl,rfl,rfl,rfl,rfl,rfl,trivial⟩ rfl rfl
 refine yU 6 ?_;have hfull:es.take k=es:=List.take_of_length_le (by omega);rw[hfull]at hv hkl;have hkpl:=VQ (ksP n (Ix.keyOf n s) es) [];rw[List.length_nil]at hkpl;obtain⟨ks,hks⟩:∃ks,ks=(ksP n (Ix.keyOf n s) es).foldl Ke.put []:=⟨_,rfl⟩;rw[←hks]at hv hkpl;obtain⟨pk,ck,rfl⟩:=EY.len hv;have hkall:ks=Ix.EI (es.map zJ) n (Ix.keyOf n s):=hks.trans (c5c n (Ix.keyOf n s) es);have hx1:VE J1 rb es:=⟨⟨p,c,hR⟩,hlen,heok,hx.GY⟩;refine yU 11 ?_;refine Cj.loop (ι:=Nat×Heap×Gs) (fun y=>y.1≤ks.length∧((y.1:Int)≤most∨y.1=0)∧Le J1 y.2.1∧BL w0.heap.size 2 (lnR (es.map zJ) n (ks.take y.1)).length ((lnR (es.map zJ) n (ks.take y.1)).flatMap II) y.2.2) (fun y=>ks.length-y.1) (fun y=>[(0,ptr rb 0),(1,str n),(3,i64 most),(10,.slice pk ks.length ck),(15,gV (lnR (es.map zJ) n (ks.take y.1)).length y.2.2),(16,i64 (y.1:Int))]) (fun y=>y.2.1) (fun y=>gH 268 ((lnR (es.map zJ) n (ks.take y.1)).flatMap II) y.2.2) (0,_,none) ⟨Nat.zero_le _,.inr rfl,Le.refl _,rfl,rfl⟩ ⟨rfl,rfl,rfl,rfl,rfl,rfl,trivial⟩ rfl rfl ?_;rintro⟨i,J3,g⟩ ⟨hi,hi0,hIJ,hg⟩;dsimp only at hi hi0 hIJ hg ⊢;have hx:=hx1.mono hIJ;have hv:=hv.mono hIJ;have hll:=c3f (es.map zJ) n (ks.take i);rw[List.length_take,Nat.min_eq_left hi]at hll;refine EK (fun hg18 hg18p=>?_) (fun hg18 hg18p=>?_)
 ·have hilt:i<ks.length:=by omega
  obtain⟨x,hkget⟩:∃x,ks[i]?=some x:=⟨_,BM hilt⟩;have hnl:=b9i (es.map zJ) n hkget;have hwl:=b6D es n x;obtain⟨p3,c3,hpe3,hc3,hp3⟩:=id hv;cases hpe3;obtain⟨kb,ko,kcs,kty,kfr,ksp,rfl,hkb,hkd⟩:=hp3 (zU hilt);refine zK (fun hc19 hc19p=>?_) (fun hc19 hc19p=>?_)
  ·refine yU 4 ?_;refine Cj.EX [] [] 17 (by kernel_rfl) ?_;have hrb_17:=hrb;have hkb_17:=hkb;refine zW (ko+i) ?_;refine JA.zt 4 rfl (DU CU (yZ.OA hkb_17) (JV hkd hkget)) ?_;refine zW (ko+i) ?_;refine JA.zt 10 rfl (DU CU (yZ.OA hkb_17) (JV hkd hkget)) ?_;refine AP (a9Z rb es n x _ hx) ?_;intro v21 I22 H23 hle24 hp25;have hIJ:=hIJ.mono hle24;have hv:=hv.mono hle24;have hx:=hx.mono hle24;have hkb:=hle24 _ _ hkb;obtain⟨vv,h,hph,rfl⟩:=hp25;cases h;obtain⟨pw,cw,rfl⟩:=zS.len hph;refine⟨⟨(Le.trans (Le.refl _) hle24),HSub.n,CSub.n⟩,?_⟩;refine JA.fix AO (fun fx26=>?_);refine JA.tk 12 rfl fx26 (RJ rfl rfl a0J) ?_;refine JA.tk 13 rfl fx26 (zN (pl:= #[(0,1),(1,1)]) rfl rfl a3S rfl c2u (fun w=>by simp[DX,AV]) (FB.part rfl rfl rfl (AL.c AL.z) (FB.part rfl rfl rfl (AL.s (AL.c AL.z)) FB.none))) ?_;refine zO 14 rfl (ER UR UL a3S (EH.agg rfl EH.none) ?_);intro b27 hb27;refine⟨⟨(Le.trans (Le.refl _) hle24),HSub.n,CSub.n⟩,?_⟩;refine zO 15 rfl (AQ (by':=23) [_] rfl rfl rfl rfl rfl UR (.inr ⟨_,UR⟩) (by kernel_rfl) UL a3S rfl hg rfl (Src.slice (yZ.at 0 rfl) rfl rfl rfl) (by omega) ?_);intro g28 hg28;refine yU 10 ?_;refine Ej.keep (Keeps.d Keeps.r) ?_;refine Ej.round (i+1,_,g28) ⟨by dsimp only;omega,.inl (by dsimp only;omega),hIJ,by dsimp only;rw[hnl,List.length_append,List.flatMap_append];exact hg28⟩ (by dsimp only;omega) ⟨rfl,rfl,rfl,rfl,by dsimp only;rw[hnl,List.length_append];rfl,rfl,trivial⟩ rfl (by dsimp only;rw[hnl,List.flatMap_append];rfl)
  refine yU 12 ?_;have htk:=a8g hi0 hi (.inr (by omega));have hsc:lnR (es.map zJ) n (ks.take i)=(Ix.scan (es.map zJ) n s most).map DK:=by rw[htk,hkall];rfl
  rw[hsc]at hg ⊢;refine Ej.perm (H':=gH 268 (((Ix.scan (es.map zJ) n s most).map DK).flatMap II) g++[]) (.of_eq (List.append_nil _)) ?_;refine Ej.keepR IX (by decide) hg rfl (fun I8 hle8 hw8=>?_);refine zV ?_;exact⟨_,rfl,hw8,rfl⟩
 refine yU 19 ?_;have htk:=a8g hi0 hi (.inl (by omega));have hsc:lnR (es.map zJ) n (ks.take i)=(Ix.scan (es.map zJ) n s most).map DK:=by rw[htk,hkall];rfl
 rw[hsc]at hg ⊢;refine Ej.perm (H':=gH 268 (((Ix.scan (es.map zJ) n s most).map DK).flatMap II) g++[]) (.of_eq (List.append_nil _)) ?_;refine Ej.keepR IX (by decide) hg rfl (fun I8 hle8 hw8=>?_);refine zV ?_;exact⟨_,rfl,hw8,rfl⟩
end Go.Proofs.YtekmeaoblpfnpaaGreatDoor
end
namespace Ke
def b5H (f:LV):LV:={ f with sv:= .slice none 0 0 }
def nrm (fs:List LV):List LV:=fs.map b5H
end Ke
namespace Go.Sx
open Go
theorem Ready.dom{I H w}(h:Ready I H w){b}(hb:w.heap.size≤b):I b=none:=by
  cases hI:I b with
  |none=>rfl
  | some o=>
    have:=h.1 b o hI;rw[Array.getElem?_eq_none hb]at this;cases this
section
variable {cx:Cx} {Q:Qt} {e:Env} {I:Heap} {H:HL}
end
section
variable {cx:Cx} {Q:Qt} {e:Env} {I:Heap} {H:HL}
end
def LU {α:Type} (N:Nat→Prop) (T:TypeId) (f:α→List Value) (I:Heap) (l:List α) (v:Value):Prop:=
  ∃p c,v= .slice p l.length c∧l.length≤c∧(l≠[]→∃b sp,p=some ⟨b,0,none⟩∧N b∧I b=some (yX T (l.flatMap f++sp)))
section
variable {α:Type} {N M:Nat→Prop} {T:TypeId} {f:α→List Value} {I I':Heap} {l:List α} {v:Value}
theorem LU.mono(h:LU N T f I l v)(hle:Le I I'):LU N T f I' l v:=
  let ⟨p,c,h1,h2,h3⟩:=h;⟨p,c,h1,h2,fun hn=>let ⟨b,sp,h4,h5,h6⟩:=h3 hn;⟨b,sp,h4,h5,hle _ _ h6⟩⟩
theorem LU.imp(h:LU N T f I l v)(hm:∀b,N b→M b):LU M T f I l v:=
  let ⟨p,c,h1,h2,h3⟩:=h;⟨p,c,h1,h2,fun hn=>let ⟨b,sp,h4,h5,h6⟩:=h3 hn;⟨b,sp,h4,hm b h5,h6⟩⟩
theorem LU.rowT(h:LU N T f I l v):PU T f I l v:=
  let ⟨p,c,h1,h2,h3⟩:=h;⟨p,c,h1,h2,fun hn=>let ⟨b,sp,h4,_,h6⟩:=h3 hn;⟨b,sp,h4,h6⟩⟩
theorem LU.row(h:LU N T f I l v):zS f I l v:=h.rowT.row
theorem LU.nil:LU N T f I ([]:List α) (.slice none 0 0):=⟨none,0,rfl,Nat.le_refl _,fun h=>absurd rfl h⟩
end
section
variable {cx:Cx} {Q:Qt} {e:Env} {I:Heap} {R:HL} {T:TypeId} {α:Type} {l:List α} {f:α→List Value} {sz n base:Nat} {g:Gs}
theorem b1K{X:Heap→HL→Prop}(hf:∀x,(f x).length=sz)(hpos:0<sz)(hg:BL base sz n (l.flatMap f) g)(hn:n=l.length)(hp:∀b o,base≤b→(∀I',Le I I'→I' b=some o→X I' R)→X I ((b,o)::R))(k:∀I',Le I I'→LU (base≤·) T f I' l (gV n g)→X I' R):X I (gH T (l.flatMap f) g++R):=by
  subst hn;cases g with
  | none=>
    obtain⟨h1,h2⟩:=hg;have:l=[]:=List.length_eq_zero_iff.1 h1;subst this;exact k I (Le.refl _) LU.nil
  | some q=>
    obtain⟨b,c,sp⟩:=q;obtain⟨h1,h2,h3⟩:=hg;have hc:l.length≤c:=by
      rw[DN hf]at h3;exact Nat.le_of_mul_le_mul_right (by omega:l.length*sz≤c*sz) hpos
    exact hp b _ h1 fun I' hle hb=>k I' hle ⟨_,c,rfl,hc,fun _=>⟨b,sp,rfl,h1,hb⟩⟩
theorem Cj.a9K{c}(hf:∀x,(f x).length=sz)(hpos:0<sz)(hg:BL cx.w0.heap.size sz n (l.flatMap f) g)(hn:n=l.length)(k:∀I',Le I I'→LU (cx.w0.heap.size≤·) T f I' l (gV n g)→Cj cx Q c e I' R):Cj cx Q c e I (gH T (l.flatMap f) g++R):=
  b1K (X:=fun I H=>Cj cx Q c e I H) hf hpos hg hn (fun _ _ hb k=>Cj.persist hb k) k
theorem Ej.a9K{x}(hf:∀x,(f x).length=sz)(hpos:0<sz)(hg:BL cx.w0.heap.size sz n (l.flatMap f) g)(hn:n=l.length)(k:∀I',Le I I'→LU (cx.w0.heap.size≤·) T f I' l (gV n g)→Ej cx Q x e I' R):Ej cx Q x e I (gH T (l.flatMap f) g++R):=
  b1K (X:=fun I H=>Ej cx Q x e I H) hf hpos hg hn (fun _ _ hb k=>Ej.persist hb k) k
end
section
variable {cx:Cx} {Q:Qt} {e:Env} {I I1:Heap} {H A:HL} {Z:CL} {z:Nat} {l:List Oper} {fuel:Nat} {listed:Array Bool}
end
section
variable {cx:Cx} {Q:Qt} {e:Env} {I I1:Heap} {R H1 A:HL} {Z:CL} {z:Nat} {ops:List Oper} {fuel:Nat} {listed:Array Bool} {T:TypeId} {α:Type} {l:List α} {f:α→List Value} {v:Value} {sz n:Nat} {g:Gs}
theorem JA.a1A(h:SB T f l v H1)(hb:∀p∈H1,cx.w0.heap.size≤p.1)(k:∀I',Le I I'→PU T f I' l v→JA cx Q ops I1 A Z z fuel listed e I' R):JA cx Q ops I1 A Z z fuel listed e I (H1++R):=
  a9g (X:=fun I H=>JA cx Q ops I1 A Z z fuel listed e I H) h hb (fun _ _ hb k=>JA.persist hb k) k
end
end Go.Sx
section
namespace Go.Proofs.YtekmeaoblpfnpaaGreatDoor
open _root_.Go.Proofs.Tryz
open Go Go.Sx
def In64 (a:Int):Prop:= -9223372036854775808≤a∧a≤9223372036854775807
theorem b8E{a}(h:In64 a) m (hm:2≤m): -4611686018427387904≤a.tdiv m∧a.tdiv m≤4611686018427387904:=by
  unfold In64 at h;have h1:(a.tdiv m).natAbs=a.natAbs / m.natAbs:=Int.natAbs_tdiv a m;have h2:a.natAbs / m.natAbs≤a.natAbs / 2:=Nat.div_le_div_left (by omega) (by decide);omega
theorem a8w{j:Nat}{m}(hj:j≤3)(h0:0≤m)(h1:m≤2):0≤(j:Int)*(1+m)∧(j:Int)*(1+m)≤9:=by
  match j,hj with
  |0,_=>simp
  |1,_=>simp;omega
  |2,_=>simp;omega
  |3,_=>simp;omega
abbrev QA (q:Ix.Four):List Value:=[i64 q.x0,i64 q.x1,i64 q.x2,i64 q.x3]
theorem b6B q:(QA q).length=4:=rfl
structure UD (q:Ix.Four):Prop where
  h0:In64 q.x0
  h1:In64 q.x1
  h2:In64 q.x2
  h3:In64 q.x3
theorem a7H{l:List (List UInt8)}{n}(h0:0≤n)(h1:n<(l.length:Int)):(l.map str)[n.toNat]?=some (str (l.getD n.toNat [])):=by
  have h2:n.toNat<l.length:=by omega
  rw[List.getElem?_map,BM h2,List.getD_eq_getElem?_getD,BM h2];rfl
theorem b9w{l:List UInt8}{n}(h0:0≤n)(h1:n<(l.length:Int)):l[n.toNat]?=some (l.getD n.toNat 0):=by
  have h2:n.toNat<l.length:=by omega
  rw[BM h2,List.getD_eq_getElem?_getD,BM h2];rfl
theorem b4w fs f:Ke.nrm (fs++[f])=Ke.nrm fs++[Ke.b5H f]:=by unfold Ke.nrm;rw[List.map_append];rfl
theorem c4z fs:(Ke.nrm fs).length=fs.length:=List.length_map _
theorem a5o fs:Ix.vals (Ke.nrm fs)=Ix.vals fs:=by
  unfold Ix.vals Ke.nrm;rw[List.flatMap_map];rfl
def OD (q:Ix.Four) (n:Nat):List Ke.Sub:=(List.range n).map fun j=>Ix.b5q q j
theorem a1K q n:OD q (n+1)=OD q n++[Ix.b5q q n]:=by unfold OD;rw[List.range_succ,List.map_append];rfl
theorem a8p q n:(OD q n).length=n:=by unfold OD;rw[List.length_map,List.length_range]
theorem c2n{q}(h:Ix.isC (Ix.VO q.x0)):Ix.a4R q=⟨Ix.VO q.x0,[],Ix.a2s q.x3,.slice none 0 0,[]⟩:=if_pos h
theorem c2w{q}(h:¬Ix.isC (Ix.VO q.x0)):Ix.a4R q=⟨Ix.VO q.x0,Ix.a1M.getD (q.x1 % 8).toNat [],[],.slice none 0 0,OD q (1+(q.x2 % 3).toNat)⟩:=if_neg h
theorem c0u n:(Ix.VO n).length≤3:=by
  unfold Ix.VO;generalize (n % 20).toNat=k;rcases Nat.lt_or_ge k 20 with h|h
  · have:∀k,k<20→(Ix.a5X.getD k []).length≤3:=by decide
    exact this k h
  rw[List.getD_eq_getElem?_getD,List.getElem?_eq_none (by simpa[Ix.a5X]using h)];simp
theorem c0O n:(Ix.a1M.getD n []).length≤2:=by
  rcases Nat.lt_or_ge n 8 with h|h
  · have:∀k,k<8→(Ix.a1M.getD k []).length≤2:=by decide
    exact this n h
  rw[List.getD_eq_getElem?_getD,List.getElem?_eq_none (by simpa[Ix.a1M]using h)];simp
theorem b5s q:(Ix.a4R q).subs.length≤3∧CZ (Ix.a4R q).subs≤51∧(Ix.a4R q).ind.length≤2:=by
  by_cases h:Ix.isC (Ix.VO q.x0)
  · rw[c2n h];exact⟨by simp,by simp[CZ],by simp⟩
  rw[c2w h];refine⟨by dsimp only;rw[a8p];omega,?_,c0O _⟩;dsimp only;have hn:∀n,CZ (OD q n)≤n*17:=by
    intro n
    induction n with
    |zero=>simp[CZ,OD]
    | succ n ih=>
      rw[a1K];unfold CZ at ih ⊢;rw[List.map_append,List.sum_append];have h1:(Ix.b5q q n).text.length≤17:=Ix.b6S _;simp only[List.map_cons,List.map_nil,List.sum_cons,List.sum_nil];omega
  have:=hn (1+(q.x2 % 3).toNat);omega
theorem a9W{l fs}(h:Ke.nrm fs=Ix.WL l):RH fs:=by
  have hl:fs.length≤20:=by
    rw[←c4z,h];unfold Ix.WL;rw[List.length_map,List.length_take];omega
  refine⟨by omega,fun f hf=>?_⟩;have h1:Ke.b5H f∈Ix.WL l:=by rw[←h];exact List.mem_map_of_mem hf
  obtain⟨q,_,he⟩:=List.mem_map.1 h1;have h2:=b5s q;rw[he]at h2;exact⟨by have:f.subs.length≤3:=h2.1;omega,by have:CZ f.subs≤51:=h2.2.1;omega,by have:f.ind.length≤2:=h2.2.2;omega⟩
theorem b5P{α:Type}(A S Z:List α):(S++(A++Z)).Perm (A++(S++Z)):=by
  rw[←List.append_assoc,←List.append_assoc];exact List.Perm.append_right Z List.perm_append_comm
def a1R (N:Nat→Prop) (I:Heap) (fs:List Ke.LV) (v:Value):Prop:=LU N 108 FZ I fs v∧∀f∈fs,LU N 176 MQ I f.subs f.sv
theorem a1R.imp{N M:Nat→Prop}{I fs v}(h:a1R N I fs v)(hm:∀b,N b→M b):a1R M I fs v:=⟨h.1.imp hm,fun f hf=>(h.2 f hf).imp hm⟩
theorem a1R.rec{N:Nat→Prop}{I fs v}(h:a1R N I fs v):QX I fs v:=⟨h.1.row,fun f hf=>(h.2 f hf).row⟩
def RQ (N:Nat→Prop) (I:Heap) (fs:List Ke.LV):Prop:=∀f∈fs,LU N 176 MQ I f.subs f.sv
theorem RQ.mono{N:Nat→Prop}{I I' fs}(h:RQ N I fs)(hle:Le I I'):RQ N I' fs:=fun f hf=>(h f hf).mono hle
theorem RQ.nil{N:Nat→Prop}{I}:RQ N I []:=fun _ h=>by cases h
theorem RQ.add{N:Nat→Prop}{I fs f}(h:RQ N I fs)(h1:LU N 176 MQ I f.subs f.sv):RQ N I (fs++[f]):=fun x hx=>by
  rcases List.mem_append.1 hx with g|g
  · exact h x g
  rw[List.mem_singleton.1 g];exact h1
theorem YK n m (hm:0<m)(hm2:m≤1000000000) I:Pure Tryz.prog 141 [i64 n,i64 m] I (i64 (n % m)):=by
 have h1:=Int.tmod_lt_of_pos n hm;have h2:=Int.lt_tmod_of_pos n hm;refine zQ func141 fun w0 hw0=>?_;refine yU 14 ?_;refine J.ev 11 (i64 (n % m)) rfl (congrArg i64 (mod_eq n hm)) ?_;refine zV ?_;exact⟨rfl,rfl,rfl⟩
theorem c3q n I:Pure Tryz.prog 139 [i64 n] I (str (Ix.VO n)):=by
 refine yY.toPure ?_;refine zQ func139 fun w0 hw0=>?_;refine yU 8 ?_;intro b1 hb1;refine zX (YK n 20 (by decide) (by decide) _) ?_;refine zW ((n % 20).toNat) ?_;refine J.z (AX rfl rfl CU (yZ.at 0 rfl) (a7H (l:=Ix.a5X) (by omega) (by simp[Ix.a5X];omega))) ?_;refine AB ?_;exact⟨rfl,rfl⟩
theorem b2A n I:Pure Tryz.prog 140 [i64 n] I (str (Ix.a2s n)):=by
 refine yY.toPure ?_;refine zQ func140 fun w0 hw0=>?_;refine yU 8 ?_;intro b1 hb1;refine zX (YK n 20 (by decide) (by decide) _) ?_;refine zW ((n % 20).toNat) ?_;refine J.z (AX rfl rfl CU (yZ.at 0 rfl) (a7H (l:=Ix.a2E) (by omega) (by simp[Ix.a2E];omega))) ?_;refine AB ?_;exact⟨rfl,rfl⟩
theorem WS{α:Type}{l:List α}{k}(hk:k≤l.length)(h:k≤20∧(l.length≤k∨20≤k)):l.take k=l.take 20:=by
  rcases h.2 with g|g
  · rw[List.take_of_length_le g,List.take_of_length_le (by omega)]
  rw[show k=20 by omega]
theorem b6x l v (hok:∀q∈l,UD q) I (hv0:zS QA I l v):yY Tryz.prog 87 [v] I [] (fun e I' H'=>∃fs w,e= .returned (a7w 97 109 w)∧a1R (I · =none) I' fs w∧Ke.nrm fs=Ix.WL l∧H'=[]):=by
 obtain⟨p,c,rfl,hc,-⟩:=id hv0;refine zQ func87 fun w0 hw0=>?_;refine yU 3 ?_;intro b1 hb1;refine J.QT (J.z (zN (pl:= #[(0,1),(1,1),(2,1)]) rfl rfl zeroValue57 rfl underlying57 (fun w=>by simp[tS5,sizeOf55]) (FB.part rfl rfl rfl (AL.c AL.z) (FB.part rfl rfl rfl (AL.s (AL.c AL.z)) FB.none))) ?_);refine J.op rfl (FV zeroValue57 ?_);intro b2 hb2;refine J.op rfl (BZ 0 UE (AL.c (AL.c (AL.c AL.z))) AU.z ?_);refine J.a0S (Cj.region (J.z EP ?_));refine J.ns (Cj.block ?_);refine Cj.loop (ι:=Nat×Heap×List Ke.LV×Gs) (fun y=>y.1≤l.length∧y.1≤20∧Le I y.2.1∧RQ (w0.heap.size≤·) y.2.1 y.2.2.1∧Ke.nrm y.2.2.1=(l.take y.1).map Ix.a4R∧y.2.2.1.length=y.1∧BL w0.heap.size 4 y.2.2.1.length (y.2.2.1.flatMap FZ) y.2.2.2) (fun y=>20-y.1) (fun y=>[(0,.slice p l.length c),(2,ptr b1 0),(3,ptr b2 0),(4,i64 (y.1:Int))]) (fun y=>y.2.1) (fun y=>(b2,yX 57 [u8 97,u8 109,gV y.2.2.1.length y.2.2.2])::(b1,yX 57 [u8 0,u8 0,.slice none 0 0])::gH 108 (y.2.2.1.flatMap FZ) y.2.2.2) (0,_,[],none) ⟨Nat.zero_le _,Nat.zero_le _,Le.refl _,RQ.nil,rfl,rfl,rfl,rfl⟩ ⟨rfl,rfl,rfl,rfl,trivial⟩ rfl rfl ?_;rintro⟨k,Jh,fs,g⟩ ⟨hk,hk20,hIJ,hS,hN,hfl,hg⟩;dsimp only at hk hk20 hIJ hS hN hfl hg ⊢;have hv:=hv0.mono hIJ;refine EK (fun hg3 hg3p=>?_) (fun hg3 hg3p=>?_)
 ·refine zK (fun hc4 hc4p=>?_) (fun hc4 hc4p=>?_)
  ·refine yU 5 ?_;have hlt:k<l.length:=by omega
   have hlt2:k<20:=by omega
   obtain⟨q,hget⟩:∃x,l[k]?=some x:=⟨_,BM hlt⟩;have hq:=hok q (CX hget);obtain⟨p1,c1,hpe,hc1,hp⟩:=id hv;cases hpe;obtain⟨lb,lo,lcs,lty,lfr,sp,rfl,hlb,hld⟩:=hp (zU hlt);have htl:=c0u q.x0;refine zW (lo+k*4) ?_;refine J.z (BJ isAgg215 sizeOf215 (yZ.LK hlb) (BF b6B hld hget)) ?_;refine yU 1 ?_;intro b5 hb5;refine zX (c3q q.x0 _) ?_;refine J.z (zN (pl:= #[(0,1),(1,1),(2,1),(3,1)]) rfl rfl a1q rfl underlying108 (fun w=>by simp[sizeOf106,AV]) (FB.part rfl rfl rfl (AL.c AL.z) FB.none)) ?_;refine J.op rfl (FV a1q ?_);intro b6 hb6;refine J.op rfl (BZ 0 WO (AL.c (AL.c (AL.c (AL.c AL.z)))) AU.z ?_);refine J.ns ?_;refine Cj.join (ι:=Unit) (fun _=>¬Ix.isC (Ix.VO q.x0)) (fun _=>[(0,.slice (some ⟨lb,lo,none⟩) l.length c),(2,ptr b1 0),(3,ptr b2 0),(4,i64 (k:Int)),(5,ptr b5 0),(6,ptr b6 0)]) (fun _=>Jh) (fun _=>(b6,yX 108 [str (Ix.VO q.x0),str [],str [],.slice none 0 0])::(b5,yX 215 (QA q))::(b2,yX 57 [u8 97,u8 109,gV fs.length g])::(b1,yX 57 [u8 0,u8 0,.slice none 0 0])::gH 108 (fs.flatMap FZ) g) ?_ (fun hcut=>?_)
   ·rintro _ hC;refine yU 3 ?_;intro b7 hb7;refine zX (YK q.x1 8 (by decide) (by decide) _) ?_;refine zW ((q.x1 % 8).toNat) ?_;refine J.z (AX rfl rfl CU (yZ.at 0 rfl) (a7H (l:=Ix.a1M) (by omega) (by simp[Ix.a1M];omega))) ?_;refine yU 5 ?_;obtain⟨nn,hnn⟩:∃nn:Nat,nn=1+(q.x2 % 3).toNat:=⟨_,rfl⟩;have hn3:nn≤3:=by omega
    refine zX (YK q.x2 3 (by decide) (by decide) _) ?_;refine yU 1 ?_;refine J.ev 58 (i64 (nn:Int)) rfl (congrArg i64 (by omega)) ?_;refine yU 5 ?_;refine Cj.keep (Keeps.d Keeps.r) ?_;refine yU 5 ?_;refine Cj.keep (Keeps.k (Keeps.k (Keeps.k (Keeps.k Keeps.r)))) ?_;refine Cj.loop (ι:=Nat×Gs) (fun y=>y.1≤nn∧BL w0.heap.size 2 (OD q y.1).length ((OD q y.1).flatMap MQ) y.2) (fun y=>nn-y.1) (fun y=>[(0,.slice (some ⟨lb,lo,none⟩) l.length c),(2,ptr b1 0),(3,ptr b2 0),(4,i64 (k:Int)),(5,ptr b5 0),(6,ptr b6 0),(7,i64 (nn:Int)),(8,i64 (y.1:Int))]) (fun y=>_) (fun y=>(b6,yX 108 [str (Ix.VO q.x0),str (Ix.a1M.getD (q.x1 % 8).toNat []),str [],gV (OD q y.1).length y.2])::(b5,yX 215 (QA q))::(b2,yX 57 [u8 97,u8 109,gV fs.length g])::(b1,yX 57 [u8 0,u8 0,.slice none 0 0])::(gH 176 ((OD q y.1).flatMap MQ) y.2++gH 108 (fs.flatMap FZ) g)) (0,none) ⟨Nat.zero_le _,rfl,rfl⟩ ⟨rfl,rfl,rfl,rfl,rfl,rfl,rfl,rfl,trivial⟩ rfl rfl ?_;rintro⟨j,g2⟩ ⟨hj,hgs⟩;dsimp only at hj hgs ⊢;have hsl:=a8p q j;refine zK (fun hc8 hc8p=>?_) (fun hc8 hc8p=>?_)
    ·refine yU 4 ?_;refine Cj.EX [0,1,2,3] [] 24 (by kernel_rfl) ?_;have hlb_15:=hlb;refine yU 4 ?_;refine JA.zt 4 rfl (RG rfl rfl rfl (by decide) (IU (by have h:=b8E hq.h2 3 (by decide);omega))) ?_;refine yU 7 ?_;refine JA.zt 18 rfl (c4s rfl rfl rfl) ?_;refine zX (YK q.x1 3 (by decide) (by decide) _) ?_;refine yU 2 ?_;refine JA.zt 10 rfl (WR rfl rfl rfl (IU (by have h:=a8w (j:=j) (m:=q.x1 % 3) (by omega) (by omega) (by omega);omega))) ?_;refine JA.zt 11 rfl (NQ rfl rfl rfl (IU (by have h:=b8E hq.h2 3 (by decide);have h2:=a8w (j:=j) (m:=q.x1 % 3) (by omega) (by omega) (by omega);omega))) ?_;refine zX (YK (q.x2.tdiv 3+(j:Int)*(1+q.x1 % 3)) 8 (by decide) (by decide) _) ?_;refine yU 1 ?_;refine JA.zt 13 rfl (CB rfl rfl rfl BQ (by omega) (b9w (l:=Ix.b0l) (by omega) (by simp[Ix.b0l];omega))) ?_;refine zX (b2A _ _) ?_;refine⟨⟨(Le.refl _),(HSub.c 0 rfl (HSub.c 1 rfl (HSub.c 2 rfl (HSub.c 3 rfl HSub.n)))),CSub.n⟩,?_⟩;refine JA.fix AO (fun fx12=>?_);refine JA.tk 20 rfl fx12 (zN (pl:= #[(0,1),(1,1)]) rfl rfl a4a rfl a2u (fun w=>by simp[tS5,AV]) (FB.part rfl rfl rfl (AL.c AL.z) (FB.part rfl rfl rfl (AL.s (AL.c AL.z)) FB.none))) ?_;refine zO 21 rfl (ER a0a a0B a4a (EH.agg rfl EH.none) ?_);intro b13 hb13;refine⟨⟨(Le.refl _),(HSub.c 1 rfl (HSub.c 2 rfl (HSub.c 3 rfl (HSub.c 4 rfl HSub.n)))),CSub.n⟩,?_⟩;refine JA.perm (H':=[_,_,_,_,_]++(gH _ _ _++gH _ _ _)) (a8V [_,_,_,_,_] _ _) ?_;refine zO 22 rfl (AQ (by':=23) ([_,_,_,_,_]++gH _ _ _) rfl rfl rfl rfl rfl a0a (.inr ⟨_,a0a⟩) (by kernel_rfl) a0B a4a rfl hgs rfl (Src.slice (yZ.at 0 rfl) rfl rfl rfl) (by omega) ?_);intro g14 hg14;refine yU 2 ?_;refine JA.last 24 (by kernel_rfl) rfl rfl rfl (CS 1 rfl rfl rfl rfl (a2p _ _) (b0q _ _) sizeOf106 rfl rfl (AL.s (AL.s (AL.s (AL.c AL.z)))) (AU.s AU.z) ?_);refine yU 8 ?_;refine Ej.perm (a8V [_,_,_,_,_] (gH _ _ _) (gH _ _ _)) ?_;refine Ej.keep (Keeps.d (Keeps.k (Keeps.k (Keeps.k (Keeps.k Keeps.r))))) ?_;refine Ej.round (j+1,g14) ⟨by dsimp only;omega,by dsimp only;rw[a1K,List.length_append,List.flatMap_append];exact hg14⟩ (by dsimp only;omega) ⟨rfl,rfl,rfl,rfl,rfl,rfl,rfl,rfl,trivial⟩ rfl (by dsimp only;rw[a1K,List.length_append,List.flatMap_append];rfl)
    refine yU 5 ?_;have hjn:j=nn:=by omega
    subst hjn;refine Cj.perm (b5P [_,_,_,_] (gH _ _ _) (gH _ _ _)) ?_;refine Cj.a9K JW (by decide) hgs rfl (fun I8 hle8 hss=>?_);have hIJ:=hIJ.mono hle8;have hS:=hS.mono hle8;have hv:=hv.mono hle8;have hlb:=hle8 _ _ hlb;refine yU 5 ?_;intro b16 hb16;refine J.op rfl (AQ (by':=71) [_,_,_,_,_] rfl rfl rfl rfl rfl b4L (.inr ⟨_,b4L⟩) (by kernel_rfl) WO a1q rfl hg rfl (Src.slice (yZ.at 0 rfl) rfl rfl (by show[str (Ix.VO q.x0),str (Ix.a1M.getD (q.x1 % 8).toNat []),str [],gV _ _].all Value.oneCell'=true;simp only[List.all_cons,List.all_nil,a4c,Bool.and_true];rfl)) (by omega) ?_);intro g17 hg17;refine yU 10 ?_;refine Ej.keep (Keeps.d (Keeps.d (Keeps.d (Keeps.k (Keeps.k Keeps.r))))) ?_;refine Ej.round (k+1,_,fs++[⟨Ix.VO q.x0,Ix.a1M.getD (q.x1 % 8).toNat [],[],gV (OD q j).length g2,OD q j⟩],g17) ⟨by dsimp only;omega,by dsimp only;omega,hIJ,RQ.add hS hss,by dsimp only;rw[b4w,RV _ hget,hN,c2w hC,←hnn];rfl,by dsimp only;rw[List.length_append,hfl];rfl,by dsimp only;rw[NH,List.length_append];exact hg17⟩ (by dsimp only;omega) ⟨rfl,rfl,rfl,rfl,trivial⟩ rfl (by dsimp only;rw[NH,List.length_append];rfl)
   refine EK (fun hg18 hg18p=>?_) (fun hg18 hg18p=>?_)
   ·refine yU 2 ?_;refine J.zg (CP (p:=0) (q:=2) rfl rfl BQ rfl ⟨_,rfl⟩ (by omega) (by omega)) ?_;refine zK (fun hc19 hc19p=>?_) (fun hc19 hc19p=>?_)
    ·have hC:Ix.isC (Ix.VO q.x0):=⟨by omega,by have h:=CO hc19;rw[List.drop_zero]at h;exact h⟩;refine zX (b2A q.x3 _) ?_;refine yU 10 ?_;intro b20 hb20;refine RD 71 [_,_,_,_,_] hg ?_;intro g21 hg21;refine yU 13 ?_;refine Ej.keep (Keeps.d (Keeps.d (Keeps.d (Keeps.k (Keeps.k Keeps.r))))) ?_;refine Ej.round (k+1,_,fs++[⟨Ix.VO q.x0,[],Ix.a2s q.x3,.slice none 0 0,[]⟩],g21) ⟨by dsimp only;omega,by dsimp only;omega,hIJ,RQ.add hS LU.nil,by dsimp only;rw[b4w,RV _ hget,hN,c2n hC];rfl,by dsimp only;rw[List.length_append,hfl];rfl,by dsimp only;rw[NH,List.length_append];exact hg21⟩ (by dsimp only;omega) ⟨rfl,rfl,rfl,rfl,trivial⟩ rfl (by dsimp only;rw[NH,List.length_append];rfl)
    have hC:¬Ix.isC (Ix.VO q.x0):=fun g=>CW hc19 (by rw[List.drop_zero];exact g.2);refine yU 1 ?_;exact hcut () _ _ _ hC ⟨rfl,rfl,rfl,rfl,rfl,rfl,trivial⟩ rfl rfl
   have hC:¬Ix.isC (Ix.VO q.x0):=fun g=>by have h:=FQ hg18;have:=g.1;omega
   refine yU 9 ?_;exact hcut () _ _ _ hC ⟨rfl,rfl,rfl,rfl,rfl,rfl,trivial⟩ rfl rfl
  refine yU 8 ?_;refine J.op rfl (CS 1 rfl rfl rfl rfl rfl (by show[u8 97,u8 109,gV _ _].all Value.oneCell'=true;simp only[List.all_cons,List.all_nil,a4c,Bool.and_true];rfl) UE rfl rfl (AL.c (AL.c (AL.c AL.z))) (AU.s AU.z) ?_);refine yU 3 ?_;have hmade:Ke.nrm fs=Ix.WL l:=by rw[hN];unfold Ix.WL;rw[WS hk (by omega)]
  refine Ej.perm (H':=gH _ _ _++[_,_]) List.perm_append_comm ?_;refine Ej.a9K a2l (by decide) hg rfl (fun I9 hle9 hfs=>?_);refine Ej.a7D (Keeps.d (Keeps.d Keeps.n)) rfl rfl rfl (yZ.at 1 rfl) isAgg57 UE rfl ?_;exact⟨fs,_,rfl,a1R.imp ⟨hfs,fun f hf=>((hS f hf).mono hle9)⟩ (fun b hb=>hw0.dom hb),hmade,rfl⟩
 refine yU 14 ?_;refine J.op rfl (CS 1 rfl rfl rfl rfl rfl (by show[u8 97,u8 109,gV _ _].all Value.oneCell'=true;simp only[List.all_cons,List.all_nil,a4c,Bool.and_true];rfl) UE rfl rfl (AL.c (AL.c (AL.c AL.z))) (AU.s AU.z) ?_);refine yU 3 ?_;have hmade:Ke.nrm fs=Ix.WL l:=by rw[hN];unfold Ix.WL;rw[WS hk (by omega)]
 refine Ej.perm (H':=gH _ _ _++[_,_]) List.perm_append_comm ?_;refine Ej.a9K a2l (by decide) hg rfl (fun I9 hle9 hfs=>?_);refine Ej.a7D (Keeps.d (Keeps.d Keeps.n)) rfl rfl rfl (yZ.at 1 rfl) isAgg57 UE rfl ?_;exact⟨fs,_,rfl,a1R.imp ⟨hfs,fun f hf=>((hS f hf).mono hle9)⟩ (fun b hb=>hw0.dom hb),hmade,rfl⟩
end Go.Proofs.YtekmeaoblpfnpaaGreatDoor
end
section
namespace Go.Proofs.YtekmeaoblpfnpaaGreatDoor
open _root_.Go.Proofs.Tryz
open Go Go.Sx
structure Act where
  a:Ix.KD
  v:Value
def a7i (x:Act):List Value:=[.bool x.a.drop,i64 x.a.src,i64 x.a.num,x.v]
theorem VJ x:(a7i x).length=4:=rfl
def a1W (I:Heap) (xs:List Act) (v:Value):Prop:=zS a7i I xs v∧∀x∈xs,zS QA I x.a.fs x.v
theorem a1W.mono{I I' xs v}(h:a1W I xs v)(hle:Le I I'):a1W I' xs v:=⟨h.1.mono hle,fun x hx=>(h.2 x hx).mono hle⟩
def a6z (xs:List Act):Prop:=∀x∈xs,∀q∈x.a.fs,UD q
abbrev acts (xs:List Act):List Ix.KD:=xs.map (·.a)
theorem c0P{α:Type}(l:List α):l.take (min l.length 8)=l.take 8:=by
  rcases Nat.le_total l.length 8 with h|h
  · rw[Nat.min_eq_left h,List.take_of_length_le h,List.take_of_length_le (Nat.le_refl _)]
  rw[Nat.min_eq_right h]
structure YA (I:Heap) (a:Ix.KD) (e:FY):Prop where
  t:e.t=a.title
  r:QX I e.fs e.v
  n:Ke.nrm e.fs=a.record
theorem YA.mono{I I' a e}(h:YA I a e)(hle:Le I I'):YA I' a e:=⟨h.t,h.r.mono hle,h.n⟩
structure b0x (N:Nat→Prop) (I:Heap) (a:Ix.KD) (e:FY):Prop where
  t:e.t=a.title
  r:a1R N I e.fs e.v
  n:Ke.nrm e.fs=a.record
theorem b0x.ent{N:Nat→Prop}{I a e}(h:b0x N I a e):YA I a e:=⟨h.t,h.r.rec,h.n⟩
theorem YA.vals{I a e}(h:YA I a e):Ix.vals e.fs=a.vs:=by rw[←a5o,h.n];rfl
theorem YA.eok{I a e}(h:YA I a e):RH e.fs:=a9W h.n
theorem b6J x (hok:∀q∈x.a.fs,UD q) I (hv:zS QA I x.a.fs x.v):yY Tryz.prog 42 [.agg (a7i x).toArray] I [] (fun ev I' H'=>∃e,ev= .returned (.agg (IB e).toArray)∧b0x (I · =none) I' x.a e∧H'=[]):=by
 obtain⟨p,c,hxv⟩:=zS.len hv;have hcap:x.a.fs.length≤c:=by obtain⟨p1,c1,h1,h2,_⟩:=hv;rw[hxv]at h1;cases h1;exact h2
 have hrow:zS QA I (x.a.fs.take 8) (.slice p (min x.a.fs.length 8) c):=by rw[←c0P];rw[hxv]at hv;exact hv.take (Nat.min_le_left _ _)
 refine zQ func42 fun w0 hw0=>?_;refine yU 3 ?_;intro b1 hb1;refine yU 1 ?_;intro b2 hb2;refine yU 3 ?_;refine Cj.EX [0,1] [] 14 (by kernel_rfl) ?_;refine JA.fix AO (fun fx3=>?_);refine JA.tk 0 rfl fx3 (CV (off':=1) b5Y DX) ?_;refine JA.tk 1 rfl fx3 (DF OG (yZ.atC 1 rfl)) ?_;refine JA.tk 2 rfl fx3 (CV (off':=2) b5Y DX) ?_;refine JA.tk 3 rfl fx3 (DF OG (yZ.atC 1 rfl)) ?_;refine JA.tk 4 rfl fx3 (zN (pl:= #[(0,1),(1,1)]) rfl rfl a0D rfl b2u (fun w=>by simp[DX]) (FB.part rfl rfl rfl (AL.c AL.z) (FB.part rfl rfl rfl (AL.s (AL.c AL.z)) FB.none))) ?_;refine JA.tk 5 rfl fx3 (CV (off':=3) b5Y sizeOf91) ?_;refine JA.tk 6 rfl fx3 (DF isAgg91 (yZ.atC 1 rfl)) ?_;refine JA.eqv 9 rfl (show _= .slice p x.a.fs.length c from hxv) ?_;refine JA.tk 7 rfl fx3 (CV (off':=3) b5Y sizeOf91) ?_;refine JA.tk 8 rfl fx3 (DF isAgg91 (yZ.atC 1 rfl)) ?_;refine JA.eqv 11 rfl (show _= .slice p x.a.fs.length c from hxv) ?_;refine JA.tk 9 rfl fx3 (RJ rfl rfl underlying91) ?_;refine JA.tk 10 rfl fx3 (NT rfl rfl rfl) ?_;refine JA.tk 11 rfl fx3 (LJ (k:=(min x.a.fs.length 8)) rfl rfl rfl underlying91 sizeOf215 (by split<;>omega) (by omega)) ?_;refine zO 12 rfl (zM (H1:=[]) rfl rfl rfl rfl rfl (b6x (x.a.fs.take 8) _ (fun q hq=>hok q (List.mem_of_mem_take hq)) _ hrow) ?_ (fun _ _ _ _ ⟨_,_,h,_⟩=>by cases h) (fun _ _ ⟨_,_,h,_⟩=>by cases h));intro v4 I5 H6 hle7 hp8;have hrow:=hrow.mono hle7;obtain⟨fs,w,h,hrec,hmade,rfl⟩:=hp8;cases h;obtain⟨wp,wc,rfl⟩:=zS.len hrec.1.row;refine⟨⟨(Le.trans (Le.refl _) hle7),(HSub.c 0 rfl (HSub.c 1 rfl HSub.n)),CSub.n⟩,?_⟩;refine JA.fix AO (fun fx9=>?_);refine JA.tk 13 rfl fx9 (zN (pl:= #[(0,2),(2,3)]) rfl rfl a0M rfl a2R (fun w=>by simp[EJ,UE]) (FB.part rfl rfl rfl (AL.c (AL.c AL.z)) (FB.part rfl rfl rfl (AL.s (AL.s (AL.c (AL.c (AL.c AL.z))))) FB.none))) ?_;refine JA.last 14 (by kernel_rfl) rfl rfl rfl (BZ 0 OV (AL.c (AL.c (AL.c (AL.c (AL.c AL.z))))) AU.z ?_);refine yU 3 ?_;refine Ej.a7D (Keeps.d (Keeps.d Keeps.n)) rfl rfl rfl (yZ.at 0 rfl) isAgg59 OV rfl ?_;exact⟨⟨x.a.title,97,109,_,fs⟩,rfl,⟨rfl,hrec,hmade⟩,rfl⟩
theorem a1V x (hok:∀q∈x.a.fs,UD q) I (hv:zS QA I x.a.fs x.v):yY Tryz.prog 42 [.agg (a7i x).toArray] I [] (fun ev I' H'=>∃e,ev= .returned (.agg (IB e).toArray)∧YA I' x.a e∧H'=[]):=
  (b6J x hok I hv).mono fun _ _ _ _ ⟨e,h1,h2,h3⟩=>⟨e,h1,h2.ent,h3⟩
theorem a2O xs k:acts (xs.take k)=(acts xs).take k:=List.map_take
theorem b0d xs v (hok:a6z xs) I (hA0:a1W I xs v):yY Tryz.prog 51 [v] I [] (fun ev I' H'=>∃rb es w,ev= .returned (ptr rb 0)∧FN I' es w∧es.map zJ=Ix.play (acts xs)∧(∀e∈es,RH e.fs)∧es.length≤20∧H'=[(rb,yX 50 [w])]):=by
 obtain⟨p,c,rfl⟩:=zS.len hA0.1;refine zQ func51 fun w0 hw0=>?_;refine yU 7 ?_;refine J.z (zN (pl:= #[(0,1)]) rfl rfl zeroValue50 rfl underlying50 (fun w=>by simp[sizeOf48]) FB.none) ?_;refine yU 1 ?_;intro b1 hb1;refine yU 10 ?_;refine Cj.loop (ι:=Nat×Heap×List FY×Value) (fun y=>y.1≤xs.length∧y.1≤20∧Le I y.2.1∧FN y.2.1 y.2.2.1 y.2.2.2∧y.2.2.1.map zJ=(acts (xs.take y.1)).foldl Ix.act []∧(∀e∈y.2.2.1,RH e.fs)∧y.2.2.1.length≤y.1) (fun y=>20-y.1) (fun y=>[(0,.slice p xs.length c),(3,ptr b1 0),(4,i64 (y.1:Int))]) (fun y=>y.2.1) (fun y=>[(b1,yX 50 [y.2.2.2])]) (0,_,[],_) ⟨Nat.zero_le _,Nat.zero_le _,Le.refl _,FN.nil,rfl,fun e he=>(by cases he),Nat.zero_le _⟩ ⟨rfl,rfl,rfl,trivial⟩ rfl rfl ?_;rintro⟨k,Jh,es,w⟩ ⟨hk,hk20,hIJ,hE,hL,hek,hel⟩;dsimp only at hk hk20 hIJ hE hL hek hel ⊢;have hA:=hA0.mono hIJ;refine EK (fun hg2 hg2p=>?_) (fun hg2 hg2p=>?_)
 ·refine zK (fun hc3 hc3p=>?_) (fun hc3 hc3p=>?_)
  ·refine yU 5 ?_;have hIJ9:=hIJ;have hlt:k<xs.length:=by omega
   have hlt2:k<20:=by omega
   obtain⟨x,hget⟩:∃x,xs[k]?=some x:=⟨_,BM hlt⟩;have hxm:=CX hget;obtain⟨p1,c1,hpe,hc1,hp⟩:=id hA.1;cases hpe;obtain⟨ab,ao,acs,aty,afr,asp,rfl,hab,had⟩:=hp (zU hlt);have hfv:=hA.2 x hxm;obtain⟨vp,vc,hxv⟩:=zS.len hfv;have hnx:acts (xs.take (k+1))=acts (xs.take k)++[x.a]:=RV _ hget;refine zW (ao+k*4) ?_;refine yU 1 ?_;refine J.z (AX rfl rfl tA4 (yZ.LK hab) (DT VJ had hget 0 (by decide))) ?_;refine DI (fun hc4=>?_) (fun hc4=>?_)
   ·have hdr:x.a.drop=true:=hc4;refine zW (ao+k*4) ?_;refine J.z (BJ isAgg93 sizeOf93 (yZ.LK hab) (BF VJ had hget)) ?_;refine AP (a1V x (hok x hxm) _ hfv) ?_;intro v5 I6 H7 hle8 hp9;have hIJ:=hIJ.mono hle8;have hA:=hA.mono hle8;have hE:=hE.mono hle8;have hab:=hle8 _ _ hab;have hfv:=hfv.mono hle8;obtain⟨e0,h,he0,rfl⟩:=hp9;cases h;refine J.z (a8k (v:=zZ e0.t) rfl rfl (fun _=>by kernel_rfl)) ?_;refine J.pull Pull.z ?_;refine AP (c0A b1 w es e0.t (by omega) _ hE) ?_;intro v10 I11 H12 hle13 hp14;have hIJ:=hIJ.mono hle13;have hA:=hA.mono hle13;have hE:=hE.mono hle13;have hab:=hle13 _ _ hab;have hfv:=hfv.mono hle13;have he0:=he0.mono hle13;obtain⟨w1,h,hE1,rfl⟩:=hp14;cases h;refine yU 8 ?_;refine Ej.round (k+1,_,MR es e0.t,_) ⟨by dsimp only;omega,by dsimp only;omega,hIJ,hE1,by dsimp only;rw[hnx,List.foldl_append,a5H _ _ (hL▸Ix.a5x _ List.Pairwise.nil),hL,he0.t];exact(if_pos (show x.a.drop=true from hdr)).symm,fun e he=>hek e (a8Z he),by dsimp only;have:=b7a es e0.t;omega⟩ (by dsimp only;omega) ⟨rfl,rfl,rfl,trivial⟩ rfl rfl
   have hdr:x.a.drop=false:=hc4;refine zW (ao+k*4) ?_;refine J.z (BJ isAgg93 sizeOf93 (yZ.LK hab) (BF VJ had hget)) ?_;refine AP (a1V x (hok x hxm) _ hfv) ?_;intro v15 I16 H17 hle18 hp19;have hIJ:=hIJ.mono hle18;have hA:=hA.mono hle18;have hE:=hE.mono hle18;have hab:=hle18 _ _ hab;have hfv:=hfv.mono hle18;obtain⟨e0,h,he0,rfl⟩:=hp19;cases h;refine J.pull Pull.z ?_;refine AP (c4j b1 w es e0 (by omega) _ hE he0.r) ?_;intro v20 I21 H22 hle23 hp24;have hIJ:=hIJ.mono hle23;have hA:=hA.mono hle23;have hE:=hE.mono hle23;have hab:=hle23 _ _ hab;have hfv:=hfv.mono hle23;have he0:=he0.mono hle23;obtain⟨w1,h,hE1,rfl⟩:=hp24;cases h;refine yU 8 ?_;refine Ej.round (k+1,_,QY es e0,_) ⟨by dsimp only;omega,by dsimp only;omega,hIJ,hE1,by dsimp only;rw[hnx,List.foldl_append,b0g e0 es,hL,he0.t,he0.vals];exact(if_neg (fun g=>Bool.noConfusion (g.symm.trans hdr))).symm,fun e he=>(b0X he).elim (fun g=>by rw[g];exact he0.eok) (hek e),by dsimp only;have:=c1s es e0;omega⟩ (by dsimp only;omega) ⟨rfl,rfl,rfl,trivial⟩ rfl rfl
  refine yU 12 ?_;have htk:(acts (xs.take k)).foldl Ix.act []=Ix.play (acts xs):=by rw[WS hk (by omega),a2O];rfl
  refine zV ?_;exact⟨_,es,_,rfl,hE,hL.trans htk,hek,by omega,rfl⟩
 refine yU 18 ?_;have htk:(acts (xs.take k)).foldl Ix.act []=Ix.play (acts xs):=by rw[WS hk (by omega),a2O];rfl
 refine zV ?_;exact⟨_,es,_,rfl,hE,hL.trans htk,hek,by omega,rfl⟩
end Go.Proofs.YtekmeaoblpfnpaaGreatDoor
end
namespace Ke
def closed (c:Nat):Prop:=(97≤c∧c≤122)∨(48≤c∧c≤57)∨((945≤c∧c≤969)∧c≠962)∨(1072≤c∧c≤1103)
instance (c:Nat):Decidable (closed c):=by unfold closed;infer_instance
theorem UC{c}(h:closed c):PO c:=by unfold closed at h;unfold PO;omega
theorem b8p{c}(h:945≤c∧c≤969):tab.lookup c=none:=by
  have h1:∀k<25,tab.lookup (945+k)=none:=by decide +kernel
  have:=h1 (c-945) (by omega)
  rwa [show 945+(c-945)=c by omega]at this
theorem c3a{c}(h:1072≤c∧c≤1103):tab.lookup c=none:=by
  have h1:∀k<32,tab.lookup (1072+k)=none:=by decide +kernel
  have:=h1 (c-1072) (by omega)
  rwa [show 1072+(c-1072)=c by omega]at this
theorem b3g{c}(h:closed c):char c=enc c:=by
  unfold char;unfold closed at h
  by_cases h1:(97≤c∧c≤122)∨(48≤c∧c≤57)
  · rw[if_pos h1]
  have h2:((945≤c∧c≤969)∧c≠962)∨(1072≤c∧c≤1103):=by omega
  rw[if_neg h1,if_neg (by omega),if_neg (by omega),if_neg (by omega)];have h3:tab.lookup c=none:=by
    rcases h2 with h2|h2
    · exact b8p h2.1
    exact c3a h2
  rw[h3];simp only;rw[if_neg (by omega),if_pos (by omega)]
theorem b1e{c}(h:closed c):enc c≠[32]:=by
  intro he;have h1:=a8u (UC h);rw[he]at h1;have h2:runes [32]=[32]:=by kernel_rfl
  rw[h2]at h1;have:c=32:=(List.cons.inj h1).1.symm;unfold closed at h;omega
def b7V (s:Bs):Bool:=decide (encs (runes s)=s) && (runes s).all fun c=>decide (closed c)
theorem c4d:tab.all (fun p=>b7V p.2)=true:=by decide +kernel
theorem a6s:∀{l:List (Nat×Bs)} {c:Nat} {s:Bs},l.lookup c=some s→(c,s)∈l
  |[],_,_,h=>by cases h
  | (a,b)::r,c,s,h=>by
    rw[List.lookup_cons]at h
    split at h
    · rename_i he
      have:=eq_of_beq he;subst this;cases h;exact .head _
    exact .tail _ (a6s h)
theorem b9G c:char c=[32]∨∃l,char c=encs l∧∀d∈l,closed d:=by
  have one:∀d,closed d→∃l,enc d=encs l∧∀x∈l,closed x:=fun d hd=>⟨[d],by simp[encs],fun x hx=>by simp at hx;subst hx;exact hd⟩;unfold char
  split
  · rename_i h;exact .inr (one c (by unfold closed;omega))
  split
  · exact .inr (one (c+32) (by unfold closed;omega))
  split
  · exact .inl rfl
  split
  · exact .inr ⟨[],rfl,fun _ h=>by cases h⟩
  split
  · rename_i s hs
    have h1:=List.all_eq_true.1 c4d _ (a6s hs);simp only[b7V,Bool.and_eq_true,decide_eq_true_eq]at h1;exact .inr ⟨runes s,h1.1.symm,fun d hd=>of_decide_eq_true (List.all_eq_true.1 h1.2 d hd)⟩
  split
  · exact .inr (one 963 (by decide))
  split
  · exact .inr (one c (by unfold closed;omega))
  split
  · exact .inr (one (c+32) (by unfold closed;omega))
  exact .inl rfl
def JY (w:Bs):Prop:=∃l,w=encs l∧∀d∈l,closed d
theorem b9y a b:encs (a++b)=encs a++encs b:=by simp[encs]
theorem a6P{a b}(ha:JY a)(hb:JY b):JY (a++b):=by
  obtain⟨l,rfl,h1⟩:=ha;obtain⟨m,rfl,h2⟩:=hb;exact⟨l++m,(b9y l m).symm,fun d hd=>(List.mem_append.1 hd).elim (h1 d) (h2 d)⟩
theorem a0C:∀(l:List Nat) (w:Bs),JY w→∀x∈wf w l,JY x
  | [],w,hw,x,h=>by
    unfold wf at h
    split at h
    · cases h
    simp at h;subst h;exact hw
  | c::r,w,hw,x,h=>by
    have h0:JY []:=⟨[],rfl,fun _ h=>by cases h⟩;unfold wf at h
    split at h
    · split at h
      · exact a0C r [] h0 x h
      rcases List.mem_cons.1 h with rfl|h
      · exact hw
      exact a0C r [] h0 x h
    rename_i hne
    rcases b9G c with he|he
    · exact absurd he hne
    exact a0C r _ (a6P hw he) x h
theorem YU s:∀x∈words s,JY x:=a0C _ _ ⟨[],rfl,fun _ h=>by cases h⟩
theorem a8o:∀(l:List Nat) (w:Bs) (r:List Nat),(∀d∈l,closed d)→wf w (l++r)=wf (w++encs l) r
  |[],w,r,_=>by simp[encs]
  | c::l,w,r,h=>by
    have hc:=h c (.head _);show(if char c=[32]then _ else wf (w++char c) (l++r))=_;rw[b3g hc,if_neg (b1e hc),a8o l _ r fun d hd=>h d (.tail _ hd)];simp[encs]
theorem b4I{w}(h:JY w):∃l,w=encs l∧runes w=l∧∀d∈l,closed d:=by
  obtain⟨l,rfl,h1⟩:=h;exact⟨l,rfl,a6f l fun c hc=>UC (h1 c hc),h1⟩
theorem a1Q{w}(h:JY w)(hne:w≠[]):words w=[w]:=by
  obtain⟨l,rfl,h2,h3⟩:=b4I h;unfold words;rw[h2];have:=a8o l [] [] h3;rw[List.append_nil]at this;rw[this,List.nil_append];unfold wf;rw[if_neg hne]
theorem a6i{c}(hc:char c=[32]):∀(l:List Nat) (w:Bs) (r:List Nat),wf w (l++c::r)=wf w l++wf [] r
  | [],w,r=>by
    simp only[List.nil_append,wf,hc,if_true]
    split<;>simp
  | d::l,w,r=>by
    simp only[List.cons_append,wf]
    split
    · split
      · exact a6i hc l [] r
      rw[a6i hc l [] r,List.cons_append]
    exact a6i hc l _ r
theorem b6p:char 32=[32]:=by decide
theorem b7x c s t (hc:c.toNat<128)(hb:char c.toNat=[32]):words (s++c::t)=words s++words t:=by grind [words,a8s,TU,b2G,a6i]
theorem a6o:∀(l:List Bs),(∀w∈l,JY w∧w≠[])→words (join l)=l
  |[],_=>rfl
  |[a],h=>a1Q (h a (.head _)).1 (h a (.head _)).2
  | a::b::r,h=>by
    show words (a++[32]++join (b::r))=_;rw[List.append_assoc,List.singleton_append,b7x 32 a _ (by decide) b6p,a1Q (h a (.head _)).1 (h a (.head _)).2,a6o (b::r) fun w hw=>h w (.tail _ hw)];rfl
theorem a9m{s w}(h:w∈words s):w≠[]∧words w=[w]:=
  ⟨VP _ _ w h,a1Q (YU s w h) (VP _ _ w h)⟩
end Ke
namespace Ke
theorem ofNat_toNat{k}(h:k<256):(UInt8.ofNat k).toNat=k:=by simp;omega
theorem b1N{w}(h:digits w=true):JY w:=by
  induction w with
  |nil=>exact⟨[],rfl,fun _ h=>by cases h⟩
  | cons c r ih=>
    rw[a4t,Bool.and_eq_true]at h;have hc:=WZ.1 h.1;have h1:JY [c]:=⟨[c.toNat],by
      have:enc c.toNat=[c]:=by rw[enc1 (by omega)];simp
      simp[encs,this],fun d hd=>by simp at hd;subst hd;unfold closed;omega⟩
    exact a6P h1 (ih h.2)
end Ke
namespace Ke
def plainW (w:Bs):Bs:=if digits w then w.drop 2 else w
def ZB (k:Bs):Bs:=join ((words k).map plainW)
theorem b1L{w}(h:digits w=true):digits (strip w)=true:=by
  unfold strip;rw[a2m,Bool.and_eq_true];refine⟨List.all_eq_true.2 fun c hc=>List.all_eq_true.1 h c ?_,List.all_eq_true.2 fun c hc=>List.all_eq_true.1 h c (List.mem_of_mem_drop hc)⟩;exact(List.dropLast_sublist _).subset ((List.dropWhile_sublist _).subset hc)
theorem a9F{w}(h:digits w=true):digits (number w)=true:=by
  unfold number;show digits ([_,_]++strip w)=true;rw[a2m,b1L h,Bool.and_true];have hd:∀n,n<10→digit (UInt8.ofNat (48+n))=true:=by decide
  simp only[digits,List.all_cons,List.all_nil,Bool.and_true,Bool.and_eq_true];exact⟨hd _ (by omega),hd _ (by omega)⟩
theorem ZY{w}(h:JY w)(hne:w≠[]):JY (JE w)∧JE w≠[]:=by grind [JE,number,b1N,a9F]
theorem a3C s skip:words (GI s skip)=(words (cut s skip)).map JE:=by
  unfold GI;refine a6o _ fun x hx=>?_;obtain⟨w,hm,rfl⟩:=List.mem_map.1 hx;exact ZY (YU _ w hm) (a9m hm).1
end Ke
namespace Ke
open Go.Lib (decodeL fieldsGoD fieldsD isSpaceR fieldsGoD_nil)
theorem b8u{c}(h:closed c):isSpaceR c=false:=by
  unfold closed at h;unfold isSpaceR;simp only[Bool.or_eq_false_iff,Bool.and_eq_false_iff,decide_eq_false_iff_not,beq_eq_false_iff_ne];omega
theorem a5w:∀(l:List Nat) (cur t:Bs) (f:Nat),(∀d∈l,closed d)→opens t→(encs l++t).length<f→∃g,t.length<g∧fieldsGoD f cur (encs l++t)=fieldsGoD g (cur++encs l) t
  |[],cur,t,f,_,_,hf=>⟨f,hf,by simp[encs]⟩
  |c::l,cur,t,0,_,_,hf=>absurd hf (Nat.not_lt_zero _)
  | c::l,cur,t,f+1,h,ht,hf=>by
    have hc:=h c (.head _);have ho:=a0h (UC hc);have e:encs (c::l)++t=enc c++(encs l++t):=by simp[encs]
    have ht2:opens (encs l++t):=b5c (a6I l fun d hd=>UC (h d (.tail _ hd))) ht;have hp:0<(enc c).length:=List.length_pos_iff.2 ho.2;rw[e,List.length_append]at hf;obtain⟨g,hg,he⟩:=a5w l (cur++enc c) t f (fun d hd=>h d (.tail _ hd)) ht (by omega);refine⟨g,hg,?_⟩;rw[e]
    conv=>lhs;unfold fieldsGoD
    rw[if_neg (by intro h0;exact ho.2 (List.append_eq_nil_iff.1 h0).1),a4l _ _ ho.2 ht2,a4v (UC hc)];dsimp only;rw[b8u hc,if_neg Bool.false_ne_true,List.take_left,List.drop_left,he];simp[encs]
theorem b0b:∀(ws:List Bs) (f:Nat),(∀w∈ws,JY w∧w≠[])→(join ws).length<f→fieldsGoD f [] (join ws)=ws
  |[],f,_,_=>by rw[show join []=[] from rfl,fieldsGoD_nil,if_pos rfl]
  | [a],f,h,hf=>by
    obtain⟨⟨l,rfl,hl⟩,hne⟩:=h a (.head _);show fieldsGoD f [] (encs l)=_;have hf2:(encs l++[]).length<f:=by rw[List.append_nil];exact hf
    obtain⟨g,_,he⟩:=a5w l [] [] f hl a8K hf2;rw[List.append_nil,List.nil_append]at he;rw[he,fieldsGoD_nil,if_neg hne]
  | a::b::r,f,h,hf=>by
    obtain⟨⟨l,rfl,hl⟩,hne⟩:=h a (.head _);have e:join (encs l::b::r)=encs l++(32::join (b::r)):=by
      show encs l++[32]++join (b::r)=_;rw[List.append_assoc,List.singleton_append]
    rw[e]at hf ⊢;obtain⟨g,hg,he⟩:=a5w l [] (32::join (b::r)) f hl (TU (by decide)) hf;rw[he,List.nil_append]
    match g,hg with
    | g+1,hg=>
      rw[List.length_cons]at hg;have hd:decodeL (32::join (b::r))=(32,1):=Go.Lib.decodeL_ascii 32 _ (by decide)
      conv=>lhs;unfold fieldsGoD
      rw[if_neg (by simp),hd];dsimp only;rw[show isSpaceR 32=true from rfl,if_pos rfl,if_neg hne,List.drop_one,List.tail_cons,b0b (b::r) g (fun w hw=>h w (.tail _ hw)) (by omega)];rfl
theorem b3m ws (h:∀w∈ws,JY w∧w≠[]):fieldsD (join ws)=ws:=b0b ws _ h (by omega)
theorem b4V s skip:fieldsD (GI s skip)=words (GI s skip):=by
  rw[a3C];unfold GI;refine b3m _ fun x hx=>?_;obtain⟨w,hm,rfl⟩:=List.mem_map.1 hx;exact ZY (YU _ w hm) (a9m hm).1
theorem a4z f (hf:∀w,(f w).length≤w.length):∀ws:List Bs,(join (ws.map f)).length≤(join ws).length
  |[]=>Nat.le_refl _
  |[a]=>hf a
  | a::b::r=>by
    have h1:=hf a;have h2:=a4z f hf (b::r);show(f a++[32]++join ((b::r).map f)).length≤(a++[32]++join (b::r)).length;simp only[List.length_append,List.length_singleton];omega
theorem b4U w:(plainW w).length≤w.length:=by grind [plainW,List.length_drop]
def a7A (k:Bs):Prop:=k.length≤40000000∧fieldsD k=words k∧(ZB k).length≤40000000∧(join (words k)).length≤40000000
theorem c4J{s skip}(h:s.length≤4000000):a7A (GI s skip):=by
  have hc:(cut s skip).length≤s.length:=by unfold cut;rw[List.length_drop];omega
  have h1:(GI s skip).length≤40000000:=by
    have:=a4N (cut s skip);unfold GI;omega
  have hj:join (words (GI s skip))=GI s skip:=by rw[a3C];rfl
  refine⟨h1,b4V s skip,?_,by rw[hj];exact h1⟩;have h2:=a4z plainW b4U (words (GI s skip));rw[hj]at h2;unfold ZB;omega
end Ke
namespace Ix
open Ke
theorem a0w n:keyOf n []=[]:=by
  unfold keyOf;rw[if_neg (fun h=>absurd h.1 (by decide +kernel))];decide +kernel
theorem a3q{L}(h:BK L) n b:EI L n b=(EI L n []).filter fun k=>decide (¬k<b):=by
  refine a5N (WM L n b) ((WM L n []).filter _) fun k=>?_;rw[List.mem_filter,QZ h,QZ h,decide_eq_true_eq];constructor
  · rintro⟨h1,h2⟩;exact⟨⟨List.not_lt_nil k,h2⟩,h1⟩
  rintro⟨⟨_,h2⟩,h1⟩;exact⟨h1,h2⟩
theorem a2Z s:∀(l:Row) (d:Bool),(pg s d l).length≤l.length+1
  |[],d=>by cases d<;>simp[pg]
  |x::r,true=>by rw[YO];omega
  | x::r,false=>by
    have h1:=a2Z s r false;have h2:pg s true r=r:=YO s r;simp only[pg,h2]
    repeat' split
    all_goals simp only[List.length_cons];omega
theorem a7u l s:(put l s).length≤l.length+1:=by grind [put,a2Z]
theorem VQ:∀(xs l:Row),(xs.foldl put l).length≤l.length+xs.length
  |[],l=>by simp
  | x::r,l=>by
    have h1:=VQ r (put l x);have h2:=a7u l x;rw[List.foldl_cons,List.length_cons];omega
theorem b7g f (h:f.subs.length≤3) n:(ofN f n).length≤3:=by grind [ofN,List.length_map]
theorem a4F n:∀(fs:List LV),(∀f∈fs,f.subs.length≤3)→(valsN fs n).length≤fs.length*3
  |[],_=>by simp[valsN]
  | f::r,h=>by
    have h1:=a4F n r fun x hx=>h x (.tail _ hx);have h2:=b7g f (h f (.head _)) n;unfold valsN at h1 ⊢;rw[List.flatMap_cons,List.length_append,List.length_cons];omega
theorem b0C n fs (h:∀f∈fs,f.subs.length≤3)(hl:fs.length≤8):(keysOf n (vals fs)).length≤24:=by
  have h1:(keysOf n (vals fs)).length≤(valsN fs n).length:=by
    unfold keysOf;refine Nat.le_trans (List.length_filter_le _ _) ?_;rw[←b0F,List.length_map,List.length_map];exact Nat.le_refl _
  have h2:=a4F n fs h;omega
def Few (L:Ix):Prop:=L.length≤20∧∀e∈L,∃a:KD,e.2=a.vs
theorem a7O t v:∀L:Ix,(KY t v L).length≤L.length+1
  |[]=>by simp[KY]
  | (u,x)::r=>by
    have:=a7O t v r;unfold KY
    repeat' split
    all_goals simp only[List.length_cons];omega
theorem b2s:∀(l:List KD) {L:Ix} {k:Nat},BK L→L.length≤k→(∀e∈L,∃a:KD,e.2=a.vs)→(l.foldl act L).length≤k+l.length∧∀e∈l.foldl act L,∃a:KD,e.2=a.vs
  |[],_,k,_,h1,h2=>⟨by simpa using h1,h2⟩
  | a::r,L,k,hs,h1,h2=>by
    have h3:(act L a).length≤k+1:=by
      unfold act
      split
      · exact Nat.le_trans (List.length_filter_le _ _) (by omega)
      have:=a7O a.title a.vs L;omega
    have h4:∀e∈act L a,∃a:KD,e.2=a.vs:=by
      intro e he;unfold act at he
      split at he
      · exact h2 e ((SV _ _ _).1 he).1
      rcases(PD _ _ hs e).1 he with g|g
      · exact⟨a,by rw[g]⟩
      exact h2 e g.1
    have:=b2s r (b3W hs a) h3 h4;rw[List.foldl_cons,List.length_cons];exact⟨by omega,this.2⟩
theorem b9t l:Few (play l):=by
  have h:=b2s (l.take 20) (L:=[]) (k:=0) List.Pairwise.nil (Nat.le_refl _) (fun _ h=>by cases h);have h2:(l.take 20).length≤20:=by rw[List.length_take];exact Nat.min_le_left _ _
  exact⟨by unfold play;omega,h.2⟩
theorem c1p n (a:KD):(keysOf n a.vs).length≤24:=by
  refine b0C n _ (fun f hf=>?_) ?_
  · unfold KD.record WL at hf;obtain⟨q,_,rfl⟩:=List.mem_map.1 hf;exact(c0Z q).2
  unfold KD.record WL;rw[List.length_map,List.length_take,List.length_take];omega
theorem b1D n:∀{L:Ix},(∀e∈L,∃a:KD,e.2=a.vs)→(L.flatMap fun e=>keysOf n e.2).length≤L.length*24
  |[],_=>by simp
  | e::r,h=>by
    have h1:=b1D n (L:=r) fun x hx=>h x (.tail _ hx);obtain⟨a,ha⟩:=h e (.head _);have h2:=c1p n a;rw[List.flatMap_cons,List.length_append,List.length_cons,ha];omega
theorem b3e{L}(h:Few L) n b:(EI L n b).length≤480:=by
  unfold EI;have h1:=VQ (((L.flatMap fun e=>keysOf n e.2)).filter fun k=>decide (¬k<b)) [];have h2:=List.length_filter_le (fun k=>decide (¬k<b)) (L.flatMap fun e=>keysOf n e.2);have h3:=b1D n h.2;have h4:=h.1;rw[List.length_nil]at h1;omega
end Ix
namespace Cq
def indexes:List (List UInt8):=[[116,105,116,108,101],[97,117,116,104,111,114],[115,117,98,106,101,99,116],[105,115,98,110],[97,110,121],[121,101,97,114]]
def relations:List (List UInt8):=[[61],[61,61],[60],[62,61],[97,110,121],[97,108,108]]
inductive Qs where
  |nil
  |cons (k:Int) (i r t:List UInt8) (ps rest:Qs)
deriving DecidableEq
structure Qn where
  k:Int
  i:List UInt8
  r:List UInt8
  t:List UInt8
  ps:Qs
deriving DecidableEq
def Qs.len:Qs→Nat
  | .nil=>0
  | .cons _ _ _ _ _ rest=>rest.len+1
def Qn.push (q:Qn) (rest:Qs):Qs:= .cons q.k q.i q.r q.t q.ps rest
def two (op : Nat) (a b : Qn) : Qn := ⟨op, [], [], [], a.push (b.push .nil)⟩
def zero:Qn:=⟨0,[],[],[],.nil⟩
end Cq
namespace Ix
open Ke
def rEq:Bs:=[61]
def c5w:Bs:=[61,61]
def rGe:Bs:=[62,61]
def b4S:Bs:=[97,110,121]
def b6i:Bs:=[97,108,108]
def keyed (L:Ix) (n:Bs) (ks:Row):List Rec:=ks.flatMap fun k=>GU L n (keyOf n (ZB k))
def a0H (L:Ix) (i r s:Bs) (t:Rec):Bool:=
  if r=rEq then(if i=MX then decide (t∈GU L i (keyOf i s))else decide (t∈phrase L i (words s)))
  else if r=c5w then decide (t∈GU L i (keyOf i s))
  else if r=b4S then(words s).any fun w=>decide (t∈word L i w)
  else if r=b6i then !(words s).isEmpty && (words s).all fun w=>decide (t∈word L i w)
  else if r=rGe then decide (t∈keyed L i (EI L i (keyOf i s)))
  else decide (t∈keyed L i ((EI L i []).take ((EI L i []).length-(EI L i (keyOf i s)).length)))
def comb (k:Int) (a b:Bool):Bool:=if k=2 then a && b else if k=3 then a || b else a && !b
def b9X (L:Ix) (t:Rec) (k:Int) (i r x:Bs) (bs:List Bool):Bool:=if k=1 then a0H L i r x t else match bs with
  |[a,b]=>comb k a b
  |_=>false
def b5z (L:Ix) (t:Rec):Cq.Qs→List Bool
  | .nil=>[]
  | .cons k i r x ps rest=>b9X L t k i r x (b5z L t ps)::b5z L t rest
def sat (L:Ix) (q:Cq.Qn) (t:Rec):Bool:=b9X L t q.k q.i q.r q.t (b5z L t q.ps)
theorem a5h{L q t}(h:q.k=1):sat L q t=a0H L q.i q.r q.t t:=if_pos h
theorem a7q{L q a b t}(h:q.k≠1)(hp:q.ps=a.push (b.push .nil)):sat L q t=comb q.k (sat L a t) (sat L b t):=by
  unfold sat b9X;rw[if_neg h,hp];rfl
def XT (L:Ix) (a b:Rec):Prop:=UH L a<UH L b∨(UH L a=UH L b∧JJ a b=true)
theorem b8q L a:¬XT L a a:=by
  rintro(h|⟨_,h⟩)
  · exact List.lt_irrefl _ h
  rw[GR]at h;cases h
theorem b2T{L a b c}(h1:XT L a b)(h2:XT L b c):XT L a c:=by
  rcases h1 with h1|⟨h1,h1'⟩<;>rcases h2 with h2|⟨h2,h2'⟩
  · exact .inl (List.lt_trans h1 h2)
  · exact .inl (h2▸h1)
  · exact .inl (h1▸h2)
  exact .inr ⟨h1.trans h2,NY h1' h2'⟩
theorem b3w{α:Type}{r:α→α→Prop}(hi:∀a,¬r a a)(ht:∀{a b c},r a b→r b c→r a c):∀{l m:List α},l.Pairwise r→m.Pairwise r→(∀x,x∈l↔x∈m)→l=m
  |[],[],_,_,_=>rfl
  |[],b::m,_,_,h=>absurd ((h b).2 (.head _)) (by simp)
  |a::l,[],_,_,h=>absurd ((h a).1 (.head _)) (by simp)
  | a::l,b::m,hl,hm,h=>by
    rw[List.pairwise_cons]at hl hm;have hab:a=b:=by
      rcases List.mem_cons.1 ((h a).1 (.head _))with e|h1
      · exact e
      rcases List.mem_cons.1 ((h b).2 (.head _))with e|h2
      · exact e.symm
      exact absurd (ht (hl.1 b h2) (hm.1 a h1)) (hi a)
    subst hab
    congr 1
    refine b3w hi ht hl.2 hm.2 fun x=>⟨fun hx=>?_,fun hx=>?_⟩
    · rcases List.mem_cons.1 ((h x).1 (.tail _ hx))with e|g
      · exact absurd (e▸hl.1 x hx) (hi a)
      exact g
    rcases List.mem_cons.1 ((h x).2 (.tail _ hx))with e|g
    · exact absurd (e▸hm.1 x hx) (hi a)
    exact g
def a3U (L:Ix) (q:Cq.Qn) (l:List Rec):Prop:=l.Pairwise (XT L)∧∀t,t∈l↔t∈L.map (·.1)∧sat L q t=true
theorem a3U.eq{L q l m}(h1:a3U L q l)(h2:a3U L q m):l=m:=
  b3w (b8q L) b2T h1.1 h2.1 fun x=>(h1.2 x).trans (h2.2 x).symm
theorem a2t{L n k t}(h:t∈GU L n k):t∈L.map (·.1):=by grind [GU]
theorem a2A{L n w t}(h:t∈phrase L n w):t∈L.map (·.1):=by grind [phrase]
theorem a7o{L n s t}(h:t∈word L n s):t∈L.map (·.1):=by grind [word,a2A]
theorem c2c{L n ks t}(h:t∈keyed L n ks):t∈L.map (·.1):=by
  obtain⟨k,_,h⟩:=List.mem_flatMap.1 h;exact a2t h
theorem c2V{L i r s t}(h:a0H L i r s t=true):t∈L.map (·.1):=by
  unfold a0H at h
  split at h
  · split at h
    · exact a2t (of_decide_eq_true h)
    exact a2A (of_decide_eq_true h)
  split at h
  · exact a2t (of_decide_eq_true h)
  split at h
  · obtain⟨w,_,h⟩:=List.any_eq_true.1 h;exact a7o (of_decide_eq_true h)
  split at h
  · rw[Bool.and_eq_true]at h;cases hw:words s with
    |nil=>rw[hw]at h;simp at h
    |cons a r=>rw[hw]at h;exact a7o (of_decide_eq_true (List.all_eq_true.1 h.2 a (.head _)))
  split at h<;>exact c2c (of_decide_eq_true h)
theorem c0F{n k vs}:hasK n k vs=true↔∃v∈vs,v.name=n∧v.key=k:=by unfold hasK;grind
end Ix
namespace Ix
open Ke
def TOK (L:Ix):Prop:=∀e∈L,∀v∈e.2,v.text.length≤4000000
theorem a4I{L}(hs:BK L){n b k}(h:k∈EI L n b):∃e∈L,∃v∈e.2,v.name=n∧v.key=k:=by
  obtain⟨_,h2⟩:=(QZ hs).1 h;obtain⟨e,he,hp⟩:=(a1e hs).1 h2;obtain⟨_,h4⟩:=VX.1 hp;obtain⟨v,hv,h5,h6⟩:=c0F.1 h4;exact⟨e,he,v,hv,h5,h6⟩
theorem TOK.key{L}(h:TOK L)(hs:BK L){n b k}(hk:k∈EI L n b):a7A k:=by
  obtain⟨e,he,v,hv,_,rfl⟩:=a4I hs hk;exact c4J (h e he v hv)
theorem a5y L n k:(GU L n k).length≤L.length:=by grind [GU,List.length_map]
theorem a7Q{L n s most}(h:(EI L n (keyOf n s)).length≤most.toNat):(scan L n s most).map (·.1)=EI L n (keyOf n s):=by
  unfold scan;rw[List.take_of_length_le h,List.map_map];exact List.map_id _
end Ix
section
namespace Go.Proofs.YtekmeaoblpfnpaaGreatDoor
open Go Go.Sx
def LZ (I:Heap):Prop:=∀w:World,(∀b o,I b=some o→w.heap[b]?=some o)→Lib.TabIs Tryz.prog w "strings.asciiSpace" .u8 Lib.asciiSpaceTab∧Lib.WhiteTab 3 w
theorem LZ.mono{I I'}(h:LZ I)(hle:Le I I'):LZ I':=fun w hw=>h w fun b o hb=>hw b o (hle b o hb)
theorem b8r s ws (hf:Lib.fieldsD s=ws)(hs:s.length≤4000000000) I (hT:LZ I):yY Tryz.prog 261 [str s] I [] (fun e _ H'=>∃b sp,e= .returned (.slice (some ⟨b,0,none⟩) ws.length ws.length)∧H'=[(b,yX 9 (ws.map str++sp))]):=
  yY.c4l (vals:=ws.map fun x=>Value.string ⟨x.toArray⟩) rfl (Enters.of Tryz.func261 (by decide) rfl) fun w hw=>by
    have h:=Tryz.strings_Fields_any ⟨s.toArray⟩ w (by rw[size_mk];omega) (hT w hw).1 (hT w hw).2;rw[show(⟨s.toArray⟩:ByteArray).data.toList=s by simp,hf]at h;exact h
def MF (ws:List (List UInt8)) (i:Nat):List (List UInt8):=(ws.take i).map Ke.plainW++ws.drop i
theorem a5g ws i:(MF ws i).length=ws.length:=by
  unfold MF;rw[List.length_append,List.length_map,List.length_take,List.length_drop];omega
theorem b1Z{ws i x}(h:ws[i]?=some x):(MF ws i)[i]?=some x:=by
  have hlt:=(List.getElem?_eq_some_iff.1 h).1;unfold MF;rw[List.getElem?_append_right (by rw[List.length_map,List.length_take];omega),List.length_map,List.length_take,Nat.min_eq_left (Nat.le_of_lt hlt),Nat.sub_self,List.getElem?_drop];exact h
theorem b0i{ws i x}(h:ws[i]?=some x) sp:((MF ws i).map str++sp).set i (str (Ke.plainW x))=(MF ws (i+1)).map str++sp:=by
  obtain⟨hlt,hg⟩:=List.getElem?_eq_some_iff.1 h;rw[List.set_append_left _ _ (by rw[List.length_map,a5g];exact hlt),List.map_set.symm]
  congr 2
  unfold MF;rw[List.set_append_right _ _ (by rw[List.length_map,List.length_take];omega),List.length_map,List.length_take,Nat.min_eq_left (Nat.le_of_lt hlt),Nat.sub_self,←List.getElem_cons_drop hlt,List.set_cons_zero,List.take_succ_eq_append_getElem hlt,hg,List.map_append,List.append_assoc];rfl
theorem b3K{ws i x}(h:ws[i]?=some x)(hx:Ke.plainW x=x):MF ws i=MF ws (i+1):=by
  obtain⟨hlt,hg⟩:=List.getElem?_eq_some_iff.1 h;unfold MF;rw[←List.getElem_cons_drop hlt,List.take_succ_eq_append_getElem hlt,hg,List.map_append,List.append_assoc];show _=_++([Ke.plainW x]++_);rw[hx];rfl
theorem c0W k (hk:Ke.a7A k) I (hT:LZ I):Pure Tryz.prog 218 [str k] I (str (Ke.ZB k)):=by
 refine yY.toPure ?_;have hkl:=hk.1;have hwl:=Ke.KG k;have hpl:=hk.2.2.1;refine zQ Tryz.func218 fun w0 hw0=>?_;refine AP (b8r k (Ke.words k) hk.2.1 (by omega) _ hT) ?_;intro v1 I2 H3 hle4 hp5;obtain⟨fb,fsp,h,rfl⟩:=hp5;cases h;refine yU 12 ?_;refine Cj.loop (ι:=Nat) (fun i=>i≤(Ke.words k).length) (fun i=>(Ke.words k).length-i) (fun i=>[(3,.slice (some ⟨fb,0,none⟩) (Ke.words k).length (Ke.words k).length),(8,.slice (some ⟨fb,0,none⟩) (Ke.words k).length (Ke.words k).length),(9,i64 ((Ke.words k).length:Int)),(10,i64 (i:Int))]) (fun i=>_) (fun i=>[(fb,yX 9 ((MF (Ke.words k) i).map str++fsp))]) 0 (Nat.zero_le _) ⟨rfl,rfl,rfl,rfl,trivial⟩ rfl (by unfold MF;simp) ?_;rintro i hi;have hml:=a5g (Ke.words k) i;refine zK (fun hc6 hc6p=>?_) (fun hc6 hc6p=>?_)
 ·have hlt:i<(Ke.words k).length:=by omega
  obtain⟨x,hget⟩:∃x,(Ke.words k)[i]?=some x:=⟨_,BM hlt⟩;have hxm:=CX hget;have hxl:=Ke.PY _ x hxm;refine zW i ?_;refine J.z (DU CU (yZ.at 0 rfl) (FT (b1Z hget))) ?_;refine zX (b3C x (by omega) _) ?_;refine yU 1 ?_;refine J.ev 17 (.bool (Ke.digits x)) rfl (congrArg Value.bool (Ke.a4x x)) ?_;refine DI (fun hc17=>?_) (fun hc17=>?_)
  ·refine yU 6 ?_;refine J.z (NT rfl rfl rfl) ?_;refine J.ev 23 (i64 ((min 2 x.length:Nat):Int)) rfl (congrArg i64 (by omega)) ?_;refine J.z (CP (p:=min 2 x.length) (q:=x.length) rfl rfl BQ ⟨_,rfl⟩ rfl (by omega) (by omega)) ?_;refine J.ev 24 (str (Ke.plainW x)) rfl (by rw[List.take_length];unfold Ke.plainW;rw[if_pos hc17];congr 1;rcases Nat.le_total 2 x.length with h|h;rw[Nat.min_eq_left h];rw[Nat.min_eq_right h,List.drop_length,List.drop_eq_nil_of_le h]) ?_;refine zW i ?_;refine J.op rfl (IY 0 rfl rfl rfl rfl rfl rfl AV rfl (.inl rfl) (by rw[List.length_append,List.length_map,hml];omega) AU.z ?_);refine yU 7 ?_;refine Ej.round (i+1) (by omega) (by omega) ⟨rfl,rfl,rfl,rfl,trivial⟩ rfl (by rw[b0i hget];rfl)
  have hpw:Ke.plainW x=x:=by unfold Ke.plainW;rw[hc17];rfl
  refine yU 7 ?_;refine Ej.round (i+1) (by omega) (by omega) ⟨rfl,rfl,rfl,rfl,trivial⟩ rfl (by rw[b3K hget hpw])
 refine yU 6 ?_;refine Cj.b4N rfl (fun hnew=>?_);refine Cj.persist (hnew _ (.head _)) (fun I9 hle9 hfbi=>?_);have hi2:i=(Ke.words k).length:=by omega
 have hfull:MF (Ke.words k) i=(Ke.words k).map Ke.plainW:=by rw[hi2];unfold MF;rw[List.take_length,List.drop_length,List.append_nil]
 rw[hfull]at hfbi;have hv:IG 9 I9 ((Ke.words k).map Ke.plainW) (.slice (some ⟨fb,0,none⟩) (Ke.words k).length (Ke.words k).length):= .inr ⟨fb,_,fsp,by rw[List.length_map],by rw[List.length_map];exact Nat.le_refl _,hfbi⟩;refine zX (a6W ((Ke.words k).map Ke.plainW) _ (by rw[List.length_map];omega) (by show(Ke.ZB k).length≤_;omega) _ hv) ?_;refine zV ?_;exact⟨rfl,rfl⟩
