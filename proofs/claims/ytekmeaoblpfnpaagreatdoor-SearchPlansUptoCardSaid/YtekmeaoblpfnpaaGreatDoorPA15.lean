/-
  Own texts on the laws of the seat, joined: the logic, and contracts of functions. Conditions: none.
-/
import Derived.Test.YtekmeaoblpfnpaaGreatDoorNmA
import Derived.Test.YtekmeaoblpfnpaaGreatDoorPA14
import Derived.Shelf.Spec.SlicesGrow
import Derived.Ground.Names8Prog
set_option linter.all false
set_option maxRecDepth 100000
set_option maxHeartbeats 40000000
section
namespace Go.Proofs.YtekmeaoblpfnpaaGreatDoor
open _root_.Go.Proofs.Tryz
open Go Go.Sx Go.Stab
structure QI where
  q:Cq.Qn
  p:Option Addr
  c:Nat
abbrev TQ:=QI×Nat
def tqC (x:TQ):List Value:=zT x.1.q x.1.p x.1.c
theorem BU x:(tqC x).length=5:=rfl
structure c6p where
  J:Heap
  X:List TQ
  U:List TQ
  V:List TQ
  Y:List TQ
abbrev EM (b:Nat) (l:List TQ) (sp:List Value):Nat×Obj:=(b,yX 32 (l.flatMap tqC++sp))
theorem a5k(b:Nat)(A X M Y B:List TQ)(c N a e n:Nat) sp (fv:Value)(hxy:X.length=Y.length)(hN:N=A.length+X.length+M.length+Y.length+B.length)(ha:a=A.length)(he:e=A.length+X.length+M.length)(hn:n=X.length)(hl:N≤1000000000) I:yY Tryz.prog 326 [.slice (some ⟨b,0,none⟩) N c,i64 (a:Int),i64 (e:Int),i64 (n:Int),fv] I [EM b (A++(X++(M++(Y++B)))) sp] (fun ev _ H'=>ev= .returned (.tuple #[])∧H'=[EM b (A++(Y++(M++(X++B)))) sp]):=by
 subst hn;refine zQ Tryz.func326 fun w0 hw0=>?_;refine yU 6 ?_;refine Cj.loop (ι:=Nat) (fun y=>y≤X.length) (fun y=>X.length-y) (fun y=>[(0,.slice (some ⟨b,0,none⟩) N c),(1,i64 (a:Int)),(2,i64 (e:Int)),(3,i64 (X.length:Int)),(10,i64 (y:Int))]) (fun y=>_) (fun y=>[EM b (YV A X M Y B y) sp]) 0 (Nat.zero_le _) ⟨rfl,rfl,rfl,rfl,rfl,trivial⟩ rfl (by rw[c0V]) ?_;intro k hk;have hln:=c3K A X M Y B k hxy;refine zK (fun hc1 hc1p=>?_) (fun hc1 hc1p=>?_)
 ·refine yU 4 ?_;obtain⟨x,y,hgx,hgy,hnx⟩:=c2b (A:=A) (M:=M) (B:=B) (k:=k) (by omega) hxy;rw[←ha]at hgx;rw[←he]at hgy;rw[←he,←ha]at hnx;refine Cj.EX [] [] 24 (by kernel_rfl) ?_;refine zW ((e+k)*5) ?_;refine yU 4 ?_;refine JA.fix AO (fun fx2=>?_);refine JA.tk 18 rfl fx2 (CY (off':=(a+k)*5) rfl rfl rfl BP yV (by omega) (by omega) (by omega)) ?_;refine JA.all [13,19] (by kernel_rfl) (by simp) ?_;intro i hi;simp only[List.mem_cons,List.not_mem_nil,or_false]at hi;rcases hi with rfl|rfl
  ·refine⟨_,rfl,rfl,?_⟩;refine AY (BJ zL yV (yZ.at 0 rfl) (EO BU hgy)) rfl rfl ?_;refine yU 1 ?_;refine zO 19 rfl (AY (BJ zL yV (yZ.at 0 rfl) (EO BU hgx)) rfl rfl ?_);refine zW ((a+k)*5) ?_;refine zO 21 rfl (CS 0 rfl rfl rfl rfl rfl rfl yV rfl rfl (GX (x:=y) BU (by first|omega|(simp only[List.length_set];omega))) AU.z ?_);refine zW ((e+k)*5) ?_;refine zO 23 rfl (CS 0 rfl rfl rfl rfl rfl rfl yV rfl rfl (GX (x:=x) BU (by first|omega|(simp only[List.length_set];omega))) AU.z ?_);refine yU 9 ?_;refine Ej.round (k+1) (by omega) (by omega) ⟨rfl,rfl,rfl,rfl,rfl,trivial⟩ rfl (by rw[hnx])
  refine⟨_,rfl,rfl,?_⟩;refine AY (BJ zL yV (yZ.at 0 rfl) (EO BU hgx)) rfl rfl ?_;refine yU 1 ?_;refine zO 13 rfl (AY (BJ zL yV (yZ.at 0 rfl) (EO BU hgy)) rfl rfl ?_);refine zW ((a+k)*5) ?_;refine zO 21 rfl (CS 0 rfl rfl rfl rfl rfl rfl yV rfl rfl (GX (x:=y) BU (by first|omega|(simp only[List.length_set];omega))) AU.z ?_);refine zW ((e+k)*5) ?_;refine zO 23 rfl (CS 0 rfl rfl rfl rfl rfl rfl yV rfl rfl (GX (x:=x) BU (by first|omega|(simp only[List.length_set];omega))) AU.z ?_);refine yU 9 ?_;refine Ej.round (k+1) (by omega) (by omega) ⟨rfl,rfl,rfl,rfl,rfl,trivial⟩ rfl (by rw[hnx])
 refine yU 4 ?_;refine Ej.QW rfl rfl ?_;exact⟨rfl,by rw[show k=X.length by omega,c3O rfl hxy.symm]⟩
theorem b6V(b:Nat)(A U V B:List TQ)(c N a m e:Nat) sp (fv:Value)(hU:U≠[])(hV:V≠[])(hN:N=A.length+U.length+V.length+B.length)(ha:a=A.length)(hm:m=A.length+U.length)(he:e=A.length+U.length+V.length)(hl:N≤1000000000) I:yY Tryz.prog 310 [.slice (some ⟨b,0,none⟩) N c,i64 (a:Int),i64 (m:Int),i64 (e:Int),fv] I [EM b (A++(U++(V++B))) sp] (fun ev _ H'=>ev= .returned (.tuple #[])∧H'=[EM b (A++(V++(U++B))) sp]):=by
 refine zQ Tryz.func310 fun w0 hw0=>?_;refine yU 5 ?_;refine J.ev 14 (i64 (U.length:Int)) rfl (congrArg i64 (by omega)) ?_;refine yU 8 ?_;refine J.ev 17 (i64 (V.length:Int)) rfl (congrArg i64 (by omega)) ?_;refine yU 5 ?_;refine Cj.loop (ι:=c6p) (fun y=>y.U≠[]∧y.V≠[]∧A.length+y.X.length+y.U.length=m∧y.X++(y.V++(y.U++y.Y))=V++U) (fun y=>y.U.length+y.V.length) (fun y=>[(0,.slice (some ⟨b,0,none⟩) N c),(2,i64 (m:Int)),(4,fv),(10,i64 (y.U.length:Int)),(11,i64 (y.V.length:Int))]) (fun y=>y.J) (fun y=>[EM b (A++(y.X++(y.U++(y.V++(y.Y++B))))) sp]) ⟨_,[],U,V,[]⟩ ⟨hU,hV,by dsimp only;rw[hm,List.length_nil];rfl,by dsimp only;simp⟩ ⟨rfl,rfl,rfl,rfl,rfl,trivial⟩ rfl (by simp) ?_;rintro⟨J1,X,U',V',Y⟩ ⟨hU',hV',hml,htg⟩;dsimp only at hU' hV' hml htg ⊢;have hU1:=List.length_pos_iff.2 hU';have hV1:=List.length_pos_iff.2 hV';have hlen:=congrArg List.length htg;simp only[List.length_append]at hlen;refine zK (fun hc1 hc1p=>?_) (fun hc1 hc1p=>?_)
 ·refine zK (fun hc2 hc2p=>?_) (fun hc2 hc2p=>?_)
  ·refine yU 1 ?_;obtain⟨U1,U2,rfl,h1⟩:=VK (l:=U') (k:=V'.length) (by omega);have hgt:V'.length<(U1++U2).length:=by omega
   refine yU 5 ?_;refine J.ev 27 (i64 ((A++X).length:Int)) rfl (congrArg i64 (by simp only[List.length_append]at *;omega)) ?_;refine yU 3 ?_;refine J.perm (H':=[EM b ((A++X)++(U1++(U2++(V'++(Y++B))))) sp]) (.of_eq (by simp only[List.append_assoc,List.nil_append,List.append_nil])) ?_;refine J.pull Pull.z ?_;refine AP (a5k b (A++X) U1 U2 V' (Y++B) c N (A++X).length m V'.length sp fv h1 (by simp only[List.length_append,List.length_nil]at *;omega) rfl (by simp only[List.length_append]at *;omega) h1.symm hl _) ?_;intro v3 I4 H5 hle6 hp7;obtain⟨h,rfl⟩:=hp7;cases h;refine yU 6 ?_;refine J.ev 34 (i64 (U2.length:Int)) rfl (congrArg i64 (by rw[List.length_append];omega)) ?_;refine yU 3 ?_;refine Ej.round ⟨_,X++V',U2,U1,Y⟩ ⟨List.ne_nil_of_length_pos (by dsimp only;simp only[List.length_append]at *;omega),List.ne_nil_of_length_pos (by dsimp only;simp only[List.length_append]at *;omega),(by dsimp only;simp only[List.length_append]at *;omega),by dsimp only;rw[←htg];simp only[List.append_assoc]⟩ (by dsimp only;simp only[List.length_append]at *;omega) ⟨rfl,rfl,rfl,rfl,(congrArg (fun n:Nat=>some (i64 (n:Int))) h1.symm),trivial⟩ rfl (by simp only[List.append_assoc,List.nil_append,List.append_nil])
  refine yU 1 ?_;obtain⟨V1,V2,rfl,h1⟩:=VK (l:=V') (k:=V'.length-U'.length) (by omega);have h2:V2.length=U'.length:=by rw[List.length_append]at *;omega
  refine yU 5 ?_;refine J.ev 38 (i64 ((A++X).length:Int)) rfl (congrArg i64 (by simp only[List.length_append]at *;omega)) ?_;refine yU 5 ?_;refine J.ev 43 (i64 ((m+V1.length:Nat):Int)) rfl (congrArg i64 (by rw[List.length_append]at *;omega)) ?_;refine yU 2 ?_;refine J.perm (H':=[EM b ((A++X)++(U'++(V1++(V2++(Y++B))))) sp]) (.of_eq (by simp only[List.append_assoc,List.nil_append,List.append_nil])) ?_;refine J.pull Pull.z ?_;refine AP (a5k b (A++X) U' V1 V2 (Y++B) c N (A++X).length (m+V1.length) U'.length sp fv h2.symm (by simp only[List.length_append,List.length_nil]at *;omega) rfl (by simp only[List.length_append]at *;omega) rfl hl _) ?_;intro v8 I9 H10 hle11 hp12;obtain⟨h,rfl⟩:=hp12;cases h;refine yU 6 ?_;refine J.ev 49 (i64 (V1.length:Int)) rfl (congrArg i64 (by rw[List.length_append]at *;omega)) ?_;refine yU 3 ?_;refine Ej.round ⟨_,X,V2,V1,U'++Y⟩ ⟨List.ne_nil_of_length_pos (by dsimp only;simp only[List.length_append]at *;omega),List.ne_nil_of_length_pos (by dsimp only;simp only[List.length_append]at *;omega),(by dsimp only;simp only[List.length_append]at *;omega),by dsimp only;rw[←htg];simp only[List.append_assoc]⟩ (by dsimp only;simp only[List.length_append]at *;omega) ⟨rfl,rfl,rfl,(congrArg (fun n:Nat=>some (i64 (n:Int))) h2.symm),rfl,trivial⟩ rfl (by simp only[List.append_assoc,List.nil_append,List.append_nil])
 refine yU 10 ?_;refine J.ev 53 (i64 ((A++X).length:Int)) rfl (congrArg i64 (by simp only[List.length_append]at *;omega)) ?_;refine yU 3 ?_;refine J.perm (H':=[EM b ((A++X)++(U'++([]++(V'++(Y++B))))) sp]) (.of_eq (by simp only[List.append_assoc,List.nil_append,List.append_nil])) ?_;refine J.pull Pull.z ?_;refine AP (a5k b (A++X) U' [] V' (Y++B) c N (A++X).length m U'.length sp fv (by omega) (by simp only[List.length_append,List.length_nil]at *;omega) rfl (by simp only[List.length_append,List.length_nil]at *;omega) rfl hl _) ?_;intro v13 I14 H15 hle16 hp17;obtain⟨h,rfl⟩:=hp17;cases h;refine yU 1 ?_;refine Ej.QW rfl rfl ?_;exact⟨rfl,by have h:=congrArg (fun t=>A++(t++B)) htg;simp only[List.append_assoc,List.nil_append,List.append_nil]at h ⊢;rw[h]⟩
end Go.Proofs.YtekmeaoblpfnpaaGreatDoor
end
section
namespace Go.Proofs.YtekmeaoblpfnpaaGreatDoor
open _root_.Go.Proofs.Tryz
open Go Go.Sx Go.Stab
abbrev GZ (x:QI):List Value:=zT x.q x.p x.c
structure a0g {σ:Type} (f:Nat) (cap:List Value) (hS:σ→HL) (Inv:Heap→σ→Prop) (lt:QI→QI→Bool) (Good:Heap→QI→Prop):Prop where
  call:∀(x y:QI) (I:Heap) (s:σ),Good I x→Good I y→Inv I s→yY Tryz.prog f ([.agg (GZ x).toArray,.agg (GZ y).toArray]++cap) I (hS s) (fun e I' H'=>∃(z:Int) (s':σ),e= .returned (i64 z)∧decide (z<0)=lt x y∧Inv I' s'∧H'=hS s')
  imono:∀{I I':Heap} {s:σ},Inv I s→Le I I'→Inv I' s
  gmono:∀{I I':Heap} {x:QI},Good I x→Le I I'→Good I' x
  sw:TM lt
structure c6x (σ:Type) where
  J:Heap
  k:Nat
  S:List TQ
  s:σ
structure c6n (σ:Type) where
  J:Heap
  P:List TQ
  Q:List TQ
  s:σ
theorem c3o{α:Type}{lt}(M:List (α×Nat)):BK lt (M.take 1):=by
  cases M with
  |nil=>exact List.Pairwise.nil
  |cons a r=>exact List.pairwise_singleton _ _
theorem b0v{α:Type}{l:List α}{k x}(h:l[k]?=some x):l.drop k=x::l.drop (k+1):=by
  obtain⟨hl,he⟩:=List.getElem?_eq_some_iff.1 h;rw[List.drop_eq_getElem_cons hl,he]
theorem b4e{σ:Type}{f cap hS}{Inv:Heap→σ→Prop}{lt}{Good:Heap→QI→Prop}(hC:a0g f cap hS Inv lt Good)(b:Nat)(A M B:List TQ)(c N a e:Nat) sp (hN:N=A.length+M.length+B.length)(ha:a=A.length)(he:e=A.length+M.length)(hl:N≤1000000000)(ht:Tags M) I s0 (hI:Inv I s0)(hG:∀x∈M,Good I x.1):
    yY Tryz.prog 284 [.slice (some ⟨b,0,none⟩) N c,i64 (a:Int),i64 (e:Int),.func (.func f) ([]:List Value).toArray cap.toArray] I ([EM b (A++(M++B)) sp]++hS s0) (fun ev I' H'=>∃M' s',ev= .returned (.tuple #[])∧M'.Perm M∧BK lt M'∧Inv I' s'∧H'=[EM b (A++(M'++B)) sp]++hS s'):=by
 refine zQ Tryz.func284 fun w0 hw0=>?_;refine yU 8 ?_;refine Cj.loop (ι:=c6x σ) (fun y=>1≤y.k∧y.S.Perm (M.take y.k)∧BK lt y.S∧Le I y.J∧Inv y.J y.s) (fun y=>M.length+1-y.k) (fun y=>[(0,.slice (some ⟨b,0,none⟩) N c),(1,i64 (a:Int)),(2,i64 (e:Int)),(3,.func (.func f) ([]:List Value).toArray cap.toArray),(8,i64 ((a+y.k:Nat):Int))]) (fun y=>y.J) (fun y=>[EM b (A++(y.S++(M.drop y.k++B))) sp]++hS y.s) ⟨_,1,M.take 1,s0⟩ ⟨Nat.le_refl _,.refl _,c3o M,Le.refl _,hI⟩ ⟨rfl,rfl,rfl,rfl,rfl,trivial⟩ rfl (by dsimp only;rw[←List.append_assoc (M.take 1),List.take_append_drop]) ?_;rintro⟨J1,k,S,s1⟩ ⟨hk1,hSp,hSs,hIJ,hI1⟩;dsimp only at hk1 hSp hSs hIJ hI1 ⊢;have hSl:=hSp.length_eq;rw[List.length_take]at hSl;refine zK (fun hc1 hc1p=>?_) (fun hc1 hc1p=>?_)
 ·refine yU 5 ?_;have hkl:k<M.length:=by omega
  obtain⟨x,hx⟩:∃x,M[k]?=some x:=⟨_,BM hkl⟩;have hSk:S.length=k:=by omega
  rw[b0v hx];have hxm:x∈M:=CX hx;refine yU 6 ?_;refine Cj.loop (ι:=c6n σ) (fun y=>YI lt M k y.P x y.Q∧Le I y.J∧Inv y.J y.s) (fun y=>y.P.length) (fun y=>[(0,.slice (some ⟨b,0,none⟩) N c),(1,i64 (a:Int)),(2,i64 (e:Int)),(3,.func (.func f) ([]:List Value).toArray cap.toArray),(8,i64 ((a+k:Nat):Int)),(9,i64 ((a+y.P.length:Nat):Int))]) (fun y=>y.J) (fun y=>[EM b (UN A y.P x y.Q (M.drop (k+1)++B)) sp]++hS y.s) ⟨_,S,[],s1⟩ ⟨YI.start hx hSp hSs,hIJ,hI1⟩ ⟨rfl,rfl,rfl,rfl,rfl,(congrArg (fun n:Nat=>some (i64 ((a+n:Nat):Int))) hSk.symm),trivial⟩ rfl rfl ?_;rintro⟨J2,P,Q,s2⟩ ⟨hin,hIJ,hI2⟩;dsimp only at hin hIJ hI2 ⊢;rcases List.eq_nil_or_concat P with rfl|⟨P',y,hPe⟩
  ·skip
   refine yU 2 ?_;refine Cj.EX [0] [] 17 (by kernel_rfl) ?_;refine JA.fix AO (fun fx2=>?_);refine JA.tk 0 rfl fx2 qq2 ?_;refine JA.tk 1 rfl fx2 qq2 ?_;refine JA.tk 2 rfl fx2 (b2v rfl rfl rfl) ?_;refine JA.tk 3 rfl fx2 qq2 ?_;refine JA.tkS 4 3 21 true _ rfl fx2 rfl rfl (.inl (congrArg Value.bool (decide_eq_false (by rw[List.length_nil];omega)))) ?_;refine JA.tkS 5 3 21 true _ rfl fx2 rfl rfl (.inl (congrArg Value.bool (decide_eq_false (by rw[List.length_nil];omega)))) ?_;refine JA.tkS 6 3 21 true _ rfl fx2 rfl rfl (.inl (congrArg Value.bool (decide_eq_false (by rw[List.length_nil];omega)))) ?_;refine JA.tkS 7 3 21 true _ rfl fx2 rfl rfl (.inl (congrArg Value.bool (decide_eq_false (by rw[List.length_nil];omega)))) ?_;refine JA.tkS 8 3 21 true _ rfl fx2 rfl rfl (.inl (congrArg Value.bool (decide_eq_false (by rw[List.length_nil];omega)))) ?_;refine JA.tkS 9 3 21 true _ rfl fx2 rfl rfl (.inl (congrArg Value.bool (decide_eq_false (by rw[List.length_nil];omega)))) ?_;refine JA.tkS 10 3 21 true _ rfl fx2 rfl rfl (.inl (congrArg Value.bool (decide_eq_false (by rw[List.length_nil];omega)))) ?_;refine JA.tkS 11 3 21 true _ rfl fx2 rfl rfl (.inl (congrArg Value.bool (decide_eq_false (by rw[List.length_nil];omega)))) ?_;refine JA.tkS 12 3 21 true _ rfl fx2 rfl rfl (.inl (congrArg Value.bool (decide_eq_false (by rw[List.length_nil];omega)))) ?_;refine JA.tkS 13 3 21 true _ rfl fx2 rfl rfl (.inl (congrArg Value.bool (decide_eq_false (by rw[List.length_nil];omega)))) ?_;refine JA.tkS 14 3 21 true _ rfl fx2 rfl rfl (.inl (congrArg Value.bool (decide_eq_false (by rw[List.length_nil];omega)))) ?_;refine JA.tkS 15 3 21 true _ rfl fx2 rfl rfl (.inl (congrArg Value.bool (decide_eq_false (by rw[List.length_nil];omega)))) ?_;refine JA.tk 16 rfl fx2 (ZA rfl rfl (decide_eq_false (by rw[List.length_nil];omega)) rfl) ?_;refine EW ?_;refine Ej.seq (Cj.cond rfl (fun hc3=>Bool.noConfusion (Eq.trans (Eq.symm rfl) hc3)) (fun hc3=>?_));refine Cj.exit (Ej.a3Z (Ej.a1p (Ej.a1b (Ej.OZ (Ej.seq (Cj.region (J.z qq2 ?_)))))));refine J.z (NQ rfl rfl rfl (IU (by omega))) ?_;refine J.z EP ?_;refine J.nil ?_;refine Ej.round ⟨_,k+1,[]++x::Q,s2⟩ ⟨by dsimp only;omega,(hin.done hC.sw ht (fun z hz=>by simp at hz)).1,(hin.done hC.sw ht (fun z hz=>by simp at hz)).2,hIJ,hI2⟩ (by dsimp only;omega) ⟨rfl,rfl,rfl,rfl,rfl,trivial⟩ rfl (by unfold UN;simp only[List.append_assoc,List.cons_append,List.nil_append])
  obtain rfl:P=P'++[y]:=by rw[hPe,List.concat_eq_append]
  have hPl:(P'++[y]).length=P'.length+1:=by simp
  have hym:y∈M:=List.mem_of_mem_take (hin.perm.mem_iff.1 (by simp));have hgx:=b4A (A:=A) (P:=P'++[y]) (x:=x) (Q:=Q) (R:=(M.drop (k+1)++B)) (j:=a+(P'++[y]).length) (by rw[ha]);obtain⟨hgy,hnx⟩:=a9c (A:=A) (P:=P') (x:=x) (y:=y) (Q:=Q) (R:=(M.drop (k+1)++B)) (j:=a+P'.length) (by rw[ha]);have hil:=b1G A (P'++[y]) x Q (M.drop (k+1)++B);have hGx:=hC.gmono (hG x hxm) hIJ;have hGy:=hC.gmono (hG y hym) hIJ;have hml:=hin.perm.length_eq;rw[List.length_append,List.length_take]at hml;simp only[List.length_append,List.length_drop,List.length_cons,List.length_nil]at hil;refine yU 2 ?_;refine Cj.EX [0] [] 17 (by kernel_rfl) ?_;refine JA.fix AO (fun fx4=>?_);refine JA.tk 0 rfl fx4 qq2 ?_;refine JA.tk 1 rfl fx4 qq2 ?_;refine JA.tk 2 rfl fx4 (b2v rfl rfl rfl) ?_;refine JA.tk 3 rfl fx4 qq2 ?_;refine JA.tkG 4 3 21 true _ rfl fx4 rfl rfl (decide_eq_true (by omega)) qq2 ?_;refine JA.tkG 5 3 21 true _ rfl fx4 rfl rfl (decide_eq_true (by omega)) qq2 ?_;refine JA.tkG 6 3 21 true _ rfl fx4 rfl rfl (decide_eq_true (by omega)) qq2 ?_;refine JA.tkG 7 3 21 true _ rfl fx4 rfl rfl (decide_eq_true (by omega)) (CY (off':=(a+(P'++[y]).length)*5) rfl rfl rfl BP yV (by omega) (by omega) (by omega)) ?_;refine JA.tkG 8 3 21 true _ rfl fx4 rfl rfl (decide_eq_true (by omega)) (BJ zL yV (yZ.atC 0 rfl) (EO BU hgx)) ?_;refine JA.tkG 9 3 21 true _ rfl fx4 rfl rfl (decide_eq_true (by omega)) qq2 ?_;refine JA.tkG 10 3 21 true _ rfl fx4 rfl rfl (decide_eq_true (by omega)) qq2 ?_;refine JA.tkG 11 3 21 true _ rfl fx4 rfl rfl (decide_eq_true (by omega)) (RI rfl rfl rfl (IU (by omega))) ?_;refine JA.eqv 29 rfl (show _=i64 ((a+P'.length:Nat):Int) from(congrArg i64 (by omega))) ?_;refine JA.tkG 12 3 21 true _ rfl fx4 rfl rfl (decide_eq_true (by omega)) (CY (off':=(a+P'.length)*5) rfl rfl rfl BP yV (by omega) (by omega) (by omega)) ?_;refine JA.tkG 13 3 21 true _ rfl fx4 rfl rfl (decide_eq_true (by omega)) (BJ zL yV (yZ.atC 0 rfl) (EO BU hgy)) ?_;refine JA.stepG 14 3 21 true _ (by kernel_rfl) rfl rfl rfl rfl (decide_eq_true (by omega)) (NJ (H1:=hS s2) [_] rfl rfl rfl rfl rfl rfl (hC.call x.1 y.1 _ s2 hGx hGy hI2) ?_ (fun _ _ _ _ ⟨_,_,h,_⟩=>by cases h) (fun _ _ ⟨_,_,h,_⟩=>by cases h));intro v5 I6 H7 hle8 hp9;have hIJ:=hIJ.mono hle8;obtain⟨z,s3,h,hz,hI3,rfl⟩:=hp9;cases h;refine⟨⟨(Le.trans (Le.refl _) hle8),(HSub.c 0 rfl HSub.n),CSub.n⟩,?_⟩;refine JA.fix AO (fun fx10=>?_);refine JA.tkG 15 3 21 true _ rfl fx10 rfl rfl (decide_eq_true (by omega)) (a6J rfl rfl rfl) ?_;refine JA.eqv 33 rfl (show _= .bool (lt x.1 y.1) from(congrArg Value.bool hz)) ?_;refine JA.zt 16 rfl (a4T rfl rfl (decide_eq_true (by omega)) rfl) ?_;refine DI (fun hc11=>?_) (fun hc11=>?_)
  ·refine yU 4 ?_;refine Cj.EX [] [] 18 (by kernel_rfl) ?_;refine yU 5 ?_;refine JA.ev 41 (i64 ((a+P'.length:Nat):Int)) rfl (congrArg i64 (by omega)) ?_;refine yU 3 ?_;refine JA.ev 44 (i64 ((a+P'.length:Nat):Int)) rfl (congrArg i64 (by omega)) ?_;refine zW ((a+P'.length)*5) ?_;refine yU 2 ?_;refine JA.fix AO (fun fx12=>?_);refine JA.tk 12 rfl fx12 (CY (off':=(a+(P'++[y]).length)*5) rfl rfl rfl BP yV (by omega) (by omega) (by omega)) ?_;refine JA.all [9,13] (by kernel_rfl) (by simp) ?_;intro i hi;simp only[List.mem_cons,List.not_mem_nil,or_false]at hi;rcases hi with rfl|rfl
   ·refine⟨_,rfl,rfl,?_⟩;refine AY (BJ zL yV (yZ.at 0 rfl) (EO BU hgy)) rfl rfl ?_;refine yU 1 ?_;refine zO 13 rfl (AY (BJ zL yV (yZ.at 0 rfl) (EO BU hgx)) rfl rfl ?_);refine zW ((a+P'.length+1)*5) ?_;refine zO 15 rfl (CS 0 rfl rfl rfl rfl rfl rfl yV rfl rfl (GX (x:=y) BU (by first|omega|(simp only[List.length_set];omega))) AU.z ?_);refine zW ((a+P'.length)*5) ?_;refine zO 17 rfl (CS 0 rfl rfl rfl rfl rfl rfl yV rfl rfl (GX (x:=x) BU (by first|omega|(simp only[List.length_set];omega))) AU.z ?_);refine yU 7 ?_;refine J.ev 36 (i64 ((a+P'.length:Nat):Int)) rfl (congrArg i64 (by omega)) ?_;refine yU 2 ?_;refine Ej.round ⟨_,P',y::Q,s3⟩ ⟨hin.down hc11,hIJ,hI3⟩ (by dsimp only;omega) ⟨rfl,rfl,rfl,rfl,rfl,rfl,trivial⟩ rfl (by dsimp only;rw[hnx];rfl)
   refine⟨_,rfl,rfl,?_⟩;refine AY (BJ zL yV (yZ.at 0 rfl) (EO BU hgx)) rfl rfl ?_;refine yU 1 ?_;refine zO 9 rfl (AY (BJ zL yV (yZ.at 0 rfl) (EO BU hgy)) rfl rfl ?_);refine zW ((a+P'.length+1)*5) ?_;refine zO 15 rfl (CS 0 rfl rfl rfl rfl rfl rfl yV rfl rfl (GX (x:=y) BU (by first|omega|(simp only[List.length_set];omega))) AU.z ?_);refine zW ((a+P'.length)*5) ?_;refine zO 17 rfl (CS 0 rfl rfl rfl rfl rfl rfl yV rfl rfl (GX (x:=x) BU (by first|omega|(simp only[List.length_set];omega))) AU.z ?_);refine yU 7 ?_;refine J.ev 36 (i64 ((a+P'.length:Nat):Int)) rfl (congrArg i64 (by omega)) ?_;refine yU 2 ?_;refine Ej.round ⟨_,P',y::Q,s3⟩ ⟨hin.down hc11,hIJ,hI3⟩ (by dsimp only;omega) ⟨rfl,rfl,rfl,rfl,rfl,rfl,trivial⟩ rfl (by dsimp only;rw[hnx];rfl)
  refine yU 11 ?_;refine Ej.round ⟨_,k+1,(P'++[y])++x::Q,s3⟩ ⟨by dsimp only;omega,(hin.done hC.sw ht (fun z hz=>by rw[List.getLast?_concat]at hz;cases hz;exact hc11)).1,(hin.done hC.sw ht (fun z hz=>by rw[List.getLast?_concat]at hz;cases hz;exact hc11)).2,hIJ,hI3⟩ (by dsimp only;omega) ⟨rfl,rfl,rfl,rfl,rfl,trivial⟩ rfl (by unfold UN;simp only[List.append_assoc,List.cons_append,List.nil_append])
 refine yU 4 ?_;refine Ej.QW rfl rfl ?_;have hkM:M.length≤k:=by omega
 rw[List.take_of_length_le hkM]at hSp;exact⟨S,s1,rfl,hSp,hSs,hI1,by rw[List.drop_eq_nil_of_le hkM];rfl⟩
end Go.Proofs.YtekmeaoblpfnpaaGreatDoor
end
namespace Go.Sx
open Go
section
variable {cx:Cx} {o:Oper} {e:Env} {S:World→Prop}
theorem a3X{x y T U k k' p}(ho:o.op= .binOp .shr T x y U)(hx:ev e x=some (.int k p))(hy:ev e y=some (.int k' 1))(hb:min 1 k.bits=1):BO cx o e S (.int k (p.fdiv 2)):=by
  intro a w ha _;simp[execOp,ho,ha.eval hx,ha.eval hy,eqGuard,binOp,Op.shift,hb]
theorem b7k{n:Nat}(h:n≤4000000000):IntKind.u64.wrap (n:Int)=(n:Int):=by
  unfold IntKind.wrap;simp only[IntKind.bits,IntKind.signed,Bool.false_and,Bool.false_eq_true,if_false];omega
theorem c4t{n:Nat}:((n:Int)).fdiv 2=((n / 2:Nat):Int):=by
  rw[Int.fdiv_eq_ediv_of_nonneg _ (by decide)];omega
theorem a6b{i j:Nat}(h:i+j≤4000000000):Value.int .i64 (IntKind.i64.wrap ((IntKind.u64.wrap ((i:Int)+(j:Int))).fdiv 2))=i64 (((i+j) / 2:Nat):Int):=by
  rw[show(i:Int)+(j:Int)=((i+j:Nat):Int) by omega,b7k h,c4t,IU (by omega)]
end
end Go.Sx
section
namespace Go.Stab
open _root_.Go.Proofs.Tryz
theorem b5o{τ:Type}{A L R:List τ}{t n y}(h:L[t]?=some y)(hn:n=A.length+t):(A++(L++R))[n]?=some y:=by
  subst hn;have hl:=(List.getElem?_eq_some_iff.1 h).1;rw[List.getElem?_append_right (by omega),Nat.add_sub_cancel_left,List.getElem?_append_left hl];exact h
theorem b5U{τ:Type}{A L R B:List τ}{t n y}(h:R[t]?=some y)(hn:n=A.length+L.length+t):(A++(L++(R++B)))[n]?=some y:=by
  rw[←List.append_assoc];exact b5o h (by rw[List.length_append];exact hn)
def rise {τ:Type} (A P:List τ) (x:τ) (C:List τ) (t:Nat):List τ:=A++(P.take t++x::(P.drop t++C))
theorem c1J{τ:Type}(A P:List τ)(x:τ)(C:List τ)(t:Nat):(rise A P x C t).length=A.length+P.length+1+C.length:=by
  unfold rise;simp only[List.length_append,List.length_cons,List.length_take,List.length_drop];omega
theorem b8T{τ:Type}{A P:List τ}{x C}{t n:Nat}(ht:t<P.length)(hn:n=A.length+t):∃z,(rise A P x C t)[n]?=some x∧(rise A P x C t)[n+1]?=some z∧((rise A P x C t).set n z).set (n+1) x=rise A P x C (t+1):=by
  obtain⟨P1,z,P2,rfl,h1⟩:=a5b ht;have e:rise A (P1++z::P2) x C t=(A++P1)++x::z::(P2++C):=by
    unfold rise;rw[List.take_left' h1,List.drop_left' h1];simp
  have e2:rise A (P1++z::P2) x C (t+1)=((A++P1)++[z])++x::(P2++C):=by
    unfold rise;rw[List.append_cons P1,List.take_left' (l₁:=P1++[z]) (by simp[h1]),List.drop_left' (l₁:=P1++[z]) (by simp[h1])];simp
  refine⟨z,?_,?_,?_⟩
  · rw[e];exact VR (by simp[h1,hn])
  · rw[e,List.append_cons (A++P1) x];exact VR (by simp[h1,hn];omega)
  rw[e,e2,set_mid (by simp[h1,hn]),List.append_cons (A++P1) z,set_mid (by simp[h1,hn];omega)]
end Go.Stab
namespace Go.Proofs.YtekmeaoblpfnpaaGreatDoor
open Go Go.Sx Go.Stab
structure MrS (σ:Type) where
  J:Heap
  M:List TQ
  s:σ
structure BsS (σ:Type) where
  J:Heap
  i:Nat
  j:Nat
  s:σ
theorem c2W{σ:Type}{f cap hS}{Inv:Heap→σ→Prop}{lt}{Good:Heap→QI→Prop}(hC:a0g f cap hS Inv lt Good)(b:Nat)(A L R B:List TQ)(c N a m e:Nat) sp (hN:N=A.length+L.length+R.length+B.length)(ha:a=A.length)(hm:m=A.length+L.length)(he:e=A.length+L.length+R.length)(hl:N≤1000000000)(hL:BK lt L)(hR:BK lt R)(hlow:Low L R)(h1:L.length=1) I s0 (hI:Inv I s0)(hG:∀x∈L++R,Good I x.1):
    yY Tryz.prog 285 [.slice (some ⟨b,0,none⟩) N c,i64 (a:Int),i64 (m:Int),i64 (e:Int),.func (.func f) ([]:List Value).toArray cap.toArray] I ([EM b (A++(L++(R++B))) sp]++hS s0) (fun ev I' H'=>∃M' s',ev= .returned (.tuple #[])∧M'.Perm (L++R)∧BK lt M'∧Inv I' s'∧H'=[EM b (A++(M'++B)) sp]++hS s'):=by
 obtain⟨x,rfl⟩:=List.length_eq_one_iff.1 h1;have h1:([x]:List TQ).length=1:=rfl;refine zQ Tryz.func285 fun w0 hw0=>?_;refine yU 9 ?_;refine Cj.cond rfl (fun hc1=>?_) (fun hc1=>Bool.noConfusion (Eq.trans (Eq.symm (by rw[beq_iff_eq];omega)) hc1));refine yU 14 ?_;refine Cj.loop (ι:=BsS σ) (fun y=>m≤y.i∧y.i≤y.j∧y.j≤e∧(y.i=m∨∃z,R[y.i-1-m]?=some z∧lt z.1 x.1=true)∧(y.j=e∨∃z,R[y.j-m]?=some z∧lt z.1 x.1=false)∧Le I y.J∧Inv y.J y.s) (fun y=>y.j-y.i) (fun y=>[(0,.slice (some ⟨b,0,none⟩) N c),(1,i64 (a:Int)),(2,i64 (m:Int)),(3,i64 (e:Int)),(4,.func (.func f) ([]:List Value).toArray cap.toArray),(10,i64 (y.i:Int)),(11,i64 (y.j:Int))]) (fun y=>y.J) (fun y=>[EM b (A++([x]++(R++B))) sp]++hS y.s) ⟨_,m,e,s0⟩ ⟨Nat.le_refl _,by dsimp only;omega,Nat.le_refl _,.inl rfl,.inl rfl,Le.refl _,hI⟩ ⟨rfl,rfl,rfl,rfl,rfl,rfl,rfl,trivial⟩ rfl rfl ?_;rintro⟨J1,i,j,s1⟩ ⟨hmi,hij,hje,hlo,hhi,hIJ,hI1⟩;dsimp only at hmi hij hje hlo hhi hIJ hI1 ⊢;refine zK (fun hc2 hc2p=>?_) (fun hc2 hc2p=>?_)
 ·refine yU 4 ?_;obtain⟨hh,hhe⟩:∃hh:Nat,hh=(i+j) / 2:=⟨_,rfl⟩;refine yU 5 ?_;refine J.z (a3X rfl rfl rfl rfl) ?_;refine yU 1 ?_;refine J.ev 39 (i64 (hh:Int)) rfl ((a6b (by omega)).trans (by rw[hhe])) ?_;refine yU 4 ?_;obtain⟨y,hyR⟩:∃y,R[hh-m]?=some y:=⟨_,BM (by omega)⟩;have hgy:(A++([x]++(R++B)))[hh]?=some y:=b5U hyR (by omega);have hgx:(A++([x]++(R++B)))[a]?=some x:=VR ha;have hdl:(A++([x]++(R++B))).length=N:=by simp only[List.length_append];omega
  have hGy:=hC.gmono (hG y (List.mem_append_right _ (CX hyR))) hIJ;have hGx:=hC.gmono (hG x (.head _)) hIJ;refine Cj.EX [0] [] 11 (by kernel_rfl) ?_;refine zW (hh*5) ?_;refine JA.zt 4 rfl (BJ zL yV (yZ.atC 0 rfl) (EO BU hgy)) ?_;refine zW (a*5) ?_;refine JA.zt 8 rfl (BJ zL yV (yZ.atC 0 rfl) (EO BU hgx)) ?_;refine MJ [_] (hC.call y.1 x.1 _ s1 hGy hGx hI1) ?_;intro v4 I5 H6 hle7 hp8;have hIJ:=hIJ.mono hle7;obtain⟨z,s2,h,hz,hI2,rfl⟩:=hp8;cases h;refine yU 2 ?_;refine JA.ev 50 (.bool (lt y.1 x.1)) rfl (congrArg Value.bool hz) ?_;refine DI (fun hc10=>?_) (fun hc10=>?_)
  ·refine yU 6 ?_;refine Ej.round ⟨_,hh+1,j,s2⟩ ⟨by dsimp only;omega,by dsimp only;omega,hje,.inr ⟨y,by rw[show hh+1-1-m=hh-m by omega];exact hyR,hc10⟩,hhi,hIJ,hI2⟩ (by dsimp only;omega) ⟨rfl,rfl,rfl,rfl,rfl,rfl,rfl,trivial⟩ rfl rfl
  refine yU 5 ?_;refine Ej.round ⟨_,i,hh,s2⟩ ⟨hmi,by dsimp only;omega,by dsimp only;omega,hlo,.inr ⟨y,hyR,hc10⟩,hIJ,hI2⟩ (by dsimp only;omega) ⟨rfl,rfl,rfl,rfl,rfl,rfl,rfl,trivial⟩ rfl rfl
 refine yU 7 ?_;obtain rfl:i=j:=by omega
 obtain⟨R1,R2,rfl,hR1⟩:=VK (l:=R) (k:=i-m) (by omega);have hR2:(R1++R2).length=R1.length+R2.length:=List.length_append;refine yU 6 ?_;refine Cj.loop (ι:=Nat) (fun t=>t≤R1.length) (fun t=>R1.length-t) (fun t=>[(0,.slice (some ⟨b,0,none⟩) N c),(1,i64 (a:Int)),(2,i64 (m:Int)),(3,i64 (e:Int)),(4,.func (.func f) ([]:List Value).toArray cap.toArray),(10,i64 (i:Int)),(13,i64 ((a+t:Nat):Int))]) (fun t=>_) (fun t=>[EM b (rise A R1 x (R2++B) t) sp]++hS s1) 0 (Nat.zero_le _) ⟨rfl,rfl,rfl,rfl,rfl,rfl,rfl,trivial⟩ rfl (by unfold rise;simp only[List.take_zero,List.drop_zero,List.nil_append,List.append_assoc,List.singleton_append]) ?_;intro t ht;have hrl:=c1J A R1 x (R2++B) t;rw[List.length_append]at hrl;refine zK (fun hc11 hc11p=>?_) (fun hc11 hc11p=>?_)
 ·refine yU 4 ?_;have htl:t<R1.length:=by omega
  obtain⟨z,hgx,hgz,hnx⟩:=b8T (A:=A) (x:=x) (C:=R2++B) (n:=a+t) htl (by rw[ha]);refine Cj.EX [] [] 18 (by kernel_rfl) ?_;refine zW ((a+t+1)*5) ?_;refine yU 2 ?_;refine JA.fix AO (fun fx12=>?_);refine JA.tk 12 rfl fx12 (CY (off':=(a+t)*5) rfl rfl rfl BP yV (by omega) (by omega) (by omega)) ?_;refine JA.all [9,13] (by kernel_rfl) (by simp) ?_;intro i hi;simp only[List.mem_cons,List.not_mem_nil,or_false]at hi;rcases hi with rfl|rfl
  ·refine⟨_,rfl,rfl,?_⟩;refine AY (BJ zL yV (yZ.at 0 rfl) (EO BU hgz)) rfl rfl ?_;refine yU 1 ?_;refine zO 13 rfl (AY (BJ zL yV (yZ.at 0 rfl) (EO BU hgx)) rfl rfl ?_);refine zW ((a+t)*5) ?_;refine zO 15 rfl (CS 0 rfl rfl rfl rfl rfl rfl yV rfl rfl (GX (x:=z) BU (by first|omega|(simp only[List.length_set];omega))) AU.z ?_);refine zW ((a+t+1)*5) ?_;refine zO 17 rfl (CS 0 rfl rfl rfl rfl rfl rfl yV rfl rfl (GX (x:=x) BU (by first|omega|(simp only[List.length_set];omega))) AU.z ?_);refine yU 9 ?_;refine Ej.round (t+1) (by omega) (by omega) ⟨rfl,rfl,rfl,rfl,rfl,rfl,rfl,trivial⟩ rfl (by rw[hnx];rfl)
  refine⟨_,rfl,rfl,?_⟩;refine AY (BJ zL yV (yZ.at 0 rfl) (EO BU hgx)) rfl rfl ?_;refine yU 1 ?_;refine zO 9 rfl (AY (BJ zL yV (yZ.at 0 rfl) (EO BU hgz)) rfl rfl ?_);refine zW ((a+t)*5) ?_;refine zO 15 rfl (CS 0 rfl rfl rfl rfl rfl rfl yV rfl rfl (GX (x:=z) BU (by first|omega|(simp only[List.length_set];omega))) AU.z ?_);refine zW ((a+t+1)*5) ?_;refine zO 17 rfl (CS 0 rfl rfl rfl rfl rfl rfl yV rfl rfl (GX (x:=x) BU (by first|omega|(simp only[List.length_set];omega))) AU.z ?_);refine yU 9 ?_;refine Ej.round (t+1) (by omega) (by omega) ⟨rfl,rfl,rfl,rfl,rfl,rfl,rfl,trivial⟩ rfl (by rw[hnx];rfl)
 refine yU 7 ?_;refine Ej.a5u rfl rfl ?_;have hte:t=R1.length:=by omega
 subst hte;refine⟨R1++x::R2,s1,rfl,List.perm_middle,BK.c1n hC.sw hR hlow (fun z hz=>?_) (fun z hz=>?_),hI1,by unfold rise;rw[List.take_length,List.drop_length];simp only[List.nil_append,List.append_assoc,List.cons_append]⟩
 · rcases hlo with h|⟨z',h1,h2⟩
   · have:R1=[]:=List.length_eq_zero_iff.1 (by omega);rw[this]at hz;cases hz
   have hp:0<R1.length:=List.length_pos_iff.2 (fun h=>by rw[h]at hz;cases hz);rw[List.getLast?_eq_getElem?]at hz;rw[List.getElem?_append_left (l₁:=R1) (i:=i-1-m) (by omega),show i-1-m=R1.length-1 by omega,hz]at h1;cases h1;exact h2
 rcases hhi with h|⟨z',h1,h2⟩
 · have:R2=[]:=List.length_eq_zero_iff.1 (by omega);rw[this]at hz;cases hz
 rw[List.head?_eq_getElem?]at hz;rw[List.getElem?_append_right (l₁:=R1) (i:=i-m) (by omega),show i-m-R1.length=0 by omega,hz]at h1;cases h1;exact h2
theorem c4K{σ:Type}{f cap hS}{Inv:Heap→σ→Prop}{lt}{Good:Heap→QI→Prop}(hC:a0g f cap hS Inv lt Good)(b:Nat)(A L R B:List TQ)(c N a m e:Nat) sp (hN:N=A.length+L.length+R.length+B.length)(ha:a=A.length)(hm:m=A.length+L.length)(he:e=A.length+L.length+R.length)(hl:N≤1000000000)(hL:BK lt L)(hR:BK lt R)(hlow:Low L R)(h0:L.length≠1)(h1:R.length=1) I s0 (hI:Inv I s0)(hG:∀x∈L++R,Good I x.1):
    yY Tryz.prog 285 [.slice (some ⟨b,0,none⟩) N c,i64 (a:Int),i64 (m:Int),i64 (e:Int),.func (.func f) ([]:List Value).toArray cap.toArray] I ([EM b (A++(L++(R++B))) sp]++hS s0) (fun ev I' H'=>∃M' s',ev= .returned (.tuple #[])∧M'.Perm (L++R)∧BK lt M'∧Inv I' s'∧H'=[EM b (A++(M'++B)) sp]++hS s'):=by
 obtain⟨y,rfl⟩:=List.length_eq_one_iff.1 h1;have h1:([y]:List TQ).length=1:=rfl;refine zQ Tryz.func285 fun w0 hw0=>?_;refine yU 9 ?_;refine Cj.cond rfl (fun hc1=>Bool.noConfusion (Eq.trans (Eq.symm (by rw[beq_eq_false_iff_ne];omega)) hc1)) (fun hc1=>?_);refine yU 11 ?_;refine Cj.cond rfl (fun hc2=>?_) (fun hc2=>Bool.noConfusion (Eq.trans (Eq.symm (by rw[beq_iff_eq];omega)) hc2));refine yU 14 ?_;refine Cj.loop (ι:=BsS σ) (fun t=>a≤t.i∧t.i≤t.j∧t.j≤m∧(t.i=a∨∃z,L[t.i-1-a]?=some z∧lt y.1 z.1=false)∧(t.j=m∨∃z,L[t.j-a]?=some z∧lt y.1 z.1=true)∧Le I t.J∧Inv t.J t.s) (fun t=>t.j-t.i) (fun t=>[(0,.slice (some ⟨b,0,none⟩) N c),(1,i64 (a:Int)),(2,i64 (m:Int)),(3,i64 (e:Int)),(4,.func (.func f) ([]:List Value).toArray cap.toArray),(14,i64 (t.i:Int)),(15,i64 (t.j:Int))]) (fun t=>t.J) (fun t=>[EM b (A++(L++([y]++B))) sp]++hS t.s) ⟨_,a,m,s0⟩ ⟨Nat.le_refl _,by dsimp only;omega,Nat.le_refl _,.inl rfl,.inl rfl,Le.refl _,hI⟩ ⟨rfl,rfl,rfl,rfl,rfl,rfl,rfl,trivial⟩ rfl rfl ?_;rintro⟨J1,i,j,s1⟩ ⟨hai,hij,hjm,hlo,hhi,hIJ,hI1⟩;dsimp only at hai hij hjm hlo hhi hIJ hI1 ⊢;refine zK (fun hc3 hc3p=>?_) (fun hc3 hc3p=>?_)
 ·refine yU 4 ?_;obtain⟨hh,hhe⟩:∃hh:Nat,hh=(i+j) / 2:=⟨_,rfl⟩;refine yU 5 ?_;refine J.z (a3X rfl rfl rfl rfl) ?_;refine yU 1 ?_;refine J.ev 91 (i64 (hh:Int)) rfl ((a6b (by omega)).trans (by rw[hhe])) ?_;refine yU 4 ?_;obtain⟨x,hxL⟩:∃x,L[hh-a]?=some x:=⟨_,BM (by omega)⟩;have hgx:(A++(L++([y]++B)))[hh]?=some x:=b5o hxL (by omega);have hgy:(A++(L++([y]++B)))[m]?=some y:=b5U (t:=0) rfl hm;have hdl:(A++(L++([y]++B))).length=N:=by simp only[List.length_append];omega
  have hGx:=hC.gmono (hG x (List.mem_append_left _ (CX hxL))) hIJ;have hGy:=hC.gmono (hG y (List.mem_append_right _ (.head _))) hIJ;refine Cj.EX [0] [] 12 (by kernel_rfl) ?_;refine zW (m*5) ?_;refine JA.zt 4 rfl (BJ zL yV (yZ.atC 0 rfl) (EO BU hgy)) ?_;refine zW (hh*5) ?_;refine JA.zt 8 rfl (BJ zL yV (yZ.atC 0 rfl) (EO BU hgx)) ?_;refine MJ [_] (hC.call y.1 x.1 _ s1 hGy hGx hI1) ?_;intro v5 I6 H7 hle8 hp9;have hIJ:=hIJ.mono hle8;obtain⟨z,s2,h,hz,hI2,rfl⟩:=hp9;cases h;refine yU 2 ?_;refine JA.ev 102 (.bool (lt y.1 x.1)) rfl (congrArg Value.bool hz) ?_;refine DI (fun hc11=>?_) (fun hc11=>?_)
  ·refine yU 6 ?_;refine Ej.round ⟨_,hh+1,j,s2⟩ ⟨by dsimp only;omega,by dsimp only;omega,hjm,.inr ⟨x,by rw[show hh+1-1-a=hh-a by omega];exact hxL,(by have h9:=hc11;simpa using h9)⟩,hhi,hIJ,hI2⟩ (by dsimp only;omega) ⟨rfl,rfl,rfl,rfl,rfl,rfl,rfl,trivial⟩ rfl rfl
  refine yU 5 ?_;refine Ej.round ⟨_,i,hh,s2⟩ ⟨hai,by dsimp only;omega,by dsimp only;omega,hlo,.inr ⟨x,hxL,(by have h9:=hc11;simpa using h9)⟩,hIJ,hI2⟩ (by dsimp only;omega) ⟨rfl,rfl,rfl,rfl,rfl,rfl,rfl,trivial⟩ rfl rfl
 refine yU 7 ?_;obtain rfl:i=j:=by omega
 obtain⟨L1,L2,rfl,hL1⟩:=VK (l:=L) (k:=i-a) (by omega);have hL2:(L1++L2).length=L1.length+L2.length:=List.length_append;refine yU 6 ?_;refine Cj.loop (ι:=Nat) (fun t=>t≤L2.length) (fun t=>t) (fun t=>[(0,.slice (some ⟨b,0,none⟩) N c),(1,i64 (a:Int)),(2,i64 (m:Int)),(3,i64 (e:Int)),(4,.func (.func f) ([]:List Value).toArray cap.toArray),(14,i64 (i:Int)),(17,i64 ((i+t:Nat):Int))]) (fun t=>_) (fun t=>[EM b (UN (A++L1) (L2.take t) y (L2.drop t) B) sp]++hS s1) L2.length (Nat.le_refl _) ⟨rfl,rfl,rfl,rfl,rfl,rfl,(congrArg (fun n:Nat=>some (i64 (n:Int))) (show m=i+L2.length by omega)),trivial⟩ rfl (by unfold UN;rw[List.take_length,List.drop_length];simp only[List.nil_append,List.append_assoc,List.singleton_append]) ?_;intro t ht;have hil:=b1G (A++L1) (L2.take t) y (L2.drop t) B;rw[List.length_append,List.length_take,List.length_drop]at hil;refine zK (fun hc12 hc12p=>?_) (fun hc12 hc12p=>?_)
 ·refine yU 4 ?_;have htl:t-1<L2.length:=by omega
  obtain⟨z,hzL⟩:∃z,L2[t-1]?=some z:=⟨_,BM htl⟩;have hdr:L2.drop (t-1)=z::L2.drop t:=by rw[b0v hzL,show t-1+1=t by omega]
  have htk:L2.take t=L2.take (t-1)++[z]:=by rw[show t=t-1+1 by omega,List.take_add_one,hzL];rfl
  obtain⟨hgz,hnx⟩:=a9c (A:=A++L1) (P:=L2.take (t-1)) (x:=y) (y:=z) (Q:=L2.drop t) (R:=B) (j:=i+(t-1)) (by rw[List.length_append,List.length_take];omega);have hgy:=b4A (A:=A++L1) (P:=L2.take (t-1)++[z]) (x:=y) (Q:=L2.drop t) (R:=B) (j:=i+t) (by rw[List.length_append,List.length_append,List.length_take];simp only[List.length_cons,List.length_nil];omega);rw[htk]at hil ⊢;rw[show i+(t-1)+1=i+t by omega]at hnx;refine Cj.EX [] [] 18 (by kernel_rfl) ?_;refine yU 5 ?_;refine JA.ev 117 (i64 ((i+(t-1):Nat):Int)) rfl (congrArg i64 (by omega)) ?_;refine yU 3 ?_;refine JA.ev 120 (i64 ((i+(t-1):Nat):Int)) rfl (congrArg i64 (by omega)) ?_;refine zW ((i+(t-1))*5) ?_;refine yU 2 ?_;refine JA.fix AO (fun fx13=>?_);refine JA.tk 12 rfl fx13 (CY (off':=(i+t)*5) rfl rfl rfl BP yV (by omega) (by omega) (by omega)) ?_;refine JA.all [9,13] (by kernel_rfl) (by simp) ?_;intro i hi;simp only[List.mem_cons,List.not_mem_nil,or_false]at hi;rcases hi with rfl|rfl
  ·refine⟨_,rfl,rfl,?_⟩;refine AY (BJ zL yV (yZ.at 0 rfl) (EO BU hgz)) rfl rfl ?_;refine yU 1 ?_;refine zO 13 rfl (AY (BJ zL yV (yZ.at 0 rfl) (EO BU hgy)) rfl rfl ?_);refine zW ((i+t)*5) ?_;refine zO 15 rfl (CS 0 rfl rfl rfl rfl rfl rfl yV rfl rfl (GX (x:=z) BU (by first|omega|(simp only[List.length_set];omega))) AU.z ?_);refine zW ((i+(t-1))*5) ?_;refine zO 17 rfl (CS 0 rfl rfl rfl rfl rfl rfl yV rfl rfl (GX (x:=y) BU (by first|omega|(simp only[List.length_set];omega))) AU.z ?_);refine yU 7 ?_;refine J.ev 112 (i64 ((i+(t-1):Nat):Int)) rfl (congrArg i64 (by omega)) ?_;refine yU 2 ?_;refine Ej.round (t-1) (by omega) (by omega) ⟨rfl,rfl,rfl,rfl,rfl,rfl,rfl,trivial⟩ rfl (by rw[hnx,←hdr];rfl)
  refine⟨_,rfl,rfl,?_⟩;refine AY (BJ zL yV (yZ.at 0 rfl) (EO BU hgy)) rfl rfl ?_;refine yU 1 ?_;refine zO 9 rfl (AY (BJ zL yV (yZ.at 0 rfl) (EO BU hgz)) rfl rfl ?_);refine zW ((i+t)*5) ?_;refine zO 15 rfl (CS 0 rfl rfl rfl rfl rfl rfl yV rfl rfl (GX (x:=z) BU (by first|omega|(simp only[List.length_set];omega))) AU.z ?_);refine zW ((i+(t-1))*5) ?_;refine zO 17 rfl (CS 0 rfl rfl rfl rfl rfl rfl yV rfl rfl (GX (x:=y) BU (by first|omega|(simp only[List.length_set];omega))) AU.z ?_);refine yU 7 ?_;refine J.ev 112 (i64 ((i+(t-1):Nat):Int)) rfl (congrArg i64 (by omega)) ?_;refine yU 2 ?_;refine Ej.round (t-1) (by omega) (by omega) ⟨rfl,rfl,rfl,rfl,rfl,rfl,rfl,trivial⟩ rfl (by rw[hnx,←hdr];rfl)
 refine yU 7 ?_;refine Ej.a5u rfl rfl ?_;have hte:t=0:=by omega
 subst hte;refine⟨L1++y::L2,s1,rfl,List.perm_middle.trans (List.perm_append_comm (l₁:=[y])),BK.b6X hC.sw hL hlow (fun z hz=>?_) (fun z hz=>?_),hI1,by unfold UN;simp only[List.take_zero,List.drop_zero,List.nil_append,List.append_assoc,List.cons_append]⟩
 · rcases hlo with h|⟨z',h1,h2⟩
   · have:L1=[]:=List.length_eq_zero_iff.1 (by omega);rw[this]at hz;cases hz
   have hp:0<L1.length:=List.length_pos_iff.2 (fun h=>by rw[h]at hz;cases hz);rw[List.getLast?_eq_getElem?]at hz;rw[List.getElem?_append_left (l₁:=L1) (i:=i-1-a) (by omega),show i-1-a=L1.length-1 by omega,hz]at h1;cases h1;exact h2
 rcases hhi with h|⟨z',h1,h2⟩
 · have:L2=[]:=List.length_eq_zero_iff.1 (by omega);rw[this]at hz;cases hz
 rw[List.head?_eq_getElem?]at hz;rw[List.getElem?_append_right (l₁:=L1) (i:=i-a) (by omega),show i-a-L1.length=0 by omega,hz]at h1;cases h1;exact h2
def b4j {σ:Type} (f:Nat) (cap:List Value) (hS:σ→HL) (Inv:Heap→σ→Prop) (lt:QI→QI→Bool) (Good:Heap→QI→Prop) (b c:Nat) (sp:List Value) (n:Nat):Prop:=
  ∀(A L R B:List TQ) (N a m e:Nat),N=A.length+L.length+R.length+B.length→a=A.length→m=A.length+L.length→e=A.length+L.length+R.length→N≤1000000000→BK lt L→BK lt R→Low L R→0<L.length→0<R.length→L.length+R.length≤n→
    ∀(I:Heap) (s0:σ),Inv I s0→(∀x∈L++R,Good I x.1)→yY Tryz.prog 285 [.slice (some ⟨b,0,none⟩) N c,i64 (a:Int),i64 (m:Int),i64 (e:Int),.func (.func f) ([]:List Value).toArray cap.toArray] I ([EM b (A++(L++(R++B))) sp]++hS s0) (fun ev I' H'=>∃M' s',ev= .returned (.tuple #[])∧M'.Perm (L++R)∧BK lt M'∧Inv I' s'∧H'=[EM b (A++(M'++B)) sp]++hS s')
theorem c4i{σ:Type}{f cap hS}{Inv:Heap→σ→Prop}{lt}{Good:Heap→QI→Prop}(hC:a0g f cap hS Inv lt Good) b (A L R B:List TQ)(c N a m e:Nat) sp (hN:N=A.length+L.length+R.length+B.length)(ha:a=A.length)(hm:m=A.length+L.length)(he:e=A.length+L.length+R.length)(hl:N≤1000000000)(hL:BK lt L)(hR:BK lt R)(hlow:Low L R)(n:Nat)(ih:∀k,k<n→b4j f cap hS Inv lt Good b c sp k)(hn:L.length+R.length≤n)(h1:2≤L.length)(h2:2≤R.length) I s0 (hI:Inv I s0)(hG:∀x∈L++R,Good I x.1):
    yY Tryz.prog 285 [.slice (some ⟨b,0,none⟩) N c,i64 (a:Int),i64 (m:Int),i64 (e:Int),.func (.func f) ([]:List Value).toArray cap.toArray] I ([EM b (A++(L++(R++B))) sp]++hS s0) (fun ev I' H'=>∃M' s',ev= .returned (.tuple #[])∧M'.Perm (L++R)∧BK lt M'∧Inv I' s'∧H'=[EM b (A++(M'++B)) sp]++hS s'):=by
 refine zQ Tryz.func285 fun w0 hw0=>?_;refine yU 9 ?_;refine Cj.cond rfl (fun hc1=>Bool.noConfusion (Eq.trans (Eq.symm (by rw[beq_eq_false_iff_ne];omega)) hc1)) (fun hc1=>?_);refine yU 11 ?_;refine Cj.cond rfl (fun hc2=>Bool.noConfusion (Eq.trans (Eq.symm (by rw[beq_eq_false_iff_ne];omega)) hc2)) (fun hc2=>?_);refine yU 3 ?_;obtain⟨mid,hmid⟩:∃mid:Nat,mid=(a+e) / 2:=⟨_,rfl⟩;refine yU 5 ?_;refine J.z (a3X rfl rfl rfl rfl) ?_;refine yU 1 ?_;refine J.ev 134 (i64 (mid:Int)) rfl ((a6b (by omega)).trans (by rw[hmid])) ?_;refine yU 8 ?_;refine J.ev 137 (i64 ((mid+m:Nat):Int)) rfl (congrArg i64 (by omega)) ?_;refine yU 9 ?_;refine Cj.join (ι:=Nat×Nat) (fun t=>a≤t.1∧t.1≤t.2∧t.2≤m∧t.2≤mid∧mid+m≤t.1+e∧(t.1=a∨t.1+e=mid+m)∧(t.2=m∨t.2=mid)) (fun t=>[(0,.slice (some ⟨b,0,none⟩) N c),(1,i64 (a:Int)),(2,i64 (m:Int)),(3,i64 (e:Int)),(4,.func (.func f) ([]:List Value).toArray cap.toArray),(18,i64 (mid:Int)),(19,i64 ((mid+m:Nat):Int)),(20,i64 (t.1:Int)),(21,i64 (t.2:Int))]) (fun t=>I) (fun t=>[EM b (A++(L++(R++B))) sp]++hS s0) ?_ (fun hcut=>?_)
 ·rintro⟨u0,r0⟩ ⟨hu1,hu2,hu3,hu4,hu5,hu6,hu7⟩;dsimp only at hu1 hu2 hu3 hu4 hu5 hu6 hu7 ⊢;refine yU 4 ?_;refine J.ev 148 (i64 ((mid+m-1:Nat):Int)) rfl (congrArg i64 (by omega)) ?_;refine yU 5 ?_;refine Cj.loop (ι:=BsS σ) (fun t=>u0≤t.i∧t.i≤t.j∧t.j≤r0∧(t.i=u0∨∃x y,L[t.i-1-a]?=some x∧R[mid-t.i]?=some y∧lt y.1 x.1=false)∧(t.j=r0∨∃x y,L[t.j-a]?=some x∧R[mid-1-t.j]?=some y∧lt y.1 x.1=true)∧Le I t.J∧Inv t.J t.s) (fun t=>t.j-t.i) (fun t=>[(0,.slice (some ⟨b,0,none⟩) N c),(1,i64 (a:Int)),(2,i64 (m:Int)),(3,i64 (e:Int)),(4,.func (.func f) ([]:List Value).toArray cap.toArray),(18,i64 (mid:Int)),(19,i64 ((mid+m:Nat):Int)),(22,i64 ((mid+m-1:Nat):Int)),(20,i64 (t.i:Int)),(21,i64 (t.j:Int))]) (fun t=>t.J) (fun t=>[EM b (A++(L++(R++B))) sp]++hS t.s) ⟨_,u0,r0,s0⟩ ⟨Nat.le_refl _,hu2,Nat.le_refl _,.inl rfl,.inl rfl,Le.refl _,hI⟩ ⟨rfl,rfl,rfl,rfl,rfl,rfl,rfl,rfl,rfl,rfl,trivial⟩ rfl rfl ?_;rintro⟨J1,i,j,s1⟩ ⟨hui,hij,hjr,hlo,hhi,hIJ,hI1⟩;dsimp only at hui hij hjr hlo hhi hIJ hI1 ⊢;refine zK (fun hc3 hc3p=>?_) (fun hc3 hc3p=>?_)
  ·refine yU 4 ?_;obtain⟨hh,hhe⟩:∃hh:Nat,hh=(i+j) / 2:=⟨_,rfl⟩;refine yU 5 ?_;refine J.z (a3X rfl rfl rfl rfl) ?_;refine yU 1 ?_;refine J.ev 157 (i64 (hh:Int)) rfl ((a6b (by omega)).trans (by rw[hhe])) ?_;refine yU 4 ?_;obtain⟨x,hxL⟩:∃x,L[hh-a]?=some x:=⟨_,BM (by omega)⟩;obtain⟨y,hyR⟩:∃y,R[mid-1-hh]?=some y:=⟨_,BM (by omega)⟩;have hgx:(A++(L++(R++B)))[hh]?=some x:=b5o hxL (by omega);have hgy:(A++(L++(R++B)))[mid+m-1-hh]?=some y:=b5U hyR (by omega);have hdl:(A++(L++(R++B))).length=N:=by simp only[List.length_append];omega
   have hGx:=hC.gmono (hG x (List.mem_append_left _ (CX hxL))) hIJ;have hGy:=hC.gmono (hG y (List.mem_append_right _ (CX hyR))) hIJ;refine Cj.EX [0] [] 14 (by kernel_rfl) ?_;refine yU 5 ?_;refine JA.ev 162 (i64 ((mid+m-1-hh:Nat):Int)) rfl (congrArg i64 (by omega)) ?_;refine zW ((mid+m-1-hh)*5) ?_;refine JA.zt 6 rfl (BJ zL yV (yZ.atC 0 rfl) (EO BU hgy)) ?_;refine zW (hh*5) ?_;refine JA.zt 10 rfl (BJ zL yV (yZ.atC 0 rfl) (EO BU hgx)) ?_;refine MJ [_] (hC.call y.1 x.1 _ s1 hGy hGx hI1) ?_;intro v5 I6 H7 hle8 hp9;have hIJ:=hIJ.mono hle8;obtain⟨z,s2,h,hz,hI2,rfl⟩:=hp9;cases h;refine yU 2 ?_;refine JA.ev 170 (.bool (lt y.1 x.1)) rfl (congrArg Value.bool hz) ?_;refine DI (fun hc11=>?_) (fun hc11=>?_)
   ·refine yU 6 ?_;refine Ej.round ⟨_,hh+1,j,s2⟩ ⟨by dsimp only;omega,by dsimp only;omega,hjr,.inr ⟨x,y,by rw[show hh+1-1-a=hh-a by omega];exact hxL,by rw[show mid-(hh+1)=mid-1-hh by omega];exact hyR,(by have h9:=hc11;simpa using h9)⟩,hhi,hIJ,hI2⟩ (by dsimp only;omega) ⟨rfl,rfl,rfl,rfl,rfl,rfl,rfl,rfl,rfl,rfl,trivial⟩ rfl rfl
   refine yU 5 ?_;refine Ej.round ⟨_,i,hh,s2⟩ ⟨hui,by dsimp only;omega,by dsimp only;omega,hlo,.inr ⟨x,y,hxL,hyR,(by have h9:=hc11;simpa using h9)⟩,hIJ,hI2⟩ (by dsimp only;omega) ⟨rfl,rfl,rfl,rfl,rfl,rfl,rfl,rfl,rfl,rfl,trivial⟩ rfl rfl
  refine yU 6 ?_;obtain rfl:i=j:=by omega
  obtain⟨en,hen⟩:∃en:Nat,en=mid+m-i:=⟨_,rfl⟩;obtain⟨L1,L2,rfl,hL1⟩:=VK (l:=L) (k:=i-a) (by omega);obtain⟨R1,R2,rfl,hR1⟩:=VK (l:=R) (k:=mid-i) (by omega);have hLl:(L1++L2).length=L1.length+L2.length:=List.length_append;have hRl:(R1++R2).length=R1.length+R2.length:=List.length_append;have c1:∀x y,L1.getLast?=some x→R2.head?=some y→lt y.1 x.1=false:=by
    intro x y hx hy;have hp1:0<L1.length:=List.length_pos_iff.2 (fun h=>by rw[h]at hx;cases hx);have hp2:0<R2.length:=List.length_pos_iff.2 (fun h=>by rw[h]at hy;cases hy);rcases hlo with h|⟨x',y',h1,h2,h3⟩
    · omega
    rw[List.getLast?_eq_getElem?]at hx;rw[List.head?_eq_getElem?]at hy;rw[List.getElem?_append_left (l₁:=L1) (i:=i-1-a) (by omega),show i-1-a=L1.length-1 by omega,hx]at h1;rw[List.getElem?_append_right (l₁:=R1) (i:=mid-i) (by omega),show mid-i-R1.length=0 by omega,hy]at h2;cases h1;cases h2;exact h3
  have c2:∀y x,R1.getLast?=some y→L2.head?=some x→lt y.1 x.1=true:=by
    intro y x hy hx;have hp1:0<R1.length:=List.length_pos_iff.2 (fun h=>by rw[h]at hy;cases hy);have hp2:0<L2.length:=List.length_pos_iff.2 (fun h=>by rw[h]at hx;cases hx);rcases hhi with h|⟨x',y',h1,h2,h3⟩
    · omega
    rw[List.getLast?_eq_getElem?]at hy;rw[List.head?_eq_getElem?]at hx;rw[List.getElem?_append_right (l₁:=L1) (i:=i-a) (by omega),show i-a-L1.length=0 by omega,hx]at h1;rw[List.getElem?_append_left (l₁:=R1) (i:=mid-1-i) (by omega),show mid-1-i=R1.length-1 by omega,hy]at h2;cases h1;cases h2;exact h3
  have sL:=List.pairwise_append.1 hL;have sR:=List.pairwise_append.1 hR;refine yU 4 ?_;refine J.ev 177 (i64 (en:Int)) rfl (congrArg i64 (by omega)) ?_;refine yU 3 ?_;refine Cj.join (ι:=Heap) (fun J=>Le I J∧Inv J s1) (fun J=>[(0,.slice (some ⟨b,0,none⟩) N c),(1,i64 (a:Int)),(2,i64 (m:Int)),(3,i64 (e:Int)),(4,.func (.func f) ([]:List Value).toArray cap.toArray),(18,i64 (mid:Int)),(20,i64 (i:Int)),(24,i64 (en:Int))]) (fun J=>J) (fun J=>[EM b (A++(L1++(R1++(L2++(R2++B))))) sp]++hS s1) ?_ (fun hcut=>?_)
  ·rintro J2 ⟨hIJ,hI1⟩;refine Cj.join (ι:=MrS σ) (fun t=>t.M.Perm (L1++R1)∧BK lt t.M∧Le I t.J∧Inv t.J t.s) (fun t=>[(0,.slice (some ⟨b,0,none⟩) N c),(1,i64 (a:Int)),(2,i64 (m:Int)),(3,i64 (e:Int)),(4,.func (.func f) ([]:List Value).toArray cap.toArray),(18,i64 (mid:Int)),(20,i64 (i:Int)),(24,i64 (en:Int))]) (fun t=>t.J) (fun t=>[EM b (A++(t.M++(L2++(R2++B)))) sp]++hS t.s) ?_ (fun hcut=>?_)
   ·rintro⟨J3,M1,s5⟩ ⟨hp1,hs1,hIJ,hI5⟩;dsimp only at hp1 hs1 hIJ hI5 ⊢;have hml:=hp1.length_eq;rw[List.length_append]at hml;refine EK (fun hg12 hg12p=>?_) (fun hg12 hg12p=>?_)
    ·refine zK (fun hc13 hc13p=>?_) (fun hc13 hc13p=>?_)
     ·refine yU 6 ?_;refine J.perm (H':=[EM b ((A++M1)++(L2++(R2++B))) sp]++hS s5) (.of_eq (by simp only[List.append_assoc,List.nil_append,List.append_nil])) ?_;refine MJ [] (ih (L2.length+R2.length) (by omega) (A++M1) L2 R2 B N mid en e (by simp only[List.length_append]at *;omega) (by simp only[List.length_append]at *;omega) (by simp only[List.length_append]at *;omega) (by simp only[List.length_append]at *;omega) hl sL.2.1 sR.2.1 (hlow.mono (fun x h=>List.mem_append_right _ h) (fun x h=>List.mem_append_right _ h)) (by omega) (by omega) (Nat.le_refl _) _ s5 hI5 (fun x hx=>hC.gmono (hG x (by rcases List.mem_append.1 hx with h|h<;>simp[h])) hIJ)) ?_;intro v14 I15 H16 hle17 hp18;have hIJ:=hIJ.mono hle17;obtain⟨M2,s6,h,hp2,hs2,hI6,rfl⟩:=hp18;cases h;refine yU 1 ?_;refine Ej.QW rfl rfl ?_;exact⟨M1++M2,s6,rfl,a1z hp1 hp2,BK.merge hC.sw hL hR hlow c1 c2 hp1 hp2 hs1 hs2,hI6,by simp only[List.append_assoc,List.nil_append,List.append_nil]⟩
     refine yU 1 ?_;refine Ej.QW rfl rfl ?_;have hs2:BK lt (L2++R2):=by rcases(show L2.length=0∨R2.length=0 by omega)with h|h<;>rw[List.length_eq_zero_iff.1 h]<;>simp only[List.nil_append,List.append_nil]<;>first|exact sR.2.1|exact sL.2.1
     exact⟨M1++(L2++R2),s5,rfl,a1z hp1 (.refl _),BK.merge hC.sw hL hR hlow c1 c2 hp1 (.refl _) hs1 hs2,hI5,by simp only[List.append_assoc,List.nil_append,List.append_nil]⟩
    refine yU 8 ?_;refine Ej.QW rfl rfl ?_;have hs2:BK lt (L2++R2):=by rcases(show L2.length=0∨R2.length=0 by omega)with h|h<;>rw[List.length_eq_zero_iff.1 h]<;>simp only[List.nil_append,List.append_nil]<;>first|exact sR.2.1|exact sL.2.1
    exact⟨M1++(L2++R2),s5,rfl,a1z hp1 (.refl _),BK.merge hC.sw hL hR hlow c1 c2 hp1 (.refl _) hs1 hs2,hI5,by simp only[List.append_assoc,List.nil_append,List.append_nil]⟩
   refine EK (fun hg20 hg20p=>?_) (fun hg20 hg20p=>?_)
   ·refine zK (fun hc21 hc21p=>?_) (fun hc21 hc21p=>?_)
    ·refine MJ [] (ih (L1.length+R1.length) (by omega) A L1 R1 (L2++(R2++B)) N a i mid (by simp only[List.length_append]at *;omega) ha (by simp only[List.length_append]at *;omega) (by simp only[List.length_append]at *;omega) hl sL.1 sR.1 (hlow.mono (fun x h=>List.mem_append_left _ h) (fun x h=>List.mem_append_left _ h)) (by omega) (by omega) (Nat.le_refl _) _ s1 hI1 (fun x hx=>hC.gmono (hG x (by rcases List.mem_append.1 hx with h|h<;>simp[h])) hIJ)) ?_;intro v22 I23 H24 hle25 hp26;have hIJ:=hIJ.mono hle25;obtain⟨M1,s4,h,hp1,hs1,hI4,rfl⟩:=hp26;cases h;refine yU 1 ?_;exact hcut ⟨_,M1,s4⟩ _ _ _ ⟨hp1,hs1,hIJ,hI4⟩ ⟨rfl,rfl,rfl,rfl,rfl,rfl,rfl,rfl,trivial⟩ rfl (by simp only[List.append_assoc,List.nil_append,List.append_nil])
    refine yU 1 ?_;exact hcut ⟨_,L1++R1,s1⟩ _ _ _ ⟨.refl _,by rcases(show L1.length=0∨R1.length=0 by omega)with h|h<;>rw[List.length_eq_zero_iff.1 h]<;>simp only[List.nil_append,List.append_nil]<;>first|exact sR.1|exact sL.1,hIJ,hI1⟩ ⟨rfl,rfl,rfl,rfl,rfl,rfl,rfl,rfl,trivial⟩ rfl (by simp only[List.append_assoc,List.nil_append,List.append_nil])
   refine yU 8 ?_;exact hcut ⟨_,L1++R1,s1⟩ _ _ _ ⟨.refl _,by rcases(show L1.length=0∨R1.length=0 by omega)with h|h<;>rw[List.length_eq_zero_iff.1 h]<;>simp only[List.nil_append,List.append_nil]<;>first|exact sR.1|exact sL.1,hIJ,hI1⟩ ⟨rfl,rfl,rfl,rfl,rfl,rfl,rfl,rfl,trivial⟩ rfl (by simp only[List.append_assoc,List.nil_append,List.append_nil])
  refine EK (fun hg28 hg28p=>?_) (fun hg28 hg28p=>?_)
  ·refine zK (fun hc29 hc29p=>?_) (fun hc29 hc29p=>?_)
   ·refine yU 6 ?_;have hU:L2≠[]:=List.ne_nil_of_length_pos (by omega);have hV:R1≠[]:=List.ne_nil_of_length_pos (by omega);refine J.perm (H':=[EM b ((A++L1)++(L2++(R1++(R2++B)))) sp]++hS s1) (.of_eq (by simp only[List.append_assoc,List.nil_append,List.append_nil])) ?_;refine J.pull Pull.z ?_;refine AP (b6V b (A++L1) L2 R1 (R2++B) c N i m en sp _ hU hV (by simp only[List.length_append]at *;omega) (by simp only[List.length_append]at *;omega) (by simp only[List.length_append]at *;omega) (by simp only[List.length_append]at *;omega) hl _) ?_;intro v30 I31 H32 hle33 hp34;have hIJ:=hIJ.mono hle33;obtain⟨h,rfl⟩:=hp34;cases h;have hI3:=hC.imono hI1 hle33;refine yU 1 ?_;exact hcut _ _ _ _ ⟨hIJ,hI3⟩ ⟨rfl,rfl,rfl,rfl,rfl,rfl,rfl,rfl,trivial⟩ rfl (by simp only[List.append_assoc,List.nil_append,List.append_nil])
   refine yU 1 ?_;exact hcut _ _ _ _ ⟨hIJ,hI1⟩ ⟨rfl,rfl,rfl,rfl,rfl,rfl,rfl,rfl,trivial⟩ rfl (by rcases(show L2.length=0∨R1.length=0 by omega)with h|h<;>rw[List.length_eq_zero_iff.1 h]<;>simp only[List.append_assoc,List.nil_append,List.append_nil])
  refine yU 8 ?_;exact hcut _ _ _ _ ⟨hIJ,hI1⟩ ⟨rfl,rfl,rfl,rfl,rfl,rfl,rfl,rfl,trivial⟩ rfl (by rcases(show L2.length=0∨R1.length=0 by omega)with h|h<;>rw[List.length_eq_zero_iff.1 h]<;>simp only[List.append_assoc,List.nil_append,List.append_nil])
 refine zK (fun hc36 hc36p=>?_) (fun hc36 hc36p=>?_)
 ·refine yU 5 ?_;refine J.ev 143 (i64 ((mid+m-e:Nat):Int)) rfl (congrArg i64 (by omega)) ?_;refine yU 7 ?_;exact hcut (mid+m-e,mid) _ _ _ ⟨by dsimp only;omega,by dsimp only;omega,by dsimp only;omega,Nat.le_refl _,by dsimp only;omega,.inr (by dsimp only;omega),.inr rfl⟩ ⟨rfl,rfl,rfl,rfl,rfl,rfl,rfl,rfl,rfl,trivial⟩ rfl rfl
 refine yU 10 ?_;exact hcut (a,m) _ _ _ ⟨Nat.le_refl _,by dsimp only;omega,Nat.le_refl _,by dsimp only;omega,by dsimp only;omega,.inl rfl,.inl rfl⟩ ⟨rfl,rfl,rfl,rfl,rfl,rfl,rfl,rfl,rfl,trivial⟩ rfl rfl
end Go.Proofs.YtekmeaoblpfnpaaGreatDoor
end
section
namespace Go.Proofs.YtekmeaoblpfnpaaGreatDoor
open Go Go.Sx Go.Stab
theorem b3S{σ:Type}{f cap hS}{Inv:Heap→σ→Prop}{lt}{Good:Heap→QI→Prop}(hC:a0g f cap hS Inv lt Good) b c sp n:b4j f cap hS Inv lt Good b c sp n:=
  Nat.strongRecOn n fun n ih=>fun A L R B N a m e hN ha hm he hl hL hR hlow hL0 hR0 hn I s0 hI hG=>by
    by_cases h1:L.length=1
    · exact c2W hC b A L R B c N a m e sp hN ha hm he hl hL hR hlow h1 I s0 hI hG
    by_cases h2:R.length=1
    · exact c4K hC b A L R B c N a m e sp hN ha hm he hl hL hR hlow h1 h2 I s0 hI hG
    exact c4i hC b A L R B c N a m e sp hN ha hm he hl hL hR hlow n ih hn (by omega) (by omega) I s0 hI hG
structure StS (σ:Type) where
  J:Heap
  P:List TQ
  TP:List TQ
  TR:List TQ
  s:σ
structure ZS (σ:Type) where
  J:Heap
  z:Nat
  D:List TQ
  s:σ
structure MgS (σ:Type) where
  J:Heap
  P:List TQ
  TP:List TQ
  D:List TQ
  TR:List TQ
  s:σ
theorem b7G{σ:Type}{f cap hS}{Inv:Heap→σ→Prop}{lt}{Good:Heap→QI→Prop}(hC:a0g f cap hS Inv lt Good) b T c N sp (hN:N=T.length)(hl:N≤1000000000)(ht:Tags T) I s0 (hI:Inv I s0)(hG:∀x∈T,Good I x.1):
    yY Tryz.prog 253 [.slice (some ⟨b,0,none⟩) N c,i64 (N:Int),.func (.func f) ([]:List Value).toArray cap.toArray] I ([EM b T sp]++hS s0) (fun ev I' H'=>∃M' s',ev= .returned (.tuple #[])∧Bk lt M' T∧Inv I' s'∧H'=[EM b M' sp]++hS s'):=by
 refine zQ Tryz.func253 fun w0 hw0=>?_;refine yU 14 ?_;refine Cj.loop (ι:=StS σ) (fun y=>Full lt 20 y.P y.TP∧T=y.TP++y.TR∧Le I y.J∧Inv y.J y.s) (fun y=>y.TR.length) (fun y=>[(0,.slice (some ⟨b,0,none⟩) N c),(1,i64 (N:Int)),(2,.func (.func f) ([]:List Value).toArray cap.toArray),(6,i64 20),(7,i64 (y.P.length:Int)),(8,i64 ((y.P.length+20:Nat):Int))]) (fun y=>y.J) (fun y=>[EM b (y.P++y.TR) sp]++hS y.s) ⟨_,[],[],T,s0⟩ ⟨.nil,rfl,Le.refl _,hI⟩ ⟨rfl,rfl,rfl,rfl,rfl,rfl,trivial⟩ rfl rfl ?_;rintro⟨J1,P,TP,TR,s1⟩ ⟨hF,hT,hIJ,hI1⟩;dsimp only at hF hT hIJ hI1 ⊢;have hPl:=hF.perm.length_eq;have hTl:=congrArg List.length hT;rw[List.length_append]at hTl;have htT:Tags (TP++TR):=hT▸ht;refine zK (fun hc1 hc1p=>?_) (fun hc1 hc1p=>?_)
 ·refine yU 4 ?_;obtain⟨T1,T2,rfl,hT1⟩:=VK (l:=TR) (k:=20) (by omega);have hTr:(T1++T2).length=T1.length+T2.length:=List.length_append;refine MJ [] (b4e hC b P T1 T2 c N P.length (P.length+20) sp (by omega) rfl (by omega) hl (htT.tl.sublist (List.sublist_append_left _ _)) _ s1 hI1 (fun x hx=>hC.gmono (hG x (by rw[hT];exact List.mem_append_right _ (List.mem_append_left _ hx))) hIJ)) ?_;intro v2 I3 H4 hle5 hp6;have hIJ:=hIJ.mono hle5;obtain⟨M',s2,h,hp2,hs2,hI2,rfl⟩:=hp6;cases h;refine yU 12 ?_;refine J.ev 22 (i64 ((P.length+20+20:Nat):Int)) rfl (congrArg i64 (by omega)) ?_;refine yU 3 ?_;refine Ej.round ⟨_,P++M',TP++T1,T2,s2⟩ ⟨hF.snoc (by rw[hp2.length_eq,hT1]) ⟨hp2,hs2⟩,by rw[hT,List.append_assoc],hIJ,hI2⟩ (by dsimp only;rw[List.length_append];omega) ⟨rfl,rfl,rfl,rfl,(congrArg (fun n:Nat=>some (i64 (n:Int))) (show P.length+20=(P++M').length by rw[List.length_append,hp2.length_eq,hT1])),(congrArg (fun n:Nat=>some (i64 (n:Int))) (show P.length+20+20=(P++M').length+20 by rw[List.length_append,hp2.length_eq,hT1])),trivial⟩ rfl (by simp only[List.append_assoc,List.nil_append,List.append_nil])
 refine yU 11 ?_;refine J.perm (H':=[EM b (P++(TR++[])) sp]++hS s1) (.of_eq (by simp only[List.append_assoc,List.nil_append,List.append_nil])) ?_;refine MJ [] (b4e hC b P TR [] c N P.length N sp (by rw[List.length_nil];omega) rfl (by omega) hl htT.tl _ s1 hI1 (fun x hx=>hC.gmono (hG x (by rw[hT];exact List.mem_append_right _ hx)) hIJ)) ?_;intro v7 I8 H9 hle10 hp11;have hIJ:=hIJ.mono hle10;obtain⟨M',s2,h,hp2,hs2,hI2,rfl⟩:=hp11;cases h;have hM:=hp2.length_eq;have hch:Chunks lt 20 (P++M') T:=by rw[hT];exact hF.app (.last (by omega) ⟨hp2,hs2⟩)
 refine yU 3 ?_;refine Cj.loop (ι:=ZS σ) (fun y=>20≤y.z∧y.z≤2*N+20∧Chunks lt y.z y.D T∧Le I y.J∧Inv y.J y.s) (fun y=>N-y.z) (fun y=>[(0,.slice (some ⟨b,0,none⟩) N c),(1,i64 (N:Int)),(2,.func (.func f) ([]:List Value).toArray cap.toArray),(6,i64 (y.z:Int))]) (fun y=>y.J) (fun y=>[EM b y.D sp]++hS y.s) ⟨_,20,P++M',s2⟩ ⟨Nat.le_refl _,by dsimp only;omega,hch,hIJ,hI2⟩ ⟨rfl,rfl,rfl,rfl,trivial⟩ rfl (by simp only[List.append_assoc,List.nil_append,List.append_nil]) ?_;rintro⟨J2,z,D0,s3⟩ ⟨hz0,hz1,hc0,hIJ,hI3⟩;dsimp only at hz0 hz1 hc0 hIJ hI3 ⊢;have hDl:=hc0.perm.length_eq;refine zK (fun hc12 hc12p=>?_) (fun hc12 hc12p=>?_)
 ·refine yU 7 ?_;refine J.ev 32 (i64 ((2*z:Nat):Int)) rfl (congrArg i64 (by omega)) ?_;refine yU 6 ?_;refine Cj.loop (ι:=MgS σ) (fun y=>Full lt (2*z) y.P y.TP∧Chunks lt z y.D y.TR∧T=y.TP++y.TR∧Le I y.J∧Inv y.J y.s) (fun y=>y.D.length) (fun y=>[(0,.slice (some ⟨b,0,none⟩) N c),(1,i64 (N:Int)),(2,.func (.func f) ([]:List Value).toArray cap.toArray),(6,i64 (z:Int)),(7,i64 (y.P.length:Int)),(8,i64 ((y.P.length+2*z:Nat):Int))]) (fun y=>y.J) (fun y=>[EM b (y.P++y.D) sp]++hS y.s) ⟨_,[],[],D0,T,s3⟩ ⟨.nil,hc0,rfl,hIJ,hI3⟩ ⟨rfl,rfl,rfl,rfl,rfl,(congrArg (fun n:Nat=>some (i64 (n:Int))) (show 2*z=([]:List TQ).length+2*z by simp)),trivial⟩ rfl rfl ?_;rintro⟨J3,P,TP,D,TR,s4⟩ ⟨hF,hch,hT,hIJ,hI4⟩;dsimp only at hF hch hT hIJ hI4 ⊢;have hPl:=hF.perm.length_eq;have hDl:=hch.perm.length_eq;have hTl:=congrArg List.length hT;rw[List.length_append]at hTl;have htT:Tags (TP++TR):=hT▸ht;refine zK (fun hc13 hc13p=>?_) (fun hc13 hc13p=>?_)
  ·refine yU 4 ?_;obtain⟨D1,T1,Dr,Tr,rfl,rfl,hD1,b1,c1⟩:=hch.first (by omega);have hDr:(D1++Dr).length=D1.length+Dr.length:=List.length_append;obtain⟨D2,T2,D',T',rfl,rfl,hD2,b2,c2⟩:=c1.first (by omega);have hDr2:(D2++D').length=D2.length+D'.length:=List.length_append;have hmem:∀x∈D1++D2,x∈T1++(T2++T'):=fun x hx=>by
     rcases List.mem_append.1 hx with h|h
     · simp[b1.perm.mem_iff.1 h]
     simp[b2.perm.mem_iff.1 h]
   refine yU 6 ?_;refine J.ev 40 (i64 ((P.length+z:Nat):Int)) rfl (congrArg i64 (by omega)) ?_;refine yU 2 ?_;refine J.perm (H':=[EM b (P++(D1++(D2++D'))) sp]++hS s4) (.of_eq (by simp only[List.append_assoc,List.nil_append,List.append_nil])) ?_;refine MJ [] (b3S hC b c sp (D1.length+D2.length) P D1 D2 D' N P.length (P.length+z) (P.length+2*z) (by simp only[List.length_append]at *;omega) rfl (by omega) (by omega) hl b1.GY b2.GY (b1.low b2 htT.tl) (by omega) (by omega) (Nat.le_refl _) _ s4 hI4 (fun x hx=>hC.gmono (hG x (by rw[hT];exact List.mem_append_right _ (hmem x hx))) hIJ)) ?_;intro v14 I15 H16 hle17 hp18;have hIJ:=hIJ.mono hle17;obtain⟨M,s5,h,hp5,hs5,hI5,rfl⟩:=hp18;cases h;refine yU 13 ?_;refine J.ev 48 (i64 ((P.length+2*z+2*z:Nat):Int)) rfl (congrArg i64 (by omega)) ?_;refine yU 3 ?_;refine Ej.round ⟨_,P++M,TP++(T1++T2),D',T',s5⟩ ⟨hF.snoc (by rw[hp5.length_eq,List.length_append];omega) (b1.cat b2 hp5 hs5),c2,by rw[hT];simp only[List.append_assoc],hIJ,hI5⟩ (by dsimp only;simp only[List.length_append];omega) ⟨rfl,rfl,rfl,rfl,(congrArg (fun n:Nat=>some (i64 (n:Int))) (show P.length+2*z=(P++M).length by rw[List.length_append,hp5.length_eq,List.length_append];omega)),(congrArg (fun n:Nat=>some (i64 (n:Int))) (show P.length+2*z+2*z=(P++M).length+2*z by rw[List.length_append,hp5.length_eq,List.length_append];omega)),trivial⟩ rfl (by simp only[List.append_assoc,List.nil_append,List.append_nil])
  refine yU 11 ?_;refine J.ev 51 (i64 ((P.length+z:Nat):Int)) rfl (congrArg i64 (by omega)) ?_;refine zK (fun hc19 hc19p=>?_) (fun hc19 hc19p=>?_)
  ·obtain⟨D1,T1,D2,T2,rfl,rfl,hD1,b1,c1⟩:=hch.first (by omega);have hDr:(D1++D2).length=D1.length+D2.length:=List.length_append;have b2:=c1.all (by omega);have hlow2:Low D1 D2:=b1.low (T:=[]) b2 (by simpa using htT.tl);have hmem:∀x∈D1++D2,x∈T1++T2:=fun x hx=>by
     rcases List.mem_append.1 hx with h|h
     · simp[b1.perm.mem_iff.1 h]
     simp[b2.perm.mem_iff.1 h]
   refine yU 6 ?_;refine J.perm (H':=[EM b (P++(D1++(D2++[]))) sp]++hS s4) (.of_eq (by simp only[List.append_assoc,List.nil_append,List.append_nil])) ?_;refine MJ [] (b3S hC b c sp (D1.length+D2.length) P D1 D2 [] N P.length (P.length+z) N (by simp only[List.length_append,List.length_nil]at *;omega) rfl (by omega) (by simp only[List.length_append]at *;omega) hl b1.GY b2.GY hlow2 (by omega) (by simp only[List.length_append]at *;omega) (Nat.le_refl _) _ s4 hI4 (fun x hx=>hC.gmono (hG x (by rw[hT];exact List.mem_append_right _ (hmem x hx))) hIJ)) ?_;intro v20 I21 H22 hle23 hp24;have hIJ:=hIJ.mono hle23;obtain⟨M,s5,h,hp5,hs5,hI5,rfl⟩:=hp24;cases h;have hMl:=hp5.length_eq;rw[List.length_append]at hMl;have hnew:Chunks lt (z*2) (P++M) T:=by rw[hT,Nat.mul_comm];exact hF.app (.last (by omega) (b1.cat b2 hp5 hs5))
   refine yU 5 ?_;refine J.ev 62 (i64 ((z*2:Nat):Int)) rfl (congrArg i64 (by omega)) ?_;refine yU 3 ?_;refine Ej.round ⟨_,z*2,P++M,s5⟩ ⟨by dsimp only;omega,by dsimp only;omega,hnew,hIJ,hI5⟩ (by dsimp only;omega) ⟨rfl,rfl,rfl,rfl,trivial⟩ rfl (by simp only[List.append_assoc,List.nil_append,List.append_nil])
  refine yU 5 ?_;refine J.ev 62 (i64 ((z*2:Nat):Int)) rfl (congrArg i64 (by omega)) ?_;refine yU 3 ?_;refine Ej.round ⟨_,z*2,P++D,s4⟩ ⟨by dsimp only;omega,by dsimp only;omega,by rw[hT,Nat.mul_comm];exact hF.app (.last (by omega) (hch.all (by omega))),hIJ,hI4⟩ (by dsimp only;omega) ⟨rfl,rfl,rfl,rfl,trivial⟩ rfl rfl
 refine yU 4 ?_;refine Ej.QW rfl rfl ?_;exact⟨D0,s3,rfl,hc0.all (by omega),hI3,rfl⟩
theorem a9t{σ:Type}{f cap hS}{Inv:Heap→σ→Prop}{lt}{Good:Heap→QI→Prop}(hC:a0g f cap hS Inv lt Good) b T c N sp (hN:N=T.length)(hl:N≤1000000000)(ht:Tags T) I s0 (hI:Inv I s0)(hG:∀x∈T,Good I x.1):
    yY Tryz.prog 207 [.slice (some ⟨b,0,none⟩) N c,.func (.func f) ([]:List Value).toArray cap.toArray] I ([EM b T sp]++hS s0) (fun ev I' H'=>∃M' s',ev= .returned (.tuple #[])∧Bk lt M' T∧Inv I' s'∧H'=[EM b M' sp]++hS s'):=by
 refine zQ Tryz.func207 fun w0 hw0=>?_;refine MJ [] (b7G hC b T c N sp hN hl ht _ s0 hI hG) ?_;intro v1 I2 H3 hle4 hp5;obtain⟨M',s1,h,hb,hI1,rfl⟩:=hp5;cases h;refine yU 1 ?_;refine Ej.QW rfl rfl ?_;exact⟨M',s1,rfl,hb,hI1,rfl⟩
end Go.Proofs.YtekmeaoblpfnpaaGreatDoor
end
section
namespace Go.Proofs.YtekmeaoblpfnpaaGreatDoor
open Go Go.Sx
def a2P (a:Cq.Qn):Prop:=∀(b:Cq.Qn) (p p2:Option Addr) (c c2:Nat) (I:Heap),PS I a.ps p→PS I b.ps p2→a.size≤1000000000→Pure Tryz.prog 206 [.agg (zT a p c).toArray,.agg (zT b p2 c2).toArray] I (.bool (decide (a=b)))
theorem b7b(a b:Cq.Qn)(ih:∀a',Cq.Qn.size a'<a.size→a2P a') p p2 c c2 I (hps:PS I a.ps p)(hps2:PS I b.ps p2)(hsz:a.size≤1000000000):Pure Tryz.prog 252 [.slice p a.ps.len c,.slice p2 b.ps.len c2,.func (.func 206) #[] #[]] I (.bool (decide (a.ps=b.ps))):=by
 have hlen:a.ps.len≤1000000000:=FD Cq.Qs.a4K hsz;refine yY.toPure ?_;refine zQ Tryz.func252 fun w0 hw0=>?_;refine zK (fun hc1 hc1p=>?_) (fun hc1 hc1p=>?_)
 ·have hln:a.ps.len≠b.ps.len:=by have h:=hc1;simp at h;omega
  refine zV ?_;refine⟨?_,rfl⟩;have hne:a.ps≠b.ps:=fun he=>hln (by rw[he]);simp[hne]
 have hfl:a.ps.len=b.ps.len:=by have h:=hc1;simp at h;omega
 refine yU 11 ?_;refine Cj.loop (ι:=Nat) (fun k=>k≤a.ps.len∧∀j,j<k→a.ps.get j=b.ps.get j) (fun k=>a.ps.len-k) (fun k=>[(1,.slice p2 b.ps.len c2),(2,.func (.func 206) #[] #[]),(15,.slice p a.ps.len c),(16,i64 (a.ps.len:Int)),(17,i64 (k:Int))]) (fun k=>I) (fun k=>[]) 0 ⟨Nat.zero_le _,fun j h=>absurd h (by omega)⟩ ⟨rfl,rfl,rfl,rfl,rfl,trivial⟩ rfl rfl ?_;rintro k ⟨hk,hall⟩;refine zK (fun hc2 hc2p=>?_) (fun hc2 hc2p=>?_)
 ·refine yU 5 ?_;have hlt:k<a.ps.len:=by omega
  obtain⟨x,hx⟩:=Cq.Qs.b2y hlt;obtain⟨y,hy⟩:=Cq.Qs.b2y (ps:=b.ps) (hfl▸hlt);obtain⟨bl,off,cs',T,fr,rfl,hbl,hat⟩:=hps.at (by omega);obtain⟨bm,off2,cs2,T2,fr2,rfl,hbm,hat2⟩:=hps2.at (by omega);obtain⟨px,cx,hca,hpx⟩:=hat k x hx;obtain⟨py,cy,hcb,hpy⟩:=hat2 k y hy;refine zW (off+k*5) ?_;refine J.z (BJ zL yV (yZ.LK hbl) hca) ?_;refine yU 1 ?_;intro b3 hb3;refine zW (off2+k*5) ?_;refine J.z (BJ zL yV (yZ.LK hbm) hcb) ?_;refine yU 1 ?_;intro b4 hb4;refine zX (ih x (Cq.Qs.a5f hx:x.size<a.ps.size) y px py cx cy _ hpx hpy (by have:=Cq.Qs.a5f hx;unfold Cq.Qn.size at hsz;omega)) ?_;refine DI (fun hc5=>?_) (fun hc5=>?_)
  ·have hxy:x≠y:=by have h:=hc5;simpa using h
   refine AB ?_;refine⟨?_,rfl⟩;have hne:a.ps≠b.ps:=fun he=>hxy (by rw[he]at hx;exact Option.some.inj (hx.symm.trans hy));simp[hne]
  have hxy:x=y:=by have h:=hc5;simpa using h
  refine yU 7 ?_;refine Ej.keep (Keeps.d (Keeps.d Keeps.n)) ?_;refine Ej.round (k+1) ⟨by omega,fun j hj=>(Nat.lt_succ_iff_lt_or_eq.1 hj).elim (hall j) (fun h=>by rw[h,hx,hy,hxy])⟩ (by omega) ⟨rfl,rfl,rfl,rfl,rfl,trivial⟩ rfl rfl
 refine zV ?_;refine⟨?_,rfl⟩;have he:a.ps=b.ps:=Cq.Qs.ext hfl fun j hj=>hall j (by omega);simp[he]
theorem b5B a (ih:∀a',Cq.Qn.size a'<a.size→a2P a'):a2P a:=by
 intro b p p2 c c2 I hps hps2 hsz;refine yY.toPure ?_;refine zQ Tryz.func206 fun w0 hw0=>?_;refine yU 3 ?_;intro b1 hb1;refine yU 1 ?_;intro b2 hb2;refine FM (fun hg3=>?_) (fun hg3=>?_)
 ·refine FM (fun hg4=>?_) (fun hg4=>?_)
  ·refine FM (fun hg5=>?_) (fun hg5=>?_)
   ·refine FM (fun hg6=>?_) (fun hg6=>?_)
    ·refine zX (b7b a b ih p p2 c c2 _ hps hps2 hsz) ?_;refine AB ?_;have hfk:a.k=b.k:=by have h:=hg3;simpa using h
     have hfi:a.i=b.i:=by have h:=hg4;simpa using h
     have hfr:a.r=b.r:=by have h:=hg5;simpa using h
     have hft:a.t=b.t:=by have h:=hg6;simpa using h
     refine⟨?_,rfl⟩;have he:(a=b)=(a.ps=b.ps):=propext ⟨fun h=>by rw[h],fun h=>b3M hfk hfi hfr hft h⟩;simp only[he]
    refine AB ?_;have hne:a≠b:=by intro he;have h:=hg6;rw[he]at h;simp at h
    refine⟨?_,rfl⟩;simp[hne]
   refine AB ?_;have hne:a≠b:=by intro he;have h:=hg5;rw[he]at h;simp at h
   refine⟨?_,rfl⟩;simp[hne]
  refine AB ?_;have hne:a≠b:=by intro he;have h:=hg4;rw[he]at h;simp at h
  refine⟨?_,rfl⟩;simp[hne]
 refine AB ?_;have hne:a≠b:=by intro he;have h:=hg3;rw[he]at h;simp at h
 refine⟨?_,rfl⟩;simp[hne]
theorem b9L a:a2P a:=by
  suffices ∀n (a:Cq.Qn),a.size<n→a2P a from this _ a (Nat.lt_succ_self _)
  intro n
  induction n with
  |zero=>intro q h;omega
  |succ n ih=>exact fun a h=>b5B a fun a' h'=>ih a' (by omega)
end Go.Proofs.YtekmeaoblpfnpaaGreatDoor
end
namespace Go.Stab
section
variable {α:Type} {lt:α→α→Bool}
def XK (lt:α→α→Bool) (x:α):List α→Nat→Nat→Nat
  |[],_,k=>k
  |y::r,j,k=>XK lt x r (j+1) (if lt x y=true then k else j+1)
theorem b1z{x out}:∀(r:List α) (j k:Nat),out.drop j=r→j≤out.length→Pos lt x out j k→Pos lt x out out.length (XK lt x r j k)
  | [],j,k,h,hj,hp=>by
    have:out.length≤j:=List.drop_eq_nil_iff.1 h;rw[show out.length=j by omega];exact hp
  | y::r,j,k,h,hj,hp=>by
    have hlt:j<out.length:=by
      rcases Nat.lt_or_ge j out.length with g|g
      · exact g
      rw[List.drop_eq_nil_of_le g]at h;cases h
    have hy:out[j]?=some y:=by
      have h2:=List.drop_eq_getElem_cons hlt;rw[h2]at h;rw[List.getElem?_eq_getElem hlt];exact congrArg some (List.cons.inj h).1
    have hr:out.drop (j+1)=r:=by
      have h2:=List.drop_eq_getElem_cons hlt;rw[h2]at h;exact(List.cons.inj h).2
    exact b1z r (j+1) _ hr hlt (hp.next hy)
def pos (lt:α→α→Bool) (x:α) (out:List α):Nat:=XK lt x out 0 0
theorem c5m x out:Pos lt x out out.length (pos lt x out):=b1z out 0 0 rfl (Nat.zero_le _) (Pos.nil x out)
theorem TM.by{β:Type}{lb}(key:α→β)(h:TM lb):TM (fun x y=>lb (key x) (key y)):=⟨fun x y z=>h.neg (key x) (key y) (key z),fun x y=>h.asy (key x) (key y)⟩
theorem TM.nat:TM (fun x y:Nat=>decide (x<y)):=⟨fun x y z h=>by simp only[decide_eq_true_eq]at h ⊢;omega,fun x y h=>by simp only[decide_eq_true_eq,decide_eq_false_iff_not]at h ⊢;omega⟩
end
section
variable {α:Type} [DecidableEq α] {lt:α→α→Bool}
def XL (out:List α) (x:α):List α:=if x∈out then out else out++[x]
def dedup (l:List α):List α:=l.foldl XL []
theorem c1Z{out}{x y:α}:y∈XL out x↔y∈out∨y=x:=by
  unfold XL
  split
  · rename_i h
    exact⟨.inl,fun g=>g.elim id (fun e=>e▸h)⟩
  simp
def a7G (lt:α→α→Bool) (out:List α) (x:α):List α:=if x∈out then out else out.take (pos lt x out)++x::out.drop (pos lt x out)
def a1o (lt:α→α→Bool) (l:List α):List α:=l.foldl (a7G lt) []
theorem a5a(h:TM lt):∀(l d out:List α),Stab lt d out→Stab lt (l.foldl XL d) (l.foldl (a7G lt) out)
  |[],_,_,hs=>hs
  | x::l,d,out,hs=>by
    refine a5a h l _ _ ?_;have hm:x∈out↔x∈d:=hs.perm.mem_iff;unfold XL a7G
    by_cases hx:x∈d
    · rw[if_pos hx,if_pos (hm.2 hx)];exact hs
    rw[if_neg hx,if_neg (fun g=>hx (hm.1 g))];exact hs.ins h (c5m x out)
theorem b6T(h:TM lt){l r}(hr:Stab lt (dedup l) r):a1o lt l=r:=Stab.uniq h (a5a h l [] [] Stab.nil) hr
end
end Go.Stab
namespace Ix
open Ke Go.Stab Cq
def b5y (kind:Int) (q:Qn) (ls:List (List Qn)):List Qn:=if q.k=kind then ls.flatten else[q]
def b4K (kind:Int):Qs→List (List Qn)
  | .nil=>[]
  | .cons k i r t ps rest=>b5y kind ⟨k,i,r,t,ps⟩ (b4K kind ps)::b4K kind rest
def lst (kind:Int) (q:Qn):List Qn:=b5y kind q (b4K kind q.ps)
theorem b0T{kind q}(h:q.k≠kind):lst kind q=[q]:=if_neg h
theorem a7m{kind q a b}(h:q.k=kind)(ht:q.Two a b):lst kind q=lst kind a++lst kind b:=by
  unfold lst b5y;rw[if_pos h,show q.ps=_ from ht];simp[Qn.push,b4K,b5y]
structure Adds (f:Qn→Nat):Prop where
  two:∀{q a b:Qn},q.Two a b→q.k≠1→form q=true→f q=f a+f b
  both:∀(k:Int) (a b:Qn),f (EC k a b)=f a+f b
theorem c0c k a b:(EC k a b).Two a b:=rfl
theorem UY{f}(hf:Adds f){kind}(hk:kind≠1):∀(n:Nat) (q:Qn),q.size<n→form q=true→((lst kind q).map f).sum=f q∧lst kind q≠[]∧∀x∈lst kind q,form x=true
  |0,_,h,_=>absurd h (Nat.not_lt_zero _)
  | n+1,q,h,hq=>by
    by_cases hqk:q.k=kind
    · rcases FI hq with h1|⟨h1,_,_,a,b,hab,ha,hb⟩
      · exact absurd (hqk.symm.trans h1) hk
      have hs:=hab.size;obtain⟨a1,a2,a3⟩:=UY hf hk n a (by omega) ha;obtain⟨b1,b2,b3⟩:=UY hf hk n b (by omega) hb;rw[a7m hqk hab];refine⟨by rw[List.map_append,List.sum_append,a1,b1,hf.two hab h1 hq],fun e=>a2 (List.append_eq_nil_iff.1 e).1,fun x hx=>?_⟩;rcases List.mem_append.1 hx with g|g
      · exact a3 x g
      exact b3 x g
    rw[b0T hqk];exact⟨by simp,by simp,fun x hx=>by rw[List.mem_singleton.1 hx];exact hq⟩
theorem c1c{α:Type}[DecidableEq α](f:α→Nat) out x:((XL out x).map f).sum≤(out.map f).sum+f x:=by
  unfold XL
  split
  · omega
  simp
theorem a2h{α:Type}[DecidableEq α](f:α→Nat):∀(l out:List α),((l.foldl XL out).map f).sum≤(out.map f).sum+(l.map f).sum∧(∀y,y∈l.foldl XL out↔y∈out∨y∈l)
  |[],out=>by simp
  | x::l,out=>by
    obtain⟨h1,h2⟩:=a2h f l (XL out x);have h3:=c1c f out x;refine⟨by simp only[List.foldl_cons,List.map_cons,List.sum_cons];omega,fun y=>?_⟩;rw[List.foldl_cons,h2 y,c1Z,List.mem_cons,or_assoc]
theorem b8i{α:Type}[DecidableEq α](f:α→Nat) l:((dedup l).map f).sum≤(l.map f).sum:=by
  have:=(a2h f l []).1;simpa[dedup]using this
theorem a2D{α:Type}[DecidableEq α]{l}{y:α}:y∈dedup l↔y∈l:=by
  have:=(a2h (fun _=>0) l []).2 y;simpa[dedup]using this
theorem a0Q{α:Type}[DecidableEq α]{lt:α→α→Bool}(h:TM lt)(l:List α):(a1o lt l).Perm (dedup l):=(a5a h l [] [] Stab.nil).perm
def ord (sz:Qn→Nat) (k:Int) (x y:Qn):Bool:=if k=2 then decide (sz x<sz y)else decide (print x<print y)
theorem TM.text:TM (fun x y:List UInt8=>decide (x<y)):=⟨fun x y z h=>by
    simp only[decide_eq_true_eq]at h ⊢
    by_cases hxy:x<y
    · exact .inl hxy
    · exact .inr (List.lt_of_le_of_lt (List.not_lt.1 hxy) h),fun x y h=>by
    simp only[decide_eq_true_eq,decide_eq_false_iff_not]at h ⊢;exact List.lt_asymm h⟩
theorem b0W sz k:TM (ord sz k):=by
  by_cases h:k=2
  · have:ord sz k=fun x y=>decide (sz x<sz y):=by funext x y;exact if_pos h
    rw[this];exact TM.by sz TM.nat
  have:ord sz k=fun x y=>decide (print x<print y):=by funext x y;exact if_neg h
  rw[this];exact TM.by print TM.text
def c5X (k:Int):List Qn→Qn
  |[]=>zero
  |x::r=>r.foldl (EC k) x
def a0n (sz:Qn→Nat) (k:Int) (l:List Qn):Qn:=c5X k (a1o (ord sz k) l)
theorem QM {f : Qn → Nat} (hf : Adds f) {k} (h2 : 2 ≤ k) (h4 : k ≤ 4) : ∀ (r : List Qn) (x : Qn), form x = true → (∀ y ∈ r, form y = true) → form (r.foldl (EC k) x) = true ∧ f (r.foldl (EC k) x) = f x + (r.map f).sum
  | [], x, hx, _ => ⟨hx, by simp⟩
  | y :: r, x, hx, hr => by
    have hb : form (EC k x y) = true := by
      rw [SE (q := EC k x y) (by show k ≠ 1; omega) (by simp [EC, Qn.push, Qs.len]; omega) (c0c k x y), hx, hr y (.head _)]; rfl
    obtain ⟨g1, g2⟩ := QM hf h2 h4 r (EC k x y) hb fun z hz => hr z (.tail _ hz)
    refine ⟨g1, ?_⟩
    rw [List.foldl_cons, g2, hf.both, List.map_cons, List.sum_cons]; omega
theorem b9O{α:Type}(f:α→Nat){l m:List α}(h:l.Perm m):(l.map f).sum=(m.map f).sum:=(h.map f).sum_nat
theorem a3N {f : Qn → Nat} (hf : Adds f) (sz : Qn → Nat) {k : Int} (h2 : 2 ≤ k) (h4 : k ≤ 4) {l : List Qn} (hl : l ≠ []) (hr : ∀ y ∈ l, form y = true) : form (a0n sz k l) = true ∧ f (a0n sz k l) ≤ (l.map f).sum := by
  have hp := a0Q (b0W sz k) l
  have hm : ∀ y, y ∈ a1o (ord sz k) l ↔ y ∈ l := fun y => hp.mem_iff.trans a2D
  have hs := b9O f hp
  have hd := b8i f l
  unfold a0n
  cases hi : a1o (ord sz k) l with
  | nil =>
    obtain ⟨y, hy⟩ := List.exists_mem_of_ne_nil l hl
    have := (hm y).2 hy
    rw [hi] at this; cases this
  | cons x r =>
    rw [hi] at hs hm
    obtain ⟨g1, g2⟩ := QM hf h2 h4 r x (hr x ((hm x).1 (.head _))) fun y hy => hr y ((hm y).1 (.tail _ hy))
    refine ⟨g1, ?_⟩
    show f (r.foldl (EC k) x) ≤ _
    rw [g2]
    simp only [List.map_cons, List.sum_cons] at hs
    omega
def fst:Qs→Qn
  | .nil=>zero
  | .cons k i r t ps _=>⟨k,i,r,t,ps⟩
def snd:Qs→Qn
  | .nil=>zero
  | .cons _ _ _ _ _ rest=>fst rest
theorem a3H{q a b:Qn}(h:q.Two a b):fst q.ps=a∧snd q.ps=b:=by rw[show q.ps=_ from h];exact⟨rfl,rfl⟩
def DW (sz:Qn→Nat):Nat→Qn→Qn
  |0,q=>q
  | n+1,q=>
    if q.k=1 then q
    else
      let a:=DW sz n (fst q.ps);let b:=DW sz n (snd q.ps)
      if q.k≠4 then a0n sz q.k (lst q.k a++lst q.k b)
      else if a.k=4 then EC 4 (fst a.ps) (DW sz n (EC 3 (snd a.ps) b))
      else EC 4 a b
theorem a3d sz {n q}(h:q.k=1):DW sz n q=q:=by
  cases n with
  |zero=>rfl
  |succ n=>exact if_pos h
theorem a3x sz {n q a b}(h1:q.k≠1)(h4:q.k≠4)(ht:q.Two a b):DW sz (n+1) q=a0n sz q.k (lst q.k (DW sz n a)++lst q.k (DW sz n b)):=by
  obtain⟨e1,e2⟩:=a3H ht;show(if q.k=1 then _ else _)=_;rw[if_neg h1,e1,e2];exact if_pos h4
theorem a5i sz {n q a b c d}(h4:q.k=4)(ht:q.Two a b)(hk:(DW sz n a).k=4)(ht2:(DW sz n a).Two c d):DW sz (n+1) q=EC 4 c (DW sz n (EC 3 d (DW sz n b))):=by
  obtain⟨e1,e2⟩:=a3H ht;obtain⟨e3,e4⟩:=a3H ht2;show(if q.k=1 then _ else _)=_;rw[if_neg (by omega),e1,e2];show(if q.k≠4 then _ else if (DW sz n a).k=4 then _ else _)=_;rw[if_neg (by omega),if_pos hk,e3,e4]
theorem a3v sz {n q a b}(h4:q.k=4)(ht:q.Two a b)(hk:(DW sz n a).k≠4):DW sz (n+1) q=EC 4 (DW sz n a) (DW sz n b):=by
  obtain⟨e1,e2⟩:=a3H ht;show(if q.k=1 then _ else _)=_;rw[if_neg (by omega),e1,e2];show(if q.k≠4 then _ else if (DW sz n a).k=4 then _ else _)=_;rw[if_neg (by omega),if_neg hk]
theorem YL{f}(hf:Adds f)(hw:Adds fun q=>q.size+2) sz:∀(n:Nat) (q:Qn),q.size<n→form q=true→form (DW sz n q)=true∧f (DW sz n q)≤f q∧(DW sz n q).size≤q.size
  |0,_,h,_=>absurd h (Nat.not_lt_zero _)
  | n+1,q,h,hq=>by
    rcases FI hq with h1|⟨h1,h2,h4,a,b,hab,ha,hb⟩
    · rw[a3d sz h1];exact⟨hq,Nat.le_refl _,Nat.le_refl _⟩
    have hs:=hab.size;obtain⟨a1,a2,a3⟩:=YL hf hw sz n a (by omega) ha;obtain⟨b1,b2,b3⟩:=YL hf hw sz n b (by omega) hb;have hfq:=hf.two hab h1 hq;have hwq:=hw.two hab h1 hq
    by_cases hk:q.k≠4
    · rw[a3x sz h1 hk hab];obtain⟨la1,la2,la3⟩:=UY hf h1 _ _ (Nat.lt_succ_self _) a1;obtain⟨lb1,lb2,lb3⟩:=UY hf h1 _ _ (Nat.lt_succ_self _) b1;obtain⟨wa1,_,_⟩:=UY hw h1 _ _ (Nat.lt_succ_self _) a1;obtain⟨wb1,_,_⟩:=UY hw h1 _ _ (Nat.lt_succ_self _) b1;have hne:lst q.k (DW sz n a)++lst q.k (DW sz n b)≠[]:=fun e=>la2 (List.append_eq_nil_iff.1 e).1;have hfo:∀y∈lst q.k (DW sz n a)++lst q.k (DW sz n b),form y=true:=fun y hy=>(List.mem_append.1 hy).elim (la3 y) (lb3 y);obtain⟨j1,j2⟩:=a3N hf sz h2 h4 hne hfo;obtain⟨_,j3⟩:=a3N hw sz h2 h4 hne hfo;rw[List.map_append,List.sum_append]at j2 j3;exact⟨j1,by omega,by omega⟩
    have hk4:q.k=4:=by omega
    by_cases hak:(DW sz n a).k=4
    · rcases FI a1 with g|⟨g1,_,_,c,d,hcd,hc,hd⟩
      · omega
      rw[a5i sz hk4 hab hak hcd];have hbd:form (EC 3 d (DW sz n b))=true:=(QM hf (k:=3) (by decide) (by decide) [DW sz n b] d hd (fun y hy=>by rw[List.mem_singleton.1 hy];exact b1)).1;have hfc:=hf.two hcd g1 a1;have hwc:=hw.two hcd g1 a1;have hwb:=hw.both 3 d (DW sz n b);have hfb:=hf.both 3 d (DW sz n b);obtain⟨c1,c2,c3⟩:=YL hf hw sz n (EC 3 d (DW sz n b)) (by omega) hbd;have hw4:=hw.both 4 c (DW sz n (EC 3 d (DW sz n b)));refine⟨(QM hf (k:=4) (by decide) (by decide) [_] c hc (fun y hy=>by rw[List.mem_singleton.1 hy];exact c1)).1,?_,?_⟩
      · rw[hf.both];omega
      omega
    rw[a3v sz hk4 hab hak];have hw4:=hw.both 4 (DW sz n a) (DW sz n b);refine⟨(QM hf (k:=4) (by decide) (by decide) [_] _ a1 (fun y hy=>by rw[List.mem_singleton.1 hy];exact b1)).1,?_,?_⟩
    · rw[hf.both];omega
    omega
theorem SQ:Adds fun q=>q.size+2:=⟨fun {q a b} h _ _=>by simp only[Qn.size,show q.ps=_ from h,Qn.push,Qs.size];omega,fun k a b=>by simp only[EC,Qn.size,Qn.push,Qs.size];omega⟩
theorem XC:Adds Qn.wide:=⟨fun {q a b} h h1 hq=>by
    have hb:¬(q.k<2∨q.k>4∨q.i≠[]∨q.r≠[]∨q.t≠[]∨q.ps.len≠2):=fun hh=>by rw[VT h1 hh]at hq;cases hq
    have e1:q.i=[]:=Decidable.byContradiction fun e=>hb (.inr (.inr (.inl e)));have e2:q.r=[]:=Decidable.byContradiction fun e=>hb (.inr (.inr (.inr (.inl e))));have e3:q.t=[]:=Decidable.byContradiction fun e=>hb (.inr (.inr (.inr (.inr (.inl e)))));unfold Qn.wide;rw[e1,e2,e3,show q.ps=_ from h];simp only[Qn.push,Qs.wide,List.length_nil];omega,fun k a b=>by unfold Qn.wide EC;simp only[Qn.push,Qs.wide,List.length_nil];omega⟩
theorem a1j{kind q}(hk:kind≠1)(hq:form q=true):0<(lst kind q).length∧(lst kind q).length≤q.size+1:=by
  obtain⟨h1,h2,_⟩:=UY SQ hk _ q (Nat.lt_succ_self _) hq;have h3:∀l:List Qn,2*l.length≤(l.map fun q=>q.size+2).sum:=fun l=>by
    induction l with
    |nil=>simp
    |cons x r ih=>simp only[List.map_cons,List.sum_cons,List.length_cons];omega
  have h4:=h3 (lst kind q);exact⟨List.length_pos_iff.2 h2,by omega⟩
def a4i (sz:Qn→Nat) (q:Qn):Qn:=DW sz (q.size+1) q
def a0W (sz:Qn→Nat) (q:Qn):Qn:=if right q then(if right (a4i sz q)then a4i sz q else q)else zero
end Ix
namespace Go.Proofs
open _root_.Go.Proofs.Tryz
open Go.Shelf
def Tryz.a2C:Go.Shelf.Ren:=⟨fun|4=>211|n=>n,fun|22=>30|25=>32|3=>3|4=>4|9=>9|20=>20|0=>0|n=>n,fun|n=>n⟩
theorem Tryz.c5S:Go.Proofs.Lays8.n4 Tryz.prog Tryz.a2C:={
  mixed:=by kernel_rfl
  f4:=⟨Tryz.f211.name,by decide,Tryz.func211.trans (congrArg some (by kernel_rfl))⟩
  t0:=Tryz.underlying0
  a0:=Tryz.isAgg0
  z0:=Tryz.sizeOf0
  v0:=Tryz.zeroValue0
  t3:=Tryz.underlying3
  a3:=Tryz.isAgg3
  z3:=Tryz.sizeOf3
  v3:=Tryz.zeroValue3
  t4:=Tryz.underlying4
  a4:=Tryz.isAgg4
  z4:=Tryz.sizeOf4
  v4:=Tryz.zeroValue4
  t9:=Tryz.underlying9
  a9:=Tryz.isAgg9
  z9:=Tryz.sizeOf9
  v9:=Tryz.zeroValue9
  t20:=Tryz.underlying20
  a20:=Tryz.isAgg20
  z20:=Tryz.sizeOf20
  v20:=Tryz.zeroValue20
  t22:=Tryz.underlying30
  a22:=Tryz.isAgg30
  z22:=Tryz.sizeOf30
  v22:=Tryz.zeroValue30 }
end Go.Proofs
section
namespace Go.Proofs.YtekmeaoblpfnpaaGreatDoor
open _root_.Go.Proofs.Tryz
open Go Go.Sx
theorem DV x:(GZ x).length=5:=rfl
theorem TG x:(GZ x).all Value.oneCell'=true:=rfl
def QL (I:Heap) (l:List QI) (v:Value):Prop:=zS GZ I l v∧∀x∈l,PS I x.q.ps x.p
theorem QL.mono{I I' l v}(h:QL I l v)(hle:Le I I'):QL I' l v:=⟨h.1.mono hle,fun x hx=>(h.2 x hx).mono hle⟩
theorem c2k{w I T g X}(hst:St w [] I I [] w)(hX:X.size=g*5):RR w [] I (fun e _ H'=>∃g,e= .returned (gV 0 g)∧BL 0 5 0 [] g∧H'=gH T [] g) (.returned (.slice (some ⟨w.heap.size,0,none⟩) 0 g)) (w.drew.alloc (.cells X T)):=
  have e:Obj.cells X T=yX T ([]++X.toList):=by simp[yX]
  ⟨I,[(w.heap.size,yX T ([]++X.toList))],e▸(hst.drewN (w.drawn+1)).alloc (.cells X T),some (w.heap.size,g,X.toList),rfl,⟨Nat.zero_le _,rfl,by simpa using hX⟩,rfl⟩
theorem c0r(n:Nat)(h0:0<n)(hl:n≤1000000000) I:yY Tryz.prog 211 [.slice none 0 0,i64 (n:Int)] I [] (fun e _ H'=>∃g,e= .returned (gV 0 g)∧BL 0 5 0 [] g∧H'=gH 32 [] g):=by
  refine⟨Enters.of Tryz.func211 (by decide) rfl,fun w hw=>?_⟩;have h:=Any8.slices_Grow_grow Tryz.c5S _ _ rfl rfl (by decide) none 0 0 n [] w (Nat.le_refl _) (by omega) (by show(0+n)*80≤_;omega) (by omega) rfl (fun _=>rfl) (fun a ha=>by cases ha);refine h.mono ?_;rintro e w' ⟨rfl,rfl⟩;have hst:=St.start w I [] hw.1 hw.2.1 hw.2.2.1 hw.2.2.2;have hge:=grownCap_ge w (0+n) 0 (Tryz.a2C.t 25);generalize grownCap w (0+n) 0 (Tryz.a2C.t 25)=g at hge ⊢;refine c2k hst ?_;simp[Builtin.zeroCells,Value.cells];omega
theorem a7P l m v1 v2 vb (h0:0<l.length+m.length)(hl:l.length+m.length≤1000000000) I (h1:zS GZ I l v1)(h2:zS GZ I m v2):
    yY Tryz.prog 143 [.slice (some ⟨vb,0,none⟩) 2 2] I [(vb,yX 30 [v1,v2])] (fun e I' H'=>∃w,e= .returned w∧zS GZ I' (l++m) w∧H'=[]):=by
 obtain⟨p1,c1,rfl,hc1,-⟩:=id h1;obtain⟨p2,c2,rfl,hc2,-⟩:=id h2;refine zQ Tryz.func143 fun w0 hw0=>?_;refine yU 19 ?_;refine Cj.rounds 3 ?_;refine Rj.succ ?_;refine yU 6 ?_;refine Cj.cond rfl (fun hc1=>?_) (fun hc1=>Bool.noConfusion (Eq.trans (Eq.symm (by first|rfl|decide)) hc1));refine zW 0 ?_;refine yU 19 ?_;refine Cj.cond rfl (fun hc2=>?_) (fun hc2=>?_)
 ·have hc2p:=ED hc2;omega
 have hc2p:=FQ hc2;refine yU 7 ?_;refine Ej.rounds ?_;refine Rj.succ ?_;refine yU 6 ?_;refine Cj.cond rfl (fun hc3=>?_) (fun hc3=>Bool.noConfusion (Eq.trans (Eq.symm (by first|rfl|decide)) hc3));refine zW 1 ?_;refine yU 19 ?_;refine Cj.cond rfl (fun hc4=>?_) (fun hc4=>?_)
 ·have hc4p:=ED hc4;omega
 have hc4p:=FQ hc4;refine yU 7 ?_;refine Ej.rounds ?_;refine Rj.succ ?_;refine yU 6 ?_;refine Cj.cond rfl (fun hc5=>Bool.noConfusion (Eq.trans (Eq.symm (by first|rfl|decide)) hc5)) (fun hc5=>?_);refine yU 8 ?_;refine J.ev 23 (i64 ((l.length+m.length:Nat):Int)) rfl (congrArg i64 (by omega)) ?_;refine LD (c0r (l.length+m.length) (by omega) (by omega) _) ?_;intro v7 I8 H9 hle10 hn6 hp11;have h1:=h1.mono hle10;have h2:=h2.mono hle10;obtain⟨g,h,hg0,rfl⟩:=hp11;cases h;have hg:=hg0.base hn6;refine J.perm (H':=[_]++gH _ _ g) List.perm_append_comm ?_;refine yU 12 ?_;refine Cj.rounds 3 ?_;refine Rj.succ ?_;refine yU 6 ?_;refine Cj.cond rfl (fun hc12=>?_) (fun hc12=>Bool.noConfusion (Eq.trans (Eq.symm (by first|rfl|decide)) hc12));refine zW 0 ?_;refine yU 7 ?_;refine J.op rfl (AQ (by':=79) [_] rfl rfl rfl rfl rfl BP (.inr ⟨_,BP⟩) (by kernel_rfl) yV BN rfl hg rfl (Src.row DV h1 (fun x _=>TG x)) (by omega) ?_);intro g13 hg13;refine yU 8 ?_;refine Ej.rounds ?_;refine Rj.succ ?_;refine yU 6 ?_;refine Cj.cond rfl (fun hc14=>?_) (fun hc14=>Bool.noConfusion (Eq.trans (Eq.symm (by first|rfl|decide)) hc14));refine zW 1 ?_;refine yU 7 ?_;refine J.op rfl (AQ (by':=79) [_] rfl rfl rfl rfl rfl BP (.inr ⟨_,BP⟩) (by kernel_rfl) yV BN rfl hg13 rfl (Src.row DV h2 (fun x _=>TG x)) (by omega) ?_);intro g15 hg15;refine yU 8 ?_;refine Ej.rounds ?_;refine Rj.succ ?_;refine yU 6 ?_;refine Cj.cond rfl (fun hc16=>Bool.noConfusion (Eq.trans (Eq.symm (by first|rfl|decide)) hc16)) (fun hc16=>?_);refine yU 12 ?_;refine Ej.keep (Keeps.d Keeps.r) ?_;have hfl:([]:List Value)++l.flatMap GZ++m.flatMap GZ=(l++m).flatMap GZ:=by simp
 refine Ej.perm (H':=gH 32 ((l++m).flatMap GZ) g15++[]) (.of_eq (by rw[←hfl,List.append_nil];rfl)) ?_;refine Ej.keepR DV (by decide) (by rw[←hfl];exact hg15) (by rw[List.length_append];omega) (fun I8 hle8 hw8=>?_);refine zV ?_;exact⟨_,rfl,hw8,rfl⟩
def a3M (q:Cq.Qn):Prop:=∀(kind:Int) (p:Option Addr) (c:Nat) (I:Heap),PS I q.ps p→Cq.form q=true→kind≠1→q.size≤100000000→yY Tryz.prog 144 [.agg (zT q p c).toArray,i64 kind] I [] (fun e I' H'=>(∃l v,e= .returned v∧QL I' l v∧l.map QI.q=Ix.lst kind q)∧H'=[])
theorem b9f q (ih:∀q',Cq.Qn.size q'<q.size→a3M q'):a3M q:=by
 intro kind p c I hps hform hk1 hsz;refine zQ Tryz.func144 fun w0 hw0=>?_;refine yU 3 ?_;intro b1 hb1;refine zK (fun hc2 hc2p=>?_) (fun hc2 hc2p=>?_)
 ·refine yU 4 ?_;intro b3 hb3;refine yU 5 ?_;refine Ej.keep (Keeps.k (Keeps.d Keeps.n)) ?_;have hk:q.k≠kind:=bne_iff_ne.1 hc2;refine Ej.persist hb3 (fun I9 hle9 hbi=>?_);refine AB ?_;exact⟨⟨[⟨q,p,c⟩],_,rfl,⟨zS.of (l:=[(⟨q,p,c⟩:QI)]) (sp:=[]) (Nat.le_refl _) hbi,fun x hx=>by rw[List.mem_singleton.1 hx];exact hps.mono hle9⟩,(Ix.b0T hk).symm⟩,rfl⟩
 have hk:q.k=kind:=JR hc2;have hk1':q.k≠1:=fun h=>hk1 (hk.symm.trans h);obtain⟨_,hk2,hk4,qa,qb,htw,hfa,hfb⟩:=(Cq.FI hform).resolve_left hk1';obtain⟨bl,off,cs',T,fr,pa,ca,pb,cb,rfl,hbl,hca,hcb,hkb,hpa,hpb⟩:=hps.KO htw;have hsz2:=htw.size;have hln:=htw.len;refine yU 3 ?_;refine Cj.EX [0] [] 15 (by kernel_rfl) ?_;have hbl_3:=hbl;refine yU 2 ?_;refine JA.fix AO (fun fx4=>?_);refine JA.tk 2 rfl fx4 (FX (off':=off) BP yV) ?_;refine JA.tk 3 rfl fx4 (BJ zL yV (yZ.OA hbl_3) hca) ?_;refine JA.tk 4 rfl fx4 qq2 ?_;refine JA.tk 6 rfl fx4 (CV (off':=4) tU32 DZ) ?_;refine JA.tk 7 rfl fx4 (DF QS (yZ.atC 0 rfl)) ?_;refine JA.tk 8 rfl fx4 (FX (off':=off+5) BP yV) ?_;refine JA.tk 9 rfl fx4 (BJ zL yV (yZ.OA hbl_3) hcb) ?_;refine JA.tk 10 rfl fx4 qq2 ?_;refine zO 5 rfl (zM (H1:=[]) rfl rfl rfl rfl rfl (ih qa hsz2.1 kind pa ca _ hpa hfa hk1 (by omega)) ?_ (fun _ _ _ _ h=>by obtain⟨⟨_,_,h,_⟩,_⟩:=h;cases h) (fun _ _ h=>by obtain⟨⟨_,_,h,_⟩,_⟩:=h;cases h));intro v5 I6 H7 hle8 hp9;have hbl:=hle8 _ _ hbl;have hpa:=hpa.mono hle8;have hpb:=hpb.mono hle8;obtain⟨⟨la,va,h,hla,hea⟩,rfl⟩:=hp9;cases h;have hza:=Ix.a1j hk1 hfa;rw[←hea,List.length_map]at hza;obtain⟨pa',ca',hva,-,-⟩:=id hla.1;subst hva;refine⟨⟨(Le.trans (Le.refl _) hle8),(HSub.c 0 rfl HSub.n),CSub.n⟩,?_⟩;refine zO 11 rfl (zM (H1:=[]) rfl rfl rfl rfl rfl (ih qb hsz2.2 kind pb cb _ hpb hfb hk1 (by omega)) ?_ (fun _ _ _ _ h=>by obtain⟨⟨_,_,h,_⟩,_⟩:=h;cases h) (fun _ _ h=>by obtain⟨⟨_,_,h,_⟩,_⟩:=h;cases h));intro v10 I11 H12 hle13 hp14;have hbl:=hle13 _ _ hbl;have hpa:=hpa.mono hle13;have hpb:=hpb.mono hle13;have hla:=hla.mono hle13;obtain⟨⟨lb,vb,h,hlb,heb⟩,rfl⟩:=hp14;cases h;have hzb:=Ix.a1j hk1 hfb;rw[←heb,List.length_map]at hzb;obtain⟨pb',cb',hvb,-,-⟩:=id hlb.1;subst hvb;refine⟨⟨(Le.trans (Le.trans (Le.refl _) hle8) hle13),(HSub.c 0 rfl HSub.n),CSub.n⟩,?_⟩;refine zO 12 rfl (ER Tryz.underlying262 DZ Tryz.zeroValue30 (EH.one rfl (EH.one rfl EH.none)) ?_);intro b15 hb15;refine⟨⟨(Le.trans (Le.trans (Le.refl _) hle8) hle13),(HSub.c 1 rfl HSub.n),CSub.n⟩,?_⟩;refine JA.pull Pull.z ?_;refine AP (a7P la lb _ _ _ (by omega) (by omega) _ hla.1 hlb.1) ?_;intro v16 I17 H18 hle19 hp20;have hbl:=hle19 _ _ hbl;have hpa:=hpa.mono hle19;have hpb:=hpb.mono hle19;have hla:=hla.mono hle19;have hlb:=hlb.mono hle19;obtain⟨w,h,hw,rfl⟩:=hp20;cases h;refine yU 5 ?_;refine Ej.keep (Keeps.d Keeps.n) ?_;refine AB ?_;exact⟨⟨la++lb,_,rfl,⟨hw,fun x hx=>(List.mem_append.1 hx).elim (hla.2 x) (hlb.2 x)⟩,by rw[List.map_append,hea,heb,Ix.a7m hk htw]⟩,rfl⟩
theorem b3D q:a3M q:=by
  suffices ∀n (q:Cq.Qn),q.size<n→a3M q from this _ q (Nat.lt_succ_self _)
  intro n
  induction n with
  |zero=>intro q h;omega
  |succ n ih=>intro q h;exact b9f q fun q' h'=>ih q' (by omega)
