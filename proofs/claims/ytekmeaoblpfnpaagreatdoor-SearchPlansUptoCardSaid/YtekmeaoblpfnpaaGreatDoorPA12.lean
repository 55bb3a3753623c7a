/-
  Own texts on the laws of the seat, joined: the logic, and contracts of functions. Conditions: none.
-/
import Derived.Test.YtekmeaoblpfnpaaGreatDoorNmA
import Derived.Test.YtekmeaoblpfnpaaGreatDoorPA11
set_option linter.all false
set_option maxRecDepth 100000
set_option maxHeartbeats 40000000
namespace Go.Proofs.YtekmeaoblpfnpaaGreatDoor
open Go Go.Sx
def FK (m:ML Ix.Rec) (k:Nat) (S:Ix.Rec→Bool):Prop:=MS m k∧∀t,AA m t=if S t=true then some (.bool true)else none
def KE (I:Heap) (v:Value) (S:Ix.Rec→Bool):Prop:=(v= .map none∧∀t,S t=false)∨∃b m k,v= .map (some b)∧FK m k S∧I b=some (zY zZ m k)
def XP (v:Value) (S:Ix.Rec→Bool) (H:HL):Prop:=∃b m k,v= .map (some b)∧FK m k S∧H=[(b,zY zZ m k)]
theorem KE.mono{I I' v S}(h:KE I v S)(hle:Le I I'):KE I' v S:=
  h.imp id fun⟨b,m,k,h1,h2,h3⟩=>⟨b,m,k,h1,h2,hle _ _ h3⟩
theorem KE.shape{I v S}(h:KE I v S):∃o,v= .map o:=h.elim (fun g=>⟨none,g.1⟩) fun⟨b,_,_,g,_⟩=>⟨some b,g⟩
def QO (l:List Ix.Rec) (t:Ix.Rec):Bool:=decide (t∈l)
theorem FK.nil:FK [] 0 (QO []):=⟨MS.nil,fun t=>by rw[show QO [] t=false from decide_eq_false (by simp)];rfl⟩
theorem FK.congr{m k S S'}(h:FK m k S)(he:∀t,S t=S' t):FK m k S':=⟨h.1,fun t=>by rw[←he t];exact h.2 t⟩
theorem FK.add{m k S S'}(h:FK m k S) u (he:∀t,S' t=(t == u || S t)):FK (BD m u (.bool true) k) (EN m u k) S':=by
  refine⟨h.1.set u _,fun t=>?_⟩;rw[OM,he t]
  by_cases ht:(t == u)=true
  · rw[if_pos ht,ht];rfl
  rw[if_neg ht,h.2 t,Bool.eq_false_iff.2 ht];rfl
theorem FK.push{m k l}(h:FK m k (QO l)) u:FK (BD m u (.bool true) k) (EN m u k) (QO (l++[u])):=h.add u fun t=>by
  unfold QO;rw[Bool.eq_iff_iff,Bool.or_eq_true,decide_eq_true_eq,decide_eq_true_eq,List.mem_append,List.mem_singleton,beq_iff_eq];exact Or.comm
theorem FK.get{m k S}(h:FK m k S) t:(AA m t).getD (.bool false)= .bool (S t):=by
  rw[h.2 t];cases S t<;>rfl
theorem FK.mem{m k S}(h:FK m k S) t:t∈m.map (·.1)↔S t=true:=by
  have h1:=h.2 t;constructor
  · intro hm;cases hs:S t with
    |true=>rfl
    | false=>
      rw[hs,if_neg Bool.false_ne_true]at h1;exact absurd hm (IW.1 h1)
  intro hs;rw[if_pos hs]at h1;refine Classical.byContradiction fun hn=>?_;rw[IW.2 hn]at h1;cases h1
theorem FK.empty{m k S}(h:FK m k S)(h0:m.length=0) t:S t=false:=by
  have hm:m=[]:=List.length_eq_zero_iff.1 h0;cases hs:S t with
  |false=>rfl
  |true=>have:=(h.mem t).2 hs;rw[hm]at this;cases this
theorem FK.len{m k S}(h:FK m k S){l:List Ix.Rec}(hl:∀t,S t=true→t∈l):m.length≤l.length:=by
  have:=a1Z (l:=m.map (·.1)) (m:=l) h.1.1 fun t ht=>hl t ((h.mem t).1 ht)
  rwa [List.length_map]at this
def XZ (vis:ML Ix.Rec) (P:Ix.Rec→Bool) (t:Ix.Rec):Bool:=decide (t∈vis.map (·.1)) && P t
theorem b8F{vis P x}(h:P x.1=true) t:XZ (vis++[x]) P t=(t == x.1 || XZ vis P t):=by
  unfold XZ;rw[Bool.eq_iff_iff,Bool.or_eq_true,Bool.and_eq_true,Bool.and_eq_true,decide_eq_true_eq,decide_eq_true_eq,beq_iff_eq,List.map_append,List.mem_append,List.map_cons,List.map_nil,List.mem_singleton];constructor
  · rintro⟨h1|h1,h2⟩
    · exact .inr ⟨h1,h2⟩
    exact .inl h1
  rintro(rfl|⟨h1,h2⟩)
  · exact⟨.inr rfl,h⟩
  exact⟨.inl h1,h2⟩
theorem c0w{vis P x}(h:P x.1=false) t:XZ (vis++[x]) P t=XZ vis P t:=by
  unfold XZ;rw[Bool.eq_iff_iff,Bool.and_eq_true,Bool.and_eq_true,decide_eq_true_eq,decide_eq_true_eq,List.map_append,List.mem_append,List.map_cons,List.map_nil,List.mem_singleton];constructor
  · rintro⟨h1|h1,h2⟩
    · exact⟨h1,h2⟩
    rw[h1,h]at h2;cases h2
  rintro⟨h1,h2⟩;exact⟨.inl h1,h2⟩
theorem b7C{vis m k S P}(h:FK m k S)(hp:vis.Perm m) t:XZ vis P t=(S t && P t):=by
  unfold XZ
  congr 1
  rw[Bool.eq_iff_iff,decide_eq_true_eq,(hp.map _).mem_iff,h.mem]
def XV (vis:ML Ix.Rec) (A:Ix.Rec→Bool) (t:Ix.Rec):Bool:=A t || decide (t∈vis.map (·.1))
theorem a6A{vis A x} t:XV (vis++[x]) A t=(t == x.1 || XV vis A t):=by
  unfold XV;rw[Bool.eq_iff_iff,Bool.or_eq_true,Bool.or_eq_true,Bool.or_eq_true,decide_eq_true_eq,decide_eq_true_eq,beq_iff_eq,List.map_append,List.mem_append,List.map_cons,List.map_nil,List.mem_singleton];constructor
  · rintro(h|h|h)
    · exact .inr (.inl h)
    · exact .inr (.inr h)
    exact .inl h
  rintro(h|h|h)
  · exact .inr (.inr h)
  · exact .inl h
  exact .inr (.inl h)
theorem a8c{vis m k S A}(h:FK m k S)(hp:vis.Perm m) t:XV vis A t=(A t || S t):=by
  unfold XV
  congr 1
  rw[Bool.eq_iff_iff,decide_eq_true_eq,(hp.map _).mem_iff,h.mem]
abbrev LR:=List Ix.Rec×Value
abbrev lrC (x:LR):List Value:=[x.2]
def LLS (I:Heap) (l:List LR) (v:Value):Prop:=zS lrC I l v∧∀x∈l,zS recC I x.1 x.2
theorem LLS.mono{I I' l v}(h:LLS I l v)(hle:Le I I'):LLS I' l v:=⟨h.1.mono hle,fun x hx=>(h.2 x hx).mono hle⟩
theorem a3r{ls:List LR}{lcs lsp:List Value}{lo}(h:lcs.drop lo=ls.flatMap lrC++lsp){i x}(hx:ls[i]?=some x):lcs[lo+i]?=some x.2:=by
  have h9:=DT (f:=lrC) (n:=1) (fun _=>rfl) h hx 0 Nat.zero_lt_one;rw[Nat.mul_one,Nat.add_zero]at h9;exact h9
theorem c3I{l:List LR}{i x}(h:l[i]?=some x):(l.take (i+1)).flatMap (·.1)=(l.take i).flatMap (·.1)++x.1:=by
  obtain⟨hlt,hg⟩:=List.getElem?_eq_some_iff.1 h;rw[List.take_succ_eq_append_getElem hlt,hg,List.flatMap_append];simp
theorem c0D{l:List Ix.Rec}{i x}(h:l[i]?=some x) P:P++l.take (i+1)=(P++l.take i)++[x]:=by
  obtain⟨hlt,hg⟩:=List.getElem?_eq_some_iff.1 h;rw[List.take_succ_eq_append_getElem hlt,hg,List.append_assoc]
theorem CQ{α:Type}{f:α→List Value}{I:Heap}{l:List α}{v:Value}(h:zS f I l v):∃p c,v= .slice p l.length c:=let ⟨p,c,h1,_⟩:=h;⟨p,c,h1⟩
def KQ (I:Heap) (v:Value) (L:Ix.Ix):Prop:=(v= .pointer none∧L=[])∨∃ib,v=ptr ib 0∧UF I ib L
theorem KQ.mono{I I' v L}(h:KQ I v L)(hle:Le I I'):KQ I' v L:=h.imp id fun⟨ib,h1,h2⟩=>⟨ib,h1,h2.mono hle⟩
theorem KQ.GY{I v L}(h:KQ I v L):Ix.BK L:=by
  rcases h with⟨_,rfl⟩|⟨ib,_,h⟩
  · exact List.Pairwise.nil
  exact h.GY
theorem KQ.big{I v L}(h:KQ I v L):L.length≤100000:=by
  rcases h with⟨_,rfl⟩|⟨ib,_,h⟩
  · exact Nat.zero_le _
  exact h.big
theorem a7l{l}(h:∀t,t∈l→t∈([]:Ix.Ix).map (·.1)):l=[]:=List.eq_nil_iff_forall_not_mem.2 fun t ht=>by have:=h t ht;cases this
theorem c2g xv L n s (hs:s.length≤100000000) I (hx:KQ I xv L):yY Tryz.prog 32 [xv,str n,str s] I [] (fun e _ H'=>∃v,e= .returned v∧a0E (Ix.word L n s) v H'):=by
  rcases hx with⟨rfl,rfl⟩|⟨ib,rfl,hx⟩
  · refine(c1N n s hs I).mono fun e I' H' _ ⟨h1,h2⟩=>⟨_,h1,?_⟩;rw[a7l fun t ht=>Ix.a7o (L:=[]) ht,h2];exact a4g
  exact c2C ib L n s hs I hx
theorem b5S xv L n s (hs:s.length≤100000000) I (hx:KQ I xv L):yY Tryz.prog 33 [xv,str n,str s] I [] (fun e _ H'=>∃v,e= .returned v∧a0E (Ix.phrase L n (Ke.words s)) v H'):=by
  rcases hx with⟨rfl,rfl⟩|⟨ib,rfl,hx⟩
  · refine(b6b n s hs I).mono fun e I' H' _ ⟨h1,h2⟩=>⟨_,h1,?_⟩;rw[a7l fun t ht=>Ix.a2A (L:=[]) ht,h2];exact a4g
  exact b8V ib L n s hs I hx
theorem b4E xv L n s (hs:s.length≤100000000) I (hx:KQ I xv L):yY Tryz.prog 34 [xv,str n,str s] I [] (fun e _ H'=>∃v,e= .returned v∧a0E (Ix.GU L n (Ix.keyOf n s)) v H'):=by
  rcases hx with⟨rfl,rfl⟩|⟨ib,rfl,hx⟩
  · refine(c3V n s I).mono fun e I' H' _ ⟨h1,h2⟩=>⟨_,h1,?_⟩;rw[a7l fun t ht=>Ix.a2t (L:=[]) ht,h2];exact a4g
  exact c5B ib L n s hs I hx
theorem a4Y xv L n s (hs:s.length≤100000000) most I (hx:KQ I xv L):yY Tryz.prog 160 [xv,str n,str s,i64 most] I [] (fun e _ H'=>∃v,e= .returned v∧b5D (Ix.scan L n s most) v H'):=by
  rcases hx with⟨rfl,rfl⟩|⟨ib,rfl,hx⟩
  · refine(c0I n s most I).mono fun e I' H' _ ⟨h1,h2⟩=>⟨_,h1,.inl ⟨?_,rfl,h2⟩⟩;unfold Ix.scan Ix.EI;simp
  exact c2Z ib L n s hs most I hx
theorem c0k xv L t I (hx:KQ I xv L):Pure Tryz.prog 28 [xv,zZ t] I (str (Ix.UH L t)):=by
  rcases hx with⟨rfl,rfl⟩|⟨ib,rfl,hx⟩
  · exact c0i t I
  exact b9I ib L t I hx
end Go.Proofs.YtekmeaoblpfnpaaGreatDoor
section
namespace Go.Proofs.YtekmeaoblpfnpaaGreatDoor
open _root_.Go.Proofs.Tryz
open Go Go.Sx
structure TC where
  vis:ML Ix.Rec
  rest:ML Ix.Rec
  l:ML Ix.Rec
  c:Nat
theorem a3J ls v (hll:ls.length≤1000000000000)(hlen:∀x∈ls,x.1.length≤1000000) I (hls:LLS I ls v):yY Tryz.prog 152 [v] I [] (fun e _ H'=>∃w,e= .returned w∧XP w (QO (ls.flatMap (·.1))) H'):=by
 obtain⟨⟨p,c,rfl,hc,hp⟩,hrs⟩:=hls;refine zQ func152 fun w0 hw0=>?_;refine yU 7 ?_;refine J.op rfl (BH rfl rfl rfl ?_);intro b1 hb1;refine yU 12 ?_;refine Cj.loop (ι:=Nat×ML Ix.Rec×Nat) (fun y=>y.1≤ls.length∧FK y.2.1 y.2.2 (QO ((ls.take y.1).flatMap (·.1)))) (fun y=>ls.length-y.1) (fun y=>[(3,.map (some b1)),(9,.slice p ls.length c),(10,i64 (ls.length:Int)),(11,i64 (y.1:Int))]) (fun y=>_) (fun y=>[(b1,zY zZ y.2.1 y.2.2)]) (0,[],0) ⟨Nat.zero_le _,FK.nil⟩ ⟨rfl,rfl,rfl,rfl,trivial⟩ rfl rfl ?_;rintro⟨i,l,cc⟩ ⟨hi,hM⟩;dsimp only at hi hM ⊢;refine zK (fun hc2 hc2p=>?_) (fun hc2 hc2p=>?_)
 ·have hlt:i<ls.length:=by omega
  obtain⟨⟨xs,xv⟩,hget⟩:∃x,ls[i]?=some x:=⟨_,BM hlt⟩;obtain⟨fb,fo,fcs,fty,ffr,fsp,rfl,hfb,hfd⟩:=hp (zU hlt);have hx2:=hrs _ (CX hget);obtain⟨p2,c2,hxe,hc2,hp2⟩:=id hx2;dsimp only at hxe hc2 hp2;subst hxe;have hxl:=hlen _ (CX hget);dsimp only at hxl;refine zW (fo+i) ?_;refine J.z (DU isAgg36 (yZ.LK hfb) (a3r hfd hget)) ?_;refine yU 11 ?_;refine Cj.loop (ι:=Nat×ML Ix.Rec×Nat) (fun y=>y.1≤xs.length∧FK y.2.1 y.2.2 (QO (((ls.take i).flatMap (·.1))++xs.take y.1))) (fun y=>xs.length-y.1) (fun y=>[(3,.map (some b1)),(9,.slice (some ⟨fb,fo,none⟩) ls.length c),(10,i64 (ls.length:Int)),(11,i64 (i:Int)),(15,.slice p2 xs.length c2),(16,i64 (xs.length:Int)),(17,i64 (y.1:Int))]) (fun y=>_) (fun y=>[(b1,zY zZ y.2.1 y.2.2)]) (0,_,_) ⟨Nat.zero_le _,by rw[List.take_zero,List.append_nil];exact hM⟩ ⟨rfl,rfl,rfl,rfl,rfl,rfl,rfl,trivial⟩ rfl rfl ?_;clear hM;rintro⟨j,l,cc⟩ ⟨hj,hM⟩;dsimp only at hj hM ⊢;refine zK (fun hc3 hc3p=>?_) (fun hc3 hc3p=>?_)
  ·have hlj:j<xs.length:=by omega
   obtain⟨y,hgy⟩:∃y,xs[j]?=some y:=⟨_,BM hlj⟩;obtain⟨qb,qo,qcs,qty,qfr,qsp,rfl,hqb,hqd⟩:=hp2 (zU hlj);refine zW (qo+j*2) ?_;refine J.z (BJ IZ EJ (yZ.LK hqb) (BF BR hqd hgy)) ?_;refine yU 1 ?_;intro b4 hb4;refine yU 6 ?_;refine J.op rfl (ES (kv:=zZ) (a:=y) 1 (.inr rfl) rfl rfl rfl rfl rfl IE EZ rfl (AU.s AU.z) ?_);refine yU 7 ?_;refine Ej.keep (Keeps.d (Keeps.k Keeps.n)) ?_;refine Ej.round (j+1,_,_) ⟨by dsimp only;omega,by dsimp only;rw[c0D hgy];exact hM.push y⟩ (by dsimp only;omega) ⟨rfl,rfl,rfl,rfl,rfl,rfl,rfl,trivial⟩ rfl rfl
  refine yU 10 ?_;refine Ej.round (i+1,_,_) ⟨by dsimp only;omega,by dsimp only;rw[c3I hget];rw[List.take_of_length_le (by omega:xs.length≤j)]at hM;exact hM⟩ (by dsimp only;omega) ⟨rfl,rfl,rfl,rfl,trivial⟩ rfl rfl
 refine yU 12 ?_;rw[List.take_of_length_le (by omega:ls.length≤i)]at hM;refine zV ?_;exact⟨_,rfl,b1,l,cc,rfl,hM,rfl⟩
theorem b7H mb m k (S P:Ix.Rec→Bool) g cap (hm:FK m k S) I (hmb:I mb=some (zY zZ m k))(hcl:∀t,S t=true→Pure Tryz.prog g (zZ t::cap) I (.bool (P t))):yY Tryz.prog 103 [.map (some mb),.func (.func g) #[] cap.toArray] I [] (fun e _ H'=>∃w,e= .returned w∧XP w (fun t=>S t && P t) H'):=by
 have hms:=hm.1;refine zQ func103 fun w0 hw0=>?_;refine yU 7 ?_;refine J.op rfl (BH rfl rfl rfl ?_);intro b1 hb1;refine yU 7 ?_;refine J.op rfl (NV (kv:=zZ) (l:=m) rfl rfl rfl rfl IE (yZ.LK hmb) ?_);intro b2 hb2;refine yU 3 ?_;refine Cj.loop (ι:=TC) (fun y=>(y.vis++y.rest).Perm m∧FK y.l y.c (XZ y.vis P)) (fun y=>y.rest.length) (fun y=>[(1,.func (.func g) #[] cap.toArray),(5,.map (some b1)),(9,ptr b2 0)]) (fun y=>_) (fun y=>[(b2,WT mb k y.vis k),(b1,zY zZ y.l y.c)]) ⟨[],m,[],0⟩ ⟨.refl _,FK.nil.congr fun _=>rfl⟩ ⟨rfl,rfl,rfl,trivial⟩ rfl rfl ?_;rintro⟨vis,rest,l,cc⟩ ⟨hp,hM⟩;dsimp only at hp hM ⊢;refine yU 2 ?_;refine J.op rfl (QJ (kv:=zZ) (l:=m) 0 rfl rfl rfl rfl rfl (yZ.LK hmb) hms.2.2 (Nat.le_refl _) hms.2.1 hp ?_ ?_)
 ·rintro x rest2 H9 hrx hpx ⟨-,hset⟩;simp only[List.set_cons_zero,List.set_cons_succ]at hset;subst hset;have hxm:x∈m:=hpx.mem_iff.1 (List.mem_append_left _ (List.mem_append_right _ (.head _)));have hSx:S x.1=true:=(hm.mem x.1).1 (List.mem_map_of_mem hxm);refine yU 10 ?_;refine J.z (VY (kv:=zZ) (l:=m) rfl rfl (yZ.at 0 rfl) (yZ.LK hmb) hxm hms.2.1) ?_;refine yU 2 ?_;intro b4 hb4;refine zX (hcl x.1 hSx) ?_;refine DI (fun hc16=>?_) (fun hc16=>?_)
  ·have hPx:P x.1=true:=hc16;refine yU 3 ?_;refine J.op rfl (ES (kv:=zZ) (a:=x.1) 2 (.inr rfl) rfl rfl rfl rfl rfl IE EZ rfl (AU.s (AU.s AU.z)) ?_);refine yU 2 ?_;refine Ej.keep (Keeps.d (Keeps.k (Keeps.k Keeps.n))) ?_;refine Ej.round ⟨vis++[x],rest2,_,_⟩ ⟨hpx,hM.add x.1 (b8F hPx)⟩ (by have h:=hrx.length_eq;simp only[List.length_cons]at h;dsimp only;omega) ⟨rfl,rfl,rfl,trivial⟩ rfl rfl
  have hPx:P x.1=false:=hc16;refine yU 2 ?_;refine Ej.keep (Keeps.d (Keeps.k (Keeps.k Keeps.n))) ?_;refine Ej.round ⟨vis++[x],rest2,l,cc⟩ ⟨hpx,hM.congr fun t=>(c0w hPx t).symm⟩ (by have h:=hrx.length_eq;simp only[List.length_cons]at h;dsimp only;omega) ⟨rfl,rfl,rfl,trivial⟩ rfl rfl
 intro hend;have hpv:vis.Perm m:=by rw[hend,List.append_nil]at hp;exact hp
 refine yU 17 ?_;refine Ej.keep (Keeps.d (Keeps.k Keeps.n)) ?_;refine zV ?_;exact⟨_,rfl,b1,l,cc,rfl,hM.congr (b7C hm hpv),rfl⟩
theorem b8W g (cap:List Value)(S P:Ix.Rec→Bool)(hS:∀t,S t=false) I:yY Tryz.prog 103 [.map none,.func (.func g) #[] cap.toArray] I [] (fun e _ H'=>∃w,e= .returned w∧XP w (fun t=>S t && P t) H'):=by
 refine zQ func103 fun w0 hw0=>?_;refine yU 7 ?_;refine J.op rfl (BH rfl rfl rfl ?_);intro b1 hb1;refine yU 7 ?_;refine J.op rfl (LQ rfl rfl rfl rfl IE ?_);intro b2 hb2;refine yU 3 ?_;refine Cj.rounds 1 ?_;refine Rj.succ ?_;refine yU 2 ?_;refine J.op rfl (MV 0 rfl rfl rfl rfl rfl ?_);refine yU 17 ?_;refine Ej.keep (Keeps.d (Keeps.k Keeps.n)) ?_;refine zV ?_;exact⟨_,rfl,_,[],0,rfl,FK.nil.congr (fun t=>by rw[hS t];rfl),rfl⟩
theorem WC v (S P:Ix.Rec→Bool) g cap I (h:KE I v S)(hcl:∀t,S t=true→Pure Tryz.prog g (zZ t::cap) I (.bool (P t))):yY Tryz.prog 103 [v,.func (.func g) #[] cap.toArray] I [] (fun e _ H'=>∃w,e= .returned w∧XP w (fun t=>S t && P t) H'):=by
  rcases h with⟨rfl,hS⟩|⟨b,m,k,rfl,hm,hb⟩
  · exact b8W g cap S P hS I
  exact b7H b m k S P g cap hm I hb hcl
theorem b6F xb S mb m k (hm:FK m k S) t I (hxb:I xb=some (yX 120 [.map (some mb)]))(hmb:I mb=some (zY zZ m k)):Pure Tryz.prog 157 [zZ t,ptr xb 0] I (.bool (S t)):=by
 refine yY.toPure ?_;have hget:=hm.get t;refine zQ func157 fun w0 hw0=>?_;refine yU 3 ?_;intro b1 hb1;refine yU 7 ?_;refine J.z (BI (kv:=zZ) (l:=m) (a:=t) rfl rfl rfl rfl IE EZ tZ4 (yZ.LK hmb)) ?_;refine J.ev 6 (.bool (S t)) rfl hget ?_;refine AB ?_;exact⟨rfl,rfl⟩
theorem b8G xb (S:Ix.Rec→Bool)(hS:∀t,S t=false) t I (hxb:I xb=some (yX 120 [.map none])):Pure Tryz.prog 157 [zZ t,ptr xb 0] I (.bool (S t)):=by
 refine yY.toPure ?_;have hget:Value.bool false= .bool (S t):=by rw[hS t]
 refine zQ func157 fun w0 hw0=>?_;refine yU 3 ?_;intro b1 hb1;refine yU 7 ?_;refine J.z (JX (kv:=zZ) (a:=t) rfl rfl rfl rfl IE EZ tZ4) ?_;refine J.ev 6 (.bool (S t)) rfl hget ?_;refine AB ?_;exact⟨rfl,rfl⟩
theorem c3y xb v S t I (hxb:I xb=some (yX 120 [v]))(h:KE I v S):Pure Tryz.prog 157 [zZ t,ptr xb 0] I (.bool (S t)):=by
  rcases h with⟨rfl,hS⟩|⟨b,m,k,rfl,hm,hb⟩
  · exact b8G xb S hS t I hxb
  exact b6F xb S b m k hm t I hxb hb
theorem b7Y xb S mb m k (hm:FK m k S) t I (hxb:I xb=some (yX 120 [.map (some mb)]))(hmb:I mb=some (zY zZ m k)):Pure Tryz.prog 104 [zZ t,ptr xb 0] I (.bool (S t)):=by
 refine yY.toPure ?_;have hget:=hm.get t;refine zQ func104 fun w0 hw0=>?_;refine yU 3 ?_;intro b1 hb1;refine yU 7 ?_;refine J.z (BI (kv:=zZ) (l:=m) (a:=t) rfl rfl rfl rfl IE EZ tZ4 (yZ.LK hmb)) ?_;refine J.ev 6 (.bool (S t)) rfl hget ?_;refine AB ?_;exact⟨rfl,rfl⟩
theorem b6W xb (S:Ix.Rec→Bool)(hS:∀t,S t=false) t I (hxb:I xb=some (yX 120 [.map none])):Pure Tryz.prog 104 [zZ t,ptr xb 0] I (.bool (S t)):=by
 refine yY.toPure ?_;have hget:Value.bool false= .bool (S t):=by rw[hS t]
 refine zQ func104 fun w0 hw0=>?_;refine yU 3 ?_;intro b1 hb1;refine yU 7 ?_;refine J.z (JX (kv:=zZ) (a:=t) rfl rfl rfl rfl IE EZ tZ4) ?_;refine J.ev 6 (.bool (S t)) rfl hget ?_;refine AB ?_;exact⟨rfl,rfl⟩
theorem b3x xb v S t I (hxb:I xb=some (yX 120 [v]))(h:KE I v S):Pure Tryz.prog 104 [zZ t,ptr xb 0] I (.bool (S t)):=by
  rcases h with⟨rfl,hS⟩|⟨b,m,k,rfl,hm,hb⟩
  · exact b6W xb S hS t I hxb
  exact b7Y xb S b m k hm t I hxb hb
theorem b8z xb S mb m k (hm:FK m k S) t I (hxb:I xb=some (yX 120 [.map (some mb)]))(hmb:I mb=some (zY zZ m k)):Pure Tryz.prog 105 [zZ t,ptr xb 0] I (.bool (!S t)):=by
 refine yY.toPure ?_;have hget:=hm.get t;refine zQ func105 fun w0 hw0=>?_;refine yU 3 ?_;intro b1 hb1;refine yU 7 ?_;refine J.z (BI (kv:=zZ) (l:=m) (a:=t) rfl rfl rfl rfl IE EZ tZ4 (yZ.LK hmb)) ?_;refine J.ev 6 (.bool (S t)) rfl hget ?_;refine AB ?_;exact⟨rfl,rfl⟩
theorem b8I xb (S:Ix.Rec→Bool)(hS:∀t,S t=false) t I (hxb:I xb=some (yX 120 [.map none])):Pure Tryz.prog 105 [zZ t,ptr xb 0] I (.bool (!S t)):=by
 refine yY.toPure ?_;have hget:Value.bool false= .bool (S t):=by rw[hS t]
 refine zQ func105 fun w0 hw0=>?_;refine yU 3 ?_;intro b1 hb1;refine yU 7 ?_;refine J.z (JX (kv:=zZ) (a:=t) rfl rfl rfl rfl IE EZ tZ4) ?_;refine J.ev 6 (.bool (S t)) rfl hget ?_;refine AB ?_;exact⟨rfl,rfl⟩
theorem b4C xb v S t I (hxb:I xb=some (yX 120 [v]))(h:KE I v S):Pure Tryz.prog 105 [zZ t,ptr xb 0] I (.bool (!S t)):=by
  rcases h with⟨rfl,hS⟩|⟨b,m,k,rfl,hm,hb⟩
  · exact b8I xb S hS t I hxb
  exact b8z xb S b m k hm t I hxb hb
theorem b7Q t I:Pure Tryz.prog 106 [zZ t] I (.bool true):=by
 refine yY.toPure ?_;refine zQ func106 fun w0 hw0=>?_;refine yU 3 ?_;intro b1 hb1;refine AB ?_;exact⟨rfl,rfl⟩
end Go.Proofs.YtekmeaoblpfnpaaGreatDoor
end
namespace Cq
def Qs.kinds:Qs→List Int
  | .nil=>[]
  | .cons k _ _ _ _ rest=>k::rest.kinds
def a4d (k:Int) (i r t:List UInt8) (n:Nat) (ps:Bool):Bool:=
  if k=1 then indexes.contains i && relations.contains r && n == 0
  else if k<2∨k>4∨i≠[]∨r≠[]∨t≠[]∨n≠2 then false else ps
def Qs.forms:Qs→Bool
  | .nil=>true
  | .cons k i r t ps rest=>a4d k i r t ps.len ps.forms && rest.forms
def form (q:Qn):Bool:=a4d q.k q.i q.r q.t q.ps.len q.ps.forms
def up (k : Int) : Nat := if k = 1 then 0 else 1
def a2W (k:Int) (ks:List Int) (ds:List Nat):Nat:=
  if k=1 then 0 else match ks,ds with
    |[_,k1],[a,b]=>max (b+up k1) a
    |_,_=>0
def Qs.depths:Qs→List Nat
  | .nil=>[]
  | .cons k _ _ _ ps rest=>a2W k ps.kinds ps.depths::rest.depths
def depth (q:Qn):Nat:=a2W q.k q.ps.kinds q.ps.depths
def right (q:Qn):Bool:=form q && decide (depth q≤50)
def escape (s:List UInt8):List UInt8:=s.flatMap fun c=>if c=34∨c=92 then[92,c]else[c]
def text (s:List UInt8):List UInt8:=34::escape s++[34]
def word (k : Int) : List UInt8 := if k = 2 then [97, 110, 100] else if k = 3 then [111, 114] else [110, 111, 116]
def paren (k:Int) (x:List UInt8):List UInt8:=if k=1 then x else 40::x++[41]
def a6O (k:Int) (i r t:List UInt8) (ks:List Int) (ds:List (List UInt8)):List UInt8:=
  if k=1 then i++[32]++r++[32]++text t else match ks,ds with
    |[_,k1],[a,b]=>a++[32]++word k++[32]++paren k1 b
    |_,_=>[]
def Qs.prints:Qs→List (List UInt8)
  | .nil=>[]
  | .cons k i r t ps rest=>a6O k i r t ps.kinds ps.prints::rest.prints
def write (q:Qn):List UInt8:=a6O q.k q.i q.r q.t q.ps.kinds q.ps.prints
def print (q:Qn):List UInt8:=if right q then write q else[]
def Qs.size:Qs→Nat
  | .nil=>0
  | .cons _ _ _ _ ps rest=>ps.size+rest.size+1
def Qn.size (q:Qn):Nat:=q.ps.size
def Qn.Two (q a b:Qn):Prop:=q.ps=a.push (b.push .nil)
theorem Qs.b2h:∀{ps:Qs},ps.len=2→∃a b:Qn,ps=a.push (b.push .nil)
  | .nil,h=>by simp[Qs.len]at h
  | .cons _ _ _ _ _ .nil,h=>by simp[Qs.len]at h
  | .cons k i r t ps (.cons k' i' r' t' ps' .nil),_=>⟨⟨k,i,r,t,ps⟩,⟨k',i',r',t',ps'⟩,rfl⟩
  | .cons _ _ _ _ _ (.cons _ _ _ _ _ (.cons _ _ _ _ _ _)),h=>by simp[Qs.len]at h
theorem Qn.Two.size{q a b:Qn}(h:q.Two a b):a.size<q.size∧b.size<q.size:=by
  simp only[Qn.size,show q.ps=_ from h,Qn.push,Qs.size];omega
theorem Qn.Two.len{q a b:Qn}(h:q.Two a b):q.ps.len=2:=by rw[show q.ps=_ from h];rfl
theorem MG{q}(h:q.k=1):form q=(indexes.contains q.i && relations.contains q.r && q.ps.len == 0):=by simp[form,a4d,h]
theorem VT{q}(h:q.k≠1)(h2:q.k<2∨q.k>4∨q.i≠[]∨q.r≠[]∨q.t≠[]∨q.ps.len≠2):form q=false:=by unfold form a4d;rw[if_neg h,if_pos h2]
theorem SE{q a b}(h:q.k≠1)(h2:¬(q.k<2∨q.k>4∨q.i≠[]∨q.r≠[]∨q.t≠[]∨q.ps.len≠2))(ht:q.Two a b):form q=(form a && form b):=by
  unfold form a4d;rw[if_neg h,if_neg h2,show q.ps=_ from ht];simp[Qn.push,Qs.forms,a4d]
theorem FI{q}(h:form q=true):q.k=1∨(q.k≠1∧2≤q.k∧q.k≤4∧∃a b,q.Two a b∧form a=true∧form b=true):=by
  by_cases h1:q.k=1
  · exact .inl h1
  by_cases h2:q.k<2∨q.k>4∨q.i≠[]∨q.r≠[]∨q.t≠[]∨q.ps.len≠2
  · rw[VT h1 h2]at h;cases h
  obtain⟨a,b,hab⟩:=Qs.b2h (ps:=q.ps) (by omega);rw[SE h1 h2 hab,Bool.and_eq_true]at h;exact .inr ⟨h1,by omega,by omega,a,b,hab,h.1,h.2⟩
theorem QN{q}(h:q.k=1):depth q=0:=by simp[depth,a2W,h]
theorem SN{q a b}(h:q.k≠1)(ht:q.Two a b):depth q=max (depth b+up b.k) (depth a):=by
  unfold depth;rw[show q.ps=_ from ht];simp[Qn.push,Qs.depths,Qs.kinds,a2W,h]
theorem JL{q}(h:q.k=1):write q=q.i++[32]++q.r++[32]++text q.t:=by simp[write,a6O,h]
theorem MO{q a b}(h:q.k≠1)(ht:q.Two a b):write q=write a++[32]++word q.k++[32]++paren b.k (write b):=by
  unfold write;rw[show q.ps=_ from ht];simp[Qn.push,Qs.prints,Qs.kinds,a6O,h]
theorem QB s:s.length≤(escape s).length∧(escape s).length≤2*s.length:=by induction s<;>grind [escape,List.length_append,List.length_cons,List.length_nil]
theorem b3n s c:escape (s++[c])=escape s++if c=34∨c=92 then[92,c]else[c]:=by simp[escape]
theorem a3c k x:x.length≤(paren k x).length:=by unfold paren;split<;>simp<;>omega
theorem KI {s : List UInt8} {k c} (h : s[k]? = some c) : s.take (k + 1) = s.take k ++ [c] := by
  rw [List.take_add_one, h]; rfl
theorem b2K{s:List UInt8}{k c}(h:s[k]?=some c):escape (s.take (k+1))=escape (s.take k)++if c=34∨c=92 then[92,c]else[c]:=by
  rw[KI h,b3n]
def Qs.get:Qs→Nat→Option Qn
  | .nil,_=>none
  | .cons k i r t ps _,0=>some ⟨k,i,r,t,ps⟩
  | .cons _ _ _ _ _ rest,j+1=>rest.get j
theorem Qs.b2y:∀{ps:Qs} {j:Nat},j<ps.len→∃x,ps.get j=some x
  | .nil,_,h=>by simp[Qs.len]at h
  | .cons k i r t ps _,0,_=>⟨⟨k,i,r,t,ps⟩,rfl⟩
  | .cons _ _ _ _ _ rest,j+1,h=>by simp only[Qs.len]at h;exact Qs.b2y (ps:=rest) (by omega)
theorem Qs.a5f:∀{ps:Qs} {j:Nat} {x:Qn},ps.get j=some x→x.size<ps.size
  | .nil,_,_,h=>by simp[Qs.get]at h
  | .cons k i r t ps rest,0,x,h=>by simp only[Qs.get,Option.some.injEq]at h;subst h;simp only[Qn.size,Qs.size];omega
  | .cons _ _ _ _ _ rest,j+1,x,h=>by have:=Qs.a5f (ps:=rest) h;simp only[Qs.size];omega
theorem Qs.ext:∀{a b:Qs},a.len=b.len→(∀j,j<a.len→a.get j=b.get j)→a=b
  | .nil,.nil,_,_=>rfl
  | .nil,.cons ..,h,_=>by simp[Qs.len]at h
  | .cons ..,.nil,h,_=>by simp[Qs.len]at h
  | .cons k i r t ps rest,.cons k' i' r' t' ps' rest',h,hg=>by
    have h0:=hg 0 (by simp[Qs.len]);simp only[Qs.get,Option.some.injEq,Qn.mk.injEq]at h0;obtain⟨rfl,rfl,rfl,rfl,rfl⟩:=h0;have:rest=rest':=Qs.ext (by simpa[Qs.len]using h) fun j hj=>by
      have:=hg (j+1) (by simp[Qs.len];omega);simpa[Qs.get]using this
    rw[this]
def Qs.wide:Qs→Nat
  | .nil=>0
  | .cons _ i r t ps rest=>i.length+r.length+t.length+ps.wide+rest.wide
def Qn.wide (q:Qn):Nat:=q.i.length+q.r.length+q.t.length+q.ps.wide
theorem Qn.Two.wide{q a b:Qn}(h:q.Two a b):a.wide≤q.wide∧b.wide≤q.wide:=by
  unfold Qn.wide;rw[show q.ps=_ from h];simp only[Qn.push,Qs.wide];omega
def deep (q:Qn):Int:=if form q then(depth q:Int)else -1
theorem b7m{q}(h:q.k=1):deep q=if (indexes.contains q.i && relations.contains q.r && q.ps.len == 0)then 0 else -1:=by
  unfold deep;rw[MG h,QN h];rfl
theorem b9g{q}(h:q.k≠1)(h2:q.k<2∨q.k>4∨q.i++q.r++q.t≠[]∨q.ps.len≠2):deep q= -1:=by
  unfold deep;rw[VT h (by
    rcases h2 with h2|h2|h2|h2
    · exact .inl h2
    · exact .inr (.inl h2)
    · by_cases hi:q.i=[]
      · by_cases hr:q.r=[]
        · exact .inr (.inr (.inr (.inr (.inl fun ht=>h2 (by simp[hi,hr,ht])))))
        exact .inr (.inr (.inr (.inl hr)))
      exact .inr (.inr (.inl hi))
    exact .inr (.inr (.inr (.inr (.inr h2)))))]
  rfl
theorem b9V{q a b}(h:q.k≠1)(h2:¬(q.k<2∨q.k>4∨q.i≠[]∨q.r≠[]∨q.t≠[]∨q.ps.len≠2))(ht:q.Two a b):deep q=if min (deep a) (deep b)<0 then -1 else max (deep a) (deep b+up b.k):=by
  unfold deep;rw[SE h h2 ht,SN h ht];cases form a<;>cases form b<;>simp<;>omega
theorem b4r q: -1≤deep q:=by unfold deep;split<;>omega
theorem a1D:∀(n:Nat) (q:Qn),q.size<n→form q=true→depth q≤q.size
  |0,q,h,_=>by omega
  | n+1,q,h,hf=>by
    rcases FI hf with hk|⟨hk,_,_,a,b,htw,ha,hb⟩
    · rw[QN hk];exact Nat.zero_le _
    have h1:=htw.size;have ha':=a1D n a (by omega) ha;have hb':=a1D n b (by omega) hb;have hu:up b.k≤1:=by unfold up;split<;>omega
    rw[SN hk htw];omega
theorem b4H q:deep q≤q.size:=by
  unfold deep
  split
  · rename_i h;have:=a1D _ q (Nat.lt_succ_self _) h;omega
  omega
theorem a6h q:(decide (deep q≥0) && decide (deep q≤50))=right q:=by
  unfold deep right;cases form q<;>simp;omega
end Cq
namespace Go.Sx
open Cq
def QC (I:Heap):Qs→List Value→Prop
  | .nil,_=>True
  | .cons k i r t ps rest,cs=>∃p c tl,cs=i64 k::str i::str r::str t:: .slice p ps.len c::tl∧
      (ps= .nil∨∃(b off:Nat) (cs':List Value) (T:TypeId) (fr:Nat×Nat),p=some ⟨b,off,none⟩∧I b=some (.cells cs'.toArray T fr)∧QC I ps (cs'.drop off))∧QC I rest tl
theorem QC.mono{I I'}(hle:Le I I'):∀{q:Qs} {cs:List Value},QC I q cs→QC I' q cs
  | .nil,_,_=>trivial
  | .cons _ _ _ _ _ps _rest,_,⟨p,c,tl,h1,h2,h3⟩=>⟨p,c,tl,h1,h2.imp id fun⟨b,off,cs',T,fr,g1,g2,g3⟩=>⟨b,off,cs',T,fr,g1,hle _ _ g2,QC.mono hle g3⟩,QC.mono hle h3⟩
def PS (I:Heap) (ps:Qs) (p:Option Addr):Prop:=ps= .nil∨∃(b off:Nat) (cs':List Value) (T:TypeId) (fr:Nat×Nat),p=some ⟨b,off,none⟩∧I b=some (.cells cs'.toArray T fr)∧QC I ps (cs'.drop off)
theorem PS.mono{I I' ps p}(h:PS I ps p)(hle:Le I I'):PS I' ps p:=
  h.imp id fun⟨b,off,cs',T,fr,g1,g2,g3⟩=>⟨b,off,cs',T,fr,g1,hle _ _ g2,QC.mono hle g3⟩
abbrev zT (q:Qn) (p:Option Addr) (c:Nat):List Value:=[i64 q.k,str q.i,str q.r,str q.t,.slice p q.ps.len c]
def QV (I:Heap) (q:Qn) (v:Value):Prop:=∃p c,v= .agg (zT q p c).toArray∧PS I q.ps p
theorem PS.two{I a b pa pb ca cb bl T}(ha:PS I a.ps pa)(hb:PS I b.ps pb)(h:I bl=some (yX T (zT a pa ca++(zT b pb cb++[])))):PS I (a.push (b.push .nil)) (some ⟨bl,0,none⟩):=
  .inr ⟨bl,0,_,T,(0,0),rfl,h,pa,ca,_,rfl,ha,pb,cb,_,rfl,hb,trivial⟩
theorem PS.KO{I}{q a b:Qn}{p}(h:PS I q.ps p)(ht:q.Two a b):
    ∃bl off cs' T fr pa ca pb cb,p=some ⟨bl,off,none⟩∧I bl=some (.cells (List.toArray cs') T fr)∧(cs'.drop off).take 5=zT a pa ca∧(cs'.drop (off+5)).take 5=zT b pb cb∧cs'[off+5]?=some (i64 b.k)∧PS I a.ps pa∧PS I b.ps pb:=by
  rw[show q.ps=_ from ht]at h;rcases h with h|⟨bl,off,cs',T,fr,rfl,hI,pa,ca,tl,hcs,hpa,pb,cb,tl2,htl,hpb,_⟩
  · cases h
  subst htl;refine⟨bl,off,cs',T,fr,pa,ca,pb,cb,rfl,hI,?_,?_,?_,hpa,hpb⟩
  · rw[hcs];rfl
  · rw[←List.drop_drop,hcs];rfl
  rw[←List.getElem?_drop,hcs];rfl
theorem QC.get{I}:∀{ps:Qs} {cs:List Value} {j:Nat} {x:Qn},QC I ps cs→ps.get j=some x→∃px cx,(cs.drop (j*5)).take 5=zT x px cx∧PS I x.ps px
  | .nil,_,_,_,_,h=>by simp[Qs.get]at h
  | .cons k i r t ps rest,cs,0,x,⟨p,c,tl,hcs,hps,_⟩,h=>by
    simp only[Qs.get,Option.some.injEq]at h;subst h hcs;exact⟨p,c,rfl,hps⟩
  | .cons _ _ _ _ _ rest,cs,j+1,x,⟨p,c,tl,hcs,_,hr⟩,h=>by
    obtain⟨px,cx,h1,h2⟩:=QC.get (j:=j) hr h;refine⟨px,cx,?_,h2⟩;subst hcs;rw[←h1];have:(j+1)*5=5+j*5:=by omega
    rw[this,←List.drop_drop];rfl
theorem PS.at{I ps p}(h:PS I ps p)(hn:0<ps.len):∃bl off cs' T fr,p=some ⟨bl,off,none⟩∧I bl=some (.cells (List.toArray cs') T fr)∧∀j x,ps.get j=some x→∃px cx,(cs'.drop (off+j*5)).take 5=zT x px cx∧PS I x.ps px:=by
  rcases h with rfl|⟨bl,off,cs',T,fr,rfl,hI,hQ⟩
  · simp[Qs.len]at hn
  refine⟨bl,off,cs',T,fr,rfl,hI,fun j x hx=>?_⟩;rw[←List.drop_drop];exact hQ.get hx
theorem VI{k}(h2:2≤k)(h4:k≤4):[str [97,110,100],str [111,114],str [110,111,116]][(k-2).toNat]?=some (str (word k)):=by
  obtain rfl|rfl|rfl:k=2∨k=3∨k=4:=by omega
  all_goals rfl
end Go.Sx
section
namespace Go.Proofs.YtekmeaoblpfnpaaGreatDoor
open Go Go.Sx
structure VL where
  i:Nat
  J:Heap
  ls:List LR
  g:Gs
theorem XO{α β:Type}(f:α→β){l:List α}{k x}(h:l[k]?=some x):(l.take (k+1)).map f=(l.take k).map f++[f x]:=by
  obtain⟨hlt,hg⟩:=List.getElem?_eq_some_iff.1 h;rw[List.take_succ_eq_append_getElem hlt,hg,List.map_append];rfl
theorem b4v{J ls}(h:∀x∈ls,zS recC J x.1 x.2){l w}(hw:zS recC J l w):∀x∈ls++[(l,w)],zS recC J x.1 x.2:=fun x hx=>by
  rcases List.mem_append.1 hx with g|g
  · exact h x g
  rw[List.mem_singleton.1 g];exact hw
theorem b4k{ls:List LR}{l}(h:ls.map (·.1)=l):ls.flatMap (·.1)=l.flatMap id:=by
  rw[←h,List.flatMap_map];rfl
theorem a7F L n s:(Ix.word L n s).length≤L.length:=by
  unfold Ix.word Ix.phrase
  split
  · split
    · exact Nat.zero_le _
    rw[List.length_map];exact List.length_filter_le _ _
  exact Nat.zero_le _
theorem a5I L n w:(Ix.phrase L n w).length≤L.length:=by
  unfold Ix.phrase
  split
  · exact Nat.zero_le _
  rw[List.length_map];exact List.length_filter_le _ _
theorem a9p xv L q p c (hq:q.t.length≤10000000) I (hx:KQ I xv L):yY Tryz.prog 155 [xv,.agg (zT q p c).toArray] I [] (fun e I' H'=>∃w ls,e= .returned w∧ls.map (·.1)=(Ke.words q.t).map (Ix.word L q.i)∧LLS I' ls w∧H'=[]):=by
 have hwl:=Ke.KG q.t;refine zQ Tryz.func155 fun w0 hw0=>?_;refine yU 3 ?_;intro b1 hb1;refine AP (SA q.t (by omega) _) ?_;intro v2 I3 H4 hle5 hp6;have hx:=hx.mono hle5;obtain⟨wv,h,hw,rfl⟩:=hp6;cases h;obtain⟨pw,cw,rfl⟩:=JQ hw;refine yU 5 ?_;refine Cj.loop (ι:=VL) (fun y=>y.i≤(Ke.words q.t).length∧Le I3 y.J∧y.ls.map (·.1)=((Ke.words q.t).take y.i).map (Ix.word L q.i)∧(∀x∈y.ls,zS recC y.J x.1 x.2)∧BL w0.heap.size 1 y.ls.length (y.ls.flatMap lrC) y.g) (fun y=>(Ke.words q.t).length-y.i) (fun y=>[(5,gV y.ls.length y.g),(0,xv),(3,ptr b1 0),(10,.slice pw (Ke.words q.t).length cw),(11,i64 ((Ke.words q.t).length:Int)),(12,i64 (y.i:Int))]) (fun y=>y.J) (fun y=>(b1,yX 32 (zT q p c))::gH 36 (y.ls.flatMap lrC) y.g) ⟨0,_,[],none⟩ ⟨Nat.zero_le _,Le.refl _,rfl,(fun x hx=>by cases hx),rfl,rfl⟩ ⟨rfl,rfl,rfl,rfl,rfl,rfl,trivial⟩ rfl rfl ?_;rintro⟨i,J1,ls,g⟩ ⟨hi,hIJ,hmp,hR,hg⟩;dsimp only at hi hIJ hmp hR hg ⊢;have hx:=hx.mono hIJ;have hw:=hw.mono hIJ;have hll:ls.length=i:=by have h:=congrArg List.length hmp;rw[List.length_map,List.length_map,List.length_take]at h;omega
 refine zK (fun hc7 hc7p=>?_) (fun hc7 hc7p=>?_)
 ·have hlt:i<(Ke.words q.t).length:=by omega
  obtain⟨x,hget⟩:∃x,(Ke.words q.t)[i]?=some x:=⟨_,BM hlt⟩;have hxl:=Ke.PY _ x (CX hget);obtain⟨wb,wc1,wsp,hwe,hwb⟩:=hw.some (zU hlt);cases hwe;refine zW i ?_;refine J.z (DU CU (yZ.LK hwb) (FT hget)) ?_;refine LD (c2g xv L q.i x (by omega) _ hx) ?_;intro v9 I10 H11 hle12 hn8 hp13;have hx:=hx.mono hle12;have hw:=hw.mono hle12;have hIJ:=hIJ.mono hle12;have hR:=fun x9 hx9=>(hR x9 hx9).mono hle12;have hwb:=hle12 _ _ hwb;obtain⟨wa,h,hoa⟩:=hp13;cases h;refine J.a1A hoa hn8 (fun Ia hlea hra=>?_);have hx:=hx.mono hlea;have hw:=hw.mono hlea;have hIJ:=hIJ.mono hlea;have hR:=fun x9 hx9=>(hR x9 hx9).mono hlea;have hwb:=hlea _ _ hwb;replace hra:=hra.row;obtain⟨pa,ca,rfl⟩:=CQ hra;refine yU 1 ?_;intro b14 hb14;refine RD 23 [_,_] hg ?_;intro g15 hg15;refine yU 8 ?_;refine Ej.keep (Keeps.d (Keeps.k Keeps.r)) ?_;refine Ej.round ⟨i+1,_,ls++[(Ix.word L q.i x,_)],g15⟩ ⟨by dsimp only;omega,hIJ,by dsimp only;rw[List.map_append,hmp,XO _ hget];rfl,b4v hR hra,by dsimp only;rw[List.length_append,List.flatMap_append];exact hg15⟩ (by dsimp only;omega) ⟨by dsimp only;rw[List.length_append];rfl,rfl,rfl,rfl,rfl,rfl,trivial⟩ rfl (by dsimp only;rw[List.flatMap_append];rfl)
 refine yU 6 ?_;rw[List.take_of_length_le (by omega:(Ke.words q.t).length≤i)]at hmp;refine Cj.perm (H':=gH 36 (ls.flatMap lrC) g++[_]) List.perm_append_comm ?_;refine Cj.keepR (f:=lrC) (fun _=>rfl) (by decide) hg rfl (fun I8 hle8 hv=>?_);have hx:=hx.mono hle8;have hw:=hw.mono hle8;have hIJ:=hIJ.mono hle8;have hR:=fun x9 hx9=>(hR x9 hx9).mono hle8;refine AB ?_;exact⟨_,ls,rfl,hmp,⟨hv,hR⟩,rfl⟩
theorem b0f xv L n ks v (hk:∀x∈ks,Ke.a7A x.1)(hkl:ks.length≤1000000000000) I (hx:KQ I xv L)(hT:LZ I)(hr:zS II I ks v):yY Tryz.prog 159 [xv,str n,v] I [] (fun e _ H'=>∃w,e= .returned w∧XP w (QO (Ix.keyed L n (ks.map (·.1)))) H'):=by
 have hbig:=hx.big;obtain⟨p,c,rfl⟩:=CQ hr;refine zQ Tryz.func159 fun w0 hw0=>?_;refine yU 19 ?_;refine Cj.loop (ι:=VL) (fun y=>y.i≤ks.length∧Le I y.J∧y.ls.map (·.1)=(ks.take y.i).map (fun x=>Ix.GU L n (Ix.keyOf n (Ke.ZB x.1)))∧(∀x∈y.ls,zS recC y.J x.1 x.2)∧BL w0.heap.size 1 y.ls.length (y.ls.flatMap lrC) y.g) (fun y=>ks.length-y.i) (fun y=>[(7,gV y.ls.length y.g),(0,xv),(1,str n),(10,.slice p ks.length c),(11,i64 (ks.length:Int)),(12,i64 (y.i:Int))]) (fun y=>y.J) (fun y=>gH 36 (y.ls.flatMap lrC) y.g) ⟨0,_,[],none⟩ ⟨Nat.zero_le _,Le.refl _,rfl,(fun x hx=>by cases hx),rfl,rfl⟩ ⟨rfl,rfl,rfl,rfl,rfl,rfl,trivial⟩ rfl rfl ?_;rintro⟨i,J1,ls,g⟩ ⟨hi,hIJ,hmp,hR,hg⟩;dsimp only at hi hIJ hmp hR hg ⊢;have hx:=hx.mono hIJ;have hT:=hT.mono hIJ;have hr:=hr.mono hIJ;have hll:ls.length=i:=by have h:=congrArg List.length hmp;rw[List.length_map,List.length_map,List.length_take]at h;omega
 refine zK (fun hc1 hc1p=>?_) (fun hc1 hc1p=>?_)
 ·have hlt:i<ks.length:=by omega
  obtain⟨x,hget⟩:∃x,ks[i]?=some x:=⟨_,BM hlt⟩;have hkx:=hk x (CX hget);have hkx2:=hkx.2.2.1;obtain⟨p1,c1,hpe,hc1,hp⟩:=id hr;cases hpe;obtain⟨fb,fo,fcs,fty,ffr,fsp,rfl,hfb,hfd⟩:=hp (zU hlt);refine zW (fo+i*2) ?_;refine J.z (BJ Tryz.isAgg268 UL (yZ.LK hfb) (BF IX hfd hget)) ?_;refine yU 1 ?_;intro b2 hb2;refine zX (c0W x.1 hkx _ hT) ?_;refine LD (b4E xv L n (Ke.ZB x.1) (by omega) _ hx) ?_;intro v4 I5 H6 hle7 hn3 hp8;have hx:=hx.mono hle7;have hT:=hT.mono hle7;have hr:=hr.mono hle7;have hIJ:=hIJ.mono hle7;have hR:=fun x9 hx9=>(hR x9 hx9).mono hle7;have hfb:=hle7 _ _ hfb;obtain⟨wa,h,hoa⟩:=hp8;cases h;refine J.a1A hoa hn3 (fun Ia hlea hra=>?_);have hx:=hx.mono hlea;have hT:=hT.mono hlea;have hr:=hr.mono hlea;have hIJ:=hIJ.mono hlea;have hR:=fun x9 hx9=>(hR x9 hx9).mono hlea;have hfb:=hlea _ _ hfb;replace hra:=hra.row;obtain⟨pa,ca,rfl⟩:=CQ hra;refine yU 1 ?_;intro b9 hb9;refine RD 23 [_,_] hg ?_;intro g10 hg10;refine yU 8 ?_;refine Ej.keep (Keeps.d (Keeps.d Keeps.r)) ?_;refine Ej.round ⟨i+1,_,ls++[(Ix.GU L n (Ix.keyOf n (Ke.ZB x.1)),_)],g10⟩ ⟨by dsimp only;omega,hIJ,by dsimp only;rw[List.map_append,hmp,XO _ hget];rfl,b4v hR hra,by dsimp only;rw[List.length_append,List.flatMap_append];exact hg10⟩ (by dsimp only;omega) ⟨by dsimp only;rw[List.length_append];rfl,rfl,rfl,rfl,rfl,rfl,trivial⟩ rfl (by dsimp only;rw[List.flatMap_append];rfl)
 refine yU 6 ?_;rw[List.take_of_length_le (by omega:ks.length≤i)]at hmp;refine Cj.perm (H':=gH 36 (ls.flatMap lrC) g++[]) (.of_eq (List.append_nil _)) ?_;refine Cj.keepR (f:=lrC) (fun _=>rfl) (by decide) hg rfl (fun I8 hle8 hv=>?_);have hx:=hx.mono hle8;have hT:=hT.mono hle8;have hr:=hr.mono hle8;have hIJ:=hIJ.mono hle8;have hR:=fun x9 hx9=>(hR x9 hx9).mono hle8;have hlen:∀x∈ls,x.1.length≤1000000:=fun x hx=>by
   have h9:x.1∈ls.map (·.1):=List.mem_map_of_mem hx;rw[hmp]at h9;obtain⟨y,_,hy⟩:=List.mem_map.1 h9;rw[←hy];exact FD (Ix.a5y _ _ _) (by omega)
 refine AP (a3J ls _ (by omega) hlen _ ⟨hv,hR⟩) ?_;intro v11 I12 H13 hle14 hp15;have hx:=hx.mono hle14;have hT:=hT.mono hle14;have hr:=hr.mono hle14;have hIJ:=hIJ.mono hle14;have hR:=fun x9 hx9=>(hR x9 hx9).mono hle14;have hv:=hv.mono hle14;obtain⟨wb,h,ob,mb,kb,rfl,hmb,rfl⟩:=hp15;cases h;refine yU 4 ?_;refine Ej.keep (Keeps.k Keeps.n) ?_;refine zV ?_;refine⟨_,rfl,ob,mb,kb,rfl,hmb.congr fun t=>?_,rfl⟩;rw[show Ix.keyed L n (ks.map (·.1))=ls.flatMap (·.1) from ?_];rw[b4k hmp,List.flatMap_map];unfold Ix.keyed;rw[List.flatMap_map];rfl
end Go.Proofs.YtekmeaoblpfnpaaGreatDoor
end
section
namespace Go.Proofs.YtekmeaoblpfnpaaGreatDoor
open _root_.Go.Proofs.Tryz
open Go Go.Sx
theorem KQ.vok{I v L}(h:KQ I v L):∀e∈L,JZ e.2:=by
  rcases h with⟨_,rfl⟩|⟨ib,_,o,h,_⟩
  · exact fun e he=>by cases he
  cases o with
  |none=>rw[show L=[] from h];exact fun e he=>by cases he
  |some s=>exact GN.vok h
theorem a4s{L}(hs:Ix.BK L)(hv:∀e∈L,JZ e.2)(hL:L.length≤100000) n b:(Ix.EI L n b).length≤1000000000000:=by
  have h1:((Ix.EI L n b).map fun k=>(n,k)).length≤(L.flatMap fun e=>Ix.XF e.2).length:=by
    refine a1Z ?_ fun p hp=>?_
    · rw[List.nodup_iff_pairwise_ne,List.pairwise_map];refine(Ix.WM L n b).imp fun {x y} h e=>?_;have:=congrArg Prod.snd e;dsimp only at this;rw[this]at h;exact List.lt_irrefl _ h
    obtain⟨k,hk,rfl⟩:=List.mem_map.1 hp;obtain⟨e,he,hpe⟩:=(Ix.a1e hs).1 ((Ix.QZ hs).1 hk).2;exact List.mem_flatMap.2 ⟨e,he,hpe⟩
  have h2:∀M:Ix.Ix,(∀e∈M,JZ e.2)→(M.flatMap fun e=>Ix.XF e.2).length≤M.length*10000000:=by
    intro M
    induction M with
    |nil=>intro _;simp
    | cons a r ih=>
      intro hM;have:=ih fun e he=>hM e (.tail _ he);have h3:=(hM a (.head _)).k;rw[List.flatMap_cons,List.length_append,List.length_cons,Nat.add_mul];omega
  rw[List.length_map]at h1;exact FD (FD h1 (h2 L hv)) (Nat.mul_le_mul_right 10000000 hL)
abbrev PZ:Int:=9223372036854775807
theorem RY {L : Ix.Ix} (hs : Ix.BK L) (hv : ∀ e ∈ L, JZ e.2) (hL : L.length ≤ 100000) (n s : List UInt8) : ((Ix.scan L n s PZ).map DK).map (·.1) = Ix.EI L n (Ix.keyOf n s) := by
  have h := a4s hs hv hL n (Ix.keyOf n s)
  rw [List.map_map]
  exact Ix.a7Q (by show _ ≤ 9223372036854775807; omega)
theorem a3y{L}(hs:Ix.BK L)(hv:∀e∈L,JZ e.2)(hL:L.length≤100000) n s:((Ix.scan L n s PZ).map DK).length=(Ix.EI L n (Ix.keyOf n s)).length∧(Ix.EI L n (Ix.keyOf n s)).length≤1000000000000:=by
  have h1:=congrArg List.length (RY hs hv hL n s);rw[List.length_map]at h1;exact⟨h1,a4s hs hv hL n _⟩
theorem a9k{L}(ht:Ix.TOK L)(hs:Ix.BK L)(hv:∀e∈L,JZ e.2)(hL:L.length≤100000) n s:∀x∈(Ix.scan L n s PZ).map DK,Ke.a7A x.1:=fun x hx=>by
  have h:x.1∈((Ix.scan L n s PZ).map DK).map (·.1):=List.mem_map_of_mem hx;rw[RY hs hv hL]at h;exact ht.key hs h
theorem c0x{L}(hs:Ix.BK L) n b:(Ix.EI L n b).length≤(Ix.EI L n []).length:=by
  rw[Ix.a3q hs n b];exact List.length_filter_le _ _
theorem NH (l : List Ix.Rec) (v : Value) : ([((l, v) : LR)].flatMap (·.1)) = l := List.append_nil l
def b9u (kb:Nat):ML (List UInt8):=[([61],.func (.func 153) #[] #[ptr kb 0],0),([61,61],.func (.func 151) #[] #[],1),([97,110,121],.func (.func 154) #[] #[],2),([97,108,108],.func (.func 156) #[] #[],3),([62,61],.func (.func 158) #[] #[],4),([60],.func (.func 161) #[] #[],5)]
theorem c6s{ls:List LR}{L i}{ws:Ke.Row}(h:ls.map (·.1)=ws.map (Ix.word L i)) t:QO (ls.flatMap (·.1)) t=ws.any fun w=>decide (t∈Ix.word L i w):=by
  unfold QO;rw[b4k h,Bool.eq_iff_iff,decide_eq_true_eq,List.mem_flatMap,List.any_eq_true];constructor
  · rintro⟨l,hl,ht⟩;obtain⟨w,hw,rfl⟩:=List.mem_map.1 hl;exact⟨w,hw,decide_eq_true ht⟩
  rintro⟨w,hw,ht⟩;exact⟨_,List.mem_map_of_mem hw,ED ht⟩
def ZV (ls:List LR) (t:Ix.Rec):Bool:=ls.all fun x=>decide (t∈x.1)
theorem a9d{ls:List LR}{i x}(h:ls[i]?=some x) t:ZV (ls.take (i+1)) t=(ZV (ls.take i) t && decide (t∈x.1)):=by
  obtain⟨hlt,hg⟩:=List.getElem?_eq_some_iff.1 h;unfold ZV;rw[List.take_succ_eq_append_getElem hlt,hg,List.all_append,List.all_cons,List.all_nil,Bool.and_true]
theorem allL{ls L i}{ws:Ke.Row}(h:ls.map (·.1)=ws.map (Ix.word L i)) t:ZV ls t=ws.all fun w=>decide (t∈Ix.word L i w):=by
  have:ZV ls t=(ls.map (·.1)).all fun l=>decide (t∈l):=by unfold ZV;rw[List.all_map];rfl
  rw[this,h,List.all_map];rfl
theorem b4d xv L q p c (hq:q.t.length≤10000000) I (hx:KQ I xv L):yY Tryz.prog 151 [xv,.agg (zT q p c).toArray] I [] (fun e _ H'=>∃w,e= .returned w∧XP w (QO (Ix.GU L q.i (Ix.keyOf q.i q.t))) H'):=by
 have hbig:=hx.big;refine zQ func151 fun w0 hw0=>?_;refine yU 3 ?_;intro b1 hb1;refine LD (b4E xv L q.i q.t (by omega) _ hx) ?_;intro v3 I4 H5 hle6 hn2 hp7;have hx:=hx.mono hle6;obtain⟨wa,h,hoa⟩:=hp7;cases h;refine J.a1A hoa hn2 (fun Ia hlea hra=>?_);have hx:=hx.mono hlea;replace hra:=hra.row;obtain⟨pa,ca,rfl⟩:=CQ hra;refine yU 1 ?_;intro b8 hb8;refine J.persist hb8 (fun I10 hle9 hb8i=>?_);have hx:=hx.mono hle9;have hra:=hra.mono hle9;have hls:LLS _ [((Ix.GU L q.i (Ix.keyOf q.i q.t)),.slice pa _ ca)] (.slice (some ⟨b8,0,none⟩) 1 1):=⟨zS.of (l:=[(((Ix.GU L q.i (Ix.keyOf q.i q.t)),.slice pa _ ca):LR)]) (sp:=[]) (Nat.le_refl _) hb8i,fun x hx=>by rw[List.mem_singleton.1 hx];exact hra⟩;refine AP (a3J [((Ix.GU L q.i (Ix.keyOf q.i q.t)),_)] _ (by show 1≤_;decide) (fun x hx=>by rw[List.mem_singleton.1 hx];exact FD (Ix.a5y _ _ _) (by omega)) _ hls) ?_;intro v11 I12 H13 hle14 hp15;have hx:=hx.mono hle14;have hra:=hra.mono hle14;have hb8i:=hle14 _ _ hb8i;have hls:=hls.mono hle14;obtain⟨wb,h,ob,mb,kb,rfl,hmb,rfl⟩:=hp15;cases h;refine yU 4 ?_;refine Ej.keep (Keeps.k (Keeps.d Keeps.n)) ?_;refine zV ?_;exact⟨_,rfl,ob,mb,kb,rfl,hmb.congr fun t=>congrArg (fun l=>QO l t) (NH _ _),rfl⟩
theorem c4q xv L q p c (hq:q.t.length≤10000000) I (hx:KQ I xv L) kb' (hkb:I kb'=some (yX 121 [.func (.func 151) #[] #[]])):yY Tryz.prog 153 [xv,.agg (zT q p c).toArray,ptr kb' 0] I [] (fun e _ H'=>∃w,e= .returned w∧XP w (fun t=>if q.i=Ix.MX then QO (Ix.GU L q.i (Ix.keyOf q.i q.t)) t else QO (Ix.phrase L q.i (Ke.words q.t)) t) H'):=by
 have hbig:=hx.big;refine zQ func153 fun w0 hw0=>?_;refine yU 3 ?_;intro b1 hb1;refine zK (fun hc2 hc2p=>?_) (fun hc2 hc2p=>?_)
 ·refine AP (b4d xv L q p c hq _ hx) ?_;intro v3 I4 H5 hle6 hp7;have hx:=hx.mono hle6;have hkb:=hle6 _ _ hkb;obtain⟨wb,h,ob,mb,kb,rfl,hmb,rfl⟩:=hp7;cases h;refine yU 5 ?_;refine Ej.keep (Keeps.k (Keeps.d Keeps.n)) ?_;have hi:q.i=Ix.MX:=CO hc2;refine zV ?_;exact⟨_,rfl,ob,mb,kb,rfl,hmb.congr fun t=>by rw[if_pos hi],rfl⟩
 refine LD (b5S xv L q.i q.t (by omega) _ hx) ?_;intro v9 I10 H11 hle12 hn8 hp13;have hx:=hx.mono hle12;have hkb:=hle12 _ _ hkb;obtain⟨wa,h,hoa⟩:=hp13;cases h;refine J.a1A hoa hn8 (fun Ia hlea hra=>?_);have hx:=hx.mono hlea;have hkb:=hlea _ _ hkb;replace hra:=hra.row;obtain⟨pa,ca,rfl⟩:=CQ hra;refine yU 1 ?_;intro b14 hb14;refine J.persist hb14 (fun I16 hle15 hb14i=>?_);have hx:=hx.mono hle15;have hkb:=hle15 _ _ hkb;have hra:=hra.mono hle15;have hls:LLS _ [((Ix.phrase L q.i (Ke.words q.t)),.slice pa _ ca)] (.slice (some ⟨b14,0,none⟩) 1 1):=⟨zS.of (l:=[(((Ix.phrase L q.i (Ke.words q.t)),.slice pa _ ca):LR)]) (sp:=[]) (Nat.le_refl _) hb14i,fun x hx=>by rw[List.mem_singleton.1 hx];exact hra⟩;refine AP (a3J [((Ix.phrase L q.i (Ke.words q.t)),_)] _ (by show 1≤_;decide) (fun x hx=>by rw[List.mem_singleton.1 hx];exact FD (a5I _ _ _) (by omega)) _ hls) ?_;intro v17 I18 H19 hle20 hp21;have hx:=hx.mono hle20;have hkb:=hle20 _ _ hkb;have hra:=hra.mono hle20;have hb14i:=hle20 _ _ hb14i;have hls:=hls.mono hle20;obtain⟨wb,h,ob,mb,kb,rfl,hmb,rfl⟩:=hp21;cases h;refine yU 4 ?_;refine Ej.keep (Keeps.k (Keeps.d Keeps.n)) ?_;have hi:q.i≠Ix.MX:=CW hc2;refine zV ?_;exact⟨_,rfl,ob,mb,kb,rfl,hmb.congr fun t=>by rw[if_neg hi];exact congrArg (fun l=>QO l t) (NH _ _),rfl⟩
theorem c2F xv L q p c (hq:q.t.length≤10000000) I (hx:KQ I xv L):yY Tryz.prog 154 [xv,.agg (zT q p c).toArray] I [] (fun e _ H'=>∃w,e= .returned w∧XP w (fun t=>(Ke.words q.t).any fun w=>decide (t∈Ix.word L q.i w)) H'):=by
 have hbig:=hx.big;have hwl:=Ke.KG q.t;refine zQ func154 fun w0 hw0=>?_;refine yU 3 ?_;intro b1 hb1;refine AP (a9p xv L q p c hq _ hx) ?_;intro v2 I3 H4 hle5 hp6;have hx:=hx.mono hle5;obtain⟨wl,ls,h,hmp,hls,rfl⟩:=hp6;cases h;have hlen:∀x∈ls,x.1.length≤1000000:=fun x hx=>by
   have h9:x.1∈ls.map (·.1):=List.mem_map_of_mem hx;rw[hmp]at h9;obtain⟨y,_,hy⟩:=List.mem_map.1 h9;rw[←hy];exact FD (a7F _ _ _) (by omega)
 have hll:ls.length=(Ke.words q.t).length:=by have h:=congrArg List.length hmp;rw[List.length_map,List.length_map]at h;exact h
 obtain⟨pl,cl,hpcl,hcl,-⟩:=id hls.1;subst hpcl;refine AP (a3J ls _ (by omega) hlen _ hls) ?_;intro v7 I8 H9 hle10 hp11;have hx:=hx.mono hle10;have hls:=hls.mono hle10;obtain⟨wb,h,ob,mb,kb,rfl,hmb,rfl⟩:=hp11;cases h;refine yU 4 ?_;refine Ej.keep (Keeps.k (Keeps.d Keeps.n)) ?_;refine zV ?_;exact⟨_,rfl,ob,mb,kb,rfl,hmb.congr (c6s hmp),rfl⟩
theorem KE.congr{I v S S'}(h:KE I v S)(he:∀t,S t=S' t):KE I v S':=
  h.imp (fun⟨h1,h2⟩=>⟨h1,fun t=>by rw[←he t];exact h2 t⟩) fun⟨b,m,k,h1,h2,h3⟩=>⟨b,m,k,h1,h2.congr he,h3⟩
theorem b9M{ls:List LR}{x}(h:ls[0]?=some x) t:ZV (ls.take (0+1)) t=QO x.1 t:=by
  rw[a9d h t];rfl
theorem c4a xv L q p c (hq:q.t.length≤10000000) I (hx:KQ I xv L):yY Tryz.prog 156 [xv,.agg (zT q p c).toArray] I [] (fun e I' H'=>∃w,e= .returned w∧KE I' w (fun t=> !(Ke.words q.t).isEmpty && (Ke.words q.t).all fun w=>decide (t∈Ix.word L q.i w))∧H'=[]):=by
 have hbig:=hx.big;have hwl:=Ke.KG q.t;refine zQ func156 fun w0 hw0=>?_;refine yU 3 ?_;intro b1 hb1;refine AP (a9p xv L q p c hq _ hx) ?_;intro v2 I3 H4 hle5 hp6;have hx:=hx.mono hle5;obtain⟨wl,ls,h,hmp,hls,rfl⟩:=hp6;cases h;have hlen:∀x∈ls,x.1.length≤1000000:=fun x hx=>by
   have h9:x.1∈ls.map (·.1):=List.mem_map_of_mem hx;rw[hmp]at h9;obtain⟨y,_,hy⟩:=List.mem_map.1 h9;rw[←hy];exact FD (a7F _ _ _) (by omega)
 have hll:ls.length=(Ke.words q.t).length:=by have h:=congrArg List.length hmp;rw[List.length_map,List.length_map]at h;exact h
 obtain⟨pl,cl,hpcl,hcl,-⟩:=id hls.1;subst hpcl;refine zK (fun hc7 hc7p=>?_) (fun hc7 hc7p=>?_)
 ·refine AB ?_;exact⟨_,rfl,.inl ⟨rfl,fun t=>by rw[show Ke.words q.t=[] from List.length_eq_zero_iff.1 (by have h:=CO hc7;omega)];rfl⟩,rfl⟩
 have hl0:0<ls.length:=by have h:=CW hc7;omega
 obtain⟨⟨xs0,xv0⟩,hget0⟩:∃x,ls[0]?=some x:=⟨_,BM hl0⟩;obtain⟨p1,c1,hpe,hc1,hp⟩:=id hls.1;cases hpe;obtain⟨lb,lo,lcs,lty,lfr,lsp,rfl,hlb,hld⟩:=hp (zU hl0);have hra:=hls.2 _ (CX hget0);dsimp only at hra;have hxl0:=hlen _ (CX hget0);dsimp only at hxl0;obtain⟨pa,ca,rfl⟩:=CQ hra;have hts:=zS.cut (f:=lrC) (sz:=1) (fun _=>rfl) hls.1 (j:=1) (k:=ls.length) hl0 (Nat.le_refl _);rw[List.take_of_length_le (by simp)]at hts;obtain⟨p4,c4,he4⟩:=CQ hts;rw[he4]at hts;refine zW (lo+0) ?_;refine J.z (DU isAgg36 (yZ.LK hlb) (a3r hld hget0)) ?_;refine yU 1 ?_;intro b8 hb8;refine J.persist hb8 (fun I10 hle9 hb8i=>?_);have hx:=hx.mono hle9;have hls:=hls.mono hle9;have hlb:=hle9 _ _ hlb;have hra:=hra.mono hle9;have hts:=hts.mono hle9;have hls1:LLS _ [(xs0,.slice pa _ ca)] (.slice (some ⟨b8,0,none⟩) 1 1):=⟨zS.of (l:=[((xs0,.slice pa _ ca):LR)]) (sp:=[]) (Nat.le_refl _) hb8i,fun x hx=>by rw[List.mem_singleton.1 hx];exact hra⟩;refine AP (a3J [(xs0,_)] _ (by show 1≤_;decide) (fun x hx=>by rw[List.mem_singleton.1 hx];exact hxl0) _ hls1) ?_;intro v11 I12 H13 hle14 hp15;have hx:=hx.mono hle14;have hlb:=hle14 _ _ hlb;have hra:=hra.mono hle14;have hts:=hts.mono hle14;have hb8i:=hle14 _ _ hb8i;have hls1:=hls1.mono hle14;have hls:=hls.mono hle14;obtain⟨wb,h,ob,mb,kb,rfl,hmb,rfl⟩:=hp15;cases h;refine yU 5 ?_;refine Cj.b4N rfl (fun hnew7=>?_);refine Cj.persist (hnew7 _ (.head _)) (fun I7 hle7 hb7=>?_);have hx:=hx.mono hle7;have hlb:=hle7 _ _ hlb;have hra:=hra.mono hle7;have hts:=hts.mono hle7;have hb8i:=hle7 _ _ hb8i;have hls1:=hls1.mono hle7;have hls:=hls.mono hle7;have hset:KE I7 (.map (some ob)) (ZV (ls.take (0+1))):= .inr ⟨ob,mb,kb,rfl,hmb.congr (fun t=>by rw[b9M hget0 t,NH]),hb7⟩;refine yU 2 ?_;refine J.z (MI (j:=1) rfl rfl rfl underlying225 sizeOf36 rfl hl0 hcl) ?_;refine J.ev 22 (.slice p4 (ls.drop 1).length c4) rfl he4 ?_;refine yU 5 ?_;refine Cj.loop (ι:=Nat×Heap×Value) (fun y=>y.1+1≤ls.length∧Le I7 y.2.1∧KE y.2.1 y.2.2 (ZV (ls.take (y.1+1)))) (fun y=>ls.length-y.1) (fun y=>[(3,ptr b1 0),(6,y.2.2),(22,.slice p4 (ls.drop 1).length c4),(23,i64 ((ls.drop 1).length:Int)),(24,i64 (y.1:Int))]) (fun y=>y.2.1) (fun y=>[(b1,yX 32 (zT q p c))]) (0,_,_) ⟨hl0,Le.refl _,hset⟩ ⟨rfl,rfl,rfl,rfl,rfl,trivial⟩ rfl rfl ?_;clear hset;rintro⟨i,J1,sv⟩ ⟨hi,hIJ,hset⟩;dsimp only at hi hIJ hset ⊢;have hls:=hls.mono hIJ;have hts:=hts.mono hIJ;have hdl:(ls.drop 1).length=ls.length-1:=List.length_drop;refine zK (fun hc16 hc16p=>?_) (fun hc16 hc16p=>?_)
 ·have hlt:i+1<ls.length:=by omega
  obtain⟨⟨xs,xv1⟩,hget⟩:∃x,ls[i+1]?=some x:=⟨_,BM hlt⟩;have hgd:(ls.drop 1)[i]?=some (xs,xv1):=by rw[List.getElem?_drop,Nat.add_comm];exact hget
  obtain⟨p5,c5,hpe5,hc5,hp5⟩:=id hts;cases hpe5;obtain⟨tb,tof,tcs,tty,tfr,tsp,rfl,htb,htd⟩:=hp5 (zU (by omega:i<(ls.drop 1).length));have hrb:=hls.2 _ (CX hget);dsimp only at hrb;have hxl:=hlen _ (CX hget);dsimp only at hxl;obtain⟨pb,cb,rfl⟩:=CQ hrb;have hnx:=a9d hget;refine zW (tof+i) ?_;refine J.z (DU isAgg36 (yZ.LK htb) (a3r htd hgd)) ?_;refine yU 7 ?_;intro b17 hb17;refine J.persist hb17 (fun I19 hle18 hb17i=>?_);have hls:=hls.mono hle18;have hts:=hts.mono hle18;have hset:=hset.mono hle18;have hIJ:=hIJ.mono hle18;have htb:=hle18 _ _ htb;have hrb:=hrb.mono hle18;have hls2:LLS _ [(xs,.slice pb _ cb)] (.slice (some ⟨b17,0,none⟩) 1 1):=⟨zS.of (l:=[((xs,.slice pb _ cb):LR)]) (sp:=[]) (Nat.le_refl _) hb17i,fun x hx=>by rw[List.mem_singleton.1 hx];exact hrb⟩;refine AP (a3J [(xs,_)] _ (by show 1≤_;decide) (fun x hx=>by rw[List.mem_singleton.1 hx];exact hxl) _ hls2) ?_;intro v20 I21 H22 hle23 hp24;have hts:=hts.mono hle23;have hset:=hset.mono hle23;have hIJ:=hIJ.mono hle23;have htb:=hle23 _ _ htb;have hrb:=hrb.mono hle23;have hb17i:=hle23 _ _ hb17i;have hls2:=hls2.mono hle23;have hls:=hls.mono hle23;obtain⟨wc,h,oc,mc,kc,rfl,hmc,rfl⟩:=hp24;cases h;refine yU 1 ?_;intro b25 hb25;refine yU 3 ?_;refine Cj.pull (Pull.s Pull.z) ?_;refine Cj.b4N rfl (fun hnew6=>?_);refine Cj.persist (hnew6 _ (.head _)) (fun I6 hle6 hb6=>?_);have hts:=hts.mono hle6;have hset:=hset.mono hle6;have hIJ:=hIJ.mono hle6;have htb:=hle6 _ _ htb;have hrb:=hrb.mono hle6;have hb17i:=hle6 _ _ hb17i;have hls2:=hls2.mono hle6;have hls:=hls.mono hle6;have hset2:KE I6 (.map (some oc)) (QO xs):= .inr ⟨oc,mc,kc,rfl,hmc.congr (fun t=>congrArg (fun l=>QO l t) (NH _ _)),hb6⟩;refine Cj.persist hb25 (fun I27 hle26 hb25i=>?_);have hts:=hts.mono hle26;have hset:=hset.mono hle26;have hIJ:=hIJ.mono hle26;have htb:=hle26 _ _ htb;have hrb:=hrb.mono hle26;have hb17i:=hle26 _ _ hb17i;have hls2:=hls2.mono hle26;have hls:=hls.mono hle26;have hset2:=hset2.mono hle26;refine AP (WC _ (ZV (ls.take (i+1))) (QO xs) _ [ptr b25 0] _ hset (fun t _=>c3y b25 _ (QO xs) t _ hb25i hset2)) ?_;intro v28 I29 H30 hle31 hp32;have hts:=hts.mono hle31;have hset:=hset.mono hle31;have hIJ:=hIJ.mono hle31;have htb:=hle31 _ _ htb;have hrb:=hrb.mono hle31;have hb17i:=hle31 _ _ hb17i;have hls2:=hls2.mono hle31;have hls:=hls.mono hle31;have hset2:=hset2.mono hle31;have hb25i:=hle31 _ _ hb25i;obtain⟨wd,h,od,md,kd,rfl,hmd,rfl⟩:=hp32;cases h;refine yU 4 ?_;refine Cj.b4N rfl (fun hnew8=>?_);refine Cj.persist (hnew8 _ (.head _)) (fun I8 hle8 hb8=>?_);have hts:=hts.mono hle8;have hset:=hset.mono hle8;have hIJ:=hIJ.mono hle8;have htb:=hle8 _ _ htb;have hrb:=hrb.mono hle8;have hb17i:=hle8 _ _ hb17i;have hls2:=hls2.mono hle8;have hls:=hls.mono hle8;have hset2:=hset2.mono hle8;have hb25i:=hle8 _ _ hb25i;have hset3:KE I8 (.map (some od)) (ZV (ls.take (i+1+1))):= .inr ⟨od,md,kd,rfl,hmd.congr (fun t=>(hnx t).symm),hb8⟩;refine yU 4 ?_;refine Ej.round (i+1,_,_) ⟨by dsimp only;omega,hIJ,hset3⟩ (by dsimp only;omega) ⟨rfl,rfl,rfl,rfl,rfl,trivial⟩ rfl rfl
 refine AB ?_;refine⟨_,rfl,?_,rfl⟩;rw[List.take_of_length_le (by omega:ls.length≤i+1)]at hset;refine hset.congr fun t=>?_;rw[allL hmp];rw[show(Ke.words q.t).isEmpty=false from by
   cases hw:Ke.words q.t with
   |nil=>rw[hw]at hll;rw[hll]at hl0;exact absurd hl0 (Nat.lt_irrefl 0)
   |cons a r=>rfl]
 rfl
theorem c4G xv L q p c (hq:q.t.length≤10000000) I (hx:KQ I xv L)(hT:LZ I)(htk:Ix.TOK L):yY Tryz.prog 158 [xv,.agg (zT q p c).toArray] I [] (fun e _ H'=>∃w,e= .returned w∧XP w (fun t=>decide (t∈Ix.keyed L q.i (Ix.EI L q.i (Ix.keyOf q.i q.t)))) H'):=by
 have hbig:=hx.big;have hsrt:=hx.GY;have hvok:=hx.vok;obtain⟨hsl,hsl2⟩:=a3y hsrt hvok hbig q.i q.t;refine zQ func158 fun w0 hw0=>?_;refine yU 3 ?_;intro b1 hb1;refine yU 4 ?_;refine Cj.persist hb1 (fun I3 hle2 hb1i=>?_);have hx:=hx.mono hle2;have hT:=hT.mono hle2;refine Cj.EX [] [] 11 (by kernel_rfl) ?_;have hb1i_1:=hb1i;refine LD (a4Y xv L q.i q.t (by omega) PZ _ hx) ?_;intro v6 I7 H8 hle9 hn5 hp10;have hx:=hx.mono hle9;have hT:=hT.mono hle9;have hb1i:=hle9 _ _ hb1i;obtain⟨wa,h,hoa⟩:=hp10;cases h;have hna:=hn5;refine yU 1 ?_;refine JA.a1A hoa hna (fun Ia hlea hra=>?_);have hx:=hx.mono hlea;have hT:=hT.mono hlea;have hb1i:=hlea _ _ hb1i;replace hra:=hra.row;obtain⟨pa,ca,hpa,hca,-⟩:=id hra;subst hpa;refine AP (b0f xv L q.i ((Ix.scan L q.i q.t PZ).map DK) _ (a9k htk hsrt hvok hbig q.i q.t) (by omega) _ hx hT hra) ?_;intro v11 I12 H13 hle14 hp15;have hx:=hx.mono hle14;have hT:=hT.mono hle14;have hb1i:=hle14 _ _ hb1i;have hra:=hra.mono hle14;obtain⟨wb,h,ob,mb,kb,rfl,hmb,rfl⟩:=hp15;cases h;refine yU 5 ?_;refine Ej.keep (Keeps.k Keeps.n) ?_;refine zV ?_;exact⟨_,rfl,ob,mb,kb,rfl,hmb.congr fun t=>congrArg (fun l=>QO (Ix.keyed L q.i l) t) (RY hsrt hvok hbig q.i q.t),rfl⟩
theorem c2E xv L q p c (hq:q.t.length≤10000000) I (hx:KQ I xv L)(hT:LZ I)(htk:Ix.TOK L):yY Tryz.prog 161 [xv,.agg (zT q p c).toArray] I [] (fun e _ H'=>∃w,e= .returned w∧XP w (fun t=>decide (t∈Ix.keyed L q.i ((Ix.EI L q.i []).take ((Ix.EI L q.i []).length-(Ix.EI L q.i (Ix.keyOf q.i q.t)).length)))) H'):=by
 have hbig:=hx.big;have hsrt:=hx.GY;have hvok:=hx.vok;obtain⟨hsl,hsl2⟩:=a3y hsrt hvok hbig q.i q.t;obtain⟨hsm,hsm2⟩:=a3y hsrt hvok hbig q.i [];rw[Ix.a0w]at hsm hsm2;have hkl:=c0x hsrt q.i (Ix.keyOf q.i q.t);refine zQ func161 fun w0 hw0=>?_;refine yU 3 ?_;intro b1 hb1;refine yU 4 ?_;refine Cj.persist hb1 (fun I3 hle2 hb1i=>?_);have hx:=hx.mono hle2;have hT:=hT.mono hle2;refine Cj.EX [] [] 12 (by kernel_rfl) ?_;have hb1i_1:=hb1i;refine LD (a4Y xv L q.i [] (by decide) PZ _ hx) ?_;intro v6 I7 H8 hle9 hn5 hp10;have hx:=hx.mono hle9;have hT:=hT.mono hle9;have hb1i:=hle9 _ _ hb1i;obtain⟨wa,h,hoa⟩:=hp10;cases h;have hna:=hn5;refine yU 1 ?_;refine JA.a1A hoa hna (fun Ia hlea hra=>?_);have hx:=hx.mono hlea;have hT:=hT.mono hlea;have hb1i:=hlea _ _ hb1i;replace hra:=hra.row;obtain⟨pa,ca,hpa,hca,-⟩:=id hra;subst hpa;refine LD (a4Y xv L q.i q.t (by omega) PZ _ hx) ?_;intro v12 I13 H14 hle15 hn11 hp16;have hx:=hx.mono hle15;have hT:=hT.mono hle15;have hb1i:=hle15 _ _ hb1i;have hra:=hra.mono hle15;obtain⟨wd,h,hod⟩:=hp16;cases h;have hnd:=hn11;refine yU 1 ?_;refine JA.a1A hod hnd (fun Id hled hrd=>?_);have hx:=hx.mono hled;have hT:=hT.mono hled;have hb1i:=hled _ _ hb1i;have hra:=hra.mono hled;replace hrd:=hrd.row;obtain⟨pd,cd,hpd,hcd,-⟩:=id hrd;subst hpd;refine yU 5 ?_;refine Cj.EX [] [] 12 (by kernel_rfl) ?_;have hb1i_2:=hb1i;refine yU 9 ?_;refine JA.ev 25 (i64 ((((Ix.scan L q.i [] PZ).map DK).length-((Ix.scan L q.i q.t PZ).map DK).length):Nat)) rfl (congrArg i64 (by omega)) ?_;refine JA.zt 9 rfl (a1w rfl rfl rfl UR UL (by omega)) ?_;refine AP (b0f xv L q.i (((Ix.scan L q.i [] PZ).map DK).take (((Ix.scan L q.i [] PZ).map DK).length-((Ix.scan L q.i q.t PZ).map DK).length)) _ (fun x hx=>a9k htk hsrt hvok hbig q.i [] x (List.mem_of_mem_take hx)) (by rw[List.length_take];omega) _ hx hT (zS.take hra (Nat.sub_le _ _))) ?_;intro v19 I20 H21 hle22 hp23;have hx:=hx.mono hle22;have hT:=hT.mono hle22;have hb1i:=hle22 _ _ hb1i;have hra:=hra.mono hle22;have hrd:=hrd.mono hle22;obtain⟨wb,h,ob,mb,kb,rfl,hmb,rfl⟩:=hp23;cases h;refine yU 5 ?_;refine Ej.keep (Keeps.k Keeps.n) ?_;refine zV ?_;exact⟨_,rfl,ob,mb,kb,rfl,hmb.congr fun t=>by rw[List.map_take,RY hsrt hvok hbig q.i [],hsl,hsm,Ix.a0w];rfl,rfl⟩
theorem b0c I:yY Tryz.prog 102 [] I [] (fun e I' H'=>∃kb mb,e= .returned (.map (some mb))∧I' kb=some (yX 121 [.func (.func 151) #[] #[]])∧I' mb=some (zY (fun a:List UInt8=>str a) (b9u kb) 6)∧H'=[]):=by
 refine zQ func102 fun w0 hw0=>?_;refine yU 8 ?_;intro b1 hb1;refine yU 5 ?_;refine J.op rfl (BH rfl rfl rfl ?_);intro b2 hb2;refine yU 1 ?_;refine J.op rfl (ES (kv:=(fun a:List UInt8=>str a)) (l:=[]) (c:=0) (a:=[61]) 0 (.inl rfl) rfl rfl rfl rfl rfl a1v (ET.text BQ) rfl AU.z ?_);refine yU 1 ?_;refine J.op rfl (ES (kv:=(fun a:List UInt8=>str a)) (a:=[61,61]) 0 (.inl rfl) rfl rfl rfl rfl rfl a1v (ET.text BQ) rfl AU.z ?_);refine J.op rfl (ES (kv:=(fun a:List UInt8=>str a)) (a:=[97,110,121]) 0 (.inl rfl) rfl rfl rfl rfl rfl a1v (ET.text BQ) rfl AU.z ?_);refine J.op rfl (ES (kv:=(fun a:List UInt8=>str a)) (a:=[97,108,108]) 0 (.inl rfl) rfl rfl rfl rfl rfl a1v (ET.text BQ) rfl AU.z ?_);refine J.op rfl (ES (kv:=(fun a:List UInt8=>str a)) (a:=[62,61]) 0 (.inl rfl) rfl rfl rfl rfl rfl a1v (ET.text BQ) rfl AU.z ?_);refine J.op rfl (ES (kv:=(fun a:List UInt8=>str a)) (a:=[60]) 0 (.inl rfl) rfl rfl rfl rfl rfl a1v (ET.text BQ) rfl AU.z ?_);refine yU 5 ?_;refine Ej.pull (Pull.s Pull.z) ?_;refine Ej.persist hb1 (fun I4 hle3 hb1i=>?_);refine Ej.persist hb2 (fun I6 hle5 hb2i=>?_);have hb1i:=hle5 _ _ hb1i;refine AB ?_;exact⟨b1,b2,rfl,hb1i,hb2i,rfl⟩
end Go.Proofs.YtekmeaoblpfnpaaGreatDoor
end
namespace Ix
open Ke
def a6N (i r s:Bs):Cq.Qn:=⟨1,i,r,s,.nil⟩
def EC (k:Int) (a b:Cq.Qn):Cq.Qn:=⟨k,[],[],[],a.push (b.push .nil)⟩
theorem ZP L {t}:∀(n:Nat) (q:Cq.Qn),q.size<n→Cq.form q=true→sat L q t=true→t∈L.map (·.1)
  |0,_,h,_,_=>absurd h (Nat.not_lt_zero _)
  | n+1,q,hn,hf,h=>by
    rcases Cq.FI hf with hk|⟨hk,h2,h4,a,b,htw,ha,hb⟩
    · rw[a5h hk]at h;exact c2V h
    rw[a7q hk htw]at h;have hs:=htw.size;unfold comb at h
    split at h
    · rw[Bool.and_eq_true]at h;exact ZP L n a (by omega) ha h.1
    split at h
    · rw[Bool.or_eq_true]at h;exact h.elim (ZP L n a (by omega) ha) (ZP L n b (by omega) hb)
    rw[Bool.and_eq_true]at h;exact ZP L n a (by omega) ha h.1
theorem a9R{L q}(hf:Cq.form q=true){l}(hp:l.Pairwise (XT L))(hm:∀t,t∈l↔sat L q t=true):a3U L q l:=
  ⟨hp,fun t=>⟨fun h=>⟨ZP L _ q (Nat.lt_succ_self _) hf ((hm t).1 h),(hm t).1 h⟩,fun h=>(hm t).2 h.2⟩⟩
def hits (L : Ix) (i s : Bs) (t : Rec) : Nat := (words s).countP fun w => decide (t ∈ word L i w)
def a0q (L:Ix) (i s:Bs) (t:Rec) (k:Nat):Nat:=((words s).take k).countP fun w=>decide (t∈word L i w)
theorem b8a L i s t {k}(h:(words s).length≤k):a0q L i s t k=hits L i s t:=by unfold a0q hits;rw[List.take_of_length_le h]
theorem b9Z L i s t k:a0q L i s t k≤k:=Nat.le_trans List.countP_le_length (by rw[List.length_take];omega)
theorem a5R{L i s t k w}(h:(words s)[k]?=some w):a0q L i s t (k+1)=a0q L i s t k+if t∈word L i w then 1 else 0:=by
  obtain⟨hlt,hg⟩:=List.getElem?_eq_some_iff.1 h;unfold a0q;rw[List.take_succ_eq_append_getElem hlt,hg,List.countP_append];simp[List.countP_cons]
theorem b6y L i s t:a0H L i rEq s t=if i=MX then decide (t∈GU L i (keyOf i s))else decide (t∈phrase L i (words s)):=rfl
theorem c3v L i s t:a0H L i c5w s t=decide (t∈GU L i (keyOf i s)):=rfl
theorem b3Y L i s t:a0H L i b4S s t=decide (0<hits L i s t):=by
  show(words s).any _=_;rw[Bool.eq_iff_iff,decide_eq_true_eq];unfold hits;rw[List.countP_pos_iff,List.any_eq_true]
theorem b3V L i s t:a0H L i b6i s t=(decide (0<hits L i s t) && decide (hits L i s t=(words s).length)):=by
  show(!(words s).isEmpty && (words s).all _)=_;rw[Bool.eq_iff_iff,Bool.and_eq_true,Bool.and_eq_true,decide_eq_true_eq,decide_eq_true_eq];unfold hits;rw[List.countP_eq_length,List.all_eq_true];cases hw:words s with
  |nil=>simp
  | cons a r=>
    constructor
    · rintro⟨_,h⟩;exact⟨List.countP_pos_iff.2 ⟨a,.head _,h a (.head _)⟩,h⟩
    rintro⟨_,h⟩;exact⟨rfl,h⟩
end Ix
namespace Ix
open Ke
theorem b5d k a b:(EC k a b).size=a.size+b.size+2:=by grind [EC,Cq.Qn.size,Cq.Qn.push,Cq.Qs.size]
theorem b5Z k a b:(EC k a b).wide=a.wide+b.wide:=by grind [EC,Cq.Qn.wide,Cq.Qn.push,Cq.Qs.wide,List.length_nil]
theorem a5T{i r}(hi:i∈Cq.indexes)(hr:r∈Cq.relations) s:Cq.form (a6N i r s)=true:=by
  rw[Cq.MG (q:=a6N i r s) rfl,Bool.and_eq_true,Bool.and_eq_true];exact⟨⟨List.contains_iff_mem.2 hi,List.contains_iff_mem.2 hr⟩,rfl⟩
theorem a5K{k}(h2:2≤k)(h4:k≤4){a b}(ha:Cq.form a=true)(hb:Cq.form b=true):Cq.form (EC k a b)=true:=by
  rw[Cq.SE (q:=EC k a b) (a:=a) (b:=b) (by show k≠1;omega) (by show ¬(k<2∨k>4∨([]:Bs)≠[]∨([]:Bs)≠[]∨([]:Bs)≠[]∨(a.push (b.push .nil)).len≠2);simp[Cq.Qn.push,Cq.Qs.len];omega) rfl,ha,hb];rfl
theorem b1I{q}(h:Cq.form q=true)(hd:Cq.depth q≤50):Cq.right q=true:=by
  unfold Cq.right;rw[h,decide_eq_true hd];rfl
theorem b6n{i r}(hi:i∈Cq.indexes)(hr:r∈Cq.relations) s:Cq.right (a6N i r s)=true:=
  b1I (a5T hi hr s) (by rw[Cq.QN (q:=a6N i r s) rfl];exact Nat.zero_le _)
theorem b3p{k}(hk:k≠1) a b:Cq.depth (EC k a b)≤max (Cq.depth b+1) (Cq.depth a):=by
  rw[Cq.SN (q:=EC k a b) (a:=a) (b:=b) hk rfl];have:Cq.up b.k≤1:=by unfold Cq.up;split<;>omega
  omega
theorem a6Q{k}(h2:2≤k)(h4:k≤4){a b}(ha:Cq.form a=true)(hb:Cq.form b=true)(da:Cq.depth a≤49)(db:Cq.depth b≤49):Cq.right (EC k a b)=true:=by grind [b1I,a5K,Nat.le_trans,b3p]
theorem c1T{L q l}(h1:l.Pairwise (XT L))(h2:∀t∈L.map (·.1),(t∈l↔sat L q t=true))(h3:∀t∈l,t∈L.map (·.1)):a3U L q l:=
  ⟨h1,fun t=>⟨fun h=>⟨h3 t h,(h2 t (h3 t h)).1 h⟩,fun h=>(h2 t h.1).2 h.2⟩⟩
end Ix
section
namespace Go.Proofs.YtekmeaoblpfnpaaGreatDoor
open _root_.Go.Proofs.Tryz
open Go Go.Sx
theorem yY.b8M{f args I S}(h:yY Tryz.prog f args I [] (fun e I' H'=>∃w,e= .returned w∧(XP w S H'∨(KE I' w S∧H'=[])))):yY Tryz.prog f args I [] (fun e I' H'=>∃w,e= .returned w∧KE I' w S∧H'=[]):=by
  refine⟨h.1,fun w hw=>(h.2 w hw).mono ?_⟩;rintro e w' ⟨I',H',hst,u,rfl,ho|⟨hv,rfl⟩⟩
  · obtain⟨b,m,k,rfl,hm,rfl⟩:=ho;have hb:w.heap.size≤b:=(hst.new _ (.head _)).resolve_left (by simp);exact⟨_,_,hst.persist hb,_,rfl,.inr ⟨b,m,k,rfl,hm,YR _ _ _⟩,rfl⟩
  exact⟨_,_,hst,_,rfl,hv,rfl⟩
theorem yY.a3b{f args I S S'}(h:yY Tryz.prog f args I [] (fun e _ H'=>∃w,e= .returned w∧XP w S H'))(he:∀t,S t=S' t):yY Tryz.prog f args I [] (fun e I' H'=>∃w,e= .returned w∧KE I' w S'∧H'=[]):=
  yY.b8M (h.mono fun _ _ _ _ ⟨w,h1,b,m,k,h2,h3,h4⟩=>⟨w,h1,.inl ⟨b,m,k,h2,h3.congr he,h4⟩⟩)
theorem c3h xv L q p c kb (hq:q.t.length≤10000000)(htk:Ix.TOK L)(hr:Cq.relations.contains q.r=true) I (hx:KQ I xv L)(hT:LZ I)(hkb:I kb=some (yX 121 [.func (.func 151) #[] #[]])):
    ∃F caps,(AA (b9u kb) q.r).getD .nilFunc= .func (.func F) #[] (List.toArray caps)∧yY Tryz.prog F (xv:: .agg (zT q p c).toArray::caps) I [] (fun e I' H'=>∃w,e= .returned w∧KE I' w (fun t=>Ix.a0H L q.i q.r q.t t)∧H'=[]):=by
  have hm:q.r∈Cq.relations:=List.contains_iff_mem.1 hr;simp only[Cq.relations,List.mem_cons,List.not_mem_nil,or_false]at hm;rcases hm with h|h|h|h|h|h<;>rw[h]
  · exact⟨_,[ptr kb 0],rfl,yY.a3b (c4q xv L q p c hq I hx kb hkb) fun t=>rfl⟩
  · exact⟨_,[],rfl,yY.a3b (b4d xv L q p c hq I hx) fun t=>rfl⟩
  · exact⟨_,[],rfl,yY.a3b (c2E xv L q p c hq I hx hT htk) fun t=>rfl⟩
  · exact⟨_,[],rfl,yY.a3b (c4G xv L q p c hq I hx hT htk) fun t=>rfl⟩
  · exact⟨_,[],rfl,yY.a3b (c2F xv L q p c hq I hx) fun t=>rfl⟩
  exact⟨_,[],rfl,c4a xv L q p c hq I hx⟩
def a3P (xv:Value) (L:Ix.Ix) (q:Cq.Qn):Prop:=∀(p:Option Addr) (c:Nat) (I:Heap),PS I q.ps p→KQ I xv L→LZ I→q.wide≤10000000→Cq.form q=true→yY Tryz.prog 54 [xv,.agg (zT q p c).toArray] I [] (fun e I' H'=>∃w,e= .returned w∧KE I' w (Ix.sat L q)∧H'=[])
theorem b0B xv L (htk:Ix.TOK L) q (ih:∀q',Cq.Qn.size q'<q.size→a3P xv L q'):a3P xv L q:=by
 intro p c I hps hx hT hwd hform;refine yY.b8M ?_;refine zQ func54 fun w0 hw0=>?_;refine yU 3 ?_;intro b1 hb1;refine zK (fun hc2 hc2p=>?_) (fun hc2 hc2p=>?_)
 ·have hk:q.k=1:=by omega
  have hrel:Cq.relations.contains q.r=true:=by
    rw[Cq.MG hk,Bool.and_eq_true,Bool.and_eq_true]at hform;exact hform.1.2
  have htl:q.t.length≤10000000:=by unfold Cq.Qn.wide at hwd;omega
  refine yU 1 ?_;refine Cj.EX [0] [] 8 (by kernel_rfl) ?_;refine AP (b0c _) ?_;intro v4 I5 H6 hle7 hp8;have hps:=hps.mono hle7;have hx:=hx.mono hle7;have hT:=hT.mono hle7;obtain⟨kb1,mb1,h,hkb1,hmb1,rfl⟩:=hp8;cases h;obtain⟨F,caps,hF,hcl⟩:=c3h xv L q p c kb1 htl htk hrel _ hx hT hkb1;refine yU 1 ?_;refine zO 3 rfl (AY (BI (kv:=(fun a:List UInt8=>str a)) (l:=(b9u kb1)) (a:=q.r) rfl rfl rfl rfl a1v (ET.text BQ) zeroValue121 (yZ.LK hmb1)) rfl rfl ?_);refine yU 1 ?_;refine JA.ev 15 (.func (.func F) #[] caps.toArray) rfl hF ?_;refine AP (hcl) ?_;intro v9 I10 H11 hle12 hp13;have hps:=hps.mono hle12;have hx:=hx.mono hle12;have hT:=hT.mono hle12;have hkb1:=hle12 _ _ hkb1;have hmb1:=hle12 _ _ hmb1;obtain⟨wt,h,hset,rfl⟩:=hp13;cases h;refine AB ?_;exact⟨_,rfl,.inr ⟨hset.congr fun t=>(Ix.a5h hk).symm,rfl⟩⟩
 have hk:q.k≠1:=by omega
 obtain⟨_,hk2,hk4,qa,qb,htw,hfa,hfb⟩:=(Cq.FI hform).resolve_left hk;obtain⟨bl,off,cs',T,fr,pa,ca,pb,cb,rfl,hbl,hca,hcb,hkb,hpa,hpb⟩:=hps.KO htw;have hsz2:=htw.size;have hwd2:=htw.wide;have hln:=htw.len;have hsat:∀t,Ix.sat L q t=Ix.comb q.k (Ix.sat L qa t) (Ix.sat L qb t):=fun t=>Ix.a7q hk htw;refine zW off ?_;refine J.z (BJ zL yV (yZ.LK hbl) hca) ?_;refine AP (ih qa hsz2.1 pa ca _ hpa hx hT (by omega) hfa) ?_;intro v15 I16 H17 hle18 hp19;have hx:=hx.mono hle18;have hT:=hT.mono hle18;have hbl:=hle18 _ _ hbl;have hpa:=hpa.mono hle18;have hpb:=hpb.mono hle18;obtain⟨wa,h,hsa,rfl⟩:=hp19;cases h;rcases id hsa with⟨rfl,hSa⟩|⟨ab,am,ak,rfl,hma,hab⟩
 ·have hz:∀t,Ix.sat L qa t=false:=hSa;refine yU 3 ?_;refine Cj.join (ι:=Heap×Option Nat) (fun y=>KE y.1 (.map y.2) (Ix.sat L qa)∧PS y.1 qb.ps pb∧KQ y.1 xv L∧LZ y.1∧y.1 bl=some (.cells (List.toArray cs') T fr)) (fun y=>[(0,xv),(3,ptr b1 0),(5,.map y.2)]) (fun y=>y.1) (fun y=>[(b1,yX 32 (zT q (some ⟨bl,off,none⟩) c))]) ?_ (fun hcut=>?_)
  ·rintro⟨J6,oa⟩ ⟨hsa,hpb,hx,hT,hbl⟩;dsimp only at hsa hpb hx hT hbl ⊢;refine zW (off+5) ?_;refine J.z (BJ zL yV (yZ.LK hbl) hcb) ?_;refine AP (ih qb hsz2.2 pb cb _ hpb hx hT (by omega) hfb) ?_;intro v20 I21 H22 hle23 hp24;have hsa:=hsa.mono hle23;have hpb:=hpb.mono hle23;have hx:=hx.mono hle23;have hT:=hT.mono hle23;have hbl:=hle23 _ _ hbl;obtain⟨wb,h,hsb,rfl⟩:=hp24;cases h;obtain⟨bo,rfl⟩:=hsb.shape;refine yU 1 ?_;intro b25 hb25;refine zK (fun hc26 hc26p=>?_) (fun hc26 hc26p=>?_)
   ·have hk9:q.k=2:=CO hc26;refine yU 1 ?_;refine Cj.persist hb25 (fun I28 hle27 hb25i=>?_);have hsa:=hsa.mono hle27;have hpb:=hpb.mono hle27;have hx:=hx.mono hle27;have hT:=hT.mono hle27;have hbl:=hle27 _ _ hbl;have hsb:=hsb.mono hle27;refine AP (WC _ (Ix.sat L qa) (Ix.sat L qb) _ [ptr b25 0] _ hsa (fun t _=>b3x b25 _ (Ix.sat L qb) t _ hb25i hsb)) ?_;intro v29 I30 H31 hle32 hp33;have hsa:=hsa.mono hle32;have hpb:=hpb.mono hle32;have hx:=hx.mono hle32;have hT:=hT.mono hle32;have hbl:=hle32 _ _ hbl;have hsb:=hsb.mono hle32;have hb25i:=hle32 _ _ hb25i;obtain⟨wd,h,od,md,kd,rfl,hmd,rfl⟩:=hp33;cases h;refine yU 6 ?_;refine Ej.keep (Keeps.k (Keeps.d Keeps.n)) ?_;refine zV ?_;exact⟨_,rfl,.inl ⟨od,md,kd,rfl,hmd.congr fun t=>by rw[hsat t,hk9];rfl,rfl⟩⟩
   have hkn2:q.k≠2:=CW hc26;refine zK (fun hc34 hc34p=>?_) (fun hc34 hc34p=>?_)
   ·have hk9:q.k=4:=CO hc34;refine yU 1 ?_;refine Cj.persist hb25 (fun I36 hle35 hb25i=>?_);have hsa:=hsa.mono hle35;have hpb:=hpb.mono hle35;have hx:=hx.mono hle35;have hT:=hT.mono hle35;have hbl:=hle35 _ _ hbl;have hsb:=hsb.mono hle35;refine AP (WC _ (Ix.sat L qa) (fun t=> !Ix.sat L qb t) _ [ptr b25 0] _ hsa (fun t _=>b4C b25 _ (Ix.sat L qb) t _ hb25i hsb)) ?_;intro v37 I38 H39 hle40 hp41;have hsa:=hsa.mono hle40;have hpb:=hpb.mono hle40;have hx:=hx.mono hle40;have hT:=hT.mono hle40;have hbl:=hle40 _ _ hbl;have hsb:=hsb.mono hle40;have hb25i:=hle40 _ _ hb25i;obtain⟨wd,h,od,md,kd,rfl,hmd,rfl⟩:=hp41;cases h;refine yU 6 ?_;refine Ej.keep (Keeps.k (Keeps.d Keeps.n)) ?_;refine zV ?_;exact⟨_,rfl,.inl ⟨od,md,kd,rfl,hmd.congr fun t=>by rw[hsat t,hk9];rfl,rfl⟩⟩
   have hkn4:q.k≠4:=CW hc34;refine yU 4 ?_;refine Cj.persist hb25 (fun I43 hle42 hb25i=>?_);have hsa:=hsa.mono hle42;have hpb:=hpb.mono hle42;have hx:=hx.mono hle42;have hT:=hT.mono hle42;have hbl:=hle42 _ _ hbl;have hsb:=hsb.mono hle42;refine AP (WC _ (Ix.sat L qa) (fun _=>true) _ [] _ hsa (fun t _=>b7Q t _)) ?_;intro v44 I45 H46 hle47 hp48;have hsa:=hsa.mono hle47;have hpb:=hpb.mono hle47;have hx:=hx.mono hle47;have hT:=hT.mono hle47;have hbl:=hle47 _ _ hbl;have hsb:=hsb.mono hle47;have hb25i:=hle47 _ _ hb25i;obtain⟨wd,h,od,md,kd,rfl,hmd,rfl⟩:=hp48;cases h;refine yU 7 ?_;rcases id hsb with⟨hbo,hSb⟩|⟨bb,bm,bk,hbo,hmbb,hbb⟩
   ·cases hbo;refine J.op rfl (LQ rfl rfl rfl rfl IE ?_);intro b49 hb49;refine yU 3 ?_;refine Cj.rounds 1 ?_;refine Rj.succ ?_;refine yU 2 ?_;refine J.op rfl (MV 0 rfl rfl rfl rfl rfl ?_);refine yU 17 ?_;refine Ej.keep (Keeps.d (Keeps.k (Keeps.d Keeps.n))) ?_;have hk9:q.k=3:=by omega
    refine zV ?_;exact⟨_,rfl,.inl ⟨od,md,kd,rfl,hmd.congr fun t=>by rw[hsat t,hk9,Bool.and_true];show _=(_ || _);rw[hSb t,Bool.or_false],rfl⟩⟩
   cases hbo;refine J.op rfl (NV (kv:=zZ) (l:=bm) rfl rfl rfl rfl IE (yZ.LK hbb) ?_);intro b51 hb51;refine yU 3 ?_;refine Cj.keep (Keeps.k (Keeps.k (Keeps.d Keeps.n))) ?_;refine Cj.loop (ι:=TC) (fun y=>(y.vis++y.rest).Perm bm∧FK y.l y.c (XV y.vis (fun t=>Ix.sat L qa t && true))) (fun y=>y.rest.length) (fun y=>[(7,.map (some od)),(54,ptr b51 0)]) (fun y=>_) (fun y=>[(b51,WT bb bk y.vis bk),(od,zY zZ y.l y.c)]) ⟨[],bm,md,kd⟩ ⟨.refl _,hmd.congr fun t=>by unfold XV;simp⟩ ⟨rfl,rfl,trivial⟩ rfl rfl ?_;rintro⟨vis,rest,l,cc⟩ ⟨hp,hM⟩;dsimp only at hp hM ⊢;refine yU 2 ?_;refine J.op rfl (QJ (kv:=zZ) (l:=bm) 0 rfl rfl rfl rfl rfl (yZ.LK hbb) hmbb.1.2.2 (Nat.le_refl _) hmbb.1.2.1 hp ?_ ?_)
   ·rintro x rest2 H9 hrx hpx ⟨-,hset⟩;simp only[List.set_cons_zero,List.set_cons_succ]at hset;subst hset;have hxm:x∈bm:=hpx.mem_iff.1 (List.mem_append_left _ (List.mem_append_right _ (.head _)));refine yU 10 ?_;refine J.z (VY (kv:=zZ) (l:=bm) rfl rfl (yZ.at 0 rfl) (yZ.LK hbb) hxm hmbb.1.2.1) ?_;refine yU 2 ?_;intro b53 hb53;refine yU 6 ?_;refine J.op rfl (ES (kv:=zZ) (a:=x.1) 2 (.inr rfl) rfl rfl rfl rfl rfl IE EZ rfl (AU.s (AU.s AU.z)) ?_);refine yU 2 ?_;refine Ej.keep (Keeps.d (Keeps.k (Keeps.k Keeps.n))) ?_;refine Ej.round ⟨vis++[x],rest2,_,_⟩ ⟨hpx,hM.add x.1 a6A⟩ (by have h:=hrx.length_eq;simp only[List.length_cons]at h;dsimp only;omega) ⟨rfl,rfl,trivial⟩ rfl rfl
   intro hend;have hpv:vis.Perm bm:=by rw[hend,List.append_nil]at hp;exact hp
   refine yU 17 ?_;refine Ej.keep (Keeps.d (Keeps.k Keeps.n)) ?_;have hk9:q.k=3:=by omega
   refine zV ?_;exact⟨_,rfl,.inl ⟨od,l,cc,rfl,hM.congr fun t=>by rw[hsat t,hk9,a8c hmbb hpv,Bool.and_true];rfl,rfl⟩⟩
  refine yU 3 ?_;refine J.z (ZM rfl rfl IE) ?_;refine zK (fun hc55 hc55p=>?_) (fun hc55 hc55p=>?_)
  ·refine yU 7 ?_;have hk3:q.k≠3:=bne_iff_ne.1 hc55;refine AB ?_;exact⟨_,rfl,.inr ⟨.inl ⟨rfl,fun t=>by rw[hsat t,hz t];unfold Ix.comb;rw[if_neg hk3];split<;>rfl⟩,rfl⟩⟩
  refine yU 1 ?_;exact hcut (_,none) _ _ _ ⟨hsa,hpb,hx,hT,hbl⟩ ⟨rfl,rfl,rfl,trivial⟩ rfl rfl

 refine yU 3 ?_;refine Cj.join (ι:=Heap×Option Nat) (fun y=>KE y.1 (.map y.2) (Ix.sat L qa)∧PS y.1 qb.ps pb∧KQ y.1 xv L∧LZ y.1∧y.1 bl=some (.cells (List.toArray cs') T fr)) (fun y=>[(0,xv),(3,ptr b1 0),(5,.map y.2)]) (fun y=>y.1) (fun y=>[(b1,yX 32 (zT q (some ⟨bl,off,none⟩) c))]) ?_ (fun hcut=>?_)
 ·rintro⟨J6,oa⟩ ⟨hsa,hpb,hx,hT,hbl⟩;dsimp only at hsa hpb hx hT hbl ⊢;refine zW (off+5) ?_;refine J.z (BJ zL yV (yZ.LK hbl) hcb) ?_;refine AP (ih qb hsz2.2 pb cb _ hpb hx hT (by omega) hfb) ?_;intro v56 I57 H58 hle59 hp60;have hsa:=hsa.mono hle59;have hpb:=hpb.mono hle59;have hx:=hx.mono hle59;have hT:=hT.mono hle59;have hbl:=hle59 _ _ hbl;obtain⟨wb,h,hsb,rfl⟩:=hp60;cases h;obtain⟨bo,rfl⟩:=hsb.shape;refine yU 1 ?_;intro b61 hb61;refine zK (fun hc62 hc62p=>?_) (fun hc62 hc62p=>?_)
  ·have hk9:q.k=2:=CO hc62;refine yU 1 ?_;refine Cj.persist hb61 (fun I64 hle63 hb61i=>?_);have hsa:=hsa.mono hle63;have hpb:=hpb.mono hle63;have hx:=hx.mono hle63;have hT:=hT.mono hle63;have hbl:=hle63 _ _ hbl;have hsb:=hsb.mono hle63;refine AP (WC _ (Ix.sat L qa) (Ix.sat L qb) _ [ptr b61 0] _ hsa (fun t _=>b3x b61 _ (Ix.sat L qb) t _ hb61i hsb)) ?_;intro v65 I66 H67 hle68 hp69;have hsa:=hsa.mono hle68;have hpb:=hpb.mono hle68;have hx:=hx.mono hle68;have hT:=hT.mono hle68;have hbl:=hle68 _ _ hbl;have hsb:=hsb.mono hle68;have hb61i:=hle68 _ _ hb61i;obtain⟨wd,h,od,md,kd,rfl,hmd,rfl⟩:=hp69;cases h;refine yU 6 ?_;refine Ej.keep (Keeps.k (Keeps.d Keeps.n)) ?_;refine zV ?_;exact⟨_,rfl,.inl ⟨od,md,kd,rfl,hmd.congr fun t=>by rw[hsat t,hk9];rfl,rfl⟩⟩
  have hkn2:q.k≠2:=CW hc62;refine zK (fun hc70 hc70p=>?_) (fun hc70 hc70p=>?_)
  ·have hk9:q.k=4:=CO hc70;refine yU 1 ?_;refine Cj.persist hb61 (fun I72 hle71 hb61i=>?_);have hsa:=hsa.mono hle71;have hpb:=hpb.mono hle71;have hx:=hx.mono hle71;have hT:=hT.mono hle71;have hbl:=hle71 _ _ hbl;have hsb:=hsb.mono hle71;refine AP (WC _ (Ix.sat L qa) (fun t=> !Ix.sat L qb t) _ [ptr b61 0] _ hsa (fun t _=>b4C b61 _ (Ix.sat L qb) t _ hb61i hsb)) ?_;intro v73 I74 H75 hle76 hp77;have hsa:=hsa.mono hle76;have hpb:=hpb.mono hle76;have hx:=hx.mono hle76;have hT:=hT.mono hle76;have hbl:=hle76 _ _ hbl;have hsb:=hsb.mono hle76;have hb61i:=hle76 _ _ hb61i;obtain⟨wd,h,od,md,kd,rfl,hmd,rfl⟩:=hp77;cases h;refine yU 6 ?_;refine Ej.keep (Keeps.k (Keeps.d Keeps.n)) ?_;refine zV ?_;exact⟨_,rfl,.inl ⟨od,md,kd,rfl,hmd.congr fun t=>by rw[hsat t,hk9];rfl,rfl⟩⟩
  have hkn4:q.k≠4:=CW hc70;refine yU 4 ?_;refine Cj.persist hb61 (fun I79 hle78 hb61i=>?_);have hsa:=hsa.mono hle78;have hpb:=hpb.mono hle78;have hx:=hx.mono hle78;have hT:=hT.mono hle78;have hbl:=hle78 _ _ hbl;have hsb:=hsb.mono hle78;refine AP (WC _ (Ix.sat L qa) (fun _=>true) _ [] _ hsa (fun t _=>b7Q t _)) ?_;intro v80 I81 H82 hle83 hp84;have hsa:=hsa.mono hle83;have hpb:=hpb.mono hle83;have hx:=hx.mono hle83;have hT:=hT.mono hle83;have hbl:=hle83 _ _ hbl;have hsb:=hsb.mono hle83;have hb61i:=hle83 _ _ hb61i;obtain⟨wd,h,od,md,kd,rfl,hmd,rfl⟩:=hp84;cases h;refine yU 7 ?_;rcases id hsb with⟨hbo,hSb⟩|⟨bb,bm,bk,hbo,hmbb,hbb⟩
  ·cases hbo;refine J.op rfl (LQ rfl rfl rfl rfl IE ?_);intro b85 hb85;refine yU 3 ?_;refine Cj.rounds 1 ?_;refine Rj.succ ?_;refine yU 2 ?_;refine J.op rfl (MV 0 rfl rfl rfl rfl rfl ?_);refine yU 17 ?_;refine Ej.keep (Keeps.d (Keeps.k (Keeps.d Keeps.n))) ?_;have hk9:q.k=3:=by omega
   refine zV ?_;exact⟨_,rfl,.inl ⟨od,md,kd,rfl,hmd.congr fun t=>by rw[hsat t,hk9,Bool.and_true];show _=(_ || _);rw[hSb t,Bool.or_false],rfl⟩⟩
  cases hbo;refine J.op rfl (NV (kv:=zZ) (l:=bm) rfl rfl rfl rfl IE (yZ.LK hbb) ?_);intro b87 hb87;refine yU 3 ?_;refine Cj.keep (Keeps.k (Keeps.k (Keeps.d Keeps.n))) ?_;refine Cj.loop (ι:=TC) (fun y=>(y.vis++y.rest).Perm bm∧FK y.l y.c (XV y.vis (fun t=>Ix.sat L qa t && true))) (fun y=>y.rest.length) (fun y=>[(7,.map (some od)),(54,ptr b87 0)]) (fun y=>_) (fun y=>[(b87,WT bb bk y.vis bk),(od,zY zZ y.l y.c)]) ⟨[],bm,md,kd⟩ ⟨.refl _,hmd.congr fun t=>by unfold XV;simp⟩ ⟨rfl,rfl,trivial⟩ rfl rfl ?_;rintro⟨vis,rest,l,cc⟩ ⟨hp,hM⟩;dsimp only at hp hM ⊢;refine yU 2 ?_;refine J.op rfl (QJ (kv:=zZ) (l:=bm) 0 rfl rfl rfl rfl rfl (yZ.LK hbb) hmbb.1.2.2 (Nat.le_refl _) hmbb.1.2.1 hp ?_ ?_)
  ·rintro x rest2 H9 hrx hpx ⟨-,hset⟩;simp only[List.set_cons_zero,List.set_cons_succ]at hset;subst hset;have hxm:x∈bm:=hpx.mem_iff.1 (List.mem_append_left _ (List.mem_append_right _ (.head _)));refine yU 10 ?_;refine J.z (VY (kv:=zZ) (l:=bm) rfl rfl (yZ.at 0 rfl) (yZ.LK hbb) hxm hmbb.1.2.1) ?_;refine yU 2 ?_;intro b89 hb89;refine yU 6 ?_;refine J.op rfl (ES (kv:=zZ) (a:=x.1) 2 (.inr rfl) rfl rfl rfl rfl rfl IE EZ rfl (AU.s (AU.s AU.z)) ?_);refine yU 2 ?_;refine Ej.keep (Keeps.d (Keeps.k (Keeps.k Keeps.n))) ?_;refine Ej.round ⟨vis++[x],rest2,_,_⟩ ⟨hpx,hM.add x.1 a6A⟩ (by have h:=hrx.length_eq;simp only[List.length_cons]at h;dsimp only;omega) ⟨rfl,rfl,trivial⟩ rfl rfl
  intro hend;have hpv:vis.Perm bm:=by rw[hend,List.append_nil]at hp;exact hp
  refine yU 17 ?_;refine Ej.keep (Keeps.d (Keeps.k Keeps.n)) ?_;have hk9:q.k=3:=by omega
  refine zV ?_;exact⟨_,rfl,.inl ⟨od,l,cc,rfl,hM.congr fun t=>by rw[hsat t,hk9,a8c hmbb hpv,Bool.and_true];rfl,rfl⟩⟩
 refine yU 3 ?_;refine J.z (MK (kv:=zZ) (l:=am) rfl rfl IE (yZ.LK hab)) ?_;refine EK (fun hg91 hg91p=>?_) (fun hg91 hg91p=>?_)
 ·refine zK (fun hc92 hc92p=>?_) (fun hc92 hc92p=>?_)
  ·refine yU 7 ?_;have hz:∀t,Ix.sat L qa t=false:=hma.empty (by have h:=CO hg91;omega);have hk3:q.k≠3:=bne_iff_ne.1 hc92;refine AB ?_;exact⟨_,rfl,.inr ⟨.inl ⟨rfl,fun t=>by rw[hsat t,hz t];unfold Ix.comb;rw[if_neg hk3];split<;>rfl⟩,rfl⟩⟩
  refine yU 1 ?_;exact hcut (_,some ab) _ _ _ ⟨hsa,hpb,hx,hT,hbl⟩ ⟨rfl,rfl,rfl,trivial⟩ rfl rfl
 refine yU 8 ?_;exact hcut (_,some ab) _ _ _ ⟨hsa,hpb,hx,hT,hbl⟩ ⟨rfl,rfl,rfl,trivial⟩ rfl rfl
theorem a2b xv L (htk:Ix.TOK L) q:a3P xv L q:=by
  suffices ∀n (q:Cq.Qn),q.size<n→a3P xv L q from this _ q (Nat.lt_succ_self _)
  intro n
  induction n with
  |zero=>intro q h;omega
  |succ n ih=>intro q h;exact b0B xv L htk q fun q' h'=>ih q' (by omega)
end Go.Proofs.YtekmeaoblpfnpaaGreatDoor
end
namespace Go.Proofs.YtekmeaoblpfnpaaGreatDoor
open _root_.Go.Proofs.Tryz
open Go Go.Sx
attribute [local instance] b5J
section
open Go.Shelf Go.RowKit Go.Lib
theorem c5i b r0 r1 r2 w (h0:w.cell? ⟨b,0,none⟩=some (.int .i64 r0))(h1:w.cell? ⟨b,1,none⟩=some (.int .i64 r1))(h2:w.cell? ⟨b,2,none⟩=some (.int .i64 r2)):
    Calls Tryz.prog 57 #[.slice (some ⟨b,0,none⟩) 3 3] w fun e w'=>e= .returned (.int .i64 (NK r0 (NK r1 r2)))∧w'=w:=by
  go_enter func57,Tryz.ntmps57
  go_wp2
  refine wp_loop_rounds 4 ?_;rw[rounds_succ]
  go_wp2
  · have hr:(r0 != 0)=true:=by assumption
    have hc:NK r0 (NK r1 r2)=r0:=if_pos (by simpa using hr)
    go_ret
    exact⟨by rw[hc];rfl,rfl⟩
  have hr:(r0 != 0)=false:=by assumption
  have hc:NK r0 (NK r1 r2)=NK r1 r2:=if_neg (by simpa using hr);rw[rounds_succ]
  go_wp2
  · have hs:(r1 != 0)=true:=by assumption
    have hd:NK r1 r2=r1:=if_pos (by simpa using hs)
    go_ret
    exact⟨by rw[hc,hd];rfl,rfl⟩
  have hs:(r1 != 0)=false:=by assumption
  have hd:NK r1 r2=r2:=if_neg (by simpa using hs);rw[rounds_succ]
  go_wp2
  · go_ret
    exact⟨by rw[hc,hd];rfl,rfl⟩
  have ht:(r2 != 0)=false:=by assumption
  have ht1:r2=0:=by simpa using ht
  rw[rounds_succ]
  go_wp2
  go_ret
  exact⟨by rw[hc,hd,ht1];rfl,rfl⟩
end
theorem b6z b r0 r1 r2 I:yY Tryz.prog 57 [.slice (some ⟨b,0,none⟩) 3 3] I [(b,yX 3 [i64 r0,i64 r1,i64 r2])] (fun e I' H'=>e= .returned (i64 (NK r0 (NK r1 r2)))∧I'=I∧H'=[(b,yX 3 [i64 r0,i64 r1,i64 r2])]):=
  yY.same ⟨_,func57,by decide,rfl⟩ fun w hw=>by
    have hb:=hw.2.1 _ (.head _);refine c5i b r0 r1 r2 w ?_ ?_ ?_<;>simp[World.cell?,hb,yX]
theorem a0N:∀a b:List UInt8,Lib.compareBytes a b=MC a b
  |[],[]=>rfl
  |[],_::_=>rfl
  |_::_,[]=>rfl
  | a::u,b::v=>by
    have ih:=a0N u v;unfold Lib.compareBytes MC;rw[ih];unfold MC
    by_cases h1:a<b
    · rw[if_pos h1,if_pos (List.cons_lt_cons_iff.2 (.inl h1))]
    rw[if_neg h1]
    by_cases h2:b<a
    · have hne:a≠b:=fun e=>by subst e;exact h1 h2
      rw[if_pos h2,if_neg (fun g=>(List.cons_lt_cons_iff.1 g).elim h1 fun g=>hne g.1),if_pos (List.cons_lt_cons_iff.2 (.inl h2))]
    have he:a=b:=UInt8.toNat_inj.1 (by have:=UInt8.not_lt.1 h1;have:=UInt8.not_lt.1 h2;rw[UInt8.le_iff_toNat_le]at *;omega);subst he;rw[if_neg h2];have e1:(a::u<a::v)↔u<v:=by rw[List.cons_lt_cons_iff];simp[h1]
    have e2:(a::v<a::u)↔v<u:=by rw[List.cons_lt_cons_iff];simp[h1]
    by_cases g1:u<v
    · rw[if_pos g1,if_pos (e1.2 g1)]
    rw[if_neg g1,if_neg (fun g=>g1 (e1.1 g))]
    by_cases g2:v<u
    · rw[if_pos g2,if_pos (e2.2 g2)]
    rw[if_neg g2,if_neg (fun g=>g2 (e2.1 g))]
theorem c2N a b I:yY Tryz.prog 58 [str a,str b] I [] (fun e I' H'=>e= .returned (i64 (MC a b))∧I'=I∧H'=[]):=
  yY.same ⟨_,func58,by decide,rfl⟩ fun w _=>by
    have h:=Tryz.strings_Compare ⟨a.toArray⟩ ⟨b.toArray⟩ w;rw[show(⟨a.toArray⟩:ByteArray).data.toList=a by simp,show(⟨b.toArray⟩:ByteArray).data.toList=b by simp,a0N]at h;exact h
theorem c1j a b x0 x1 y0 y1 I:yY Tryz.prog 56 [.agg #[str a,i64 x0,i64 x1],.agg #[str b,i64 y0,i64 y1]] I [] (fun e _ H'=>e= .returned (i64 (NK (MC a b) (NK (Lib.compareInt x0 y0) (Lib.compareInt x1 y1))))∧H'=[]):=by
 refine yY.ob func56 ?_;intro w0 hw0;refine Cj.sr (J.op rfl (JM rfl rfl rfl rfl rfl ?_));intro b1 hb1;refine J.op rfl (JM rfl rfl rfl rfl rfl ?_);intro b2 hb2;refine J.z EP ?_;refine J.nss (Cj.EX [0,1] [] 22 (by kernel_rfl) ?_);refine JA.fix ⟨(HSub.c 0 rfl (HSub.c 1 rfl HSub.n)),CSub.n,(Le.refl _)⟩ (fun fx3=>?_);refine JA.tk 0 rfl fx3 (CV (off':=0) underlying123 sizeOf9) ?_;refine JA.tk 1 rfl fx3 (DF isAgg9 (yZ.atC 1 rfl)) ?_;refine JA.tk 2 rfl fx3 (CV (off':=0) underlying123 sizeOf9) ?_;refine JA.tk 3 rfl fx3 (DF isAgg9 (yZ.atC 0 rfl)) ?_;refine JA.tk 5 rfl fx3 (CV (off':=1) underlying123 sizeOf54) ?_;refine JA.tk 6 rfl fx3 (CV (off':=1) underlying54 sizeOf3) ?_;refine JA.tk 7 rfl fx3 (DF isAgg3 (yZ.atC 1 rfl)) ?_;refine JA.tk 8 rfl fx3 (CV (off':=1) underlying123 sizeOf54) ?_;refine JA.tk 9 rfl fx3 (CV (off':=1) underlying54 sizeOf3) ?_;refine JA.tk 10 rfl fx3 (DF isAgg3 (yZ.atC 0 rfl)) ?_;refine JA.tk 12 rfl fx3 (CV (off':=1) underlying123 sizeOf54) ?_;refine JA.tk 13 rfl fx3 (CV (off':=2) underlying54 sizeOf3) ?_;refine JA.tk 14 rfl fx3 (DF isAgg3 (yZ.atC 1 rfl)) ?_;refine JA.tk 15 rfl fx3 (CV (off':=1) underlying123 sizeOf54) ?_;refine JA.tk 16 rfl fx3 (CV (off':=2) underlying54 sizeOf3) ?_;refine JA.tk 17 rfl fx3 (DF isAgg3 (yZ.atC 0 rfl)) ?_;refine zO 4 rfl (zM (H1:=[]) rfl rfl rfl rfl rfl (c2N a b _) ?_ (fun _ _ _ _ h=>by cases h.1) (fun _ _ h=>by cases h.1));intro v4 I5 H6 hle7 hp8;obtain⟨h,rfl,rfl⟩:=hp8;cases h;refine⟨⟨(Le.trans (Le.refl _) hle7),(HSub.c 0 rfl (HSub.c 1 rfl HSub.n)),CSub.n⟩,?_⟩;refine zO 11 rfl (zM (H1:=[]) rfl rfl rfl rfl rfl (a5J x0 y0 _) ?_ (fun _ _ _ _ h=>by cases h.1) (fun _ _ h=>by cases h.1));intro v9 I10 H11 hle12 hp13;obtain⟨h,rfl,rfl⟩:=hp13;cases h;refine⟨⟨(Le.trans (Le.trans (Le.refl _) hle7) hle12),(HSub.c 0 rfl (HSub.c 1 rfl HSub.n)),CSub.n⟩,?_⟩;refine zO 18 rfl (zM (H1:=[]) rfl rfl rfl rfl rfl (a5J x1 y1 _) ?_ (fun _ _ _ _ h=>by cases h.1) (fun _ _ h=>by cases h.1));intro v14 I15 H16 hle17 hp18;obtain⟨h,rfl,rfl⟩:=hp18;cases h;refine⟨⟨(Le.trans (Le.trans (Le.trans (Le.refl _) hle7) hle12) hle17),(HSub.c 0 rfl (HSub.c 1 rfl HSub.n)),CSub.n⟩,?_⟩;refine zO 19 rfl (ER underlying23 sizeOf3 zeroValue3 (EH.one rfl (EH.one rfl (EH.one rfl EH.none))) ?_);intro b19 hb19;refine⟨⟨(Le.trans (Le.trans (Le.trans (Le.refl _) hle7) hle12) hle17),(HSub.c 1 rfl (HSub.c 2 rfl HSub.n)),CSub.n⟩,?_⟩;refine JA.pull Pull.z ?_;refine zO 20 rfl (zM (H1:=[_]) rfl rfl rfl rfl rfl (b6z _ (MC a b) (Lib.compareInt x0 y0) (Lib.compareInt x1 y1) _) ?_ (fun _ _ _ _ h=>by cases h.1) (fun _ _ h=>by cases h.1));intro v20 I21 H22 hle23 hp24;obtain⟨h,rfl,rfl⟩:=hp24;cases h;refine⟨⟨(Le.trans (Le.trans (Le.trans (Le.trans (Le.refl _) hle7) hle12) hle17) hle23),(HSub.c 1 rfl (HSub.c 2 rfl HSub.n)),CSub.n⟩,?_⟩;refine JA.fix ⟨(HSub.c 1 rfl (HSub.c 2 rfl HSub.n)),CSub.n,(Le.trans (Le.trans (Le.trans (Le.trans (Le.refl _) hle7) hle12) hle17) hle23)⟩ (fun fx25=>?_);refine JA.tk 21 rfl fx25 EP ?_;refine EW ?_;refine Ej.seq (Cj.ret (Ej.bare ?_));refine Ej.ZO rfl rfl rfl ?_;exact⟨rfl,rfl⟩
theorem c2Y a b x0 x1 y0 y1 w:Calls Tryz.prog 56 #[.agg #[str a,i64 x0,i64 x1],.agg #[str b,i64 y0,i64 y1]] w fun e w'=>e= .returned (i64 (NK (MC a b) (NK (Lib.compareInt x0 y0) (Lib.compareInt x1 y1))))∧∃q os',w'=Sort.grow (w.drewN q) os':=
  yY.grows (c1j a b x0 x1 y0 y1 _) (fun _ _ _ h=>h.1) w
