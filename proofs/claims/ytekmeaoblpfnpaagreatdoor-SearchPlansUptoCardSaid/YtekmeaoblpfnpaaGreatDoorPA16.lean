/-
  Own texts on the laws of the seat, joined: the logic, and contracts of functions. Conditions: none.
-/
import Derived.Test.YtekmeaoblpfnpaaGreatDoorNmA
import Derived.Test.YtekmeaoblpfnpaaGreatDoorPA15
set_option linter.all false
set_option maxRecDepth 100000
set_option maxHeartbeats 40000000
section
namespace Go.Proofs.YtekmeaoblpfnpaaGreatDoor
open _root_.Go.Proofs.Tryz
open Go Go.Sx
theorem b7W:YM [[92],[92,92],[34],[92,34]] (Rp.two 92 [92,92] 34 [92,34]):=by
 intro rb a0 a1 a2 a3 osl I ho;obtain⟨ob,oc,osp,rfl,hob⟩:=ho;rw[show([[92],[92,92],[34],[92,34]]:List (List UInt8)).length=4 from rfl];refine zQ Tryz.func279 fun w0 hw0=>?_;refine yU 44 ?_;refine Cj.rounds 3 ?_;refine Rj.succ ?_;refine yU 9 ?_;refine Cj.cond rfl (fun hc2=>?_) (fun hc2=>Bool.noConfusion (Eq.trans (Eq.symm (by first|rfl|decide)) hc2));refine zW 0 ?_;refine yU 5 ?_;refine Cj.cond rfl (fun hc3=>Bool.noConfusion (Eq.trans (Eq.symm (by first|rfl|decide)) hc3)) (fun hc3=>?_);refine zW 1 ?_;refine yU 5 ?_;refine Cj.cond rfl (fun hc4=>?_) (fun hc4=>Bool.noConfusion (Eq.trans (Eq.symm (by first|rfl|decide)) hc4));refine yU 10 ?_;refine Ej.rounds ?_;refine Rj.succ ?_;refine yU 9 ?_;refine Cj.cond rfl (fun hc5=>?_) (fun hc5=>Bool.noConfusion (Eq.trans (Eq.symm (by first|rfl|decide)) hc5));refine zW 2 ?_;refine yU 5 ?_;refine Cj.cond rfl (fun hc6=>Bool.noConfusion (Eq.trans (Eq.symm (by first|rfl|decide)) hc6)) (fun hc6=>?_);refine zW 3 ?_;refine yU 5 ?_;refine Cj.cond rfl (fun hc7=>?_) (fun hc7=>Bool.noConfusion (Eq.trans (Eq.symm (by first|rfl|decide)) hc7));refine yU 10 ?_;refine Ej.rounds ?_;refine Rj.succ ?_;refine yU 9 ?_;refine Cj.cond rfl (fun hc8=>Bool.noConfusion (Eq.trans (Eq.symm (by first|rfl|decide)) hc8)) (fun hc8=>?_);refine yU 18 ?_;refine J.z (RG rfl rfl rfl (by decide) (by decide)) ?_;refine J.op rfl (ZC (n:=0) (c:=2) (by1:=16) (z:=(str [])) rfl rfl rfl rfl rfl CG (by kernel_rfl) rfl (by omega) (by omega) (by omega) ?_);intro b10 hb10;refine J.z (zN (zs:=tab (fun _=> .slice none 0 0) (.slice none 0 0)) (cs:=tab (fun _=> .slice none 0 0) (.slice (some ⟨b10,0,none⟩) 0 2)) (pl:= #[(0,256),(256,1)]) rfl rfl Tryz.zeroValue364 a3W Tryz.underlying364 (fun w=>by simp[Tryz.sizeOf362,a0R]) (FB.part rfl rfl rfl (b4b _ _ _) FB.none)) ?_;refine J.op rfl (a5B (zs:=tab (fun _=> .slice none 0 0) (.slice none 0 0)) rfl rfl rfl Tryz.zeroValue364 a3W ?_);intro b11 hb11;refine J.op rfl (CS 0 rfl rfl rfl rfl rfl (b3E (fun _=>rfl) rfl) Tryz.sizeOf364 (GV _ _) rfl (AL.all (by rw[GV,GV])) AU.z ?_);refine J.pull Pull.z ?_;refine J.pull (Pull.s (Pull.s Pull.z)) ?_;refine yU 12 ?_;refine Cj.rounds 3 ?_;refine Rj.succ ?_;refine yU 7 ?_;refine Cj.cond rfl (fun hc12=>?_) (fun hc12=>Bool.noConfusion (Eq.trans (Eq.symm (by first|rfl|decide)) hc12));refine zW 2 ?_;refine yU 1 ?_;refine J.z (CB (c:=34) rfl rfl rfl BQ (by decide) rfl) ?_;refine zW 3 ?_;refine yU 10 ?_;refine J.z (AX rfl rfl TY (yZ.at 1 rfl) (LY _ _ (by decide))) ?_;refine J.ev 116 (.slice none 0 0) rfl (by first|rfl|exact if_neg (by decide)) ?_;refine yU 6 ?_;refine J.z (DU a3F (yZ.at 1 rfl) (a1k _ _)) ?_;refine yU 2 ?_;intro b14 hb14;refine J.z (JD [34] rfl rfl rfl IJ BQ UZ (yZ.at 0 rfl) rfl) ?_;refine yU 1 ?_;intro b15 hb15;refine J.op rfl (AQ (by':=15) (n:=0) (g:=some (b10,2,List.replicate 2 (str []))) (xs:=[]) [_,_,_,_] rfl rfl rfl rfl rfl CG (.inr ⟨_,CG⟩) (by kernel_rfl) AV NP rfl ⟨hb10,rfl,rfl⟩ rfl (Src.slice (yZ.at 0 rfl) rfl rfl rfl) (by omega) ?_);intro g16 hg16;refine yU 1 ?_;refine J.op rfl (IY 3 rfl rfl rfl rfl (a0d _ _) (a4h _ _) a0R rfl (.inl rfl) (by rw[GV];decide) (AU.tr (AU.s (AU.s (AU.s AU.z)))) ?_);refine yU 5 ?_;refine J.op rfl (QH rfl rfl rfl rfl BQ IJ UZ ?_);intro b17 c18 sp19 fr20 hb17 hfr20;refine J.persist hb17 (fun I22 hle21 hb17i=>?_);have hob:=hle21 _ _ hob;refine yU 2 ?_;refine J.op rfl (IY 3 rfl rfl rfl rfl rfl rfl UQ rfl (.inl rfl) (by rw[GV];decide) (AU.tb (by decide) (AU.s (AU.s (AU.s AU.z)))) ?_);refine yU 8 ?_;refine Ej.rounds ?_;refine Rj.succ ?_;refine yU 7 ?_;refine Cj.cond rfl (fun hc23=>?_) (fun hc23=>Bool.noConfusion (Eq.trans (Eq.symm (by first|rfl|decide)) hc23));refine zW 0 ?_;refine yU 1 ?_;refine J.z (CB (c:=92) rfl rfl rfl BQ (by decide) rfl) ?_;refine zW 1 ?_;refine yU 10 ?_;refine J.z (AX rfl rfl TY (yZ.at 3 rfl) (LY _ _ (by decide))) ?_;refine J.ev 116 (.slice none 0 0) rfl (by first|rfl|exact if_neg (by decide)) ?_;refine yU 6 ?_;refine J.z (DU a3F (yZ.at 3 rfl) (a1k _ _)) ?_;refine yU 2 ?_;intro b25 hb25;refine J.z (JD [92] rfl rfl rfl IJ BQ UZ (yZ.at 0 rfl) rfl) ?_;refine yU 1 ?_;intro b26 hb26;refine RD 15 [_,_,_,_,_,_] hg16 ?_;intro g27 hg27;refine yU 1 ?_;refine J.op rfl (IY 5 rfl rfl rfl rfl (a0d _ _) (a4h _ _) a0R rfl (.inl rfl) (by rw[GV];decide) (AU.tr (AU.s (AU.s (AU.s (AU.s (AU.s AU.z)))))) ?_);refine yU 5 ?_;refine J.op rfl (QH rfl rfl rfl rfl BQ IJ UZ ?_);intro b28 c29 sp30 fr31 hb28 hfr31;refine J.persist hb28 (fun I33 hle32 hb28i=>?_);have hob:=hle32 _ _ hob;have hb17i:=hle32 _ _ hb17i;refine yU 2 ?_;refine J.op rfl (IY 5 rfl rfl rfl rfl rfl rfl UQ rfl (.inl rfl) (by rw[GV];decide) (AU.tb (by decide) (AU.s (AU.s (AU.s (AU.s (AU.s AU.z)))))) ?_);refine yU 8 ?_;refine Ej.rounds ?_;refine Rj.succ ?_;refine yU 7 ?_;refine Cj.cond rfl (fun hc34=>Bool.noConfusion (Eq.trans (Eq.symm (by first|rfl|decide)) hc34)) (fun hc34=>?_);refine yU 12 ?_;obtain⟨gb,gc,gsp,rfl,hgb⟩:=hg27.some (by decide);refine Ej.pull (Pull.s (Pull.s (Pull.s (Pull.s (Pull.s (Pull.s Pull.z)))))) ?_;refine Ej.persist hgb (fun I9 hle9 hgbi=>?_);refine Ej.pull (Pull.s (Pull.s (Pull.s (Pull.s (Pull.s Pull.z))))) ?_;refine Ej.persist hb11 (fun I8 hle8 hxbi=>?_);refine Ej.keep (Keeps.d (Keeps.d (Keeps.d (Keeps.d (Keeps.k Keeps.n))))) ?_;refine zV ?_;exact⟨b11,rfl,BSG.two (by decide) (by decide) (by decide) hxbi ⟨b17,_,_,_,rfl,hle8 _ _ (hle9 _ _ hb17i)⟩ ⟨b28,_,_,_,rfl,hle8 _ _ (hle9 _ _ hb28i)⟩ ⟨gb,gc,gsp,rfl,hle8 _ _ hgbi⟩,rfl⟩
theorem c3j s:Rp.rep (Rp.two 92 [92,92] 34 [92,34]) s=Cq.escape s:=by
  induction s with
  |nil=>rfl
  | cons c s ih=>
    show Rp.one _ c++Rp.rep _ s=Cq.escape (c::s);rw[ih,show Cq.escape (c::s)=(if c=34∨c=92 then[92,c]else[c])++Cq.escape s from rfl];unfold Rp.one Rp.two
    by_cases h1:c=92
    · subst h1;rfl
    by_cases h2:c=34
    · subst h2;rfl
    simp[h1,h2]
theorem b2Q rb osl s (hs:s.length≤1000000000) I (ho:JH 9 I [[92],[92,92],[34],[92,34]] osl):yY Tryz.prog 198 [ptr rb 0,str s] I (a5m rb (.int .u32 0) (.int .i32 0) (.int .u32 0) .nilIface osl) (fun e I' H'=>e= .returned (str (Cq.escape s))∧H'=[]):=by
  rw[←c3j];exact a6c b7W rb osl s hs I ho
end Go.Proofs.YtekmeaoblpfnpaaGreatDoor
end
namespace Cq
open Ix
theorem a6L:∀{a b X Y:List UInt8},(∀c∈a,c≠32)→(∀c∈b,c≠32)→a++32::X=b++32::Y→a=b∧X=Y
  |[],[],_,_,_,_,h=>⟨rfl,(List.cons.inj h).2⟩
  |[],c::b,_,_,_,hb,h=>absurd (List.cons.inj h).1.symm (hb c (.head _))
  |c::a,[],_,_,ha,_,h=>absurd (List.cons.inj h).1 (ha c (.head _))
  | c::a,d::b,_,_,ha,hb,h=>by
    obtain⟨h1,h2⟩:=List.cons.inj h;obtain⟨e1,e2⟩:=a6L (fun x hx=>ha x (.tail _ hx)) (fun x hx=>hb x (.tail _ hx)) h2;exact⟨by rw[h1,e1],e2⟩
theorem WG c s:escape (c::s)=(if c=34∨c=92 then[92,c]else[c])++escape s:=rfl
theorem a7x:∀{a b X Y:List UInt8},escape a++34::X=escape b++34::Y→a=b∧X=Y
  |[],[],_,_,h=>⟨rfl,(List.cons.inj h).2⟩
  | [],d::b,_,_,h=>by
    rw[WG]at h
    split at h
    · exact absurd (List.cons.inj h).1 (by decide)
    rename_i hd
    exact absurd (List.cons.inj h).1.symm (fun e=>hd (.inl e))
  | c::a,[],_,_,h=>by
    rw[WG]at h
    split at h
    · exact absurd (List.cons.inj h).1 (by decide)
    rename_i hd
    exact absurd (List.cons.inj h).1 (fun e=>hd (.inl e))
  | c::a,d::b,_,_,h=>by
    rw[WG,WG]at h
    split at h<;>split at h
    · obtain⟨_,h2⟩:=List.cons.inj h;obtain⟨h3,h4⟩:=List.cons.inj h2;obtain⟨e1,e2⟩:=a7x h4;exact⟨by rw[h3,e1],e2⟩
    · rename_i hd
      exact absurd (List.cons.inj h).1.symm (fun e=>hd (.inr e))
    · rename_i hd _
      exact absurd (List.cons.inj h).1 (fun e=>hd (.inr e))
    obtain⟨h3,h4⟩:=List.cons.inj h;obtain⟨e1,e2⟩:=a7x h4;exact⟨by rw[h3,e1],e2⟩
theorem a5t:∀i∈indexes,(∀c∈i,c≠32)∧∀X:List UInt8,(i++X).head?≠some 40:=by
  intro i hi;simp only[indexes,List.mem_cons,List.not_mem_nil,or_false]at hi;rcases hi with h|h|h|h|h|h<;>(subst h;exact⟨by decide,fun X=>by simp⟩)
theorem b1s:∀r∈relations,∀c∈r,c≠32:=by decide
theorem a2n{q}(h:q.k=1)(hf:form q=true):q.i∈indexes∧q.r∈relations∧q.ps= .nil:=by
  rw[MG h,Bool.and_eq_true,Bool.and_eq_true,List.contains_iff_mem,List.contains_iff_mem,beq_iff_eq]at hf;refine⟨hf.1.1,hf.1.2,?_⟩;cases hp:q.ps with
  |nil=>rfl
  |cons=>rw[hp]at hf;simp[Qs.len]at hf
theorem b0h{a b X Y}(ha:a.k=1)(hb:b.k=1)(hfa:form a=true)(hfb:form b=true)(h:write a++X=write b++Y):a=b∧X=Y:=by
  obtain⟨a1,a2,a3⟩:=a2n ha hfa;obtain⟨b1,b2,b3⟩:=a2n hb hfb;rw[JL ha,JL hb]at h;simp only[text,List.append_assoc,List.cons_append,List.nil_append]at h;obtain⟨e1,h⟩:=a6L (a5t _ a1).1 (a5t _ b1).1 h;obtain⟨e2,h⟩:=a6L (b1s _ a2) (b1s _ b2) h;obtain⟨e3,h⟩:=a7x (List.cons.inj h).2;refine⟨?_,h⟩;cases a;cases b;simp only at ha hb e1 e2 e3 a3 b3;subst ha e1 e2 e3 a3 hb b3;rfl
theorem c5o{q a b}(ht:q.Two a b)(h1:q.k≠1)(hq:form q=true):q=EC q.k a b:=by
  have hb:¬(q.k<2∨q.k>4∨q.i≠[]∨q.r≠[]∨q.t≠[]∨q.ps.len≠2):=fun hh=>by rw[VT h1 hh]at hq;cases hq
  have e1:q.i=[]:=Decidable.byContradiction fun e=>hb (.inr (.inr (.inl e)));have e2:q.r=[]:=Decidable.byContradiction fun e=>hb (.inr (.inr (.inr (.inl e))));have e3:q.t=[]:=Decidable.byContradiction fun e=>hb (.inr (.inr (.inr (.inr (.inl e)))));have e4:q.ps=_:=ht;cases q;simp only at e1 e2 e3 e4;subst e1 e2 e3 e4;rfl
abbrev piece (o:Int×Qn):List UInt8:=32::(word o.1++32::paren o.2.k (write o.2))
theorem chain:∀(n:Nat) (q:Qn),q.size<n→form q=true→∃(t:Qn) (l:List (Int×Qn)),t.k=1∧form t=true∧(∀o∈l,form o.2=true∧2≤o.1∧o.1≤4∧o.2.size<q.size)∧q=l.foldl (fun a o=>EC o.1 a o.2) t∧write q=write t++l.flatMap piece
  |0,_,h,_=>absurd h (Nat.not_lt_zero _)
  | n+1,q,h,hq=>by
    rcases FI hq with h1|⟨h1,h2,h4,a,b,hab,ha,hb⟩
    · exact⟨q,[],h1,hq,(fun o ho=>by cases ho),rfl,by simp⟩
    have hs:=hab.size;obtain⟨t,l,g1,g2,g3,g4,g5⟩:=chain n a (by omega) ha;refine⟨t,l++[(q.k,b)],g1,g2,fun o ho=>?_,?_,?_⟩
    · rcases List.mem_append.1 ho with g|g
      · obtain⟨k1,k2,k3,k4⟩:=g3 o g;exact⟨k1,k2,k3,by omega⟩
      rw[List.mem_singleton.1 g];exact⟨hb,h2,h4,hs.2⟩
    · rw[List.foldl_append,←g4];exact c5o hab h1 hq
    rw[MO h1 hab,g5];simp
def Ends (X:List UInt8):Prop:=X.head?≠some 32
theorem b9Q{k k' X Y}(h2:2≤k)(h4:k≤4)(g2:2≤k')(g4:k'≤4)(h:word k++32::X=word k'++32::Y):k=k'∧X=Y:=by
  have hc:∀k:Int,2≤k→k≤4→∀c∈word k,c≠32:=fun k h2 h4=>by
    rcases(by omega:k=2∨k=3∨k=4)with rfl|rfl|rfl<;>decide
  obtain⟨e,h⟩:=a6L (hc k h2 h4) (hc k' g2 g4) h;refine⟨?_,h⟩;rcases(by omega:k=2∨k=3∨k=4)with rfl|rfl|rfl<;>rcases(by omega:k'=2∨k'=3∨k'=4)with rfl|rfl|rfl<;>first|rfl|exact absurd e (by decide)
theorem a8b{b}(h:b.k=1)(hf:form b=true) X Y:write b++X≠40::Y:=fun e=>by
  have:=(a5t _ (a2n h hf).1).2 ([32]++b.r++[32]++text b.t++X);rw[JL h]at e;simp only[List.append_assoc]at e this;rw[e]at this;exact this rfl
theorem a8q:∀(n:Nat) {q r:Qn} {X Y:List UInt8},q.size<n→form q=true→form r=true→Ends X→Ends Y→write q++X=write r++Y→q=r∧X=Y
  |0,_,_,_,_,h,_,_,_,_,_=>absurd h (Nat.not_lt_zero _)
  | n+1,q,r,X,Y,hn,hq,hr,hX,hY,h=>by
    obtain⟨t,l,t1,t2,t3,t4,t5⟩:=chain _ q (Nat.lt_succ_self _) hq;obtain⟨u,m,u1,u2,u3,u4,u5⟩:=chain _ r (Nat.lt_succ_self _) hr;rw[t5,u5,List.append_assoc,List.append_assoc]at h;obtain⟨e,h⟩:=b0h t1 u1 t2 u2 h;have key:∀(l m:List (Int×Qn)),(∀o∈l,form o.2=true∧2≤o.1∧o.1≤4∧o.2.size<q.size)→(∀o∈m,form o.2=true∧2≤o.1∧o.1≤4∧o.2.size<r.size)→l.flatMap piece++X=m.flatMap piece++Y→l=m∧X=Y:=by
      intro l
      induction l with
      | nil=>
        intro m _ _ h;cases m with
        |nil=>exact⟨rfl,h⟩
        |cons o m=>exact absurd (congrArg List.head? h) hX
      | cons o l ih=>
        intro m hl hm h;cases m with
        |nil=>exact absurd (congrArg List.head? h.symm) hY
        | cons p m=>
          obtain⟨o1,o2,o3,o4⟩:=hl o (.head _);obtain⟨p1,p2,p3,p4⟩:=hm p (.head _);simp only[List.flatMap_cons,piece,List.append_assoc,List.cons_append]at h;obtain⟨e1,h⟩:=b9Q o2 o3 p2 p3 (List.cons.inj h).2;have hh:o.2=p.2∧l.flatMap piece++X=m.flatMap piece++Y:=by
            unfold paren at h
            by_cases a1:o.2.k=1<;>by_cases b1:p.2.k=1
            · rw[if_pos a1,if_pos b1]at h;exact b0h a1 b1 o1 p1 h
            · rw[if_pos a1,if_neg b1]at h;exact absurd h (a8b a1 o1 _ _)
            · rw[if_neg a1,if_pos b1]at h;exact absurd h.symm (a8b b1 p1 _ _)
            rw[if_neg a1,if_neg b1]at h;simp only[List.append_assoc,List.cons_append,List.nil_append]at h;obtain⟨e2,h⟩:=a8q n (by omega) o1 p1 (by simp[Ends]) (by simp[Ends]) (List.cons.inj h).2;exact⟨e2,(List.cons.inj h).2⟩
          obtain⟨e3,e4⟩:=ih m (fun x hx=>hl x (.tail _ hx)) (fun x hx=>hm x (.tail _ hx)) hh.2;exact⟨by rw[e3,Prod.ext e1 hh.1],e4⟩
    obtain⟨e2,h⟩:=key l m t3 u3 h;exact⟨by rw[t4,u4,e,e2],h⟩
theorem b8e{q r}(hq:right q=true)(hr:right r=true)(h:print q=print r):q=r:=by
  have f1:form q=true:=by unfold right at hq;rw[Bool.and_eq_true]at hq;exact hq.1
  have f2:form r=true:=by unfold right at hr;rw[Bool.and_eq_true]at hr;exact hr.1
  unfold print at h;rw[if_pos hq,if_pos hr]at h;exact(a8q _ (X:=[]) (Y:=[]) (Nat.lt_succ_self _) f1 f2 (by simp[Ends]) (by simp[Ends]) (by rw[h])).1
end Cq
section
namespace Cq
open _root_.Go.Proofs.Tryz
theorem b9S{q}(h:form q=true):write q≠[]:=by
  rcases FI h with hk|⟨hk,_,_,a,b,htw,_,_⟩
  · rw[JL hk];simp
  rw[MO hk htw];simp
end Cq
namespace Go.Proofs.YtekmeaoblpfnpaaGreatDoor
open Go Go.Sx
theorem KP{α:Type}{x:α}{R G:List α}:((x::G)++R).Perm (x::(R++G)):=List.Perm.cons _ List.perm_append_comm
theorem KH{α:Type}{x:α}{R G:List α}:(x::(R++G)).Perm ((x::G)++R):=List.Perm.cons _ List.perm_append_comm
def opers:List (List UInt8):=[[97,110,100],[111,114],[110,111,116]]
def a9H (q:Cq.Qn):Prop:=∀(p:Option Addr) (c:Nat) (b:Nat) (l:List UInt8) (pp:Bool) (g:Gs) (I:Heap),PS I q.ps p→Cq.form q=true→BL 0 1 l.length (EF l) g→l.length+(Cq.write q).length≤1000000000→
  yY Tryz.prog 254 [ptr b 0,.agg (zT q p c).toArray] I (GK b l pp g) (fun e I' H'=>e= .returned (.tuple #[])∧∃g',BL 0 1 (l++Cq.write q).length (EF (l++Cq.write q)) g'∧H'=GK b (l++Cq.write q) true g')
theorem c3P{k}(h2:2≤k)(h4:k≤4) sp:(opers.map str++sp)[(k-2).toNat]?=some (str (Cq.word k)):=by
  rw[List.getElem?_append_left (by simp[opers];omega)];exact VI h2 h4
theorem a9v I:yY Tryz.prog 286 [] I [] (fun e I' H'=>(∃v,e= .returned v∧JH 9 I' opers v)∧H'=[]):=by
 refine zQ Tryz.func286 fun w0 hw0=>?_;refine yU 8 ?_;intro b1 hb1;refine yU 4 ?_;refine Ej.persist hb1 (fun I3 hle2 hb1i=>?_);refine zV ?_;exact⟨⟨_,rfl,b1,3,[],rfl,hb1i⟩,rfl⟩
theorem b5a q (ih:∀q',Cq.Qn.size q'<q.size→a9H q'):a9H q:=by
 intro p c b l pp g I hps hform hg hlen;refine zQ Tryz.func254 fun w0 hw0=>?_;refine yU 3 ?_;intro b1 hb1;refine zK (fun hc2 hc2p=>?_) (fun hc2 hc2p=>?_)
 ·have hk:q.k=1:=by omega
  have hw:=Cq.JL hk;have hwl:=congrArg List.length hw;have htl:=(Cq.QB q.t).1;have htx:(Cq.text q.t).length=(Cq.escape q.t).length+2:=by simp[Cq.text]
  simp at hwl;refine yU 5 ?_;refine J.z (AZ rfl rfl rfl (by first|omega|(simp only[List.length_append];omega)|(simp;omega))) ?_;refine yU 2 ?_;refine J.z (AZ rfl rfl rfl (by first|omega|(simp only[List.length_append];omega)|(simp;omega))) ?_;refine J.z (AZ rfl rfl rfl (by first|omega|(simp only[List.length_append];omega)|(simp;omega))) ?_;refine J.ev 14 (str (q.i++[32]++q.r++[32,34])) rfl (by simp[str]) ?_;refine J.pull (Pull.s Pull.z) ?_;refine J.perm (KP (R:=[_])) ?_;refine J.op rfl (zM (H1:=GK _ _ _ _) rfl rfl rfl rfl rfl (yY.still (JF b l (q.i++[32]++q.r++[32,34]) pp _ hg (by first|omega|(simp;omega)|simp) (by first|omega|(simp;omega)|simp) _)) ?_ (fun _ _ _ _ h=>by cases h.2.1) (fun _ _ h=>by cases h.2.1));intro v3 I4 H5 hle6 hp7;obtain⟨rfl,h,g8,hg8,rfl⟩:=hp7;cases h;refine J.perm (KH (R:=[_])) ?_;refine yU 3 ?_;refine Cj.EX [1] [] 6 (by kernel_rfl) ?_;refine yU 4 ?_;intro b10 hb10;refine yU 1 ?_;refine JA.pull Pull.z ?_;refine AP (a1c _ _ _ _ b10 _ _) ?_;intro v11 I12 H13 hle14 hp15;have hps:=hps.mono hle14;obtain⟨rb,osl,h,rfl,ho⟩:=hp15;cases h;refine yU 1 ?_;refine JA.pull Pull.z ?_;refine AP (b2Q rb osl q.t (by omega) _ ho) ?_;intro v16 I17 H18 hle19 hp20;have hps:=hps.mono hle19;have ho:=ho.mono hle19;obtain⟨h,rfl⟩:=hp20;cases h;refine yU 1 ?_;refine JA.perm (KP (R:=[_])) ?_;refine JA.last 6 (by kernel_rfl) rfl rfl rfl (zM (H1:=GK _ _ _ _) rfl rfl rfl rfl rfl (yY.still (JF b (l++(q.i++[32]++q.r++[32,34])) (Cq.escape q.t) true _ hg8 (by first|omega|(simp;omega)|simp) (by first|omega|(simp;omega)|simp) _)) ?_ (fun _ _ _ _ h=>by cases h.2.1) (fun _ _ h=>by cases h.2.1));intro v21 I22 H23 hle24 hp25;obtain⟨rfl,h,g26,hg26,rfl⟩:=hp25;cases h;refine JA.perm (KH (R:=[_])) ?_;refine yU 5 ?_;refine J.perm (KP (R:=[_])) ?_;refine J.op rfl (zM (H1:=GK _ _ _ _) rfl rfl rfl rfl rfl (yY.still (JF b ((l++(q.i++[32]++q.r++[32,34]))++(Cq.escape q.t)) [34] true _ hg26 (by first|omega|(simp;omega)|simp) (by first|omega|(simp;omega)|simp) _)) ?_ (fun _ _ _ _ h=>by cases h.2.1) (fun _ _ h=>by cases h.2.1));intro v27 I28 H29 hle30 hp31;obtain⟨rfl,h,g32,hg32,rfl⟩:=hp31;cases h;refine J.perm (KH (R:=[_])) ?_;refine yU 4 ?_;refine Ej.keep (Keeps.k (Keeps.d Keeps.r)) ?_;refine Ej.a5u rfl rfl ?_;have hfin:l++Cq.write q=(((l++(q.i++[32]++q.r++[32,34]))++(Cq.escape q.t))++[34]):=by rw[hw];simp[Cq.text]
  rw[hfin];exact⟨rfl,_,hg32,rfl⟩
 have hk:q.k≠1:=by omega
 obtain⟨_,hk2,hk4,qa,qb,htw,hfa,hfb⟩:=(Cq.FI hform).resolve_left hk;have hw:=Cq.MO hk htw;have hwl:=congrArg List.length hw;have hpl:=Cq.a3c qb.k (Cq.write qb);simp at hwl;have hln:=htw.len;obtain⟨bl,off,cs',T,fr,pa,ca,pb,cb,rfl,hbl,hca,hcb,hkb,hpa,hpb⟩:=hps.KO htw;refine zW off ?_;refine J.z (BJ zL yV (yZ.LK hbl) hca) ?_;refine J.pull (Pull.s Pull.z) ?_;refine J.perm (KP (R:=[_])) ?_;refine J.op rfl (zM (H1:=GK _ _ _ _) rfl rfl rfl rfl rfl (yY.still (ih qa htw.size.1 pa ca b l pp _ _ hpa hfa hg (by first|omega|(simp;omega)|simp))) ?_ (fun _ _ _ _ h=>by cases h.2.1) (fun _ _ h=>by cases h.2.1));intro v33 I34 H35 hle36 hp37;obtain⟨rfl,h,g38,hg38,rfl⟩:=hp37;cases h;refine J.perm (KH (R:=[_])) ?_;refine yU 3 ?_;refine Cj.EX [1] [] 9 (by kernel_rfl) ?_;have hbl_6:=hbl;refine AP (a9v _) ?_;intro v40 I41 H42 hle43 hp44;have hbl:=hle43 _ _ hbl;have hpa:=hpa.mono hle43;have hpb:=hpb.mono hle43;obtain⟨⟨vx,h,ob,oc,osp,rfl,hob⟩,rfl⟩:=hp44;cases h;rw[show opers.length=3 from rfl];refine zW ((q.k-2).toNat) ?_;refine zO 6 rfl (AY (DU CU (yZ.LK hob) (c3P hk2 hk4 _)) rfl rfl ?_);refine yU 1 ?_;refine JA.zt 7 rfl (AZ rfl rfl rfl (by first|omega|(simp only[List.length_append];omega)|(simp;omega))) ?_;refine JA.zt 8 rfl (AZ rfl rfl rfl (by first|omega|(simp only[List.length_append];omega)|(simp;omega))) ?_;refine JA.perm (KP (R:=[_])) ?_;refine JA.last 9 (by kernel_rfl) rfl rfl rfl (zM (H1:=GK _ _ _ _) rfl rfl rfl rfl rfl (yY.still (JF b (l++Cq.write qa) ([32]++Cq.word q.k++[32]) true _ hg38 (by first|omega|(simp;omega)|simp) (by first|omega|(simp;omega)|simp) _)) ?_ (fun _ _ _ _ h=>by cases h.2.1) (fun _ _ h=>by cases h.2.1));intro v47 I48 H49 hle50 hp51;obtain⟨rfl,h,g52,hg52,rfl⟩:=hp51;cases h;refine JA.perm (KH (R:=[_])) ?_;refine zW (off+5) ?_;refine yU 1 ?_;refine J.z (DU OG (yZ.LK hbl) hkb) ?_;refine zK (fun hc53 hc53p=>?_) (fun hc53 hc53p=>?_)
 ·have hku:Cq.paren qb.k (Cq.write qb)=Cq.write qb:=by have h:=hc53;simp at h;simp[Cq.paren,h]
  refine zW (off+5) ?_;refine J.z (BJ zL yV (yZ.LK hbl) hcb) ?_;refine J.perm (KP (R:=[_])) ?_;refine J.op rfl (zM (H1:=GK _ _ _ _) rfl rfl rfl rfl rfl (yY.still (ih qb htw.size.2 pb cb b ((l++Cq.write qa)++([32]++Cq.word q.k++[32])) true _ _ hpb hfb hg52 (by first|omega|(simp;omega)|simp))) ?_ (fun _ _ _ _ h=>by cases h.2.1) (fun _ _ h=>by cases h.2.1));intro v54 I55 H56 hle57 hp58;obtain⟨rfl,h,g59,hg59,rfl⟩:=hp58;cases h;refine J.perm (KH (R:=[_])) ?_;refine yU 4 ?_;refine Ej.keep (Keeps.k (Keeps.d Keeps.r)) ?_;refine Ej.a5u rfl rfl ?_;have hfin:l++Cq.write q=(((l++Cq.write qa)++([32]++Cq.word q.k++[32]))++Cq.write qb):=by rw[hw,hku];simp[Cq.text]
  rw[hfin];exact⟨rfl,_,hg59,rfl⟩
 have hku:Cq.paren qb.k (Cq.write qb)=40::Cq.write qb++[41]:=by have h:=hc53;simp at h;simp[Cq.paren,h]
 have hpl2:=congrArg List.length hku;simp at hpl2;refine yU 5 ?_;refine J.perm (KP (R:=[_])) ?_;refine J.op rfl (zM (H1:=GK _ _ _ _) rfl rfl rfl rfl rfl (yY.still (JF b ((l++Cq.write qa)++([32]++Cq.word q.k++[32])) [40] true _ hg52 (by first|omega|(simp;omega)|simp) (by first|omega|(simp;omega)|simp) _)) ?_ (fun _ _ _ _ h=>by cases h.2.1) (fun _ _ h=>by cases h.2.1));intro v60 I61 H62 hle63 hp64;obtain⟨rfl,h,g65,hg65,rfl⟩:=hp64;cases h;refine J.perm (KH (R:=[_])) ?_;refine zW (off+5) ?_;refine J.z (BJ zL yV (yZ.LK hbl) hcb) ?_;refine J.perm (KP (R:=[_])) ?_;refine J.op rfl (zM (H1:=GK _ _ _ _) rfl rfl rfl rfl rfl (yY.still (ih qb htw.size.2 pb cb b (((l++Cq.write qa)++([32]++Cq.word q.k++[32]))++[40]) true _ _ hpb hfb hg65 (by first|omega|(simp;omega)|simp))) ?_ (fun _ _ _ _ h=>by cases h.2.1) (fun _ _ h=>by cases h.2.1));intro v66 I67 H68 hle69 hp70;obtain⟨rfl,h,g71,hg71,rfl⟩:=hp70;cases h;refine J.perm (KH (R:=[_])) ?_;refine yU 4 ?_;refine J.perm (KP (R:=[_])) ?_;refine J.op rfl (zM (H1:=GK _ _ _ _) rfl rfl rfl rfl rfl (yY.still (JF b ((((l++Cq.write qa)++([32]++Cq.word q.k++[32]))++[40])++Cq.write qb) [41] true _ hg71 (by first|omega|(simp;omega)|simp) (by first|omega|(simp;omega)|simp) _)) ?_ (fun _ _ _ _ h=>by cases h.2.1) (fun _ _ h=>by cases h.2.1));intro v72 I73 H74 hle75 hp76;obtain⟨rfl,h,g77,hg77,rfl⟩:=hp76;cases h;refine J.perm (KH (R:=[_])) ?_;refine yU 1 ?_;refine Ej.keep (Keeps.k (Keeps.d Keeps.r)) ?_;refine Ej.QW rfl rfl ?_;have hfin:l++Cq.write q=(((((l++Cq.write qa)++([32]++Cq.word q.k++[32]))++[40])++Cq.write qb)++[41]):=by rw[hw,hku];simp[Cq.text]
 rw[hfin];exact⟨rfl,_,hg77,rfl⟩
theorem b9c q:a9H q:=by
  suffices ∀n (q:Cq.Qn),q.size<n→a9H q from this _ q (Nat.lt_succ_self _)
  intro n
  induction n with
  |zero=>intro q h;omega
  |succ n ih=>intro q h;exact b5a q fun q' h'=>ih q' (by omega)
theorem a3A q p c (hsz:q.size≤1000000000)(hwd:q.wide≤1000000000)(hlen:Cq.form q=true→(Cq.write q).length≤1000000000) I (hps:PS I q.ps p):Pure Tryz.prog 210 [.agg (zT q p c).toArray] I (str (Cq.print q)):=by
 refine yY.toPure ?_;refine zQ Tryz.func210 fun w0 hw0=>?_;refine yU 3 ?_;intro b1 hb1;refine zX (a0t q p c hsz hwd _ hps) ?_;refine DI (fun hc2=>?_) (fun hc2=>?_)
 ·have hr:Cq.right q=false:=by have h:=hc2;simpa using h
  refine AB ?_;refine⟨?_,rfl⟩;simp[Cq.print,hr]<;>rfl
 have hr:Cq.right q=true:=by have h:=hc2;simpa using h
 have hform:Cq.form q=true:=by unfold Cq.right at hr;rw[Bool.and_eq_true]at hr;exact hr.1
 refine yU 5 ?_;intro b3 hb3;refine yU 5 ?_;refine J.perm (KP (R:=[_]) (G:=[])) ?_;refine J.op rfl (zM (H1:=GK _ [] false none) rfl rfl rfl rfl rfl (yY.still (b9c q p c b3 [] false none _ hps hform ⟨rfl,rfl⟩ (by have:=hlen hform;simp;omega))) ?_ (fun _ _ _ _ h=>by cases h.2.1) (fun _ _ h=>by cases h.2.1));intro v4 I5 H6 hle7 hp8;obtain⟨rfl,h,g9,hg9,rfl⟩:=hp8;cases h;refine J.perm (KH (R:=[_])) ?_;refine yU 4 ?_;refine J.perm (KP (R:=[_])) ?_;refine J.op rfl (zM (H1:=GK _ _ _ _) rfl rfl rfl rfl rfl (yY.still (a2H b3 ([]++Cq.write q) true _ hg9 (fun h=>absurd h (by simpa using Cq.b9S hform)) (by have:=hlen hform;simp;omega) _)) ?_ (fun _ _ _ _ h=>by cases h.2.1) (fun _ _ h=>by cases h.2.1));intro v10 I11 H12 hle13 hp14;obtain⟨rfl,h,-,-,-⟩:=hp14;cases h;refine AB ?_;refine⟨?_,rfl⟩;simp[Cq.print,hr]<;>rfl
end Go.Proofs.YtekmeaoblpfnpaaGreatDoor
end
namespace Ix
open Ke
def a1T (L:Ix) (q:Cq.Qn):List Rec:=(L.map (·.1)).filter fun t=>sat L q t
theorem b2x L q:(a1T L q).length≤L.length:=by grind [a1T]
theorem b6c{L}(h:BK L) q:(a1T L q).Nodup:=(a8l h).sublist List.filter_sublist
theorem b1v{L q t}:t∈a1T L q↔t∈L.map (·.1)∧sat L q t=true:=by unfold a1T;rw[List.mem_filter]
end Ix
section
namespace Go.Proofs.YtekmeaoblpfnpaaGreatDoor
open _root_.Go.Proofs.Tryz
open Go Go.Sx
def BX (L:Ix.Ix) (q:Cq.Qn):Nat:=(Ix.a1T L q).length
def YZ (L:Ix.Ix) (m:ML (List UInt8)):Prop:=∀(s:List UInt8) (v:Value),s≠[]→AA m s=some v→∀q,Cq.right q=true→Cq.print q=s→v=i64 (BX L q:Nat)
theorem YZ.nil L:YZ L []:=fun s v _ h=>by cases h
theorem a7S{α:Type}[BEq α][LawfulBEq α]{a b v c}:∀{l:ML α},AA (BD l a v c) b=if b == a then some v else AA l b
  |[]=>by unfold BD AA;rfl
  | (d,u,n)::r=>by
    unfold BD
    by_cases h:a == d
    · rw[if_pos h];rw[CO h];unfold AA
      split<;>rfl
    rw[if_neg h];have ih:=a7S (a:=a) (b:=b) (v:=v) (c:=c) (l:=r);unfold AA
    by_cases hb:b == d
    · have:¬(b == a)=true:=fun e=>h (by rw[←CO e];exact hb);rw[if_pos hb,if_neg this,if_pos hb]
    rw[if_neg hb,if_neg hb,ih]
theorem YZ.push{L m q k}(h:YZ L m):YZ L (BD m (Cq.print q) (i64 (BX L q:Nat)) k):=fun s v hs hg r hr hp=>by
  rw[a7S]at hg
  by_cases hb:s == Cq.print q
  · rw[if_pos hb]at hg;cases hg;have e:=CO hb;have hq:Cq.right q=true:=by
      cases hc:Cq.right q with
      |true=>rfl
      |false=>exact absurd (e.trans (by unfold Cq.print;rw[hc];rfl)) hs
    rw[Cq.b8e hq hr (e.symm.trans hp.symm)]
  rw[if_neg hb]at hg;exact h s v hs hg r hr hp
theorem b1q{L}(hL:Ix.BK L){q}(hf:Cq.form q=true){m k}(hm:FK m k (Ix.sat L q)):m.length=BX L q:=by
  have hn:(m.map (·.1)).Nodup:=hm.1.1;have hp:(m.map (·.1)).Perm (Ix.a1T L q):=(List.perm_ext_iff_of_nodup hn (Ix.b6c hL q)).2 fun t=>by
    rw[hm.mem,Ix.b1v];exact⟨fun h=>⟨Ix.ZP L _ q (Nat.lt_succ_self _) hf h,h⟩,fun h=>h.2⟩
  rw[←List.length_map (f:=(·.1)),hp.length_eq];rfl
theorem a8A{L q}(h:∀t,Ix.sat L q t=false):BX L q=0:=by
  unfold BX Ix.a1T;rw[List.filter_eq_nil_iff.2 fun t _=>by rw[h t];exact Bool.false_ne_true];rfl
theorem LP{q:Cq.Qn}:∀(n:Nat) (q:Cq.Qn),q.size<n→Cq.form q=true→(Cq.write q).length+7≤2*q.wide+6*(q.size+2)
  |0,_,h,_=>absurd h (Nat.not_lt_zero _)
  | n+1,q,h,hq=>by
    rcases Cq.FI hq with h1|⟨h1,h2,h4,a,b,hab,ha,hb⟩
    · rw[Cq.JL h1];have:=(Cq.QB q.t).2;unfold Cq.Qn.wide;simp only[Cq.text,List.length_append,List.length_cons,List.length_nil];omega
    have hs:=hab.size;have g1:=LP (q:=q) n a (by omega) ha;have g2:=LP (q:=q) n b (by omega) hb;have hw:=Ix.XC.two hab h1 hq;have hz:=Ix.SQ.two hab h1 hq;have hp:(Cq.paren b.k (Cq.write b)).length≤(Cq.write b).length+2:=by unfold Cq.paren;split<;>simp
    have hk:(Cq.word q.k).length≤3:=by unfold Cq.word;split<;>(try split)<;>simp
    rw[Cq.MO h1 hab];simp only[List.length_append,List.length_cons,List.length_nil];omega
theorem b3T xv L (htk:Ix.TOK L)(hL:Ix.BK L) pb mb q p c m k (hm:YZ L m)(hform:Cq.form q=true)(hwd:q.wide≤10000000)(hsz:q.size≤10000000) I (hpb:I pb=some (yX 173 [xv,.map (some mb)]))(hps:PS I q.ps p)(hx:KQ I xv L)(hT:LZ I):
    yY Tryz.prog 209 [ptr pb 0,.agg (zT q p c).toArray] I [(mb,zY (fun a:List UInt8=>str a) m k)] (fun e I' H'=>∃m' k',e= .returned (i64 (BX L q:Nat))∧YZ L m'∧H'=[(mb,zY (fun a:List UInt8=>str a) m' k')]):=by
 have hlw:=LP (q:=q) _ q (Nat.lt_succ_self _) hform;refine zQ Tryz.func209 fun w0 hw0=>?_;refine yU 3 ?_;intro b1 hb1;refine zX (a3A q p c (by omega) (by omega) (fun _=>by omega) _ hps) ?_;refine J.z EP ?_;refine J.a0S (Cj.region (J.z qq2 ?_));refine J.z (EL rfl rfl) ?_;refine J.z (CV (off':=1) a0j Tryz.sizeOf171) ?_;refine J.z (DF Tryz.isAgg171 (yZ.LK hpb)) ?_;refine J.z qq2 ?_;refine J.z (a6w (kv:=(fun a:List UInt8=>str a)) (l:=m) (a:=Cq.print q) rfl rfl rfl rfl a6H (ET.text BQ) ZK (yZ.at 1 rfl)) ?_;refine FM (fun hg2=>?_) (fun hg2=>?_)
 ·refine zK (fun hc3 hc3p=>?_) (fun hc3 hc3p=>?_)
  ·refine yU 8 ?_;refine Ej.keep (Keeps.d (Keeps.k Keeps.n)) ?_;have hne:Cq.print q≠[]:=bne_iff_ne.1 hc3;have hqr:Cq.right q=true:=by
     cases hc:Cq.right q with
     |true=>rfl
     |false=>exact absurd (by unfold Cq.print;rw[hc];rfl) hne
   obtain⟨v,hv⟩:=Option.isSome_iff_exists.1 hg2;have he:=hm _ v hne hv q hqr rfl;refine zV ?_;refine⟨m,k,?_,hm,rfl⟩;show Ending.returned ((AA m (Cq.print q)).getD _)=_;rw[hv];exact congrArg Ending.returned he
  refine yU 3 ?_;refine Cj.EX [0,1] [] 8 (by kernel_rfl) ?_;have hpb_5:=hpb;refine JA.fix AO (fun fx4=>?_);refine JA.tk 0 rfl fx4 qq2 ?_;refine JA.tk 1 rfl fx4 (EL rfl rfl) ?_;refine JA.tk 2 rfl fx4 (CV (off':=0) a0j Tryz.sizeOf26) ?_;refine JA.tk 3 rfl fx4 (DF Tryz.isAgg26 (yZ.OA hpb_5)) ?_;refine JA.tk 4 rfl fx4 (FU zL yV (yZ.atC 0 rfl)) ?_;refine AP (a2b xv L htk q p c _ hps hx hT hwd hform) ?_;intro v5 I6 H7 hle8 hp9;have hps:=hps.mono hle8;have hx:=hx.mono hle8;have hT:=hT.mono hle8;have hpb:=hle8 _ _ hpb;obtain⟨wa,h,hsa,rfl⟩:=hp9;cases h;rcases id hsa with⟨rfl,hSa⟩|⟨ab,am,ak,rfl,hma,hab⟩
  ·have hz:BX L q=0:=a8A hSa;refine yU 1 ?_;refine JA.zt 6 rfl (ZM rfl rfl IE) ?_;refine JA.ev 32 (i64 (BX L q:Nat)) rfl (congrArg (fun n:Nat=>i64 (n:Int)) hz.symm) ?_;refine JA.fix AO (fun fx10=>?_);refine JA.tk 7 rfl fx10 EP ?_;refine EW ?_;refine Ej.seq (Cj.sr (J.z qq2 ?_));refine J.z (EL rfl rfl) ?_;refine J.z (CV (off':=1) a0j Tryz.sizeOf171) ?_;refine J.z (DF Tryz.isAgg171 (yZ.LK hpb)) ?_;refine J.z qq2 ?_;refine J.z qq2 ?_;refine J.op rfl (ES (kv:=(fun a:List UInt8=>str a)) (a:=(Cq.print q)) 1 (.inr rfl) rfl rfl rfl rfl rfl a6H (ET.text BQ) rfl (AU.s AU.z) ?_);refine yU 9 ?_;refine Ej.keep (Keeps.d (Keeps.k Keeps.n)) ?_;refine zV ?_;exact⟨_,_,rfl,hm.push,rfl⟩
  have hz:am.length=BX L q:=b1q hL hform hma;refine yU 1 ?_;refine zO 6 rfl (AY (MK (kv:=zZ) (l:=am) rfl rfl IE (yZ.LK hab)) rfl rfl ?_);refine yU 1 ?_;refine JA.ev 32 (i64 (BX L q:Nat)) rfl (congrArg (fun n:Nat=>i64 (n:Int)) hz) ?_;refine JA.fix AO (fun fx11=>?_);refine JA.tk 7 rfl fx11 EP ?_;refine EW ?_;refine Ej.seq (Cj.sr (J.z qq2 ?_));refine J.z (EL rfl rfl) ?_;refine J.z (CV (off':=1) a0j Tryz.sizeOf171) ?_;refine J.z (DF Tryz.isAgg171 (yZ.LK hpb)) ?_;refine J.z qq2 ?_;refine J.z qq2 ?_;refine J.op rfl (ES (kv:=(fun a:List UInt8=>str a)) (a:=(Cq.print q)) 1 (.inr rfl) rfl rfl rfl rfl rfl a6H (ET.text BQ) rfl (AU.s AU.z) ?_);refine yU 9 ?_;refine Ej.keep (Keeps.d (Keeps.k Keeps.n)) ?_;refine zV ?_;exact⟨_,_,rfl,hm.push,rfl⟩
 refine yU 9 ?_;refine Cj.EX [0,1] [] 8 (by kernel_rfl) ?_;have hpb_5:=hpb;refine JA.fix AO (fun fx13=>?_);refine JA.tk 0 rfl fx13 qq2 ?_;refine JA.tk 1 rfl fx13 (EL rfl rfl) ?_;refine JA.tk 2 rfl fx13 (CV (off':=0) a0j Tryz.sizeOf26) ?_;refine JA.tk 3 rfl fx13 (DF Tryz.isAgg26 (yZ.OA hpb_5)) ?_;refine JA.tk 4 rfl fx13 (FU zL yV (yZ.atC 0 rfl)) ?_;refine AP (a2b xv L htk q p c _ hps hx hT hwd hform) ?_;intro v14 I15 H16 hle17 hp18;have hps:=hps.mono hle17;have hx:=hx.mono hle17;have hT:=hT.mono hle17;have hpb:=hle17 _ _ hpb;obtain⟨wa,h,hsa,rfl⟩:=hp18;cases h;rcases id hsa with⟨rfl,hSa⟩|⟨ab,am,ak,rfl,hma,hab⟩
 ·have hz:BX L q=0:=a8A hSa;refine yU 1 ?_;refine JA.zt 6 rfl (ZM rfl rfl IE) ?_;refine JA.ev 32 (i64 (BX L q:Nat)) rfl (congrArg (fun n:Nat=>i64 (n:Int)) hz.symm) ?_;refine JA.fix AO (fun fx19=>?_);refine JA.tk 7 rfl fx19 EP ?_;refine EW ?_;refine Ej.seq (Cj.sr (J.z qq2 ?_));refine J.z (EL rfl rfl) ?_;refine J.z (CV (off':=1) a0j Tryz.sizeOf171) ?_;refine J.z (DF Tryz.isAgg171 (yZ.LK hpb)) ?_;refine J.z qq2 ?_;refine J.z qq2 ?_;refine J.op rfl (ES (kv:=(fun a:List UInt8=>str a)) (a:=(Cq.print q)) 1 (.inr rfl) rfl rfl rfl rfl rfl a6H (ET.text BQ) rfl (AU.s AU.z) ?_);refine yU 9 ?_;refine Ej.keep (Keeps.d (Keeps.k Keeps.n)) ?_;refine zV ?_;exact⟨_,_,rfl,hm.push,rfl⟩
 have hz:am.length=BX L q:=b1q hL hform hma;refine yU 1 ?_;refine zO 6 rfl (AY (MK (kv:=zZ) (l:=am) rfl rfl IE (yZ.LK hab)) rfl rfl ?_);refine yU 1 ?_;refine JA.ev 32 (i64 (BX L q:Nat)) rfl (congrArg (fun n:Nat=>i64 (n:Int)) hz) ?_;refine JA.fix AO (fun fx20=>?_);refine JA.tk 7 rfl fx20 EP ?_;refine EW ?_;refine Ej.seq (Cj.sr (J.z qq2 ?_));refine J.z (EL rfl rfl) ?_;refine J.z (CV (off':=1) a0j Tryz.sizeOf171) ?_;refine J.z (DF Tryz.isAgg171 (yZ.LK hpb)) ?_;refine J.z qq2 ?_;refine J.z qq2 ?_;refine J.op rfl (ES (kv:=(fun a:List UInt8=>str a)) (a:=(Cq.print q)) 1 (.inr rfl) rfl rfl rfl rfl rfl a6H (ET.text BQ) rfl (AU.s AU.z) ?_);refine yU 9 ?_;refine Ej.keep (Keeps.d (Keeps.k Keeps.n)) ?_;refine zV ?_;exact⟨_,_,rfl,hm.push,rfl⟩
end Go.Proofs.YtekmeaoblpfnpaaGreatDoor
end
section
namespace Go.Proofs.YtekmeaoblpfnpaaGreatDoor
open _root_.Go.Proofs.Tryz
open Go Go.Sx Go.Stab
theorem c3W x y I:Pure Tryz.prog 59 [i64 x,i64 y] I (i64 (Lib.compareInt x y)):=
  Pure.of_same (Enters.of Tryz.func59 (by decide) rfl) fun w _=>Tryz.cmp_Compare_int x y w
theorem c4f a b I:Pure Tryz.prog 58 [str a,str b] I (i64 (MC a b)):=
  Pure.of_same (Enters.of Tryz.func58 (by decide) rfl) fun w _=>by
    have h:=Tryz.strings_Compare ⟨a.toArray⟩ ⟨b.toArray⟩ w;rw[show(⟨a.toArray⟩:ByteArray).data.toList=a by simp,show(⟨b.toArray⟩:ByteArray).data.toList=b by simp,a0N]at h;exact h
theorem c0q x y:decide (Lib.compareInt x y<0)=decide (x<y):=by
  unfold Lib.compareInt
  by_cases h:x<y
  · simp[h]
  rw[if_neg h,decide_eq_false h]
  split<;>rfl
theorem b9j a b:decide (MC a b<0)=decide (a<b):=by
  unfold MC
  by_cases h:a<b
  · simp[h]
  rw[if_neg h,decide_eq_false h]
  split<;>rfl
structure TS (I:Heap) (x:QI):Prop where
  ps:PS I x.q.ps x.p
  form:Cq.form x.q=true
  wide:x.q.wide≤10000000
  size:x.q.size≤10000000
theorem TS.mono{I I' x}(h:TS I x)(hle:Le I I'):TS I' x:=⟨h.ps.mono hle,h.form,h.wide,h.size⟩
structure Pnr (I:Heap) (xv:Value) (L:Ix.Ix) (pb mb:Nat):Prop where
  pb:I pb=some (yX 173 [xv,.map (some mb)])
  ix:KQ I xv L
  tab:LZ I
theorem Pnr.mono{I I' xv L pb mb}(h:Pnr I xv L pb mb)(hle:Le I I'):Pnr I' xv L pb mb:=⟨hle _ _ h.pb,h.ix.mono hle,h.tab.mono hle⟩
abbrev MpS:=ML (List UInt8)×Nat
abbrev mpH (mb:Nat) (s:MpS):HL:=[(mb,zY (fun a:List UInt8=>str a) s.1 s.2)]
theorem a9G l v pq g cap (hl:l.length≤100000000000000) I (hr:zS GZ I l v)(hcl:∀x∈l,Pure Tryz.prog g (.agg (GZ x).toArray::cap) I (.bool (pq x))):Pure Tryz.prog 251 [v,.func (.func g) #[] cap.toArray] I (i64 (VB pq l)):=by
 refine yY.toPure ?_;obtain⟨p,c,rfl,hc,hp⟩:=hr;refine zQ Tryz.func251 fun w0 hw0=>?_;refine yU 14 ?_;refine Cj.loop (ι:=Nat) (fun j=>j≤l.length∧∀x∈l.take j,pq x=false) (fun j=>l.length-j) (fun j=>[(0,.slice p l.length c),(1,.func (.func g) #[] cap.toArray),(7,i64 (l.length:Int)),(8,i64 (j:Int))]) (fun j=>I) (fun j=>[]) 0 ⟨Nat.zero_le _,fun g hg=>by simp at hg⟩ ⟨rfl,rfl,rfl,rfl,trivial⟩ rfl rfl ?_;rintro j ⟨hj,hall⟩;refine zK (fun hc1 hc1p=>?_) (fun hc1 hc1p=>?_)
 ·have hlt:j<l.length:=by omega
  obtain⟨x,hget⟩:∃x,l[j]?=some x:=⟨_,BM hlt⟩;obtain⟨fb,fo,fcs,fty,ffr,sp,rfl,hfb,hfd⟩:=hp (zU hlt);refine zW (fo+j*5) ?_;refine J.z (BJ zL yV (yZ.LK hfb) (BF DV hfd hget)) ?_;refine zX (hcl x (CX hget)) ?_;refine DI (fun hc2=>?_) (fun hc2=>?_)
  ·have ht:pq x=true:=hc2;refine zV ?_;rw[a1g hall hget ht];exact⟨rfl,rfl⟩
  have hnt:pq x=false:=hc2;refine yU 7 ?_;refine Ej.round (j+1) ⟨by omega,UA hall hget hnt⟩ (by omega) ⟨rfl,rfl,rfl,rfl,trivial⟩ rfl rfl
 have hfull:l.take j=l:=List.take_of_length_le (by omega);rw[hfull]at hall;refine zV ?_;rw[XD hall];exact⟨rfl,rfl⟩
theorem a4L l v pq g cap (hl:l.length≤100000000000000) I (hr:zS GZ I l v)(hcl:∀x∈l,Pure Tryz.prog g (.agg (GZ x).toArray::cap) I (.bool (pq x))):Pure Tryz.prog 204 [v,.func (.func g) #[] cap.toArray] I (.bool (l.any pq)):=by
 refine yY.toPure ?_;refine zQ Tryz.func204 fun w0 hw0=>?_;refine zX (a9G l v pq g cap hl _ hr hcl) ?_;refine zV ?_;rw[←b3U];exact⟨rfl,rfl⟩
theorem c0n x y cb I (hx:TS I x)(hy:TS I y)(hcb:I cb=some (yX 32 (GZ y))):Pure Tryz.prog 205 [.agg (GZ x).toArray,ptr cb 0] I (.bool (decide (x.q=y.q))):=by
 refine yY.toPure ?_;have hxp:=hx.ps;have hyp:=hy.ps;have hxs:=hx.size;refine zQ Tryz.func205 fun w0 hw0=>?_;refine yU 3 ?_;intro b1 hb1;refine zX (b9L x.q y.q x.p y.p x.c y.c _ hxp hyp (by omega)) ?_;refine AB ?_;exact⟨rfl,rfl⟩
structure JInv (xv:Value) (L:Ix.Ix) (pb mb kb qb:Nat) (kind:Int) (I:Heap) (s:MpS):Prop where
  m:YZ L s.1
  P:Pnr I xv L pb mb
  k:I kb=some (yX 3 [i64 kind])
  q:I qb=some (yX 170 [ptr pb 0])
theorem c0N xv L (htk:Ix.TOK L)(hL:Ix.BK L) pb mb kb qb kind x y I s (hx:TS I x)(hy:TS I y)(hI:JInv xv L pb mb kb qb kind I s):
    yY Tryz.prog 208 ([.agg (GZ x).toArray,.agg (GZ y).toArray]++[ptr kb 0,ptr qb 0]) I (mpH mb s) (fun e I' H'=>∃(z:Int) (s':MpS),e= .returned (i64 z)∧decide (z<0)=Ix.ord (BX L) kind x.q y.q∧JInv xv L pb mb kb qb kind I' s'∧H'=mpH mb s'):=by
 obtain⟨m0,k0⟩:=s;obtain⟨hm0,hP,hkb,hqb⟩:=hI;have hlx:=LP (q:=x.q) _ x.q (Nat.lt_succ_self _) hx.form;have hly:=LP (q:=y.q) _ y.q (Nat.lt_succ_self _) hy.form;have hxw:=hx.wide;have hyw:=hy.wide;have hxs:=hx.size;have hys:=hy.size;refine zQ Tryz.func208 fun w0 hw0=>?_;refine yU 3 ?_;intro b1 hb1;refine yU 1 ?_;intro b2 hb2;refine zK (fun hc3 hc3p=>?_) (fun hc3 hc3p=>?_)
 ·refine yU 1 ?_;refine Cj.EX [0,1] [] 8 (by kernel_rfl) ?_;have hkb_2:=hkb;have hqb_2:=hqb;refine JA.fix AO (fun fx4=>?_);refine JA.tk 0 rfl fx4 (DF Tryz.isAgg170 (yZ.OA hqb_2)) ?_;refine JA.tk 1 rfl fx4 (FU zL yV (yZ.atC 1 rfl)) ?_;refine JA.tk 3 rfl fx4 (DF Tryz.isAgg170 (yZ.OA hqb_2)) ?_;refine JA.tk 4 rfl fx4 (FU zL yV (yZ.atC 0 rfl)) ?_;refine JA.pull (Pull.s (Pull.s Pull.z)) ?_;refine zO 2 rfl (zM (H1:=[_]) rfl rfl rfl rfl rfl (b3T xv L htk hL pb mb x.q x.p x.c _ _ hm0 hx.form hx.wide hx.size _ hP.pb hx.ps hP.ix hP.tab) ?_ (fun _ _ _ _ ⟨_,_,h,_⟩=>by cases h) (fun _ _ ⟨_,_,h,_⟩=>by cases h));intro v5 I6 H7 hle8 hp9;have hx:=hx.mono hle8;have hy:=hy.mono hle8;have hP:=hP.mono hle8;have hkb:=hle8 _ _ hkb;have hqb:=hle8 _ _ hqb;obtain⟨m1,k1,h,hm1,rfl⟩:=hp9;cases h;refine yU 1 ?_;refine JA.pull Pull.z ?_;refine zO 5 rfl (zM (H1:=[_]) rfl rfl rfl rfl rfl (b3T xv L htk hL pb mb y.q y.p y.c _ _ hm1 hy.form hy.wide hy.size _ hP.pb hy.ps hP.ix hP.tab) ?_ (fun _ _ _ _ ⟨_,_,h,_⟩=>by cases h) (fun _ _ ⟨_,_,h,_⟩=>by cases h));intro v10 I11 H12 hle13 hp14;have hx:=hx.mono hle13;have hy:=hy.mono hle13;have hP:=hP.mono hle13;have hkb:=hle13 _ _ hkb;have hqb:=hle13 _ _ hqb;obtain⟨m2,k2,h,hm2,rfl⟩:=hp14;cases h;refine zX (c3W _ _ _) ?_;refine yU 6 ?_;refine Ej.keep (Keeps.k (Keeps.d (Keeps.d Keeps.n))) ?_;have hk2:kind=2:=CO hc3;refine zV ?_;exact⟨_,(m2,k2),rfl,(c0q _ _).trans (by unfold Ix.ord;rw[if_pos hk2];exact decide_eq_decide.2 (by omega)),⟨hm2,hP,hkb,hqb⟩,rfl⟩
 refine yU 3 ?_;refine Cj.EX [0,1,2] [] 6 (by kernel_rfl) ?_;have hkb_3:=hkb;have hqb_3:=hqb;refine zX (a3A x.q x.p x.c (by omega) (by omega) (fun _=>by omega) _ hx.ps) ?_;refine zX (a3A y.q y.p y.c (by omega) (by omega) (fun _=>by omega) _ hy.ps) ?_;refine zX (c4f _ _ _) ?_;refine yU 5 ?_;refine Ej.keep (Keeps.d (Keeps.d (Keeps.k Keeps.n))) ?_;have hk2:kind≠2:=CW hc3;refine zV ?_;exact⟨_,(m0,k0),rfl,(b9j _ _).trans (by unfold Ix.ord;rw[if_neg hk2]),⟨hm0,hP,hkb,hqb⟩,rfl⟩
theorem c1r xv L (htk:Ix.TOK L)(hL:Ix.BK L) pb mb kb qb kind:a0g 208 [ptr kb 0,ptr qb 0] (mpH mb) (JInv xv L pb mb kb qb kind) (fun x y=>Ix.ord (BX L) kind x.q y.q) TS:=
  ⟨fun x y I s hx hy hI=>c0N xv L htk hL pb mb kb qb kind x y I s hx hy hI,fun h hle=>⟨h.m,h.P.mono hle,hle _ _ h.k,hle _ _ h.q⟩,fun h hle=>h.mono hle,TM.by QI.q (Ix.b0W (BX L) kind)⟩
end Go.Proofs.YtekmeaoblpfnpaaGreatDoor
end
section
namespace Go.Stab
open _root_.Go.Proofs.Tryz
theorem Stab.key{α β:Type}(key:α→β){lb:β→β→Bool}{l r}(h:Stab (fun x y=>lb (key x) (key y)) l r):Stab lb (l.map key) (r.map key):=by
  obtain⟨t,ht,hp,hs⟩:=h;refine⟨t.map fun p=>(key p.1,p.2),by rw[List.map_map,←ht,List.map_map];rfl,?_,(List.pairwise_map (f:=fun p:α×Nat=>(key p.1,p.2))).2 hs⟩;rw[List.zipIdx_map];exact hp.map _
end Go.Stab
namespace Go.Proofs.YtekmeaoblpfnpaaGreatDoor
open Go Go.Sx Go.Stab
def dd (l:List QI):List QI:=l.foldl (fun out x=>if x.q∈out.map QI.q then out else out++[x]) []
theorem a7J{l:List QI}{i x}(h:l[i]?=some x):dd (l.take (i+1))=if x.q∈(dd (l.take i)).map QI.q then dd (l.take i)else dd (l.take i)++[x]:=by
  rw[List.take_add_one,h];unfold dd;rw[List.foldl_append];rfl
theorem a7M:∀(l out:List QI),(l.foldl (fun out x=>if x.q∈out.map QI.q then out else out++[x]) out).map QI.q=(l.map QI.q).foldl XL (out.map QI.q)∧(∀x,x∈l.foldl (fun out x=>if x.q∈out.map QI.q then out else out++[x]) out→x∈out∨x∈l)
  |[],out=>⟨rfl,fun x h=> .inl h⟩
  | y::l,out=>by
    have h:=a7M l (if y.q∈out.map QI.q then out else out++[y]);refine⟨h.1.trans ?_,fun x hx=>?_⟩
    · rw[List.map_cons,List.foldl_cons]
      congr 1
      unfold XL
      split<;>simp
    rcases h.2 x hx with g|g
    · split at g
      · exact .inl g
      rcases List.mem_append.1 g with g|g
      · exact .inl g
      rw[List.mem_singleton.1 g];exact .inr (.head _)
    exact .inr (.tail _ g)
theorem b6A l:(dd l).map QI.q=dedup (l.map QI.q):=(a7M l []).1
theorem b1o l x (h:x∈dd l):x∈l:=((a7M l []).2 x h).resolve_left (by simp)
theorem b2i:∀(l:List QI) (i:Nat),(dd (l.take i)).length≤i
  |l,0=>by simp[dd]
  | l,i+1=>by
    have ih:=b2i l i;cases h:l[i]? with
    |none=>rw[List.take_of_length_le (by have:=List.getElem?_eq_none_iff.1 h;omega)];rw[List.take_of_length_le (List.getElem?_eq_none_iff.1 h)]at ih;omega
    | some x=>
      rw[a7J h]
      split
      · omega
      rw[List.length_append,List.length_singleton];omega
theorem c4O{l}(h:l≠[]):0<(dd l).length:=by
  have h1:=Ix.a0Q (Ix.b0W (fun _=>0) 2) (l.map QI.q);rw[←List.length_map (f:=QI.q),b6A];obtain⟨x,hx⟩:=List.exists_mem_of_ne_nil l h;exact List.length_pos_of_mem (Ix.a2D.2 (List.mem_map_of_mem hx))
theorem b1J:∀(l:List QI) (k:Nat),(l.zipIdx k).flatMap tqC=l.flatMap GZ
  |[],_=>rfl
  |x::l,k=>by rw[List.zipIdx_cons,List.flatMap_cons,List.flatMap_cons,b1J l];rfl
theorem a7r(D:List QI) y:D.any (fun z=>decide (z.q=y))=decide (y∈D.map QI.q):=by
  rw[Bool.eq_iff_iff,List.any_eq_true,decide_eq_true_eq,List.mem_map];simp only[decide_eq_true_eq]
theorem gRow{α:Type}{f:α→List Value}{b n sz:Nat}{T}{l:List α}{g}{K:Heap}(hpos:0<sz)(hf:∀x,(f x).length=sz)(hg:BL b sz n (l.flatMap f) g)(hn:n=l.length)(hK:∀p∈gH T (l.flatMap f) g,K p.1=some p.2):zS f K l (gV n g):=by
  subst hn;cases g with
  | none=>
    have h:l=[]:=List.length_eq_zero_iff.1 hg.1;subst h;exact zS.nil
  | some q=>
    obtain⟨bb,c,sp⟩:=q;have h2:=hg.2.1;have h3:(l.flatMap f).length+sp.length=c*sz:=hg.2.2;have h4:l.length≤c:=by
      rw[h2]at h3;exact Nat.le_of_mul_le_mul_right (by omega) hpos
    exact zS.of h4 (hK _ (.head _))
theorem a8D kind x0 {rest:List TQ}{k x}(h:rest[k]?=some x):((rest.take (k+1)).map fun x=>x.1.q).foldl (Ix.EC kind) x0=Ix.EC kind (((rest.take k).map fun x=>x.1.q).foldl (Ix.EC kind) x0) x.1.q:=by
  rw[List.take_add_one,h,List.map_append,List.foldl_append];rfl
structure JoS where
  k:Nat
  J:Heap
  p:Option Addr
  c:Nat
theorem b4o{l:List QI}{x}(h:x∈l.zipIdx 0):x.1∈l:=List.fst_mem_of_mem_zipIdx h
theorem a3N (xv : Value) (L : Ix.Ix) (htk : Ix.TOK L) (hL : Ix.BK L) (pb mb : Nat) (kind : Int) (l : List QI) (v : Value) (hne : l ≠ []) (hll : l.length ≤ 1000000000) (m0 : ML (List UInt8)) (k0 : Nat) (hm : YZ L m0) (I : Heap) (hP : Pnr I xv L pb mb) (hr : zS GZ I l v) (hq : ∀ x ∈ l, TS I x) :
    yY Tryz.prog 142 [ptr pb 0, v, i64 kind] I (mpH mb (m0, k0)) (fun e I' H' => ∃ (p : Option Addr) (c : Nat) (s' : MpS), e = .returned (.agg (zT (Ix.a0n (BX L) kind (l.map QI.q)) p c).toArray) ∧ PS I' (Ix.a0n (BX L) kind (l.map QI.q)).ps p ∧ YZ L s'.1 ∧ H' = mpH mb s') := by
 obtain ⟨p, c, rfl, hc, -⟩ := id hr
 refine zQ Tryz.func142 fun w0 hw0 => ?_
 refine yU 3 ?_
 intro b1 hb1
 refine yU 1 ?_
 intro b2 hb2
 refine yU 1 ?_
 intro b3 hb3
 refine yU 3 ?_
 refine Cj.pull (Pull.s (Pull.s Pull.z)) ?_
 refine Cj.persist hb1 (fun I5 hle4 hb1i => ?_)
 have hP := hP.mono hle4
 have hr := hr.mono hle4
 have hq := fun x9 hx9 => (hq x9 hx9).mono hle4
 refine Cj.pull (Pull.s Pull.z) ?_
 refine Cj.persist hb2 (fun I7 hle6 hb2i => ?_)
 have hP := hP.mono hle6
 have hr := hr.mono hle6
 have hq := fun x9 hx9 => (hq x9 hx9).mono hle6
 have hb1i := hle6 _ _ hb1i
 refine yU 13 ?_
 refine Cj.loop (ι := Nat × Heap × Gs) (fun y => y.1 ≤ l.length ∧ BL w0.heap.size 5 (dd (l.take y.1)).length ((dd (l.take y.1)).flatMap GZ) y.2.2 ∧ Pnr y.2.1 xv L pb mb ∧ zS GZ y.2.1 l (.slice p l.length c) ∧ (∀ x ∈ l, TS y.2.1 x) ∧ y.2.1 b2 = some (yX 3 [i64 kind]) ∧ y.2.1 b1 = some (yX 170 [ptr pb 0])) (fun y => l.length - y.1) (fun y => [(3, ptr b1 0), (5, ptr b2 0), (6, ptr b3 0), (7, gV (dd (l.take y.1)).length y.2.2), (13, .slice p l.length c), (14, i64 (l.length : Int)), (15, i64 (y.1 : Int))]) (fun y => y.2.1) (fun y => [(b3, yX 32 (zT Cq.zero none 0)), (mb, zY (fun a : List UInt8 => str a) m0 k0)] ++ gH 32 ((dd (l.take y.1)).flatMap GZ) y.2.2) (0, _, none) ⟨Nat.zero_le _, ⟨rfl, rfl⟩, hP, hr, hq, hb2i, hb1i⟩ ⟨rfl, rfl, rfl, rfl, rfl, rfl, rfl, trivial⟩ rfl rfl ?_
 rintro ⟨i, J1, g⟩ ⟨hi, hg, hP, hr, hq, hb2i, hb1i⟩
 dsimp only at hi hg hP hr hq hb2i hb1i ⊢
 obtain ⟨p9, c9, hpe, hc9, hp⟩ := id hr
 cases hpe
 refine zK (fun hc8 hc8p => ?_) (fun hc8 hc8p => ?_)
 ·have hlt : i < l.length := by omega
  obtain ⟨x, hget⟩ : ∃ x, l[i]? = some x := ⟨_, BM hlt⟩
  obtain ⟨fb, fo, fcs, fty, ffr, fsp, rfl, hfb, hfd⟩ := hp (zU hlt)
  have hqx := hq x (CX hget)
  have hdl := b2i l i
  refine zW (fo + i * 5) ?_
  refine J.z (BJ zL yV (yZ.LK hfb) (BF DV hfd hget)) ?_
  refine yU 1 ?_
  intro b9 hb9
  refine yU 4 ?_
  refine Cj.persist hb9 (fun I11 hle10 hb9i => ?_)
  have hP := hP.mono hle10
  have hr := hr.mono hle10
  have hq := fun x9 hx9 => (hq x9 hx9).mono hle10
  have hb2i := hle10 _ _ hb2i
  have hb1i := hle10 _ _ hb1i
  have hfb := hle10 _ _ hfb
  have hqx := hqx.mono hle10
  refine MJ [_, _] (Pure.borrow (Enters.of Tryz.func204 (by decide) rfl) fun K hle hK => a4L (dd (l.take i)) _ (fun z => decide (z.q = x.q)) 205 [ptr b9 0] (by omega) K (gRow (by decide) DV hg rfl hK) (fun z hz => c0n z x b9 K ((hq z (List.mem_of_mem_take (b1o _ z hz))).mono hle) (hqx.mono hle) (hle _ _ hb9i))) ?_
  intro v12 I13 H14 hle15 hp16
  have hP := hP.mono hle15
  have hr := hr.mono hle15
  have hq := fun x9 hx9 => (hq x9 hx9).mono hle15
  have hb2i := hle15 _ _ hb2i
  have hb1i := hle15 _ _ hb1i
  have hfb := hle15 _ _ hfb
  have hqx := hqx.mono hle15
  have hb9i := hle15 _ _ hb9i
  obtain ⟨h, hK9⟩ := hp16; cases h
  rw [hK9, a7r]
  refine DI (fun hc17 => ?_) (fun hc17 => ?_)
  ·have hmm : ¬ x.q ∈ (dd (l.take i)).map QI.q := by have h := hc17; simpa using h
   have hnx := (a7J hget).trans (if_neg hmm)
   refine yU 4 ?_
   intro b18 hb18
   refine J.op rfl (AQ (by' := 79) [_, _, _] rfl rfl rfl rfl rfl BP (.inr ⟨_, BP⟩) (by kernel_rfl) yV BN rfl hg rfl (Src.slice (yZ.at 0 rfl) rfl rfl (TG x)) (by omega) ?_)
   intro g19 hg19
   refine yU 8 ?_
   refine Ej.keep (Keeps.d (Keeps.k (Keeps.k Keeps.r))) ?_
   refine Ej.round (i + 1, _, g19) ⟨by dsimp only; omega, by dsimp only; rw [hnx, List.length_append, List.flatMap_append]; exact hg19, hP, hr, hq, hb2i, hb1i⟩ (by dsimp only; omega) ⟨rfl, rfl, rfl, by dsimp only; rw [hnx, List.length_append]; rfl, rfl, rfl, rfl, trivial⟩ rfl (by dsimp only; rw [hnx, List.flatMap_append]; rfl)
  have hmm : x.q ∈ (dd (l.take i)).map QI.q := by have h := hc17; simpa using h
  have hnx := (a7J hget).trans (if_pos hmm)
  refine yU 7 ?_
  refine Ej.round (i + 1, _, g) ⟨by dsimp only; omega, by dsimp only; rw [hnx]; exact hg, hP, hr, hq, hb2i, hb1i⟩ (by dsimp only; omega) ⟨rfl, rfl, rfl, by dsimp only; rw [hnx]; rfl, rfl, rfl, rfl, trivial⟩ rfl (by dsimp only; rw [hnx])
 refine yU 6 ?_
 have hfull : l.take i = l := List.take_of_length_le (by omega)
 rw [hfull] at hg ⊢
 have hdl := b2i l l.length
 rw [List.take_length] at hdl
 have hd0 := c4O hne
 obtain ⟨bg20, cg21, sp22, rfl, hbg20⟩ := hg.some hd0
 have hcap : ((dd l).flatMap GZ).length + sp22.length = cg21 * 5 := hg.2.2
 rw [DN DV] at hcap
 refine yU 3 ?_
 refine J.perm (H' := [(b3, yX 32 (zT Cq.zero none 0))] ++ ([EM bg20 ((dd l).zipIdx 0) sp22] ++ mpH mb (m0, k0))) (by simp only [EM, b1J]; exact List.Perm.cons _ (List.Perm.swap _ _ _)) ?_
 refine MJ [_] (a9t (c1r xv L htk hL pb mb b2 b1 kind) bg20 ((dd l).zipIdx 0) cg21 (dd l).length sp22 (by simp) (by omega) (c0H _ 0) _ (m0, k0) ⟨hm, hP, hb2i, hb1i⟩ (fun x hx => hq x.1 (b1o _ _ (b4o hx)))) ?_
 intro v23 I24 H25 hle26 hp27
 have hP := hP.mono hle26
 have hr := hr.mono hle26
 have hq := fun x9 hx9 => (hq x9 hx9).mono hle26
 have hb2i := hle26 _ _ hb2i
 have hb1i := hle26 _ _ hb1i
 obtain ⟨M', ⟨m1, k1⟩, h, hbk, hI1, rfl⟩ := hp27; cases h
 have hm1 := hI1.m
 refine yU 3 ?_
 refine Cj.pull (Pull.s Pull.z) ?_
 refine Cj.persist hbg20 (fun I29 hle28 hbg20i => ?_)
 have hP := hP.mono hle28
 have hr := hr.mono hle28
 have hq := fun x9 hx9 => (hq x9 hx9).mono hle28
 have hb2i := hle28 _ _ hb2i
 have hb1i := hle28 _ _ hb1i
 have hMl : M'.length = (dd l).length := by rw [hbk.len]; simp
 obtain ⟨x0, rest, rfl⟩ : ∃ x0 rest, M' = x0 :: rest := by
   cases M' with
   | nil => rw [List.length_nil] at hMl; omega
   | cons a r => exact ⟨a, r, rfl⟩
 rw [List.length_cons] at hMl
 have hst := b6T (Ix.b0W (BX L) kind) (l := l.map QI.q) (r := ((x0 :: rest).map (·.1)).map QI.q) (by rw [← b6A]; exact hbk.c6m.key QI.q)
 have hjq : Ix.a0n (BX L) kind (l.map QI.q) = (rest.map fun x => x.1.q).foldl (Ix.EC kind) x0.1.q := by unfold Ix.a0n; rw [hst, List.map_map]; rfl
 have hgd : ∀ x ∈ x0 :: rest, x.1 ∈ l := fun x hx => b1o _ _ (b4o (hbk.perm.mem_iff.1 hx))
 refine zW 0 ?_
 refine yU 2 ?_
 intro b30 hb30
 refine J.op rfl (BZ 0 yV (AL.c (AL.c (AL.c (AL.c (AL.c AL.z))))) AU.z ?_)
 refine J.a0S (Cj.region (J.z qq2 ?_))
 refine J.z (a0y (j := 1) rfl rfl rfl BP yV (by omega) (by omega)) ?_
 obtain ⟨o1, ho1⟩ : ∃ o1, o1 = if cg21 = 1 then 0 else 0 + 1 * 5 := ⟨_, rfl⟩
 have hrl : (dd l).length - 1 = rest.length := by omega
 refine J.ev 35 (.slice (some ⟨bg20, o1, none⟩) rest.length (cg21 - 1)) rfl (by rw [ho1, ← hrl]) ?_
 refine yU 5 ?_
 refine Cj.loop (ι := JoS) (fun y => y.k ≤ rest.length ∧ PS y.J (((rest.take y.k).map fun x => x.1.q).foldl (Ix.EC kind) x0.1.q).ps y.p ∧ (∀ x ∈ l, TS y.J x) ∧ y.J b2 = some (yX 3 [i64 kind]) ∧ y.J bg20 = some (yX 32 ((x0 :: rest).flatMap tqC ++ sp22))) (fun y => rest.length - y.k) (fun y => [(5, ptr b2 0), (6, ptr b3 0), (10, ptr b30 0), (35, .slice (some ⟨bg20, o1, none⟩) rest.length (cg21 - 1)), (36, i64 (rest.length : Int)), (37, i64 (y.k : Int))]) (fun y => y.J) (fun y => [(b30, yX 32 (zT (((rest.take y.k).map fun x => x.1.q).foldl (Ix.EC kind) x0.1.q) y.p y.c)), (b3, yX 32 (zT Cq.zero none 0)), (mb, zY (fun a : List UInt8 => str a) m1 k1)]) ⟨0, _, x0.1.p, x0.1.c⟩ ⟨Nat.zero_le _, (hq _ (hgd _ (.head _))).ps, hq, hb2i, hbg20i⟩ ⟨rfl, rfl, rfl, rfl, rfl, rfl, trivial⟩ rfl rfl ?_
 rintro ⟨k, J2, pk, ck⟩ ⟨hk, hpk, hq, hb2i, hbg20i⟩
 dsimp only at hk hpk hq hb2i hbg20i ⊢
 refine zK (fun hc31 hc31p => ?_) (fun hc31 hc31p => ?_)
 ·have hlt : k < rest.length := by omega
  obtain ⟨x, hgx⟩ : ∃ x, rest[k]? = some x := ⟨_, BM hlt⟩
  have hxo := hq _ (hgd x (.tail _ (CX hgx)))
  have ho5 : o1 = 5 := by rw [ho1, if_neg (by omega)]
  have hrow := EO BU (sp := sp22) (l := x0 :: rest) (k := k + 1) (x := x) hgx
  rw [show (k + 1) * 5 = o1 + k * 5 by omega] at hrow
  refine zW (o1 + k * 5) ?_
  refine J.z (BJ zL yV (yZ.LK hbg20i) hrow) ?_
  refine yU 1 ?_
  intro b32 hb32
  refine yU 8 ?_
  intro b33 hb33
  refine J.persist hb33 (fun I35 hle34 hb33i => ?_)
  have hpk := hpk.mono hle34
  have hq := fun x9 hx9 => (hq x9 hx9).mono hle34
  have hb2i := hle34 _ _ hb2i
  have hbg20i := hle34 _ _ hbg20i
  have hxo := hxo.mono hle34
  refine J.z (zN (pl := #[(0, 1), (1, 1), (2, 1), (3, 1), (4, 1)]) rfl rfl BN rfl tU32 (fun w => by simp [DX, DZ, AV]) (FB.part rfl rfl rfl (AL.c AL.z) (FB.part rfl rfl rfl (AL.s (AL.s (AL.s (AL.s (AL.c AL.z))))) FB.none))) ?_
  refine J.op rfl (BZ 1 yV (AL.c (AL.c (AL.c (AL.c (AL.c AL.z))))) (AU.s AU.z) ?_)
  refine J.nb (Cj.region (J.z (NQ rfl rfl rfl (IU (by omega))) ?_))
  refine J.z qq2 ?_
  refine J.nil ?_
  refine Ej.keep (Keeps.d (Keeps.k (Keeps.k (Keeps.k Keeps.n)))) ?_
  refine Ej.round ⟨k + 1, _, some ⟨b33, 0, none⟩, 2⟩ ⟨by dsimp only; omega, by dsimp only; rw [a8D kind _ hgx]; exact PS.two hpk hxo.ps hb33i, hq, hb2i, hbg20i⟩ (by dsimp only; omega) ⟨rfl, rfl, rfl, rfl, rfl, rfl, trivial⟩ rfl (by dsimp only; rw [a8D kind _ hgx]; rfl)
 refine Cj.xl (Cj.sr (J.z (FU zL yV (yZ.at 0 rfl)) ?_))
 refine J.op rfl (BZ 1 yV (AL.c (AL.c (AL.c (AL.c (AL.c AL.z))))) (AU.s AU.z) ?_)
 refine J.ns (Cj.ret ?_)
 have hfl : rest.take k = rest := List.take_of_length_le (by omega)
 rw [hfl, ← hjq] at hpk
 refine Ej.a1J (Keeps.d (Keeps.d (Keeps.k Keeps.n))) rfl rfl rfl (yZ.at 1 rfl) zL yV rfl ?_
 rw [hfl, ← hjq]
 exact ⟨pk, ck, (m1, k1), rfl, hpk, hm1, rfl⟩
