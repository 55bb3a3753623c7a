/-
  Own texts on the laws of the seat, joined: the logic, and contracts of functions. Conditions: none.
-/
import Derived.Test.YtekmeaoblpfnpaaGreatDoorNmQ
import Derived.Test.YtekmeaoblpfnpaaGreatDoorPQ7
set_option linter.all false
set_option maxRecDepth 100000
set_option maxHeartbeats 40000000
open Go.Proofs.Tryz renaming prog -> aA
open Ix renaming Rec -> aB,within -> aQ,phrase -> aT,AO -> aZ,KJ -> bF,keyOf -> bT,a6S -> bV,EL -> cO,cnt -> cZ,a1c -> dD,LX -> dF,UW -> dM,CJ -> dP,Ix -> dW,Pl -> fE,vals -> fZ,a0c -> gI,word -> gJ,a9U -> gK,scan -> gQ
open List renaming length_append -> aC,append_assoc -> aG,take_of_length_le -> aH,length_map -> aJ,getElem?_eq_some_iff -> aK,mem_map -> aO,flatMap_cons -> aP,take_succ_eq_append_getElem -> aU,length_take -> aV,mem_map_of_mem -> aW,length_eq_zero_iff -> aX,nodup_iff_pairwise_ne -> bC,flatMap_append -> bG,filter_append -> bI,map_map -> bJ,pairwise_iff_forall_sublist -> bU,append_nil -> bW,drop_drop -> bZ,set_cons_zero -> dA,set_cons_succ -> dB,pairwise_map -> dI,length_cons -> dN,length_drop -> dR,sublist_append_left -> dS,prefix_iff_eq_take -> dU,map_append -> dX,mem_filter -> dZ,mem_append_right -> eG,pairwise_and_iff -> eH,take_append_drop -> eU,length_filter_le -> eX,mem_append_left -> eY,filter_eq_self -> fA,find?_eq_none -> fB,getElem?_drop -> fC,any_eq_true -> fK,find?_some -> fO,length_set -> fP,find?_cons -> fQ
open Go.Builtin renaming zeroCells -> aF
open Ke renaming words -> aI,FY -> fU
open Go.Sx.yZ renaming toPure -> aN,b3s -> gX
open Nat renaming zero_le -> aS,le_refl -> bD,add_sub_cancel_left -> dV,min_eq_left -> dY,add_mul -> fJ
open Go.Sx.Cj renaming AL -> aY,loop -> dK,persist -> fV,rounds -> gU
open Classical renaming byContradiction -> bH
open List.Pairwise renaming nil -> bK
open Prod renaming fst -> bM
open Go.Sx.Ej renaming round -> bP,keep -> dL
open Go.Sx.yY renaming IY -> bQ,BQ -> bY
open Go.Sx.zL renaming part -> dG,none -> fD
open Bool renaming eq_false_iff -> dH,true_and -> gY
open Go.Sx.JA renaming zt -> dJ,tk -> fG,fix -> gZ
open Go.Sx.J renaming z -> dQ,op -> eF
open Go.Sx.Keeps renaming d -> eP,k -> gB,n -> iD
open Go.Sx.Le renaming refl -> fF,trans -> fM
open Go.Instr renaming sliceBounds -> fH,sliceAt -> gW,slice -> iC
open Go.Value renaming oneCell' -> gG
section
namespace Go.Proofs.YtekmeaoblpfnpaaGreatDoor
open _root_.Go.Proofs.Tryz
open Go Go.Sx
def ixH (ib:Nat):Option Ist→HL
 |none=>[(ib,zJ 114 [.map none,.map none,.map none])]
 |some s=>a1R ib s
def MK (I:Heap):Option Ist→dW→Prop
 |none,L=>L=[]
 |some s,L=>EU I s L
theorem MK.mono{I N o L}(h:MK I o L)(O:Le I N):MK N o L:=by
 cases o with
 |none=>exact h
 |some s=>exact EU.mono h O
theorem MK.GH{I o L}(h:MK I o L):aZ L:=by
 cases o with
 |none=>rw[show L=[] from h];exact bK
 |some s=>exact EU.GH h
theorem MK.big{I o L}(h:MK I o L):L.length≤100000:=by
 cases o with
 |none=>rw[show L=[] from h];exact aS _
 |some s=>exact EU.big h
theorem b4Q O o L N I (Z:MK I o L)(a1:L.length<100000)(a0:UR N.fs)(W:PN I N.fs N.v):yZ aA 50 [ptr O 0,.agg (FI N).toArray] I (ixH O o)
 (fun e I' H'=>∃o',e= .returned (.tuple #[])∧MK I' o' (Ix.JR N.t (fZ N.fs) L)∧H'=ixH O o'):=by
 cases o with
 |none=>
  have hL:L=[]:=Z;subst hL;exact(b6m O N I a0 W).mono fun e I' H' _ ⟨s',h1,h2,h3⟩=>⟨some s',h1,h2,h3⟩
 |some s=>exact(b5k O s L N I Z a1 a0 W).mono fun e I' H' _ ⟨s',h1,h2,h3⟩=>⟨some s',h1,h2,h3⟩
theorem b8u N o L t I (O:MK I o L):yZ aA 43 [ptr N 0,zW t] I (ixH N o)
 (fun e W H'=>∃o',e= .returned (.tuple #[])∧MK W o' (Ix.KF t L)∧H'=ixH N o'):=by
 cases o with
 |none=>
  have Z:L=[]:=O;subst Z;exact(a5N N t I).mono fun e W H' _ ⟨h1,h3⟩=>⟨none,h1,rfl,h3⟩
 |some s=>exact(a6k N s L t I O).mono fun e W H' _ ⟨s',h1,h2,h3⟩=>⟨some s',h1,h2,h3⟩
def OV (I:Heap) (ib:Nat) (L:dW):Prop:=∃o,MK I o L∧∀p∈ixH ib o,I p.1=some p.2
theorem OV.mono{I O W L}(h:OV I W L)(N:Le I O):OV O W L:=let ⟨o,h1,h2⟩:=h;⟨o,h1.mono N,fun p Z=>N _ _ (h2 p Z)⟩
theorem OV.GH{I N L}(h:OV I N L):aZ L:=let ⟨_,h1,_⟩:=h;h1.GH
theorem OV.big{I N L}(h:OV I N L):L.length≤100000:=let ⟨_,h1,_⟩:=h;h1.big
def a4S (I:Heap) (mv:Option Nat) (f:fE→aB→Nat):Prop:=(mv=none∧∀p t,f p t=0)∨∃b l c N,mv=some b∧BL l c N f∧∀q∈setH b l c N,I q.1=some q.2
theorem a4S.mono{I O mv f}(h:a4S I mv f)(W:Le I O):a4S O mv f:=by
 rcases h with h|⟨b,l,c,N,h1,h2,h3⟩
 ·exact .inl h
 exact .inr ⟨b,l,c,N,h1,h2,fun q Z=>W _ _ (h3 q Z)⟩
def a7S (I:Heap) (mv:Option Nat) (L:dW):Prop:=(mv=none∧L=[])∨∃b l c,mv=some b∧MS l c∧QX I l L∧I b=some (zV zW l c)
theorem a7S.mono{I O mv L}(h:a7S I mv L)(N:Le I O):a7S O mv L:=by
 rcases h with h|⟨b,l,c,h1,h2,h3,W⟩
 ·exact .inl h
 exact .inr ⟨b,l,c,h1,h2,h3.mono N,N _ _ W⟩
theorem OV.parts{I O L}(h:OV I O L):∃Z wm km,I O=some (zJ 114 [.map Z,.map wm,.map km])∧a7S I Z L∧a4S I wm (cZ Ix.plW L)∧a4S I km (cZ dM L):=by
 obtain⟨o,h1,h2⟩:=h;cases o with
 |none=>
  have hL:L=[]:=h1;subst hL;exact⟨none,none,none,h2 _ (.head _),.inl rT,.inl ⟨rfl,fun _ _=>rfl⟩,.inl ⟨rfl,fun _ _=>rfl⟩⟩
 |some s=>
  have N:EU I s L:=h1;refine⟨some s.vb,some s.wb,some s.kb,h2 (O,_) (.tail _ (.head _)),.inr ⟨s.vb,s.lv,s.cv,rfl,N.vms,N.vals,h2 (s.vb,_) (.head _)⟩,.inr ⟨s.wb,s.lw,s.cw,s.Nw,rfl,N.nw,fun q W=>h2 q ?_⟩,.inr ⟨s.kb,s.lk,s.ck,s.Nk,rfl,N.nk,fun q W=>h2 q ?_⟩⟩
  ·exact .tail _ (.tail _ (eY _ W))
  exact .tail _ (.tail _ (eG _ W))
theorem a0S{α:Type}[BEq α][LawfulBEq α]{l m:List α}(N:l.Nodup)(h:∀x∈l,x∈m):l.length≤m.length:=by
 induction l generalizing m with
 |nil=>simp
 |cons a r ih=>
  rw[List.nodup_cons]at N;have O:=h a (.head _);have:=ih (m:=m.erase a) N.2 fun x W=>by
   have Z:x≠a:=fun e=>N.1 (e▸W);exact(List.mem_erase_of_ne Z).2 (h x (.tail _ W))
  rw[List.length_erase_of_mem O]at this;have h0:0<m.length:=List.length_pos_of_mem O;rw[dN];omega
theorem b8K{L:dW}{m k}{f:aB→Nat}(N:MS m k)(O:∀t,zY m t=cv (f t))(hs:aZ L)(W:∀t,f t≠0→∃e∈L,e.1=t):m.length≤L.length:=by
 have h1:(m.map (·.1)).length≤(L.map (·.1)).length:=by
  refine a0S N.1 fun t Z=>?_;have h2:zY m t≠none:=fun h=>GK.1 h Z;rw[O]at h2;have h3:f t≠0:=fun h=>h2 (by rw[h];rfl);obtain⟨e,he,rfl⟩:=W t h3;exact aW he
 rw[aJ,aJ]at h1;exact h1
structure TA where
  vis:ML Ix.Rec
  rest:ML Ix.Rec
  g:Gs
theorem b2b{m k}{f:aB→Nat}(hm:MS m k)(W:∀t,zY m t=cv (f t)){vis:ML aB}(Z:vis.Perm m){N:List aB}(O:N.Perm (vis.map bM))(ho:N.Pairwise fun p q=>dP q p=false):(N.Pairwise fun a b=>dP a b=true)∧∀t,t∈N↔f t≠0:=by
 have a0:N.Nodup:=O.nodup_iff.2 ((Z.map _).nodup_iff.2 hm.1);refine⟨?_,fun t=>?_⟩
 ·refine(eH.2 ⟨ho,bC.1 a0⟩).imp fun {a b} ⟨h1,h2⟩=>?_;rcases Ix.XZ a b with h|h|h
  ·exact h
  ·exact absurd h h2
  rw[h]at h1;cases h1
 rw[O.mem_iff,(Z.map _).mem_iff];constructor
 ·intro h;have h2:zY m t≠none:=fun g=>GK.1 g h;rw[W]at h2;exact fun g=>h2 (by rw[g];rfl)
 intro h;refine bH fun g=>?_;have:=GK.2 g;rw[W,b3O h]at this;cases this
theorem b8I(vis:ML aB) g:gV (vis.map bM).length g=gV vis.length g:=by rw[aJ]
theorem a3G{base sz n xs g}(h:BO base sz n xs g):BO 0 sz n xs g:=by
 cases g with
 |none=>exact h
 |some q=>exact⟨aS _,h.2⟩
theorem b9O{base}{l N:List aB}{g}(h:BO base 2 l.length (l.flatMap recC) g)(O:N.length=l.length):BO base 2 N.length (N.flatMap recC) g:=by
 rw[O];exact a5f h (by rw[CQ DY,CQ DY,O])
theorem b2G b l c p mb m k (f:aB→Nat)(hm:zY l p=some (.map (some mb)))(N:MS m k)(a7:∀t,zY m t=cv (f t))(ad:m.length≤100000) I (hb:I b=some (zV EF l c))(O:I mb=some (zV zW m k)):yZ aA 79 [.map (some b),EF p] I []
 (fun e _ H'=>∃(ts:List aB) (g:Gs),(ts.Pairwise fun a b=>dP a b=true)∧(∀t,t∈ts↔f t≠0)∧BO 0 2 ts.length (ts.flatMap recC) g∧e= .returned (gV ts.length g)∧H'=gH 54 (ts.flatMap recC) g):=by
 refine zT func79 fun w0 _=>?_;refine yU 3 ?_;intro _ _;refine yU 13 ?_;refine dQ (AY (kv:=EF) (l:=l) (a:=p) rfl rfl rfl rfl IG LU KN (bY hb)) ?_;refine J.ev 9 (.map (some mb)) rfl (by rw[hm];rfl) ?_;refine eF rfl (MI (kv:=zW) (l:=m) rfl rfl rfl rfl FD (bY O) ?_);intro b2 _;refine yU 3 ?_;refine Cj.keep (gB (eP iD)) ?_;refine dK (ι:=TA) (fun y=>(y.vis++y.rest).Perm m∧BO w0.heap.size 2 y.vis.length ((y.vis.map bM).flatMap recC) y.g) (fun y=>y.rest.length) (fun y=>[(5,gV y.vis.length y.g),(10,ptr b2 0)]) (fun y=>_) (fun y=>(b2,UE mb k y.vis k)::gH 54 ((y.vis.map bM).flatMap recC) y.g) ⟨[],m,none⟩ ⟨.refl _,rfl,rfl⟩ rT rfl rfl ?_;rintro⟨vis,rest,g⟩ ⟨W,hg⟩;dsimp only at W hg ⊢;have a3:=W.length_eq;rw[aC]at a3;refine yU 2 ?_;refine eF rfl (OC (kv:=zW) (l:=m) 0 rfl rfl rfl rfl rfl (bY O) N.2.2 (bD _) N.2.1 W ?_ ?_)
 ·rintro x a0 H9 a8 a1 ⟨-,hset⟩;simp only[dA,dB]at hset;subst hset;refine yU 10 ?_;refine dQ (SH (kv:=zW) (l:=m) rfl rfl (yY.at 0 rfl) (bY O) (a1.mem_iff.1 (eY _ (eG _ (.head _)))) N.2.1) ?_;refine yU 2 ?_;intro _ _;refine yU 7 ?_;intro b5 _;refine xap 15 [_,_,_] hg ?_;intro g6 a9;refine yU 3 ?_;refine dL (eP (eP (gB Keeps.r))) ?_;refine bP ⟨vis++[x],a0,g6⟩ ⟨a1,by dsimp only;rw[aC,dX,bG];exact a9⟩ (by have h:=a8.length_eq;simp only[dN]at h;dsimp only;omega) ⟨by dsimp only;rw[aC];rfl,rfl,trivial⟩ rfl (by dsimp only;rw[dX,bG];rfl)
 intro a4;refine yU 11 ?_;have aa:vis.Perm m:=by rw[a4,bW]at W;exact W
 have a2:BO w0.heap.size 2 (vis.map bM).length ((vis.map bM).flatMap recC) g:=by rw[aJ];exact hg
 refine yU 2 ?_;refine J.ev 19 (gV (vis.map bM).length g) rfl ((b8I vis g).symm) ?_;refine LC [_] (a0h (vis.map bM) g a2 (by rw[aJ];omega) _) ?_;rintro _ _ H9 _ ⟨ts,Z,ab,h,rfl⟩;cases h;obtain⟨a5,a6⟩:=b2b N a7 aa Z ab;have ac:vis.length=ts.length:=by rw[Z.length_eq,aJ]
 refine yU 9 ?_;refine dL (H':=gH 54 (ts.flatMap recC) g) (List.sublist_append_right [_] _) ?_;refine zZ ?_;rw[ac];exact⟨ts,g,a5,a6,a3G (b9O a2 Z.length_eq),rfl,rfl⟩
theorem b2i p (f:aB→Nat)(W:∀t,f t=0) I:yZ aA 79 [.map none,EF p] I []
 (fun e _ H'=>∃(ts:List aB) (g:Gs),(ts.Pairwise fun a b=>dP a b=true)∧(∀t,t∈ts↔f t≠0)∧BO 0 2 ts.length (ts.flatMap recC) g∧e= .returned (gV ts.length g)∧H'=gH 54 (ts.flatMap recC) g):=by
 refine zT func79 fun w0 _=>?_;refine yU 3 ?_;intro _ _;refine yU 13 ?_;refine dQ (IZ (kv:=EF) (a:=p) rfl rfl rfl rfl IG LU KN) ?_;refine eF rfl (KI rfl rfl rfl rfl FD ?_);intro _ _;refine yU 3 ?_;refine gU 1 ?_;refine Rj.succ ?_;refine yU 2 ?_;refine eF rfl (LG 0 rfl rfl rfl rfl rfl ?_);refine LC [_,_] (a0h (base:=0) [] none rT dE _) ?_;rintro _ _ _ _ ⟨ts,N,_,h,rfl⟩;cases h;have O:=N.eq_nil;subst O;refine BP ?_;exact⟨[],none,bK,fun t=>⟨fun h=>(by cases h),fun h=>absurd (W t) h⟩,⟨rfl,rfl⟩,rfl,rfl⟩
theorem a9I b l c p (f:aB→Nat)(W:zY l p=none)(Z:∀t,f t=0) I (hb:I b=some (zV EF l c)):yZ aA 79 [.map (some b),EF p] I []
 (fun e _ H'=>∃(ts:List aB) (g:Gs),(ts.Pairwise fun a b=>dP a b=true)∧(∀t,t∈ts↔f t≠0)∧BO 0 2 ts.length (ts.flatMap recC) g∧e= .returned (gV ts.length g)∧H'=gH 54 (ts.flatMap recC) g):=by
 refine zT func79 fun w0 _=>?_;refine yU 3 ?_;intro _ _;refine yU 13 ?_;refine dQ (AY (kv:=EF) (l:=l) (a:=p) rfl rfl rfl rfl IG LU KN (bY hb)) ?_;refine J.ev 9 (.map none) rfl (by rw[W];rfl) ?_;refine eF rfl (KI rfl rfl rfl rfl FD ?_);intro _ _;refine yU 3 ?_;refine gU 1 ?_;refine Rj.succ ?_;refine yU 2 ?_;refine eF rfl (LG 0 rfl rfl rfl rfl rfl ?_);refine LC [_,_] (a0h (base:=0) [] none rT dE _) ?_;rintro _ _ _ _ ⟨ts,N,_,h,rfl⟩;cases h;have O:=N.eq_nil;subst O;refine BP ?_;exact⟨[],none,bK,fun t=>⟨fun h=>(by cases h),fun h=>absurd (Z t) h⟩,⟨rfl,rfl⟩,rfl,rfl⟩
theorem a2b mv O (L:dW) p I (h:a4S I mv O)(hs:aZ L)(hL:L.length≤100000)(hf:∀t,O p t≠0→∃e∈L,e.1=t):yZ aA 79 [.map mv,EF p] I []
 (fun e _ H'=>∃(ts:List aB) (g:Gs),(ts.Pairwise fun a b=>dP a b=true)∧(∀t,t∈ts↔O p t≠0)∧BO 0 2 ts.length (ts.flatMap recC) g∧e= .returned (gV ts.length g)∧H'=gH 54 (ts.flatMap recC) g):=by
 rcases h with⟨rfl,hz⟩|⟨b,l,c,N,rfl,hN,hI⟩
 ·exact b2i p (O p) (hz p) I
 rcases hN.find p with⟨a1,W,hz⟩|⟨A,ib,m,k,B,rfl,W,Z,a2,a0,hA,hB⟩
 ·exact a9I b l c p (O p) W hz I (hI (b,_) (.head _))
 exact b2G b l c p ib m k (O p) W Z a0 (JK (b8K Z a0 hs hf) hL) I (hI (b,_) (.head _)) (hI (ib,zV zW m k) (.tail _ (aO.2 ⟨(p,ib,m,k),sI,rfl⟩)))
theorem a8w{pl L}(h:aZ L) p t (N:cZ pl L p t≠0):∃e∈L,e.1=t:=by
 unfold cZ at N;cases hg:bF L t with
 |none=>rw[hg]at N;exact absurd rfl N
 |some vs=>exact⟨_,(Ix.FT h).1 hg,rfl⟩
end Go.Proofs.YtekmeaoblpfnpaaGreatDoor
end
namespace Go.Sx
open Go
section
variable {cx:Cx} {Q:Qt} {o:Oper} {e:Env} {I:Heap} {H:HL} {C:Ct} {S:World→Prop}
theorem b6d{x T E b off n c sz t cs z} i (ho:o.op= .call ⟨.builtin .clear,#[x],#[T]⟩)(hd:o.dst=none)(hx:ev e x=some (.slice (some ⟨b,off,none⟩) n c))(hn:0<n)(hu:cx.P.underlying T=some (.slice E))(hz:∀w,(zeroValue E).run cx.P w= .ok z w)
 (a0:z.cells.size=sz)(a5:0<sz)(a1:z.cells.toList.all gG=true)(O:H[i]?=some (b,zJ t cs))(a4:off+n*sz≤cs.length)(k:∀vs H',vs.length=n*sz→yX H i (b,zJ t (cs.take off++vs++cs.drop (off+n*sz))) H'→C e I H'):BU cx Q o e I H C:=by
 intro K hK a w ha hs;unfold Oper.wp;have hb:=hs.own _ (List.mem_of_getElem? O);have N:(aF z.cells n).toList.length=n*sz:=by simp[aF,a0]
 have W:∀v∈(aF z.cells n).toList,v.oneCell'=true:=fun v hv=>by
  simp only[aF,Array.toList_map,aO]at hv;obtain⟨j,_,rfl⟩:=hv;have a2:j % z.cells.size<z.cells.size:=Nat.mod_lt _ oM;rw[getElem!_pos z.cells _ a2];exact List.all_eq_true.1 a1 _ sI
 have Z:yV cs (off+0) (aF z.cells n).toList (cs.take off++(aF z.cells n).toList++cs.drop (off+n*sz)):=⟨by rw[N];omega,by rw[N,Nat.add_zero]⟩;have a3:=JJ (P:=cx.P) (t:=t) (aF z.cells n).toList 0 w cs hb (.inl rfl) (by rw[N];omega) W _ Z;obtain⟨n,rfl⟩:∃m,n=m+1:=⟨n-1,oM⟩;have:(execOp a.eval o).run cx.P w= .ok (.value (.tuple #[])) (World.block w b (zJ t (cs.take off++(aF z.cells (n+1)).toList++cs.drop (off+(n+1)*sz)))):=by
  simp only[execOp,ho,resolve,invoke,builtin,Builtin.clear_,Sem.run_bind,Sem.run_pure,Result.andThen_ok];simp[ha.eval hx,run_underlying hu,hz,a3,zJ,aG]
 rw[this];simp only[Oper.upon,hd];have hset:yX H i (b,zJ t (cs.take off++(aF z.cells (n+1)).toList++cs.drop (off+(n+1)*sz))) (H.set i (b,zJ t (cs.take off++(aF z.cells (n+1)).toList++cs.drop (off+(n+1)*sz)))):=⟨(aK.1 O).1,rfl⟩;exact hK _ _ _ (k _ _ N hset) _ _ ha.SE (hs.block O hset)
theorem b2J{x y z}{T E n c sz k m:Nat}{a kl kh}(W:o.op= .slice T x none (some y) (some z))(Z:ev e x=some (.slice a n c))(hy:ev e y=some (.int kl (k:Int)))(hz:ev e z=some (.int kh (m:Int)))(hu:cx.P.underlying T=some (.slice E))(O:∀w,(sizeOf E).run cx.P w= .ok sz w)(a0:k≤m)(a1:m≤c):
 BJ cx o e S (.slice a k m):=by
 intro w0 w N _;have h1:(k:Int)≤m:=oM;have h2:(m:Int)≤c:=oM;cases a with
 |none=>simp[execOp,W,N.eval Z,N.eval hy,N.eval hz,gW,iC,run_underlying hu,fH,run_sliceBound,h1,h2,O]
 |some q=>simp[execOp,W,N.eval Z,N.eval hy,N.eval hz,gW,iC,run_underlying hu,fH,run_sliceBound,h1,h2,O,Addr.add]
end
def QZ {α:Type} (T:TypeId) (f:α→List Value) (l:List α) (v:Value) (H:HL):Prop:=(l=[]∧v= .slice none 0 0∧H=[])∨∃b c sp,v= .slice (some ⟨b,0,none⟩) l.length c∧l.length≤c∧H=[(b,zJ T (l.flatMap f++sp))]
theorem QZ.c0g{α:Type}{T}{f:α→List Value}{sz base n:Nat}{l:List α}{g}(W:∀x,(f x).length=sz)(N:0<sz)(Z:n=l.length)(O:BO base sz n (l.flatMap f) g):QZ T f l (gV n g) (gH T (l.flatMap f) g):=by
 subst Z;cases g with
 |none=>
  obtain⟨h1,h2⟩:=O;exact .inl ⟨aX.1 h1,by rw[h1];rfl,rfl⟩
 |some q=>
  obtain⟨b,c,sp⟩:=q;obtain⟨h1,h2,h3⟩:=O;have hc:l.length≤c:=by
   rw[CQ W]at h3;exact Nat.le_of_mul_le_mul_right (oM:l.length*sz≤c*sz) N
  exact .inr ⟨b,c,sp,rfl,hc,rfl⟩
section
variable {cx:Cx} {Q:Qt} {e:Env} {I:Heap} {R H1:HL} {T:TypeId} {α:Type} {l:List α} {f:α→List Value} {v:Value}
theorem a5U{X:Heap→HL→Prop}{base}(h:QZ T f l v H1)(W:∀p∈H1,base≤p.1)(Z:∀b o,base≤b→(∀N,Le I N→N b=some o→X N R)→X I ((b,o)::R))(k:∀N,Le I N→NI T f N l v→X N R):X I (H1++R):=by
 rcases h with⟨rfl,rfl,rfl⟩|⟨b,c,sp,rfl,hc,rfl⟩
 ·exact k I (fF _) NI.nil
 exact Z b _ (W _ (.head _)) fun N O hI=>k N O ⟨_,c,rfl,hc,fun _=>⟨b,sp,rfl,hI⟩⟩
theorem J.LV{N r}(h:QZ T f l v H1)(O:∀p∈H1,cx.w0.heap.size≤p.1)(k:∀W,Le I W→NI T f W l v→J cx Q N r e W R):J cx Q N r e I (H1++R):=a5U (X:=fun I H=>J cx Q N r e I H) h O (fun _ _ O k=>J.persist O k) k
end
section
variable {cx:Cx} {Q:Qt} {e:Env} {I:Heap} {H:HL} {o:Oper} {C:Ct}
end
theorem EW{α:Type}{f:α→List Value}{n:Nat}(N:∀x,(f x).length=n){sp:List Value}{x}:∀{l:List α} {i:Nat},i<l.length→yV (l.flatMap f++sp) (i*n) (f x) ((l.set i x).flatMap f++sp)
 |[],_,h=>by simp at h
 |a::r,0,_=>by
  refine⟨by rw[Nat.zero_mul,N,aP,aC,aC,N];omega,?_⟩;rw[Nat.zero_mul,List.take_zero,List.nil_append,Nat.zero_add,dA,aP,aP,aG,aG,N,←N a,List.drop_left]
 |a::r,i+1,h=>by
  obtain⟨h1,h2⟩:=EW N (sp:=sp) (x:=x) (l:=r) (i:=i) (by simpa using h);have O:=N a;refine⟨by rw[aP,aG,aC,O,fJ];omega,?_⟩;rw[dB,aP,aG,h2,aP,aG (f a),show(i+1)*n=(f a).length+i*n by rw[O,fJ];omega,List.take_length_add_append,Nat.add_assoc,List.drop_length_add_append];simp only[aG]
end Go.Sx
section
namespace Go.Proofs.YtekmeaoblpfnpaaGreatDoor
open _root_.Go.Proofs.Tryz
open Go Go.Sx
theorem a7b{w l}(h:l.length<w.length):aQ w l=false:=by
 rw[dH,Ne,Ix.within_iff];exact fun g=>by have:=g.length_le;omega
theorem b2l{w l}(h:l.take w.length=w):aQ w l=true:=by
 rw[Ix.within_iff];exact(dU.2 h.symm).isInfix
theorem a9O{w l:Ke.Row}{k}(Z:k+w.length≤l.length)(h:¬(l.drop k).take w.length=w):aQ w (l.drop k)=aQ w (l.drop (k+1)):=by
 rcases Nat.lt_or_ge k l.length with N|W
 ·rw[←List.getElem_cons_drop N]at h ⊢
  conv=>lhs;unfold aQ
  have:w.isPrefixOf (l[k]::l.drop (k+1))=false:=by
   rw[dH,Ne,List.isPrefixOf_iff_prefix,dU];exact fun e=>h e.symm
  rw[this,Bool.false_or]
 have O:w=[]:=aX.1 oM;subst O;exact absurd rfl h
theorem b7W{a b:List (List UInt8)}{k x y}(h:a.take k=b.take k)(N:a[k]?=some x)(O:b[k]?=some y)(W:x=y):a.take (k+1)=b.take (k+1):=by
 obtain⟨h1,Z⟩:=aK.1 N;obtain⟨h2,e2⟩:=aK.1 O;rw[aU h1,aU h2,h,Z,e2,W]
theorem b5U{I l a n c}(h:KU I l (.slice a n c)){j k}(N:j≤k)(O:k≤l.length):KU I ((l.drop j).take (k-j)) (.slice (a0v a c j 1) (k-j) (c-j)):=
 a3t.2 (zU.cut (f:=fun s=>[str s]) (sz:=1) (fun _=>rfl) (a3t.1 h) N O)
theorem b3R a b va vb I (ha:KU I a va)(hb:KU I b vb)(ac:a.length≤100000000000000):Pure aA 136 [va,vb] I (.bool (decide (a=b))):=by
 refine aN ?_;obtain⟨p1,c1,rfl,_,a5⟩:=ha;obtain⟨p2,c2,rfl,_,a6⟩:=hb;refine zT func136 fun w0 _=>?_;refine AP ?_ ?_<;>intro a2 N
 ·refine zZ ?_;rw[zI (fun e=>N (by rw[e]))];exact rT
 have ab:a.length=b.length:=by have h:=N;omega
 refine yU 11 ?_;refine dK (ι:=Nat) (fun j=>j≤a.length∧a.take j=b.take j) (fun j=>a.length-j) (fun j=>[(0,.slice p1 a.length c1),(1,.slice p2 b.length c2),(12,i64 (a.length:Int)),(13,i64 (j:Int))]) (fun j=>I) (fun j=>[]) 0 ⟨aS _,rfl⟩ rT rfl rfl ?_;rintro j ⟨_,W⟩;refine AP ?_ ?_<;>intro a3 a0
 ·have a1:j<a.length:=oM;obtain⟨x,hx⟩:∃x,a[j]?=some x:=⟨_,CX a1⟩;obtain⟨y,hy⟩:∃y,b[j]?=some y:=⟨_,CX oM⟩;obtain⟨_,oa,_,_,_,_,rfl,a7,a8⟩:=a5 (BG a1);obtain⟨_,ob,CY,_,_,_,rfl,a9,aa⟩:=a6 (BG (oM:j<b.length));refine yU 11 ?_;refine aY [] [] 9 kR ?_;refine BD (oa+j) ?_;refine dJ 3 rfl (zN rfl rfl EK (bQ a7) (a0u a8 hx)) ?_;refine BD (ob+j) ?_;refine dJ 7 rfl (zN rfl rfl EK (bQ a9) (a0u aa hy)) ?_;refine AP ?_ ?_<;>intro a4 O
  ·have Z:x≠y:=O;refine zZ ?_;rw[zI (fun e=>Z (by rw[e,hy]at hx;exact(Option.some.inj hx).symm))];exact rT
  have Z:x=y:=O;refine yU 7 ?_;refine bP (j+1) ⟨oM,b7W W hx hy Z⟩ oM rT rfl rfl
 refine zZ ?_;rw[aH (oM:a.length≤j),aH (oM:b.length≤j)]at W;rw[zH W];exact rT
theorem a9G a b va vb I (ha:KU I a va)(hb:KU I b vb)(a3:a.length≤100000000000000)(a4:b.length≤100000000000000):Pure aA 84 [va,vb] I (.bool (aQ b a)):=by
 refine aN ?_;obtain⟨p1,c1,rfl,_,-⟩:=id ha;obtain⟨p2,c2,rfl,_,-⟩:=id hb;refine zT func84 fun w0 _=>?_;refine yU 12 ?_;refine dK (ι:=Nat) (fun k=>k≤a.length+1∧(0<k→0<b.length)∧aQ b (a.drop k)=aQ b a) (fun k=>a.length+1-k) (fun k=>[(0,.slice p1 a.length c1),(1,.slice p2 b.length c2),(5,i64 (k:Int))]) (fun k=>I) (fun k=>[]) 0 ⟨aS _,fun h=>absurd h (Nat.lt_irrefl 0),rfl⟩ rT rfl rfl ?_;rintro k ⟨_,a2,hw⟩;refine AP ?_ ?_<;>intro a1 W
 ·have Z:k+b.length≤a.length:=oM;refine yU 12 ?_;refine dQ (b4t (j:=k) (k:=(k+b.length)) rfl rfl rfl rfl ED CG rfl oM oM) ?_;refine BF (b3R _ b _ _ _ (b5U ha (Nat.le_add_right k b.length) Z) hb (by rw[aV,dR];omega)) ?_;refine FV ?_ ?_<;>intro N
  ·have a0:=FZ N;rw[dV]at a0;refine zZ ?_;rw[←hw,b2l a0];exact rT
  have O:=LY N;rw[dV]at O;refine yU 8 ?_;refine bP (k+1) ⟨oM,fun _=>List.length_pos_iff.2 (fun e=>O (by rw[e];rfl)),by rw[←hw,a9O Z O]⟩ oM rT rfl rfl
 refine zZ ?_;rw[←hw,a7b (by rw[dR];rcases Nat.eq_zero_or_pos k with h|h<;>(first|omega|(have:=a2 h;omega)))];exact rT
theorem UO l v W g cap (hl:l.length≤100000000000000) I (hr:zU XD I l v)(hw:∀x∈l,FK 9 I x.1.ws x.2)(a3:∀x∈l,Pure aA g (.agg (XD x).toArray::cap) I (.bool (W x))):Pure aA 73 [v,.func (.func g) #[] cap.toArray] I (i64 (QO W l)):=by
 refine aN ?_;obtain⟨p,c,rfl,_,hp⟩:=hr;refine zT func73 fun w0 _=>?_;refine yU 14 ?_;refine dK (ι:=Nat) (fun j=>j≤l.length∧∀x∈l.take j,W x=false) (fun j=>l.length-j) (fun j=>[(0,.slice p l.length c),(1,.func (.func g) #[] cap.toArray),(7,i64 (l.length:Int)),(8,i64 (j:Int))]) (fun j=>I) (fun j=>[]) 0 ⟨aS _,fun g hg=>by simp at hg⟩ rT rfl rfl ?_;rintro j ⟨_,N⟩;refine AP ?_ ?_<;>intro a4 a2
 ·have a1:j<l.length:=oM;obtain⟨x,O⟩:∃x,l[j]?=some x:=⟨_,CX a1⟩;obtain⟨_,fo,_,_,_,sp,rfl,a5,a6⟩:=hp (BG a1);refine BD (fo+j*3) ?_;refine dQ (CO isAgg142 RI (bY a5) (CU VY a6 O)) ?_;refine BF (a3 x (ET O)) ?_;refine FV ?_ ?_<;>intro Z
  ·have ht:W x=true:=Z;refine zZ ?_;rw[ZP N O ht];exact rT
  have a7:W x=false:=Z;refine yU 7 ?_;refine bP (j+1) ⟨oM,QU N O a7⟩ oM rT rfl rfl
 have a0:l.take j=l:=aH oM;rw[a0]at N;refine zZ ?_;rw[UJ N];exact rT
theorem a0W l v W g cap (hl:l.length≤100000000000000) I (hr:zU recC I l v)(a3:∀x∈l,Pure aA g (zW x::cap) I (.bool (W x))):Pure aA 135 [v,.func (.func g) #[] cap.toArray] I (i64 (QO W l)):=by
 refine aN ?_;obtain⟨p,c,rfl,_,hp⟩:=hr;refine zT func135 fun w0 _=>?_;refine yU 14 ?_;refine dK (ι:=Nat) (fun j=>j≤l.length∧∀x∈l.take j,W x=false) (fun j=>l.length-j) (fun j=>[(0,.slice p l.length c),(1,.func (.func g) #[] cap.toArray),(7,i64 (l.length:Int)),(8,i64 (j:Int))]) (fun j=>I) (fun j=>[]) 0 ⟨aS _,fun g hg=>by simp at hg⟩ rT rfl rfl ?_;rintro j ⟨_,N⟩;refine AP ?_ ?_<;>intro a4 a2
 ·have a1:j<l.length:=oM;obtain⟨x,O⟩:∃x,l[j]?=some x:=⟨_,CX a1⟩;obtain⟨_,fo,_,_,_,sp,rfl,a5,a6⟩:=hp (BG a1);refine BD (fo+j*2) ?_;refine dQ (CO OJ FM (bY a5) (CU DY a6 O)) ?_;refine BF (a3 x (ET O)) ?_;refine FV ?_ ?_<;>intro Z
  ·have ht:W x=true:=Z;refine zZ ?_;rw[ZP N O ht];exact rT
  have a7:W x=false:=Z;refine yU 7 ?_;refine bP (j+1) ⟨oM,QU N O a7⟩ oM rT rfl rfl
 have a0:l.take j=l:=aH oM;rw[a0]at N;refine zZ ?_;rw[UJ N];exact rT
theorem a4R b c sp l (W:l.length≤c) N g cap (Z:l.length≤100000000000000) I (O:∀J,Le I J→∀x∈l,Pure aA g (zW x::cap) J (.bool (N x))):
 yZ aA 135 [.slice (some ⟨b,0,none⟩) l.length c,.func (.func g) #[] cap.toArray] I [(b,zJ 54 (l.flatMap recC++sp))] (fun e _ H'=>e= .returned (i64 (QO N l))∧H'=[(b,zJ 54 (l.flatMap recC++sp))]):=by
 refine gX (Enters.of func135 dE rfl) fun hn hd=>?_;have hr:zU recC (TG [(b,zJ 54 (l.flatMap recC++sp))] I) l (.slice (some ⟨b,0,none⟩) l.length c):=zU.of W (WB hn _ (.head _));refine(yZ.borrow (a0W l _ N g cap Z _ hr (O _ (a8c hd)))).mono fun e _ H' _ ⟨J,M,⟨h1,_,h3⟩,h4,_⟩=>⟨h1,?_⟩;rw[h4,h3,bW]
theorem b0r{α:Type}(p:α→Bool)(l:List α):decide (0≤QO p l)=l.any p:=by
 rcases LK p l with⟨h1,h2⟩|⟨k,x,h1,h2,h3⟩
 ·rw[h1];have:l.any p=false:=by
   rw[dH,Ne,fK];rintro⟨y,N,O⟩;exact absurd O (by simpa using fB.1 h2 y N)
  rw[this];rfl
 rw[h1];have:l.any p=true:=fK.2 ⟨x,ET h2,by have:=fO h3;exact this⟩;rw[this];exact zH oM
theorem WJ l v N g cap (W:l.length≤100000000000000) I (Z:zU XD I l v)(hw:∀x∈l,FK 9 I x.1.ws x.2)(O:∀x∈l,Pure aA g (.agg (XD x).toArray::cap) I (.bool (N x))):Pure aA 82 [v,.func (.func g) #[] cap.toArray] I (.bool (l.any N)):=by
 refine aN ?_;refine zT func82 fun w0 _=>?_;refine BF (UO l v N g cap W _ Z hw O) ?_;refine zZ ?_;rw[←b0r];exact rT
theorem b6F x p n c (N:x.2= .slice p n c) I:Pure aA 74 [.agg (XD x).toArray] I (.bool (decide (x.1.name=dD))):=by
 refine aN ?_;refine zT func74 fun w0 _=>?_;refine yU 3 ?_;intro _ _;refine yU 8 ?_;refine J.ev 5 (.bool (decide (x.1.name=dD))) rfl (zC Value.bool (by rw[Bool.eq_iff_iff,beq_iff_eq,zG];exact Iff.rfl)) ?_;refine BP ?_;exact rT
theorem a2V x nb W n w Z I (hx:FK 9 I x.1.ws x.2)(a0:x.1.ws.length≤10000000)(a1:w.length≤1000000000)(hw:FK 9 I w Z)(a2:I nb=some (zJ 9 [str n]))(a3:I W=some (zJ 69 [Z])):Pure aA 83 [.agg (XD x).toArray,ptr nb 0,ptr W 0] I (.bool (decide (x.1.name=n) && aQ w x.1.ws)):=by
 refine aN ?_;refine zT func83 fun w0 _=>?_;refine yU 3 ?_;intro _ _;refine TW ?_ ?_<;>intro N O
 ·refine BF (a9G x.1.ws w _ _ _ (KU.of hx) (KU.of hw) oM oM) ?_;refine BP ?_;rw[zH (IW N:x.1.name=n),gY];exact rT
 refine BP ?_;rw[zI (KL N:x.1.name≠n)];exact rT
theorem b8c{α β:Type} f (p:β→Bool)(l:List α):(l.map f).any p=l.any fun x=>p (f x):=by rw[List.any_map];rfl
theorem a7m{I xs vs}(h:MP I xs vs) n w:xs.any (fun x=>decide (x.1.name=n) && aQ w x.1.ws)=gI n w vs:=by
 unfold gI;rw[←h.1,b8c]
def lacks (L:dW) (n:List UInt8) (w:Ke.Row) (t:aB):Bool:= !gI n w ((bF L t).getD [])
theorem a9g xb nb O ib mb m k wm km L n w wv t I (hs:aZ L)(Z:IL ((bF L t).getD []))(a1:w.length≤1000000000)(hw:FK 9 I w wv)(a2:I xb=some (zJ 26 [ptr ib 0]))(a3:I nb=some (zJ 9 [str n]))(a4:I O=some (zJ 69 [wv]))(a5:I ib=some (zJ 114 [.map (some mb),.map wm,.map km]))(a6:I mb=some (zV zW m k))(ab:MS m k)(a7:QX I m L):Pure aA 81 [zW t,ptr xb 0,ptr nb 0,ptr O 0] I (.bool (lacks L n w t)):=by
 refine aN ?_;obtain⟨vv,a8,xs,a0,N⟩:=a7.at t;have ac:=N.len;have ad:=Z.1;refine zT func81 fun w0 _=>?_;refine yU 3 ?_;intro _ _;refine yU 4 ?_;refine aY [0] [] 10 kR ?_;have a9:=a2;have aa:=a5;have W:=a6;refine yU 5 ?_;refine dJ 5 rfl (AY (kv:=zW) (l:=m) (a:=t) rfl rfl rfl rfl OE EC VE (bQ W)) ?_;refine JA.ev 11 vv rfl a8 ?_;refine BF (WJ xs _ (fun x=>decide (x.1.name=n) && aQ w x.1.ws) _ [ptr nb 0,ptr O 0] oM _ a0.row N.2 (fun x hx=>a2V x nb O n w wv _ (N.2 x hx) (Z.2 _ (N.1▸aW hx)) a1 hw a3 a4)) ?_;refine BP ?_;rw[a7m N];exact rT
theorem a7k xb nb O ib wm km L n w Z t I (hs:aZ L)(W:IL ((bF L t).getD []))(a1:w.length≤1000000000)(hw:FK 9 I w Z)(a2:I xb=some (zJ 26 [ptr ib 0]))(a3:I nb=some (zJ 9 [str n]))(a4:I O=some (zJ 69 [Z]))(a5:I ib=some (zJ 114 [.map none,.map wm,.map km]))(hL:L=[]):Pure aA 81 [zW t,ptr xb 0,ptr nb 0,ptr O 0] I (.bool (lacks L n w t)):=by
 refine aN ?_;subst hL;obtain⟨xs,a0,N⟩:=PG.nil I;have a6:=N.len;rw[List.length_nil]at a6;have a9:=W.1;refine zT func81 fun w0 _=>?_;refine yU 3 ?_;intro _ _;refine yU 4 ?_;refine aY [0] [] 10 kR ?_;have a7:=a2;have a8:=a5;refine yU 5 ?_;refine dJ 5 rfl (IZ (kv:=zW) (a:=t) rfl rfl rfl rfl OE EC VE) ?_;refine BF (WJ xs _ (fun x=>decide (x.1.name=n) && aQ w x.1.ws) _ [ptr nb 0,ptr O 0] oM _ a0.row N.2 (fun x hx=>a2V x nb O n w Z _ (N.2 x hx) (W.2 _ (N.1▸aW hx)) a1 hw a3 a4)) ?_;refine BP ?_;rw[a7m N];exact rT
structure DL where
  i:Nat
  j:Nat
  zs:List Ix.Rec
theorem b2U{ts:List aB}{N:aB→Bool}{k x}(O:ts[k]?=some x)(W:N x=true)(h:∀y∈ts.take k,N y=false):(ts.take (k+1)).filter (fun t=> !N t)=ts.take k:=by
 rw[take_one O,bI,fA.2 (fun y Z=>by simp[h y Z])];simp[W]
theorem b7f{ts zs:List aB}{N:aB→Bool}{i j x}(h:zs.take i=(ts.take j).filter (fun t=> !N t))(O:ts[j]?=some x)(W:N x=true):zs.take i=(ts.take (j+1)).filter (fun t=> !N t):=by
 rw[take_one O,bI,←h];simp[W]
theorem b6D{ts zs:List aB}{N:aB→Bool}{i j x}(Z:i<j)(h:zs.take i=(ts.take j).filter (fun t=> !N t))(hd:zs.drop j=ts.drop j)(O:ts[j]?=some x)(W:N x=false)(hl:zs.length=ts.length):(zs.set i x).take (i+1)=(ts.take (j+1)).filter (fun t=> !N t):=by
 have hj:j<ts.length:=(aK.1 O).1;rw[take_one O,bI,←h,aU (by rw[fP];omega),List.take_set_of_le (bD i)];simp[W]
theorem b7r{ts:List aB}{N}(h:ts.find? N=none):(ts.filter fun t=> !N t)=ts:=by
 rw[fB]at h;exact fA.2 fun y O=>by simp[h y O]
theorem b5C{zs:List aB}{n i sp}(_:zs.length=n)(N:i≤zs.length):(zs.flatMap recC++sp).take (0+i*2)=(zs.take i).flatMap recC:=by
 have h1:zs.flatMap recC=(zs.take i).flatMap recC++(zs.drop i).flatMap recC:=by rw[←bG,eU]
 have h2:((zs.take i).flatMap recC).length=0+i*2:=by rw[CQ DY,aV,dY N];omega
 rw[h1,aG,←h2,List.take_left]
theorem b1I{N}:∀{l:List aB} {k:Nat},QO N l=(k:Int)→∀y∈l.take k,N y=false:=fun {l k} h=>by
 unfold QO at h;cases hf:l.findIdx? N with
 |none=>rw[hf]at h;simp only at h;omega
 |some j=>
  rw[hf]at h;have W:j=k:=by simp only at h;omega
  subst W;obtain⟨h1,h2,h3⟩:=List.findIdx?_eq_some_iff_getElem.1 hf;intro y Z;obtain⟨i,hi,rfl⟩:=List.mem_iff_getElem.1 Z;have O:i<j:=by rw[aV]at hi;omega
  have:=h3 i O;rw[List.getElem_take];simpa using this
theorem a8T{base} b c sp (ts:List aB)(hg:BO base 2 ts.length (ts.flatMap recC) (some (b,c,sp)))(N:aB→Bool) g cap (hl:ts.length≤100000000000000) I (a0:∀J,Le I J→∀x∈ts,Pure aA g (zW x::cap) J (.bool (N x))):yZ aA 80 [.slice (some ⟨b,0,none⟩) ts.length c,.func (.func g) #[] cap.toArray] I [(b,zJ 54 (ts.flatMap recC++sp))]
 (fun e _ H'=>∃g':Gs,BO 0 2 (ts.filter fun t=> !N t).length ((ts.filter fun t=> !N t).flatMap recC) g'∧e= .returned (gV (ts.filter fun t=> !N t).length g')∧H'=gH 54 ((ts.filter fun t=> !N t).flatMap recC) g'):=by
 have hc:ts.length≤c:=by
  obtain⟨_,h2,h3⟩:=hg;rw[CQ DY]at h3;omega
 obtain⟨-,_,_⟩:=id hg;refine zT func80 fun w0 _=>?_;refine yU 9 ?_;refine J.pull Pull.z ?_;refine BH (a4R b c sp ts hc N g cap hl _ a0) ?_;intro _ _ _ ac ah;have a0:=fun J9 h9=>a0 J9 (fM ac h9);obtain⟨h,rfl⟩:=ah;cases h;refine AP ?_ ?_<;>intro a3 ad
 ·have a7:ts.find? N=none:=by
   rcases LK N ts with h|⟨k,x,h1,-,-⟩
   ·exact h.2
   have h9:=IW a3;rw[h1]at h9;omega
  refine zZ ?_;rw[b7r a7];exact⟨some (b,c,sp),a3G hg,rfl,rfl⟩
 obtain⟨k,x0,aa,a1,a8⟩:=(LK N ts).resolve_left (fun h=>by have h9:=KL a3;exact h9 h.1);have ae:=b1I aa;have ai:N x0=true:=by have:=fO a8;exact this
 have ap:=(aK.1 a1).1;rw[aa];refine yU 11 ?_;refine dK (ι:=DL) (fun y=>y.i<y.j∧y.j≤ts.length∧y.zs.length=ts.length∧y.zs.take y.i=(ts.take y.j).filter (fun t=> !N t)∧y.zs.drop y.j=ts.drop y.j) (fun y=>ts.length-y.j) (fun y=>[(0,.slice (some ⟨b,0,none⟩) ts.length c),(1,.func (.func g) #[] cap.toArray),(5,i64 (y.i:Int)),(6,i64 (y.j:Int))]) (fun y=>_) (fun y=>[(b,zJ 54 (y.zs.flatMap recC++sp))]) ⟨k,k+1,ts⟩ ⟨Nat.lt_succ_self k,dO,rfl,by dsimp only;exact(b2U a1 ai ae).symm,rfl⟩ rT rfl rfl ?_;rintro⟨i,j,zs⟩ ⟨ab,hj,O,a2,Z⟩;dsimp only at ab hj O a2 Z ⊢;refine AP ?_ ?_<;>intro aj af
 ·have al:j<ts.length:=oM;obtain⟨x,W⟩:∃x,ts[j]?=some x:=⟨_,CX al⟩;have a9:zs[j]?=some x:=by rw[←W,←Nat.add_zero j,←fC,←fC,Z]
  refine BD (0+j*2) ?_;refine dQ (CO OJ FM (yY.at 0 rfl) (CU DY (o:=0) rfl a9)) ?_;refine yU 1 ?_;intro _ _;refine BF (a0 _ (fF _) x (ET W)) ?_;refine FV ?_ ?_<;>intro a4
  ·have a5:N x=false:=by have h:=a4;simpa using h
   refine BD (i*2) ?_;refine eF rfl (BN 1 rfl rfl rfl rfl rfl rfl FM rfl rfl (EW (x:=x) DY oM) (yX.s yX.z) ?_);refine yU 14 ?_;refine dL (eP (gB iD)) ?_;refine bP ⟨i+1,j+1,zs.set i x⟩ ⟨dO,dO,by dsimp only;rw[fP];exact O,by dsimp only;exact b6D ab a2 Z W a5 O,by dsimp only;rw[List.drop_set_of_lt oM,←bZ,Z,bZ]⟩ dO rT rfl rfl
  have a5:N x=true:=by have h:=a4;simpa using h
  refine yU 8 ?_;refine dL (eP (gB iD)) ?_;refine bP ⟨i,j+1,zs⟩ ⟨dO,dO,O,by dsimp only;exact b7f a2 W a5,by dsimp only;rw[←bZ,Z,bZ]⟩ dO rT rfl rfl
 refine yU 9 ?_;refine dQ (UF (j:=i) rfl rfl rfl a4J FM rfl oM oM) ?_;refine J.ev 38 (.slice (some ⟨b,0+i*2,none⟩) (ts.length-i) (c-i)) rfl (by unfold a0v;rw[zD oM,Option.map_some,Addr.add_lit]) ?_;refine eF rfl (b6d (sz:=2) 0 rfl rfl rfl oM a4J a0g rfl dE rfl rfl (by rw[aC,CQ DY,O];omega) ?_);rintro am _ ag ⟨-,hset⟩;simp only[dA,dB]at hset;subst hset;refine yU 3 ?_;have an:=ag;refine yU 3 ?_;refine dQ (QA (k:=i) rfl rfl rfl a4J FM rfl oM) ?_;refine zZ ?_;have ao:(ts.filter fun t=> !N t)=zs.take i:=by rw[a2,aH (oM:ts.length≤j)]
 have a6:(zs.take i).length=i:=by rw[aV];omega
 rw[ao,a6];refine⟨some (b,c,am++(zs.flatMap recC++sp).drop (0+i*2+(ts.length-i)*2)),⟨aS _,by rw[CQ DY,a6],?_⟩,rfl,?_⟩
 ·rw[CQ DY,a6,aC,an,dR,aC,CQ DY,O];omega
 show[_]=[_];rw[b5C O (oM:i≤zs.length),aG]
end Go.Proofs.YtekmeaoblpfnpaaGreatDoor
end
section
namespace Go.Proofs.YtekmeaoblpfnpaaGreatDoor
open _root_.Go.Proofs.Tryz
open Go Go.Sx
abbrev a0f (l:List aB) (v:Value) (H:HL):Prop:=QZ 54 recC l v H
theorem a6Q{base n l g}(N:n=l.length)(O:BO base 2 n (l.flatMap recC) g):a0f l (gV n g) (gH 54 (l.flatMap recC) g):=QZ.c0g DY dE N O
theorem a2i:a0f [] (.slice none 0 0) []:= .inl rT
theorem b8s{L n s}(h:(aI s).length≠1):gJ L n s=[]:=zD h
theorem b5Y{L n s w}(h:aI s=[w]):gJ L n s=aT L n [w]:=by
 unfold gJ;rw[h];rfl
theorem b9X{l:Ke.Row}{w:List UInt8}(h:l.length=1)(N:l[0]?=some w):l=[w]:=by
 match l,h with
 |[a],_=>simp at N;rw[N]
theorem b1X{L}(N:aZ L) n x w:(aT L n [x]).filter (fun t=> !lacks L n (x::w) t)=aT L n (x::w):=
 Ix.b3h n x w _ N fun t vs O=>by unfold lacks;rw[O,Bool.not_not];rfl
theorem a5M{L:dW}{t:aB}:dF L t=match ((bF L t).getD []).find? fun v=>decide (v.name=dD)with
 |none=>[]
 |some v=>v.key:=by
 unfold dF;cases bF L t with
 |none=>rfl
 |some vs=>rfl
theorem a8L{α β:Type} f (p:β→Bool)(l:List α):(l.map f).find? p=(l.find? fun x=>p (f x)).map f:=by
 induction l with
 |nil=>rfl
 |cons a r N=>
  rw[List.map_cons,fQ,fQ];cases p (f a)with
  |true=>rfl
  |false=>exact N
theorem a5k{I N L}(h:OV I N L) t:IL ((bF L t).getD []):=by
 obtain⟨o,h1,_⟩:=h;cases o with
 |none=>rw[show L=[] from h1];exact⟨aS _,fun _ h=>by cases h⟩
 |some s=>exact a7z (EU.GH h1) (EU.vok h1) t
theorem a3D n s (Z:s.length≤100000000) I:Pure aA 85 [str n,str s] I (str (bT n s)):=by
 refine aN ?_;have a1:=a7J s;refine zT func85 fun w0 _=>?_;refine BF (b1h s Z _) ?_;refine TV ?_ ?_<;>intro N
 ·refine AP ?_ ?_<;>intro O a0
  ·have W:bT n s=fU (Ke.YR s).1 0:=zF ⟨N,IW O⟩;refine BF (ZN (Ke.YR s).1 0 oM _) ?_;refine zZ ?_;rw[W];exact rT
  have W:bT n s=fU s 0:=zD (fun g=>KL O g.2);refine BF (ZN s 0 Z _) ?_;refine zZ ?_;rw[W];exact rT
 have W:bT n s=fU s 0:=zD (fun g=>Bool.noConfusion (g.1.symm.trans N));refine BF (ZN s 0 Z _) ?_;refine zZ ?_;rw[W];exact rT
theorem b8R ib L n s (hs:s.length≤100000000) I (hx:OV I ib L):yZ aA 32 [ptr ib 0,str n,str s] I [] (fun e _ H'=>∃v,e= .returned v∧a0f (gJ L n s) v H'):=by
 have W:=hx.GH;have a4:=hx.big;obtain⟨_,wm,_,O,_,Z,_⟩:=hx.parts;have ai:=(Ke.KD s).1;refine zT func32 fun w0 _=>?_;refine BH (PO s oM _) ?_;intro _ _ _ a0 a9;have O:=a0 _ _ O;have Z:=Z.mono a0;obtain⟨_,h,hw,rfl⟩:=a9;cases h;obtain⟨wp,_,rfl⟩:=KQ hw;refine AP ?_ ?_<;>intro a1 a5
 ·have a6:(aI s).length≠1:=by have h:=bne_iff_ne.1 a1;omega
  refine yU 7 ?_;rw[b8s a6];refine BP ?_;exact⟨_,rfl,a2i⟩
 have aa:(aI s).length=1:=by have h:=QS a1;omega
 obtain⟨w1,a2⟩:∃w,(aI s)[0]?=some w:=⟨_,CX oM⟩;have ab:=b9X aa a2;obtain⟨wb,_,_,ac,ad⟩:=hw.some (BG (oM:0<(aI s).length));cases ac;refine yU 3 ?_;refine aY [] [] 11 kR ?_;have ah:=O;have a3:=ad;refine BD 0 ?_;refine dJ 7 rfl (zN rfl rfl EK (bQ a3) (JW a2)) ?_;refine gZ BM (fun ae=>?_);refine fG 8 rfl ae (zS (pl:= #[(0,1),(1,1)]) rfl rfl a4l rfl a2m (fun w=>by simp[CG]) (dG rfl rfl rfl lsA (dG rfl rfl rfl lsA fD))) ?_;refine BH (a2b wm _ L (n,w1) _ Z W a4 (a8w W _)) ?_;intro _ _ _ N a7;have O:=N _ _ O;have Z:=Z.mono N;have hw:=hw.mono N;obtain⟨ts,g,af,a8,hg,h,rfl⟩:=a7;cases h;refine yU 5 ?_;have ag:=gK W af a8;rw[b5Y ab];subst ag;refine dL (H':=gH _ _ g) (dS _ _) ?_;refine zZ ?_;exact⟨_,rfl,a6Q rfl hg⟩
theorem c0d ib L n s (hs:s.length≤100000000) I (Z:OV I ib L):yZ aA 34 [ptr ib 0,str n,str s] I [] (fun e _ H'=>∃v,e= .returned v∧a0f (cO L n (bT n s)) v H'):=by
 have N:=Z.GH;have a0:=Z.big;obtain⟨_,_,km,O,_,_,hK⟩:=Z.parts;refine zT func34 fun w0 _=>?_;refine yU 16 ?_;refine aY [] [] 11 kR ?_;have a6:=O;refine BF (a3D n s hs _) ?_;refine⟨fx0,?_⟩;refine gZ BM (fun a2=>?_);refine fG 8 rfl a2 (zS (pl:= #[(0,1),(1,1)]) rfl rfl a4l rfl a2m (fun w=>by simp[CG]) (dG rfl rfl rfl lsA (dG rfl rfl rfl lsA fD))) ?_;refine BH (a2b km _ L (n,bT n s) _ hK N a0 (a8w N _)) ?_;intro _ _ _ W a3;have O:=W _ _ O;have hK:=hK.mono W;obtain⟨ts,g,a4,a1,hg,h,rfl⟩:=a3;cases h;refine yU 5 ?_;have a5:=Ix.b1R N a4 a1;subst a5;refine dL (H':=gH _ _ g) (dS _ _) ?_;refine zZ ?_;exact⟨_,rfl,a6Q rfl hg⟩
theorem a7Z(N:aB→Bool) g (cap:List Value) I:yZ aA 80 [.slice none 0 0,.func (.func g) #[] cap.toArray] I [] (fun e _ H'=>e= .returned (.slice none 0 0)∧H'=[]):=by
 refine zT func80 fun w0 _=>?_;refine BF (a0W [] _ N g cap dE _ zU.nil (fun x O=>by cases O)) ?_;refine J.ev 10 (i64 (-1)) rfl rfl ?_;refine zZ ?_;exact rT
theorem b1y N nb O W vm wm km L n w Z t I (hs:aZ L)(a0:IL ((bF L t).getD []))(a1:w.length≤1000000000)(hw:FK 9 I w Z)(a2:I N=some (zJ 26 [ptr W 0]))(a3:I nb=some (zJ 9 [str n]))(a4:I O=some (zJ 69 [Z]))(a5:I W=some (zJ 114 [.map vm,.map wm,.map km]))(hV:a7S I vm L):Pure aA 81 [zW t,ptr N 0,ptr nb 0,ptr O 0] I (.bool (lacks L n w t)):=by
 rcases hV with⟨rfl,hL⟩|⟨b,l,c,rfl,a6,a7,hb⟩
 ·exact a7k N nb O W wm km L n w Z t I hs a0 a1 hw a2 a3 a4 a5 hL
 exact a9g N nb O W b l c wm km L n w Z t I hs a0 a1 hw a2 a3 a4 a5 hb a6 a7
theorem b2m{base}(ts:List aB) g (W:BO base 2 ts.length (ts.flatMap recC) g)(N:aB→Bool) f cap (hl:ts.length≤100000000000000) I (Z:∀J,Le I J→∀x∈ts,Pure aA f (zW x::cap) J (.bool (N x))):yZ aA 80 [gV ts.length g,.func (.func f) #[] cap.toArray] I (gH 54 (ts.flatMap recC) g)
 (fun e _ H'=>∃O:Gs,BO 0 2 (ts.filter fun t=> !N t).length ((ts.filter fun t=> !N t).flatMap recC) O∧e= .returned (gV (ts.filter fun t=> !N t).length O)∧H'=gH 54 ((ts.filter fun t=> !N t).flatMap recC) O):=by
 cases g with
 |none=>
  have h0:ts=[]:=aX.1 W.1;subst h0;exact(a7Z N f cap I).mono fun e _ H' _ ⟨h1,h2⟩=>⟨none,⟨rfl,rfl⟩,h1,h2⟩
 |some q=>
  obtain⟨b,c,sp⟩:=q;exact a8T b c sp ts W N f cap hl I Z
theorem b8j{L}(N:aZ L)(O:L.length≤100000) n w:(aT L n w).length≤100000000000000:=by
 unfold aT
 split
 ·simp
 rw[aJ];have:=eX (fun e:aB×List Ix.V=>gI n w e.2) L;omega
theorem b2p ib L n s (hs:s.length≤100000000) I (hx:OV I ib L):yZ aA 33 [ptr ib 0,str n,str s] I [] (fun e _ H'=>∃g,BO 0 2 (aT L n (aI s)).length ((aT L n (aI s)).flatMap recC) g∧e= .returned (gV (aT L n (aI s)).length g)∧H'=gH 54 ((aT L n (aI s)).flatMap recC) g):=by
 have a4:=hx.GH;have aa:=hx.big;obtain⟨vm,wm,km,W,hV,hW,_⟩:=hx.parts;have ah:=fun t=>a5k hx t;have hwl:=(Ke.KD s).1;refine zT func33 fun w0 _=>?_;refine yU 3 ?_;intro b1 aq;refine yU 1 ?_;intro b2 ar;refine yU 4 ?_;refine Cj.pull (Pull.s Pull.z) ?_;refine fV aq (fun _ a8 O=>?_);have W:=a8 _ _ W;have hW:=hW.mono a8;have hV:=hV.mono a8;refine fV ar (fun _ a5 Z=>?_);have W:=a5 _ _ W;have hW:=hW.mono a5;have hV:=hV.mono a5;have O:=a5 _ _ O;refine BH (PO s oM _) ?_;intro _ _ H9 a3 ai;have W:=a3 _ _ W;have hW:=hW.mono a3;have hV:=hV.mono a3;have O:=a3 _ _ O;have Z:=a3 _ _ Z;obtain⟨_,h,hw,rfl⟩:=ai;cases h;obtain⟨wp,_,rfl⟩:=KQ hw;refine yU 1 ?_;intro ad aj;refine yU 5 ?_;refine fV aj (fun _ a1 a2=>?_);have W:=a1 _ _ W;have hW:=hW.mono a1;have hV:=hV.mono a1;have O:=a1 _ _ O;have Z:=a1 _ _ Z;have hw:=hw.mono a1;refine AP ?_ ?_<;>intro a9 ab
 ·refine yU 7 ?_;rw[show aT L n (aI s)=[] from zF (aX.1 (by have h:=IW a9;omega))];refine BP ?_;exact⟨none,⟨rfl,rfl⟩,rfl,rfl⟩
 have ae:(aI s).length≠0:=by have h:=KL a9;omega
 obtain⟨x,w,af⟩:∃x w,aI s=x::w:=by
  cases hc:aI s with
  |nil=>rw[hc]at ae;exact absurd rfl ae
  |cons a r=>exact⟨a,r,rfl⟩
 have al:(aI s)[0]?=some x:=by rw[af];rfl
 obtain⟨wb,_,_,au,a7⟩:=hw.some (BG (oM:0<(aI s).length));cases au;refine yU 3 ?_;refine aY [] [] 13 kR ?_;have b0:=W;have av:=O;have aw:=Z;have ap:=a2;have ac:=a7;refine yU 6 ?_;refine gZ BM (fun a6=>?_);refine fG 6 rfl a6 (DF (off':=0) rfl rfl rfl ED CG dE oM sI) ?_;refine fG 7 rfl a6 (zN rfl rfl EK (bQ ac) (JW al)) ?_;refine fG 8 rfl a6 (zS (pl:= #[(0,1),(1,1)]) rfl rfl a4l rfl a2m (fun w=>by simp[CG]) (dG rfl rfl rfl lsA (dG rfl rfl rfl lsA fD))) ?_;refine fG 10 rfl a6 (a2H rfl rfl rfl) ?_;refine zO 9 rfl (zM (H1:=[]) rfl rfl rfl rfl rfl (a2b wm _ L (n,x) _ hW a4 aa (a8w a4 _)) ?_ (fun _ _ _ _ ⟨_,_,_,_,_,h,_⟩=>by cases h) (fun _ _ ⟨_,_,_,_,_,h,_⟩=>by cases h));intro _ _ _ N am;have W:=N _ _ W;have hW:=hW.mono N;have hV:=hV.mono N;have O:=N _ _ O;have Z:=N _ _ Z;have hw:=hw.mono N;have a2:=N _ _ a2;have a7:=N _ _ a7;obtain⟨ts,g,ax,an,hg,h,rfl⟩:=am;cases h;have ag:=gK a4 ax an;have ay:=hg;refine⟨⟨(fM (fF _) N),HSub.n,CSub.n⟩,?_⟩;refine zO 11 rfl (LP (H1:=gH 54 (ts.flatMap recC) g) [] (bW _) rfl rfl rfl rfl rfl (b2m ts g ay (lacks L n (aI s)) _ [ptr b1 0,ptr b2 0,ptr ad 0] (by rw[ag];exact b8j a4 aa _ _) _ (fun J9 h9 t _=>b1y b1 b2 ad ib vm wm km L n (aI s) _ t J9 a4 (ah t) oM (hw.mono h9) (h9 _ _ O) (h9 _ _ Z) (h9 _ _ a2) (h9 _ _ W) (hV.mono h9))) ?_ (fun _ _ _ _ ⟨_,_,h,_⟩=>by cases h) (fun _ _ ⟨_,_,h,_⟩=>by cases h));rintro _ _ H9 a0 ⟨g9,az,h,rfl⟩;cases h;have W:=a0 _ _ W;have hW:=hW.mono a0;have hV:=hV.mono a0;have O:=a0 _ _ O;have Z:=a0 _ _ Z;have hw:=hw.mono a0;have a2:=a0 _ _ a2;have a7:=a0 _ _ a7;refine⟨⟨(fM (fM (fF _) N) a0),HSub.n,CSub.n⟩,?_⟩;refine gZ BM (fun ao=>?_);refine fG 12 rfl ao FN ?_;refine EZ ?_;refine Ej.seq (Cj.ret ?_);rw[ag,af,b1X a4 n x w]at *;refine Ej.a0l rfl rfl rfl ?_;exact⟨g9,az,rfl,rfl⟩
theorem b4M N L n s (O:s.length≤100000000) I (W:OV I N L):yZ aA 33 [ptr N 0,str n,str s] I [] (fun e _ H'=>∃v,e= .returned v∧a0f (aT L n (aI s)) v H'):=
 (b2p N L n s O I W).mono fun _ _ _ _ ⟨_,h1,h2,h3⟩=>⟨_,h2,by rw[h3];exact a6Q rfl h1⟩
end Go.Proofs.YtekmeaoblpfnpaaGreatDoor
end
section
namespace Go.Proofs.YtekmeaoblpfnpaaGreatDoor
open _root_.Go.Proofs.Tryz
open Go Go.Sx
theorem b8J{I L t xs}(N:MP I xs ((bF L t).getD []))(h:xs.find? (fun x=>decide (x.1.name=dD))=none):dF L t=[]:=by
 rw[a5M,←N.1,a8L,h];rfl
theorem b9a{I L t xs x}(N:MP I xs ((bF L t).getD []))(h:xs.find? (fun x=>decide (x.1.name=dD))=some x):dF L t=x.1.key:=by
 rw[a5M,←N.1,a8L,h];rfl
abbrev isT (x:VW):Bool:=decide (x.1.name=dD)
abbrev GN (x:List UInt8×Nat):List UInt8×Int:=(x.1,(x.2:Int))
abbrev b1O (l:List (List UInt8×Nat)) (v:Value) (H:HL):Prop:=QZ 268 JZ (l.map GN) v H
def SL (n b:List UInt8) (p:fE):Bool:=decide (p.1=n) && !decide (p.2<b)
def QD (L:dW) (n b:List UInt8) (vis:ML fE):List (List UInt8×Nat):=(vis.filter fun x=>SL n b x.1).map fun x=>(x.1.2,(cO L n x.1.2).length)
theorem LH L n b vis x:QD L n b (vis++[x])=QD L n b vis++if SL n b x.1=true then[(x.1.2,(cO L n x.1.2).length)]else[]:=by
 unfold QD;rw[bI,dX]
 by_cases h:SL n b x.1=true
 ·rw[zF h];simp[h]
 rw[zD h];simp[h]
theorem b9f L n b vis:(QD L n b vis).length≤vis.length:=by
 unfold QD;rw[aJ];exact eX _ _
structure TB where
  vis:ML Ix.Pl
  rest:ML Ix.Pl
  g:Gs
theorem b7J{I:Heap}{b l c N f}(h:BL l c N f)(hI:∀q∈setH b l c N,I q.1=some q.2){x}(hx:x∈l):∃O m k,x.2.1= .map (some O)∧I O=some (zV zW m k)∧MS m k∧m≠[]∧∀t,zY m t=cv (f x.1 t):=by
 have h1:kvp x∈N.map nvp:=by rw[←h.vals];exact aW hx
 obtain⟨⟨a,O,m,k⟩,W,Z⟩:=aO.1 h1;have e1:a=x.1:=zC (·.1) Z;have e2:Value.map (some O)=x.2.1:=zC (·.2) Z;subst e1;obtain⟨g1,g2,g3⟩:=h.inn _ W;exact⟨O,m,k,e2.symm,hI (O,_) (.tail _ (aO.2 ⟨_,W,rfl⟩)),g1,g2,g3⟩
theorem b0P{l:ML fE}{c:Nat}{N:MR fE aB}{f:fE→aB→Nat}(h:BL l c N f)(p:fE):p∈l.map (·.1)↔∃t,f p t≠0:=by
 rw[h.keys];constructor
 ·intro O;obtain⟨e,W,rfl⟩:=aO.1 O;obtain⟨_,Z,g3⟩:=h.inn e W;obtain⟨⟨t,v,n⟩,r,hr⟩:=List.exists_cons_of_ne_nil Z;refine⟨t,fun hz=>?_⟩;have h2:=g3 t;rw[hz]at h2;have h3:zY e.2.2.1 t=none:=h2;exact GK.1 h3 (by rw[hr];exact .head _)
 rintro⟨t,ht⟩;exact bH fun g=>ht (h.out p g t)
theorem keys_le{L l c N}(h:BL l c N (cZ dM L))(hs:aZ L)(hL:L.length≤100000)(hv:∀e∈L,IL e.2):l.length≤1000000000000:=by
 have h1:(l.map (·.1)).length≤(L.flatMap fun e=>dM e.2).length:=by
  refine a0S h.ms.1 fun p hp=>?_;obtain⟨e,O,W⟩:=(Ix.ZC hs).1 ((b0P h p).1 hp);exact List.mem_flatMap.2 ⟨e,O,W⟩
 have h2:∀M:dW,(∀e∈M,IL e.2)→(M.flatMap fun e=>dM e.2).length≤M.length*10000000:=by
  intro M
  induction M with
  |nil=>intro _;simp
  |cons a r ih=>
   intro Z;have:=ih fun e O=>Z e (.tail _ O);have h3:=(Z a (.head _)).k;rw[aP,aC,dN,fJ];omega
 rw[aJ]at h1;exact JK (JK h1 (h2 L hv)) (Nat.mul_le_mul_right 10000000 hL)
theorem b6X{a b:List UInt8}(h:¬b<a)(N:a≠b):a<b:=Std.lt_of_le_of_ne (Std.not_lt.1 h) N
theorem b6E{L l c N}(h:BL l c N (cZ dM L))(hs:aZ L){n b vis}(hp:vis.Perm l){ls}(a1:ls.Perm ((QD L n b vis).map GN))(ho:ls.Pairwise fun p q=>¬q.1<p.1):ls=((Ix.BZ L n b).map fun k=>(k,(cO L n k).length)).map GN:=by
 have W:∀x∈vis.filter (fun x=>SL n b x.1),x.1.1=n∧¬x.1.2<b:=fun x O=>by
  have:=(dZ.1 O).2;unfold SL at this;rw[Bool.and_eq_true,zG,Bool.not_eq_true',decide_eq_false_iff_not]at this;exact this
 have a4:((QD L n b vis).map (·.1)).Nodup:=by
  unfold QD;rw[bJ];have h1:((vis.filter fun x=>SL n b x.1).map (·.1)).Nodup:=((hp.map _).nodup_iff.2 h.ms.1).sublist (List.filter_sublist.map _);rw[bC,dI]at h1 ⊢;refine(bU.2 fun {x y} Z=>?_);have O:=W x (Z.subset (.head _));have hy:=W y (Z.subset (.tail _ (.head _)));have a5:=bU.1 h1 Z;exact fun e=>a5 (Prod.ext (O.1.trans hy.1.symm) e)
 have a0:∀x∈ls,x.2=((cO L n x.1).length:Int):=fun x O=>by
  obtain⟨y,hy,rfl⟩:=aO.1 (a1.mem_iff.1 O);obtain⟨z,_,rfl⟩:=aO.1 hy;rfl
 have hk:(ls.map (·.1)).Perm ((QD L n b vis).map (·.1)):=by
  have:=a1.map (·.1)
  rwa [bJ]at this
 have a2:Ke.Inc (ls.map (·.1)):=by
  unfold Ke.Inc;have h1:=hk.nodup_iff.2 a4;rw[bC,dI]at h1;rw[dI];exact(eH.2 ⟨ho,h1⟩).imp fun {x y} ⟨h2,h3⟩=>b6X h2 h3
 have a3:=Ix.PL hs (n:=n) (b:=b) (ls:=ls.map fun x=>(x.1,x.2.toNat)) (by rw[bJ];exact a2) (fun k=>?_) (fun x O=>?_)
 ·rw[←a3,bJ]
  conv=>lhs;rw[←List.map_id ls]
  refine List.map_congr_left fun x O=>?_;have:=a0 x O;show x=(x.1,((x.2.toNat:Nat):Int));refine Prod.ext rfl ?_;show x.2=_;omega
 ·rw[bJ];show k∈ls.map (·.1)↔_;rw[hk.mem_iff,←b0P h];unfold QD;rw[bJ];constructor
  ·intro hm;obtain⟨x,O,rfl⟩:=aO.1 hm;obtain⟨h1,h2⟩:=W x O;refine⟨h2,?_⟩;show(n,x.1.2)∈_;rw[←h1,←(hp.map (·.1)).mem_iff];exact aW (dZ.1 O).1
  rintro⟨h1,h2⟩;rw[←(hp.map (·.1)).mem_iff]at h2;obtain⟨x,O,he⟩:=aO.1 h2;refine aO.2 ⟨x,dZ.2 ⟨O,?_⟩,?_⟩
  ·unfold SL;rw[he,zH rfl,gY,zI h1];rfl
  show x.1.2=k;rw[he]
 obtain⟨y,hy,rfl⟩:=aO.1 O;have:=a0 y hy;show y.2.toNat=_;rw[this];rfl
theorem b3J ib mb m k0 wm km L t I (a6:IL ((bF L t).getD []))(a7:I ib=some (zJ 114 [.map (some mb),.map wm,.map km]))(a3:I mb=some (zV zW m k0))(af:MS m k0)(a8:QX I m L):Pure aA 28 [ptr ib 0,zW t] I (str (dF L t)):=by
 refine aN ?_;obtain⟨vv,W,xs,Z,hX⟩:=a8.at t;have ag:=hX.len;have ah:=a6.1;refine zT func28 fun w0 _=>?_;refine yU 3 ?_;intro _ _;refine yU 14 ?_;refine aY [0] [] 8 kR ?_;have ae:=a7;have a2:=a3;refine yU 5 ?_;refine dJ 5 rfl (AY (kv:=zW) (l:=m) (a:=t) rfl rfl rfl rfl OE EC VE (bQ a2)) ?_;refine JA.ev 13 vv rfl W ?_;refine BF (UO xs _ isT _ [] oM _ Z.row hX.2 (fun x hx=>by obtain⟨p9,c9,O⟩:=KQ (hX.2 x hx);exact b6F x p9 _ c9 O _)) ?_;refine AP ?_ ?_<;>intro a0 a4
 ·have N:xs.find? isT=none:=((LK isT xs).resolve_right (fun⟨k,x,h,_⟩=>by have O:=FZ a0;rw[h]at O;omega)).2;refine BP ?_;rw[b8J hX N];exact rT
 obtain⟨k,x,a9,a1,N⟩:=(LK isT xs).resolve_left (fun h=>by have O:=LY a0;rw[h.1]at O;exact O dE);have a5:=(aK.1 a1).1;obtain⟨_,aa,ab,_,ac⟩:=id Z;rw[ab]at W ⊢;obtain⟨rb,_,rfl,ad⟩:=ac (BG a5);rw[a9];refine yU 3 ?_;refine aY [0] [] 11 kR ?_;refine yU 5 ?_;refine dJ 5 rfl (AY (kv:=zW) (l:=m) (a:=t) rfl rfl rfl rfl OE EC VE (bQ a3)) ?_;refine JA.ev 22 (.slice (some ⟨rb,0,none⟩) xs.length aa) rfl W ?_;refine BD (0+k*3) ?_;refine dJ 8 rfl (DN (off':=0+k*3+1) XL CG) ?_;refine dJ 9 rfl (zN rfl rfl EK (bQ ad) (TY VY (o:=0) rfl a1 1 dE)) ?_;refine BP ?_;rw[b9a hX N];exact rT
theorem b2X O wm km t I (W:I O=some (zJ 114 [.map none,.map wm,.map km])):Pure aA 28 [ptr O 0,zW t] I (str []):=by
 refine aN ?_;refine zT func28 fun w0 _=>?_;refine yU 3 ?_;intro _ _;refine yU 14 ?_;refine aY [0] [] 8 kR ?_;have Z:=W;refine yU 5 ?_;refine dJ 5 rfl (IZ (kv:=zW) (a:=t) rfl rfl rfl rfl OE EC VE) ?_;refine BF (UO [] _ isT _ [] dE _ zU.nil (fun x N=>by cases N) (fun x N=>by cases N)) ?_;refine yU 1 ?_;refine JA.ev 14 (i64 (-1)) rfl rfl ?_;refine BP ?_;exact rT
theorem b7t N L t I (O:OV I N L):Pure aA 28 [ptr N 0,zW t] I (str (dF L t)):=by
 obtain⟨_,W,Z,hI,hV,-,-⟩:=O.parts;rcases hV with⟨rfl,rfl⟩|⟨b,l,c,rfl,a0,a1,hb⟩
 ·exact b2X N W Z t I hI
 exact b3J N b l c W Z L t I (a5k O t) hI hb a0 a1
theorem b0m a n c (N:n≤c) I:Pure aA 222 [.slice a n c] I (.slice a n n):=by
 refine aN ?_;refine zT func222 fun w0 _=>?_;refine yU 12 ?_;refine dQ (b2J (k:=n) (m:=n) rfl rfl rfl rfl a0U XF (bD _) N) ?_;refine zZ ?_;exact rT
theorem b9G{α:Type}{T:TypeId}{f:α→List Value}{l:List α}{v:Value}{H:HL}(h:QZ T f l v H):∃a c,v= .slice a l.length c∧l.length≤c:=by
 rcases h with⟨rfl,rfl,rfl⟩|⟨b,c,sp,rfl,N,rfl⟩
 ·exact⟨none,0,rfl,bD _⟩
 exact⟨_,c,rfl,N⟩
theorem b5P{α:Type}{T:TypeId}{f:α→List Value}{l:List α}{a:Option Addr}{c:Nat}{H:HL}(h:QZ T f l (.slice a l.length c) H){k:Nat}(O:k≤l.length):QZ T f (l.take k) (.slice a k k) H:=by
 rcases h with⟨rfl,N,rfl⟩|⟨b,c,sp,N,W,rfl⟩
 ·cases N;have:k=0:=by simpa using O
  subst this;exact .inl rT
 cases N;refine .inr ⟨b,k,(l.drop k).flatMap f++sp,by rw[aV,dY O],by rw[aV];omega,?_⟩;rw[←aG,←bG,eU]
theorem b6L{L n s N ls a c v H}(O:ls=((Ix.BZ L n (bT n s)).map fun k=>(k,(cO L n k).length)).map GN)(h:QZ 268 JZ ls v H)(W:v= .slice a ls.length c):b1O (gQ L n s N) (.slice a (min ls.length N.toNat) (min ls.length N.toNat)) H:=by
 subst W;have h1:=b5P h (Nat.min_le_left ls.length N.toNat);have h2:ls.take (min ls.length N.toNat)=(gQ L n s N).map GN:=by
  rw[←Ix.a5l,List.map_take,←O];rcases Nat.le_total ls.length N.toNat with g|g
  ·rw[dY g,List.take_length,aH g]
  rw[Nat.min_eq_right g]
 rw[h2]at h1;exact h1
theorem b8y{L}(O:aZ L){m k}(W:MS m k){p}(N:∀t,zY m t=cv (cZ dM L p t)){n}(Z:p.1=n):((m.length:Nat):Int)=((cO L n p.2).length:Int):=by
 subst Z;have h:=Ix.b5S O (n:=p.1) (k:=p.2) (ts:=m.map (·.1)) W.1 fun t=>by
  constructor
  ·intro h1;have h2:zY m t≠none:=fun g=>GK.1 g h1;rw[N]at h2;exact fun g=>h2 (by rw[show cZ dM L p t=0 from g];rfl)
  intro h1;refine bH fun g=>?_;have h2:=GK.2 g;rw[N,b3O h1]at h2;cases h2
 rw[aJ]at h;rw[h]
theorem b3g(n:Nat) N:(if (if (0:Int)>N then(0:Int)else N)<(n:Int)then(if (0:Int)>N then(0:Int)else N)else(n:Int))=((min n N.toNat:Nat):Int):=by
 repeat(first|omega|split)
theorem b3k ib kb vm wm l c N L n s (hs : s.length ≤ 100000000) W I (a1 : Ix.AO L) (hN : BL l c N (Ix.cnt Ix.UW L)) (ar : l.length ≤ 1000000000000) (av : I ib = some (zJ 114 [.map vm, .map wm, .map (some kb)])) (hI : ∀ q ∈ setH kb l c N, I q.1 = some q.2) : yZ Tryz.prog 160 [ptr ib 0, str n, str s, i64 W] I [] (fun e _ H' => ∃ v, e = .returned v ∧ b1O (Ix.scan L n s W) v H') := by
 have a2 : I kb = some (zV EF l c) := hI (kb, _) (.head _)
 refine zT func160 fun w0 _ => ?_
 refine BF (a3D n s hs _) ?_
 refine yU 15 ?_
 refine J.op rfl (MI (kv := EF) (l := l) rfl rfl rfl rfl IG (yY.BQ a2) ?_)
 intro b2 _
 refine yU 3 ?_
 refine Cj.loop (ι := TB) (fun y => (y.vis ++ y.rest).Perm l ∧ BO w0.heap.size 2 (QD L n (Ix.keyOf n s) y.vis).length (((QD L n (Ix.keyOf n s) y.vis).map GN).flatMap JZ) y.g) (fun y => y.rest.length) (fun y => [(1, str n), (3, i64 W), (9, str (Ix.keyOf n s)), (10, gV (QD L n (Ix.keyOf n s) y.vis).length y.g), (22, ptr b2 0)]) (fun y => _) (fun y => (b2, UE kb c y.vis c) :: gH 268 (((QD L n (Ix.keyOf n s) y.vis).map GN).flatMap JZ) y.g) ⟨[], l, none⟩ ⟨.refl _, rfl, rfl⟩ ⟨rfl, rfl, rfl, rfl, rfl, trivial⟩ rfl rfl ?_
 rintro ⟨vis, rest, g⟩ ⟨hp, hg⟩
 dsimp only at hp hg ⊢
 have ae := hp.length_eq
 rw [List.length_append] at ae
 have au := b9f L n (Ix.keyOf n s) vis
 refine yU 2 ?_
 refine J.op rfl (OC (kv := EF) (l := l) 0 rfl rfl rfl rfl rfl (yY.BQ a2) hN.ms.2.2 (Nat.le_refl _) hN.ms.2.1 hp ?_ ?_)
 ·rintro x Z H9 a3 a0 ⟨-, hset⟩; simp only [List.set_cons_zero, List.set_cons_succ] at hset; subst hset
  obtain ⟨mb, m, k, ah, ai, aj, _, al⟩ := b7J hN hI (a0.mem_iff.1 (List.mem_append_left _ (List.mem_append_right _ (.head _))))
  refine yU 10 ?_
  refine J.z (SH (kv := EF) (l := l) rfl rfl (yY.at 0 rfl) (yY.BQ a2) (a0.mem_iff.1 (List.mem_append_left _ (List.mem_append_right _ (.head _)))) hN.ms.2.1) ?_
  refine yU 2 ?_
  refine J.ev 27 (.map (some mb)) rfl ah ?_
  refine yU 1 ?_
  intro _ _
  refine TW (fun a4 af => ?_) (fun a4 af => ?_)
  ·have a5 : x.1.1 = n := IW a4
   refine yU 3 ?_
   refine J.zg (b3c rfl rfl rfl) ?_
   refine FV (fun a6 => ?_) (fun a6 => ?_)
   ·have O : SL n (Ix.keyOf n s) x.1 = true := by unfold SL; rw [decide_eq_true a5, Bool.true_and]; exact a6
    refine yU 5 ?_
    refine J.z (KX (kv := zW) (l := m) rfl rfl FD (yY.BQ ai)) ?_
    refine J.ev 42 (i64 ((Ix.EL L n x.1.2).length : Int)) rfl (congrArg i64 (b8y a1 aj al a5)) ?_
    refine J.z (zS (pl := #[(0, 1), (1, 1)]) rfl rfl zeroValue268 rfl underlying268 (fun w => by simp [IC, CG]) (zL.part rfl rfl rfl (yV.c yV.z) (zL.part rfl rfl rfl (yV.s (yV.c yV.z)) zL.none))) ?_
    refine J.op rfl (zX rfl rfl rfl a0U XF zeroValue268 rfl rfl rfl rfl (zQ.agg rfl zQ.none) ?_)
    intro b7 _
    refine J.op rfl (CV (by' := 23) [_, _, _] rfl rfl rfl rfl rfl a0U (.inr ⟨_, a0U⟩) (by kernel_rfl) XF zeroValue268 rfl hg rfl (Src.slice (yY.at 0 rfl) rfl rfl rfl) (by omega) ?_)
    intro g8 am
    refine yU 3 ?_
    refine Ej.keep (Keeps.d (Keeps.d (Keeps.k Keeps.r))) ?_
    refine Ej.round ⟨vis ++ [x], Z, g8⟩ ⟨a0, by dsimp only; rw [LH, if_pos O, List.length_append, List.map_append, List.flatMap_append]; exact am⟩ (by have h := a3.length_eq; simp only [List.length_cons] at h; dsimp only; omega) ⟨rfl, rfl, rfl, by dsimp only; rw [LH, if_pos O, List.length_append]; rfl, rfl, trivial⟩ rfl (by dsimp only; rw [LH, if_pos O, List.map_append, List.flatMap_append]; rfl)
   have O : ¬ SL n (Ix.keyOf n s) x.1 = true := by unfold SL; rw [decide_eq_true a5, Bool.true_and]; exact fun e => Bool.noConfusion (e.symm.trans a6)
   refine yU 2 ?_
   refine Ej.keep (Keeps.d (Keeps.k Keeps.r)) ?_
   refine Ej.round ⟨vis ++ [x], Z, g⟩ ⟨a0, by dsimp only; rw [LH, if_neg O, List.append_nil]; exact hg⟩ (by have h := a3.length_eq; simp only [List.length_cons] at h; dsimp only; omega) ⟨rfl, rfl, rfl, by dsimp only; rw [LH, if_neg O, List.append_nil]; rfl, rfl, trivial⟩ rfl (by dsimp only; rw [LH, if_neg O, List.append_nil])
  have O : ¬ SL n (Ix.keyOf n s) x.1 = true := by unfold SL; rw [decide_eq_false (KL a4)]; exact Bool.false_ne_true
  refine yU 10 ?_
  refine Ej.keep (Keeps.d (Keeps.k Keeps.r)) ?_
  refine Ej.round ⟨vis ++ [x], Z, g⟩ ⟨a0, by dsimp only; rw [LH, if_neg O, List.append_nil]; exact hg⟩ (by have h := a3.length_eq; simp only [List.length_cons] at h; dsimp only; omega) ⟨rfl, rfl, rfl, by dsimp only; rw [LH, if_neg O, List.append_nil]; rfl, rfl, trivial⟩ rfl (by dsimp only; rw [LH, if_neg O, List.append_nil])
 intro ag
 refine yU 11 ?_
 have an : vis.Perm l := by rw [ag, List.append_nil] at hp; exact hp
 have a9 : BO w0.heap.size 2 ((QD L n (Ix.keyOf n s) vis).map GN).length (((QD L n (Ix.keyOf n s) vis).map GN).flatMap JZ) g := by rw [List.length_map]; exact hg
 refine yU 2 ?_
 refine J.ev 46 (gV ((QD L n (Ix.keyOf n s) vis).map GN).length g) rfl (by rw [List.length_map]) ?_
 refine LC [_] (a2R ((QD L n (Ix.keyOf n s) vis).map GN) g a9 (by rw [List.length_map]; omega) _) ?_
 rintro _ _ H9 _ ⟨ls, aa, ao, h, rfl⟩; cases h
 have ap := b6E hN a1 an aa ao
 have a7 : ((QD L n (Ix.keyOf n s) vis).map GN).length = ls.length := aa.length_eq.symm
 have aq : BO w0.heap.size 2 ls.length (ls.flatMap JZ) g := by rw [← a7]; exact a5f a9 (by rw [CQ JY, CQ JY, a7])
 refine yU 3 ?_
 obtain ⟨a8⟩ : Nonempty (QZ 268 JZ ls (gV ls.length g) (gH 268 (ls.flatMap JZ) g)) := ⟨QZ.c0g JY (by decide) rfl aq⟩
 obtain ⟨sa, sc, ab, ac⟩ : ∃ a c, gV ls.length g = .slice a ls.length c ∧ ls.length ≤ c := b9G a8
 have ad : gV (QD L n (Ix.keyOf n s) vis).length g = .slice sa ls.length sc := by rw [← ab, ← a7, List.length_map]
 refine yU 2 ?_
 refine J.ev 48 (.slice sa ls.length sc) rfl ad ?_
 refine yU 1 ?_
 refine J.ev 49 (.slice sa ls.length sc) rfl ad ?_
 refine yU 2 ?_
 refine J.z (ZG rfl rfl rfl) ?_
 refine J.z (SB rfl rfl rfl) ?_
 refine J.ev 53 (i64 ((min ls.length W.toNat : Nat) : Int)) rfl (congrArg i64 (b3g _ _)) ?_
 refine J.z (QA (k := (min ls.length W.toNat)) rfl rfl rfl a0U XF rfl (JK (Nat.min_le_left _ _) ac)) ?_
 refine BF (b0m sa (min ls.length W.toNat) sc (JK (Nat.min_le_left _ _) ac) _) ?_
 refine yU 4 ?_
 refine Ej.keep (H' := gH 268 (ls.flatMap JZ) g) (List.sublist_append_right [_] _) ?_
 refine zZ ?_
 exact ⟨_, rfl, b6L ap a8 ab⟩
theorem b3T O vm wm n s (hs:s.length≤100000000) N I (a0:I O=some (zJ 114 [.map vm,.map wm,.map none])):yZ aA 160 [ptr O 0,str n,str s,i64 N] I [] (fun e _ H'=>e= .returned (.slice none 0 0)∧H'=[]):=by
 refine zT func160 fun w0 _=>?_;refine BF (a3D n s hs _) ?_;refine yU 15 ?_;refine eF rfl (KI rfl rfl rfl rfl IG ?_);intro _ _;refine yU 3 ?_;refine gU 1 ?_;refine Rj.succ ?_;refine yU 2 ?_;refine eF rfl (LG 0 rfl rfl rfl rfl rfl ?_);refine LC [_] (a2R (base:=0) [] none rT dE _) ?_;rintro _ _ _ _ ⟨ts,W,_,h,rfl⟩;cases h;have Z:=W.eq_nil;subst Z;refine yU 8 ?_;refine dQ (ZG rfl rfl rfl) ?_;refine dQ (SB rfl rfl rfl) ?_;refine J.ev 53 (i64 ((0:Nat):Int)) rfl (zC i64 (b3g 0 N |>.trans (by rw[Nat.zero_min]))) ?_;refine dQ (QA (k:=0) rfl rfl rfl a0U XF rfl (bD _)) ?_;refine BF (b0m none 0 0 (bD _) _) ?_;refine BP ?_;exact rT
theorem b3U{L}(O:aZ L)(W:∀p t,cZ dM L p t=0) n s N:gQ L n s N=[]:=by
 have h:=Ix.PL O (n:=n) (b:=bT n s) (ls:=[]) bK (fun k=>⟨fun h=>(by cases h),fun⟨_,t,Z⟩=>absurd (W _ t) Z⟩) (fun x hx=>by cases hx);rw[←Ix.a5l,←h,List.take_nil]
theorem b9d Z L n s (hs:s.length≤100000000) O I (W:OV I Z L):yZ aA 160 [ptr Z 0,str n,str s,i64 O] I [] (fun e _ H'=>∃v,e= .returned v∧b1O (gQ L n s O) v H'):=by
 obtain⟨vm,wm,_,hI,-,-,hK⟩:=W.parts;have hv:∀e∈L,IL e.2:=by
  obtain⟨o,h1,_⟩:=W;cases o with
  |none=>rw[show L=[] from h1];intro e he;cases he
  |some s=>exact EU.vok h1
 rcases hK with⟨rfl,hz⟩|⟨b,l,c,N,rfl,hN,hq⟩
 ·rw[b3U W.GH hz];exact(b3T Z vm wm n s hs O I hI).mono fun e _ H' _ ⟨h1,h2⟩=>⟨_,h1,.inl ⟨rfl,rfl,h2⟩⟩
 exact b3k Z b vm wm l c N L n s hs O I W.GH hN (keys_le hN W.GH W.big hv) hI hq
theorem b7k n s (W:s.length≤100000000) I:yZ aA 32 [.pointer none,str n,str s] I [] (fun e _ H'=>e= .returned (.slice none 0 0)∧H'=[]):=by
 refine zT func32 fun w0 _=>?_;refine BH (PO s oM _) ?_;intro _ _ _ _ N;obtain⟨_,h,O,rfl⟩:=N;cases h;obtain⟨wp,_,rfl⟩:=KQ O;refine zZ ?_;exact rT
theorem b2n n s (W:s.length≤100000000) I:yZ aA 33 [.pointer none,str n,str s] I [] (fun e _ H'=>e= .returned (.slice none 0 0)∧H'=[]):=by
 refine zT func33 fun w0 _=>?_;refine yU 3 ?_;intro _ _;refine yU 1 ?_;intro _ _;refine BH (PO s oM _) ?_;intro _ _ _ _ N;obtain⟨_,h,O,rfl⟩:=N;cases h;obtain⟨wp,_,rfl⟩:=KQ O;refine yU 1 ?_;intro _ _;refine BP ?_;exact rT
theorem b7L n s I:yZ aA 34 [.pointer none,str n,str s] I [] (fun e _ H'=>e= .returned (.slice none 0 0)∧H'=[]):=by
 refine zT func34 fun w0 _=>?_;refine zZ ?_;exact rT
theorem b7u n s N I:yZ aA 160 [.pointer none,str n,str s,i64 N] I [] (fun e _ H'=>e= .returned (.slice none 0 0)∧H'=[]):=by
 refine zT func160 fun w0 _=>?_;refine zZ ?_;exact rT
theorem b6a t I:Pure aA 28 [.pointer none,zW t] I (str []):=by
 refine aN ?_;refine zT func28 fun w0 _=>?_;refine yU 3 ?_;intro _ _;refine BP ?_;exact rT
abbrev FB (e:MO):aB×List Ix.V:=(e.t,fZ e.fs)
theorem a4i{N:List MO}{i e}(h:N[i]?=some e):bV ((N.take (i+1)).map FB) []=Ix.JR e.t (fZ e.fs) (bV ((N.take i).map FB) []):=by
 rw[SQ FB h];unfold bV;rw[List.foldl_append];rfl
def ES (I:Heap) (es:List MO) (v:Value):Prop:=zU FI I es v∧∀e∈es,PN I e.fs e.v
theorem ES.mono{I O W v}(h:ES I W v)(N:Le I O):ES O W v:=⟨h.1.mono N,fun e Z=>(h.2 e Z).mono N⟩
structure BA where
  i:Nat
  J:Heap
  o:Option Ist
theorem a4Y{e p n c}(h:e.v= .slice p n c):(FI e).all gG=true:=by unfold FI;rw[h];rfl
theorem b6B N v (ag:N.length≤1000)(aa:∀e∈N,UR e.fs) I (a4:ES I N v):yZ aA 48 [v] I [] (fun e I' H'=>∃ib o,e= .returned (ptr ib 0)∧MK I' o (bV (N.map FB) [])∧H'=ixH ib o):=by
 obtain⟨p,c,rfl,_,-⟩:=id a4.1;refine zT func48 fun w0 _=>?_;refine yU 7 ?_;refine dQ (zS (pl:= #[(0,1),(1,1),(2,1)]) rfl rfl zeroValue114 rfl XY (fun w=>by simp[VO,VI]) fD) ?_;refine yU 1 ?_;intro b1 _;refine yU 12 ?_;refine dK (ι:=BA) (fun y=>y.i≤N.length∧Le I y.J∧MK y.J y.o (bV ((N.take y.i).map FB) [])∧(bV ((N.take y.i).map FB) []).length≤y.i) (fun y=>N.length-y.i) (fun y=>[(3,ptr b1 0),(8,.slice p N.length c),(9,i64 (N.length:Int)),(10,i64 (y.i:Int))]) (fun y=>y.J) (fun y=>ixH b1 y.o) ⟨0,_,none⟩ ⟨aS _,fF _,rfl,bD _⟩ rT rfl rfl ?_;rintro⟨i,_,o⟩ ⟨hi,a1,W,a7⟩;dsimp only at hi a1 W a7 ⊢;have hE:=a4.mono a1;refine AP ?_ ?_<;>intro ab a8
 ·have a5:i<N.length:=oM;obtain⟨e0,Z⟩:∃e,N[i]?=some e:=⟨_,CX a5⟩;have a6:=ET Z;obtain⟨⟨_,c1,ac,_,hp⟩,a2⟩:=id hE;cases ac;obtain⟨_,eo,_,_,_,_,rfl,a3,ad⟩:=hp (BG a5);have a0:=a2 e0 a6;clear a2;obtain⟨_,_,ae,-,-⟩:=id a0.1;refine BD (eo+i*5) ?_;refine dQ (CO isAgg59 NG (bY a3) (CU GX ad Z)) ?_;refine yU 1 ?_;intro _ _;refine eF rfl (BN 0 rfl rfl rfl rfl rfl (a4Y ae) NG rfl rfl lsA yX.z ?_);refine LC [_] (b4Q b1 o (bV ((N.take i).map FB) []) e0 _ W oM (aa e0 a6) a0) ?_;intro _ _ _ O af;have hE:=hE.mono O;have W:=W.mono O;have a1:=a1.mono O;have a3:=O _ _ a3;have a0:=a0.mono O;obtain⟨o1,h,a9,rfl⟩:=af;cases h;refine yU 7 ?_;refine dL (eP Keeps.r) ?_;refine bP ⟨i+1,_,o1⟩ ⟨dO,a1,by dsimp only;rw[a4i Z];exact a9,by dsimp only;rw[a4i Z];have:=a0w e0.t (fZ e0.fs) (bV ((N.take i).map FB) []);omega⟩ dO rT rfl rfl
 rw[aH (oM:N.length≤i)]at W;refine zZ ?_;exact⟨_,o,rfl,W,rfl⟩
end Go.Proofs.YtekmeaoblpfnpaaGreatDoor
end
namespace Go.Sx
open Go
section
variable {P:Program} {K i j:TypeId} {f0 f1:Field}
def EqK {α:Type} [BEq α] (P:Program) (K:TypeId) (kv:α→Array Value):Prop:=∀a b w,(Op.equalIn 10000 K (.agg (kv a)) (.agg (kv b))).run P w= .ok (a == b) w
theorem EqK.b1S(Z:P.underlying K=some (.struct #[f0,f1]))(hp:P.stoodInHeld K=false)(n0:f0.name≠ "_")(n1:f1.name≠ "_")(o0:f0.offset=0)(o1:f1.offset=1)(t0:f0.type=i)(N:f1.type=i)(O:P.underlying i=some (.int .i64))(W:∀w,(isAgg i).run P w= .ok false w):
 EqK P K (fun a:Int×Int=> #[i64 a.1,i64 a.2]):=by
 subst t0;exact fun a b w=>YZ Z hp n0 n1 o0 o1 W (N▸W) (x0:=i64 a.1) (x1:=i64 a.2) (y0:=i64 b.1) (y1:=i64 b.2) w (fun d w=>run_equalIn_int w d _ .i64 .i64 a.1 b.1 O) (fun d w=>run_equalIn_int w d _ .i64 .i64 a.2 b.2 (N▸O)) 9998
end
section
variable {cx:Cx} {S:World→Prop} {ev0:Env} {o:Oper} {α:Type} [BEq α] {t:TypeId} {kv:α→Array Value}
theorem b9z{x y U a b}{vs N:List Value}(ho:o.op= .binOp .eql t x y U)(W:ev ev0 x=some (.agg vs.toArray))(Z:ev ev0 y=some (.agg N.toArray))(a0:vs.toArray=kv a)(a1:N.toArray=kv b)
 (hK:EqK cx.P t kv)(hq:cx.P.eqGuardType cx.P.depth t=false):BJ cx o ev0 S (.bool (a == b)):=by
 intro w0 w hw _;have O:(eqGuard .eql t x y (.agg vs.toArray) (.agg N.toArray)).run cx.P w= .ok () w:=by
  simp[eqGuard,hq]
 have h1:=run_eql_struct (P:=cx.P) w t vs.toArray N.toArray;rw[a0]at h1 O W;rw[a1]at h1 O Z;rw[hK a b w]at h1;simp[execOp,ho,hw.eval W,hw.eval Z,O,h1]
theorem b9u{x y U a b}{vs N:List Value}(ho:o.op= .binOp .neq t x y U)(W:ev ev0 x=some (.agg vs.toArray))(Z:ev ev0 y=some (.agg N.toArray))(a0:vs.toArray=kv a)(a1:N.toArray=kv b)
 (hK:EqK cx.P t kv)(hq:cx.P.eqGuardType cx.P.depth t=false):BJ cx o ev0 S (.bool (a != b)):=by
 intro w0 w hw _;have O:(eqGuard .neq t x y (.agg vs.toArray) (.agg N.toArray)).run cx.P w= .ok () w:=by
  simp[eqGuard,hq]
 have h1:=run_neq_struct (P:=cx.P) w t vs.toArray N.toArray;rw[a0]at h1 O W;rw[a1]at h1 O Z;rw[hK a b w]at h1;simp[execOp,ho,hw.eval W,hw.eval Z,O,h1,bne]
end
section
variable {cx:Cx} {S:World→Prop} {ev0:Env} {o:Oper}
theorem a5q{x T k N v}(O:o.op= .field T x k)(W:ev ev0 x=some N)(Z:∀w,(Instr.field T N k).run cx.P w= .ok v w):BJ cx o ev0 S v:=by
 intro w0 w hw _;simp[execOp,O,hw.eval W,Z]
end
theorem Pure.borrow{P f args I B v}(N:Enters P f)(h:∀J,Le I J→(∀p∈B,J p.1=some p.2)→Pure P f args J v):yZ P f args I B (fun e _ H'=>e= .returned v∧H'=B):=by
 refine gX N fun O W=>?_;refine(yZ.borrow (h (TG B I) (a8c W) (WB O))).mono fun e _ H' _ ⟨J,K,⟨h1,h2,h3⟩,Z,_,_⟩=>⟨h1,?_⟩;subst h3;rw[Z,bW]
