/-
  Own texts on the laws of the seat, joined: the logic, and contracts of functions. Conditions: none.
-/
import Derived.Test.YtekmeaoblpfnpaaGreatDoorNmA
import Derived.Test.YtekmeaoblpfnpaaGreatDoorPA12
set_option linter.all false
set_option maxRecDepth 100000
set_option maxHeartbeats 40000000
namespace Go.Proofs.YtekmeaoblpfnpaaGreatDoor
open Go Go.Shelf Go.RowKit Go.Lib Go.Sort
abbrev FW:=List UInt8×Ix.Rec
abbrev NM (x:FW):List Value:=[Sx.str x.1,.int .i64 x.2.1,.int .i64 x.2.2]
theorem KA x:(NM x).length=3:=rfl
def b1f (x y:FW):Int:=NK (MC x.1 y.1) (a1h x.2 y.2)
def RN (x y:FW):Prop:=x.1<y.1∨(x.1=y.1∧Ix.JJ x.2 y.2=true)
theorem b6R x:¬RN x x:=by
  rintro(h|⟨_,h⟩)
  · exact List.lt_irrefl _ h
  rw[Ix.GR]at h;cases h
theorem a4H{x y z}(h1:RN x y)(h2:RN y z):RN x z:=by
  rcases h1 with h1|⟨h1,h1'⟩<;>rcases h2 with h2|⟨h2,h2'⟩
  · exact .inl (List.lt_trans h1 h2)
  · exact .inl (h2▸h1)
  · exact .inl (h1▸h2)
  exact .inr ⟨h1.trans h2,Ix.NY h1' h2'⟩
theorem a8B x y:RN x y∨x=y∨RN y x:=by
  by_cases h:x.1<y.1
  · exact .inl (.inl h)
  by_cases h2:y.1<x.1
  · exact .inr (.inr (.inl h2))
  have he:x.1=y.1:=List.le_antisymm (List.not_lt.1 h2) (List.not_lt.1 h);rcases Ix.a0r x.2 y.2 with g|g|g
  · exact .inl (.inr ⟨he,g⟩)
  · exact .inr (.inl (Prod.ext he g))
  exact .inr (.inr (.inr ⟨he.symm,g⟩))
theorem YQ x y:ltOf b1f x y=true↔RN x y:=by
  have hr:=XE x.2 y.2;unfold ltOf at hr ⊢;unfold b1f RN NK MC;rw[decide_eq_true_eq]
  by_cases h:x.1<y.1
  · rw[if_pos h];simp[h]
  rw[if_neg h]
  by_cases h2:y.1<x.1
  · have hne:x.1≠y.1:=fun e=>h (e▸h2);rw[if_pos h2];simp[h,hne]
  have he:x.1=y.1:=List.le_antisymm (List.not_lt.1 h2) (List.not_lt.1 h);rw[if_neg h2,if_neg (by simp),←hr,decide_eq_true_eq];exact⟨fun g=> .inr ⟨he,g⟩,fun g=>g.elim (fun g=>absurd g h) fun g=>g.2⟩
theorem c1I:SWO (ltOf b1f) where
  irrefl x:=Bool.eq_false_iff.2 fun h=>b6R x ((YQ x x).1 h)
  trans x y z h1 h2:=(YQ x z).2 (a4H ((YQ x y).1 h1) ((YQ y z).1 h2))
  ntrans x y z h1 h2:=by
    rw[Bool.eq_false_iff,Ne,YQ]at *;intro h;rcases a8B x y with g|g|g
    · exact h1 g
    · subst g;exact h2 h
    exact h2 (a4H g h)
theorem a3E{base} l g (hg:Sx.BL base 3 l.length (l.flatMap NM) g)(hl:l.length≤100000000000000) I:Sx.yY Tryz.prog 55 [Sx.gV l.length g,.func (.func 56) #[] #[]] I (Sx.gH 123 (l.flatMap NM) g)
    (fun e _I' H'=>∃l':List FW,l'.Perm l∧l'.Pairwise (fun p q=>¬RN q p)∧e= .returned (.tuple #[])∧H'=Sx.gH 123 (l'.flatMap NM) g):=by
  cases g with
  | none=>
    obtain⟨h1,h2⟩:=hg;have h0:l=[]:=List.length_eq_zero_iff.1 h1;subst h0;exact(Sx.Pure.of_same (Sx.Enters.of Tryz.func55 (by decide) rfl) (fun w _=>AnyF.slices_SortFunc_none Tryz.c2y none 0 (.func (.func 56) #[] #[]) w)).mono fun e I' H' _ ⟨h1,_,h3⟩=>⟨[],List.Perm.refl _,List.Pairwise.nil,h1,h3⟩
  | some q=>
    obtain⟨b,c,sp⟩:=q;refine⟨Sx.Enters.of Tryz.func55 (by decide) rfl,fun w hw=>?_⟩;have hb:=hw.2.1 _ (.head _);have hlt:b<w.heap.size:=by
      rcases Nat.lt_or_ge b w.heap.size with h|h
      · exact h
      rw[Array.getElem?_eq_none h]at hb;cases hb
    have eg:∀args w,(callFunc 56 args).run Tryz.prog w= .ok (.enter 56 args) w:=enters_of Tryz.func56 (by kernel_rfl) rfl;have hH:HoldsK NM 3 w b 0 l.toArray:=by
      unfold HoldsK;rw[Sx.QG KA];exact Sx.a1s hb
    have hcmp:CmpLays Tryz.prog 56 #[] NM 3 b1f b 0 l.toArray.size w:=fun m os dk _ x y=>c2Y x.1 y.1 x.2.1 x.2.2 y.2.1 y.2.2 _;have hcon:=AnyQ.slices_SortFunc Tryz.c2y 3 Tryz.isAgg123 Tryz.sizeOf123 NM KA (fun x v hv=>by
      simp only[List.mem_cons,List.not_mem_nil,or_false]at hv;rcases hv with rfl|rfl|rfl<;>rfl) b1f c1I 56 #[] b 0 c l.toArray w eg hcmp hH hlt (by simp;omega)
    refine hcon.mono fun e w' ⟨h1,d',n,os,h2,h3,h4⟩=>?_;rw[List.size_toArray]at h2 h3;have hp:=Sx.a7d h2;have hds:d'.size=l.length:=by have:=hp.length_eq;simpa using this
    rw[←hds]at h3;refine⟨I,_,?_,d'.toList,hp,(Sx.sorted_in h3).imp fun h=>?_,h1,rfl⟩
    · rw[h4];unfold sortWorldK putRowK;rw[show d'=d'.toList.toArray from(Array.toArray_toList (xs:=d')).symm,Sx.QG KA];exact Sx.St.c1w n os hw (by rw[Sx.DN KA,Sx.DN KA,hp.length_eq])
    exact fun g=>Bool.eq_false_iff.1 h ((YQ _ _).2 g)
theorem b7D{L}{ts:List Ix.Rec}(hn:ts.Nodup){l:List FW}(hp:l.Perm (ts.map fun t=>(Ix.UH L t,t)))(ho:l.Pairwise fun p q=>¬RN q p):(l.map (·.2)).Pairwise (Ix.XT L)∧∀t,t∈l.map (·.2)↔t∈ts:=by
  have hk:∀x∈l,x.1=Ix.UH L x.2:=fun x hx=>by
    obtain⟨t,_,rfl⟩:=List.mem_map.1 (hp.mem_iff.1 hx);rfl
  have hm:(l.map (·.2)).Perm ts:=by
    have:=hp.map (·.2);rw[List.map_map]at this;exact this.trans (.of_eq (List.map_id _))
  refine⟨?_,fun t=>hm.mem_iff⟩;have hnd:=List.nodup_iff_pairwise_ne.1 (hm.nodup_iff.2 hn);rw[List.pairwise_map]at hnd ⊢;refine(List.pairwise_iff_forall_sublist.2 fun {x y} hs=>?_);have h1:=List.pairwise_iff_forall_sublist.1 ho hs;have h2:=List.pairwise_iff_forall_sublist.1 hnd hs;have hx:=hk x (hs.subset (.head _));have hy:=hk y (hs.subset (.tail _ (.head _)));rcases a8B x y with g|g|g
  · unfold RN at g;unfold Ix.XT;rwa [hx,hy]at g
  · subst g;exact absurd rfl h2
  exact absurd g h1
end Go.Proofs.YtekmeaoblpfnpaaGreatDoor
section
namespace Go.Proofs.YtekmeaoblpfnpaaGreatDoor
open _root_.Go.Proofs.Tryz
open Go Go.Sx
theorem a4r l x v (hl:l.length≤1000000) I (hv:JH 9 I l v):Pure Tryz.prog 116 [v,str x] I (.bool (l.contains x)):=by
  obtain⟨b,c,sp,rfl,hb⟩:=hv;refine Pure.of_same (Enters.of Tryz.func116 (by decide) rfl) fun w hw=>?_;have h:=Tryz.slices_Contains_string b 0 l.length c (l.map fun y=>⟨y.toArray⟩) ⟨x.toArray⟩ w (by simp) (by omega) (fun j hj=>by
    rw[Nat.zero_add];simp at hj;refine cell_of_heap (hw.1 _ _ hb) ?_;rw[FT (x:=l[j]) (BM hj)];simp[str,BM hj])
  rw[List.take_of_length_le (by simp)]at h;have e:Lib.containsS (l.map fun y=>(⟨y.toArray⟩:ByteArray)) ⟨x.toArray⟩=l.contains x:=by
    rw[Bool.eq_iff_iff,Lib.containsS_iff,List.contains_iff_mem,List.mem_map];constructor
    · rintro⟨y,hy,he⟩;have e:y=x:=by simpa using congrArg ByteArray.data he
      exact e▸hy
    exact fun h=>⟨x,h,rfl⟩
  rw[e]at h;exact h
def a1r (q:Cq.Qn):Prop:=∀(p:Option Addr) (c:Nat) (I:Heap),PS I q.ps p→q.size≤1000000000→q.wide≤1000000000→Pure Tryz.prog 64 [.agg (zT q p c).toArray] I (i64 (Cq.deep q))
theorem b2Z I:yY Tryz.prog 117 [] I [] (fun e I' H'=>(∃v,e= .returned v∧JH 9 I' Cq.indexes v)∧H'=[]):=by
 refine zQ Tryz.func117 fun w0 hw0=>?_;refine yU 8 ?_;intro b1 hb1;refine yU 4 ?_;refine Ej.persist hb1 (fun I3 hle2 hb1i=>?_);refine zV ?_;exact⟨⟨_,rfl,b1,6,[],rfl,hb1i⟩,rfl⟩
theorem a9E I:yY Tryz.prog 118 [] I [] (fun e I' H'=>(∃v,e= .returned v∧JH 9 I' Cq.relations v)∧H'=[]):=by
 refine zQ Tryz.func118 fun w0 hw0=>?_;refine yU 8 ?_;intro b1 hb1;refine yU 4 ?_;refine Ej.persist hb1 (fun I3 hle2 hb1i=>?_);refine zV ?_;exact⟨⟨_,rfl,b1,6,[],rfl,hb1i⟩,rfl⟩
theorem b6L q (ih:∀q',Cq.Qn.size q'<q.size→a1r q'):a1r q:=by
 intro p c I hps hsz hwd;have hwi:q.i.length+q.r.length+q.t.length≤1000000000:=by unfold Cq.Qn.wide at hwd;omega
 refine yY.toPure ?_;refine zQ Tryz.func64 fun w0 hw0=>?_;refine yU 3 ?_;intro b1 hb1;refine zK (fun hc2 hc2p=>?_) (fun hc2 hc2p=>?_)
 ·have hk:q.k=1:=by omega
  refine yU 2 ?_;refine Cj.EX [0] [] 18 (by kernel_rfl) ?_;refine AP (b2Z _) ?_;intro v4 I5 H6 hle7 hp8;have hps:=hps.mono hle7;obtain⟨⟨v4x,hv4,hsv4⟩,rfl⟩:=hp8;cases hv4;refine zX (a4r Cq.indexes _ _ (by decide) _ hsv4) ?_;refine yU 3 ?_;refine JA.split 13 rfl (fun hg10=>?_) (fun hg10=>?_)
  ·refine AB ?_;refine⟨?_,rfl⟩;rw[Cq.b7m hk]
   simp_all<;>omega
  refine AP (a9E _) ?_;intro v12 I13 H14 hle15 hp16;have hps:=hps.mono hle15;have hsv4:=hsv4.mono hle15;obtain⟨⟨v12x,hv12,hsv12⟩,rfl⟩:=hp16;cases hv12;refine zX (a4r Cq.relations _ _ (by decide) _ hsv12) ?_;refine yU 4 ?_;refine JA.split 20 rfl (fun hg18=>?_) (fun hg18=>?_)
  ·refine AB ?_;refine⟨?_,rfl⟩;rw[Cq.b7m hk]
   simp_all<;>omega
  refine zK (fun hc20 hc20p=>?_) (fun hc20 hc20p=>?_)
  ·refine AB ?_;refine⟨?_,rfl⟩;rw[Cq.b7m hk]
   simp_all<;>omega
  refine AB ?_;refine⟨?_,rfl⟩;rw[Cq.b7m hk]
  simp_all<;>omega
 have hk:q.k≠1:=by omega
 refine FM (fun hg21=>?_) (fun hg21=>?_)
 ·refine AB ?_;rw[Cq.b9g hk (.inl (by have h:=hg21;simp at h;omega))];exact⟨rfl,rfl⟩
 refine FM (fun hg23=>?_) (fun hg23=>?_)
 ·refine AB ?_;rw[Cq.b9g hk (.inr (.inl (by have h:=hg23;simp at h;omega)))];exact⟨rfl,rfl⟩
 refine yU 4 ?_;refine J.zg (AZ rfl rfl rfl (by first|omega|(simp only[List.length_append];omega)|(simp;omega))) ?_;refine yU 2 ?_;refine J.zg (AZ rfl rfl rfl (by first|omega|(simp only[List.length_append];omega)|(simp;omega))) ?_;refine FM (fun hg25=>?_) (fun hg25=>?_)
 ·refine AB ?_;rw[Cq.b9g hk (.inr (.inr (.inl (bne_iff_ne.1 hg25))))];exact⟨rfl,rfl⟩
 refine zK (fun hc27 hc27p=>?_) (fun hc27 hc27p=>?_)
 ·refine AB ?_;rw[Cq.b9g hk (.inr (.inr (.inr (by have h:=hc27;simp at h;omega))))];exact⟨rfl,rfl⟩
 have hg29:=hg21;have hg34:=hg23;have hg45:=hg25;have hg50:=hc27;have hgood:¬(q.k<2∨q.k>4∨q.i≠[]∨q.r≠[]∨q.t≠[]∨q.ps.len≠2):=by
   simp at hg29 hg34 hg45 hg50;simp[hg45];omega
 obtain⟨qa,qb,htw⟩:=Cq.Qs.b2h (ps:=q.ps) (by omega)
 change q.Two qa qb at htw
 have hdt:=Cq.b9V hk hgood htw;have hsz2:=htw.size;have hwd2:=htw.wide;have hdb:=Cq.b4H qb;have hda:=Cq.b4H qa;have hga:=Cq.b4r qa;have hgb:=Cq.b4r qb;have hln:=htw.len;obtain⟨bl,off,cs',T,fr,pa,ca,pb,cb,rfl,hbl,hca,hcb,hkb,hpa,hpb⟩:=hps.KO htw;refine yU 3 ?_;refine Cj.EX [0] [] 12 (by kernel_rfl) ?_;have hbl_7:=hbl;refine yU 2 ?_;refine JA.fix AO (fun fx28=>?_);refine JA.tk 2 rfl fx28 (FX (off':=off) BP yV) ?_;refine JA.tk 3 rfl fx28 (BJ zL yV (yZ.OA hbl_7) hca) ?_;refine JA.tk 5 rfl fx28 (CV (off':=4) tU32 DZ) ?_;refine JA.tk 6 rfl fx28 (DF QS (yZ.atC 0 rfl)) ?_;refine JA.tk 7 rfl fx28 (FX (off':=off+5) BP yV) ?_;refine JA.tk 8 rfl fx28 (BJ zL yV (yZ.OA hbl_7) hcb) ?_;refine zO 4 rfl (JC rfl rfl rfl rfl rfl (ih qa hsz2.1 pa ca _ hpa (by omega) (by omega)) ?_);refine⟨⟨(Le.refl _),(HSub.c 0 rfl HSub.n),CSub.n⟩,?_⟩;refine zO 9 rfl (JC rfl rfl rfl rfl rfl (ih qb hsz2.2 pb cb _ hpb (by omega) (by omega)) ?_);refine⟨⟨(Le.refl _),(HSub.c 0 rfl HSub.n),CSub.n⟩,?_⟩;refine JA.fix AO (fun fx29=>?_);refine JA.tk 10 rfl fx29 EP ?_;refine JA.tk 11 rfl fx29 EP ?_;refine EW ?_;refine Ej.seq (Cj.seq (Cj.sr (J.z qq2 ?_)));refine J.z qq2 ?_;refine J.z (NT rfl rfl rfl) ?_;refine J.ev 63 (i64 (min (Cq.deep qa) (Cq.deep qb))) rfl (by congr 1;omega) ?_;refine zK (fun hc30 hc30p=>?_) (fun hc30 hc30p=>?_)
 ·refine AB ?_;rw[hdt,if_pos (by omega)];exact⟨rfl,rfl⟩
 refine zW (off+5) ?_;refine yU 1 ?_;refine J.z (DU OG (yZ.LK hbl) hkb) ?_;refine zK (fun hc31 hc31p=>?_) (fun hc31 hc31p=>?_)
 ·have hku:Cq.up qb.k=1:=by have h:=hc31;simp at h;simp[Cq.up,h]
  refine yU 10 ?_;refine J.z (SK rfl rfl rfl) ?_;refine J.ev 75 (i64 (max (Cq.deep qa) (Cq.deep qb+1))) rfl (by congr 1;omega) ?_;refine AB ?_;refine⟨?_,rfl⟩;rw[hdt,if_neg (by omega),hku];simp
 have hku:Cq.up qb.k=0:=by have h:=hc31;simp at h;simp[Cq.up,h]
 refine yU 6 ?_;refine J.z (SK rfl rfl rfl) ?_;refine J.ev 75 (i64 (max (Cq.deep qa) (Cq.deep qb))) rfl (by congr 1;omega) ?_;refine AB ?_;refine⟨?_,rfl⟩;rw[hdt,if_neg (by omega),hku];simp
theorem c3C q:a1r q:=by
  suffices ∀n (q:Cq.Qn),q.size<n→a1r q from this _ q (Nat.lt_succ_self _)
  intro n
  induction n with
  |zero=>intro q h;omega
  |succ n ih=>intro q h;exact b6L q fun q' h'=>ih q' (by omega)
theorem a0t q p c (hsz:q.size≤1000000000)(hwd:q.wide≤1000000000) I (hps:PS I q.ps p):Pure Tryz.prog 21 [.agg (zT q p c).toArray] I (.bool (Cq.right q)):=by
 refine yY.toPure ?_;refine zQ Tryz.func21 fun w0 hw0=>?_;refine yU 3 ?_;intro b1 hb1;refine zX (c3C q p c _ hps hsz hwd) ?_;refine FM (fun hg2=>?_) (fun hg2=>?_)
 ·refine AB ?_;refine⟨?_,rfl⟩;rw[←Cq.a6h]
  simp_all<;>omega
 refine AB ?_;refine⟨?_,rfl⟩;rw[←Cq.a6h]
 simp_all<;>omega
end Go.Proofs.YtekmeaoblpfnpaaGreatDoor
end
section
namespace Go.Proofs.YtekmeaoblpfnpaaGreatDoor
open _root_.Go.Proofs.Tryz
open Go Go.Sx
structure TF where
  vis:ML Ix.Rec
  rest:ML Ix.Rec
  g:Gs
def fnd (L:Ix.Ix) (vis:ML Ix.Rec):List FW:=(vis.map (·.1)).map fun t=>(Ix.UH L t,t)
theorem a4P L vis x:fnd L (vis++[x])=fnd L vis++[(Ix.UH L x.1,x.1)]:=by
  unfold fnd;rw[List.map_append,List.map_append];rfl
theorem c4c L vis:(fnd L vis).length=vis.length:=by unfold fnd;rw[List.length_map,List.length_map]
theorem b6e{L q}(hf:Cq.form q=true)(h:∀t,Ix.sat L q t=false):Ix.a3U L q []:=
  Ix.a9R hf List.Pairwise.nil fun t=>by rw[h t];simp
theorem b6l{L q}(hf:Cq.form q=true){m k}(hm:FK m k (Ix.sat L q)){vis}(hp:vis.Perm m){ls:List FW}(hpp:ls.Perm (fnd L vis))(ho:ls.Pairwise fun p q=>¬RN q p):Ix.a3U L q (ls.map (·.2)):=by
  have hn:(vis.map (·.1)).Nodup:=((hp.map _).nodup_iff.2 hm.1.1);obtain⟨h1,h2⟩:=b7D hn hpp ho;exact Ix.a9R hf h1 fun t=>by rw[h2,(hp.map _).mem_iff,hm.mem]
theorem a5q{ls:List FW}{k x}(h:ls[k]?=some x):(ls.take (k+1)).map (·.2)=(ls.take k).map (·.2)++[x.2]:=XO _ h
theorem b8H{ls:List FW}(h:ls.Perm []):ls=[]:=h.eq_nil
theorem c2Q xv L q p c (hsz:q.size≤1000000000)(hwd:q.wide≤10000000)(hR:Cq.right q=true)(htk:Ix.TOK L) I (hps:PS I q.ps p)(hx:KQ I xv L)(hT:LZ I):yY Tryz.prog 18 [xv,.agg (zT q p c).toArray] I []
    (fun e _ H'=>∃(r:List Ix.Rec) (g:Gs),Ix.a3U L q r∧BL 0 2 r.length (r.flatMap recC) g∧e= .returned (.tuple #[gV r.length g,i64 0])∧H'=gH 54 (r.flatMap recC) g):=by
 have hform:Cq.form q=true:=by unfold Cq.right at hR;rw[Bool.and_eq_true]at hR;exact hR.1
 have hbig:=hx.big;refine zQ Tryz.func18 fun w0 hw0=>?_;refine yU 3 ?_;intro b1 hb1;refine zX (a0t q p c hsz (by omega) _ hps) ?_;refine J.ev 12 (.bool true) rfl (congrArg Value.bool hR) ?_;refine AP (a2b xv L htk q p c _ hps hx hT hwd hform) ?_;intro v3 I4 H5 hle6 hp7;have hps:=hps.mono hle6;have hx:=hx.mono hle6;have hT:=hT.mono hle6;obtain⟨ws,h,hset,rfl⟩:=hp7;cases h;rcases id hset with⟨rfl,hS⟩|⟨sb,sm,sk,rfl,hm,hsb⟩
 ·

  refine J.op rfl (LQ rfl rfl rfl rfl IE ?_);intro b8 hb8;refine yU 3 ?_;refine Cj.rounds 1 ?_;refine Rj.succ ?_;refine yU 2 ?_;refine J.op rfl (MV 0 rfl rfl rfl rfl rfl ?_);refine MJ [_,_] (a3E (base:=0) [] none ⟨rfl,rfl⟩ (by decide) _) ?_;rintro v9 I9 H9 hle9 ⟨ls,hpp,hpo,h,rfl⟩;cases h;have hls:=b8H hpp;subst hls;have hrun:Ix.a3U L q (([]:List FW).map (·.2)):=b6e hform hS;have hps:=hps.mono hle9;have hx:=hx.mono hle9;have hT:=hT.mono hle9;refine yU 16 ?_;refine Cj.rounds 1 ?_;refine Rj.succ ?_;refine yU 6 ?_;refine Cj.cond rfl (fun hc10=>Bool.noConfusion (Eq.trans (Eq.symm (by first|rfl|decide)) hc10)) (fun hc10=>?_);refine AB ?_;exact⟨_,none,hrun,⟨rfl,rfl⟩,rfl,rfl⟩
 have hml:sm.length≤100000:=by
   have h9:=hm.len (l:=L.map (·.1)) fun t ht=>Ix.ZP L _ q (Nat.lt_succ_self _) hform ht;rw[List.length_map]at h9;omega
 refine J.op rfl (NV (kv:=zZ) (l:=sm) rfl rfl rfl rfl IE (yZ.LK hsb) ?_);intro b11 hb11;refine yU 3 ?_;refine Cj.keep (Keeps.k (Keeps.d Keeps.n)) ?_;refine Cj.loop (ι:=TF) (fun y=>(y.vis++y.rest).Perm sm∧BL w0.heap.size 3 (fnd L y.vis).length ((fnd L y.vis).flatMap NM) y.g) (fun y=>y.rest.length) (fun y=>[(0,xv),(6,gV (fnd L y.vis).length y.g),(17,ptr b11 0)]) (fun y=>_) (fun y=>(b11,WT sb sk y.vis sk)::gH 123 ((fnd L y.vis).flatMap NM) y.g) ⟨[],sm,none⟩ ⟨.refl _,rfl,rfl⟩ ⟨rfl,rfl,rfl,trivial⟩ rfl rfl ?_;rintro⟨vis,rest,g⟩ ⟨hp,hg⟩;dsimp only at hp hg ⊢;have hpl0:=hp.length_eq;rw[List.length_append]at hpl0;have hfl:=c4c L vis;refine yU 2 ?_;refine J.op rfl (QJ (kv:=zZ) (l:=sm) 0 rfl rfl rfl rfl rfl (yZ.LK hsb) hm.1.2.2 (Nat.le_refl _) hm.1.2.1 hp ?_ ?_)
 ·rintro x rest2 H9 hrx hpx ⟨-,hset⟩;simp only[List.set_cons_zero,List.set_cons_succ]at hset;subst hset;have hxm:x∈sm:=hpx.mem_iff.1 (List.mem_append_left _ (List.mem_append_right _ (.head _)));refine yU 10 ?_;refine J.z (VY (kv:=zZ) (l:=sm) rfl rfl (yZ.at 0 rfl) (yZ.LK hsb) hxm hm.1.2.1) ?_;refine yU 2 ?_;intro b13 hb13;refine yU 3 ?_;refine Cj.EX [0,1] [] 9 (by kernel_rfl) ?_;have hsb_7:=hsb;refine zX (c0k xv L x.1 _ hx) ?_;refine⟨⟨(Le.refl _),(HSub.c 0 rfl (HSub.c 1 rfl HSub.n)),CSub.n⟩,?_⟩;refine JA.fix AO (fun fx15=>?_);refine JA.tk 5 rfl fx15 (zN (pl:= #[(0,1),(1,2)]) rfl rfl Tryz.zeroValue123 rfl c6f (fun w=>by simp[EJ,AV]) (FB.part rfl rfl rfl (AL.c AL.z) (FB.part rfl rfl rfl (AL.s (AL.c (AL.c AL.z))) FB.none))) ?_;refine zO 6 rfl (ER b5C Tryz.sizeOf123 Tryz.zeroValue123 (EH.agg rfl EH.none) ?_);intro b16 hb16;refine⟨⟨(Le.refl _),(HSub.c 1 rfl (HSub.c 2 rfl HSub.n)),CSub.n⟩,?_⟩;refine zO 7 rfl (AQ (by':=31) [_,_,_] rfl rfl rfl rfl rfl b5C (.inr ⟨_,b5C⟩) (by kernel_rfl) Tryz.sizeOf123 Tryz.zeroValue123 rfl hg rfl (Src.slice (yZ.at 0 rfl) rfl rfl rfl) (by omega) ?_);intro g17 hg17;refine yU 4 ?_;refine Ej.keep (Keeps.d (Keeps.d (Keeps.k Keeps.r))) ?_;refine Ej.round ⟨vis++[x],rest2,g17⟩ ⟨hpx,by dsimp only;rw[a4P,List.length_append,List.flatMap_append];exact hg17⟩ (by have h:=hrx.length_eq;simp only[List.length_cons]at h;dsimp only;omega) ⟨rfl,by dsimp only;rw[a4P,List.length_append];rfl,rfl,trivial⟩ rfl (by dsimp only;rw[a4P,List.flatMap_append];rfl)
 intro hend;have hpv:vis.Perm sm:=by rw[hend,List.append_nil]at hp;exact hp
 refine MJ [_] (a3E (fnd L vis) g hg (by omega) _) ?_;rintro v9 I9 H9 hle9 ⟨ls,hpp,hpo,h,rfl⟩;cases h;have hll:(fnd L vis).length=ls.length:=hpp.length_eq.symm;have hgl:BL w0.heap.size 3 ls.length (ls.flatMap NM) g:=by rw[←hll];exact a1m hg (by rw[DN KA,DN KA,hll])
 have hrun:=b6l hform hm hpv hpp hpo;have hps:=hps.mono hle9;have hx:=hx.mono hle9;have hT:=hT.mono hle9;have hsb:=hle9 _ _ hsb;refine yU 3 ?_;refine Cj.perm (H':=gH 123 (ls.flatMap NM) g++[_]) List.perm_append_comm ?_;refine Cj.keepR (f:=NM) KA (by decide) hgl rfl (fun I8 hle8 hv=>?_);have hps:=hps.mono hle8;have hx:=hx.mono hle8;have hT:=hT.mono hle8;have hsb:=hle8 _ _ hsb;obtain⟨pv,cv,hve⟩:=CQ hv;refine Cj.ev 6 (.slice pv ls.length cv) rfl (by rw[hll];exact hve) ?_;rw[hve]at hv;refine yU 13 ?_;refine Cj.keep (Keeps.d Keeps.n) ?_;refine Cj.loop (ι:=Nat×Gs) (fun y=>y.1≤ls.length∧BL w0.heap.size 2 ((ls.take y.1).map (·.2)).length (((ls.take y.1).map (·.2)).flatMap recC) y.2) (fun y=>ls.length-y.1) (fun y=>[(8,gV ((ls.take y.1).map (·.2)).length y.2),(32,.slice pv ls.length cv),(33,i64 (ls.length:Int)),(34,i64 (y.1:Int))]) (fun y=>_) (fun y=>gH 54 (((ls.take y.1).map (·.2)).flatMap recC) y.2) (0,none) ⟨Nat.zero_le _,rfl,rfl⟩ ⟨rfl,rfl,rfl,rfl,trivial⟩ rfl rfl ?_;clear hg;rintro⟨j,g⟩ ⟨hj,hg⟩;dsimp only at hj hg ⊢;have hrl:((ls.take j).map (·.2)).length=j:=by rw[List.length_map,List.length_take];omega
 refine zK (fun hc20 hc20p=>?_) (fun hc20 hc20p=>?_)
 ·have hlt:j<ls.length:=by omega
  obtain⟨x,hget⟩:∃x,ls[j]?=some x:=⟨_,BM hlt⟩;obtain⟨p1,c1,hpe,hc1,hp1⟩:=id hv;cases hpe;obtain⟨fb,fo,fcs,fty,ffr,fsp,rfl,hfb,hfd⟩:=hp1 (zU hlt);refine zW (fo+j*3) ?_;refine J.z (BJ Tryz.isAgg123 Tryz.sizeOf123 (yZ.LK hfb) (BF KA hfd hget)) ?_;refine yU 1 ?_;intro b21 hb21;refine yU 8 ?_;intro b22 hb22;refine RD 15 [_,_] hg ?_;intro g23 hg23;refine yU 8 ?_;refine Ej.keep (Keeps.d (Keeps.d Keeps.r)) ?_;refine Ej.round (j+1,g23) ⟨by dsimp only;omega,by dsimp only;rw[a5q hget,List.length_append,List.flatMap_append];exact hg23⟩ (by dsimp only;omega) ⟨by dsimp only;rw[a5q hget,List.length_append];rfl,rfl,rfl,rfl,trivial⟩ rfl (by dsimp only;rw[a5q hget,List.flatMap_append];rfl)
 refine yU 13 ?_;rw[List.take_of_length_le (by omega:ls.length≤j)]at hg ⊢;refine zV ?_;exact⟨_,g,hrun,a1O hg,rfl,rfl⟩
theorem a3D xv L q p c (hsz:q.size≤1000000000)(hwd:q.wide≤10000000)(hR:Cq.right q=true)(htk:Ix.TOK L) I (hps:PS I q.ps p)(hx:KQ I xv L)(hT:LZ I):yY Tryz.prog 18 [xv,.agg (zT q p c).toArray] I []
    (fun e _ H'=>∃(w:Value) (r:List Ix.Rec),e= .returned (.tuple #[w,i64 0])∧Ix.a3U L q r∧a0E r w H'):=
  (c2Q xv L q p c hsz hwd hR htk I hps hx hT).mono fun _ _ _ _ ⟨r,g,h1,h2,h3,h4⟩=>⟨_,r,h3,h1,by rw[h4];exact a6a rfl h2⟩
end Go.Proofs.YtekmeaoblpfnpaaGreatDoor
end
section
namespace Go.Proofs.YtekmeaoblpfnpaaGreatDoor
open _root_.Go.Proofs.Tryz
open Go Go.Sx
theorem b9P{ps:List Ke.Sub}{i:Nat}{x}(h:ps[i]?=some x):(ps.map (·.code))[i]?=some x.code:=by rw[List.getElem?_map,h];rfl
theorem c1W{ps:List Ke.Sub}{i:Nat}{x}(h:ps[i]?=some x):(ps.map (·.text))[i]?=some x.text:=by rw[List.getElem?_map,h];rfl
theorem c1g{I k qa qb pa pb ca cb bl T}(ha:PS I qa.ps pa)(hb:PS I qb.ps pb)(h:I bl=some (yX T (zT qa pa ca++(zT qb pb cb++[])))):PS I (Ix.EC k qa qb).ps (some ⟨bl,0,none⟩):=PS.two ha hb h
theorem YJ tag ind ps v (hps:ps.length≤1000) I (hv:EY I (ps.map (·.text)) v):yY Tryz.prog 49 [str tag,str ind,str (ps.map (·.code)),v] I [] (fun e I' H'=>∃w,e= .returned (.agg (FZ ⟨tag,ind,[],w,ps⟩).toArray)∧zS MQ I' ps w∧H'=[]):=by
 obtain⟨p,c,rfl,hc,hp⟩:=hv;have hpl:(ps.map (·.text)).length=ps.length:=List.length_map _;refine zQ Tryz.func49 fun w0 hw0=>?_;refine yU 3 ?_;intro b1 hb1;refine J.QT (J.z qq2 ?_);refine J.z qq2 ?_;refine J.z (zN (pl:= #[(0,1),(1,1),(2,1),(3,1)]) rfl rfl a1q rfl Tryz.underlying108 (fun w=>by simp[Tryz.sizeOf106,AV]) (FB.part rfl rfl rfl (AL.c AL.z) (FB.part rfl rfl rfl (AL.s (AL.c AL.z)) FB.none))) ?_;refine J.op rfl (FV a1q ?_);intro b2 hb2;refine J.op rfl (BZ 0 WO (AL.c (AL.c (AL.c (AL.c AL.z)))) AU.z ?_);refine J.a0S (Cj.region (J.z EP ?_));refine J.ns (Cj.block ?_);refine Cj.loop (ι:=Nat×Gs) (fun y=>y.1≤ps.length∧BL w0.heap.size 2 (ps.take y.1).length ((ps.take y.1).flatMap MQ) y.2) (fun y=>ps.length-y.1) (fun y=>[(2,str (ps.map (·.code))),(3,.slice p (ps.map (·.text)).length c),(8,ptr b1 0),(9,ptr b2 0),(10,i64 (y.1:Int))]) (fun y=>_) (fun y=>(b2,yX 108 [str tag,str ind,str [],gV (ps.take y.1).length y.2])::(b1,yX 108 [str [],str [],str [],.slice none 0 0])::gH 176 ((ps.take y.1).flatMap MQ) y.2) (0,none) ⟨Nat.zero_le _,rfl,rfl⟩ ⟨rfl,rfl,rfl,rfl,rfl,trivial⟩ rfl rfl ?_;rintro⟨i,g⟩ ⟨hi,hg⟩;dsimp only at hi hg ⊢;have hsl:(ps.take i).length=i:=by rw[List.length_take];omega
 refine zK (fun hc3 hc3p=>?_) (fun hc3 hc3p=>?_)
 ·refine yU 4 ?_;have hlt:i<ps.length:=by omega
  obtain⟨x,hsget⟩:∃x,ps[i]?=some x:=⟨_,BM hlt⟩;have hsl1:(ps.take (i+1)).length=(ps.take i).length+1:=by rw[List.length_take,List.length_take];omega
  obtain⟨lb,lo,lcs,lty,lfr,sp,rfl,hlb,hld⟩:=hp (zU (k:=i) (by omega));refine Cj.EX [0,1] [] 13 (by kernel_rfl) ?_;refine yU 4 ?_;refine JA.zt 4 rfl (CB rfl rfl rfl BQ (by omega) (b9P hsget)) ?_;refine zW (lo+i) ?_;refine JA.zt 8 rfl (DU CU (yZ.OA hlb) (JV hld (c1W hsget))) ?_;refine JA.fix AO (fun fx4=>?_);refine JA.tk 9 rfl fx4 (zN (pl:= #[(0,1),(1,1)]) rfl rfl a4a rfl a2u (fun w=>by simp[tS5,AV]) (FB.part rfl rfl rfl (AL.c AL.z) (FB.part rfl rfl rfl (AL.s (AL.c AL.z)) FB.none))) ?_;refine zO 10 rfl (ER a0a a0B a4a (EH.agg rfl EH.none) ?_);intro b5 hb5;refine⟨⟨(Le.refl _),(HSub.c 1 rfl (HSub.c 2 rfl HSub.n)),CSub.n⟩,?_⟩;refine zO 11 rfl (AQ (by':=23) [_,_,_] rfl rfl rfl rfl rfl a0a (.inr ⟨_,a0a⟩) (by kernel_rfl) a0B a4a rfl hg rfl (Src.slice (yZ.at 0 rfl) rfl rfl rfl) (by omega) ?_);intro g6 hg6;refine⟨⟨(Le.refl _),(HSub.c 1 rfl (HSub.c 2 rfl HSub.n)),CSub.n⟩,?_⟩;refine JA.fix AO (fun fx7=>?_);refine JA.tk 12 rfl fx7 (CV (off':=3) Tryz.underlying108 Tryz.sizeOf106) ?_;refine JA.last 13 (by kernel_rfl) rfl rfl rfl (CS 1 rfl rfl rfl rfl (a2p _ _) (b0q _ _) Tryz.sizeOf106 rfl rfl (AL.s (AL.s (AL.s (AL.c AL.z)))) (AU.s AU.z) ?_);refine yU 8 ?_;refine Ej.keep (Keeps.d (Keeps.k (Keeps.k Keeps.r))) ?_;refine Ej.round (i+1,g6) ⟨by dsimp only;omega,by dsimp only;rw[hsl1,a0f MQ hsget];exact hg6⟩ (by dsimp only;omega) ⟨rfl,rfl,rfl,rfl,rfl,trivial⟩ rfl (by dsimp only;rw[hsl1,a0f MQ hsget];rfl)
 refine yU 8 ?_;refine J.op rfl (CS 1 rfl rfl rfl rfl rfl (by show[str tag,str ind,str [],gV _ _].all Value.oneCell'=true;simp only[List.all_cons,List.all_nil,a4c,Bool.and_true];rfl) WO rfl rfl (AL.c (AL.c (AL.c (AL.c AL.z)))) (AU.s AU.z) ?_);refine yU 3 ?_;have hfull:ps.take i=ps:=List.take_of_length_le (by omega);rw[hfull]at hg ⊢;refine Ej.perm (H':=gH _ _ _++[_,_]) List.perm_append_comm ?_;refine Ej.keepR JW (by decide) hg rfl (fun I9 hle9 hfs=>?_);refine Ej.a7D (Keeps.d (Keeps.d Keeps.n)) rfl rfl rfl (yZ.at 1 rfl) Tryz.isAgg108 WO rfl ?_;exact⟨_,rfl,hfs,rfl⟩
theorem WB i r t I:yY Tryz.prog 23 [str i,str r,str t] I [] (fun e _ H'=>e= .returned (.agg (zT (Ix.a6N i r t) none 0).toArray)∧H'=[]):=by
 refine zQ Tryz.func23 fun w0 hw0=>?_;refine yU 3 ?_;intro b1 hb1;refine J.QT (J.z qq2 ?_);refine J.z qq2 ?_;refine J.z qq2 ?_;refine J.z (zN (pl:= #[(0,1),(1,1),(2,1),(3,1),(4,1)]) rfl rfl BN rfl tU32 (fun w=>by simp[DX,DZ,AV]) (FB.part rfl rfl rfl (AL.c AL.z) (FB.part rfl rfl rfl (AL.s (AL.c AL.z)) (FB.part rfl rfl rfl (AL.s (AL.s (AL.c AL.z))) (FB.part rfl rfl rfl (AL.s (AL.s (AL.s (AL.c AL.z)))) FB.none))))) ?_;refine J.op rfl (BZ 0 yV (AL.c (AL.c (AL.c (AL.c (AL.c AL.z))))) AU.z ?_);refine J.ns (Cj.ret ?_);refine Ej.a7D (Keeps.d Keeps.n) rfl rfl rfl (yZ.at 0 rfl) zL yV rfl ?_;exact⟨rfl,rfl⟩
theorem both_ok k qa qb pa pb ca cb I (ha:PS I qa.ps pa)(hb:PS I qb.ps pb):yY Tryz.prog 35 [i64 k,.agg (zT qa pa ca).toArray,.agg (zT qb pb cb).toArray] I [] (fun e I' H'=>(∃p c,e= .returned (.agg (zT (Ix.EC k qa qb) p c).toArray)∧PS I' (Ix.EC k qa qb).ps p)∧H'=[]):=by
 refine zQ Tryz.func35 fun w0 hw0=>?_;refine yU 3 ?_;intro b1 hb1;refine yU 1 ?_;intro b2 hb2;refine yU 1 ?_;intro b3 hb3;refine yU 8 ?_;intro b4 hb4;refine J.persist hb4 (fun I6 hle5 hb4i=>?_);have ha:=ha.mono hle5;have hb:=hb.mono hle5;refine J.z (zN (pl:= #[(0,1),(1,1),(2,1),(3,1),(4,1)]) rfl rfl BN rfl tU32 (fun w=>by simp[DX,DZ,AV]) (FB.part rfl rfl rfl (AL.c AL.z) (FB.part rfl rfl rfl (AL.s (AL.s (AL.s (AL.s (AL.c AL.z))))) FB.none))) ?_;refine J.op rfl (BZ 0 yV (AL.c (AL.c (AL.c (AL.c (AL.c AL.z))))) AU.z ?_);refine J.ns (Cj.ret ?_);refine Ej.a7D (Keeps.d (Keeps.d (Keeps.d Keeps.n))) rfl rfl rfl (yZ.at 0 rfl) zL yV rfl ?_;exact⟨⟨_,_,rfl,c1g (ca:=ca) (cb:=cb) ha hb hb4i⟩,rfl⟩
theorem a4n I:yY Tryz.prog 65 [] I [] (fun e I' H'=>(∃v,e= .returned v∧JH 9 I' Cq.indexes v)∧H'=[]):=by
 refine zQ Tryz.func65 fun w0 hw0=>?_;refine yU 8 ?_;intro b1 hb1;refine yU 4 ?_;refine Ej.persist hb1 (fun I3 hle2 hb1i=>?_);refine zV ?_;exact⟨⟨_,rfl,b1,6,[],rfl,hb1i⟩,rfl⟩
theorem XI I:yY Tryz.prog 66 [] I [] (fun e I' H'=>(∃v,e= .returned v∧JH 9 I' Cq.relations v)∧H'=[]):=by
 refine zQ Tryz.func66 fun w0 hw0=>?_;refine yU 8 ?_;intro b1 hb1;refine yU 4 ?_;refine Ej.persist hb1 (fun I3 hle2 hb1i=>?_);refine zV ?_;exact⟨⟨_,rfl,b1,6,[],rfl,hb1i⟩,rfl⟩
theorem c5K{L a}(h:a.drop=true):Ix.act L a=Ix.UO a.title L:=if_pos h
theorem c6b{L a}(h:a.drop=false):Ix.act L a=Ix.KY a.title a.vs L:=if_neg (by rw[h];decide)
theorem c4m L a:(Ix.act L a).length≤L.length+1:=by
  unfold Ix.act
  split
  · exact Nat.le_succ_of_le (List.length_filter_le _ _)
  exact a2k _ _ _
theorem a3o:∀(l:List Ix.KD) (L:Ix.Ix),(l.foldl Ix.act L).length≤L.length+l.length
  |[],_=>Nat.le_refl _
  | a::r,L=>by
    have h1:=a3o r (Ix.act L a);have h2:=c4m L a;rw[List.foldl_cons,List.length_cons];omega
theorem b9m xs:((acts xs).foldl Ix.act []).length≤xs.length:=by
  have:=a3o (acts xs) [];rw[List.length_map,List.length_nil]at this;omega
theorem b4y{xs k}(hk:k≤xs.length)(h:k≤20∧(xs.length≤k∨20≤k)):(acts (xs.take k)).foldl Ix.act []=Ix.play (acts xs):=by
  rw[WS hk h,a2O];rfl
theorem c0B xs:(Ix.play (acts xs)).length≤20:=by
  have:=a3o ((acts xs).take 20) [];rw[List.length_take,List.length_nil]at this;unfold Ix.play;omega
theorem c0h xs v (hao:a6z xs) I (hA0:a1W I xs v):yY Tryz.prog 15 [v] I [] (fun ev I' H'=>∃ib o rb es w,ev= .returned (.tuple #[ptr ib 0,ptr rb 0])∧OB I' o (Ix.play (acts xs))∧FN I' es w∧es.map zJ=Ix.play (acts xs)∧(∀e∈es,RH e.fs)∧es.length≤20∧H'=(rb,yX 50 [w])::ixH ib o):=by
 obtain⟨p,c,rfl⟩:=zS.len hA0.1;refine zQ Tryz.func15 fun w0 hw0=>?_;refine yU 8 ?_;refine J.z (zN (pl:= #[(0,1),(1,1),(2,1)]) rfl rfl Tryz.zeroValue114 rfl a0s (fun w=>by simp[YE,YH]) FB.none) ?_;refine yU 1 ?_;intro b1 hb1;refine yU 10 ?_;refine Cj.loop (ι:=Nat×Heap×Option Ist) (fun y=>y.1≤xs.length∧y.1≤20∧Le I y.2.1∧OB y.2.1 y.2.2 ((acts (xs.take y.1)).foldl Ix.act [])) (fun y=>20-y.1) (fun y=>[(0,.slice p xs.length c),(4,ptr b1 0),(5,i64 (y.1:Int))]) (fun y=>y.2.1) (fun y=>ixH b1 y.2.2) (0,_,none) ⟨Nat.zero_le _,Nat.zero_le _,Le.refl _,rfl⟩ ⟨rfl,rfl,rfl,trivial⟩ rfl rfl ?_;rintro⟨k,Jh,o⟩ ⟨hk,hk20,hIJ,hok⟩;dsimp only at hk hk20 hIJ hok ⊢;have hA:=hA0.mono hIJ;have hll:=b9m (xs.take k);rw[List.length_take,Nat.min_eq_left hk]at hll;refine EK (fun hg2 hg2p=>?_) (fun hg2 hg2p=>?_)
 ·refine zK (fun hc3 hc3p=>?_) (fun hc3 hc3p=>?_)
  ·refine yU 5 ?_;have hIJ9:=hIJ;have hlt:k<xs.length:=by omega
   have hlt2:k<20:=by omega
   obtain⟨x,hget⟩:∃x,xs[k]?=some x:=⟨_,BM hlt⟩;have hxm:=CX hget;obtain⟨p1,c1,hpe,hc1,hp⟩:=id hA.1;cases hpe;obtain⟨ab,ao,acs,aty,afr,asp,rfl,hab,had⟩:=hp (zU hlt);have hfv:=hA.2 x hxm;obtain⟨vp,vc,hxv⟩:=zS.len hfv;have hnx:acts (xs.take (k+1))=acts (xs.take k)++[x.a]:=RV _ hget;refine zW (ao+k*4) ?_;refine yU 1 ?_;refine J.z (AX rfl rfl tA4 (yZ.LK hab) (DT VJ had hget 0 (by decide))) ?_;refine DI (fun hc4=>?_) (fun hc4=>?_)
   ·have hdr:x.a.drop=true:=hc4;refine zW (ao+k*4) ?_;refine J.z (BJ Tryz.isAgg93 Tryz.sizeOf93 (yZ.LK hab) (BF VJ had hget)) ?_;refine AP (a1V x (hao x hxm) _ hfv) ?_;intro v5 I6 H7 hle8 hp9;have hIJ:=hIJ.mono hle8;have hA:=hA.mono hle8;have hok:=hok.mono hle8;have hab:=hle8 _ _ hab;have hfv:=hfv.mono hle8;obtain⟨e0,h,he0,rfl⟩:=hp9;cases h;refine J.z (a8k (v:=zZ e0.t) rfl rfl (fun _=>by kernel_rfl)) ?_;refine MJ [] (c3t b1 o _ e0.t _ hok) ?_;intro v10 I11 H12 hle13 hp14;have hIJ:=hIJ.mono hle13;have hA:=hA.mono hle13;have hok:=hok.mono hle13;have hab:=hle13 _ _ hab;have hfv:=hfv.mono hle13;have he0:=he0.mono hle13;obtain⟨o1,h,hok1,rfl⟩:=hp14;cases h;refine yU 8 ?_;refine Ej.round (k+1,_,o1) ⟨by dsimp only;omega,by dsimp only;omega,hIJ,by dsimp only;rw[hnx,List.foldl_append];rw[he0.t]at hok1;show OB _ _ (Ix.act _ x.a);rw[c5K hdr];exact hok1⟩ (by dsimp only;omega) ⟨rfl,rfl,rfl,trivial⟩ rfl rfl
   have hdr:x.a.drop=false:=hc4;refine zW (ao+k*4) ?_;refine J.z (BJ Tryz.isAgg93 Tryz.sizeOf93 (yZ.LK hab) (BF VJ had hget)) ?_;refine AP (a1V x (hao x hxm) _ hfv) ?_;intro v15 I16 H17 hle18 hp19;have hIJ:=hIJ.mono hle18;have hA:=hA.mono hle18;have hok:=hok.mono hle18;have hab:=hle18 _ _ hab;have hfv:=hfv.mono hle18;obtain⟨e0,h,he0,rfl⟩:=hp19;cases h;refine MJ [] (b8w b1 o _ e0 _ hok (by omega) he0.eok he0.r) ?_;intro v20 I21 H22 hle23 hp24;have hIJ:=hIJ.mono hle23;have hA:=hA.mono hle23;have hok:=hok.mono hle23;have hab:=hle23 _ _ hab;have hfv:=hfv.mono hle23;have he0:=he0.mono hle23;obtain⟨o1,h,hok1,rfl⟩:=hp24;cases h;refine yU 8 ?_;refine Ej.round (k+1,_,o1) ⟨by dsimp only;omega,by dsimp only;omega,hIJ,by dsimp only;rw[hnx,List.foldl_append];rw[he0.t,he0.vals]at hok1;show OB _ _ (Ix.act _ x.a);rw[c6b hdr];exact hok1⟩ (by dsimp only;omega) ⟨rfl,rfl,rfl,trivial⟩ rfl rfl
  refine yU 6 ?_;have hpl:=b4y hk (by omega);rw[hpl]at hok;refine AP (b0d xs _ hao _ hA) ?_;intro v25 I26 H27 hle28 hp29;have hIJ:=hIJ.mono hle28;have hA:=hA.mono hle28;have hok:=hok.mono hle28;obtain⟨rb,es,w,h,hE,hL,hek,hel,rfl⟩:=hp29;cases h;refine zV ?_;exact⟨b1,o,rb,es,w,rfl,hok,hE,hL,hek,by omega,rfl⟩
 refine yU 12 ?_;have hpl:=b4y hk (by omega);rw[hpl]at hok;refine AP (b0d xs _ hao _ hA) ?_;intro v31 I32 H33 hle34 hp35;have hIJ:=hIJ.mono hle34;have hA:=hA.mono hle34;have hok:=hok.mono hle34;obtain⟨rb,es,w,h,hE,hL,hek,hel,rfl⟩:=hp35;cases h;refine zV ?_;exact⟨b1,o,rb,es,w,rfl,hok,hE,hL,hek,by omega,rfl⟩
end Go.Proofs.YtekmeaoblpfnpaaGreatDoor
end
namespace Go.Sx
open Go
structure Fact where
  p:Value→Heap→Prop
  m:∀v I I',p v I→Le I I'→p v I'
def Fact.is (v0:Value):Fact:=⟨fun v _=>v=v0,fun _ _ _ h _=>h⟩
theorem a9q{α:Type}{p q}:∀{l:List α} {i:α},(∀x∈l,q x=true→p x=true)→i∈l→p i=true→q i=false→l.countP q<l.countP p
  |[],_,_,h,_,_=>by cases h
  | a::r,i,hs,hi,hp,hq=>by
    have hs':∀x∈r,q x=true→p x=true:=fun x hx=>hs x (.tail _ hx);have hle:r.countP q≤r.countP p:=List.countP_mono_left hs';rw[List.countP_cons,List.countP_cons]
    by_cases ha:a=i
    · subst ha;rw[hp,hq];simp;omega
    have hr:i∈r:=by
      rcases List.mem_cons.1 hi with g|g
      · exact absurd g.symm ha
      exact g
    have:=a9q hs' hr hp hq;have h2:=hs a (.head _);cases hqa:q a with
    |false=>simp;omega
    |true=>rw[h2 hqa];simp;omega
theorem DJ.mono{cx Q o e I H C C'}(h:DJ cx Q o e I H C)(hc:∀e' I' H',C e' I' H'→C' e' I' H'):DJ cx Q o e I H C':=
  fun K hK a w ha hs=>h K (fun e' I' H' h1=>hK e' I' H' (hc e' I' H' h1)) a w ha hs
def waitsFor (l:List Oper) (k j:Nat):Bool:=match l[k]? with
  |none=>false
  |some o=>o.after.any fun ed=>Region.binds .any ed && ed.on == j
def backwards (l:List Oper):Bool:=(List.range l.length).all fun k=>match l[k]? with
  |none=>true
  |some o=>o.after.all fun ed=> !Region.binds .any ed || Nat.blt ed.on k
def a5s (l:List Oper):List Nat:=l.filterMap (·.dst)
def b2t (l:List Oper):Bool:=l.all (·.dst.isSome) && decide (a5s l).Nodup
theorem b3A:∀{l:List Oper},(∀o∈l,o.dst.isSome=true)→(a5s l).Nodup→∀{j k:Nat} {oj ok:Oper} {d:Nat},l[j]?=some oj→l[k]?=some ok→oj.dst=some d→ok.dst=some d→j=k
  |[],_,_,j,_,_,_,_,h,_,_,_=>by simp at h
  | a::r,hs,hn,j,k,oj,ok,d,hj,hk,h1,h2=>by
    obtain⟨x,hx⟩:=Option.isSome_iff_exists.1 (hs a (.head _));have hc:a5s (a::r)=x::a5s r:=by unfold a5s;rw[List.filterMap_cons,hx]
    rw[hc,List.nodup_cons]at hn;have hs':∀o∈r,o.dst.isSome=true:=fun o ho=>hs o (.tail _ ho);have hin:∀{i:Nat} {o:Oper},r[i]?=some o→o.dst=some x→False:=fun {i o} hi ho=>hn.1 (List.mem_filterMap.2 ⟨o,List.mem_of_getElem? hi,ho⟩)
    match j,k with
    |0,0=>rfl
    | 0,k+1=>
      cases hj;rw[List.getElem?_cons_succ]at hk;exact absurd (by rw[h2,←h1,hx]) fun g=>hin hk g
    | j+1,0=>
      cases hk;rw[List.getElem?_cons_succ]at hj;exact absurd (by rw[h1,←h2,hx]) fun g=>hin hj g
    | j+1,k+1=>
      rw[List.getElem?_cons_succ]at hj hk;rw[b3A hs' hn.2 hj hk h1 h2]
section
variable {cx:Cx} {Q:Qt} {l:List Oper} {I1:Heap} {H:HL} {e0:Env}
def Base (l:List Oper) (e0 e:Env):Prop:=∀t,t ∉ a5s l→eg e t=eg e0 t
def c2t (cx:Cx) (l:List Oper) (F:Nat→Fact) (k d:Nat) (e:Env) (I:Heap) (H:HL):Ct:=fun e' I' H'=>
  ∃v K,e'=(d,v)::e∧H'=K++H∧(∀p∈K,cx.w0.heap.size≤p.1)∧Le I I'∧∀I'',Le I' I''→(∀p∈K,I'' p.1=some p.2)→(F k).p v I''
def Known (l:List Oper) (F:Nat→Fact) (e:Env) (I:Heap) (j:Nat):Prop:=∀oj dj,l[j]?=some oj→oj.dst=some dj→∃v,eg e dj=some v∧(F j).p v I
theorem JA.c5T F (hb:backwards l=true)(hd:b2t l=true)
    (step:∀k o d,l[k]?=some o→o.dst=some d→∀e I,Le I1 I→Base l e0 e→(∀j,waitsFor l k j=true→Known l F e I j)→o.guard=none∧DJ cx Q o e I H (c2t cx l F k d e I H))
    (fin:∀e I,Le I1 I→Base l e0 e→(∀k,Known l F e I k)→Ej cx Q .normal e I H):
    ∀(fuel:Nat) (listed:Array Bool) (e:Env) (I:Heap),listed.size=l.length→(List.range l.length).countP (fun i=> !listed.getD i true)≤fuel→Le I1 I→Base l e0 e→
      (∀k,listed.getD k false=true→Known l F e I k)→JA cx Q l I1 [] [] l.length fuel listed e I H:=by
  have hds:=hd;unfold b2t at hds;rw[Bool.and_eq_true,List.all_eq_true,decide_eq_true_eq]at hds;have hall:∀(listed:Array Bool) (e:Env) (I:Heap),listed.size=l.length→Region.ready .any l.toArray listed=[]→(∀k,listed.getD k false=true→Known l F e I k)→∀k,Known l F e I k:=by
    intro listed e I hsz hr hk k;have hL:∀k,k<l.length→listed.getD k false=true:=by
      intro k
      induction k using Nat.strongRecOn with
      | ind k ih=>
        intro hk;refine Classical.byContradiction fun hn=>?_;have hlt:k<listed.size:=by omega
        have h1:listed.getD k true=false:=by
          rw[Array.getD,dif_pos hlt]at hn ⊢;simpa using hn
        have h2:k∈Region.ready .any l.toArray listed:=by
          rw[mem_ready];refine⟨h1,l[k],by simp[hk],fun ed hed hbd=>?_⟩;have h3:=List.all_eq_true.1 hb k (List.mem_range.2 hk);rw[List.getElem?_eq_getElem hk]at h3;have h4:=Array.all_eq_true_iff_forall_mem.1 h3 ed hed;rw[hbd]at h4;have h5:ed.on<k:=Nat.le_of_ble_eq_true (by simpa[Nat.blt]using h4);exact ih ed.on h5 (by omega)
        rw[hr]at h2;cases h2
    rcases Nat.lt_or_ge k l.length with g|g
    · exact hk k (hL k g)
    intro oj dj hj _;rw[List.getElem?_eq_none g]at hj;cases hj
  intro fuel
  induction fuel with
  | zero=>
    intro listed e I hsz hc hle hba hk;have hr:Region.ready .any l.toArray listed=[]:=by
      refine List.eq_nil_iff_forall_not_mem.2 fun i hi=>?_;obtain⟨h1,o,h2,_⟩:=mem_ready.1 hi;have h3:i<l.length:=by
        rcases Nat.lt_or_ge i l.length with g|g
        · exact g
        simp[List.getElem?_eq_none g]at h2
      have h4:0<(List.range l.length).countP (fun i=> !listed.getD i true):=List.countP_pos_iff.2 ⟨i,List.mem_range.2 h3,by rw[h1];rfl⟩;omega
    exact JA.done hr (fin e I hle hba (hall listed e I hsz hr hk))
  | succ fuel ih=>
    intro listed e I hsz hc hle hba hk
    by_cases hr:Region.ready .any l.toArray listed=[]
    · exact JA.done hr (fin e I hle hba (hall listed e I hsz hr hk))
    refine JA.all _ rfl hr fun i hi=>?_;obtain⟨h1,o,h2,h3⟩:=mem_ready.1 hi;have h2':l[i]?=some o:=by simpa using h2
    have hil:i<l.length:=(List.getElem?_eq_some_iff.1 h2').1;obtain⟨d,hod⟩:=Option.isSome_iff_exists.1 (hds.1 o (List.mem_of_getElem? h2'));have hst:=step i o d h2' hod e I hle hba fun j hj=>by
      unfold waitsFor at hj;rw[h2']at hj;obtain⟨ed,hed,hp⟩:=Array.any_eq_true'.1 hj;rw[Bool.and_eq_true,beq_iff_eq]at hp;rw[←hp.2];exact hk _ (h3 ed hed hp.1)
    refine⟨o,h2,hst.1,hst.2.mono ?_⟩;rintro e' I' H' ⟨v,K,rfl,rfl,hK,hle',hF⟩;refine⟨⟨hle.trans hle',trivial,trivial⟩,?_⟩;refine YT (X:=fun I H=>JA cx Q l I1 [] [] l.length fuel (listed.setIfInBounds i true) ((d,v)::e) I H) (base:=cx.w0.heap.size) (fun _ _ _ _ hb k=>JA.persist hb k) K I' hK fun I'' hle'' hKI=>?_;have hdm:d∈a5s l:=List.mem_filterMap.2 ⟨o,List.mem_of_getElem? h2',hod⟩;refine ih _ _ _ (by simpa using hsz) ?_ ((hle.trans hle').trans hle'') (fun t ht=>?_) fun k hkl=>?_
    · have hlt:=a9q (l:=List.range l.length) (p:=fun i=> !listed.getD i true) (q:=fun j=> !(listed.setIfInBounds i true).getD j true) (i:=i) (fun x _ hx=>?_) (List.mem_range.2 hil) (by rw[h1];rfl) ?_
      · omega
      · by_cases hxi:i=x
        · subst hxi;rw[h1];rfl
        rwa [getD_set_ne true hxi]at hx
      have:i<(listed.setIfInBounds i true).size:=by rw[Array.size_setIfInBounds];omega
      rw[Array.getD,dif_pos this];simp
    · have hne:Nat.beq d t=false:=by
        refine Bool.eq_false_iff.2 fun g=>ht ?_;rw[←Nat.eq_of_beq_eq_true g];exact hdm
      show(bif Nat.beq d t then some v else eg e t)=_;rw[hne];exact hba t ht
    by_cases hki:i=k
    · subst hki;intro oj dj hj hdj;rw[h2']at hj;cases hj;rw[hod]at hdj;cases hdj;refine⟨v,?_,hF I'' hle'' hKI⟩;show(bif Nat.beq d d then some v else eg e d)=_;rw[Nat.beq_refl];rfl
    rw[getD_set_ne false hki]at hkl;intro oj dj hj hdj;obtain⟨u,hu,hp⟩:=hk k hkl oj dj hj hdj;refine⟨u,?_,(F k).m _ _ _ hp (hle'.trans hle'')⟩;have hne:Nat.beq d dj=false:=by
      refine Bool.eq_false_iff.2 fun g=>hki ?_;have:=Nat.eq_of_beq_eq_true g;subst this;exact b3A hds.1 hds.2 h2' hj hod hdj
    show(bif Nat.beq d dj then some v else eg e dj)=_;rw[hne];exact hu
theorem Cj.flow{id} F (hm:cx.P.follows .mixedOrders=true)(hb:backwards l=true)(hd:b2t l=true)
    (step:∀k o d,l[k]?=some o→o.dst=some d→∀e I,Le I1 I→Base l e0 e→(∀j,waitsFor l k j=true→Known l F e I j)→o.guard=none∧DJ cx Q o e I H (c2t cx l F k d e I H))
    (fin:∀e I,Le I1 I→Base l e0 e→(∀k,Known l F e I k)→Ej cx Q .normal e I H)
    (hnd:cx.rd=none∨(a1l l.toArray=true∧¬LetsOut Q):=by first|exact .inl rfl|exact .inr ⟨rfl,fun h=>h.elim fun _ h=>h.elim fun _ h=>h⟩):Cj cx Q (.region id l.toArray true) e0 I1 H:=by
  refine Cj.draw [] [] l.length hm (JA.c5T F hb hd step fin _ _ _ _ (by simp) ?_ (Le.refl _) (fun _ _=>rfl) fun k hk=>?_) hnd
  · exact Nat.le_trans List.countP_le_length (by simp)
  rw[Array.getD]at hk
  split at hk
  · simp at hk
  cases hk
end
end Go.Sx
section
namespace Go.Proofs.YtekmeaoblpfnpaaGreatDoor
open _root_.Go.Proofs.Tryz
open Go Go.Sx
def ss2:List Ke.Sub:=[⟨97,[84,104,101,32,115,101,97,32,58]⟩,⟨98,[97,32,115,116,111,114,121]⟩]
def ff2 (w:Value):Ke.LV:=⟨[50,52,53],[49,52],[],w,ss2⟩
def ss4:List Ke.Sub:=[⟨97,[48,45,51,48,54,45,52,48,54,49,53,45,50]⟩]
def ff4 (w:Value):Ke.LV:=⟨[48,50,48],[32,32],[],w,ss4⟩
def ss6:List Ke.Sub:=[⟨99,[99,49,57,57,57,46]⟩]
def ff6 (w:Value):Ke.LV:=⟨[50,54,48],[32,32],[],w,ss6⟩
def b1T:List Ke.Sub:=[⟨97,[83,101,97,32,115,116,111,114,105,101,115]⟩]
def c1m (w:Value):Ke.LV:=⟨[50,52,53],[49,48],[],w,b1T⟩
def b0P:List Ke.Sub:=[⟨97,[87,111,111,108,102,44,32,86,105,114,103,105,110,105,97]⟩]
def b9p (w:Value):Ke.LV:=⟨[49,48,48],[49,32],[],w,b0P⟩
def b1E:List Ke.Sub:=[⟨97,[83,101,97]⟩,⟨120,[72,105,115,116,111,114,121]⟩]
def c1E (w:Value):Ke.LV:=⟨[54,53,48],[32,32],[],w,b1E⟩
def fs1 (a b c:Value):List Ke.LV:=[ff2 a,ff4 b,ff6 c]
def fs2 (a b c:Value):List Ke.LV:=[c1m a,b9p b,c1E c]
def ns1:List Ke.LV:=fs1 (.slice none 0 0) (.slice none 0 0) (.slice none 0 0)
def ns2:List Ke.LV:=fs2 (.slice none 0 0) (.slice none 0 0) (.slice none 0 0)
def LS:Ix.Ix:=[((1,1),Ix.vals ns1),((2,1),Ix.vals ns2)]
theorem c4H a b c:Ix.vals (fs1 a b c)=Ix.vals ns1:=by rw[←a5o];rfl
theorem c2X a b c:Ix.vals (fs2 a b c)=Ix.vals ns2:=by rw[←a5o];rfl
theorem c5y a b c:RH (fs1 a b c):=⟨ED rfl,fun f hf=>by
  simp only[fs1,List.mem_cons,List.not_mem_nil,or_false]at hf;rcases hf with rfl|rfl|rfl<;>exact⟨ED rfl,ED rfl,ED rfl⟩⟩
theorem c4P a b c:RH (fs2 a b c):=⟨ED rfl,fun f hf=>by
  simp only[fs2,List.mem_cons,List.not_mem_nil,or_false]at hf;rcases hf with rfl|rfl|rfl<;>exact⟨ED rfl,ED rfl,ED rfl⟩⟩
theorem a7N{fs}(h:RH fs):∀v∈Ix.vals fs,v.text.length≤4000000:=fun v hv=>by
  unfold Ix.vals at hv;obtain⟨f,hf,hv⟩:=List.mem_flatMap.1 hv;obtain⟨k1,k2,k3⟩:=h.2 f hf;unfold Ix.TT at hv;rcases List.mem_append.1 hv with g|g
  · obtain⟨s,hs,rfl⟩:=List.mem_map.1 g;have:=a1C hs;dsimp only;omega
  split at g
  · rw[List.mem_singleton]at g;subst g;have:=WX f [];rw[XB]at this;dsimp only;omega
  cases g
theorem a3n:Ix.TOK LS:=fun e he=>by
  have he:e=((1,1),Ix.vals ns1)∨e=((2,1),Ix.vals ns2):=by simpa[LS]using he
  rcases he with rfl|rfl
  · exact a7N (c5y _ _ _)
  exact a7N (c4P _ _ _)
theorem a3T{L}(h:Ix.Few L):Ix.TOK L:=fun e he=>by
  obtain⟨a,ha⟩:=h.2 e he;rw[ha];unfold Ix.KD.vs;exact a7N (a9W (l:=a.fs.take 8) (by show Ke.nrm (Ix.WL _)=Ix.WL _;unfold Ix.WL Ke.nrm;rw[List.map_map];refine List.map_congr_left fun q _=>?_;unfold Function.comp Ke.b5H Ix.a4R;split<;>rfl))
def a3O (l:List (List UInt8)):Fact:=⟨fun v I=>EY I l v,fun _ _ _ h hle=>h.mono hle⟩
def a7K (f:Value→Ke.LV) (ss:List Ke.Sub):Fact:=⟨fun v I=>∃w,v= .agg (FZ (f w)).toArray∧zS MQ I ss w,fun _ _ _ ⟨w,h1,h2⟩ hle=>⟨w,h1,h2.mono hle⟩⟩
def fRow (fs:Value→Value→Value→List Ke.LV):Fact:=⟨fun v I=>∃a b c,QX I (fs a b c) v,fun _ _ _ ⟨a,b,c,h⟩ hle=>⟨a,b,c,h.mono hle⟩⟩
def c5t (fs:Value→Value→Value→List Ke.LV):Fact:=⟨fun v I=>∃w a b c,v=a7w 0 0 w∧QX I (fs a b c) w,fun _ _ _ ⟨w,a,b,c,h1,h⟩ hle=>⟨w,a,b,c,h1,h.mono hle⟩⟩
def c5s (t:Ix.Rec) (fs:Value→Value→Value→List Ke.LV):Fact:=⟨fun v I=>∃w a b c,v= .agg (IB ⟨t,0,0,w,fs a b c⟩).toArray∧QX I (fs a b c) w,fun _ _ _ ⟨w,a,b,c,h1,h⟩ hle=>⟨w,a,b,c,h1,h.mono hle⟩⟩
def c5W:Fact:=⟨fun v I=>∃es,FN I es v∧es.length=2∧(∀e∈es,RH e.fs)∧Ix.c2x (es.map zJ) []=LS,fun _ _ _ ⟨es,h1,h2⟩ hle=>⟨es,h1.mono hle,h2⟩⟩
def c5a:Fact:=⟨fun v I=>∃ib,v=ptr ib 0∧UF I ib LS,fun _ _ _ ⟨ib,h1,h2⟩ hle=>⟨ib,h1,h2.mono hle⟩⟩
def c6k:Fact:=⟨fun _ _=>True,fun _ _ _ _ _=>trivial⟩
theorem VH{I b l}(h:I b=some (yX 9 (l.map str))):EY I l (.slice (some ⟨b,0,none⟩) l.length l.length):=
  VZ.2 (zS.of (sp:=[]) (Nat.le_refl _) (by rw[h,List.append_nil];congr 1;congr 1;rw[←List.flatMap_singleton' (l.map str),List.flatMap_map]))
theorem UM{n b:Nat}{o:Obj}(h:n≤b):∀p∈[(b,o)],n≤p.1:=fun p hp=>by rw[List.mem_singleton.1 hp];exact h
theorem KL{n}:∀p∈([]:HL),n≤p.1:=fun p hp=>by cases hp
theorem c5R a b c x y z w u:Ix.c2x ([(⟨(1,1),0,0,w,fs1 a b c⟩:FY),⟨(2,1),0,0,u,fs2 x y z⟩].map zJ) []=LS:=by
  show Ix.c2x [((1,1),Ix.vals (fs1 a b c)),((2,1),Ix.vals (fs2 x y z))] []=LS;rw[c4H,c2X];generalize hv:Ix.vals ns1=v;generalize hu:Ix.vals ns2=u;have:LS=[((1,1),v),((2,1),u)]:=by unfold LS;rw[hv,hu]
  rw[this];rfl
theorem c5O:Ix.UH LS (1,1)<Ix.UH LS (2,1):=by decide +kernel
theorem sr1:Ix.a3U LS (Ix.EC 2 (Ix.a6N [116,105,116,108,101] [61] [115,101,97]) (Ix.a6N [97,117,116,104,111,114] [61] [119,111,111,108,102])) [(2,1)]:=by
  refine Ix.c1T ?_ ?_ ?_
  · exact List.pairwise_singleton _ _
  · intro t ht;have ht:t∈[((1,1):Ix.Rec),(2,1)]:=ht;simp only[List.mem_cons,List.not_mem_nil,or_false]at ht;rcases ht with rfl|rfl<;>decide +kernel
  intro t ht;revert t;decide +kernel
theorem sr2:Ix.a3U LS (Ix.a6N [97,110,121] [97,110,121] [104,105,115,116,111,114,121,32,115,116,111,114,121]) [(1,1),(2,1)]:=by
  refine Ix.c1T ?_ ?_ ?_
  · exact List.pairwise_cons.2 ⟨fun t ht=>by rw[List.mem_singleton.1 ht];exact .inl c5O,List.pairwise_singleton _ _⟩
  · intro t ht;have ht:t∈[((1,1):Ix.Rec),(2,1)]:=ht;simp only[List.mem_cons,List.not_mem_nil,or_false]at ht;rcases ht with rfl|rfl<;>decide +kernel
  intro t ht;revert t;decide +kernel
theorem sr3:Ix.a3U LS (Ix.a6N [121,101,97,114] [60] [50,48,48,48]) [(1,1)]:=by
  refine Ix.c1T ?_ ?_ ?_
  · exact List.pairwise_singleton _ _
  · intro t ht;have ht:t∈[((1,1):Ix.Rec),(2,1)]:=ht;simp only[List.mem_cons,List.not_mem_nil,or_false]at ht;rcases ht with rfl|rfl<;>decide +kernel
  intro t ht;revert t;decide +kernel
theorem sr4:Ix.a3U LS (Ix.a6N [121,101,97,114] [62,61] [50,48,48,48]) []:=by
  refine Ix.c1T ?_ ?_ ?_
  · exact List.Pairwise.nil
  · intro t ht;have ht:t∈[((1,1):Ix.Rec),(2,1)]:=ht;simp only[List.mem_cons,List.not_mem_nil,or_false]at ht;rcases ht with rfl|rfl<;>decide +kernel
  intro t ht;revert t;decide +kernel
theorem sr5:Ix.a3U LS (Ix.EC 4 (Ix.a6N [116,105,116,108,101] [97,108,108] [115,101,97,32,115,116,111,114,105,101,115]) (Ix.a6N [97,117,116,104,111,114] [61] [119,111,111,108,102])) []:=by
  refine Ix.c1T ?_ ?_ ?_
  · exact List.Pairwise.nil
  · intro t ht;have ht:t∈[((1,1):Ix.Rec),(2,1)]:=ht;simp only[List.mem_cons,List.not_mem_nil,or_false]at ht;rcases ht with rfl|rfl<;>decide +kernel
  intro t ht;revert t;decide +kernel
def c5V:Nat→Fact
  |0=> .is (.agg #[i64 1,i64 1])
  |1=>a3O (ss2.map (·.text))
  |2=>a7K ff2 ss2
  |3=>a3O (ss4.map (·.text))
  |4=>a7K ff4 ss4
  |5=>a3O (ss6.map (·.text))
  |6=>a7K ff6 ss6
  |7=>fRow fs1
  |8=>c5t fs1
  |9=>c5s (1,1) fs1
  |10=> .is (.agg #[i64 2,i64 1])
  |11=>a3O (b1T.map (·.text))
  |12=>a7K c1m b1T
  |13=>a3O (b0P.map (·.text))
  |14=>a7K b9p b0P
  |15=>a3O (b1E.map (·.text))
  |16=>a7K c1E b1E
  |17=>fRow fs2
  |18=>c5t fs2
  |19=>c5s (2,1) fs2
  |20=>c5W
  |21=>c5a
  |22=>c5a
  |_=>c6k
theorem b6I I (hT:LZ I):Pure Tryz.prog 14 [] I (.bool true):=by
 refine yY.toPure ?_;refine zQ Tryz.func14 fun w0 hw0=>?_;refine Cj.sr (J.z EP ?_);refine J.QT (J.z (zN (pl:= #[(0,1),(1,1)]) rfl rfl a0D rfl b2u (fun w=>by simp[DX]) (FB.part rfl rfl rfl (AL.c AL.z) (FB.part rfl rfl rfl (AL.s (AL.c AL.z)) FB.none))) ?_);refine J.op rfl (FV a0D ?_);intro b1 hb1;refine J.op rfl (BZ 0 EJ (AL.c (AL.c AL.z)) AU.z ?_);refine J.QT (J.z (zN (pl:= #[(0,1),(1,1)]) rfl rfl a0D rfl b2u (fun w=>by simp[DX]) (FB.part rfl rfl rfl (AL.c AL.z) (FB.part rfl rfl rfl (AL.s (AL.c AL.z)) FB.none))) ?_);refine J.op rfl (FV a0D ?_);intro b2 hb2;refine J.op rfl (BZ 0 EJ (AL.c (AL.c AL.z)) AU.z ?_);refine J.nss ?_;refine Cj.flow c5V (by kernel_rfl) (by kernel_rfl) (by kernel_rfl) (fun k o d hk hd e I2 hle hba hdep=>?_) (fun e I2 hle hba hkn=>?_)
 ·match k,hk with
  |0,hk=>
   obtain rfl:=Option.some.inj hk;obtain rfl:=Option.some.inj hd;have ht:eg e 1=some (ptr b1 0):=(hba 1 (by decide)).trans rfl;exact⟨rfl,AY (UG (vs:=[i64 1,i64 1]) rfl ht IZ EJ (yZ.at 1 rfl) rfl rfl) rfl rfl ⟨_,[],rfl,rfl,KL,Le.refl _,fun _ _ _=>rfl⟩⟩
  |1,hk=>
   obtain rfl:=Option.some.inj hk;obtain rfl:=Option.some.inj hd;exact⟨rfl,ER CG AV NP (EH.one rfl (EH.one rfl EH.none)) (fun b hb=>⟨_,[(b,_)],rfl,rfl,UM hb,Le.refl _,fun I3 _ hK=>VH (l:=ss2.map Ke.Sub.text) (hK _ (.head _))⟩)⟩
  |2,hk=>
   obtain rfl:=Option.some.inj hk;obtain rfl:=Option.some.inj hd;obtain⟨va,ha,pa⟩:=hdep 1 (by kernel_rfl) _ _ rfl rfl;refine⟨rfl,IQ (vs:=[str [50,52,53],str [49,52],str [97,98],va]) (fst:=[]) (cap:=[]) rfl rfl rfl rfl (by simp only[evs,ev,ha];rfl) (YJ [50,52,53] [49,52] ss2 va (by decide) _ pa) (fun v I3 H3 hle3 _ hp=>?_) (fun _ _ _ _ ⟨_,h,_⟩=>by cases h) (fun _ _ ⟨_,h,_⟩=>by cases h)⟩;obtain⟨w,h,hw,rfl⟩:=hp;cases h;exact⟨_,[],rfl,rfl,KL,hle3,fun I4 hle4 _=>⟨w,rfl,hw.mono hle4⟩⟩
  |3,hk=>
   obtain rfl:=Option.some.inj hk;obtain rfl:=Option.some.inj hd;exact⟨rfl,ER CG AV NP (EH.one rfl EH.none) (fun b hb=>⟨_,[(b,_)],rfl,rfl,UM hb,Le.refl _,fun I3 _ hK=>VH (l:=ss4.map Ke.Sub.text) (hK _ (.head _))⟩)⟩
  |4,hk=>
   obtain rfl:=Option.some.inj hk;obtain rfl:=Option.some.inj hd;obtain⟨va,ha,pa⟩:=hdep 3 (by kernel_rfl) _ _ rfl rfl;refine⟨rfl,IQ (vs:=[str [48,50,48],str [32,32],str [97],va]) (fst:=[]) (cap:=[]) rfl rfl rfl rfl (by simp only[evs,ev,ha];rfl) (YJ [48,50,48] [32,32] ss4 va (by decide) _ pa) (fun v I3 H3 hle3 _ hp=>?_) (fun _ _ _ _ ⟨_,h,_⟩=>by cases h) (fun _ _ ⟨_,h,_⟩=>by cases h)⟩;obtain⟨w,h,hw,rfl⟩:=hp;cases h;exact⟨_,[],rfl,rfl,KL,hle3,fun I4 hle4 _=>⟨w,rfl,hw.mono hle4⟩⟩
  |5,hk=>
   obtain rfl:=Option.some.inj hk;obtain rfl:=Option.some.inj hd;exact⟨rfl,ER CG AV NP (EH.one rfl EH.none) (fun b hb=>⟨_,[(b,_)],rfl,rfl,UM hb,Le.refl _,fun I3 _ hK=>VH (l:=ss6.map Ke.Sub.text) (hK _ (.head _))⟩)⟩
  |6,hk=>
   obtain rfl:=Option.some.inj hk;obtain rfl:=Option.some.inj hd;obtain⟨va,ha,pa⟩:=hdep 5 (by kernel_rfl) _ _ rfl rfl;refine⟨rfl,IQ (vs:=[str [50,54,48],str [32,32],str [99],va]) (fst:=[]) (cap:=[]) rfl rfl rfl rfl (by simp only[evs,ev,ha];rfl) (YJ [50,54,48] [32,32] ss6 va (by decide) _ pa) (fun v I3 H3 hle3 _ hp=>?_) (fun _ _ _ _ ⟨_,h,_⟩=>by cases h) (fun _ _ ⟨_,h,_⟩=>by cases h)⟩;obtain⟨w,h,hw,rfl⟩:=hp;cases h;exact⟨_,[],rfl,rfl,KL,hle3,fun I4 hle4 _=>⟨w,rfl,hw.mono hle4⟩⟩
  |7,hk=>
   obtain rfl:=Option.some.inj hk;obtain rfl:=Option.some.inj hd;obtain⟨va,ha,pa⟩:=hdep 2 (by kernel_rfl) _ _ rfl rfl;obtain⟨wa,rfl,hwa⟩:=pa;obtain⟨vb,hb,pb⟩:=hdep 4 (by kernel_rfl) _ _ rfl rfl;obtain⟨wb,rfl,hwb⟩:=pb;obtain⟨vc,hc,pc⟩:=hdep 6 (by kernel_rfl) _ _ rfl rfl;obtain⟨wc,rfl,hwc⟩:=pc;refine⟨rfl,KZ (vs:=[.agg (FZ (ff2 wa)).toArray,.agg (FZ (ff4 wb)).toArray,.agg (FZ (ff6 wc)).toArray]) rfl rfl rfl b4L WO a1q rfl (by simp only[List.map,evs,ev,ha,hb,hc]) rfl rfl (EH.agg rfl (EH.agg rfl (EH.agg rfl EH.none))) (fun b hbb=>⟨_,[(b,_)],rfl,rfl,UM hbb,Le.refl _,fun I3 hle3 hK=>⟨wa,wb,wc,zS.of (l:=fs1 wa wb wc) (sp:=[]) (Nat.le_refl _) (hK _ (.head _)),fun f hf=>?_⟩⟩)⟩;simp only[fs1,List.mem_cons,List.not_mem_nil,or_false]at hf;rcases hf with rfl|rfl|rfl
   · exact hwa.mono hle3
   · exact hwb.mono hle3
   exact hwc.mono hle3
  |8,hk=>
   obtain rfl:=Option.some.inj hk;obtain rfl:=Option.some.inj hd;obtain⟨va,ha,pa⟩:=hdep 7 (by kernel_rfl) _ _ rfl rfl;obtain⟨wa,wb,wc,hw⟩:=pa;obtain⟨qp,qc,rfl⟩:=zS.len hw.1;exact⟨rfl,AY (zN (vs:=[.slice qp (fs1 wa wb wc).length qc]) (pl:= #[(0,1),(1,1),(2,1)]) rfl (by simp only[List.map,evs,ev,ha]) Tryz.zeroValue57 rfl Tryz.underlying57 (fun w=>by simp[Tryz.sizeOf55,tS5]) (FB.part rfl rfl rfl (AL.s (AL.s (AL.c AL.z))) FB.none)) rfl rfl ⟨_,[],rfl,rfl,KL,Le.refl _,fun I3 hle3 _=>⟨_,wa,wb,wc,rfl,hw.mono hle3⟩⟩⟩
  |9,hk=>
   obtain rfl:=Option.some.inj hk;obtain rfl:=Option.some.inj hd;obtain⟨va,ha,pa⟩:=hdep 0 (by kernel_rfl) _ _ rfl rfl;have pa:va= .agg [i64 1,i64 1].toArray:=pa;subst pa;obtain⟨vb,hb,pb⟩:=hdep 8 (by kernel_rfl) _ _ rfl rfl;obtain⟨w,wa,wb,wc,rfl,hw⟩:=pb;exact⟨rfl,AY (zN (vs:=[.agg [i64 1,i64 1].toArray,a7w 0 0 w]) (pl:= #[(0,2),(2,3)]) rfl (by simp only[List.map,evs,ev,ha,hb]) a0M rfl a2R (fun w=>by simp[EJ,UE]) (FB.part rfl rfl rfl (AL.c (AL.c AL.z)) (FB.part rfl rfl rfl (AL.s (AL.s (AL.c (AL.c (AL.c AL.z))))) FB.none))) rfl rfl ⟨_,[],rfl,rfl,KL,Le.refl _,fun I3 hle3 _=>⟨w,wa,wb,wc,rfl,hw.mono hle3⟩⟩⟩
  |10,hk=>
   obtain rfl:=Option.some.inj hk;obtain rfl:=Option.some.inj hd;have ht:eg e 2=some (ptr b2 0):=(hba 2 (by decide)).trans rfl;exact⟨rfl,AY (UG (vs:=[i64 2,i64 1]) rfl ht IZ EJ (yZ.at 0 rfl) rfl rfl) rfl rfl ⟨_,[],rfl,rfl,KL,Le.refl _,fun _ _ _=>rfl⟩⟩
  |11,hk=>
   obtain rfl:=Option.some.inj hk;obtain rfl:=Option.some.inj hd;exact⟨rfl,ER CG AV NP (EH.one rfl EH.none) (fun b hb=>⟨_,[(b,_)],rfl,rfl,UM hb,Le.refl _,fun I3 _ hK=>VH (l:=b1T.map Ke.Sub.text) (hK _ (.head _))⟩)⟩
  |12,hk=>
   obtain rfl:=Option.some.inj hk;obtain rfl:=Option.some.inj hd;obtain⟨va,ha,pa⟩:=hdep 11 (by kernel_rfl) _ _ rfl rfl;refine⟨rfl,IQ (vs:=[str [50,52,53],str [49,48],str [97],va]) (fst:=[]) (cap:=[]) rfl rfl rfl rfl (by simp only[evs,ev,ha];rfl) (YJ [50,52,53] [49,48] b1T va (by decide) _ pa) (fun v I3 H3 hle3 _ hp=>?_) (fun _ _ _ _ ⟨_,h,_⟩=>by cases h) (fun _ _ ⟨_,h,_⟩=>by cases h)⟩;obtain⟨w,h,hw,rfl⟩:=hp;cases h;exact⟨_,[],rfl,rfl,KL,hle3,fun I4 hle4 _=>⟨w,rfl,hw.mono hle4⟩⟩
  |13,hk=>
   obtain rfl:=Option.some.inj hk;obtain rfl:=Option.some.inj hd;exact⟨rfl,ER CG AV NP (EH.one rfl EH.none) (fun b hb=>⟨_,[(b,_)],rfl,rfl,UM hb,Le.refl _,fun I3 _ hK=>VH (l:=b0P.map Ke.Sub.text) (hK _ (.head _))⟩)⟩
  |14,hk=>
   obtain rfl:=Option.some.inj hk;obtain rfl:=Option.some.inj hd;obtain⟨va,ha,pa⟩:=hdep 13 (by kernel_rfl) _ _ rfl rfl;refine⟨rfl,IQ (vs:=[str [49,48,48],str [49,32],str [97],va]) (fst:=[]) (cap:=[]) rfl rfl rfl rfl (by simp only[evs,ev,ha];rfl) (YJ [49,48,48] [49,32] b0P va (by decide) _ pa) (fun v I3 H3 hle3 _ hp=>?_) (fun _ _ _ _ ⟨_,h,_⟩=>by cases h) (fun _ _ ⟨_,h,_⟩=>by cases h)⟩;obtain⟨w,h,hw,rfl⟩:=hp;cases h;exact⟨_,[],rfl,rfl,KL,hle3,fun I4 hle4 _=>⟨w,rfl,hw.mono hle4⟩⟩
  |15,hk=>
   obtain rfl:=Option.some.inj hk;obtain rfl:=Option.some.inj hd;exact⟨rfl,ER CG AV NP (EH.one rfl (EH.one rfl EH.none)) (fun b hb=>⟨_,[(b,_)],rfl,rfl,UM hb,Le.refl _,fun I3 _ hK=>VH (l:=b1E.map Ke.Sub.text) (hK _ (.head _))⟩)⟩
  |16,hk=>
   obtain rfl:=Option.some.inj hk;obtain rfl:=Option.some.inj hd;obtain⟨va,ha,pa⟩:=hdep 15 (by kernel_rfl) _ _ rfl rfl;refine⟨rfl,IQ (vs:=[str [54,53,48],str [32,32],str [97,120],va]) (fst:=[]) (cap:=[]) rfl rfl rfl rfl (by simp only[evs,ev,ha];rfl) (YJ [54,53,48] [32,32] b1E va (by decide) _ pa) (fun v I3 H3 hle3 _ hp=>?_) (fun _ _ _ _ ⟨_,h,_⟩=>by cases h) (fun _ _ ⟨_,h,_⟩=>by cases h)⟩;obtain⟨w,h,hw,rfl⟩:=hp;cases h;exact⟨_,[],rfl,rfl,KL,hle3,fun I4 hle4 _=>⟨w,rfl,hw.mono hle4⟩⟩
  |17,hk=>
   obtain rfl:=Option.some.inj hk;obtain rfl:=Option.some.inj hd;obtain⟨va,ha,pa⟩:=hdep 12 (by kernel_rfl) _ _ rfl rfl;obtain⟨wa,rfl,hwa⟩:=pa;obtain⟨vb,hb,pb⟩:=hdep 14 (by kernel_rfl) _ _ rfl rfl;obtain⟨wb,rfl,hwb⟩:=pb;obtain⟨vc,hc,pc⟩:=hdep 16 (by kernel_rfl) _ _ rfl rfl;obtain⟨wc,rfl,hwc⟩:=pc;refine⟨rfl,KZ (vs:=[.agg (FZ (c1m wa)).toArray,.agg (FZ (b9p wb)).toArray,.agg (FZ (c1E wc)).toArray]) rfl rfl rfl b4L WO a1q rfl (by simp only[List.map,evs,ev,ha,hb,hc]) rfl rfl (EH.agg rfl (EH.agg rfl (EH.agg rfl EH.none))) (fun b hbb=>⟨_,[(b,_)],rfl,rfl,UM hbb,Le.refl _,fun I3 hle3 hK=>⟨wa,wb,wc,zS.of (l:=fs2 wa wb wc) (sp:=[]) (Nat.le_refl _) (hK _ (.head _)),fun f hf=>?_⟩⟩)⟩;simp only[fs2,List.mem_cons,List.not_mem_nil,or_false]at hf;rcases hf with rfl|rfl|rfl
   · exact hwa.mono hle3
   · exact hwb.mono hle3
   exact hwc.mono hle3
  |18,hk=>
   obtain rfl:=Option.some.inj hk;obtain rfl:=Option.some.inj hd;obtain⟨va,ha,pa⟩:=hdep 17 (by kernel_rfl) _ _ rfl rfl;obtain⟨wa,wb,wc,hw⟩:=pa;obtain⟨qp,qc,rfl⟩:=zS.len hw.1;exact⟨rfl,AY (zN (vs:=[.slice qp (fs2 wa wb wc).length qc]) (pl:= #[(0,1),(1,1),(2,1)]) rfl (by simp only[List.map,evs,ev,ha]) Tryz.zeroValue57 rfl Tryz.underlying57 (fun w=>by simp[Tryz.sizeOf55,tS5]) (FB.part rfl rfl rfl (AL.s (AL.s (AL.c AL.z))) FB.none)) rfl rfl ⟨_,[],rfl,rfl,KL,Le.refl _,fun I3 hle3 _=>⟨_,wa,wb,wc,rfl,hw.mono hle3⟩⟩⟩
  |19,hk=>
   obtain rfl:=Option.some.inj hk;obtain rfl:=Option.some.inj hd;obtain⟨va,ha,pa⟩:=hdep 10 (by kernel_rfl) _ _ rfl rfl;have pa:va= .agg [i64 2,i64 1].toArray:=pa;subst pa;obtain⟨vb,hb,pb⟩:=hdep 18 (by kernel_rfl) _ _ rfl rfl;obtain⟨w,wa,wb,wc,rfl,hw⟩:=pb;exact⟨rfl,AY (zN (vs:=[.agg [i64 2,i64 1].toArray,a7w 0 0 w]) (pl:= #[(0,2),(2,3)]) rfl (by simp only[List.map,evs,ev,ha,hb]) a0M rfl a2R (fun w=>by simp[EJ,UE]) (FB.part rfl rfl rfl (AL.c (AL.c AL.z)) (FB.part rfl rfl rfl (AL.s (AL.s (AL.c (AL.c (AL.c AL.z))))) FB.none))) rfl rfl ⟨_,[],rfl,rfl,KL,Le.refl _,fun I3 hle3 _=>⟨w,wa,wb,wc,rfl,hw.mono hle3⟩⟩⟩
  |20,hk=>
   obtain rfl:=Option.some.inj hk;obtain rfl:=Option.some.inj hd;obtain⟨va,ha,pa⟩:=hdep 9 (by kernel_rfl) _ _ rfl rfl;obtain⟨w,wa,wb,wc,rfl,hw⟩:=pa;obtain⟨vb,hb,pb⟩:=hdep 19 (by kernel_rfl) _ _ rfl rfl;obtain⟨u,ua,ub,uc,rfl,hu⟩:=pb;obtain⟨qp,qc,hq⟩:=zS.len hw.1;obtain⟨rp,rc,hr⟩:=zS.len hu.1;refine⟨rfl,KZ (vs:=[.agg (IB ⟨(1,1),0,0,w,fs1 wa wb wc⟩).toArray,.agg (IB ⟨(2,1),0,0,u,fs2 ua ub uc⟩).toArray]) rfl rfl rfl NI OV a0M rfl (by simp only[List.map,evs,ev,ha,hb]) rfl rfl (EH.agg rfl (EH.agg rfl EH.none)) (fun b hbb=>⟨_,[(b,_)],rfl,rfl,UM hbb,Le.refl _,fun I3 hle3 hK=>⟨[⟨(1,1),0,0,w,fs1 wa wb wc⟩,⟨(2,1),0,0,u,fs2 ua ub uc⟩],⟨zS.of (sp:=[]) (Nat.le_refl _) (hK _ (.head _)),fun x hx=>?_⟩,rfl,fun x hx=>?_,c5R _ _ _ _ _ _ _ _⟩⟩)⟩
   · simp only[List.mem_cons,List.not_mem_nil,or_false]at hx;rcases hx with rfl|rfl
     · exact hw.mono hle3
     exact hu.mono hle3
   simp only[List.mem_cons,List.not_mem_nil,or_false]at hx;rcases hx with rfl|rfl
   · exact c5y _ _ _
   exact c4P _ _ _
  |21,hk=>
   obtain rfl:=Option.some.inj hk;obtain rfl:=Option.some.inj hd;obtain⟨va,ha,pa⟩:=hdep 20 (by kernel_rfl) _ _ rfl rfl;obtain⟨es,hE,hl,hek,hls⟩:=pa;refine⟨rfl,IQ (vs:=[va]) (fst:=[]) (cap:=[]) rfl rfl rfl rfl (by simp only[evs,ev,ha]) (c1t es va (by omega) hek _ hE) (fun v I3 H3 hle3 hn hp=>?_) (fun _ _ _ _ ⟨_,_,h,_⟩=>by cases h) (fun _ _ ⟨_,_,h,_⟩=>by cases h)⟩;obtain⟨ib,o,h,hok,rfl⟩:=hp;cases h;rw[hls]at hok;exact⟨_,ixH ib o,rfl,rfl,hn,hle3,fun I4 hle4 hK=>⟨ib,rfl,o,hok.mono hle4,hK⟩⟩
  |22,hk=>
   obtain rfl:=Option.some.inj hk;obtain rfl:=Option.some.inj hd;obtain⟨va,ha,pa⟩:=hdep 21 (by kernel_rfl) _ _ rfl rfl;obtain⟨ib,rfl,hx⟩:=pa;exact⟨rfl,AY (a3e rfl (show ev e (.tmp 37)=some (ptr ib 0) from ha)) rfl rfl ⟨_,[],rfl,rfl,KL,Le.refl _,fun I3 hle3 _=>⟨ib,rfl,hx.mono hle3⟩⟩⟩
  |k+23,hk=>exact absurd hk (by simp)
 obtain⟨v3,h3,ib,rfl,hx⟩:=hkn 22 _ _ rfl rfl;refine Ej.weak (e':=[(3,ptr ib 0),(1,ptr b1 0),(2,ptr b2 0)]) ⟨h3,(hba 1 (by decide)).trans rfl,(hba 2 (by decide)).trans rfl,trivial⟩ ?_;have hT:=hT.mono hle;refine AP (WB [116,105,116,108,101] [61] [115,101,97] _) ?_;intro v3 I4 H5 hle6 hp7;have hT:=hT.mono hle6;have hx:=hx.mono hle6;obtain⟨h,rfl⟩:=hp7;cases h;refine AP (WB [97,117,116,104,111,114] [61] [119,111,111,108,102] _) ?_;intro v8 I9 H10 hle11 hp12;have hT:=hT.mono hle11;have hx:=hx.mono hle11;obtain⟨h,rfl⟩:=hp12;cases h;refine AP (both_ok 2 (Ix.a6N [116,105,116,108,101] [61] [115,101,97]) (Ix.a6N [97,117,116,104,111,114] [61] [119,111,111,108,102]) none none 0 0 _ (.inl rfl) (.inl rfl)) ?_;intro v13 I14 H15 hle16 hp17;have hT:=hT.mono hle16;have hx:=hx.mono hle16;obtain⟨⟨pqa,cqa,h,hqa⟩,rfl⟩:=hp17;cases h;refine LD (a3D (ptr ib 0) LS (Ix.EC 2 (Ix.a6N [116,105,116,108,101] [61] [115,101,97]) (Ix.a6N [97,117,116,104,111,114] [61] [119,111,111,108,102])) pqa cqa (by decide) (by decide) (Ix.a6Q (by decide) (by decide) (Ix.a5T (by decide) (by decide) _) (Ix.a5T (by decide) (by decide) _) (by decide) (by decide)) a3n _ hqa (.inr ⟨ib,rfl,hx⟩) hT) ?_;intro v19 I20 H21 hle22 hn18 hp23;have hT:=hT.mono hle22;have hx:=hx.mono hle22;have hqa:=hqa.mono hle22;obtain⟨wa,ra,h,hruna,hoa⟩:=hp23;cases h;obtain rfl:=hruna.eq sr1;refine J.a1A hoa hn18 (fun Ia hlea hra=>?_);have hT:=hT.mono hlea;have hx:=hx.mono hlea;have hqa:=hqa.mono hlea;replace hra:=hra.row;obtain⟨pa,ca,rfl⟩:=CQ hra;refine AP (WB [97,110,121] [97,110,121] [104,105,115,116,111,114,121,32,115,116,111,114,121] _) ?_;intro v24 I25 H26 hle27 hp28;have hT:=hT.mono hle27;have hx:=hx.mono hle27;have hqa:=hqa.mono hle27;have hra:=hra.mono hle27;obtain⟨h,rfl⟩:=hp28;cases h;refine LD (a3D (ptr ib 0) LS (Ix.a6N [97,110,121] [97,110,121] [104,105,115,116,111,114,121,32,115,116,111,114,121]) none 0 (by decide) (by decide) (Ix.b6n (by decide) (by decide) _) a3n _ (.inl rfl) (.inr ⟨ib,rfl,hx⟩) hT) ?_;intro v30 I31 H32 hle33 hn29 hp34;have hT:=hT.mono hle33;have hx:=hx.mono hle33;have hqa:=hqa.mono hle33;have hra:=hra.mono hle33;obtain⟨wb,rb,h,hrunb,hob⟩:=hp34;cases h;obtain rfl:=hrunb.eq sr2;refine J.a1A hob hn29 (fun Ib hleb hrb=>?_);have hT:=hT.mono hleb;have hx:=hx.mono hleb;have hqa:=hqa.mono hleb;have hra:=hra.mono hleb;replace hrb:=hrb.row;obtain⟨pb,cb,rfl⟩:=CQ hrb;refine AP (WB [121,101,97,114] [60] [50,48,48,48] _) ?_;intro v35 I36 H37 hle38 hp39;have hT:=hT.mono hle38;have hx:=hx.mono hle38;have hqa:=hqa.mono hle38;have hra:=hra.mono hle38;have hrb:=hrb.mono hle38;obtain⟨h,rfl⟩:=hp39;cases h;refine LD (a3D (ptr ib 0) LS (Ix.a6N [121,101,97,114] [60] [50,48,48,48]) none 0 (by decide) (by decide) (Ix.b6n (by decide) (by decide) _) a3n _ (.inl rfl) (.inr ⟨ib,rfl,hx⟩) hT) ?_;intro v41 I42 H43 hle44 hn40 hp45;have hT:=hT.mono hle44;have hx:=hx.mono hle44;have hqa:=hqa.mono hle44;have hra:=hra.mono hle44;have hrb:=hrb.mono hle44;obtain⟨wc,rc,h,hrunc,hoc⟩:=hp45;cases h;obtain rfl:=hrunc.eq sr3;refine J.a1A hoc hn40 (fun Ic hlec hrc=>?_);have hT:=hT.mono hlec;have hx:=hx.mono hlec;have hqa:=hqa.mono hlec;have hra:=hra.mono hlec;have hrb:=hrb.mono hlec;replace hrc:=hrc.row;obtain⟨pc,cc,rfl⟩:=CQ hrc;refine AP (WB [121,101,97,114] [62,61] [50,48,48,48] _) ?_;intro v46 I47 H48 hle49 hp50;have hT:=hT.mono hle49;have hx:=hx.mono hle49;have hqa:=hqa.mono hle49;have hra:=hra.mono hle49;have hrb:=hrb.mono hle49;have hrc:=hrc.mono hle49;obtain⟨h,rfl⟩:=hp50;cases h;refine LD (a3D (ptr ib 0) LS (Ix.a6N [121,101,97,114] [62,61] [50,48,48,48]) none 0 (by decide) (by decide) (Ix.b6n (by decide) (by decide) _) a3n _ (.inl rfl) (.inr ⟨ib,rfl,hx⟩) hT) ?_;intro v52 I53 H54 hle55 hn51 hp56;have hT:=hT.mono hle55;have hx:=hx.mono hle55;have hqa:=hqa.mono hle55;have hra:=hra.mono hle55;have hrb:=hrb.mono hle55;have hrc:=hrc.mono hle55;obtain⟨wd,rd,h,hrund,hod⟩:=hp56;cases h;obtain rfl:=hrund.eq sr4;refine J.a1A hod hn51 (fun Id hled hrd=>?_);have hT:=hT.mono hled;have hx:=hx.mono hled;have hqa:=hqa.mono hled;have hra:=hra.mono hled;have hrb:=hrb.mono hled;have hrc:=hrc.mono hled;replace hrd:=hrd.row;obtain⟨pd,cd,rfl⟩:=CQ hrd;refine AP (WB [116,105,116,108,101] [97,108,108] [115,101,97,32,115,116,111,114,105,101,115] _) ?_;intro v57 I58 H59 hle60 hp61;have hT:=hT.mono hle60;have hx:=hx.mono hle60;have hqa:=hqa.mono hle60;have hra:=hra.mono hle60;have hrb:=hrb.mono hle60;have hrc:=hrc.mono hle60;have hrd:=hrd.mono hle60;obtain⟨h,rfl⟩:=hp61;cases h;refine AP (WB [97,117,116,104,111,114] [61] [119,111,111,108,102] _) ?_;intro v62 I63 H64 hle65 hp66;have hT:=hT.mono hle65;have hx:=hx.mono hle65;have hqa:=hqa.mono hle65;have hra:=hra.mono hle65;have hrb:=hrb.mono hle65;have hrc:=hrc.mono hle65;have hrd:=hrd.mono hle65;obtain⟨h,rfl⟩:=hp66;cases h;refine AP (both_ok 4 (Ix.a6N [116,105,116,108,101] [97,108,108] [115,101,97,32,115,116,111,114,105,101,115]) (Ix.a6N [97,117,116,104,111,114] [61] [119,111,111,108,102]) none none 0 0 _ (.inl rfl) (.inl rfl)) ?_;intro v67 I68 H69 hle70 hp71;have hT:=hT.mono hle70;have hx:=hx.mono hle70;have hqa:=hqa.mono hle70;have hra:=hra.mono hle70;have hrb:=hrb.mono hle70;have hrc:=hrc.mono hle70;have hrd:=hrd.mono hle70;obtain⟨⟨pqe,cqe,h,hqe⟩,rfl⟩:=hp71;cases h;refine LD (a3D (ptr ib 0) LS (Ix.EC 4 (Ix.a6N [116,105,116,108,101] [97,108,108] [115,101,97,32,115,116,111,114,105,101,115]) (Ix.a6N [97,117,116,104,111,114] [61] [119,111,111,108,102])) pqe cqe (by decide) (by decide) (Ix.a6Q (by decide) (by decide) (Ix.a5T (by decide) (by decide) _) (Ix.a5T (by decide) (by decide) _) (by decide) (by decide)) a3n _ hqe (.inr ⟨ib,rfl,hx⟩) hT) ?_;intro v73 I74 H75 hle76 hn72 hp77;have hT:=hT.mono hle76;have hx:=hx.mono hle76;have hqa:=hqa.mono hle76;have hra:=hra.mono hle76;have hrb:=hrb.mono hle76;have hrc:=hrc.mono hle76;have hrd:=hrd.mono hle76;have hqe:=hqe.mono hle76;obtain⟨we,re,h,hrune,hoe⟩:=hp77;cases h;obtain rfl:=hrune.eq sr5;refine J.a1A hoe hn72 (fun Ie hlee hre=>?_);have hT:=hT.mono hlee;have hx:=hx.mono hlee;have hqa:=hqa.mono hlee;have hra:=hra.mono hlee;have hrb:=hrb.mono hlee;have hrc:=hrc.mono hlee;have hrd:=hrd.mono hlee;have hqe:=hqe.mono hlee;replace hre:=hre.row;obtain⟨pe,ce,rfl⟩:=CQ hre;refine yU 14 ?_;refine J.opG 2 74 true _ rfl rfl rfl (by first|rfl|decide) (ER a0J EJ a0D (EH.agg rfl EH.none) ?_);intro b78 hb78;refine J.persist hb78 (fun I80 hle79 hb78i=>?_);have hT:=hT.mono hle79;have hx:=hx.mono hle79;have hqa:=hqa.mono hle79;have hra:=hra.mono hle79;have hrb:=hrb.mono hle79;have hrc:=hrc.mono hle79;have hrd:=hrd.mono hle79;have hqe:=hqe.mono hle79;have hre:=hre.mono hle79;have hL78:zS recC _ ([(2,1)]:List Ix.Rec) (.slice (some ⟨b78,0,none⟩) 1 1):=zS.of (l:=([(2,1)]:List Ix.Rec)) (sp:=[]) (Nat.le_refl _) hb78i;refine zX (a5v [(2,1)] [(2,1)] _ _ (by decide) _ hra hL78) ?_;refine J.ev 78 (.bool true) rfl (congrArg Value.bool (by decide)) ?_;refine yU 5 ?_;refine J.opG 8 80 true _ rfl rfl rfl rfl (ER a0J EJ a0D (EH.agg rfl (EH.agg rfl EH.none)) ?_);intro b81 hb81;refine J.persist hb81 (fun I83 hle82 hb81i=>?_);have hT:=hT.mono hle82;have hx:=hx.mono hle82;have hqa:=hqa.mono hle82;have hra:=hra.mono hle82;have hrb:=hrb.mono hle82;have hrc:=hrc.mono hle82;have hrd:=hrd.mono hle82;have hqe:=hqe.mono hle82;have hre:=hre.mono hle82;have hb78i:=hle82 _ _ hb78i;have hL78:=hL78.mono hle82;have hL85:zS recC _ ([(1,1),(2,1)]:List Ix.Rec) (.slice (some ⟨b81,0,none⟩) 2 2):=zS.of (l:=([(1,1),(2,1)]:List Ix.Rec)) (sp:=[]) (Nat.le_refl _) hb81i;refine zX (a5v [(1,1),(2,1)] [(1,1),(2,1)] _ _ (by decide) _ hrb hL85) ?_;refine J.ev 85 (.bool true) rfl (congrArg Value.bool (by decide)) ?_;refine yU 4 ?_;refine J.opG 15 87 true _ rfl rfl rfl rfl (ER a0J EJ a0D (EH.agg rfl EH.none) ?_);intro b84 hb84;refine J.persist hb84 (fun I86 hle85 hb84i=>?_);have hT:=hT.mono hle85;have hx:=hx.mono hle85;have hqa:=hqa.mono hle85;have hra:=hra.mono hle85;have hrb:=hrb.mono hle85;have hrc:=hrc.mono hle85;have hrd:=hrd.mono hle85;have hqe:=hqe.mono hle85;have hre:=hre.mono hle85;have hb78i:=hle85 _ _ hb78i;have hL78:=hL78.mono hle85;have hb81i:=hle85 _ _ hb81i;have hL85:=hL85.mono hle85;have hL91:zS recC _ ([(1,1)]:List Ix.Rec) (.slice (some ⟨b84,0,none⟩) 1 1):=zS.of (l:=([(1,1)]:List Ix.Rec)) (sp:=[]) (Nat.le_refl _) hb84i;refine zX (a5v [(1,1)] [(1,1)] _ _ (by decide) _ hrc hL91) ?_;refine J.ev 91 (.bool true) rfl (congrArg Value.bool (by decide)) ?_;refine yU 4 ?_;refine J.ev 95 (i64 0) rfl rfl ?_;refine yU 2 ?_;refine J.ev 97 (i64 0) rfl rfl ?_;refine yU 2 ?_;refine J.ev 99 (.bool true) rfl rfl ?_;refine AB ?_;exact⟨rfl,rfl⟩
end Go.Proofs.YtekmeaoblpfnpaaGreatDoor
end
namespace Cq
def a6x (x:Int) (n:Nat):Nat:=((x.tmod n+n).tmod n).toNat
theorem b4x x {n}(hn:0<n):(x.tmod n+n).tmod n=(a6x x n:Int)∧a6x x n<n∧ -(n:Int)<x.tmod n∧x.tmod n<n:=by
  have h1: -(n:Int)<x.tmod n∧x.tmod n<n:=by
    have h2:=Int.tmod_lt_of_pos x (b:=n) (by omega);have h3:=Int.tmod_lt_of_pos (-x) (b:=n) (by omega);rw[Int.neg_tmod]at h3;omega
  have h4:=Int.tmod_nonneg (a:=x.tmod n+n) n (by omega);have h5:=Int.tmod_lt_of_pos (x.tmod n+n) (b:=n) (by omega);unfold a6x;omega
def next (l:List Int) (k n:Nat):Nat×Nat:=
  match l[k]? with
  |some x=>(a6x x n,k+1)
  |none=>(0,k)
theorem next_lt l k {n}(hn:0<n):(next l k n).1<n:=by grind [next,b4x]
theorem c2K l {k} n (h:k≤l.length):(next l k n).2≤l.length:=by grind [next]
def texts : List (List UInt8) := [[99, 97, 116], [116, 104, 101, 32, 99, 97, 116], [], [49, 57, 57, 48], [97, 34, 98], [92], [97, 110, 100], [57, 55, 56, 48, 51, 48, 54, 52, 48, 54, 49, 53, 55], [120, 32, 121, 32, 40, 122, 41]]
def leaf (l:List Int) (k:Nat):Qn×Nat:=
  (⟨1,indexes.getD (next l k 6).1 [],relations.getD (next l (next l k 6).2 6).1 [],texts.getD (next l (next l (next l k 6).2 6).2 9).1 [],.nil⟩,(next l (next l (next l k 6).2 6).2 9).2)
def made:Nat→List Int→Nat→Qn×Nat
  |0,l,k=>leaf l (next l k 5).2
  | deep+1,l,k=>
    if (next l k 5).1<2 then leaf l (next l k 5).2
    else(two (next l k 5).1 (made deep l (next l k 5).2).1 (made deep l (made deep l (next l k 5).2).2).1,(made deep l (made deep l (next l k 5).2).2).2)
def XY (l:List Int):Qn:=(made (next l 0 7).1 l (next l 0 7).2).1
theorem a7f k a b:(two k a b).Two a b:=rfl
theorem a7Z l k:form (leaf l k).1=true∧depth (leaf l k).1=0∧(write (leaf l k).1).length≤60:=by
  have h1:=next_lt l k (n:=6) (by omega);have h2:=next_lt l (next l k 6).2 (n:=6) (by omega);have h3:=next_lt l (next l (next l k 6).2 6).2 (n:=9) (by omega);unfold leaf;revert h1 h2 h3;generalize (next l k 6).1=a;generalize (next l (next l k 6).2 6).1=b;generalize (next l (next l (next l k 6).2 6).2 9).1=c;intro h1 h2 h3;have ha:indexes.getD a []∈indexes:=by rw[List.getD_eq_getElem?_getD,List.getElem?_eq_getElem (by exact h1)];exact List.getElem_mem _
  have hb:relations.getD b []∈relations:=by rw[List.getD_eq_getElem?_getD,List.getElem?_eq_getElem (by exact h2)];exact List.getElem_mem _
  have hc:texts.getD c []∈texts:=by rw[List.getD_eq_getElem?_getD,List.getElem?_eq_getElem (by exact h3)];exact List.getElem_mem _
  refine⟨by rw[MG rfl];show(indexes.contains _ && relations.contains _ && _)=true;rw[List.contains_iff_mem.2 ha,List.contains_iff_mem.2 hb];rfl,QN rfl,?_⟩;rw[JL rfl];have h4:(indexes.getD a []).length≤7:=(by decide:∀x∈indexes,x.length≤7) _ ha;have h5:(relations.getD b []).length≤3:=(by decide:∀x∈relations,x.length≤3) _ hb;have h6:(texts.getD c []).length≤13:=(by decide:∀x∈texts,x.length≤13) _ hc;have h7:=(QB (texts.getD c [])).2;simp only[text,List.length_append,List.length_cons,List.length_nil];omega
theorem c1u k:(word k).length≤3:=by unfold word;split<;>(try split)<;>simp
theorem b5L k x:(paren k x).length≤x.length+2:=by unfold paren;split<;>simp<;>omega
theorem c2P{k a b}(h2:2≤k)(h4:k≤4):form (two k a b)=(form a && form b):=
  SE (show(k:Int)≠1 by omega) (by
    rintro(h|h|h|h|h|h)
    · simp only[two]at h;omega
    · simp only[two]at h;omega
    · exact h rfl
    · exact h rfl
    · exact h rfl
    exact h rfl) (a7f k a b)
theorem c5Q k:up k≤1:=by unfold up;split<;>omega
theorem a3h:∀(deep:Nat) (l:List Int) (k:Nat),form (made deep l k).1=true∧depth (made deep l k).1≤deep∧(write (made deep l k).1).length+7≤67*2 ^ deep∧(made deep l k).1.size+2≤2*2 ^ deep
  | 0,l,k=>by
    obtain⟨h1,h2,h3⟩:=a7Z l (next l k 5).2;exact⟨h1,by simp only[made];omega,by simp only[made];omega,by simp[made,leaf,Qn.size,Qs.size]⟩
  | deep+1,l,k=>by
    have hp:0<2 ^ deep:=Nat.pow_pos (by omega)
    by_cases h:(next l k 5).1<2
    · obtain⟨h1,h2,h3⟩:=a7Z l (next l k 5).2;simp only[made,if_pos h];refine⟨h1,by omega,by rw[Nat.pow_succ];omega,by simp[leaf,Qn.size,Qs.size,Nat.pow_succ];omega⟩
    have h5:=next_lt l k (n:=5) (by omega);obtain⟨a1,a2,a3,a4⟩:=a3h deep l (next l k 5).2;obtain⟨b1,b2,b3,b4⟩:=a3h deep l (made deep l (next l k 5).2).2;simp only[made,if_neg h];generalize (made deep l (next l k 5).2).1=a at *;generalize (made deep l (made deep l (next l k 5).2).2).1=b at *;have hk:((two (next l k 5).1 a b).k)≠1:=by show((next l k 5).1:Int)≠1;omega
    refine⟨by rw[c2P (by omega) (by omega),a1,b1];rfl,?_,?_,?_⟩
    · rw[SN hk (a7f _ a b)];have:=c5Q b.k;omega
    · rw[MO hk (a7f _ a b)];have h6:=b5L b.k (write b);have h7:=c1u (two (next l k 5).1 a b).k;simp only[List.length_append,List.length_cons,List.length_nil,Nat.pow_succ];omega
    simp only[Qn.size,two,Qn.push,Qs.size,Nat.pow_succ]at *;omega
theorem b6m l:form (XY l)=true∧depth (XY l)≤6∧(write (XY l)).length≤10000∧(XY l).size≤200:=by
  have h:=next_lt l 0 (n:=7) (by omega);obtain⟨h1,h2,h3,h4⟩:=a3h (next l 0 7).1 l (next l 0 7).2;have hp:2 ^ (next l 0 7).1≤2 ^ 6:=Nat.pow_le_pow_right (by omega) (by omega);exact⟨h1,by unfold XY;omega,by unfold XY;omega,by unfold XY;omega⟩
def Qs.app:Qs→Qs→Qs
  | .nil,r=>r
  | .cons k i r t ps rest,x=> .cons k i r t ps (rest.app x)
theorem Qs.b3Z:∀(a b:Qs),(a.app b).len=a.len+b.len
  | .nil,b=>by simp[Qs.app,Qs.len]
  | .cons _ _ _ _ _ rest,b=>by simp only[Qs.app,Qs.len,Qs.b3Z rest b];omega
theorem Qs.b0s:∀(a b:Qs),(a.app b).size=a.size+b.size
  | .nil,b=>by simp[Qs.app,Qs.size]
  | .cons _ _ _ _ _ rest,b=>by simp only[Qs.app,Qs.size,Qs.b0s rest b];omega
theorem Qs.b1j:∀(a b:Qs),(a.app b).wide=a.wide+b.wide
  | .nil,b=>by simp[Qs.app,Qs.wide]
  | .cons _ _ _ _ _ rest,b=>by simp only[Qs.app,Qs.wide,Qs.b1j rest b];omega
theorem a2Y:∀(n:Nat) (q:Qn),q.size<n→depth q≤q.size
  |0,q,h=>by omega
  | n+1,q,h=>by
    by_cases hk:q.k=1
    · rw[QN hk];exact Nat.zero_le _
    by_cases hl:q.ps.len=2
    · obtain⟨a,b,htw⟩:=Qs.b2h hl;have htw':q.Two a b:=htw;have h1:=htw'.size;have ha:=a2Y n a (by omega);have hb:=a2Y n b (by omega);have hu:up b.k≤1:=by unfold up;split<;>omega
      rw[SN hk htw'];omega
    have:depth q=0:=by
      obtain⟨k,i,r,t,ps⟩:=q;unfold depth a2W;rw[if_neg hk]
      match ps,hl with
      | .nil,_=>rfl
      | .cons _ _ _ _ _ .nil,_=>rfl
      | .cons _ _ _ _ _ (.cons _ _ _ _ _ .nil),h=>exact absurd rfl h
      | .cons _ _ _ _ _ (.cons _ _ _ _ _ (.cons _ _ _ _ _ _)),_=>rfl
    omega
theorem a9z q:depth q≤q.size:=a2Y _ q (Nat.lt_succ_self _)
theorem Qn.Two.sizes{q a b:Qn}(h:q.Two a b):q.size=a.size+b.size+2∧q.ps.wide=a.wide+b.wide:=by
  have h':q.ps=a.push (b.push .nil):=h;unfold Qn.size Qn.wide;rw[h'];simp only[Qn.push,Qs.size,Qs.wide];omega
theorem a8C{q}(h:form q=true)(hk:q.k≠1):∃a b:Qn,q.Two a b∧2≤q.k∧q.k≤4∧form a=true∧form b=true∧q=two q.k.toNat a b:=by
  obtain⟨_,h2,h4,a,b,htw,ha,hb⟩:=(FI h).resolve_left hk;have hn:¬(q.k<2∨q.k>4∨q.i≠[]∨q.r≠[]∨q.t≠[]∨q.ps.len≠2):=fun hbad=>by rw[VT hk hbad]at h;cases h
  simp only[not_or,Decidable.not_not]at hn;obtain⟨_,_,hi,hr,ht,_⟩:=hn;refine⟨a,b,htw,h2,h4,ha,hb,?_⟩;have hps:q.ps=a.push (b.push .nil):=htw;obtain⟨k,i,r,t,ps⟩:=q;simp only at hi hr ht hps h2;subst hi hr ht hps;simp only[two,Qn.mk.injEq,and_self,and_true];omega
theorem b7i{q}(h:form q=true)(hk:q.k=1):q.i∈indexes∧q.r∈relations∧q=⟨1,q.i,q.r,q.t,.nil⟩:=by
  rw[MG hk]at h;simp only[Bool.and_eq_true,beq_iff_eq,List.contains_iff_mem]at h;obtain⟨⟨h1,h2⟩,h3⟩:=h;refine⟨h1,h2,?_⟩;obtain⟨k,i,r,t,ps⟩:=q;cases ps with
  |nil=>simp only at hk;subst hk;rfl
  |cons _ _ _ _ _ _=>simp[Qs.len]at h3
theorem c1k k a b : (two k a b).size = a.size + b.size + 2 := by
  simp only [two, Qn.size, Qn.push, Qs.size]; omega
theorem b2j k a b:(two k a b).wide=a.wide+b.wide:=by grind [two,Qn.wide,Qn.push,Qs.wide,List.length_nil]
theorem a8z:∀(n:Nat) (q:Qn),q.size<n→form q=true→(write q).length+7≤2*q.wide+11*(q.size+1)
  |0,q,h,_=>by omega
  | n+1,q,hn,hf=>by
    by_cases hk:q.k=1
    · rw[JL hk];have h:=(QB q.t).2;simp only[text,List.length_append,List.length_cons,List.length_nil,Qn.wide];omega
    obtain⟨a,b,htw,h2,h4,ha,hb,hq⟩:=a8C hf hk;have hsz:=htw.size;have h1:=a8z n a (by omega) ha;have h3:=a8z n b (by omega) hb;have hw:(word q.k).length≤3:=by unfold word;split<;>(try split)<;>simp
    have hp:(paren b.k (write b)).length≤(write b).length+2:=by unfold paren;split<;>simp<;>omega
    have e1:q.wide=a.wide+b.wide:=by rw[hq,b2j]
    have e2:q.size=a.size+b.size+2:=by rw[hq,c1k]
    rw[MO hk htw,e1,e2];simp only[List.length_append,List.length_cons,List.length_nil];omega
theorem a7t:∀(n:Nat) (q:Qn),q.size<n→form q=true→q.wide≤(write q).length
  |0,q,h,_=>by omega
  | n+1,q,hn,hf=>by
    by_cases hk:q.k=1
    · obtain⟨_,_,hq⟩:=b7i hf hk;have hw:q.wide=q.i.length+q.r.length+q.t.length:=by rw[hq];simp[Qn.wide,Qs.wide]
      rw[JL hk,hw];have h:=(QB q.t).1;simp only[text,List.length_append,List.length_cons,List.length_nil];omega
    obtain⟨a,b,htw,h2,h4,ha,hb,hq⟩:=a8C hf hk;have hsz:=htw.size;have h1:=a7t n a (by omega) ha;have h3:=a7t n b (by omega) hb;have hp:=a3c b.k (write b);have e1:q.wide=a.wide+b.wide:=by rw[hq,b2j]
    rw[MO hk htw,e1];simp only[List.length_append,List.length_cons,List.length_nil];omega
theorem b5W{q}(h:form q=true):q.wide≤(write q).length:=a7t _ q (Nat.lt_succ_self _) h
theorem Qs.a4K:∀{ps:Qs},ps.len≤ps.size
  | .nil=>Nat.le_refl _
  | .cons _ _ _ _ _ rest=>by have:=@Qs.a4K rest;simp only[Qs.len,Qs.size];omega
end Cq
namespace Go.Sx
open Cq
theorem b1l{x n}(hn:0<n)(h: -9223372036854775808≤x∧x≤9223372036854775807): -9223372036854775808≤x.tdiv n∧x.tdiv n≤9223372036854775807:=by
  rcases Int.le_total 0 x with h0|h0
  · rw[Int.tdiv_eq_ediv_of_nonneg h0];have h1:=Int.ediv_nonneg h0 (Int.le_of_lt hn);have h2:=Int.ediv_le_self n h0;omega
  have hx:x= -(-x):=by omega
  have h3:0≤ -x:=by omega
  rw[hx,Int.neg_tdiv,Int.tdiv_eq_ediv_of_nonneg h3];have h1:=Int.ediv_nonneg h3 (Int.le_of_lt hn);have h2:=Int.ediv_le_self n h3;omega
theorem QC.app{I}:∀{ps rest:Qs} {cs zs:List Value},cs.length=ps.len*5→QC I ps cs→QC I rest zs→QC I (ps.app rest) (cs++zs)
  | .nil,_,cs,zs,h,_,hr=>by
    have:cs=[]:=List.length_eq_zero_iff.1 (by simpa[Qs.len]using h);subst this;exact hr
  | .cons _ _ _ _ _ rest',_,_,zs,h,⟨p,c,tl,h0,h1,h2⟩,hr=>by
    subst h0;exact⟨p,c,tl++zs,rfl,h1,QC.app (by simp only[List.length_cons,Qs.len]at h;omega) h2 hr⟩
theorem QC.cut{I}:∀{ps:Qs} {cs:List Value},QC I ps cs→QC I ps (cs.take (ps.len*5))∧(cs.take (ps.len*5)).length=ps.len*5∧(cs.take (ps.len*5)).all Value.oneCell'=true
  | .nil,cs,_=>⟨trivial,by simp[Qs.len],by simp[Qs.len]⟩
  | .cons _ _ _ _ ps' rest,_,⟨p,c,tl,h0,h1,h2⟩=>by
    subst h0;obtain⟨g1,g2,g3⟩:=QC.cut h2;have e:(rest.len+1)*5=rest.len*5+1+1+1+1+1:=by omega
    simp only[Qs.len,e,List.take_succ_cons];exact⟨⟨p,c,_,rfl,h1,g1⟩,by simp only[List.length_cons,g2],by simp[g3,Value.oneCell',i64,str]⟩
theorem PS.src{P I ps p}(h:PS I ps p) c:∃ys,ys.length=ps.len*5∧QC I ps ys∧∀H,Src P I H 5 ps.len (.slice p ps.len c) ys:=by
  rcases h with rfl|⟨b,off,cs',T,fr,rfl,hI,hq⟩
  · exact⟨[],rfl,trivial,fun H=>Src.nil⟩
  obtain⟨g1,g2,g3⟩:=hq.cut;exact⟨_,g2,g1,fun H=>Src.slice (yZ.LK hI) rfl g2 g3⟩
theorem PS.snoc{I ps x ys sp bl T p c}(hl:ys.length=ps.len*5)(hq:QC I ps ys)(hx:PS I x.ps p)(h:I bl=some (yX T (ys++zT x p c++sp))):PS I (ps.app (x.push .nil)) (some ⟨bl,0,none⟩):=by
  refine .inr ⟨bl,0,_,T,(0,0),rfl,h,?_⟩;rw[List.drop_zero,List.append_assoc];exact QC.app hl hq ⟨p,c,sp,rfl,hx,trivial⟩
theorem PS.twoS{I a b pa pb ca cb bl T sp}(ha:PS I a.ps pa)(hb:PS I b.ps pb)(h:I bl=some (yX T (zT a pa ca++(zT b pb cb++sp)))):PS I (a.push (b.push .nil)) (some ⟨bl,0,none⟩):=
  .inr ⟨bl,0,_,T,(0,0),rfl,h,pa,ca,_,rfl,ha,pb,cb,_,rfl,hb,trivial⟩
theorem c4W{l x y:List Value}{off}(h1:(l.drop off).take 5=x)(h2:(l.drop (off+5)).take 5=y):(l.drop off).take 10=x++y:=by
  rw[show(10:Nat)=5+5 from rfl,List.take_add,h1,List.drop_drop,h2]
