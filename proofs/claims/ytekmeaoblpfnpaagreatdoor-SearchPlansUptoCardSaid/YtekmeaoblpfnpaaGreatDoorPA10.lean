/-
  Own texts on the laws of the seat, joined: the logic, and contracts of functions. Conditions: none.
-/
import Derived.Test.YtekmeaoblpfnpaaGreatDoorNmA
import Derived.Test.YtekmeaoblpfnpaaGreatDoorPA9
set_option linter.all false
set_option maxRecDepth 100000
set_option maxHeartbeats 40000000
section
namespace Go.Proofs.YtekmeaoblpfnpaaGreatDoor
open _root_.Go.Proofs.Tryz
open Go Go.Sx
theorem mod_eq(n:Int){m:Int}(hm:0<m):(n.tmod m+m).tmod m=n % m:=by
  have h1:=Int.tmod_lt_of_pos n hm;have h2: -m<n.tmod m:=by
    have:=Int.lt_tmod_of_pos n hm;omega
  rw[Int.tmod_eq_emod_of_nonneg (by omega),Int.add_emod_right,Int.tmod_def,Int.sub_mul_emod_self_left]
def a1U (p:List UInt8×List UInt8):List Value:=[str p.1,str p.2]
theorem c5k{k a b}(h:Ke.rows[k]?=some (a,b)):(Ke.rows.flatMap a1U)[k*2]?=some (str a)∧(Ke.rows.flatMap a1U)[k*2+1]?=some (str b):=by
  have h0:=DT (f:=a1U) (n:=2) (cs:=Ke.rows.flatMap a1U) (sp:=[]) (o:=0) (fun _=>rfl) (by simp) h 0 (by decide);have h1:=DT (f:=a1U) (n:=2) (cs:=Ke.rows.flatMap a1U) (sp:=[]) (o:=0) (fun _=>rfl) (by simp) h 1 (by decide);rw[Nat.zero_add]at h0 h1;exact⟨h0,h1⟩
theorem b0e:∀{l:List (Nat×List UInt8)} {c:Nat} {a:List UInt8},(l.map (·.1)).Nodup→(c,a)∈l→l.lookup c=some a
  | (d,b)::r,c,a,hn,h=>by
    simp only[List.map_cons,List.nodup_cons]at hn;rw[List.lookup_cons];rcases List.mem_cons.1 h with h|h
    · cases h;simp
    have:c≠d:=fun e=>hn.1 (e▸List.mem_map.2 ⟨_,h,rfl⟩);rw[show(c == d)=false from by simpa using this];exact b0e hn.2 h
theorem a5W{c}:∀{l:List (List UInt8×List UInt8)} {k:Nat} {a b:List UInt8},l[k]?=some (a,b)→c∈Ke.runes b→(c,a)∈Ke.JO l
  |[],_,_,_,h,_=>by simp at h
  | (x,y)::r,0,a,b,h,hc=>by
    simp at h;obtain⟨rfl,rfl⟩:=h;exact List.mem_append_left _ (List.mem_map.2 ⟨c,hc,rfl⟩)
  |(x,y)::r,k+1,a,b,h,hc=>List.mem_append_right _ (a5W (l:=r) (by simpa using h) hc)
theorem b6r{k j c:Nat}{a b}(h:Ke.rows[k]?=some (a,b))(hj:(Ke.runes b)[j]?=some c):Ke.tab.lookup c=some a:=by
  refine b0e Ke.a8R ?_;rw[←Ke.a5O];exact a5W h (CX hj)
theorem b8N{k c a b}(h:Ke.rows[k]?=some (a,b))(h1:c ∉ (Ke.JO (Ke.rows.take k)).map (·.1))(h2:c ∉ Ke.runes b):c ∉ (Ke.JO (Ke.rows.take (k+1))).map (·.1):=by
  rw[Ke.a4m h,List.map_append,List.mem_append,List.map_map];rintro(g|g)
  · exact h1 g
  obtain⟨x,hx,rfl⟩:=List.mem_map.1 g;exact h2 hx
theorem b7u{c k}(hk:¬k<31)(h:c ∉ (Ke.JO (Ke.rows.take k)).map (·.1)):Ke.tab.lookup c=none:=by
  rw[List.take_of_length_le (show Ke.rows.length≤k by show 31≤k;omega),Ke.a5O]at h;exact Ke.a0P h
theorem b7o{l:List Nat}{k c d}(h:c ∉ l.take k)(hg:l[k]?=some d)(hd:d≠c):c ∉ l.take (k+1):=by
  obtain⟨hlt,hg⟩:=List.getElem?_eq_some_iff.1 hg;rw[List.take_succ_eq_append_getElem hlt,hg,List.mem_append,List.mem_singleton];rintro(e|e)
  · exact h e
  exact hd e.symm
theorem a4o:∀(f:Nat) (s:List UInt8) (i:Nat) (acc:Array Value),s.length-i≤f→Conv.runesFrom ⟨s.toArray⟩ f i acc=acc++(rcs (Ke.runes (s.drop i))).toArray
  | 0,s,i,acc,h=>by
    rw[Ke.XG (by omega)];simp[Conv.runesFrom,rcs]
  | f+1,s,i,acc,h=>by
    unfold Conv.runesFrom
    by_cases hi:i<s.length
    · rw[if_pos (by rw[size_mk];exact hi)];have hw:=Ke.PG s hi;rw[Ke.ZJ hi];dsimp only;rw[a4o f s _ _ (by omega)];simp[rcs]
    rw[if_neg (by rw[size_mk];exact hi),Ke.XG (by omega)];simp[rcs]
theorem runes_all s:Conv.runesFrom ⟨s.toArray⟩ s.length 0 #[]=(rcs (Ke.runes s)).toArray:=by
  rw[a4o _ _ _ _ (by omega),List.drop_zero];simp
theorem a6t s:(Ke.runes s).length≤s.length:=Ke.WY _ _
theorem c0e I:yY Tryz.prog 232 [] I [] (fun e I' H'=>∃b,e= .returned (.slice (some ⟨b,0,none⟩) 31 31)∧H'=[(b,yX 281 (Ke.rows.flatMap a1U))]):=by
 refine zQ func232 fun w0 hw0=>?_;refine yU 39 ?_;intro b1 hb1;refine zV ?_;exact⟨b1,rfl,rfl⟩
theorem b7w(c:Nat) I:Pure Tryz.prog 181 [.int .i32 (c:Int)] I (str ((Ke.tab.lookup c).getD [])):=by
 refine yY.toPure ?_;refine zQ func181 fun w0 hw0=>?_;refine LD (c0e _) ?_;intro v2 I3 H4 hle5 hn1 hp6;obtain⟨tb,h,rfl⟩:=hp6;cases h;refine J.persist (hn1 _ (.head _)) (fun I9 hle9 htb=>?_);refine yU 10 ?_;refine Cj.loop (ι:=Nat) (fun k=>k≤31∧c ∉ (Ke.JO (Ke.rows.take k)).map (·.1)) (fun k=>31-k) (fun k=>[(0,.int .i32 (c:Int)),(3,.slice (some ⟨tb,0,none⟩) 31 31),(4,i64 (k:Int))]) (fun k=>_) (fun k=>[]) 0 ⟨Nat.zero_le _,by simp[Ke.JO]⟩ ⟨rfl,rfl,rfl,trivial⟩ rfl rfl ?_;rintro k ⟨hk,hno⟩;refine zK (fun hc7 hc7p=>?_) (fun hc7 hc7p=>?_)
 ·refine yU 5 ?_;have hlt:k<31:=by omega
  obtain⟨⟨a,b⟩,hget⟩:∃p,Ke.rows[k]?=some p:=⟨_,BM (show k<Ke.rows.length from hlt)⟩;obtain⟨-,-,hbl⟩:=Ke.a8r _ (CX hget);dsimp only at hbl;have hrb:=a6t b;refine zW (k*2) ?_;refine J.z (EU (off':=k*2+1) rfl rfl rfl underlying281 AV (by decide) (by decide) (by simp)) ?_;refine J.z (DU CU (yZ.LK htb) (c5k hget).2) ?_;refine J.op rfl (a6C (runes_all b) rfl rfl rfl rfl BQ underlying197 b5t ?_);intro b8 c9 sp10 hb8;refine yU 9 ?_;refine Cj.loop (ι:=Nat) (fun j=>j≤(Ke.runes b).length∧c ∉ (Ke.runes b).take j) (fun j=>(Ke.runes b).length-j) (fun j=>[(0,.int .i32 (c:Int)),(3,.slice (some ⟨tb,0,none⟩) 31 31),(4,i64 (k:Int)),(5,.slice (some ⟨b8,0,none⟩) (Ke.runes b).length c9),(6,i64 (j:Int))]) (fun j=>_) (fun j=>[(b8,yX 21 (rcs (Ke.runes b)++sp10))]) 0 ⟨Nat.zero_le _,by simp⟩ ⟨rfl,rfl,rfl,rfl,rfl,trivial⟩ rfl rfl ?_;rintro j ⟨hj,hnj⟩;refine zK (fun hc11 hc11p=>?_) (fun hc11 hc11p=>?_)
  ·refine yU 5 ?_;have hjl:j<(Ke.runes b).length:=by omega
   obtain⟨d,hgj⟩:∃d,(Ke.runes b)[j]?=some d:=⟨_,BM hjl⟩;refine zW j ?_;refine J.z (DU isAgg21 (yZ.at 0 rfl) (b3B hgj)) ?_;refine zK (fun hc12 hc12p=>?_) (fun hc12 hc12p=>?_)
   ·have hdc:d=c:=by have h:=CO hc12;omega
    subst hdc;refine zW (k*2) ?_;refine J.z (EU (off':=k*2) rfl rfl rfl underlying281 AV (by decide) (by decide) (by simp)) ?_;refine J.z (DU CU (yZ.LK htb) (c5k hget).1) ?_;refine AB ?_;rw[b6r hget hgj];exact⟨rfl,rfl⟩
   have hne:d≠c:=fun e=>CW hc12 (by rw[e]);refine yU 8 ?_;refine Ej.round (j+1) ⟨by omega,b7o hnj hgj hne⟩ (by omega) ⟨rfl,rfl,rfl,rfl,rfl,trivial⟩ rfl rfl
  have hnb:c ∉ Ke.runes b:=by rw[List.take_of_length_le (by omega)]at hnj;exact hnj
  refine yU 11 ?_;refine Ej.keep (Keeps.d Keeps.n) ?_;refine Ej.round (k+1) ⟨by omega,b8N hget hno hnb⟩ (by omega) ⟨rfl,rfl,rfl,trivial⟩ rfl rfl
 refine zV ?_;rw[b7u (by omega) hno];exact⟨rfl,rfl⟩
theorem c5d{c x}(h:Ke.tab.lookup c=some x):x≠[]:=by
  have h1:Ke.tab.all (fun p=>decide (p.2≠[]))=true:=by decide +kernel
  obtain⟨p,hp,rfl⟩:=Ke.a2c h;simpa using List.all_eq_true.1 h1 p hp
theorem b9A (c : Nat) (hc : c ≤ 1114111) I : Pure Tryz.prog 125 [.int .i32 (c : Int)] I (str (Ke.char c)) := by
 refine zQ func125 fun w0 hw0 => ?_
 refine yU 5 ?_
 refine Cj.join (ι := Unit) (fun _u => ¬ ((97 ≤ c ∧ c ≤ 122) ∨ (48 ≤ c ∧ c ≤ 57))) (fun _u => [(0, .int .i32 (c : Int))]) (fun _u => I) (fun _u => []) ?_ (fun hcut => ?_)
 ·intro _ a0
  refine Cj.join (ι := Unit) (fun _u => ¬ ((97 ≤ c ∧ c ≤ 122) ∨ (48 ≤ c ∧ c ≤ 57)) ∧ ¬ (65 ≤ c ∧ c ≤ 90)) (fun _u => [(0, .int .i32 (c : Int))]) (fun _u => I) (fun _u => []) ?_ (fun hcut => ?_)
  ·rintro - ⟨a0, a1⟩
   refine Cj.join (ι := Unit) (fun _u => ¬ ((97 ≤ c ∧ c ≤ 122) ∨ (48 ≤ c ∧ c ≤ 57)) ∧ ¬ (65 ≤ c ∧ c ≤ 90) ∧ 128 ≤ c) (fun _u => [(0, .int .i32 (c : Int))]) (fun _u => I) (fun _u => []) ?_ (fun hcut => ?_)
   ·rintro - ⟨a0, a1, a2⟩
    refine Cj.join (ι := Unit) (fun _u => ¬ ((97 ≤ c ∧ c ≤ 122) ∨ (48 ≤ c ∧ c ≤ 57)) ∧ ¬ (65 ≤ c ∧ c ≤ 90) ∧ 128 ≤ c ∧ ¬ ((768 ≤ c ∧ c ≤ 879) ∨ (65056 ≤ c ∧ c ≤ 65071))) (fun _u => [(0, .int .i32 (c : Int))]) (fun _u => I) (fun _u => []) ?_ (fun hcut => ?_)
    ·rintro - ⟨a0, a1, a2, a3⟩
     refine zX (b7w c _) ?_
     refine yU 3 ?_
     refine Cj.join (ι := Unit) (fun _u => ¬ ((97 ≤ c ∧ c ≤ 122) ∨ (48 ≤ c ∧ c ≤ 57)) ∧ ¬ (65 ≤ c ∧ c ≤ 90) ∧ 128 ≤ c ∧ ¬ ((768 ≤ c ∧ c ≤ 879) ∨ (65056 ≤ c ∧ c ≤ 65071)) ∧ Ke.tab.lookup c = none ∧ c ≠ 962 ∧ ¬ ((945 ≤ c ∧ c ≤ 969) ∨ (1072 ≤ c ∧ c ≤ 1103)) ∧ ¬ (((913 ≤ c ∧ c ≤ 937) ∧ c ≠ 930) ∨ (1040 ≤ c ∧ c ≤ 1071))) (fun _u => [(0, .int .i32 (c : Int))]) (fun _u => I) (fun _u => []) ?_ (fun hcut => ?_)
     ·rintro - ⟨a0, a1, a2, a3, a4, a5, a6, a7⟩
      refine zV ?_
      refine ⟨?_, rfl, rfl⟩
      refine congrArg (fun l => Ending.returned (str l)) ?_
      unfold Ke.char
      rw [if_neg (by omega), if_neg (by omega), if_neg (by omega), if_neg (by omega), a4]
      simp only
      rw [if_neg a5, if_neg a6, if_neg a7]
     refine zK (fun hc1 hc1p => ?_) (fun hc1 hc1p => ?_)
     ·obtain ⟨x, hx⟩ : ∃ x, Ke.tab.lookup c = some x := by
        have h := bne_iff_ne.1 hc1
        cases hl : Ke.tab.lookup c with
        | none => rw [hl] at h; exact absurd rfl h
        | some x => exact ⟨x, rfl⟩
      refine Cj.ev 3 (str x) rfl (by rw [hx]; rfl) ?_
      refine zV ?_
      refine ⟨?_, rfl, rfl⟩
      refine congrArg (fun l => Ending.returned (str l)) ?_
      unfold Ke.char
      rw [if_neg (by omega), if_neg (by omega), if_neg (by omega), if_neg (by omega), hx]
     have hx : Ke.tab.lookup c = none := by
       have h := JR hc1
       cases hl : Ke.tab.lookup c with
       | none => rfl
       | some x => rw [hl] at h; exact absurd h (c5d hl)
     refine zK (fun hc2 hc2p => ?_) (fun hc2 hc2p => ?_)
     ·refine yU 3 ?_
      intro b3 hb3
      refine AB ?_
      refine ⟨?_, rfl, rfl⟩
      refine congrArg (fun l => Ending.returned (str l)) ?_
      unfold Ke.char
      rw [if_neg (by omega), if_neg (by omega), if_neg (by omega), if_neg (by omega), hx]
      simp only
      rw [if_pos (by omega)]; rfl
     refine Cj.join (ι := Bool) (fun y => (y = true → ((945 ≤ c ∧ c ≤ 969) ∨ (1072 ≤ c ∧ c ≤ 1103))) ∧ (y = false → ¬ ((945 ≤ c ∧ c ≤ 969) ∨ (1072 ≤ c ∧ c ≤ 1103)))) (fun y => [(0, .int .i32 (c : Int)), (58, .bool y)]) (fun y => I) (fun y => []) ?_ (fun hcut => ?_)
     ·rintro y ⟨hy1, hy2⟩
      refine DI (fun hc4 => ?_) (fun hc4 => ?_)
      ·have hcc := hy1 hc4
       refine yU 4 ?_
       intro b5 hb5
       refine AB ?_
       refine ⟨?_, rfl, rfl⟩
       refine congrArg (fun l => Ending.returned (str l)) ?_
       unfold Ke.char
       rw [if_neg (by omega), if_neg (by omega), if_neg (by omega), if_neg (by omega), hx]
       simp only
       rw [if_neg (by omega), if_pos (by omega)]; exact Ke.KF (by unfold Ke.PO; omega)
      have hcc := hy2 hc4
      refine Cj.join (ι := Bool) (fun y => (y = true → (((913 ≤ c ∧ c ≤ 937) ∧ c ≠ 930) ∨ (1040 ≤ c ∧ c ≤ 1071))) ∧ (y = false → ¬ (((913 ≤ c ∧ c ≤ 937) ∧ c ≠ 930) ∨ (1040 ≤ c ∧ c ≤ 1071)))) (fun y => [(0, .int .i32 (c : Int)), (76, .bool y)]) (fun y => I) (fun y => []) ?_ (fun hcut => ?_)
      ·rintro y ⟨hy1, hy2⟩
       refine DI (fun hc6 => ?_) (fun hc6 => ?_)
       ·have hcc := hy1 hc6
        refine yU 5 ?_
        intro b7 hb7
        refine AB ?_
        refine ⟨?_, rfl, rfl⟩
        refine congrArg (fun l => Ending.returned (str l)) ?_
        unfold Ke.char
        rw [if_neg (by omega), if_neg (by omega), if_neg (by omega), if_neg (by omega), hx]
        simp only
        rw [if_neg (by omega), if_neg (by omega), if_pos (by omega)]; exact (congrArg (fun n : Int => (Utf8.encode n).data.toList) (by omega)).trans (Ke.KF (c := c + 32) (by unfold Ke.PO; omega))
       have hcc := hy2 hc6
       refine yU 2 ?_
       exact hcut () _ _ _ ⟨by omega, by omega, by omega, by omega, hx, by omega, by omega, by omega⟩ ⟨rfl, trivial⟩ rfl rfl
      refine EK (fun hg8 hg8p => ?_) (fun hg8 hg8p => ?_)
      ·refine EK (fun hg9 hg9p => ?_) (fun hg9 hg9p => ?_)
       ·refine EK (fun hg10 hg10p => ?_) (fun hg10 hg10p => ?_)
        ·refine yU 9 ?_
         exact hcut _ _ _ _ ⟨fun h => by first | omega | (simp at h; omega) | (cases h; done), fun h => by first | omega | (simp at h; omega) | (cases h; done)⟩ ⟨rfl, rfl, trivial⟩ rfl rfl
        refine EK (fun hg11 hg11p => ?_) (fun hg11 hg11p => ?_)
        ·refine yU 6 ?_
         exact hcut _ _ _ _ ⟨fun h => by first | omega | (simp at h; omega) | (cases h; done), fun h => by first | omega | (simp at h; omega) | (cases h; done)⟩ ⟨rfl, rfl, trivial⟩ rfl rfl
        refine yU 6 ?_
        exact hcut _ _ _ _ ⟨fun h => by first | omega | (simp at h; omega) | (cases h; done), fun h => by first | omega | (simp at h; omega) | (cases h; done)⟩ ⟨rfl, rfl, trivial⟩ rfl rfl
       refine EK (fun hg12 hg12p => ?_) (fun hg12 hg12p => ?_)
       ·refine yU 6 ?_
        exact hcut _ _ _ _ ⟨fun h => by first | omega | (simp at h; omega) | (cases h; done), fun h => by first | omega | (simp at h; omega) | (cases h; done)⟩ ⟨rfl, rfl, trivial⟩ rfl rfl
       refine yU 6 ?_
       exact hcut _ _ _ _ ⟨fun h => by first | omega | (simp at h; omega) | (cases h; done), fun h => by first | omega | (simp at h; omega) | (cases h; done)⟩ ⟨rfl, rfl, trivial⟩ rfl rfl
      refine EK (fun hg13 hg13p => ?_) (fun hg13 hg13p => ?_)
      ·refine yU 6 ?_
       exact hcut _ _ _ _ ⟨fun h => by first | omega | (simp at h; omega) | (cases h; done), fun h => by first | omega | (simp at h; omega) | (cases h; done)⟩ ⟨rfl, rfl, trivial⟩ rfl rfl
      refine yU 6 ?_
      exact hcut _ _ _ _ ⟨fun h => by first | omega | (simp at h; omega) | (cases h; done), fun h => by first | omega | (simp at h; omega) | (cases h; done)⟩ ⟨rfl, rfl, trivial⟩ rfl rfl
     refine EK (fun hg14 hg14p => ?_) (fun hg14 hg14p => ?_)
     ·refine EK (fun hg15 hg15p => ?_) (fun hg15 hg15p => ?_)
      ·refine yU 9 ?_
       exact hcut _ _ _ _ ⟨fun h => by first | omega | (simp at h; omega) | (cases h; done), fun h => by first | omega | (simp at h; omega) | (cases h; done)⟩ ⟨rfl, rfl, trivial⟩ rfl rfl
      refine EK (fun hg16 hg16p => ?_) (fun hg16 hg16p => ?_)
      ·refine yU 6 ?_
       exact hcut _ _ _ _ ⟨fun h => by first | omega | (simp at h; omega) | (cases h; done), fun h => by first | omega | (simp at h; omega) | (cases h; done)⟩ ⟨rfl, rfl, trivial⟩ rfl rfl
      refine yU 6 ?_
      exact hcut _ _ _ _ ⟨fun h => by first | omega | (simp at h; omega) | (cases h; done), fun h => by first | omega | (simp at h; omega) | (cases h; done)⟩ ⟨rfl, rfl, trivial⟩ rfl rfl
     refine EK (fun hg17 hg17p => ?_) (fun hg17 hg17p => ?_)
     ·refine yU 6 ?_
      exact hcut _ _ _ _ ⟨fun h => by first | omega | (simp at h; omega) | (cases h; done), fun h => by first | omega | (simp at h; omega) | (cases h; done)⟩ ⟨rfl, rfl, trivial⟩ rfl rfl
     refine yU 6 ?_
     exact hcut _ _ _ _ ⟨fun h => by first | omega | (simp at h; omega) | (cases h; done), fun h => by first | omega | (simp at h; omega) | (cases h; done)⟩ ⟨rfl, rfl, trivial⟩ rfl rfl
    refine Cj.join (ι := Bool) (fun y => (y = true → ((768 ≤ c ∧ c ≤ 879) ∨ (65056 ≤ c ∧ c ≤ 65071))) ∧ (y = false → ¬ ((768 ≤ c ∧ c ≤ 879) ∨ (65056 ≤ c ∧ c ≤ 65071)))) (fun y => [(0, .int .i32 (c : Int)), (46, .bool y)]) (fun y => I) (fun y => []) ?_ (fun hcut => ?_)
    ·rintro y ⟨hy1, hy2⟩
     refine DI (fun hc18 => ?_) (fun hc18 => ?_)
     ·have hcc := hy1 hc18
      refine zV ?_
      refine ⟨?_, rfl, rfl⟩
      refine congrArg (fun l => Ending.returned (str l)) ?_
      unfold Ke.char
      rw [if_neg (by omega), if_neg (by omega), if_neg (by omega), if_pos (by omega)]
     have hcc := hy2 hc18
     refine yU 1 ?_
     exact hcut () _ _ _ ⟨by omega, by omega, by omega, by omega⟩ ⟨rfl, trivial⟩ rfl rfl
    refine EK (fun hg19 hg19p => ?_) (fun hg19 hg19p => ?_)
    ·refine EK (fun hg20 hg20p => ?_) (fun hg20 hg20p => ?_)
     ·refine yU 8 ?_
      exact hcut _ _ _ _ ⟨fun h => by first | omega | (simp at h; omega) | (cases h; done), fun h => by first | omega | (simp at h; omega) | (cases h; done)⟩ ⟨rfl, rfl, trivial⟩ rfl rfl
     refine EK (fun hg21 hg21p => ?_) (fun hg21 hg21p => ?_)
     ·refine yU 5 ?_
      exact hcut _ _ _ _ ⟨fun h => by first | omega | (simp at h; omega) | (cases h; done), fun h => by first | omega | (simp at h; omega) | (cases h; done)⟩ ⟨rfl, rfl, trivial⟩ rfl rfl
     refine yU 5 ?_
     exact hcut _ _ _ _ ⟨fun h => by first | omega | (simp at h; omega) | (cases h; done), fun h => by first | omega | (simp at h; omega) | (cases h; done)⟩ ⟨rfl, rfl, trivial⟩ rfl rfl
    refine EK (fun hg22 hg22p => ?_) (fun hg22 hg22p => ?_)
    ·refine yU 5 ?_
     exact hcut _ _ _ _ ⟨fun h => by first | omega | (simp at h; omega) | (cases h; done), fun h => by first | omega | (simp at h; omega) | (cases h; done)⟩ ⟨rfl, rfl, trivial⟩ rfl rfl
    refine yU 5 ?_
    exact hcut _ _ _ _ ⟨fun h => by first | omega | (simp at h; omega) | (cases h; done), fun h => by first | omega | (simp at h; omega) | (cases h; done)⟩ ⟨rfl, rfl, trivial⟩ rfl rfl
   refine zK (fun hc23 hc23p => ?_) (fun hc23 hc23p => ?_)
   ·refine zV ?_
    refine ⟨?_, rfl, rfl⟩
    refine congrArg (fun l => Ending.returned (str l)) ?_
    unfold Ke.char
    rw [if_neg (by omega), if_neg (by omega), if_pos (by omega)]
   refine yU 1 ?_
   exact hcut () _ _ _ ⟨by omega, by omega, by omega⟩ ⟨rfl, trivial⟩ rfl rfl
  refine EK (fun hg24 hg24p => ?_) (fun hg24 hg24p => ?_)
  ·refine zK (fun hc25 hc25p => ?_) (fun hc25 hc25p => ?_)
   ·refine yU 5 ?_
    intro b26 hb26
    refine AB ?_
    refine ⟨?_, rfl, rfl⟩
    refine congrArg (fun l => Ending.returned (str l)) ?_
    unfold Ke.char
    rw [if_neg (by omega), if_pos (by omega)]; exact (congrArg (fun n : Int => (Utf8.encode n).data.toList) (by omega)).trans (Ke.KF (c := c + 32) (by unfold Ke.PO; omega))
   refine yU 1 ?_
   exact hcut () _ _ _ ⟨by omega, by omega⟩ ⟨rfl, trivial⟩ rfl rfl
  refine yU 7 ?_
  exact hcut () _ _ _ ⟨by omega, by omega⟩ ⟨rfl, trivial⟩ rfl rfl
 refine Cj.join (ι := Bool) (fun y => (y = true → ((97 ≤ c ∧ c ≤ 122) ∨ (48 ≤ c ∧ c ≤ 57))) ∧ (y = false → ¬ ((97 ≤ c ∧ c ≤ 122) ∨ (48 ≤ c ∧ c ≤ 57)))) (fun y => [(0, .int .i32 (c : Int)), (17, .bool y)]) (fun y => I) (fun y => []) ?_ (fun hcut => ?_)
 ·rintro y ⟨hy1, hy2⟩
  refine DI (fun hc28 => ?_) (fun hc28 => ?_)
  ·have hcc := hy1 hc28
   refine yU 4 ?_
   intro b29 hb29
   refine AB ?_
   refine ⟨?_, rfl, rfl⟩
   refine congrArg (fun l => Ending.returned (str l)) ?_
   unfold Ke.char
   rw [if_pos (by omega)]; exact Ke.KF (by unfold Ke.PO; omega)
  have hcc := hy2 hc28
  refine yU 1 ?_
  exact hcut () _ _ _ (by omega) ⟨rfl, trivial⟩ rfl rfl
 refine EK (fun hg30 hg30p => ?_) (fun hg30 hg30p => ?_)
 ·refine EK (fun hg31 hg31p => ?_) (fun hg31 hg31p => ?_)
  ·refine yU 8 ?_
   exact hcut _ _ _ _ ⟨fun h => by first | omega | (simp at h; omega) | (cases h; done), fun h => by first | omega | (simp at h; omega) | (cases h; done)⟩ ⟨rfl, rfl, trivial⟩ rfl rfl
  refine EK (fun hg32 hg32p => ?_) (fun hg32 hg32p => ?_)
  ·refine yU 5 ?_
   exact hcut _ _ _ _ ⟨fun h => by first | omega | (simp at h; omega) | (cases h; done), fun h => by first | omega | (simp at h; omega) | (cases h; done)⟩ ⟨rfl, rfl, trivial⟩ rfl rfl
  refine yU 5 ?_
  exact hcut _ _ _ _ ⟨fun h => by first | omega | (simp at h; omega) | (cases h; done), fun h => by first | omega | (simp at h; omega) | (cases h; done)⟩ ⟨rfl, rfl, trivial⟩ rfl rfl
 refine EK (fun hg33 hg33p => ?_) (fun hg33 hg33p => ?_)
 ·refine yU 5 ?_
  exact hcut _ _ _ _ ⟨fun h => by first | omega | (simp at h; omega) | (cases h; done), fun h => by first | omega | (simp at h; omega) | (cases h; done)⟩ ⟨rfl, rfl, trivial⟩ rfl rfl
 refine yU 5 ?_
 exact hcut _ _ _ _ ⟨fun h => by first | omega | (simp at h; omega) | (cases h; done), fun h => by first | omega | (simp at h; omega) | (cases h; done)⟩ ⟨rfl, rfl, trivial⟩ rfl rfl
theorem SY s (hs:s.length≤1000000000) I:yY Tryz.prog 69 [str s] I [] (fun e I' H'=>∃g,BL 0 1 (Ke.words s).length ((Ke.words s).map str) g∧e= .returned (gV (Ke.words s).length g)∧H'=gH 9 ((Ke.words s).map str) g):=by
 have hrl:=a6t s;refine zQ func69 fun w0 hw0=>?_;refine yU 18 ?_;refine J.op rfl (a6C (runes_all s) rfl rfl rfl rfl BQ underlying197 b5t ?_);intro b1 c2 sp3 hb1;refine yU 10 ?_;refine Cj.loop (ι:=Nat×List UInt8×List (List UInt8)×Gs) (fun x=>x.1≤(Ke.runes s).length∧Ke.words s=x.2.2.1++Ke.wf x.2.1 ((Ke.runes s).drop x.1)∧x.2.1.length≤4*x.1∧x.2.2.1.length≤x.1∧BL 0 1 x.2.2.1.length (x.2.2.1.map str) x.2.2.2) (fun x=>(Ke.runes s).length-x.1) (fun x=>[(3,gV x.2.2.1.length x.2.2.2),(4,str x.2.1),(5,.slice (some ⟨b1,0,none⟩) (Ke.runes s).length c2),(6,i64 (x.1:Int))]) (fun x=>I) (fun x=>(b1,yX 21 (rcs (Ke.runes s)++sp3))::gH 9 (x.2.2.1.map str) x.2.2.2) (0,[],[],none) ⟨Nat.zero_le _,rfl,Nat.zero_le _,Nat.zero_le _,rfl,rfl⟩ ⟨rfl,rfl,rfl,rfl,trivial⟩ rfl rfl ?_;rintro⟨k,w,acc,g⟩ ⟨hk,hws,hwl,hal,hg⟩;dsimp only at hk hws hwl hal hg ⊢;refine zK (fun hc4 hc4p=>?_) (fun hc4 hc4p=>?_)
 ·refine yU 5 ?_;have hlt:k<(Ke.runes s).length:=by omega
  obtain⟨c,hget⟩:∃c,(Ke.runes s)[k]?=some c:=⟨_,BM hlt⟩;have hdr:=drop_cons hget;have hcl:=Ke.a1E c;have hcm:c≤1114111:=Ke.b1V _ _ c (CX hget);refine zW k ?_;refine J.z (DU isAgg21 (yZ.at 0 rfl) (b3B hget)) ?_;refine zX (b9A c hcm _) ?_;refine zK (fun hc5 hc5p=>?_) (fun hc5 hc5p=>?_)
  ·have hne:Ke.char c≠[32]:=bne_iff_ne.1 hc5;refine yU 4 ?_;refine J.z (AZ rfl rfl rfl (by omega)) ?_;refine yU 12 ?_;refine Ej.round (k+1,w++Ke.char c,acc,g) ⟨by dsimp only;omega,by dsimp only;rw[hws,hdr,Ke.c2r hne],by dsimp only;rw[List.length_append];omega,by dsimp only;omega,hg⟩ (by dsimp only;omega) ⟨rfl,rfl,rfl,rfl,trivial⟩ rfl rfl
  have he:Ke.char c=[32]:=JR hc5;refine zK (fun hc6 hc6p=>?_) (fun hc6 hc6p=>?_)
  ·have hw:w≠[]:=bne_iff_ne.1 hc6;refine yU 4 ?_;intro b7 hb7;refine J.op rfl (NG 0 (Nat.zero_le _) (by':=15) [_,_] rfl rfl rfl rfl rfl CG (.inr ⟨_,CG⟩) (by kernel_rfl) AV NP rfl hg rfl (Src.slice (yZ.at 0 rfl) rfl rfl rfl) (by omega) ?_);intro g8 hg8;refine yU 13 ?_;refine Ej.keep (Keeps.d (Keeps.k Keeps.r)) ?_;refine Ej.round (k+1,[],acc++[w],g8) ⟨by dsimp only;omega,by dsimp only;rw[hws,hdr,Ke.b7U he hw,List.append_assoc];rfl,Nat.zero_le _,by dsimp only;rw[List.length_append];simp only[List.length_cons,List.length_nil];omega,by dsimp only;rw[List.map_append,List.length_append];exact hg8⟩ (by dsimp only;omega) ⟨by dsimp only;rw[List.length_append];rfl,rfl,rfl,rfl,trivial⟩ rfl (by dsimp only;rw[List.map_append];rfl)
  have hw:w=[]:=JR hc6;refine yU 12 ?_;refine Ej.round (k+1,[],acc,g) ⟨by dsimp only;omega,by dsimp only;rw[hws,hdr,hw,Ke.b4F he],Nat.zero_le _,by dsimp only;omega,hg⟩ (by dsimp only;omega) ⟨rfl,rfl,rfl,rfl,trivial⟩ rfl rfl
 have hfull:(Ke.runes s).drop k=[]:=List.drop_eq_nil_of_le (by omega);refine zK (fun hc9 hc9p=>?_) (fun hc9 hc9p=>?_)
 ·have hw:w≠[]:=bne_iff_ne.1 hc9;have hres:Ke.words s=acc++[w]:=by rw[hws,hfull,Ke.a5Y,if_neg hw]
  refine yU 4 ?_;intro b10 hb10;refine J.op rfl (NG 0 (Nat.zero_le _) (by':=15) [_,_] rfl rfl rfl rfl rfl CG (.inr ⟨_,CG⟩) (by kernel_rfl) AV NP rfl hg rfl (Src.slice (yZ.at 0 rfl) rfl rfl rfl) (by omega) ?_);intro g11 hg11;refine yU 10 ?_;refine Ej.keep (Keeps.d (Keeps.d Keeps.r)) ?_;refine zV ?_;rw[hres,List.map_append,List.length_append];exact⟨g11,hg11,rfl,rfl⟩
 have hw:w=[]:=JR hc9;have hres:Ke.words s=acc:=by rw[hws,hfull,Ke.a5Y,if_pos hw,List.append_nil]
 refine yU 9 ?_;refine Ej.keep (Keeps.d Keeps.r) ?_;refine zV ?_;rw[hres];exact⟨g,hg,rfl,rfl⟩
def mix (ws:List (List UInt8)) (j:Nat):List (List UInt8):=(ws.take j).map Ke.JE++ws.drop j
theorem a7I ws j:(mix ws j).length=ws.length:=by unfold mix;simp;omega
theorem b7h{ws j x}(h:ws[j]?=some x):(mix ws j)[j]?=some x:=by
  obtain⟨hlt,hg⟩:=List.getElem?_eq_some_iff.1 h;unfold mix;rw[List.getElem?_append_right (by simp;omega),List.getElem?_drop,List.length_map,List.length_take,Nat.min_eq_left (by omega),Nat.sub_self,Nat.add_zero,h]
theorem b0k{ws j x}(h:ws[j]?=some x):mix ws (j+1)=(mix ws j).set j (Ke.JE x):=by
  obtain⟨hlt,hg⟩:=List.getElem?_eq_some_iff.1 h;unfold mix;rw[List.take_succ_eq_append_getElem hlt,hg,List.map_append,drop_cons h,List.set_append_right _ _ (by simp;omega),List.length_map,List.length_take,Nat.min_eq_left (by omega),Nat.sub_self];simp
theorem c1d{ws j x}(h:ws[j]?=some x)(hs:Ke.JE x=x):mix ws (j+1)=mix ws j:=by
  rw[b0k h,hs]
  apply List.ext_getElem?
  intro i;rw[List.getElem?_set]
  by_cases hi:j=i
  · subst hi;rw[if_pos rfl,b7h h,if_pos (by rw[a7I];exact(List.getElem?_eq_some_iff.1 h).1)]
  rw[if_neg hi]
theorem c4k{ws j x sp}(h:ws[j]?=some x):((mix ws j).map str++sp).set j (str (Ke.JE x))=(mix ws (j+1)).map str++sp:=by
  rw[b0k h,List.set_append_left _ _ (by rw[List.length_map,a7I];exact(List.getElem?_eq_some_iff.1 h).1),List.map_set]
theorem c3R ws {j}(h:¬j<ws.length):mix ws j=ws.map Ke.JE:=by
  unfold mix;rw[List.take_of_length_le (by omega),List.drop_eq_nil_of_le (by omega),List.append_nil]
theorem ZQ s skip (hs:s.length≤100000000) I:Pure Tryz.prog 26 [str s,i64 skip] I (str (Ke.GI s skip)):=by
 refine yY.toPure ?_;have hcl:(Ke.cut s skip).length≤s.length:=by unfold Ke.cut;simp
 have hwl:=Ke.KG (Ke.cut s skip);have hjl:=Ke.a4N (Ke.cut s skip);refine zQ func26 fun w0 hw0=>?_;refine yU 9 ?_;refine J.z (SK rfl rfl rfl) ?_;refine yU 2 ?_;refine J.z (NT rfl rfl rfl) ?_;refine J.ev 13 (i64 (((min (max skip 0) (s.length:Int)).toNat:Nat):Int)) rfl (congrArg i64 (by omega)) ?_;refine J.z (CP (p:=(min (max skip 0) (s.length:Int)).toNat) (q:=s.length) rfl rfl BQ ⟨_,rfl⟩ rfl (by omega) (by omega)) ?_;refine J.ev 14 (str (Ke.cut s skip)) rfl (by rw[List.take_length];rfl) ?_;refine LD (SY (Ke.cut s skip) (by omega) _) ?_;intro v2 I3 H4 hle5 hn1 hp6;obtain⟨g,hg,h,rfl⟩:=hp6;cases h;replace hg:=hg.base hn1;refine yU 10 ?_;refine Cj.loop (ι:=Nat) (fun j=>j≤(Ke.words (Ke.cut s skip)).length) (fun j=>(Ke.words (Ke.cut s skip)).length-j) (fun j=>[(5,gV (Ke.words (Ke.cut s skip)).length g),(6,i64 (j:Int))]) (fun j=>_) (fun j=>gH 9 ((mix (Ke.words (Ke.cut s skip)) j).map str) g) 0 (Nat.zero_le _) ⟨rfl,rfl,trivial⟩ rfl (by rw[List.append_nil,show mix (Ke.words (Ke.cut s skip)) 0=(Ke.words (Ke.cut s skip)) by simp[mix]]) ?_;intro j hj;refine yU 5 ?_;refine J.z (b4u hg rfl rfl CG) ?_;refine zK (fun hc7 hc7p=>?_) (fun hc7 hc7p=>?_)
 ·refine yU 5 ?_;have hlt:j<(Ke.words (Ke.cut s skip)).length:=by omega
  obtain⟨x,hget⟩:∃x,(Ke.words (Ke.cut s skip))[j]?=some x:=⟨_,BM hlt⟩;have hxm:=CX hget;have hxl:=Ke.PY _ x hxm;have hma:=b7h hget;obtain⟨bg8,cg9,sp10,rfl,hbg8⟩:=hg.some (by omega);refine zW j ?_;refine J.z (DU CU (yZ.at 0 rfl) (FT hma)) ?_;refine zX (a5G x (by omega) _) ?_;refine DI (fun hc11=>?_) (fun hc11=>?_)
  ·have hsw:Ke.JE x=Ke.number x:=by unfold Ke.JE;rw[show Ke.digits x=true from hc11];rfl
   refine zW j ?_;refine J.z (DU CU (yZ.at 0 rfl) (FT hma)) ?_;refine zX (b8n x (by omega) _) ?_;refine J.ev 34 (str (Ke.JE x)) rfl (by rw[hsw]) ?_;refine zW j ?_;refine J.op rfl (IY 0 rfl rfl rfl rfl rfl rfl AV rfl (.inl rfl) (by simp only[List.length_append,List.length_map,a7I];omega) AU.z ?_);refine yU 8 ?_;refine Ej.round (j+1) (by omega) (by omega) ⟨rfl,rfl,trivial⟩ rfl (by rw[c4k hget];rfl)
  have hsw:Ke.JE x=x:=by unfold Ke.JE;rw[show Ke.digits x=false from hc11];rfl
  refine yU 8 ?_;refine Ej.round (j+1) (by omega) (by omega) ⟨rfl,rfl,trivial⟩ rfl (by rw[c1d hget hsw])
 refine yU 6 ?_;have hme:=c3R (Ke.words (Ke.cut s skip)) (j:=j) (by omega);rw[hme];refine Cj.perm (H':=gH _ _ _++[]) (by rw[List.append_nil]) ?_;have hg2:BL w0.heap.size 1 (Ke.words (Ke.cut s skip)).length (((Ke.words (Ke.cut s skip)).map Ke.JE).map str) g:=a1m hg (by simp);refine Cj.RU hg2 (fun I8 hle8 hv=>?_);rw[show(Ke.words (Ke.cut s skip)).length=((Ke.words (Ke.cut s skip)).map Ke.JE).length from(List.length_map _).symm]at hv ⊢;refine zX (a4O ((Ke.words (Ke.cut s skip)).map Ke.JE) _ (by rw[List.length_map];omega) (by omega) _ (EY.of hv)) ?_;refine zV ?_;exact⟨rfl,rfl⟩
end Go.Proofs.YtekmeaoblpfnpaaGreatDoor
end
section
namespace Go.Proofs.YtekmeaoblpfnpaaGreatDoor
open Go Go.Sx
theorem EY.len{I l v}(h:EY I l v):∃p c,v= .slice p l.length c:=let ⟨p,c,h,_⟩:=h;⟨p,c,h⟩
theorem c4o{s x d l}:Ke.pg s d (x::l)=(if s<x∧d=false then[s,x]else[x])++Ke.pg s (d || decide (s<x)) l:=by
  rw[Ke.pg]
  by_cases h:s<x
  · cases d
    · rw[if_pos ⟨h,rfl⟩,if_pos ⟨h,rfl⟩];simp[h]
    rw[if_neg (by simp),if_neg (by simp)];rfl
  rw[if_neg (fun g=>h g.1),if_neg (fun g=>h g.1)];simp[h]
theorem a2Z s:∀(l:List (List UInt8)) (d:Bool),(Ke.pg s d l).length≤l.length+1
  |[],true=>Nat.zero_le _
  |[],false=>Nat.le_refl _
  | x::l,d=>by
    have:=a2Z s l (d || decide (s<x));rw[c4o,List.length_append,List.length_cons]
    by_cases h:s<x∧d=false
    · rw[if_pos h];obtain⟨h1,rfl⟩:=h;have h2:Ke.pg s (false || decide (s<x)) l=l:=by rw[decide_eq_true h1];exact Ke.YO s l
      rw[h2];simp;omega
    rw[if_neg h];simp;omega
theorem a7u l s:(Ke.put l s).length≤l.length+1:=by
  unfold Ke.put
  split
  · omega
  exact a2Z s l false
theorem VQ:∀(xs l:List (List UInt8)),(xs.foldl Ke.put l).length≤l.length+xs.length
  |[],l=>Nat.le_refl _
  | x::xs,l=>by
    have h1:=VQ xs (Ke.put l x);have h2:=a7u l x;simp only[List.foldl_cons,List.length_cons];omega
theorem c0U xs x:(xs++[x]).foldl Ke.put []=Ke.put (xs.foldl Ke.put []) x:=by rw[List.foldl_append];rfl
theorem a4U f codes (hcl:codes.length≤1000)(hn:f.subs.length≤2000000)(htx:CZ f.subs≤3000000) I (hr:zS MQ I f.subs f.sv):Pure Tryz.prog 121 [.agg (FZ f).toArray,str codes] I (str (Ke.textOf f codes)):=by
 refine yY.toPure ?_;obtain⟨p2,c2,hsv,hc2,hp2⟩:=hr;refine zQ Tryz.func121 fun w0 hw0=>?_;refine yU 3 ?_;intro b1 hb1;refine yU 15 ?_;refine Cj.loop (ι:=Nat×Gs) (fun j=>j.1≤f.subs.length∧BL w0.heap.size 1 (tx codes (f.subs.take j.1)).length ((tx codes (f.subs.take j.1)).map str) j.2) (fun j=>f.subs.length-j.1) (fun j=>[(1,str codes),(2,ptr b1 0),(5,gV (tx codes (f.subs.take j.1)).length j.2),(6,i64 (j.1:Int))]) (fun j=>_) (fun j=>(b1,yX 108 (FZ f))::gH 9 ((tx codes (f.subs.take j.1)).map str) j.2) (0,none) ⟨Nat.zero_le _,rfl,rfl⟩ ⟨rfl,rfl,rfl,rfl,trivial⟩ rfl rfl ?_;rintro⟨j,g⟩ ⟨hj,hg⟩;dsimp only at hj hg ⊢;have htl:=b0n codes (f.subs.take j);rw[List.length_take,Nat.min_eq_left hj]at htl;refine yU 6 ?_;refine J.ev 10 (.slice p2 f.subs.length c2) rfl hsv ?_;refine zK (fun hc2 hc2p=>?_) (fun hc2 hc2p=>?_)
 ·refine yU 5 ?_;have hlt:j<f.subs.length:=by omega
  obtain⟨sb,hsget⟩:∃x,f.subs[j]?=some x:=⟨_,BM hlt⟩;obtain⟨sbk,so,scs,sty,sfr,sp2,rfl,hsbk,hsd⟩:=hp2 (zU hlt);have hnx:=c3B (codes:=codes) hsget;refine yU 4 ?_;refine J.ev 17 (.slice (some ⟨sbk,so,none⟩) f.subs.length c2) rfl hsv ?_;refine zW (so+j*2) ?_;refine yU 1 ?_;refine J.z (AX rfl rfl tA5 (yZ.LK hsbk) (DT JW hsd hsget 0 (by decide))) ?_;refine zX (c5p codes sb.code (by omega) _) ?_;refine DI (fun hc3=>?_) (fun hc3=>?_)
  ·rw[if_pos hc3]at hnx;refine yU 4 ?_;refine J.ev 26 (.slice (some ⟨sbk,so,none⟩) f.subs.length c2) rfl hsv ?_;refine zW (so+j*2) ?_;refine J.z (CV (off':=so+j*2+1) a2u AV) ?_;refine J.z (AX rfl rfl CU (yZ.LK hsbk) (DT JW hsd hsget 1 (by decide))) ?_;refine yU 1 ?_;intro b4 hb4;refine RD 15 [_,_] hg ?_;intro g5 hg5;refine yU 9 ?_;refine Ej.keep (Keeps.d (Keeps.k Keeps.r)) ?_;refine Ej.round (j+1,g5) ⟨by dsimp only;omega,by dsimp only;rw[hnx,List.map_append,List.length_append];exact hg5⟩ (by dsimp only;omega) ⟨rfl,rfl,by dsimp only;rw[hnx,List.length_append];rfl,rfl,trivial⟩ rfl (by dsimp only;rw[hnx,List.map_append];rfl)
  rw[if_neg (fun e=>Bool.noConfusion (e.symm.trans hc3))]at hnx;refine yU 8 ?_;refine Ej.round (j+1,g) ⟨by dsimp only;omega,by dsimp only;rw[hnx,List.append_nil];exact hg⟩ (by dsimp only;omega) ⟨rfl,rfl,by dsimp only;rw[hnx,List.append_nil];rfl,rfl,trivial⟩ rfl (by dsimp only;rw[hnx,List.append_nil])
 refine yU 6 ?_;have hfull:f.subs.take j=f.subs:=List.take_of_length_le (by omega);rw[hfull]at hg ⊢;have htl2:=a1t f codes;refine Cj.perm (H':=gH _ _ _++[_]) List.perm_append_comm ?_;refine Cj.RU hg (fun I8 hle8 hv=>?_);refine zX (a4O (tx codes f.subs) _ (by have:=b0n codes f.subs;omega) (by have e:Ke.join (tx codes f.subs)=Ke.textOf f codes:=rfl;rw[e];omega) _ (EY.of hv)) ?_;refine AB ?_;exact⟨rfl,rfl⟩
end Go.Proofs.YtekmeaoblpfnpaaGreatDoor
end
section
namespace Go.Proofs.YtekmeaoblpfnpaaGreatDoor
open _root_.Go.Proofs.Tryz
open Go Go.Sx
theorem a6r {α : Type} {p} : ∀ {l : List α} {k : Nat}, (∀ x ∈ l.take k, p x = true) → (∀ x, l[k]? = some x → p x = false) → k ≤ l.length → (l.takeWhile p).length = k
  | [], k, _, _, hk => by have : k = 0 := by simpa using hk
                          subst this; rfl
  | x :: r, 0, _, h2, _ => by rw [List.takeWhile_cons, if_neg (by rw [h2 x rfl]; decide)]; rfl
  | x :: r, k + 1, h1, h2, hk => by
    rw [List.takeWhile_cons, if_pos (h1 x (by rw [List.take_succ_cons]; exact .head _)), List.length_cons, a6r (k := k) (fun y hy => h1 y (by rw [List.take_succ_cons]; exact .tail _ hy)) (fun y hy => h2 y (by rw [List.getElem?_cons_succ]; exact hy)) (by simpa using hk)]
theorem b8h{α:Type}{p:α→Bool}{l:List α}{k x}(h:∀y∈l.take k,p y=true)(hg:l[k]?=some x)(hx:p x=true):∀y∈l.take (k+1),p y=true:=by
  obtain⟨hlt,hg⟩:=List.getElem?_eq_some_iff.1 hg;rw[List.take_succ_eq_append_getElem hlt,hg];intro y hy;rcases List.mem_append.1 hy with g|g
  · exact h y g
  rw[List.mem_singleton.1 g];exact hx
theorem a7z{s k}(h:Ix.KT s=Ix.KT (s.drop k))(h4:((s.drop k).takeWhile Ke.digit).length=4):uy s=((s.take (k+4)).drop k,true):=by
  unfold uy;rw[h,Ix.a9j,if_pos h4,List.drop_take];simp
theorem c3X{s k}(h:Ix.KT s=Ix.KT (s.drop k))(hk:s.length≤k):uy s=([],false):=by
  unfold uy;rw[h,List.drop_eq_nil_of_le hk,Ix.b9N];rfl
theorem a7y{s k n}(h:Ix.KT s=Ix.KT (s.drop k))(hn:((s.drop k).takeWhile Ke.digit).length=n)(h4:n≠4):Ix.KT s=Ix.KT (s.drop (k+n+1)):=by
  rw[h,Ix.a9j,if_neg (by omega),hn,List.drop_drop,Nat.add_assoc]
theorem c1o s (hs:s.length≤1000000000) I:Pure Tryz.prog 122 [str s] I (.tuple #[str (uy s).1,.bool (uy s).2]):=by
 refine yY.toPure ?_;refine zQ func122 fun w0 hw0=>?_;refine yU 13 ?_;refine Cj.loop (ι:=Nat) (fun k=>k≤s.length+1∧Ix.KT s=Ix.KT (s.drop k)) (fun k=>s.length+1-k) (fun k=>[(0,str s),(4,i64 (k:Int))]) (fun k=>_) (fun k=>[]) 0 ⟨Nat.zero_le _,rfl⟩ ⟨rfl,rfl,trivial⟩ rfl rfl ?_;rintro k ⟨hk,hyr⟩;refine zK (fun hc1 hc1p=>?_) (fun hc1 hc1p=>?_)
 ·refine yU 11 ?_;refine Cj.loop (ι:=Nat) (fun n=>k+n≤s.length∧∀x∈(s.drop k).take n,Ke.digit x=true) (fun n=>s.length-k-n) (fun n=>[(0,str s),(4,i64 (k:Int)),(5,i64 (n:Int))]) (fun n=>_) (fun n=>[]) 0 ⟨by omega,fun x hx=>by simp at hx⟩ ⟨rfl,rfl,rfl,trivial⟩ rfl rfl ?_;rintro n ⟨hkn,hdg⟩;refine EK (fun hg2 hg2p=>?_) (fun hg2 hg2p=>?_)
  ·have hlt2:k+n<s.length:=by have h:=ED hg2;omega
   obtain⟨c,hget⟩:∃c,s[k+n]?=some c:=⟨_,BM hlt2⟩;refine yU 4 ?_;refine J.ev 22 (i64 ((k+n:Nat):Int)) rfl rfl ?_;refine J.zg (CB rfl rfl rfl BQ (by omega) hget) ?_;refine EK (fun hg3 hg3p=>?_) (fun hg3 hg3p=>?_)
   ·have h48:48≤c.toNat:=by have h:=ED hg3;omega
    refine yU 4 ?_;refine J.ev 30 (i64 ((k+n:Nat):Int)) rfl rfl ?_;refine J.zg (CB rfl rfl rfl BQ (by omega) hget) ?_;refine zK (fun hc4 hc4p=>?_) (fun hc4 hc4p=>?_)
    ·have hdig:Ke.digit c=true:=by rw[Ix.PK];have h:=ED hc4;simp only[decide_eq_true_eq];omega
     refine yU 9 ?_;refine Ej.round (n+1) ⟨by omega,b8h hdg (by rw[List.getElem?_drop];exact hget) hdig⟩ (by omega) ⟨rfl,rfl,rfl,trivial⟩ rfl rfl
    have hndig:¬Ke.digit c=true:=by rw[Ix.PK];have h:=FQ hc4;simp only[decide_eq_true_eq];omega
    refine yU 7 ?_;have hn:((s.drop k).takeWhile Ke.digit).length=n:=a6r hdg (fun x hx=>by rw[List.getElem?_drop,hget]at hx;cases hx;exact Bool.eq_false_iff.2 hndig) (by rw[List.length_drop];omega);refine zK (fun hc5 hc5p=>?_) (fun hc5 hc5p=>?_)
    ·have h4:n=4:=by have h:=CO hc5;omega
     have hyy:=a7z hyr (hn.trans h4);refine yU 6 ?_;refine J.z (CP (p:=k) (q:=k+4) rfl rfl BQ ⟨_,rfl⟩ ⟨_,rfl⟩ (by omega) (by omega)) ?_;refine zV ?_;rw[hyy];exact⟨rfl,rfl⟩
    have h4:n≠4:=by have h:=CW hc5;omega
    refine yU 15 ?_;refine Ej.round (k+n+1) ⟨by omega,a7y hyr hn (by omega)⟩ (by omega) ⟨rfl,rfl,trivial⟩ rfl rfl
   have hndig:¬Ke.digit c=true:=by rw[Ix.PK];have h:=FQ hg3;simp only[decide_eq_true_eq];omega
   refine yU 17 ?_;have hn:((s.drop k).takeWhile Ke.digit).length=n:=a6r hdg (fun x hx=>by rw[List.getElem?_drop,hget]at hx;cases hx;exact Bool.eq_false_iff.2 hndig) (by rw[List.length_drop];omega);refine zK (fun hc7 hc7p=>?_) (fun hc7 hc7p=>?_)
   ·have h4:n=4:=by have h:=CO hc7;omega
    have hyy:=a7z hyr (hn.trans h4);refine yU 6 ?_;refine J.z (CP (p:=k) (q:=k+4) rfl rfl BQ ⟨_,rfl⟩ ⟨_,rfl⟩ (by omega) (by omega)) ?_;refine zV ?_;rw[hyy];exact⟨rfl,rfl⟩
   have h4:n≠4:=by have h:=CW hc7;omega
   refine yU 15 ?_;refine Ej.round (k+n+1) ⟨by omega,a7y hyr hn (by omega)⟩ (by omega) ⟨rfl,rfl,trivial⟩ rfl rfl
  have hge2:¬k+n<s.length:=by have h:=FQ hg2;omega
  refine yU 25 ?_;have hn:((s.drop k).takeWhile Ke.digit).length=n:=a6r hdg (fun x hx=>absurd (List.getElem?_eq_some_iff.1 hx).1 (by rw[List.length_drop];omega)) (by rw[List.length_drop];omega);refine zK (fun hc9 hc9p=>?_) (fun hc9 hc9p=>?_)
  ·have h4:n=4:=by have h:=CO hc9;omega
   have hyy:=a7z hyr (hn.trans h4);refine yU 6 ?_;refine J.z (CP (p:=k) (q:=k+4) rfl rfl BQ ⟨_,rfl⟩ ⟨_,rfl⟩ (by omega) (by omega)) ?_;refine zV ?_;rw[hyy];exact⟨rfl,rfl⟩
  have h4:n≠4:=by have h:=CW hc9;omega
  refine yU 15 ?_;refine Ej.round (k+n+1) ⟨by omega,a7y hyr hn (by omega)⟩ (by omega) ⟨rfl,rfl,trivial⟩ rfl rfl
 refine zV ?_;rw[c3X hyr (by omega)];exact⟨rfl,rfl⟩
theorem a5M s p (hp:p.length≤1000000) I:Pure Tryz.prog 123 [str s,str p] I (.bool (p.isPrefixOf s)):=by
 refine yY.toPure ?_;refine zQ func123 fun w0 hw0=>?_;refine EK (fun hg1 hg1p=>?_) (fun hg1 hg1p=>?_)
 ·have hge:p.length≤s.length:=by have h:=ED hg1;omega
  refine yU 3 ?_;refine J.zg (CP (p:=0) (q:=p.length) rfl rfl BQ rfl ⟨_,rfl⟩ (by omega) (by omega)) ?_;refine zV ?_;refine⟨?_,rfl⟩;rw[pre_eq hge]
 have hge:¬p.length≤s.length:=by have h:=FQ hg1;omega
 refine zV ?_;rw[b6U hge];exact⟨rfl,rfl⟩
theorem b3P f:(Ix.NS f).length≤CZ f.subs+f.subs.length:=by
  have:=WX f []
  rwa [XB]at this
theorem b3f f (hn:f.subs.length≤2000000)(htx:CZ f.subs≤3000000) I (hr:zS MQ I f.subs f.sv):Pure Tryz.prog 124 [.agg (FZ f).toArray] I (str (Ix.NS f)):=by
 refine yY.toPure ?_;obtain⟨p2,c2,hsv,hc2,hp2⟩:=hr;have hal:=b3P f;unfold Ix.NS at hal;refine zQ func124 fun w0 hw0=>?_;refine yU 3 ?_;intro b1 hb1;refine yU 15 ?_;refine Cj.loop (ι:=Nat) (fun j=>j≤f.subs.length) (fun j=>f.subs.length-j) (fun j=>[(1,ptr b1 0),(3,str (Ke.join ((f.subs.map (·.text)).take j))),(4,i64 (j:Int))]) (fun j=>_) (fun j=>[(b1,yX 108 (FZ f))]) 0 (Nat.zero_le _) ⟨rfl,rfl,rfl,trivial⟩ rfl rfl ?_;intro j hj;have hjp:=a0z (f.subs.map (·.text)) j;have hjp2:=a0z (f.subs.map (·.text)) (j+1);refine yU 6 ?_;refine J.ev 7 (.slice p2 f.subs.length c2) rfl hsv ?_;refine zK (fun hc2 hc2p=>?_) (fun hc2 hc2p=>?_)
 ·have hlt:j<f.subs.length:=by omega
  obtain⟨sb,hsget⟩:∃x,f.subs[j]?=some x:=⟨_,BM hlt⟩;have hget:(f.subs.map (·.text))[j]?=some sb.text:=by rw[List.getElem?_map,hsget];rfl
  obtain⟨sbk,so,scs,sty,sfr,sp2,rfl,hsbk,hsd⟩:=hp2 (zU hlt);have hjn:=congrArg List.length (SG hget);rw[List.length_append]at hjn;refine zK (fun hc3 hc3p=>?_) (fun hc3 hc3p=>?_)
  ·have hj0:0<j:=by have h:=ED hc3;omega
   refine yU 2 ?_;refine J.z (AZ rfl rfl rfl (by rw[if_pos hj0,List.length_append]at hjn;simp only[List.length_cons,List.length_nil]at hjn ⊢;omega)) ?_;refine yU 7 ?_;refine J.ev 18 (.slice (some ⟨sbk,so,none⟩) f.subs.length c2) rfl hsv ?_;refine zW (so+j*2) ?_;refine J.z (CV (off':=so+j*2+1) a2u AV) ?_;refine J.z (AX rfl rfl CU (yZ.LK hsbk) (DT JW hsd hsget 1 (by decide))) ?_;refine J.z (AZ rfl rfl rfl (by first|(rw[if_pos hj0,List.length_append]at hjn;simp only[List.length_append,List.length_cons,List.length_nil]at hjn ⊢;omega)|(rw[if_neg hj0]at hjn;omega))) ?_;refine yU 9 ?_;refine Ej.round (j+1) (by omega) (by omega) ⟨rfl,by rw[SG hget,if_pos hj0];rfl,rfl,trivial⟩ rfl rfl
  have hj0:¬0<j:=by have h:=FQ hc3;omega
  refine yU 6 ?_;refine J.ev 18 (.slice (some ⟨sbk,so,none⟩) f.subs.length c2) rfl hsv ?_;refine zW (so+j*2) ?_;refine J.z (CV (off':=so+j*2+1) a2u AV) ?_;refine J.z (AX rfl rfl CU (yZ.LK hsbk) (DT JW hsd hsget 1 (by decide))) ?_;refine J.z (AZ rfl rfl rfl (by first|(rw[if_pos hj0,List.length_append]at hjn;simp only[List.length_append,List.length_cons,List.length_nil]at hjn ⊢;omega)|(rw[if_neg hj0]at hjn;omega))) ?_;refine yU 9 ?_;refine Ej.round (j+1) (by omega) (by omega) ⟨rfl,by rw[SG hget,if_neg hj0];rfl,rfl,trivial⟩ rfl rfl
 have hfull:(f.subs.map (·.text)).take j=f.subs.map (·.text):=List.take_of_length_le (by rw[List.length_map];omega);refine AB ?_;rw[hfull];exact⟨rfl,rfl⟩
def WA (x:List UInt8×Nat):List Value:=[str x.1,i64 (x.2:Int)]
theorem OO x:(WA x).length=2:=rfl
def JU (u:List UInt8→List UInt8×Bool) (c:UInt8) (ss:List Ke.Sub):List (List UInt8×Nat):=(ss.filterMap (OC u c)).map fun s=>(s,0)
theorem b0V{u c}{ss:List Ke.Sub}{k s}(h:ss[k]?=some s):JU u c (ss.take (k+1))=JU u c (ss.take k)++(if (u s.text).2=true∧s.code=c then[((u s.text).1,0)]else[]):=by
  unfold JU;rw[b4a h,List.map_append]
  congr 1
  split<;>rfl
theorem a4e u c ss:(JU u c ss).length≤ss.length:=by
  unfold JU;rw[List.length_map];exact List.length_filterMap_le _ _
theorem a1n{f:Ke.LV}{t u c j}(h:j=0∨f.tag=t)(hj:f.subs.length≤j):(if f.tag=t then JU u c f.subs else[])=JU u c (f.subs.take j):=by
  by_cases ht:f.tag=t
  · rw[if_pos ht,List.take_of_length_le hj]
  have h0:=h.resolve_right ht;subst h0;rw[if_neg ht];rfl
theorem a3I{f:Ke.LV}{t u c j}(h:j=0∨f.tag=t)(ht:f.tag≠t):(if f.tag=t then JU u c f.subs else[])=JU u c (f.subs.take j):=by
  have h0:=h.resolve_right ht;subst h0;rw[if_neg ht];rfl
theorem OQ{f n}(h:n=Ix.KW):Ix.ofN f n=if f.tag=[50,52,53]∨f.tag=[50,52,54]then[(Ke.textOf f [97,98],Ix.OH f)]else[]:=by subst h;rfl
theorem MN{f n}(h:n=Ix.KN):Ix.ofN f n=if f.tag=[49,48,48]∨f.tag=[49,49,48]∨f.tag=[55,48,48]then[(Ke.textOf f [97],0)]else[]:=by subst h;rfl
theorem LH{f n}(h:n=Ix.KU):Ix.ofN f n=if f.tag=[54,48,48]∨f.tag=[54,53,48]then[(Ke.textOf f [97,120],0)]else[]:=by subst h;rfl
theorem SI{f n}(h:n=Ix.MX):Ix.ofN f n=if f.tag=[48,50,48]then JU Ke.OT 97 f.subs else[]:=by subst h;rfl
theorem TD{f n}(h:n=Ix.a0p):Ix.ofN f n=if f.tag=[50,54,48]then JU uy 99 f.subs else[]:=by
  subst h;unfold JU;rw[b3G];rfl
theorem PV{f n}(h:n=Ix.PI):Ix.ofN f n=if Ix.RS f then[(Ix.NS f,0)]else[]:=by subst h;rfl
theorem of_none{f n}(h1:n≠Ix.KW)(h2:n≠Ix.KN)(h3:n≠Ix.KU)(h4:n≠Ix.MX)(h5:n≠Ix.a0p)(h6:n≠Ix.PI):Ix.ofN f n=[]:=by
  unfold Ix.ofN;rw[if_neg h1,if_neg h2,if_neg h3,if_neg h4,if_neg h5,if_neg h6]
theorem b3O f n (h:f.subs.length≤1000):(Ix.ofN f n).length≤1000:=by
  by_cases h1:n=Ix.KW
  · rw[OQ h1];split<;>simp
  by_cases h2:n=Ix.KN
  · rw[MN h2];split<;>simp
  by_cases h3:n=Ix.KU
  · rw[LH h3];split<;>simp
  by_cases h4:n=Ix.MX
  · rw[SI h4];split
    · exact FD (a4e _ _ _) h
    simp
  by_cases h5:n=Ix.a0p
  · rw[TD h5];split
    · exact FD (a4e _ _ _) h
    simp
  by_cases h6:n=Ix.PI
  · rw[PV h6];split<;>simp
  rw[of_none h1 h2 h3 h4 h5 h6];simp
theorem c5I f n (hn2 : f.subs.length ≤ 2000000) (htx : CZ f.subs ≤ 3000000) I (hr : zS MQ I f.subs f.sv) : yY Tryz.prog 68 [.agg (FZ f).toArray, str n] I [] (fun e I' H' => ∃ w, e = .returned w ∧ zS WA I' (Ix.ofN f n) w ∧ H' = []) := by
 obtain ⟨p2, c2, hsv, hc2, hp2⟩ := id hr
 refine zQ func68 fun w0 hw0 => ?_
 refine yU 3 ?_
 intro b1 hb1
 refine yU 8 ?_
 refine Cj.join (ι := Heap × Gs) (fun y => BL w0.heap.size 2 (Ix.ofN f n).length ((Ix.ofN f n).flatMap WA) y.2) (fun y => [(5, gV (Ix.ofN f n).length y.2)]) (fun y => y.1) (fun y => (b1, yX 108 (FZ f)) :: gH 62 ((Ix.ofN f n).flatMap WA) y.2) ?_ (fun hcut => ?_)
 ·rintro ⟨J9, g⟩ hg
  dsimp only at hg ⊢
  refine yU 7 ?_
  refine Ej.keep (Keeps.d Keeps.r) ?_
  refine Ej.perm (H' := gH 62 (List.flatMap WA (Ix.ofN f n)) g ++ []) (.of_eq (List.append_nil _)) ?_
  refine Ej.keepR OO (by decide) hg rfl (fun I8 hle8 hw8 => ?_)
  refine zV ?_
  exact ⟨_, rfl, hw8, rfl⟩
 refine zK (fun hc2 hc2p => ?_) (fun hc2 hc2p => ?_)
 ·have hn : n = Ix.KW := CO hc2
  refine yU 5 ?_
  refine Cj.join (ι := Unit) (fun _y => True) (fun _y => [(1, str n), (2, ptr b1 0), (5, .slice none 0 0), (6, i64 (Ix.OH f : Nat))]) (fun _y => I) (fun _y => [(b1, yX 108 (FZ f))]) ?_ (fun hcut => ?_)
  ·rintro _ -
   refine Cj.join (ι := Bool) (fun y => (y = true → f.tag = [50, 52, 53] ∨ f.tag = [50, 52, 54]) ∧ (y = false → ¬ (f.tag = [50, 52, 53] ∨ f.tag = [50, 52, 54]))) (fun y => [(1, str n), (2, ptr b1 0), (5, .slice none 0 0), (6, i64 (Ix.OH f : Nat)), (51, .bool y)]) (fun y => I) (fun y => [(b1, yX 108 (FZ f))]) ?_ (fun hcut => ?_)
   ·rintro y ⟨hy1, hy2⟩
    refine DI (fun hc3 => ?_) (fun hc3 => ?_)
    ·have htt := hy1 hc3
     refine zX (a4U f [97, 98] (by decide) hn2 htx _ hr) ?_
     refine J.z qq2 ?_
     refine J.z (zN (pl := #[(0, 1), (1, 1)]) rfl rfl NC rfl a2F (fun w => by simp [DX, AV]) (FB.part rfl rfl rfl (AL.c AL.z) (FB.part rfl rfl rfl (AL.s (AL.c AL.z)) FB.none))) ?_
     refine J.op rfl (ER LX VU NC (EH.agg rfl EH.none) ?_)
     intro b4 hb4
     refine J.op rfl (AQ (by' := 23) (n := 0) (g := none) (xs := []) [_, _] rfl rfl rfl rfl rfl LX (.inr ⟨_, LX⟩) (by kernel_rfl) VU NC rfl ⟨rfl, rfl⟩ rfl (Src.slice (yZ.at 0 rfl) rfl rfl rfl) (by omega) ?_)
     intro g5 hg5
     refine yU 3 ?_
     refine Ej.keep (Keeps.d (Keeps.k Keeps.r)) ?_
     exact hcut (_, g5) _ _ _ (by rw [show Ix.ofN f n = [(Ke.textOf f [97, 98], Ix.OH f)] from (OQ hn).trans (if_pos htt)]; exact hg5) ⟨(by rw [show Ix.ofN f n = [(Ke.textOf f [97, 98], Ix.OH f)] from (OQ hn).trans (if_pos htt)] <;> rfl), trivial⟩ rfl (by rw [show Ix.ofN f n = [(Ke.textOf f [97, 98], Ix.OH f)] from (OQ hn).trans (if_pos htt)] <;> rfl)
    have htt := hy2 hc3
    refine yU 2 ?_
    exact hcut (_, none) _ _ _ (by rw [show Ix.ofN f n = [] from (OQ hn).trans (if_neg htt)]; exact ⟨rfl, rfl⟩) ⟨(by rw [show Ix.ofN f n = [] from (OQ hn).trans (if_neg htt)] <;> rfl), trivial⟩ rfl (by rw [show Ix.ofN f n = [] from (OQ hn).trans (if_neg htt)] <;> rfl)
   refine EK (fun hg6 hg6p => ?_) (fun hg6 hg6p => ?_)
   ·have h45 : f.tag = [50, 52, 53] := CO hg6
    refine yU 5 ?_
    exact hcut _ _ _ _ ⟨fun h => by simp_all, fun h => by simp_all⟩ ⟨rfl, rfl, rfl, rfl, rfl, trivial⟩ rfl rfl
   have h45 : f.tag ≠ [50, 52, 53] := CW hg6
   refine yU 5 ?_
   exact hcut _ _ _ _ ⟨fun h => by simp_all, fun h => by simp_all⟩ ⟨rfl, rfl, rfl, rfl, rfl, trivial⟩ rfl rfl
  refine EK (fun hg7 hg7p => ?_) (fun hg7 hg7p => ?_)
  ·have h45 : f.tag = [50, 52, 53] := CO hg7
   refine EK (fun hg8 hg8p => ?_) (fun hg8 hg8p => ?_)
   ·have hl1 : 1 < f.ind.length := by have h := ED hg8; omega
    obtain ⟨c, hget⟩ : ∃ c, f.ind[1]? = some c := ⟨_, BM hl1⟩
    have hcl := c.toNat_lt
    refine yU 2 ?_
    refine J.zg (CB rfl rfl rfl BQ (by decide) hget) ?_
    refine EK (fun hg9 hg9p => ?_) (fun hg9 hg9p => ?_)
    ·have h48 : 48 ≤ c.toNat := by have h := ED hg9; omega
     refine yU 2 ?_
     refine J.zg (CB rfl rfl rfl BQ (by decide) hget) ?_
     refine zK (fun hc10 hc10p => ?_) (fun hc10 hc10p => ?_)
     ·have h57 : c.toNat ≤ 57 := by have h := ED hc10; omega
      have hdg : Ke.digit c = true := by rw [Ix.PK]; simp only [decide_eq_true_eq]; omega
      refine yU 3 ?_
      refine J.z (CB rfl rfl rfl BQ (by decide) hget) ?_
      refine J.z (RI rfl rfl rfl (w8 (by omega))) ?_
      refine yU 1 ?_
      refine J.ev 43 (i64 ((c.toNat - 48 : Nat) : Int)) rfl (congrArg i64 ((IU (by omega)).trans (by omega))) ?_
      refine yU 2 ?_
      exact hcut () _ _ _ trivial ⟨rfl, rfl, rfl, (congrArg (fun n : Nat => some (i64 (n : Int))) (((if_pos h45).trans ((SX hget).trans (if_pos hdg)) : Ix.OH f = c.toNat - 48)).symm), trivial⟩ rfl rfl
     have hdg : ¬ Ke.digit c = true := by rw [Ix.PK]; have h := FQ hc10; simp only [decide_eq_true_eq]; omega
     refine yU 1 ?_
     exact hcut () _ _ _ trivial ⟨rfl, rfl, rfl, (congrArg (fun n : Nat => some (i64 (n : Int))) (((if_pos h45).trans ((SX hget).trans (if_neg hdg)) : Ix.OH f = 0)).symm), trivial⟩ rfl rfl
    have hdg : ¬ Ke.digit c = true := by rw [Ix.PK]; have h := FQ hg9; simp only [decide_eq_true_eq]; omega
    refine yU 9 ?_
    exact hcut () _ _ _ trivial ⟨rfl, rfl, rfl, (congrArg (fun n : Nat => some (i64 (n : Int))) (((if_pos h45).trans ((SX hget).trans (if_neg hdg)) : Ix.OH f = 0)).symm), trivial⟩ rfl rfl
   have hl1 : ¬ 1 < f.ind.length := by have h := FQ hg8; omega
   refine yU 15 ?_
   exact hcut () _ _ _ trivial ⟨rfl, rfl, rfl, (congrArg (fun n : Nat => some (i64 (n : Int))) (((if_pos h45).trans (b4n hl1) : Ix.OH f = 0)).symm), trivial⟩ rfl rfl
  have h45 : f.tag ≠ [50, 52, 53] := CW hg7
  refine yU 21 ?_
  exact hcut () _ _ _ trivial ⟨rfl, rfl, rfl, (congrArg (fun n : Nat => some (i64 (n : Int))) ((if_neg h45 : Ix.OH f = 0)).symm), trivial⟩ rfl rfl
 have nn16 : n ≠ Ix.KW := CW hc2
 refine zK (fun hc14 hc14p => ?_) (fun hc14 hc14p => ?_)
 ·have hn : n = Ix.KN := CO hc14
  refine Cj.join (ι := Bool) (fun y => (y = true → f.tag = [49, 48, 48] ∨ f.tag = [49, 49, 48] ∨ f.tag = [55, 48, 48]) ∧ (y = false → ¬ (f.tag = [49, 48, 48] ∨ f.tag = [49, 49, 48] ∨ f.tag = [55, 48, 48]))) (fun y => [(1, str n), (2, ptr b1 0), (5, .slice none 0 0), (73, .bool y)]) (fun y => I) (fun y => [(b1, yX 108 (FZ f))]) ?_ (fun hcut => ?_)
  ·rintro y ⟨hy1, hy2⟩
   refine DI (fun hc15 => ?_) (fun hc15 => ?_)
   ·have htt := hy1 hc15
    refine zX (a4U f [97] (by decide) hn2 htx _ hr) ?_
    refine J.z (zN (pl := #[(0, 1), (1, 1)]) rfl rfl NC rfl a2F (fun w => by simp [DX, AV]) (FB.part rfl rfl rfl (AL.c AL.z) FB.none)) ?_
    refine J.op rfl (ER LX VU NC (EH.agg rfl EH.none) ?_)
    intro b16 hb16
    refine J.op rfl (AQ (by' := 23) (n := 0) (g := none) (xs := []) [_, _] rfl rfl rfl rfl rfl LX (.inr ⟨_, LX⟩) (by kernel_rfl) VU NC rfl ⟨rfl, rfl⟩ rfl (Src.slice (yZ.at 0 rfl) rfl rfl rfl) (by omega) ?_)
    intro g17 hg17
    refine yU 3 ?_
    refine Ej.keep (Keeps.d (Keeps.k Keeps.r)) ?_
    exact hcut (_, g17) _ _ _ (by rw [show Ix.ofN f n = [(Ke.textOf f [97], 0)] from (MN hn).trans (if_pos htt)]; exact hg17) ⟨(by rw [show Ix.ofN f n = [(Ke.textOf f [97], 0)] from (MN hn).trans (if_pos htt)] <;> rfl), trivial⟩ rfl (by rw [show Ix.ofN f n = [(Ke.textOf f [97], 0)] from (MN hn).trans (if_pos htt)] <;> rfl)
   have htt := hy2 hc15
   refine yU 2 ?_
   exact hcut (_, none) _ _ _ (by rw [show Ix.ofN f n = [] from (MN hn).trans (if_neg htt)]; exact ⟨rfl, rfl⟩) ⟨(by rw [show Ix.ofN f n = [] from (MN hn).trans (if_neg htt)] <;> rfl), trivial⟩ rfl (by rw [show Ix.ofN f n = [] from (MN hn).trans (if_neg htt)] <;> rfl)
  refine EK (fun hg18 hg18p => ?_) (fun hg18 hg18p => ?_)
  ·have h100 : f.tag = [49, 48, 48] := CO hg18
   refine yU 10 ?_
   exact hcut _ _ _ _ ⟨fun h => by simp_all, fun h => by simp_all⟩ ⟨rfl, rfl, rfl, rfl, trivial⟩ rfl rfl
  have h100 : f.tag ≠ [49, 48, 48] := CW hg18
  refine EK (fun hg19 hg19p => ?_) (fun hg19 hg19p => ?_)
  ·have h110 : f.tag = [49, 49, 48] := CO hg19
   refine yU 5 ?_
   exact hcut _ _ _ _ ⟨fun h => by simp_all, fun h => by simp_all⟩ ⟨rfl, rfl, rfl, rfl, trivial⟩ rfl rfl
  have h110 : f.tag ≠ [49, 49, 48] := CW hg19
  refine yU 5 ?_
  exact hcut _ _ _ _ ⟨fun h => by simp_all, fun h => by simp_all⟩ ⟨rfl, rfl, rfl, rfl, trivial⟩ rfl rfl
 have nn59 : n ≠ Ix.KN := CW hc14
 refine zK (fun hc20 hc20p => ?_) (fun hc20 hc20p => ?_)
 ·have hn : n = Ix.KU := CO hc20
  refine Cj.join (ι := Bool) (fun y => (y = true → f.tag = [54, 48, 48] ∨ f.tag = [54, 53, 48]) ∧ (y = false → ¬ (f.tag = [54, 48, 48] ∨ f.tag = [54, 53, 48]))) (fun y => [(1, str n), (2, ptr b1 0), (5, .slice none 0 0), (89, .bool y)]) (fun y => I) (fun y => [(b1, yX 108 (FZ f))]) ?_ (fun hcut => ?_)
  ·rintro y ⟨hy1, hy2⟩
   refine DI (fun hc21 => ?_) (fun hc21 => ?_)
   ·have htt := hy1 hc21
    refine zX (a4U f [97, 120] (by decide) hn2 htx _ hr) ?_
    refine J.z (zN (pl := #[(0, 1), (1, 1)]) rfl rfl NC rfl a2F (fun w => by simp [DX, AV]) (FB.part rfl rfl rfl (AL.c AL.z) FB.none)) ?_
    refine J.op rfl (ER LX VU NC (EH.agg rfl EH.none) ?_)
    intro b22 hb22
    refine J.op rfl (AQ (by' := 23) (n := 0) (g := none) (xs := []) [_, _] rfl rfl rfl rfl rfl LX (.inr ⟨_, LX⟩) (by kernel_rfl) VU NC rfl ⟨rfl, rfl⟩ rfl (Src.slice (yZ.at 0 rfl) rfl rfl rfl) (by omega) ?_)
    intro g23 hg23
    refine yU 3 ?_
    refine Ej.keep (Keeps.d (Keeps.k Keeps.r)) ?_
    exact hcut (_, g23) _ _ _ (by rw [show Ix.ofN f n = [(Ke.textOf f [97, 120], 0)] from (LH hn).trans (if_pos htt)]; exact hg23) ⟨(by rw [show Ix.ofN f n = [(Ke.textOf f [97, 120], 0)] from (LH hn).trans (if_pos htt)] <;> rfl), trivial⟩ rfl (by rw [show Ix.ofN f n = [(Ke.textOf f [97, 120], 0)] from (LH hn).trans (if_pos htt)] <;> rfl)
   have htt := hy2 hc21
   refine yU 2 ?_
   exact hcut (_, none) _ _ _ (by rw [show Ix.ofN f n = [] from (LH hn).trans (if_neg htt)]; exact ⟨rfl, rfl⟩) ⟨(by rw [show Ix.ofN f n = [] from (LH hn).trans (if_neg htt)] <;> rfl), trivial⟩ rfl (by rw [show Ix.ofN f n = [] from (LH hn).trans (if_neg htt)] <;> rfl)
  refine EK (fun hg24 hg24p => ?_) (fun hg24 hg24p => ?_)
  ·have h600 : f.tag = [54, 48, 48] := CO hg24
   refine yU 5 ?_
   exact hcut _ _ _ _ ⟨fun h => by simp_all, fun h => by simp_all⟩ ⟨rfl, rfl, rfl, rfl, trivial⟩ rfl rfl
  have h600 : f.tag ≠ [54, 48, 48] := CW hg24
  refine yU 5 ?_
  exact hcut _ _ _ _ ⟨fun h => by simp_all, fun h => by simp_all⟩ ⟨rfl, rfl, rfl, rfl, trivial⟩ rfl rfl
 have nn80 : n ≠ Ix.KU := CW hc20
 refine zK (fun hc25 hc25p => ?_) (fun hc25 hc25p => ?_)
 ·have hn : n = Ix.MX := CO hc25
  refine yU 6 ?_
  refine Cj.loop (ι := Nat × Gs) (fun y => y.1 ≤ f.subs.length ∧ (y.1 = 0 ∨ f.tag = [48, 50, 48]) ∧ BL w0.heap.size 2 (JU Ke.OT 97 (f.subs.take y.1)).length ((JU Ke.OT 97 (f.subs.take y.1)).flatMap WA) y.2) (fun y => f.subs.length - y.1) (fun y => [(1, str n), (2, ptr b1 0), (5, gV (JU Ke.OT 97 (f.subs.take y.1)).length y.2), (7, i64 (y.1 : Int))]) (fun y => _) (fun y => (b1, yX 108 (FZ f)) :: gH 62 ((JU Ke.OT 97 (f.subs.take y.1)).flatMap WA) y.2) (0, none) ⟨Nat.zero_le _, .inl rfl, rfl, rfl⟩ ⟨rfl, rfl, rfl, rfl, trivial⟩ rfl rfl ?_
  rintro ⟨j, g⟩ ⟨hj, hj0, hg⟩
  dsimp only at hj hj0 hg ⊢
  have hpl := a4e Ke.OT 97 (f.subs.take j)
  rw [List.length_take, Nat.min_eq_left hj] at hpl
  refine yU 6 ?_
  refine J.ev 100 (.slice p2 f.subs.length c2) rfl hsv ?_
  refine EK (fun hg26 hg26p => ?_) (fun hg26 hg26p => ?_)
  ·have hlt : j < f.subs.length := by omega
   obtain ⟨sb, hsget⟩ : ∃ x, f.subs[j]? = some x := ⟨_, BM hlt⟩
   obtain ⟨sbk, so, scs, sty, sfr, sp2, rfl, hsbk, hsd⟩ := hp2 (zU hlt)
   have hxl := a5z (CX hsget)
   have hnx := b0V (u := Ke.OT) (c := 97) hsget
   refine zK (fun hc27 hc27p => ?_) (fun hc27 hc27p => ?_)
   ·have htg : f.tag = [48, 50, 48] := CO hc27
    refine yU 8 ?_
    refine J.ev 112 (.slice (some ⟨sbk, so, none⟩) f.subs.length c2) rfl hsv ?_
    refine zW (so + j * 2) ?_
    refine J.z (CV (off' := so + j * 2 + 1) a2u AV) ?_
    refine J.z (AX rfl rfl CU (yZ.LK hsbk) (DT JW hsd hsget 1 (by decide))) ?_
    refine zX (b1u sb.text (by omega) _) ?_
    refine FM (fun hg28 => ?_) (fun hg28 => ?_)
    ·have hok : (Ke.OT sb.text).2 = true := hg28
     refine yU 2 ?_
     refine J.ev 123 (.slice (some ⟨sbk, so, none⟩) f.subs.length c2) rfl hsv ?_
     refine yU 1 ?_
     refine J.zg (FX (off' := so + j * 2) a0a a0B) ?_
     refine yU 1 ?_
     refine J.zg (AX rfl rfl tA5 (yZ.LK hsbk) (DT JW hsd hsget 0 (by decide))) ?_
     refine zK (fun hc29 hc29p => ?_) (fun hc29 hc29p => ?_)
     ·have hcd : sb.code = 97 := UInt8.toNat_inj.1 (by have h := CO hc29; show sb.code.toNat = 97; omega)
      rw [if_pos ⟨hok, hcd⟩] at hnx
      refine Cj.region (J.z qq2 ?_)
      refine J.z qq2 ?_
      refine J.z (zN (pl := #[(0, 1), (1, 1)]) rfl rfl NC rfl a2F (fun w => by simp [DX, AV]) (FB.part rfl rfl rfl (AL.c AL.z) FB.none)) ?_
      refine J.op rfl (ER LX VU NC (EH.agg rfl EH.none) ?_)
      intro b30 hb30
      refine J.op rfl (AQ (by' := 23) [_, _] rfl rfl rfl rfl rfl LX (.inr ⟨_, LX⟩) (by kernel_rfl) VU NC rfl hg rfl (Src.slice (yZ.at 0 rfl) rfl rfl rfl) (by omega) ?_)
      intro g31 hg31
      refine yU 9 ?_
      refine Ej.keep (Keeps.d (Keeps.k Keeps.r)) ?_
      refine Ej.round (j + 1, g31) ⟨by dsimp only; omega, .inr htg, by dsimp only; rw [hnx, List.length_append, List.flatMap_append]; exact hg31⟩ (by dsimp only; omega) ⟨rfl, rfl, by dsimp only; rw [hnx, List.length_append]; rfl, rfl, trivial⟩ rfl (by dsimp only; rw [hnx, List.flatMap_append]; rfl)
     rw [if_neg (fun g => CW hc29 (by rw [g.2]; rfl))] at hnx
     refine yU 8 ?_
     refine Ej.round (j + 1, g) ⟨by dsimp only; omega, .inr htg, by dsimp only; rw [hnx, List.append_nil]; exact hg⟩ (by dsimp only; omega) ⟨rfl, rfl, by dsimp only; rw [hnx, List.append_nil]; rfl, rfl, trivial⟩ rfl (by dsimp only; rw [hnx, List.append_nil])
    rw [if_neg (fun g => Bool.noConfusion (g.1.symm.trans hg28))] at hnx
    refine yU 19 ?_
    refine Ej.round (j + 1, g) ⟨by dsimp only; omega, .inr htg, by dsimp only; rw [hnx, List.append_nil]; exact hg⟩ (by dsimp only; omega) ⟨rfl, rfl, by dsimp only; rw [hnx, List.append_nil]; rfl, rfl, trivial⟩ rfl (by dsimp only; rw [hnx, List.append_nil])
   have htn : f.tag ≠ [48, 50, 48] := CW hc27
   refine yU 5 ?_
   exact hcut (_, g) _ _ _ (by rw [show Ix.ofN f n = JU Ke.OT 97 (f.subs.take j) from (SI hn).trans (a3I hj0 htn)]; exact hg) ⟨(by rw [show Ix.ofN f n = JU Ke.OT 97 (f.subs.take j) from (SI hn).trans (a3I hj0 htn)] <;> rfl), trivial⟩ rfl (by rw [show Ix.ofN f n = JU Ke.OT 97 (f.subs.take j) from (SI hn).trans (a3I hj0 htn)] <;> rfl)
  refine yU 12 ?_
  exact hcut (_, g) _ _ _ (by rw [show Ix.ofN f n = JU Ke.OT 97 (f.subs.take j) from (SI hn).trans (a1n hj0 (by omega))]; exact hg) ⟨(by rw [show Ix.ofN f n = JU Ke.OT 97 (f.subs.take j) from (SI hn).trans (a1n hj0 (by omega))] <;> rfl), trivial⟩ rfl (by rw [show Ix.ofN f n = JU Ke.OT 97 (f.subs.take j) from (SI hn).trans (a1n hj0 (by omega))] <;> rfl)
 have nn96 : n ≠ Ix.MX := CW hc25
 refine zK (fun hc34 hc34p => ?_) (fun hc34 hc34p => ?_)
 ·have hn : n = Ix.a0p := CO hc34
  refine yU 6 ?_
  refine Cj.loop (ι := Nat × Gs) (fun y => y.1 ≤ f.subs.length ∧ (y.1 = 0 ∨ f.tag = [50, 54, 48]) ∧ BL w0.heap.size 2 (JU uy 99 (f.subs.take y.1)).length ((JU uy 99 (f.subs.take y.1)).flatMap WA) y.2) (fun y => f.subs.length - y.1) (fun y => [(1, str n), (2, ptr b1 0), (5, gV (JU uy 99 (f.subs.take y.1)).length y.2), (10, i64 (y.1 : Int))]) (fun y => _) (fun y => (b1, yX 108 (FZ f)) :: gH 62 ((JU uy 99 (f.subs.take y.1)).flatMap WA) y.2) (0, none) ⟨Nat.zero_le _, .inl rfl, rfl, rfl⟩ ⟨rfl, rfl, rfl, rfl, trivial⟩ rfl rfl ?_
  rintro ⟨j, g⟩ ⟨hj, hj0, hg⟩
  dsimp only at hj hj0 hg ⊢
  have hpl := a4e uy 99 (f.subs.take j)
  rw [List.length_take, Nat.min_eq_left hj] at hpl
  refine yU 6 ?_
  refine J.ev 139 (.slice p2 f.subs.length c2) rfl hsv ?_
  refine EK (fun hg35 hg35p => ?_) (fun hg35 hg35p => ?_)
  ·have hlt : j < f.subs.length := by omega
   obtain ⟨sb, hsget⟩ : ∃ x, f.subs[j]? = some x := ⟨_, BM hlt⟩
   obtain ⟨sbk, so, scs, sty, sfr, sp2, rfl, hsbk, hsd⟩ := hp2 (zU hlt)
   have hxl := a5z (CX hsget)
   have hnx := b0V (u := uy) (c := 99) hsget
   refine zK (fun hc36 hc36p => ?_) (fun hc36 hc36p => ?_)
   ·have htg : f.tag = [50, 54, 48] := CO hc36
    refine yU 8 ?_
    refine J.ev 151 (.slice (some ⟨sbk, so, none⟩) f.subs.length c2) rfl hsv ?_
    refine zW (so + j * 2) ?_
    refine J.z (CV (off' := so + j * 2 + 1) a2u AV) ?_
    refine J.z (AX rfl rfl CU (yZ.LK hsbk) (DT JW hsd hsget 1 (by decide))) ?_
    refine zX (c1o sb.text (by omega) _) ?_
    refine FM (fun hg37 => ?_) (fun hg37 => ?_)
    ·have hok : (uy sb.text).2 = true := hg37
     refine yU 2 ?_
     refine J.ev 162 (.slice (some ⟨sbk, so, none⟩) f.subs.length c2) rfl hsv ?_
     refine yU 1 ?_
     refine J.zg (FX (off' := so + j * 2) a0a a0B) ?_
     refine yU 1 ?_
     refine J.zg (AX rfl rfl tA5 (yZ.LK hsbk) (DT JW hsd hsget 0 (by decide))) ?_
     refine zK (fun hc38 hc38p => ?_) (fun hc38 hc38p => ?_)
     ·have hcd : sb.code = 99 := UInt8.toNat_inj.1 (by have h := CO hc38; show sb.code.toNat = 99; omega)
      rw [if_pos ⟨hok, hcd⟩] at hnx
      refine Cj.region (J.z qq2 ?_)
      refine J.z qq2 ?_
      refine J.z (zN (pl := #[(0, 1), (1, 1)]) rfl rfl NC rfl a2F (fun w => by simp [DX, AV]) (FB.part rfl rfl rfl (AL.c AL.z) FB.none)) ?_
      refine J.op rfl (ER LX VU NC (EH.agg rfl EH.none) ?_)
      intro b39 hb39
      refine J.op rfl (AQ (by' := 23) [_, _] rfl rfl rfl rfl rfl LX (.inr ⟨_, LX⟩) (by kernel_rfl) VU NC rfl hg rfl (Src.slice (yZ.at 0 rfl) rfl rfl rfl) (by omega) ?_)
      intro g40 hg40
      refine yU 9 ?_
      refine Ej.keep (Keeps.d (Keeps.k Keeps.r)) ?_
      refine Ej.round (j + 1, g40) ⟨by dsimp only; omega, .inr htg, by dsimp only; rw [hnx, List.length_append, List.flatMap_append]; exact hg40⟩ (by dsimp only; omega) ⟨rfl, rfl, by dsimp only; rw [hnx, List.length_append]; rfl, rfl, trivial⟩ rfl (by dsimp only; rw [hnx, List.flatMap_append]; rfl)
     rw [if_neg (fun g => CW hc38 (by rw [g.2]; rfl))] at hnx
     refine yU 8 ?_
     refine Ej.round (j + 1, g) ⟨by dsimp only; omega, .inr htg, by dsimp only; rw [hnx, List.append_nil]; exact hg⟩ (by dsimp only; omega) ⟨rfl, rfl, by dsimp only; rw [hnx, List.append_nil]; rfl, rfl, trivial⟩ rfl (by dsimp only; rw [hnx, List.append_nil])
    rw [if_neg (fun g => Bool.noConfusion (g.1.symm.trans hg37))] at hnx
    refine yU 19 ?_
    refine Ej.round (j + 1, g) ⟨by dsimp only; omega, .inr htg, by dsimp only; rw [hnx, List.append_nil]; exact hg⟩ (by dsimp only; omega) ⟨rfl, rfl, by dsimp only; rw [hnx, List.append_nil]; rfl, rfl, trivial⟩ rfl (by dsimp only; rw [hnx, List.append_nil])
   have htn : f.tag ≠ [50, 54, 48] := CW hc36
   refine yU 5 ?_
   exact hcut (_, g) _ _ _ (by rw [show Ix.ofN f n = JU uy 99 (f.subs.take j) from (TD hn).trans (a3I hj0 htn)]; exact hg) ⟨(by rw [show Ix.ofN f n = JU uy 99 (f.subs.take j) from (TD hn).trans (a3I hj0 htn)] <;> rfl), trivial⟩ rfl (by rw [show Ix.ofN f n = JU uy 99 (f.subs.take j) from (TD hn).trans (a3I hj0 htn)] <;> rfl)
  refine yU 12 ?_
  exact hcut (_, g) _ _ _ (by rw [show Ix.ofN f n = JU uy 99 (f.subs.take j) from (TD hn).trans (a1n hj0 (by omega))]; exact hg) ⟨(by rw [show Ix.ofN f n = JU uy 99 (f.subs.take j) from (TD hn).trans (a1n hj0 (by omega))] <;> rfl), trivial⟩ rfl (by rw [show Ix.ofN f n = JU uy 99 (f.subs.take j) from (TD hn).trans (a1n hj0 (by omega))] <;> rfl)
 have nn135 : n ≠ Ix.a0p := CW hc34
 refine zK (fun hc43 hc43p => ?_) (fun hc43 hc43p => ?_)
 ·have hn : n = Ix.PI := CO hc43
  refine zX (a5M f.tag [48, 48] (by decide) _) ?_
  refine zX (a5M f.tag [57] (by decide) _) ?_
  refine FM (fun hg44 => ?_) (fun hg44 => ?_)
  ·have h00 : ([48, 48] : List UInt8).isPrefixOf f.tag = false := by have h := hg44; simpa using h
   refine DI (fun hc45 => ?_) (fun hc45 => ?_)
   ·have hany : Ix.RS f = true := by have h := hc45; unfold Ix.RS; rw [h00, h]; rfl
    refine zX (b3f f hn2 htx _ hr) ?_
    refine J.z (zN (pl := #[(0, 1), (1, 1)]) rfl rfl NC rfl a2F (fun w => by simp [DX, AV]) (FB.part rfl rfl rfl (AL.c AL.z) FB.none)) ?_
    refine J.op rfl (ER LX VU NC (EH.agg rfl EH.none) ?_)
    intro b46 hb46
    refine J.op rfl (AQ (by' := 23) (n := 0) (g := none) (xs := []) [_, _] rfl rfl rfl rfl rfl LX (.inr ⟨_, LX⟩) (by kernel_rfl) VU NC rfl ⟨rfl, rfl⟩ rfl (Src.slice (yZ.at 0 rfl) rfl rfl rfl) (by omega) ?_)
    intro g47 hg47
    refine yU 3 ?_
    refine Ej.keep (Keeps.d (Keeps.k Keeps.r)) ?_
    exact hcut (_, g47) _ _ _ (by rw [show Ix.ofN f n = [(Ix.NS f, 0)] from (PV hn).trans (if_pos hany)]; exact hg47) ⟨(by rw [show Ix.ofN f n = [(Ix.NS f, 0)] from (PV hn).trans (if_pos hany)] <;> rfl), trivial⟩ rfl (by rw [show Ix.ofN f n = [(Ix.NS f, 0)] from (PV hn).trans (if_pos hany)] <;> rfl)
   have hany : ¬ Ix.RS f = true := by have h := hc45; unfold Ix.RS; rw [h00, h]; simp
   refine yU 2 ?_
   exact hcut (_, none) _ _ _ (by rw [show Ix.ofN f n = [] from (PV hn).trans (if_neg hany)]; exact ⟨rfl, rfl⟩) ⟨(by rw [show Ix.ofN f n = [] from (PV hn).trans (if_neg hany)] <;> rfl), trivial⟩ rfl (by rw [show Ix.ofN f n = [] from (PV hn).trans (if_neg hany)] <;> rfl)
  have hany : ¬ Ix.RS f = true := by have h := hg44; unfold Ix.RS; simp only [Bool.not_eq_false'] at h; rw [h]; simp
  refine yU 8 ?_
  exact hcut (_, none) _ _ _ (by rw [show Ix.ofN f n = [] from (PV hn).trans (if_neg hany)]; exact ⟨rfl, rfl⟩) ⟨(by rw [show Ix.ofN f n = [] from (PV hn).trans (if_neg hany)] <;> rfl), trivial⟩ rfl (by rw [show Ix.ofN f n = [] from (PV hn).trans (if_neg hany)] <;> rfl)
 have hn : n ≠ Ix.PI := CW hc43
 refine yU 2 ?_
 exact hcut (_, none) _ _ _ (by rw [show Ix.ofN f n = [] from of_none nn16 nn59 nn80 nn96 nn135 hn]; exact ⟨rfl, rfl⟩) ⟨(by rw [show Ix.ofN f n = [] from of_none nn16 nn59 nn80 nn96 nn135 hn] <;> rfl), trivial⟩ rfl (by rw [show Ix.ofN f n = [] from of_none nn16 nn59 nn80 nn96 nn135 hn] <;> rfl)
theorem b4W{fs:List Ke.LV}{j f} n (h:fs[j]?=some f):Ix.valsN (fs.take (j+1)) n=Ix.valsN (fs.take j) n++Ix.ofN f n:=by
  obtain⟨hlt,hg⟩:=List.getElem?_eq_some_iff.1 h;rw[List.take_succ_eq_append_getElem hlt,hg];unfold Ix.valsN;rw[List.flatMap_append];simp
theorem SH n:∀(fs:List Ke.LV),(∀f∈fs,f.subs.length≤1000)→(Ix.valsN fs n).length≤fs.length*1000
  |[],_=>by simp[Ix.valsN]
  | f::r,h=>by
    have h1:=SH n r fun x hx=>h x (.tail _ hx);have h2:=b3O f n (h f (.head _));unfold Ix.valsN at h1 ⊢;rw[List.flatMap_cons,List.length_append,List.length_cons,Nat.add_mul];omega
theorem a2g fs v rk rl n (hok:RH fs) I (hr0:QX I fs v):yY Tryz.prog 25 [a7w rk rl v,str n] I [] (fun e I' H'=>∃w,e= .returned w∧zS WA I' (Ix.valsN fs n) w∧H'=[]):=by
 have hfs:=hok.1;obtain⟨p,c,rfl,hc,-⟩:=id hr0.1;refine zQ func25 fun w0 hw0=>?_;refine yU 3 ?_;intro b1 hb1;refine yU 15 ?_;refine Cj.loop (ι:=Nat×Heap×Gs) (fun y=>y.1≤fs.length∧Le I y.2.1∧BL w0.heap.size 2 (Ix.valsN (fs.take y.1) n).length ((Ix.valsN (fs.take y.1) n).flatMap WA) y.2.2) (fun y=>fs.length-y.1) (fun y=>[(1,str n),(2,ptr b1 0),(5,gV (Ix.valsN (fs.take y.1) n).length y.2.2),(6,i64 (y.1:Int))]) (fun y=>y.2.1) (fun y=>(b1,yX 57 [u8 rk,u8 rl,.slice p fs.length c])::gH 62 ((Ix.valsN (fs.take y.1) n).flatMap WA) y.2.2) (0,_,none) ⟨Nat.zero_le _,Le.refl _,rfl,rfl⟩ ⟨rfl,rfl,rfl,rfl,trivial⟩ rfl rfl ?_;rintro⟨j,J1,g⟩ ⟨hj,hIJ,hg⟩;dsimp only at hj hIJ hg ⊢;have hr:=hr0.mono hIJ;have hvl:=SH n (fs.take j) fun f hf=>(hok.2 f (List.mem_of_mem_take hf)).1;rw[List.length_take,Nat.min_eq_left hj]at hvl;refine zK (fun hc2 hc2p=>?_) (fun hc2 hc2p=>?_)
 ·refine yU 4 ?_;have hlt:j<fs.length:=by omega
  obtain⟨f,hget⟩:∃f,fs[j]?=some f:=⟨_,BM hlt⟩;have hfk:=hok.2 f (CX hget);have hnx:=b4W n hget;have hofl:=b3O f n hfk.1;obtain⟨⟨p1,c1,hpe,hc1,hp⟩,hsub⟩:=id hr;cases hpe;obtain⟨fb,fo,fcs,fty,ffr,sp,rfl,hfb,hfd⟩:=hp (zU hlt);have hsr:=hsub f (CX hget);obtain⟨p2,c2,hsv,hc2,hp2⟩:=id hsr;refine zW (fo+j*4) ?_;refine J.z (BJ isAgg108 WO (yZ.LK hfb) (BF a2l hfd hget)) ?_;refine AP (c5I f n (by omega) hfk.2.1 _ hsr) ?_;intro v3 I4 H5 hle6 hp7;have hIJ:=hIJ.mono hle6;have hr:=hr.mono hle6;have hfb:=hle6 _ _ hfb;obtain⟨vhof,h,hof,rfl⟩:=hp7;cases h;refine J.op rfl (AQ (by':=23) [_] rfl rfl rfl rfl rfl LX (.inr ⟨_,LX⟩) (by kernel_rfl) VU NC rfl hg rfl (Src.row OO hof (fun x _=>rfl)) (by omega) ?_);intro g8 hg8;refine yU 9 ?_;refine Ej.round (j+1,_,g8) ⟨by dsimp only;omega,hIJ,by dsimp only;rw[hnx,List.length_append,List.flatMap_append];exact hg8⟩ (by dsimp only;omega) ⟨rfl,rfl,by dsimp only;rw[hnx,List.length_append];rfl,rfl,trivial⟩ rfl (by dsimp only;rw[hnx,List.flatMap_append];rfl)
 refine yU 12 ?_;refine Ej.keep (Keeps.d Keeps.r) ?_;have hfull:fs.take j=fs:=List.take_of_length_le (by omega);rw[hfull]at hg ⊢;refine Ej.perm (H':=gH 62 ((Ix.valsN fs n).flatMap WA) g++[]) (.of_eq (List.append_nil _)) ?_;refine Ej.keepR OO (by decide) hg rfl (fun I8 hle8 hw8=>?_);refine zV ?_;exact⟨_,rfl,hw8,rfl⟩
end Go.Proofs.YtekmeaoblpfnpaaGreatDoor
end
section
namespace Go.Proofs.YtekmeaoblpfnpaaGreatDoor
open _root_.Go.Proofs.Tryz
open Go Go.Sx
theorem c2e{α:Type}{a b:List α}{k x y}(h:a.take k=b.take k)(hx:a[k]?=some x)(hy:b[k]?=some y)(he:x=y):a.take (k+1)=b.take (k+1):=by
  obtain⟨h1,e1⟩:=List.getElem?_eq_some_iff.1 hx;obtain⟨h2,e2⟩:=List.getElem?_eq_some_iff.1 hy;rw[List.take_succ_eq_append_getElem h1,List.take_succ_eq_append_getElem h2,h,e1,e2,he]
theorem b8L{l s k}(hl:Ke.Inc l)(h1:∀x∈l.take k,x<s)(h2:∀x,l[k]?=some x→¬x<s∧x≠s):l.take k++[s]++l.drop k=Ke.put l s:=by
  have hd:∀y∈l.drop k,s<y:=by
    rcases Nat.lt_or_ge k l.length with g|g
    · have h3:=h2 l[k] (BM g);have h4:s<l[k]:=b2q h3.1 (Ne.symm h3.2);intro y hy;rw[←List.getElem_cons_drop g]at hy;rcases List.mem_cons.1 hy with e|e
      · rw[e];exact h4
      refine List.lt_trans h4 ?_;have h5:(l.drop k).Pairwise (· <·):=List.Pairwise.sublist (List.drop_sublist k l) hl;rw[←List.getElem_cons_drop g]at h5;exact(List.pairwise_cons.1 h5).1 y e
    intro y hy;rw[List.drop_eq_nil_of_le g]at hy;cases hy
  refine Ke.a5N ?_ (Ke.b4g s hl) fun x=>?_
  · unfold Ke.Inc;rw[List.pairwise_append,List.pairwise_append];refine⟨⟨List.Pairwise.sublist (List.take_sublist k l) hl,List.pairwise_singleton _ _,fun a ha b hb=>?_⟩,List.Pairwise.sublist (List.drop_sublist k l) hl,fun a ha b hb=>?_⟩
    · rw[List.mem_singleton.1 hb];exact h1 a ha
    rcases List.mem_append.1 ha with g|g
    · exact List.lt_trans (h1 a g) (hd b hb)
    rw[List.mem_singleton.1 g];exact hd b hb
  rw[Ke.put_mem];have h6:x∈l↔x∈l.take k∨x∈l.drop k:=by rw[←List.mem_append,List.take_append_drop]
  rw[h6,List.mem_append,List.mem_append,List.mem_singleton];constructor
  · rintro((g|g)|g)
    · exact .inr (.inl g)
    · exact .inl g
    exact .inr (.inr g)
  rintro(g|g|g)
  · exact .inl (.inr g)
  · exact .inl (.inl g)
  exact .inr g
theorem c4T{l:List (List UInt8)}{s x k}(h:∀y∈l.take k,y<s)(hg:l[k]?=some x)(hx:x<s):∀y∈l.take (k+1),y<s:=by
  obtain⟨hlt,hg⟩:=List.getElem?_eq_some_iff.1 hg;rw[List.take_succ_eq_append_getElem hlt,hg];intro y hy;rcases List.mem_append.1 hy with g|g
  · exact h y g
  rw[List.mem_singleton.1 g];exact hx
abbrev a2S (s:List UInt8):List Value:=[str s]
theorem OU s:(a2S s).length=1:=rfl
theorem a8W a b s:((([]:List Value)++a.flatMap a2S)++[str s])++b.flatMap a2S=(a++[s]++b).flatMap a2S:=by simp
theorem a5v a b va vb (hal:a.length≤100000000000000) I (ha:zS recC I a va)(hb:zS recC I b vb):Pure Tryz.prog 20 [va,vb] I (.bool (decide (a=b))):=by
 refine yY.toPure ?_;obtain⟨p1,c1,rfl,hc1,hp1⟩:=ha;obtain⟨p2,c2,rfl,hc2,hp2⟩:=hb;refine zQ func20 fun w0 hw0=>?_;refine zK (fun hc1 hc1p=>?_) (fun hc1 hc1p=>?_)
 ·have hln:a.length≠b.length:=by have h:=bne_iff_ne.1 hc1;omega
  refine zV ?_;rw[decide_eq_false (fun e=>hln (by rw[e]))];exact⟨rfl,rfl⟩
 have hlen:a.length=b.length:=by have h:=JR hc1;omega
 refine yU 9 ?_;refine Cj.loop (ι:=Nat) (fun j=>j≤a.length∧a.take j=b.take j) (fun j=>a.length-j) (fun j=>[(0,.slice p1 a.length c1),(1,.slice p2 b.length c2),(5,i64 (j:Int))]) (fun j=>_) (fun j=>[]) 0 ⟨Nat.zero_le _,rfl⟩ ⟨rfl,rfl,rfl,trivial⟩ rfl rfl ?_;rintro j ⟨hj,hall⟩;refine zK (fun hc2 hc2p=>?_) (fun hc2 hc2p=>?_)
 ·have hlt:j<a.length:=by omega
  obtain⟨x,hx⟩:∃x,a[j]?=some x:=⟨_,BM hlt⟩;obtain⟨y,hy⟩:∃y,b[j]?=some y:=⟨_,BM (by omega)⟩;obtain⟨fa,oa,acs,aty,afr,asp,rfl,hfa,had⟩:=hp1 (zU hlt);obtain⟨fb,ob,EF,bty,bfr,bsp,rfl,hfb,hbd⟩:=hp2 (zU (by omega:j<b.length));refine yU 5 ?_;refine Cj.EX [] [] 9 (by kernel_rfl) ?_;refine zW (oa+j*2) ?_;refine JA.zt 3 rfl (BJ IZ EJ (yZ.OA hfa) (BF BR had hx)) ?_;refine zW (ob+j*2) ?_;refine JA.zt 7 rfl (BJ IZ EJ (yZ.OA hfb) (BF BR hbd hy)) ?_;refine JA.zt 8 rfl (c2M (kv:=b6j) (a:=x) (b:=y) rfl rfl rfl rfl rfl b4Y (by kernel_rfl)) ?_;refine zK (fun hc4 hc4p=>?_) (fun hc4 hc4p=>?_)
  ·have hxy:x≠y:=bne_iff_ne.1 hc4;refine zV ?_;rw[decide_eq_false (fun e=>hxy (by rw[e,hy]at hx;exact(Option.some.inj hx).symm))];exact⟨rfl,rfl⟩
  have hxy:x=y:=JR hc4;refine yU 8 ?_;refine Ej.round (j+1) ⟨by omega,c2e hall hx hy hxy⟩ (by omega) ⟨rfl,rfl,rfl,trivial⟩ rfl rfl
 refine zV ?_;rw[List.take_of_length_le (by omega:a.length≤j),List.take_of_length_le (by omega:b.length≤j)]at hall;rw[decide_eq_true hall];exact⟨rfl,rfl⟩
theorem b4J a b va vb I (ha:EY I a va)(hb:EY I b vb)(hal:a.length≤10000000000000)(hbl:b.length≤10000000000000):Pure Tryz.prog 229 [vb,va] I (.bool (Ix.within b a)):=by
 refine yY.toPure ?_;obtain⟨p1,c1,rfl,hc1,-⟩:=id ha;obtain⟨p2,c2,rfl,hc2,-⟩:=id hb;refine zQ func229 fun w0 hw0=>?_;refine yU 12 ?_;refine Cj.loop (ι:=Nat) (fun k=>k≤a.length+1∧(0<k→0<b.length)∧Ix.within b (a.drop k)=Ix.within b a) (fun k=>a.length+1-k) (fun k=>[(0,.slice p2 b.length c2),(1,.slice p1 a.length c1),(5,i64 (k:Int))]) (fun k=>_) (fun k=>[]) 0 ⟨Nat.zero_le _,fun h=>absurd h (Nat.lt_irrefl 0),rfl⟩ ⟨rfl,rfl,rfl,trivial⟩ rfl rfl ?_;rintro k ⟨hk,hb0,hw⟩;refine zK (fun hc13 hc13p=>?_) (fun hc13 hc13p=>?_)
 ·have hkl:k+b.length≤a.length:=by omega
  refine yU 12 ?_;refine J.z (a8i (j:=k) (k:=(k+b.length)) rfl rfl rfl rfl CG AV rfl (by omega) (by omega)) ?_;refine zX (c4F _ b _ _ (by rw[List.length_take,List.length_drop];omega) _ (b1R ha (Nat.le_add_right k b.length) hkl) hb) ?_;refine DI (fun hc25=>?_) (fun hc25=>?_)
  ·have heq:=ED hc25;rw[Nat.add_sub_cancel_left]at heq;refine zV ?_;rw[←hw,a6l heq];exact⟨rfl,rfl⟩
  have hne:=FQ hc25;rw[Nat.add_sub_cancel_left]at hne;refine yU 8 ?_;refine Ej.round (k+1) ⟨by omega,fun _=>List.length_pos_iff.2 (fun e=>hne (by rw[e];rfl)),by rw[←hw,a4w hkl hne]⟩ (by omega) ⟨rfl,rfl,rfl,trivial⟩ rfl rfl
 refine zV ?_;rw[←hw,a3j (by rw[List.length_drop];rcases Nat.eq_zero_or_pos k with h|h<;>(first|omega|(have:=hb0 h;omega)))];exact⟨rfl,rfl⟩
theorem a8F n s (hs:s.length≤100000000) I:Pure Tryz.prog 24 [str n,str s] I (str (Ix.keyOf n s)):=by
 refine yY.toPure ?_;have hil:=a1F s;refine zQ func24 fun w0 hw0=>?_;refine zX (b1u s hs _) ?_;refine FM (fun hg1=>?_) (fun hg1=>?_)
 ·refine zK (fun hc2 hc2p=>?_) (fun hc2 hc2p=>?_)
  ·have hk:Ix.keyOf n s=Ke.GI (Ke.OT s).1 0:=if_pos ⟨hg1,CO hc2⟩;refine zX (ZQ (Ke.OT s).1 0 (by omega) _) ?_;refine zV ?_;rw[hk];exact⟨rfl,rfl⟩
  have hk:Ix.keyOf n s=Ke.GI s 0:=if_neg (fun g=>CW hc2 g.2);refine zX (ZQ s 0 hs _) ?_;refine zV ?_;rw[hk];exact⟨rfl,rfl⟩
 have hk:Ix.keyOf n s=Ke.GI s 0:=if_neg (fun g=>Bool.noConfusion (g.1.symm.trans hg1));refine zX (ZQ s 0 hs _) ?_;refine zV ?_;rw[hk];exact⟨rfl,rfl⟩
theorem c4x l v s (hinc:Ke.Inc l)(hl:l.length≤4300000000000) I (hv0:EY I l v):yY Tryz.prog 231 [v,str s] I [] (fun e I' H'=>∃w,e= .returned w∧EY I' (Ke.put l s) w∧H'=[]):=by
 have hrow:=VZ.1 hv0;obtain⟨p,c,rfl,hc,hp⟩:=id hv0;refine zQ func231 fun w0 hw0=>?_;refine yU 12 ?_;refine Cj.loop (ι:=Nat) (fun k=>k≤l.length∧∀x∈l.take k,x<s) (fun k=>l.length-k) (fun k=>[(0,.slice p l.length c),(1,str s),(5,i64 (k:Int))]) (fun k=>_) (fun k=>[]) 0 ⟨Nat.zero_le _,fun x hx=>by simp at hx⟩ ⟨rfl,rfl,rfl,trivial⟩ rfl rfl ?_;rintro k ⟨hk,hall⟩;refine EK (fun hg1 hg1p=>?_) (fun hg1 hg1p=>?_)
 ·have hlt:k<l.length:=by omega
  obtain⟨x,hget⟩:∃x,l[k]?=some x:=⟨_,BM hlt⟩;obtain⟨lb,lo,lcs,lty,lfr,sp,rfl,hlb,hld⟩:=hp (zU hlt);refine yU 2 ?_;refine J.zg (FX (off':=lo+k) CG AV) ?_;refine J.zg (DU CU (yZ.LK hlb) (JV hld hget)) ?_;refine yU 1 ?_;refine J.zg (a7W rfl rfl rfl) ?_;refine DI (fun hc2=>?_) (fun hc2=>?_)
  ·have hxs:x<s:=ED hc2;refine yU 9 ?_;refine Ej.round (k+1) ⟨by omega,c4T hall hget hxs⟩ (by omega) ⟨rfl,rfl,rfl,trivial⟩ rfl rfl
  have hxs:¬x<s:=FQ hc2;refine EK (fun hg3 hg3p=>?_) (fun hg3 hg3p=>?_)
  ·refine yU 2 ?_;refine J.zg (FX (off':=lo+k) CG AV) ?_;refine J.zg (DU CU (yZ.LK hlb) (JV hld hget)) ?_;refine zK (fun hc4 hc4p=>?_) (fun hc4 hc4p=>?_)
   ·have hxe:x=s:=CO hc4;refine AB ?_;rw[show Ke.put l s=l from if_pos (hxe▸CX hget)];exact⟨_,rfl,hv0,rfl⟩
   have hxe:x≠s:=CW hc4;refine yU 8 ?_;have htl:(l.take k).length=k:=by rw[List.length_take];omega
   have hdl:(l.drop k).length=l.length-k:=List.length_drop;refine yU 4 ?_;refine J.z (LJ (k:=k) rfl rfl rfl CG AV rfl (by omega)) ?_;refine J.op rfl (AQ (by':=15) (n:=0) (g:=none) (xs:=[]) [] rfl rfl rfl rfl rfl CG (.inr ⟨_,CG⟩) (by kernel_rfl) AV NP rfl ⟨rfl,rfl⟩ rfl (Src.row OU (zS.take hrow hk) (fun x _=>rfl)) (by omega) ?_);intro g5 hg5;refine yU 8 ?_;intro b6 hb6;refine RD 15 [_] hg5 ?_;intro g7 hg7;refine yU 8 ?_;refine J.z (MI (j:=k) rfl rfl rfl CG AV rfl (by omega) (by omega)) ?_;refine J.op rfl (AQ (by':=15) [_] rfl rfl rfl rfl rfl CG (.inr ⟨_,CG⟩) (by kernel_rfl) AV NP rfl hg7 rfl (Src.row OU (zS.from OU hrow (j:=k) hk) (fun x _=>rfl)) (by omega) ?_);intro g8 hg8;refine yU 4 ?_;refine Ej.keep (Keeps.d Keeps.r) ?_;have hes:=b8L hinc hall (fun y hy=>by rw[hget]at hy;cases hy;exact⟨hxs,hxe⟩);have hfl:=(a8W (l.take k) (l.drop k) s).trans (congrArg (List.flatMap a2S) hes);refine Ej.perm (H':=gH 9 ((Ke.put l s).flatMap a2S) g8++[]) (.of_eq (by rw[←hfl,List.append_nil];rfl)) ?_;refine Ej.keepR OU (by decide) (by rw[←hfl];exact hg8) (by rw[←hes];simp only[List.length_append,List.length_singleton];omega) (fun I8 hle8 hw8=>?_);refine zV ?_;exact⟨_,rfl,VZ.2 hw8,rfl⟩
  omega
 refine yU 23 ?_;refine J.split 25 rfl (fun hg10=>?_) (fun hg10=>?_)
 ·have hg10p:=ED hg10;have hlt:k<l.length:=by omega
  obtain⟨x,hget⟩:∃x,l[k]?=some x:=⟨_,BM hlt⟩;obtain⟨lb,lo,lcs,lty,lfr,sp,rfl,hlb,hld⟩:=hp (zU hlt);omega
 have hg10p:=FQ hg10;refine yU 18 ?_;have htl:(l.take k).length=k:=by rw[List.length_take];omega
 have hdl:(l.drop k).length=l.length-k:=List.length_drop;refine yU 4 ?_;refine J.z (LJ (k:=k) rfl rfl rfl CG AV rfl (by omega)) ?_;refine J.op rfl (AQ (by':=15) (n:=0) (g:=none) (xs:=[]) [] rfl rfl rfl rfl rfl CG (.inr ⟨_,CG⟩) (by kernel_rfl) AV NP rfl ⟨rfl,rfl⟩ rfl (Src.row OU (zS.take hrow hk) (fun x _=>rfl)) (by omega) ?_);intro g12 hg12;refine yU 8 ?_;intro b13 hb13;refine RD 15 [_] hg12 ?_;intro g14 hg14;refine yU 8 ?_;refine J.z (MI (j:=k) rfl rfl rfl CG AV rfl (by omega) (by omega)) ?_;refine J.op rfl (AQ (by':=15) [_] rfl rfl rfl rfl rfl CG (.inr ⟨_,CG⟩) (by kernel_rfl) AV NP rfl hg14 rfl (Src.row OU (zS.from OU hrow (j:=k) hk) (fun x _=>rfl)) (by omega) ?_);intro g15 hg15;refine yU 4 ?_;refine Ej.keep (Keeps.d Keeps.r) ?_;have hes:=b8L hinc hall (fun y hy=>absurd (List.getElem?_eq_some_iff.1 hy).1 (by omega));have hfl:=(a8W (l.take k) (l.drop k) s).trans (congrArg (List.flatMap a2S) hes);refine Ej.perm (H':=gH 9 ((Ke.put l s).flatMap a2S) g15++[]) (.of_eq (by rw[←hfl,List.append_nil];rfl)) ?_;refine Ej.keepR OU (by decide) (by rw[←hfl];exact hg15) (by rw[←hes];simp only[List.length_append,List.length_singleton];omega) (fun I8 hle8 hw8=>?_);refine zV ?_;exact⟨_,rfl,VZ.2 hw8,rfl⟩
