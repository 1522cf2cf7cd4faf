/- Lean texts of the claim. -/
import Derived.Test.YtpbchbcdgikonaaGreatQ01
import Derived.Deep.RegionHeld3
import Derived.StillTailTactics
namespace Go.Proofs.YtpbchbcdgikonaaGreat
set_option linter.unusedVariables false
set_option linter.unusedSimpArgs false
set_option maxRecDepth 100000
set_option maxHeartbeats 4000000
open Go.RowKit
def O4 (l:List (Int×Int)) (n:Nat):Nat->List (Int×Int)
 | 0=>[]
 | k+1=>if Ul l n k != 0 then O4 l n k++[gt l k] else O4 l n k
def Ge (p q:Int×Int):Bool:=decide (p.1<q.1) || (decide (p.1=q.1)&&decide (p.2<q.2))
def Eo (c:List (Int×Int)):Nat->Nat
 | 0=>0
 | k+1=>if Ge (gt c k) (gt c (Eo c k)) then k else Eo c k
def J7 (l:List (Int×Int)) (n:Nat):List (Int×Int):=if Ma l n n<0 then (O4 l n n).reverse else O4 l n n
def rot (c:List (Int×Int)) (f:Nat):List (Int×Int):=c.drop f++c.take f
def Cm (l:List (Int×Int)) (n:Nat):List (Int×Int):=rot (J7 l n) (Eo (J7 l n) (J7 l n).length)
theorem Ku (l:List (Int×Int)) (n:Nat):∀k,(O4 l n k).length<=k
 | 0=>Nat.le_refl _
 | k+1=>by
   have:=Ku l n k;unfold O4;split
   ·rw[List.length_append];simp;omega
   ·omega
theorem Oi (l:List (Int×Int)) (n:Nat):(J7 l n).length<=n:=by
 unfold J7;split
 ·rw[List.length_reverse];exact Ku l n n
 ·exact Ku l n n
theorem Od (c:List (Int×Int)):∀k,Eo c k<=k
 | 0=>Nat.le_refl _
 | k+1=>by
   have:=Od c k;unfold Eo;split<;>omega
theorem me (c:List (Int×Int)):∀k,0<k->Eo c k<k
 | 0,h=>absurd h (by omega)
 | k+1,_=>by
   have:=Od c k;unfold Eo;split<;>omega
theorem zh {l:List (Int×Int)} {n k:Nat} (h:(Ul l n k != 0)=true):O4 l n k++[gt l k]=O4 l n (k+1):=by
 rw[show O4 l n (k+1)=if Ul l n k != 0 then O4 l n k++[gt l k] else O4 l n k from rfl,if_pos h]
theorem Aer {l:List (Int×Int)} {n k:Nat} (h:(Ul l n k != 0)=false):O4 l n k=O4 l n (k+1):=by
 rw[show O4 l n (k+1)=if Ul l n k != 0 then O4 l n k++[gt l k] else O4 l n k from rfl,if_neg (by rw[h];simp)]
theorem Ady {l:List (Int×Int)} {i k:Nat}:gt (l.drop i) k=gt l (i+k):=by
 unfold gt;simp[List.getD,List.getElem?_drop]
theorem SpS.drop {w:World} {b off n:Nat} {l:List (Int×Int)} (h:SpS w (some ⟨b,off,none⟩) n l) {i:Nat} (hi:i<=n):SpS w (some ⟨b,off+i*2,none⟩) (n-i) (l.drop i):=by
 refine⟨by rw[List.length_drop,h.1],?_⟩
 rcases Nat.eq_zero_or_pos (n-i) with h0|h0
 ·exact .inl h0
 ·refine .inr ⟨b,off+i*2,rfl,fun k hk=>?_⟩
  rw[Ady];have:=h.cells (k:=i+k) (by omega)
  rw[show off+(i+k)*2=off+i*2+k*2 by omega] at this
  exact this
theorem OwS.spsg {w:World} {base g cap n:Nat} {l:List (Int×Int)} (h:OwS w base (.slice (some ⟨g,0,none⟩) n cap) l) (hn:l.length=n):SpS w (some ⟨g,0,none⟩) n l:=by
 subst hn;obtain⟨A,cap',e,_,hs,_⟩:=h.sps;injection e with e1 e2 e3
 subst e1;exact hs
theorem Fc (bx:Nat) (tb:TypeId) (a1 a2:Addr) (n1 n2 c1 c2 cap:Nat) (l1 l2:List (Int×Int)) (w:World) (hB:Bb w bx tb #[.slice (some a1) n1 c1,.slice (some a2) n2 c2]) (hs1:SpS w (some a1) n1 l1) (hs2:SpS w (some a2) n2 l2) (h1:n1<=100000) (h2:n2<=100000) :
 Calls Tryz.prog 125 #[.slice (some ⟨bx,0,none⟩) 2 cap] w (Zk w (l1++l2)) :=
 L4 bx (some a1) (some a2) n1 n2 c1 c2 cap l1 l2 w h1 h2 hs1 hs2 (fun h=>by cases h) (fun h=>by cases h) (hB.cell 0) (hB.cell 1)
theorem Mw {c:List (Int×Int)} {k:Nat} (h:Ge (gt c k) (gt c (Eo c k))=true):k=Eo c (k+1):=by
 rw[show Eo c (k+1)=if Ge (gt c k) (gt c (Eo c k)) then k else Eo c k from rfl,if_pos h]
theorem Rf {c:List (Int×Int)} {k:Nat} (h:Ge (gt c k) (gt c (Eo c k))=false):Eo c k=Eo c (k+1):=by
 rw[show Eo c (k+1)=if Ge (gt c k) (gt c (Eo c k)) then k else Eo c k from rfl,if_neg (by rw[h];simp)]
theorem Mg {a b:Nat} (h:a=b):Value.int .i64 (a:Int)=.int .i64 (b:Int):=by rw[h]
theorem Yb {p q:Int×Int} (h:¬q.1<=p.1):Ge p q=true:=by unfold Ge;simp;omega
theorem Ya {p q:Int×Int} (h:p.1=q.1) (h2:p.2<q.2):Ge p q=true:=by unfold Ge;simp;omega
theorem Yd {p q:Int×Int} (h:q.1<=p.1) (h2:¬p.1=q.1):Ge p q=false:=by unfold Ge;simp;omega
theorem Yc {p q:Int×Int} (h:q.1<=p.1) (h2:q.2<=p.2):Ge p q=false:=by unfold Ge;simp;omega
theorem ke (b off cap n:Nat) (l:List (Int×Int)) (w:World) (hl:n<=1000) (hcap:n<=cap) (hs:SpS w (some ⟨b,off,none⟩) n l) (hc:Bf l n=0) :
 Calls Tryz.prog 86 #[.slice (some ⟨b,off,none⟩) n cap] w fun e w'=>∃v,e=.returned (.tuple #[v,.int .i64 0])/\OwS w' w.heap.size v (Cm l n)/\Below w.heap.size w w':=by
 have HC:=Lib.hid hc;have q:(Bf l n != 0)=false:=by rw[hc];rfl
 clear hc;go_enter Tryz.func86,Tryz.ntmps86
 go_wp2_with (go_at_call 33;refine(Cz _ _ _ l _ (by omega) hcap hs).mono ?_;rintro e w1 ⟨rfl,hb1⟩)
 go_loopw [5,19] (fun s i wr=>∃k:Nat,k<=n/\i=.int .i64 k/\OwS wr w.heap.size s (O4 l n k)/\Below w.heap.size w wr) (fun _ i _=>n-(intOf i).toNat)
 case atStart=>exact⟨0,Nat.zero_le _,rfl,OwG.nil,hb1⟩
 case round =>
  clear hb1;obtain⟨k,hk,rfl,ho,hb⟩:=hrel;by_cases hlt:k<n
  ·obtain⟨h1,h2⟩:=(hs.keep hb).cells hlt
   have hlen:=Ku l n k;by_cases hbe:(Ul l n k != 0)=true
   ·go_wp2_with (first|(go_at_call 123;refine(Y6 _ _ _ _ k l _ (by omega) hcap (hs.keep (An hb _)) hlt).mono ?_;rintro e w2 ⟨rfl,hb2⟩;have hB:=(Bb.new wr 49 #[.int .i64 (gt l k).1,.int .i64 (gt l k).2]).keep hb2;have c0:=hB.cell 0;have c1:=hB.cell 1;simp only[List.getElem?_toArray,List.getElem?_cons_zero,List.getElem?_cons_succ] at c0 c1)|(at_builtin;refine Ec rfl _ _ rfl w.heap.size _ (O4 l n k) rfl (((ho.alloc _).keep hb2).alloc _) w2.heap.size 1 (gt l k) 49 rfl (Bb.new _ _ _) (by omega) (Nat.le_trans (An (Ao (An hb _) hb2) _).size (Nat.le_refl _)) ?_;intro v' w' ho' hg' hat'))
    exact⟨⟨k+1,by omega,by go_num,by rw[<-zh hbe];exact ho',Bm (An (Ao (An hb _) hb2) _) (((ho.alloc _).keep hb2).alloc _) hg'⟩,by simp[intOf];omega⟩
   ·have hbe':(Ul l n k != 0)=false:=by simpa using hbe
    clear hbe
    go_wp2_with (go_at_call 123;refine(Y6 _ _ _ _ k l _ (by omega) hcap (hs.keep (An hb _)) hlt).mono ?_;rintro e w2 ⟨rfl,hb2⟩)
    exact⟨⟨k+1,by omega,by go_num,by rw[<-Aer hbe'];exact(ho.alloc _).keep hb2,Ao (An hb _) hb2⟩,by simp[intOf];omega⟩
  ·obtain rfl:n=k:=by omega
   by_cases ha:Ma l n n<0
   ·have e1:J7 l n=(O4 l n n).reverse:=by unfold J7;rw[if_pos ha]
    go_upto_region 13 with (first|(go_at_call 94;refine(Ru _ _ _ l _ (by omega) hcap (hs.keep hb)).mono ?_;rintro e w2 ⟨rfl,hb2⟩)|(go_at_call 124;refine(Nj _ w.heap.size (O4 l n n) _ (by have:=Ku l n n;omega) (ho.keep hb2)).mono ?_;rintro e w3 ⟨rfl,ho3,hg3⟩))
    have hoR:OwS w3 w.heap.size u5 (J7 l n):=by rw[e1];exact ho3
    have hbR:Below w.heap.size w w3:=Bm (Ao hb hb2) (ho.keep hb2) hg3;clear e1 ho hb hb2 ho3 hg3;obtain⟨WW,rfl⟩:∃WW:World,WW=w3:=⟨_,rfl⟩
    rcases OwG.form hoR with ⟨rfl,hcn⟩|⟨g,cp,rfl,-,-,hcp,-⟩
    ·have hno:Cm l n=[]:=by unfold Cm;rw[hcn];rfl
     have HNO:=Lib.hid hno;clear hno hcn hoR;go_wp2_with fail;go_loopw [8,40] (fun s i wr=>i=.int .i64 0/\s=.int .i64 0/\wr=WW) (fun _ _ _=>0)
     case atStart=>exact⟨rfl,rfl,rfl⟩
     case round =>
      obtain⟨rfl,rfl,rfl⟩:=hrel;go_wp2_with fail
      go_region_with (go_at_call 125;refine(L4 _ none none 0 0 0 0 _ [] [] _ (by omega) (by omega) ⟨rfl,.inl rfl⟩ ⟨rfl,.inl rfl⟩ (fun _=>rfl) (fun _=>rfl) (by simp) (by simp)).mono ?_;rintro e w4 ⟨v4,rfl,ho4,hb4⟩)
      go_wp2_with fail
      go_ret2
      exact⟨v4,rfl,by rw[HNO.out];exact OwG.lower ho4 (Nat.le_trans hbR.size (by simp)),Ao (Aw (An hbR _)) hb4⟩
    ·have hsp:=hoR.spsg rfl
     have hlen:=Oi l n;obtain⟨c,hcdef⟩:∃c,c=J7 l n:=⟨_,rfl⟩
     rw[<-hcdef] at hcp hsp hlen ⊢;have HCD:=Lib.hid hcdef;clear hcdef;obtain⟨m,hm⟩:∃m,c.length=m:=⟨_,rfl⟩
     rw[hm] at hcp hsp hlen ⊢;have HM:=Lib.hid hm;clear hm hoR;go_wp2_with fail;go_loopw [8,40] (fun s i wr=>∃k:Nat,k<=m/\i=.int .i64 k/\s=.int .i64 (Eo c k)/\Below WW.heap.size WW wr) (fun _ i _=>m-(intOf i).toNat)
     case atStart=>exact⟨0,Nat.zero_le _,rfl,rfl,Below.refl _ _⟩
     case round =>
      obtain⟨k,hk,rfl,rfl,hbk⟩:=hrel;by_cases hlt:k<m
      ·have hf:Eo c k<m:=by have:=Od c k;omega
       obtain⟨h1,h2⟩:=(hsp.keep hbk).cells hlt;obtain⟨h3,h4⟩:=(hsp.keep hbk).cells hf;have hbl:g<wr.heap.size:=Bj h1;simp only[Nat.zero_add] at h1 h2 h3 h4;go_wp2_with fail
       ·exact⟨⟨k+1,by omega,by go_num,Mg (Mw (Ya ‹_› ‹_›)),An (An hbk _) _⟩,by simp[intOf];omega⟩
       ·exact⟨⟨k+1,by omega,by go_num,Mg (Rf (Yc ‹(gt c (Eo c k)).fst<=(gt c k).fst› ‹(gt c (Eo c k)).snd<=(gt c k).snd›)),An (An hbk _) _⟩,by simp[intOf];omega⟩
       ·exact⟨⟨k+1,by omega,by go_num,Mg (Rf (Yd ‹(gt c (Eo c k)).fst<=(gt c k).fst› ‹¬(gt c k).fst=(gt c (Eo c k)).fst›)),An (An hbk _) _⟩,by simp[intOf];omega⟩
       ·exact⟨⟨k+1,by omega,by go_num,Mg (Mw (Yb ‹_›)),An (An hbk _) _⟩,by simp[intOf];omega⟩
      ·obtain rfl:m=k:=by omega
       have hno:Cm l n=rot c (Eo c m):=by unfold Cm;rw[<-HCD.out,HM.out]
       have HNO:=Lib.hid hno;clear hno;by_cases hm0:0<m
       ·have hf:=me c m hm0
        have hf1:(Eo c m:Int)<=(cp:Int):=by omega
        have hf2:(Eo c m:Int)<=(m:Int):=by omega
        have hf3:¬cp=Eo c m:=by omega
        have hf4:(m:Int)<=(cp:Int):=by omega
        have hspd:SpS WW (some ⟨g,Eo c m*2,none⟩) (m-Eo c m) (c.drop (Eo c m)):=by simpa using hsp.drop (i:=Eo c m) (by omega)
        have hspt:=hsp.take (i:=Eo c m) (by omega)
        have hq1:m-Eo c m<=100000:=by omega
        have hq2:Eo c m<=100000:=by omega
        go_wp2_with fail
        go_region_with (go_at_call 125;refine(Fc _ _ _ _ _ _ _ _ _ (c.drop (Eo c m)) (c.take (Eo c m)) _ (Bb.drew (Bb.new _ _ _)) (hspd.keep (Aw (An hbk _))) (hspt.keep (Aw (An hbk _))) hq1 hq2).mono ?_;rintro e w4 ⟨v4,rfl,ho4,hb4⟩)
        go_wp2_with fail
        go_ret2
        exact⟨v4,rfl,by rw[HNO.out];exact OwG.lower ho4 (Nat.le_trans (Ao hbR hbk).size (by simp)),Ao (Aw (An (Ao hbR hbk) _)) hb4⟩
       ·obtain rfl:m=0:=by omega
        have hc0:c=[]:=List.eq_nil_of_length_eq_zero HM.out;have f0:Eo c 0=0:=rfl;have hno2:Cm l n=[]:=by rw[HNO.out,hc0];rfl
        have HNO2:=Lib.hid hno2;clear hno2 HNO hc0;have z1:SpS WW (some ⟨g,0,none⟩) 0 []:=⟨rfl,.inl rfl⟩;by_cases hcp0:cp=0
        ·subst hcp0
         go_wp2_with fail
         go_region_with (go_at_call 125;refine(Fc _ _ _ _ _ _ _ _ _ [] [] _ (Bb.drew (Bb.new _ _ _)) (z1.keep (Aw (An hbk _))) (z1.keep (Aw (An hbk _))) (Nat.zero_le _) (Nat.zero_le _)).mono ?_;rintro e w4 ⟨v4,rfl,ho4,hb4⟩)
         go_wp2_with fail
         go_ret2
         exact⟨v4,rfl,by rw[HNO2.out];exact OwG.lower ho4 (Nat.le_trans (Ao hbR hbk).size (by simp)),Ao (Aw (An (Ao hbR hbk) _)) hb4⟩
        ·go_wp2_with fail
         go_region_with (go_at_call 125;refine(Fc _ _ _ _ _ _ _ _ _ [] [] _ (Bb.drew (Bb.new _ _ _)) (z1.keep (Aw (An hbk _))) (z1.keep (Aw (An hbk _))) (Nat.zero_le _) (Nat.zero_le _)).mono ?_;rintro e w4 ⟨v4,rfl,ho4,hb4⟩)
         go_wp2_with fail
         go_ret2
         exact⟨v4,rfl,by rw[HNO2.out];exact OwG.lower ho4 (Nat.le_trans (Ao hbR hbk).size (by simp)),Ao (Aw (An (Ao hbR hbk) _)) hb4⟩
   ·have e1:J7 l n=O4 l n n:=by unfold J7;rw[if_neg ha]
    go_upto_region 13 with (go_at_call 94;refine(Ru _ _ _ l _ (by omega) hcap (hs.keep hb)).mono ?_;rintro e w2 ⟨rfl,hb2⟩)
    have hoR:OwS w2 w.heap.size u5 (J7 l n):=by rw[e1];exact ho.keep hb2
    have hbR:Below w.heap.size w w2:=Ao hb hb2;clear e1 ho hb hb2;obtain⟨WW,rfl⟩:∃WW:World,WW=w2:=⟨_,rfl⟩
    rcases OwG.form hoR with ⟨rfl,hcn⟩|⟨g,cp,rfl,-,-,hcp,-⟩
    ·have hno:Cm l n=[]:=by unfold Cm;rw[hcn];rfl
     have HNO:=Lib.hid hno;clear hno hcn hoR;go_wp2_with fail;go_loopw [8,40] (fun s i wr=>i=.int .i64 0/\s=.int .i64 0/\wr=WW) (fun _ _ _=>0)
     case atStart=>exact⟨rfl,rfl,rfl⟩
     case round =>
      obtain⟨rfl,rfl,rfl⟩:=hrel;go_wp2_with fail
      go_region_with (go_at_call 125;refine(L4 _ none none 0 0 0 0 _ [] [] _ (by omega) (by omega) ⟨rfl,.inl rfl⟩ ⟨rfl,.inl rfl⟩ (fun _=>rfl) (fun _=>rfl) (by simp) (by simp)).mono ?_;rintro e w4 ⟨v4,rfl,ho4,hb4⟩)
      go_wp2_with fail
      go_ret2
      exact⟨v4,rfl,by rw[HNO.out];exact OwG.lower ho4 (Nat.le_trans hbR.size (by simp)),Ao (Aw (An hbR _)) hb4⟩
    ·have hsp:=hoR.spsg rfl
     have hlen:=Oi l n;obtain⟨c,hcdef⟩:∃c,c=J7 l n:=⟨_,rfl⟩
     rw[<-hcdef] at hcp hsp hlen ⊢;have HCD:=Lib.hid hcdef;clear hcdef;obtain⟨m,hm⟩:∃m,c.length=m:=⟨_,rfl⟩
     rw[hm] at hcp hsp hlen ⊢;have HM:=Lib.hid hm;clear hm hoR;go_wp2_with fail;go_loopw [8,40] (fun s i wr=>∃k:Nat,k<=m/\i=.int .i64 k/\s=.int .i64 (Eo c k)/\Below WW.heap.size WW wr) (fun _ i _=>m-(intOf i).toNat)
     case atStart=>exact⟨0,Nat.zero_le _,rfl,rfl,Below.refl _ _⟩
     case round =>
      obtain⟨k,hk,rfl,rfl,hbk⟩:=hrel;by_cases hlt:k<m
      ·have hf:Eo c k<m:=by have:=Od c k;omega
       obtain⟨h1,h2⟩:=(hsp.keep hbk).cells hlt;obtain⟨h3,h4⟩:=(hsp.keep hbk).cells hf;have hbl:g<wr.heap.size:=Bj h1;simp only[Nat.zero_add] at h1 h2 h3 h4;go_wp2_with fail
       ·exact⟨⟨k+1,by omega,by go_num,Mg (Mw (Ya ‹_› ‹_›)),An (An hbk _) _⟩,by simp[intOf];omega⟩
       ·exact⟨⟨k+1,by omega,by go_num,Mg (Rf (Yc ‹(gt c (Eo c k)).fst<=(gt c k).fst› ‹(gt c (Eo c k)).snd<=(gt c k).snd›)),An (An hbk _) _⟩,by simp[intOf];omega⟩
       ·exact⟨⟨k+1,by omega,by go_num,Mg (Rf (Yd ‹(gt c (Eo c k)).fst<=(gt c k).fst› ‹¬(gt c k).fst=(gt c (Eo c k)).fst›)),An (An hbk _) _⟩,by simp[intOf];omega⟩
       ·exact⟨⟨k+1,by omega,by go_num,Mg (Mw (Yb ‹_›)),An (An hbk _) _⟩,by simp[intOf];omega⟩
      ·obtain rfl:m=k:=by omega
       have hno:Cm l n=rot c (Eo c m):=by unfold Cm;rw[<-HCD.out,HM.out]
       have HNO:=Lib.hid hno;clear hno;by_cases hm0:0<m
       ·have hf:=me c m hm0
        have hf1:(Eo c m:Int)<=(cp:Int):=by omega
        have hf2:(Eo c m:Int)<=(m:Int):=by omega
        have hf3:¬cp=Eo c m:=by omega
        have hf4:(m:Int)<=(cp:Int):=by omega
        have hspd:SpS WW (some ⟨g,Eo c m*2,none⟩) (m-Eo c m) (c.drop (Eo c m)):=by simpa using hsp.drop (i:=Eo c m) (by omega)
        have hspt:=hsp.take (i:=Eo c m) (by omega)
        have hq1:m-Eo c m<=100000:=by omega
        have hq2:Eo c m<=100000:=by omega
        go_wp2_with fail
        go_region_with (go_at_call 125;refine(Fc _ _ _ _ _ _ _ _ _ (c.drop (Eo c m)) (c.take (Eo c m)) _ (Bb.drew (Bb.new _ _ _)) (hspd.keep (Aw (An hbk _))) (hspt.keep (Aw (An hbk _))) hq1 hq2).mono ?_;rintro e w4 ⟨v4,rfl,ho4,hb4⟩)
        go_wp2_with fail
        go_ret2
        exact⟨v4,rfl,by rw[HNO.out];exact OwG.lower ho4 (Nat.le_trans (Ao hbR hbk).size (by simp)),Ao (Aw (An (Ao hbR hbk) _)) hb4⟩
       ·obtain rfl:m=0:=by omega
        have hc0:c=[]:=List.eq_nil_of_length_eq_zero HM.out;have f0:Eo c 0=0:=rfl;have hno2:Cm l n=[]:=by rw[HNO.out,hc0];rfl
        have HNO2:=Lib.hid hno2;clear hno2 HNO hc0;have z1:SpS WW (some ⟨g,0,none⟩) 0 []:=⟨rfl,.inl rfl⟩;by_cases hcp0:cp=0
        ·subst hcp0
         go_wp2_with fail
         go_region_with (go_at_call 125;refine(Fc _ _ _ _ _ _ _ _ _ [] [] _ (Bb.drew (Bb.new _ _ _)) (z1.keep (Aw (An hbk _))) (z1.keep (Aw (An hbk _))) (Nat.zero_le _) (Nat.zero_le _)).mono ?_;rintro e w4 ⟨v4,rfl,ho4,hb4⟩)
         go_wp2_with fail
         go_ret2
         exact⟨v4,rfl,by rw[HNO2.out];exact OwG.lower ho4 (Nat.le_trans (Ao hbR hbk).size (by simp)),Ao (Aw (An (Ao hbR hbk) _)) hb4⟩
        ·go_wp2_with fail
         go_region_with (go_at_call 125;refine(Fc _ _ _ _ _ _ _ _ _ [] [] _ (Bb.drew (Bb.new _ _ _)) (z1.keep (Aw (An hbk _))) (z1.keep (Aw (An hbk _))) (Nat.zero_le _) (Nat.zero_le _)).mono ?_;rintro e w4 ⟨v4,rfl,ho4,hb4⟩)
         go_wp2_with fail
         go_ret2
         exact⟨v4,rfl,by rw[HNO2.out];exact OwG.lower ho4 (Nat.le_trans (Ao hbR hbk).size (by simp)),Ao (Aw (An (Ao hbR hbk) _)) hb4⟩
theorem Eg (ax ay bx bY cx cy:Int) (w:World) :
 Calls Tryz.prog 89 #[.agg #[.int .i64 ax,.int .i64 ay],.agg #[.int .i64 bx,.int .i64 bY],.agg #[.int .i64 cx,.int .i64 cy]] w fun e w'=>e=.returned (.int .i64 (Bo (ax,ay) (bx,bY) (cx,cy)))/\Below w.heap.size w w':=by
 go_enter Tryz.func89,Tryz.ntmps89;go_wp2;go_ret;exact⟨rfl,An (An (An (Below.refl _ _) _) _) _⟩
theorem L8 (ax ay bx bY cx cy:Int) (w:World) :
 Calls Tryz.prog 255 #[.agg #[.int .i64 ax,.int .i64 ay],.agg #[.int .i64 bx,.int .i64 bY],.agg #[.int .i64 cx,.int .i64 cy]] w fun e w'=>e=.returned (.int .i64 (Bo (ax,ay) (bx,bY) (cx,cy)))/\Below w.heap.size w w':=by
 go_enter Tryz.func255,Tryz.ntmps255;go_wp2;go_ret;exact⟨rfl,An (An (An (Below.refl _ _) _) _) _⟩
theorem ug (ax ay:Int) (w:World) :
 Calls Tryz.prog 126 #[.agg #[.int .i64 ax,.int .i64 ay]] w fun e w'=>e=.returned (.bool (Ce 1048576 (ax,ay)))/\Below w.heap.size w w':=by
 go_enter Tryz.func126,Tryz.ntmps126;go_wp2;all_goals go_ret
 all_goals exact⟨Bn (by simp[Ce]<;>omega),An (Below.refl _ _) _⟩
theorem zg (ax ay:Int) (w:World) :
 Calls Tryz.prog 239 #[.agg #[.int .i64 ax,.int .i64 ay]] w fun e w'=>e=.returned (.bool (Ce 4194304 (ax,ay)))/\Below w.heap.size w w':=by
 go_enter Tryz.func239,Tryz.ntmps239;go_wp2;all_goals go_ret
 all_goals exact⟨Bn (by simp[Ce]<;>omega),An (Below.refl _ _) _⟩
theorem Gl (ax ay:Int) (w:World) :
 Calls Tryz.prog 156 #[.agg #[.int .i64 ax,.int .i64 ay]] w fun e w'=>e=.returned (.bool (Ce 1048576 (ax,ay)))/\Below w.heap.size w w':=by
 go_enter Tryz.func156,Tryz.ntmps156;go_wp2;all_goals go_ret
 all_goals exact⟨Bn (by simp[Ce]<;>omega),An (Below.refl _ _) _⟩
theorem Dp (ax ay:Int) (w:World) :
 Calls Tryz.prog 47 #[.agg #[.int .i64 ax,.int .i64 ay]] w fun e w'=>e=.returned (.bool (Ce 1048576 (ax,ay)))/\Below w.heap.size w w':=by
 go_enter Tryz.func47,Tryz.ntmps47;go_wp2;all_goals go_ret
 all_goals exact⟨Bn (by simp[Ce]<;>omega),An (Below.refl _ _) _⟩
def Abj (x y z:Int):Int:=if z<(if y<x then y else x) then z else if y<x then y else x
def vj (m:Int):Int:=if 0<m then 1 else if m=0 then 0 else -1
def Hh (a b c q:Int×Int):Int :=
 if Ce 1048576 q || Ce 1048576 a || Ce 1048576 b || Ce 1048576 c then -1
 else if Bo a b c=0 then -1
 else if Bo a b c<0 then vj (Abj (Bo a c q) (Bo c b q) (Bo b a q))
 else vj (Abj (Bo a b q) (Bo b c q) (Bo c a q))
theorem Bb.new3 (w:World) (o o':Obj) (t:TypeId) (cs:Array Value):Bb (((w.alloc o).alloc o').alloc (.cells cs t)) (w.heap.size+1+1) t cs:=by
 have h:=Bb.new ((w.alloc o).alloc o') t cs;simpa using h
theorem Al8 {w:World} {p q:Addr} {u v:Value} (h1:w.cell? p=some u) (h2:w.cell? q=some v):∀x∈[(p,u),(q,v)],w.cell? x.1=some x.2:=by
 intro x hx;simp at hx;rcases hx with rfl|rfl
 ·exact h1
 ·exact h2
theorem Vt {a b c q:Int×Int} (h:(Ce 1048576 q || Ce 1048576 a || Ce 1048576 b || Ce 1048576 c)=false) (h2:Bo a b c=0):Hh a b c q = -1:=by
 unfold Hh;rw[if_neg (by rw[h];simp),if_pos h2]
theorem db {a b c q:Int×Int} (h:(Ce 1048576 q || Ce 1048576 a || Ce 1048576 b || Ce 1048576 c)=false) (h2:¬Bo a b c=0) (h3:Bo a b c<0):Hh a b c q=vj (Abj (Bo a c q) (Bo c b q) (Bo b a q)):=by
 unfold Hh;rw[if_neg (by rw[h];simp),if_neg h2,if_pos h3]
theorem da {a b c q:Int×Int} (h:(Ce 1048576 q || Ce 1048576 a || Ce 1048576 b || Ce 1048576 c)=false) (h2:¬Bo a b c=0) (h3:¬Bo a b c<0):Hh a b c q=vj (Abj (Bo a b q) (Bo b c q) (Bo c a q)):=by
 unfold Hh;rw[if_neg (by rw[h];simp),if_neg h2,if_neg h3]
theorem Af6 {v m M:Int} (h:v=vj m) (hM:M=m) (h0:0<M):1=v:=by
 subst hM;rw[h];unfold vj;rw[if_pos h0]
theorem Af7 {v m M:Int} (h:v=vj m) (hM:M=m) (h0:(M == 0)=true):0=v:=by
 subst hM;have h1:M=0:=by simpa using h0
 rw[h,h1];rfl
theorem Af5 {v m M:Int} (h:v=vj m) (hM:M=m) (h0:M<=0) (h1:(M == 0)=false) : -1=v:=by
 subst hM;have h2:¬M=0:=by simpa using h1
 rw[h];unfold vj;rw[if_neg (by omega),if_neg h2]
theorem cq {a b c q:Int×Int} (h1:Ce 1048576 q=false) (h2:Ce 1048576 a=false) (h3:Ce 1048576 b=false) (h4:Ce 1048576 c=false):(Ce 1048576 q || Ce 1048576 a || Ce 1048576 b || Ce 1048576 c)=false:=by
 rw[h1,h2,h3,h4];rfl
theorem Je {a b c q:Int×Int} (h:(Ce 1048576 q || Ce 1048576 a || Ce 1048576 b || Ce 1048576 c)=true):Hh a b c q = -1:=by
 unfold Hh;rw[if_pos h]
theorem l9 (b off cap:Nat) (l:List (Int×Int)) (x y:Int) (w:World) (hcap:3<=cap) (hs:SpS w (some ⟨b,off,none⟩) 3 l) :
 Calls Tryz.prog 91 #[.slice (some ⟨b,off,none⟩) 3 cap,.agg #[.int .i64 x,.int .i64 y]] w fun e w'=>e=.returned (.int .i64 (Hh (gt l 0) (gt l 1) (gt l 2) (x,y)))/\Below w.heap.size w w':=by
 obtain⟨p0,p1⟩:=hs.cells (k:=0) (by omega)
 obtain⟨p2,p3⟩:=hs.cells (k:=1) (by omega)
 obtain⟨p4,p5⟩:=hs.cells (k:=2) (by omega)
 simp only[Nat.zero_mul,Nat.add_zero,Nat.one_mul,Nat.reduceMul] at p0 p1 p2 p3 p4 p5;generalize gt l 0=P0 at *
 generalize gt l 1=P1 at *
 generalize gt l 2=P2 at *
 obtain⟨a0,a1⟩:=P0;obtain⟨b0,b1⟩:=P1;obtain⟨c0,c1⟩:=P2;have hbw:b<w.heap.size:=Bj p0;clear hs;go_enter Tryz.func91,Tryz.ntmps91
 go_upto_region 3 with (go_at_call 126;refine(ug _ _ _).mono ?_;rintro e w1 ⟨rfl,hb⟩;(first|(have hC:=Cls.call hC hb)|(have hC:Cls w [(⟨w.heap.size,0,none⟩,.int .i64 x),(⟨w.heap.size,1,none⟩,.int .i64 y),(⟨b,off,none⟩,.int .i64 a0),(⟨b,off+1,none⟩,.int .i64 a1),(⟨b,off+2,none⟩,.int .i64 b0),(⟨b,off+2+1,none⟩,.int .i64 b1),(⟨b,off+4,none⟩,.int .i64 c0),(⟨b,off+4+1,none⟩,.int .i64 c1)] w1:=Cls.call ⟨(An (Below.refl _ _) _),by simp only[List.mem_cons,List.not_mem_nil,forall_eq_or_imp,or_false,forall_eq];go_simp⟩ hb));clear hb;have hx:=hC.2;simp only[List.mem_cons,List.not_mem_nil,forall_eq_or_imp,or_false,forall_eq] at hx)
 ·go_ret
  exact⟨Bh (Je (by simp[*])).symm,hC.1⟩
 ·go_ret
  exact⟨Bh (Je (by simp[*])).symm,hC.1⟩
 ·go_ret
  exact⟨Bh (Je (by simp[*])).symm,hC.1⟩
 ·go_ret
  exact⟨Bh (Je (by simp[*])).symm,hC.1⟩
 ·have HO:=Lib.hid (cq (by simpa using ‹¬Ce 1048576 (x,y)=true›) (by simpa using ‹¬Ce 1048576 (a0,a1)=true›) (by simpa using ‹¬Ce 1048576 (b0,b1)=true›) ‹Ce 1048576 (c0,c1)=false›)
  clear p0 p1 p2 p3 p4 p5;have l0:w.heap.size<w1.heap.size:=Bj hx.1;have l1:b<w1.heap.size:=Nat.lt_of_lt_of_le hbw hC.1.size;have l2:b<w1.heap.size+1:=by omega
  have l3:b<w1.heap.size+1+1:=by omega
  obtain⟨x0,x1,y0,y1,y2,y3,y4,y5⟩:=hx;go_cut [5,6,7] (fun s5 s6 s7 wx=>∃b5 b6 b7:Nat,s5=.pointer (some ⟨b5,0,none⟩)/\s6=.pointer (some ⟨b6,0,none⟩)/\s7=.pointer (some ⟨b7,0,none⟩)/\b5≠b6/\b5≠b7/\b6≠b7/\w.heap.size<b5/\w.heap.size<b6/\w.heap.size<b7/\Bb wx b5 49 #[.int .i64 a0,.int .i64 a1]/\Bb wx b6 49 #[.int .i64 b0,.int .i64 b1]/\Bb wx b7 49 #[.int .i64 c0,.int .i64 c1]/\Cls w [(⟨w.heap.size,0,none⟩,.int .i64 x),(⟨w.heap.size,1,none⟩,.int .i64 y)] wx)
  case first =>
   go_region
   all_goals go_wp2_with fail
   all_goals go_meet
   all_goals exact⟨_,_,_,rfl,rfl,rfl,by omega,by omega,by omega,by omega,by omega,by omega,by first|exact(((Bb.new _ _ _).alloc _).alloc _).drew|exact((Bb.new2 _ _ _ _).alloc _).drew|exact(Bb.new3 _ _ _ _ _).drew,by first|exact(((Bb.new _ _ _).alloc _).alloc _).drew|exact((Bb.new2 _ _ _ _).alloc _).drew|exact(Bb.new3 _ _ _ _ _).drew,by first|exact(((Bb.new _ _ _).alloc _).alloc _).drew|exact((Bb.new2 _ _ _ _).alloc _).drew|exact(Bb.new3 _ _ _ _ _).drew,Cls.call ⟨hC.1,Al8 x0 x1⟩ (Aw (An (An (An (Below.refl _ _) _) _) _))⟩
  case rest =>
   clear x0 x1 y0 y1 y2 y3 y4 y5 l0 l1 l2 l3 hC;obtain⟨b5,b6,b7,rfl,rfl,rfl,n56,n57,n67,g5,g6,g7,hB5,hB6,hB7,hC⟩:=hcut;have c50:=hB5.cell 0;have c51:=hB5.cell 1;have c60:=hB6.cell 0;have c61:=hB6.cell 1;have c70:=hB7.cell 0;have c71:=hB7.cell 1;simp only[List.getElem?_toArray,List.getElem?_cons_zero,List.getElem?_cons_succ] at c50 c51 c60 c61 c70 c71;by_cases ht0:Bo (a0,a1) (b0,b1) (c0,c1)=0
   ·have hv:=Lib.hid (Vt (q:=(x,y)) HO.out ht0)
    have q1:(Bo (a0,a1) (b0,b1) (c0,c1) == 0)=true:=by rw[ht0];rfl
    clear ht0
    go_wp2_with (go_at_call 89;refine(Eg _ _ _ _ _ _ _).mono ?_;rintro e w2 ⟨rfl,hb2⟩)
    go_ret;exact⟨Bh hv.out.symm,Ao hC.1 hb2⟩
   ·have q1:(Bo (a0,a1) (b0,b1) (c0,c1) == 0)=false:=by rw[beq_eq_false_iff_ne];exact ht0
    by_cases htn:Bo (a0,a1) (b0,b1) (c0,c1)<0
    ·have hv:=Lib.hid (db (q:=(x,y)) HO.out ht0 htn)
     clear ht0
     go_upto_region 9 with (go_at_call 89;refine(Eg _ _ _ _ _ _ _).mono ?_;rintro e w2 ⟨rfl,hb2⟩;have d6:=hB6.keep hb2;have d7:=hB7.keep hb2;have e60:=Aq hb2 c60;have e61:=Aq hb2 c61;have e70:=Aq hb2 c70;have e71:=Aq hb2 c71;have f60:=d6.frozen 0;have f61:=d6.frozen 1;have f70:=d7.frozen 0;have f71:=d7.frozen 1)
     have hC2:=(hC.call hb2);have hx2:=hC2.2;simp only[List.mem_cons,List.not_mem_nil,forall_eq_or_imp,or_false,forall_eq] at hx2;have e50:=Aq hb2 c50;have e51:=Aq hb2 c51;refine Bi w [(⟨w.heap.size,0,none⟩,.int .i64 x),(⟨w.heap.size,1,none⟩,.int .i64 y),(⟨b5,0,none⟩,.int .i64 a0),(⟨b5,1,none⟩,.int .i64 a1),(⟨b6,0,none⟩,.int .i64 c0),(⟨b6,1,none⟩,.int .i64 c1),(⟨b7,0,none⟩,.int .i64 b0),(⟨b7,1,none⟩,.int .i64 b1)] (by kernel_rfl) (by kernel_rfl) ⟨Bc (Bc (Bc (Bc hC2.1 (p:=⟨b6,0,none⟩) (Nat.le_of_lt g6) _) (p:=⟨b6,1,none⟩) (Nat.le_of_lt g6) _) (p:=⟨b7,0,none⟩) (Nat.le_of_lt g7) _) (p:=⟨b7,1,none⟩) (Nat.le_of_lt g7) _,by simp only[List.mem_cons,List.not_mem_nil,forall_eq_or_imp,or_false,forall_eq];go_simp⟩ ?_
     repeat
      apply Cv
      ·rfl
      ·intro w1 hw1
       have hx:=hw1.2;simp only[List.mem_cons,List.not_mem_nil,forall_eq_or_imp,or_false,forall_eq] at hx
       go_simp
       first|rfl|exact Cg hw1 (Eg _ _ _ _ _ _ _)
      go_simp
     refine wpQuiet_nil ?_;intro w1 hCw1;have hb3:=hCw1.1;clear hCw1 hx2 e50 e51 hC2;obtain⟨M,hM⟩:∃M,M=Abj (Bo (a0,a1) (c0,c1) (x,y)) (Bo (c0,c1) (b0,b1) (x,y)) (Bo (b0,b1) (a0,a1) (x,y)):=⟨_,rfl⟩
     have HM:=Lib.hid hM;unfold Abj at hM;rw[<-hM];clear hM;go_wp2_with fail
     ·go_ret
      exact⟨Bh (Af6 hv.out HM.out (by assumption)),hb3⟩
     ·go_ret
      exact⟨Bh (Af7 hv.out HM.out (by assumption)),hb3⟩
     ·go_ret
      exact⟨Bh (Af5 hv.out HM.out (by assumption) (by assumption)),hb3⟩
    ·have hv:=Lib.hid (da (q:=(x,y)) HO.out ht0 htn)
     clear ht0
     go_upto_region 9 with (go_at_call 89;refine(Eg _ _ _ _ _ _ _).mono ?_;rintro e w2 ⟨rfl,hb2⟩)
     have hC2:=hC.call hb2;have hx2:=hC2.2;simp only[List.mem_cons,List.not_mem_nil,forall_eq_or_imp,or_false,forall_eq] at hx2;have e50:=Aq hb2 c50;have e51:=Aq hb2 c51;have e60:=Aq hb2 c60;have e61:=Aq hb2 c61;have e70:=Aq hb2 c70;have e71:=Aq hb2 c71;refine Bi w [(⟨w.heap.size,0,none⟩,.int .i64 x),(⟨w.heap.size,1,none⟩,.int .i64 y),(⟨b5,0,none⟩,.int .i64 a0),(⟨b5,1,none⟩,.int .i64 a1),(⟨b6,0,none⟩,.int .i64 b0),(⟨b6,1,none⟩,.int .i64 b1),(⟨b7,0,none⟩,.int .i64 c0),(⟨b7,1,none⟩,.int .i64 c1)] (by kernel_rfl) (by kernel_rfl) ⟨hC2.1,by simp only[List.mem_cons,List.not_mem_nil,forall_eq_or_imp,or_false,forall_eq];go_simp⟩ ?_
     repeat
      apply Cv
      ·rfl
      ·intro w1 hw1
       have hx:=hw1.2;simp only[List.mem_cons,List.not_mem_nil,forall_eq_or_imp,or_false,forall_eq] at hx
       go_simp
       first|rfl|exact Cg hw1 (Eg _ _ _ _ _ _ _)
      go_simp
     refine wpQuiet_nil ?_;intro w1 hCw1;have hb3:=hCw1.1;clear hCw1 hx2 e50 e51 e60 e61 e70 e71 hC2;obtain⟨M,hM⟩:∃M,M=Abj (Bo (a0,a1) (b0,b1) (x,y)) (Bo (b0,b1) (c0,c1) (x,y)) (Bo (c0,c1) (a0,a1) (x,y)):=⟨_,rfl⟩
     have HM:=Lib.hid hM;unfold Abj at hM;rw[<-hM];clear hM;go_wp2_with fail
     ·go_ret
      exact⟨Bh (Af6 hv.out HM.out (by assumption)),hb3⟩
     ·go_ret
      exact⟨Bh (Af7 hv.out HM.out (by assumption)),hb3⟩
     ·go_ret
      exact⟨Bh (Af5 hv.out HM.out (by assumption) (by assumption)),hb3⟩
theorem Lz (bl g n cap k:Nat) (l:List (Int×Int)) (w:World) (hn:n<=1000000) (hcap:n<=cap) (hL:w.cell? ⟨bl,0,none⟩=some (.slice (some ⟨g,0,none⟩) n cap)) (hs:SpS w (some ⟨g,0,none⟩) n l) (hk:k<n) :
 Calls Tryz.prog 87 #[.int .i64 k,.pointer (some ⟨bl,0,none⟩)] w fun e w'=>e=.returned (.tuple #[.agg #[.int .i64 (gt l ((k+n-1) % n)).1,.int .i64 (gt l ((k+n-1) % n)).2],.agg #[.int .i64 (gt l k).1,.int .i64 (gt l k).2],.agg #[.int .i64 (gt l ((k+1) % n)).1,.int .i64 (gt l ((k+1) % n)).2]])/\Below w.heap.size w w':=by
 have hm1:(k+1) % n<n:=Nat.mod_lt _ (by omega)
 have hm2:(k+n-1) % n<n:=Nat.mod_lt _ (by omega)
 obtain⟨h1,h2⟩:=hs.cells hk;obtain⟨h3,h4⟩:=hs.cells hm1;obtain⟨h5,h6⟩:=hs.cells hm2;simp only[Nat.zero_add] at h1 h2 h3 h4 h5 h6;have lb:bl<w.heap.size:=Bj hL;have lg:g<w.heap.size:=Bj h1;have lb1:bl<w.heap.size+1:=by omega
 have lb2:bl<w.heap.size+1+1:=by omega
 have lg1:g<w.heap.size+1:=by omega
 have lg2:g<w.heap.size+1+1:=by omega
 go_enter Tryz.func87,Tryz.ntmps87;go_wp2_with fail;have m1:=X4 ((k:Int)+1) (k+1) n rfl (by omega)
 have m2:=X4 ((k:Int)+(n:Int)-1) (k+n-1) n (by omega) (by omega)
 have q1:IntKind.i64.wrap ((k:Int)+1)=(k:Int)+1:=Fe k 1 (by omega)
 have q2:IntKind.i64.wrap ((k:Int)+(n:Int))=(k:Int)+(n:Int):=Fe k n (by omega)
 have q3:IntKind.i64.wrap ((k:Int)+(n:Int)-1)=(k:Int)+(n:Int)-1:=Gx _ (by omega) (by omega)
 have q4:¬n=0:=by omega
 go_region
 clear m1 m2 q1 q2 q3;go_wp2_with fail;exact bodyPost_ret (v:=.tuple #[.agg #[.int .i64 (gt l ((k+n-1) % n)).1,.int .i64 (gt l ((k+n-1) % n)).2],.agg #[.int .i64 (gt l k).1,.int .i64 (gt l k).2],.agg #[.int .i64 (gt l ((k+1) % n)).1,.int .i64 (gt l ((k+1) % n)).2]]) (by simp[results,Tryz.results87,go_sem]) rfl ⟨rfl,Aw (An (An (An (Below.refl _ _) _) _) _)⟩
theorem Oe (F:Nat) (cb:Array Value) (n:Nat) (f:Nat->Bool) (w:World) (hn:n<=1000000)
 (eg:∀args w,(callFunc F args).run Tryz.prog w=.ok (.enter F args) w)
 (hf:∀(k:Nat) (w':World),k<n->Below w.heap.size w w'->Calls Tryz.prog F (#[.int .i64 k]++cb) w' fun e w''=>e=.returned (.bool (f k))/\Below w'.heap.size w' w'') :
 Calls Tryz.prog 92 #[.int .i64 n,.func (.func F) #[] cb] w fun e w'=>e=.returned (.int .i64 (Cx f n))/\Below w.heap.size w w':=by
 have HF:=Lib.hid hf;clear hf;go_enter Tryz.func92,Tryz.ntmps92;go_wp2_with fail;go_loopw [7] (fun i wr=>∃k:Nat,k<=n/\i=.int .i64 k/\Hid (Bq f k=false)/\Below w.heap.size w wr) (fun i _=>n-(intOf i).toNat)
 case atStart=>exact⟨0,Nat.zero_le _,rfl,Bq.zero _,Below.refl _ _⟩
 case round =>
  obtain⟨k,hk,rfl,hp,hb⟩:=hrel;by_cases hlt:k<n
  ·go_wp2_with fail
   refine(HF.out k wr hlt hb).mono ?_;rintro e w2 ⟨rfl,hb2⟩;go_wp2_with fail
   ·go_ret
    exact⟨Bh (Gv hlt hp.out (by assumption)).symm,Ao hb hb2⟩
   ·go_roundw
    case rel=>exact⟨k+1,by omega,by go_num,Bq.succ hp.out (by simpa using ‹_›),Ao hb hb2⟩
    case measure=>simp[intOf];omega
  ·obtain rfl:n=k:=by omega
   go_wp2_with fail;go_ret;exact⟨Bh (Fa hp.out).symm,hb⟩
def Sh (l:List (Int×Int)) (n k:Nat):Bool:=Bo (gt l ((k+n-1) % n)) (gt l k) (gt l ((k+1) % n)) == 0
def frW (l:List (Int×Int)) (n k i:Nat):Bool:=eqS (gt l i) (gt l ((k+n-1) % n)) || eqS (gt l i) (gt l k) || eqS (gt l i) (gt l ((k+1) % n)) || decide (Hh (gt l ((k+n-1) % n)) (gt l k) (gt l ((k+1) % n)) (gt l i)<0)
def F0 (l:List (Int×Int)) (n k:Nat):Bool:=decide (0<Bo (gt l ((k+n-1) % n)) (gt l k) (gt l ((k+1) % n)))&&Jq (frW l n k) n
theorem Mc (bc bl g n cap k:Nat) (l:List (Int×Int)) (w:World) (hn:n<=1000000) (hcap:n<=cap) (hF:w.cell? ⟨bc,0,none⟩=some (.func (.func 87) #[] #[.pointer (some ⟨bl,0,none⟩)])) (hL:w.cell? ⟨bl,0,none⟩=some (.slice (some ⟨g,0,none⟩) n cap)) (hs:SpS w (some ⟨g,0,none⟩) n l) (hk:k<n) :
 Calls Tryz.prog 88 #[.int .i64 k,.pointer (some ⟨bc,0,none⟩)] w fun e w'=>e=.returned (.bool (Sh l n k))/\Below w.heap.size w w':=by
 go_enter Tryz.func88,Tryz.ntmps88
 go_wp2_with (first|(go_at_call 87;refine(Lz bl g n cap k l _ hn hcap hL hs hk).mono ?_;rintro e w1 ⟨rfl,hb1⟩)|(go_at_call 89;refine(Eg _ _ _ _ _ _ _).mono ?_;rintro e w2 ⟨rfl,hb2⟩))
 go_ret;exact⟨rfl,Ao hb1 hb2⟩
theorem Ad6 {l:List (Int×Int)} {n k:Nat} (h:¬0<Bo (gt l ((k+n-1) % n)) (gt l k) (gt l ((k+1) % n))):F0 l n k=false:=by
 unfold F0;simp[h]
theorem yq {l:List (Int×Int)} {n k j:Nat} (hj:j<n) (h:frW l n k j=false):F0 l n k=false:=by
 unfold F0;rw[Jq.no hj h,Bool.and_false]
theorem yp {l:List (Int×Int)} {n k:Nat} (h:0<Bo (gt l ((k+n-1) % n)) (gt l k) (gt l ((k+1) % n))) (h2:Jq (frW l n k) n=true):F0 l n k=true:=by
 unfold F0;rw[h2];simp[h]
theorem SpS.of3 {w:World} {g:Nat} {t:TypeId} {a0 a1 b0 b1 c0 c1:Int} (h:Bb w g t #[.int .i64 a0,.int .i64 a1,.int .i64 b0,.int .i64 b1,.int .i64 c0,.int .i64 c1]):SpS w (some ⟨g,0,none⟩) 3 [(a0,a1),(b0,b1),(c0,c1)]:=by
 refine⟨rfl,.inr ⟨g,0,rfl,fun k hk=>?_⟩⟩
 have e0:=h.cell 0;have e1:=h.cell 1;have e2:=h.cell 2;have e3:=h.cell 3;have e4:=h.cell 4;have e5:=h.cell 5;rcases(show k=0\/k=1\/k=2 by omega) with rfl|rfl|rfl
 ·exact⟨e0,e1⟩
 ·exact⟨e2,e3⟩
 ·exact⟨e4,e5⟩
theorem Alr {l:List (Int×Int)} {n k j:Nat} {a:Int×Int} (ha:gt l ((k+n-1) % n)=a) (h:eqS (gt l j) a=true):frW l n k j=true:=by
 unfold frW;rw[ha,h];rfl
theorem Alq {l:List (Int×Int)} {n k j:Nat} {b:Int×Int} (hb:gt l k=b) (h:eqS (gt l j) b=true):frW l n k j=true:=by
 unfold frW;rw[hb,h];simp
theorem Alp {l:List (Int×Int)} {n k j:Nat} {c:Int×Int} (hc:gt l ((k+1) % n)=c) (h:eqS (gt l j) c=true):frW l n k j=true:=by
 unfold frW;rw[hc,h];simp
theorem Alo {l:List (Int×Int)} {n k j:Nat} {a b c:Int×Int} (ha:gt l ((k+n-1) % n)=a) (hb:gt l k=b) (hc:gt l ((k+1) % n)=c) (h:Hh a b c (gt l j)<0):frW l n k j=true:=by
 unfold frW;rw[ha,hb,hc,decide_eq_true h];simp
theorem Aln {l:List (Int×Int)} {n k j:Nat} {a b c:Int×Int} (ha:gt l ((k+n-1) % n)=a) (hb:gt l k=b) (hc:gt l ((k+1) % n)=c) (h1:¬eqS (gt l j) a=true) (h2:¬eqS (gt l j) b=true) (h3:¬eqS (gt l j) c=true) (h:0<=Hh a b c (gt l j)):frW l n k j=false:=by
 unfold frW;rw[ha,hb,hc];simp only[Bool.not_eq_true] at h1 h2 h3;rw[h1,h2,h3];simp;omega
theorem Ahc (g:Nat) (t:TypeId) (a0 a1 b0 b1 c0 c1 x y:Int) (w:World) (h:Bb w g t #[.int .i64 a0,.int .i64 a1,.int .i64 b0,.int .i64 b1,.int .i64 c0,.int .i64 c1]) :
 Calls Tryz.prog 91 #[.slice (some ⟨g,0,none⟩) 3 3,.agg #[.int .i64 x,.int .i64 y]] w fun e w'=>e=.returned (.int .i64 (Hh (a0,a1) (b0,b1) (c0,c1) (x,y)))/\Below w.heap.size w w' :=
 l9 g 0 3 [(a0,a1),(b0,b1),(c0,c1)] x y w (Nat.le_refl _) (SpS.of3 h)
theorem yr (bc bl g n cap k:Nat) (l:List (Int×Int)) (w:World) (hn:n<=1000000) (hcap:n<=cap) (hF:w.cell? ⟨bc,0,none⟩=some (.func (.func 87) #[] #[.pointer (some ⟨bl,0,none⟩)])) (hL:w.cell? ⟨bl,0,none⟩=some (.slice (some ⟨g,0,none⟩) n cap)) (hs:SpS w (some ⟨g,0,none⟩) n l) (hk:k<n) :
 Calls Tryz.prog 90 #[.int .i64 k,.pointer (some ⟨bc,0,none⟩),.pointer (some ⟨bl,0,none⟩)] w fun e w'=>e=.returned (.bool (F0 l n k))/\Below w.heap.size w w':=by
 have heq:=Gw;have hco:=Lz bl g n cap k l w hn hcap hL hs hk;obtain⟨a0,a1,ha⟩:∃a0 a1,gt l ((k+n-1) % n)=(a0,a1):=⟨_,_,rfl⟩
 obtain⟨b0,b1,hbb⟩:∃b0 b1,gt l k=(b0,b1):=⟨_,_,rfl⟩
 obtain⟨c0,c1,hcc⟩:∃c0 c1,gt l ((k+1) % n)=(c0,c1):=⟨_,_,rfl⟩
 rw[ha,hbb,hcc] at hco;have HCO:=Lib.hid hco;clear hco;have HA:=Lib.hid ha;have HB:=Lib.hid hbb;have HC:=Lib.hid hcc;clear ha hbb hcc;by_cases hp:0<Bo (a0,a1) (b0,b1) (c0,c1)
 ·go_enter Tryz.func90,Tryz.ntmps90
  go_upto_region 4 with (first|(go_at_call 87;refine HCO.out.mono ?_;rintro e w1 ⟨rfl,hb1⟩)|(go_at_call 89;refine(Eg _ _ _ _ _ _ _).mono ?_;rintro e w2 ⟨rfl,hb2⟩))
  have hC:Cls w [(⟨w1.heap.size,0,none⟩,.int .i64 a0),(⟨w1.heap.size,1,none⟩,.int .i64 a1),(⟨w1.heap.size+1,0,none⟩,.int .i64 b0),(⟨w1.heap.size+1,1,none⟩,.int .i64 b1),(⟨w1.heap.size+1+1,0,none⟩,.int .i64 c0),(⟨w1.heap.size+1+1,1,none⟩,.int .i64 c1)] w2:=Cls.call ⟨An (An (An hb1 _) _) _,by simp only[List.mem_cons,List.not_mem_nil,forall_eq_or_imp,or_false,forall_eq];go_simp⟩ hb2
  obtain⟨B,hB⟩:∃B,B=w1.heap.size:=⟨_,rfl⟩
  have hBw:w.heap.size<=B:=by rw[hB];exact hb1.size
  rw[<-hB] at hC ⊢;clear hb1 hb2 hB;have hL2:=Aq hC.1 hL;go_wp2_with fail;go_loopw [24] (fun i wr=>∃j:Nat,j<=n/\i=.int .i64 j/\Hid (Jq (frW l n k) j=true)/\Cls w [(⟨B,0,none⟩,.int .i64 a0),(⟨B,1,none⟩,.int .i64 a1),(⟨B+1,0,none⟩,.int .i64 b0),(⟨B+1,1,none⟩,.int .i64 b1),(⟨B+1+1,0,none⟩,.int .i64 c0),(⟨B+1+1,1,none⟩,.int .i64 c1)] wr) (fun i _=>n-(intOf i).toNat)
  case atStart=>exact⟨0,Nat.zero_le _,rfl,Jq.zero _,hC⟩
  case round =>
   clear hC hL2;obtain⟨j,hj,rfl,hq,hC⟩:=hrel;by_cases hlt:j<n
   ·obtain⟨h1,h2⟩:=(hs.keep hC.1).cells hlt
    simp only[Nat.zero_add] at h1 h2;have hx:=hC.2;simp only[List.mem_cons,List.not_mem_nil,forall_eq_or_imp,or_false,forall_eq] at hx;obtain⟨x0,x1,x2,x3,x4,x5⟩:=hx;have l0:B<wr.heap.size:=Bj x0;have l1:B+1<wr.heap.size:=Bj x2;have l2:B+1+1<wr.heap.size:=Bj x4
    go_wp2_with (go_at_call 91;refine(Ahc _ _ _ _ _ _ _ _ _ _ _ (Bb.new2 _ _ _ _)).mono ?_;rintro e w3 ⟨rfl,hb3⟩)
    ·exact⟨⟨j+1,by omega,by go_num,Jq.succ hq.out (Alr HA.out (by assumption)),hC.call (An (Below.refl _ _) _)⟩,by simp[intOf];omega⟩
    ·exact⟨⟨j+1,by omega,by go_num,Jq.succ hq.out (Alq HB.out (by assumption)),hC.call (An (Below.refl _ _) _)⟩,by simp[intOf];omega⟩
    ·exact⟨⟨j+1,by omega,by go_num,Jq.succ hq.out (Alp HC.out (by assumption)),hC.call (An (Below.refl _ _) _)⟩,by simp[intOf];omega⟩
    ·go_ret
     exact⟨Bn (yq hlt (Aln HA.out HB.out HC.out (by assumption) (by assumption) (by assumption) (by assumption))).symm,(hC.call (Ao (An (An (Below.refl _ _) _) _) hb3)).1⟩
    ·exact⟨⟨j+1,by omega,by go_num,Jq.succ hq.out (Alo HA.out HB.out HC.out (by assumption)),hC.call (Ao (An (An (Below.refl _ _) _) _) hb3)⟩,by simp[intOf];omega⟩
   ·obtain rfl:n=j:=by omega
    go_wp2_with fail;go_ret;exact⟨Bn (yp (by rw[HA.out,HB.out,HC.out];exact hp) hq.out).symm,hC.1⟩
 ·go_enter Tryz.func90,Tryz.ntmps90
  go_wp2_with (first|(go_at_call 87;refine HCO.out.mono ?_;rintro e w1 ⟨rfl,hb1⟩)|(go_at_call 89;refine(Eg _ _ _ _ _ _ _).mono ?_;rintro e w2 ⟨rfl,hb2⟩))
  go_ret;exact⟨Bn (Ad6 (by rw[HA.out,HB.out,HC.out];omega)).symm,Ao (An (An (An hb1 _) _) _) hb2⟩
end Go.Proofs.YtpbchbcdgikonaaGreat
