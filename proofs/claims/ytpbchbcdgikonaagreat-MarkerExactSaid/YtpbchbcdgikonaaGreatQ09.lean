/- Lean texts of the claim. -/
import Derived.Test.YtpbchbcdgikonaaGreatQ08
import Derived.Maps.RangeWalk
import Derived.Maps.OwnOps
import Derived.Maps.Views
import Derived.DeepKeys5
namespace Go.Proofs.YtpbchbcdgikonaaGreat
set_option linter.unusedVariables false
set_option linter.unusedSimpArgs false
set_option maxRecDepth 100000
set_option maxHeartbeats 4000000
open Go.RowKit
def Fx (s:List (Int×Int)) (ts acc:List (List (Int×Int))):Nat->Int×List (List (Int×Int))
 | 0=>(0,acc)
 | j+1=>if (Fx s ts acc j).1≠0 then Fx s ts acc j else if (M9 s (O0 (lt_ ts j))).1≠0 then ((M9 s (O0 (lt_ ts j))).1,[]) else (0,(Fx s ts acc j).2++[(M9 s (O0 (lt_ ts j))).2])
def C7 (ss ts:List (List (Int×Int))):Nat->Int×List (List (Int×Int))
 | 0=>(0,[])
 | k+1=>if (C7 ss ts k).1≠0 then C7 ss ts k else Fx (lt_ ss k) ts (C7 ss ts k).2 ts.length
def Bw (a b:List (Int×Int)):Int×List (List (Int×Int)) :=
 if (Ba a).1≠0 then ((Ba a).1,[]) else if (Ba b).1≠0 then ((Ba b).1,[])
 else if (C7 (Ba a).2 (Ba b).2 (Ba a).2.length).1≠0 then ((C7 (Ba a).2 (Ba b).2 (Ba a).2.length).1,[])
 else (0,D6 eqL [] (F7 (C7 (Ba a).2 (Ba b).2 (Ba a).2.length).2))
theorem jj {s:List (Int×Int)} {ts acc:List (List (Int×Int))} {j:Nat} {x:Int} (h:(Fx s ts acc j).1=x) (hx:x≠0):∀m,(Fx s ts acc (j+m)).1=x:=by
 intro m;induction m with
 | zero=>exact h
 | succ m ih=>rw[<-Nat.add_assoc,Fx,if_pos (by rw[ih];exact hx)];exact ih
theorem ji {ss ts:List (List (Int×Int))} {k:Nat} {x:Int} (h:(C7 ss ts k).1=x) (hx:x≠0):∀m,(C7 ss ts (k+m)).1=x:=by
 intro m;induction m with
 | zero=>exact h
 | succ m ih=>rw[<-Nat.add_assoc,C7,if_pos (by rw[ih];exact hx)];exact ih
theorem Aap (a b:List (Int×Int)):(M9 a b).2.length<=160:=by
 unfold M9;split
 ·simp
 ·split
  ·simp
  ·split
   ·simp
   ·split
    ·simp
    ·rename_i h;exact Nat.le_of_not_lt h
theorem Nn {s:List (Int×Int)} {ts acc:List (List (Int×Int))} (h:∀t∈acc,t.length<=160):∀j,(Fx s ts acc j).2.length<=acc.length+j/\∀t∈(Fx s ts acc j).2,t.length<=160:=by
 intro j;induction j with
 | zero=>exact⟨Nat.le_refl _,h⟩
 | succ j ih =>
   rw[Fx];split
   ·exact⟨by omega,ih.2⟩
   ·split
    ·simp
    ·refine⟨by simp;omega,fun t ht=>?_⟩
     rcases List.mem_append.1 ht with ht|ht
     ·exact ih.2 t ht
     ·simp at ht;subst ht;exact Aap _ _
theorem Jw {ss ts:List (List (Int×Int))}:∀k,(C7 ss ts k).2.length<=k*ts.length/\∀t∈(C7 ss ts k).2,t.length<=160:=by
 intro k;induction k with
 | zero=>simp[C7]
 | succ k ih =>
   rw[C7];split
   ·exact⟨by rw[Nat.add_mul];omega,ih.2⟩
   ·have:=Nn (s:=lt_ ss k) (ts:=ts) ih.2 ts.length
    exact⟨by rw[Nat.add_mul];omega,this.2⟩
theorem Zz {a b:List (Int×Int)} (h:¬(Ba a).1=0):Bw a b=((Ba a).1,[]):=by unfold Bw;rw[if_pos h]
theorem Zy {a b:List (Int×Int)} (h:(Ba a).1=0) (h2:¬(Ba b).1=0):Bw a b=((Ba b).1,[]):=by unfold Bw;rw[if_neg (by simpa using h),if_pos h2]
theorem Zx {a b:List (Int×Int)} (h:(Ba a).1=0) (h2:(Ba b).1=0):Bw a b=if (C7 (Ba a).2 (Ba b).2 (Ba a).2.length).1≠0 then ((C7 (Ba a).2 (Ba b).2 (Ba a).2.length).1,[]) else (0,D6 eqL [] (F7 (C7 (Ba a).2 (Ba b).2 (Ba a).2.length).2)):=by unfold Bw;rw[if_neg (by simpa using h),if_neg (by simpa using h2)]
theorem Uc (v:Value) (base:Nat) (l:List (List (Int×Int))) (w:World) (hl:l.length<=1000000) (hll:∀t∈l,t.length<=1000000) (hs:H6 w base v l) :
 Calls Tryz.prog 221 #[v,.func (.func 222) #[] #[]] w fun e w'=>∃v',e=.returned v'/\H6 w' base v' (D6 eqL [] l)/\w.grownBy w' v.ownBlock:=by
 obtain⟨vs,h1,h2,h3,h4⟩:=hs;rcases OwG.form h1 with ⟨rfl,rfl⟩|⟨g,cap,rfl,g1,g2,g3,g4⟩
 ·have:l=[]:=List.eq_nil_of_length_eq_zero (by rw[<-h2];rfl)
  subst this;go_enter Tryz.func221,Tryz.ntmps221;go_wp2_with fail;go_ret;exact⟨_,rfl,H6.nil,World.grownBy.refl _ _⟩
 ·refine(Rn g cap vs.length base l w (by rw[h2];exact hl) hll h2.symm ⟨vs,h1,h2,h3,h4⟩).mono ?_
  rintro e w' ⟨m,rfl,hm,ho,hg⟩;exact⟨_,rfl,ho,hg⟩
theorem Gm {w0 w w':World} {v:Value} {ls:List (List (Int×Int))} (hb:Below w0.heap.size w0 w) (h:H6 w w0.heap.size v ls) (hg:w.grownBy w' v.ownBlock):Below w0.heap.size w0 w':=by
 obtain⟨vs,h1,_⟩:=h;exact Bm hb h1 hg
theorem H6.alloc {w:World} {base:Nat} {v:Value} {ls:List (List (Int×Int))} (h:H6 w base v ls) (o:Obj):H6 (w.alloc o) base v ls:=h.keep (An (Below.refl _ _) _)
theorem Nk (A B:Option Addr) (ca cb na nb:Nat) (a b:List (Int×Int)) (w:World) (hna:na<=9223372036854775807) (hnb:nb<=9223372036854775807) (hca:na<=ca) (hcb:nb<=cb) (hsA:SpS w A na a) (hsB:SpS w B nb b) :
 Calls Tryz.prog 182 #[.slice A na ca,.slice B nb cb] w (tc w (Bw a b)):=by
 by_cases h1:(Ba a).1=0
 ·by_cases h2:(Ba b).1=0
  ·have hrel0:=Lib.hid (Zx h1 h2)
   have sA:=C8 a;have sB:=C8 b;have HA:=Lib.hid sA.2;have HB:=Lib.hid sB.2;replace sA:=sA.1;replace sB:=sB.1;obtain⟨ss,hss⟩:∃ss,(Ba a).2=ss:=⟨_,rfl⟩
   obtain⟨ts,hts⟩:∃ts,(Ba b).2=ts:=⟨_,rfl⟩
   rw[hss] at hrel0 HA sA;rw[hts] at hrel0 HB sB;have HSS:=Lib.hid hss;have HTS:=Lib.hid hts;clear hss hts;go_enter Tryz.func182,Tryz.ntmps182
   go_upto_region 8 with (go_at_call 59;first|(refine(D8 _ _ _ b _ hnb hcb (hsB.keep hb1)).mono ?_;rintro e w2 ⟨v2,rfl,ho2,hb2⟩;rw[HTS.out] at ho2)|(refine(D8 _ _ _ a _ hna hca hsA).mono ?_;rintro e w1 ⟨v1,rfl,ho1,hb1⟩;rw[HSS.out] at ho1))
   obtain⟨A1,c1,rfl,hc1,hS1,-⟩:=(ho1.keep hb2).spss;obtain⟨A2,c2,rfl,hc2,hS2,-⟩:=ho2.spss;have hb:=Ao hb1 hb2;clear ho1 ho2 hb1 hb2;obtain⟨ns,hns⟩:∃ns,ss.length=ns:=⟨_,rfl⟩
   obtain⟨nt,hnt⟩:∃nt,ts.length=nt:=⟨_,rfl⟩
   rw[hns] at hS1 hc1 sA hrel0 ⊢;rw[hnt] at hS2 hc2 sB ⊢;have HNS:=Lib.hid hns;have HNT:=Lib.hid hnt;clear hns hnt;go_wp2_with fail;go_loopw [9,34] (fun v i wr=>∃k:Nat,k<=ns/\i=.int .i64 k/\Hid ((C7 ss ts k).1=0)/\H6 wr w2.heap.size v (C7 ss ts k).2/\Below w2.heap.size w2 wr) (fun _ i _=>ns-(intOf i).toNat)
   case atStart=>exact⟨0,Nat.zero_le _,rfl,Lib.hid rfl,H6.nil,Below.refl _ _⟩
   case round =>
    obtain⟨k,hk,rfl,hz,ho,hbr⟩:=hrel;by_cases hlt:k<ns
    ·obtain⟨b1,o1,Ak,ck,rfl,hbl,e1,e2,e3,e4⟩:=hS1.at_ hlt
     have l1:(lt_ ss k).length<=3:=HA.out _ (It (by rw[HNS.out];exact hlt))
     have hsm:=Jw (ss:=ss) (ts:=ts) k;have hsm1:(C7 ss ts k).2.length<=1681:=Nat.le_trans hsm.1 (Nat.le_trans (Nat.mul_le_mul (show k<=41 by omega) (show ts.length<=41 by rw[HNT.out];exact sB)) (by omega))
     have HSM:=Lib.hid hsm.2;clear hsm;obtain⟨nk,hnk⟩:∃nk,(lt_ ss k).length=nk:=⟨_,rfl⟩
     rw[hnk] at e1 e2 e3 l1;clear hnk;have e1':=Aq hbr e1;clear e1 hbl;go_wp2_with fail;clear e1';obtain⟨wo,rfl⟩:∃wo:World,wo=wr:=⟨_,rfl⟩
     go_loopw [9,40] (fun v i wx=>∃j:Nat,j<=nt/\i=.int .i64 j/\Hid ((Fx (lt_ ss k) ts (C7 ss ts k).2 j).1=0)/\H6 wx w2.heap.size v (Fx (lt_ ss k) ts (C7 ss ts k).2 j).2/\Below w2.heap.size w2 wx) (fun _ i _=>nt-(intOf i).toNat)
     case atStart=>exact⟨0,Nat.zero_le _,rfl,Lib.hid rfl,ho,hbr⟩
     case round =>
      clear ho hbr;obtain⟨j,hj,rfl,hzj,ho,hbx⟩:=hrel;by_cases hjn:j<nt
      ·obtain⟨b2,o2,Aj,cj,rfl,hbl2,g1,g2,g3,g4⟩:=hS2.at_ hjn
       have l2:(lt_ ts j).length<=3:=HB.out _ (It (by rw[HNT.out];exact hjn))
       obtain⟨nj,hnj⟩:∃nj,(lt_ ts j).length=nj:=⟨_,rfl⟩
       rw[hnj] at g1 g2 g3 l2;have HNJ:=Lib.hid (show (O0 (lt_ ts j)).length=nj by rw[Q3,hnj])
       clear hnj;have g1':=Aq hbx g1;clear g1 hbl2;have hsmj:=(Nn (s:=lt_ ss k) (ts:=ts) HSM.out j).1;have hsmj':(Fx (lt_ ss k) ts (C7 ss ts k).2 j).2.length<=1000000:=by omega
       clear hsmj;by_cases hsum:(M9 (lt_ ss k) (O0 (lt_ ts j))).1=0
       ·have hstep:=Lib.hid (show Fx (lt_ ss k) ts (C7 ss ts k).2 (j+1)=(0,(Fx (lt_ ss k) ts (C7 ss ts k).2 j).2++[(M9 (lt_ ss k) (O0 (lt_ ts j))).2]) by rw[Fx,if_neg (by rw[hzj.out];simp),if_neg (by rw[hsum];simp)])
        go_wp2_with (first|(go_at_call 217;refine(Ps _ _ _ (lt_ ts j) _ (by omega) (g3.keep hbx)).mono ?_;rintro e w5 ⟨v5,rfl,ho5,hb5⟩;obtain⟨A5,c5,rfl,hc5,hS5,hz5,-⟩:=OwS.els ho5;rw[HNJ.out] at hS5 ⊢)|(go_at_call 216;refine(s8 _ _ _ _ _ _ (lt_ ss k) (O0 (lt_ ts j)) _ (by omega) (by omega) (e3.keep (Ao hbx hb5)) hS5 e4 hz5).mono ?_;rintro e w6 ⟨v6,rfl,ho6,hb6⟩;obtain⟨A6,c6,rfl,-,-,-,-⟩:=OwS.els ho6)|(at_builtin;refine Ev rfl _ _ rfl w2.heap.size _ (Fx (lt_ ss k) ts (C7 ss ts k).2 j).2 rfl (((ho.keep hb5).keep hb6).alloc _) w6.heap.size 1 _ (M9 (lt_ ss k) (O0 (lt_ ts j))).2 54 rfl (Bb.new _ _ _) ((ElS.lower (OwS.els ho6) (Ao hbx hb5).size).keep (An (Below.refl _ _) _)) hsmj' (An (Ao (Ao hbx hb5) hb6) _).size ?_;intro v7 w7 ho7 hg7 hat7))
        exact⟨⟨j+1,by omega,by go_num,Lib.hid (by rw[hstep.out]),by rw[hstep.out];exact ho7,Gm (An (Ao (Ao hbx hb5) hb6) _) (((ho.keep hb5).keep hb6).alloc _) hg7⟩,by simp[intOf];omega⟩
       ·have q:((M9 (lt_ ss k) (O0 (lt_ ts j))).1 != 0)=true:=by simpa using hsum
        have hbad:(C7 ss ts ns).1=(M9 (lt_ ss k) (O0 (lt_ ts j))).1:=by
         have a1:(Fx (lt_ ss k) ts (C7 ss ts k).2 (j+1)).1=(M9 (lt_ ss k) (O0 (lt_ ts j))).1:=by rw[Fx,if_neg (by rw[hzj.out];simp),if_pos hsum]
         have a2:=jj a1 hsum (nt-(j+1));rw[show j+1+(nt-(j+1))=nt by omega] at a2
         have a3:(C7 ss ts (k+1)).1=(M9 (lt_ ss k) (O0 (lt_ ts j))).1:=by rw[C7,if_neg (by rw[hz.out];simp),HNT.out];exact a2
         have a4:=ji a3 hsum (ns-(k+1))
         rwa [show k+1+(ns-(k+1))=ns by omega] at a4
        have hr:Bw a b=((M9 (lt_ ss k) (O0 (lt_ ts j))).1,[]):=by rw[hrel0.out,if_pos (by rw[hbad];exact hsum),hbad]
        have HR:=Lib.hid hr;clear hr hbad
        go_wp2_with (first|(go_at_call 217;refine(Ps _ _ _ (lt_ ts j) _ (by omega) (g3.keep hbx)).mono ?_;rintro e w5 ⟨v5,rfl,ho5,hb5⟩;obtain⟨A5,c5,rfl,hc5,hS5,hz5,-⟩:=OwS.els ho5;rw[HNJ.out] at hS5 ⊢)|(go_at_call 216;refine(s8 _ _ _ _ _ _ (lt_ ss k) (O0 (lt_ ts j)) _ (by omega) (by omega) (e3.keep (Ao hbx hb5)) hS5 e4 hz5).mono ?_;rintro e w6 ⟨v6,rfl,ho6,hb6⟩))
        go_ret2
        exact⟨_,by rw[HR.out];rfl,by rw[HR.out];exact H6.nil,Ao hb (Ao (Ao hbx hb5) hb6)⟩
      ·obtain rfl:nt=j:=by omega
       have e9:=Lib.hid (show C7 ss ts (k+1)=Fx (lt_ ss k) ts (C7 ss ts k).2 nt by rw[C7,if_neg (by rw[hz.out];simp),HNT.out])
       go_wp2_with fail;exact⟨⟨k+1,by omega,by go_num,Lib.hid (by rw[e9.out];exact hzj.out),by rw[e9.out];exact ho,hbx⟩,by simp[intOf];omega⟩
    ·obtain rfl:ns=k:=by omega
     have hsm:=Jw (ss:=ss) (ts:=ts) ns;have hsm1:(C7 ss ts ns).2.length<=1681:=Nat.le_trans hsm.1 (Nat.le_trans (Nat.mul_le_mul sA (show ts.length<=41 by rw[HNT.out];exact sB)) (by omega))
     have HSM:=Lib.hid (show ∀t∈(C7 ss ts ns).2,t.length<=1000000 from fun t ht=>Nat.le_trans (hsm.2 t ht) (by omega))
     have HR:=Lib.hid (show Bw a b=(0,D6 eqL [] (F7 (C7 ss ts ns).2)) by rw[hrel0.out,if_neg (by rw[hz.out];simp)])
     clear hsm
     go_wp2_with (first|(go_at_call 218;refine(ib _ w2.heap.size (C7 ss ts ns).2 _ (by omega) HSM.out ho).mono ?_;rintro e w5 ⟨rfl,ho5,hg5⟩)|(go_at_call 221;refine(Uc _ w2.heap.size (F7 (C7 ss ts ns).2) _ (by rw[Lh];omega) (fun t ht=>HSM.out t (Pf.1 ht)) ho5).mono ?_;rintro e w6 ⟨v6,rfl,ho6,hg6⟩))
     go_ret2
     exact⟨v6,by rw[HR.out];rfl,by rw[HR.out];exact H6.lower ho6 hb.size,Ao hb (Gm (Gm hbr ho hg5) ho5 hg6)⟩
  ·have hr:=Lib.hid (Zy h1 h2)
   have q2:((Ba b).1 != 0)=true:=by simpa using h2
   go_enter Tryz.func182,Tryz.ntmps182
   go_wp2_with (go_at_call 59;first|(refine(D8 _ _ _ b _ hnb hcb (hsB.keep hb1)).mono ?_;rintro e w2 ⟨v2,rfl,ho2,hb2⟩)|(refine(D8 _ _ _ a _ hna hca hsA).mono ?_;rintro e w1 ⟨v1,rfl,ho1,hb1⟩))
   go_ret2
   exact⟨_,by rw[hr.out];rfl,by rw[hr.out];exact H6.nil,Ao hb1 hb2⟩
 ·have hr:=Lib.hid (Zz (b:=b) h1)
  have q2:((Ba a).1 != 0)=true:=by simpa using h1
  go_enter Tryz.func182,Tryz.ntmps182
  go_wp2_with (go_at_call 59;refine(D8 _ _ _ a _ hna hca hsA).mono ?_;rintro e w1 ⟨v1,rfl,ho1,hb1⟩)
  go_ret2
  exact⟨_,by rw[hr.out];rfl,by rw[hr.out];exact H6.nil,hb1⟩
theorem Abt {l:List (Int×Int)} {g:Int×Int->Int×Int} {p:Nat} (hp:p<l.length):gt (l.map g) p=g (gt l p):=by
 unfold gt;rw[List.getD,List.getElem?_map,List.getD,List.getElem?_eq_getElem hp];rfl
theorem Abs {l:List (Int×Int)} {p:Int×Int} (h:p∈l):∃i,i<l.length/\gt l i=p:=by
 obtain⟨i,hi,rfl⟩:=List.getElem_of_mem h;exact⟨i,hi,by unfold gt;simp[hi]⟩
def Ep (M:Int) (q:Int×Int):Prop := -M<=q.1/\q.1<=M /\ -M<=q.2/\q.2<=M
theorem Nu {M:Int} {q:Int×Int} (h:Ce M q=false):Ep M q:=by
 unfold Ce at h;simp at h;unfold Ep;omega
theorem Nx {l:List (Int×Int)} {q:Int×Int} (h:q∈l):∃i,i<l.length/\gt l i=q:=Abs h
theorem Oa {l:List (Int×Int)} {i:Nat} (h:i<l.length):gt l i∈l:=by
 unfold gt;rw[List.getD,List.getElem?_eq_getElem h];exact List.getElem_mem h
theorem Jg {l:List (Int×Int)} (h:Bf l l.length=0):∀q∈l,Ep 1048576 q:=by
 intro q hq;obtain⟨i,hi,rfl⟩:=Nx hq;unfold Bf at h;split at h
 ·cases h
 ·split at h
  ·cases h
  ·split at h
   ·cases h
   ·rename_i h3
    have h3':Bq (fun i=>Ce 1048576 (gt l i)) l.length=false:=by simpa using h3
    apply Nu;cases ho:Ce 1048576 (gt l i) with
    | false=>rfl
    | true=>rw[Bq.yes hi ho] at h3';cases h3'
theorem Dn {z:Int} (h1 : -100000000<=z) (h2:z<=100000000):wrap64 z=z:=by unfold wrap64;omega
section
open Go.RowKit Go.Maps
section
variable {P : Program} {α : Type}
structure KeyRep (P:Program) (k:TypeId) (key:α->Value) (ok:α->Prop) (kl:α->Lit):Prop where
 law:Keyed P k
 of:∀x,ok x->keyOf P k (key x)=some (kl x)
 inv:∀v l,keyOf P k v=some l->∃x,v=key x/\ok x
 inj:∀x y,key x=key y->x=y
theorem KeyRep.one {k:TypeId} {key:α->Value} {ok:α->Prop} {kl:α->Lit} (K:KeyRep P k key ok kl) {x y:α} (hx:ok x) (hy:ok y) (h:kl x=kl y):x=y :=
 K.inj x y (K.law.inj (K.of x hx) (by rw[h];exact K.of y hy))
def C5 (P:Program) (k e:TypeId) (ok:α->Prop) (kl:α->Lit) (w:World) (b n:Nat) (S:List α):Prop :=
 ∃D:DataW Unit,w.ownsMap P k (plainElem P e) b n D/\(∀x∈S,ok x)/\(∀x,ok x->(x∈S->∀z,D.atKey (kl x) z=.lit (.bool true))/\(¬x∈S->Maps.has D (kl x)=false))
variable {k e t : TypeId} {key : α -> Value} {ok : α -> Prop} {kl : α -> Lit} {w : World} {b n : Nat} {S : List α}
theorem C5.made (w:World):C5 P k e ok kl (w.alloc (.map #[] 0)) w.heap.size 0 ([]:List α) :=
 ⟨.map [],World.ownsMap_made w P k _,by simp,fun x _=>⟨by simp,fun _=>rfl⟩⟩
theorem C5.kept {w':World} {row:Option Nat} (h:C5 P k e ok kl w b n S) (hg:w.grownBy w' row) (hne:some b≠row):C5 P k e ok kl w' b n S:=by
 obtain⟨D,h1,h2⟩:=h;exact⟨D,h1.kept hg hne,h2⟩
theorem C5.alloc (h:C5 P k e ok kl w b n S) (o:Obj):C5 P k e ok kl (w.alloc o) b n S:=h.kept (World.grownBy_alloc w o none) (by simp)
theorem C5.keep {w':World} (h:C5 P k e ok kl w b n S) (hb:Below w.heap.size w w'):C5 P k e ok kl w' b n S :=
 h.kept (row:=none) ⟨hb.os,hb.tape,hb.output,hb.size,fun k hk _=>hb.block k hk⟩ (by simp)
theorem C5.mono {m:Nat} (h:C5 P k e ok kl w b n S) (hm:n<=m):C5 P k e ok kl w b m S:=by
 obtain⟨D,h1,h2⟩:=h;exact⟨D,h1.mono hm,h2⟩
theorem C5.lt (h:C5 P k e ok kl w b n S):b<w.heap.size:=by obtain⟨D,h1,_⟩:=h;exact h1.lt
theorem C5.isMap (h:C5 P k e ok kl w b n S):∃es c,w.heap[b]? = some (.map es c):=by
 obtain⟨D,⟨es,c,h1,_⟩,_⟩:=h;exact⟨es,c,h1⟩
theorem Ei {e:TypeId} (he:P.underlying e=some .bool) {v:Value} {z:DataW Unit×List MemPlace} (h:plainElem P e v=some z):∃c,v=.bool c/\z=(.lit (.bool c),[]):=by
 unfold plainElem at h;rw[he] at h;cases v<;>simp at h
 exact⟨_,rfl,h.symm⟩
theorem C5.get [DecidableEq α] (K:KeyRep P k key ok kl) (ht:P.underlying t=some (.map k e)) (he:P.underlying e=some .bool) (hz:(zeroValue e).run P w=.ok (.bool false) w) (h:C5 P k e ok kl w b n S) {x:α} (hx:ok x) :
 (Instr.lookup t (.map (some b)) (key x) false).run P w=.ok (.bool (decide (x∈S))) w:=by
 obtain⟨D,h1,h2,h3⟩:=h;obtain⟨v,ps,hrun,hR⟩:=h1.lookup K.law ht hz (plainElem_bool he false) (K.of x hx);obtain⟨c,rfl,hc⟩:=Ei he hR;injection hc with hc _
 by_cases hxS:x∈S
 ·rw[(h3 x hx).1 hxS] at hc
  injection hc with hc;injection hc with hc
  rw[hrun,<-hc,decide_eq_true hxS]
 ·rw[Maps.atKey_of_not_has ((h3 x hx).2 hxS)] at hc
  injection hc with hc;injection hc with hc
  rw[hrun,<-hc,decide_eq_false hxS]
theorem C5.put (K:KeyRep P k key ok kl) (ht:P.underlying t=some (.map k e)) (he:P.underlying e=some .bool) (h:C5 P k e ok kl w b n S) (hn:n<maxLen) {x:α} (hx:ok x) :
 ∃w',(Instr.mapUpdate t (.map (some b)) (key x) (.bool true)).run P w=.ok () w'/\C5 P k e ok kl w' b (n+1) (S++[x])/\w.grownBy w' (some b):=by
 obtain⟨D,h1,h2,h3⟩:=h;obtain⟨w',hrun,r1,r2⟩:=h1.update K.law ht hn (K.of x hx) (plainElem_bool he true);have hM:IsMap D:=by obtain⟨es,c,_,_,_,rfl⟩:=h1;exact⟨_,rfl⟩
 refine⟨w',hrun,⟨_,r1,fun y hy=>?_,fun y hy=>⟨fun hyS z=>?_,fun hyS=>?_⟩⟩,r2⟩
 ·rcases List.mem_append.1 hy with h|h
  ·exact h2 y h
  ·simp at h;subst h;exact hx
 ·by_cases e1:y=x
  ·subst e1;exact Maps.atKey_put_same hM (K.law.key (K.of y hx)) _ _
  ·rw[Maps.atKey_put_other (fun h=>e1 (K.one hy hx h))]
   rcases List.mem_append.1 hyS with h|h
   ·exact(h3 y hy).1 h z
   ·simp at h;exact absurd h e1
 ·have e1:y≠x:=fun h=>hyS (by rw[h];simp)
  rw[Maps.has_put_other (fun h=>e1 (K.one hy hx h))]
  exact(h3 y hy).2 (fun h=>hyS (List.mem_append_left _ h))
theorem Du {ops:Array Oper} {rest:List Oper} {o:Oper} {a:Act} {Q:Exit->Act->World->Prop} (hg:o.guard=none) (m x v:Operand) (t:TypeId) (hop:o.op=Op.mapUpdate t m x v)
 (K:KeyRep P k key ok kl) (ht:P.underlying t=some (.map k e)) (he:P.underlying e=some .bool) (hm:a.eval m=.map (some b)) (h:C5 P k e ok kl w b n S) (hn:n<maxLen) (p:α) (hp:ok p) (hx:a.eval x=key p) (hv:a.eval v=.bool true)
 (hK:∀w',C5 P k e ok kl w' b (n+1) (S++[p])->w.grownBy w' (some b)->wpList P ops Q rest (a.put o.dst undef) w'):wpList P ops Q (o::rest) a w:=by
 refine wpList_plain hg fun K' hK'=>?_
 obtain⟨w',hrun,r1,r2⟩:=h.put K ht he hn hp;unfold Oper.wp;simp[execOp,hop,hm,hx,hv,hrun,Result.andThen];exact hK' _ _ (hK w' r1 r2)
def Ow (P:Program) (k e:TypeId) (ok:α->Prop) (kl:α->Lit) (w:World) (b r n:Nat) (S L:List α) (cnt:Nat):Prop :=
 ∃(D:DataW Unit) (left:Lit->Bool),w.ranges P k (plainElem P e) b r n D left cnt/\(∀x∈S,ok x)/\L.Nodup/\(∀x∈L,x∈S)/\(∀x,ok x->(left (kl x)=true↔x∈S/\¬x∈L))/\(∀x,ok x->Maps.has D (kl x)=true->x∈S)/\(∀l,left l=true->Maps.has D l=true)
theorem Ow.kept {w':World} {row:Option Nat} {r:Nat} {L:List α} {cnt:Nat} (h:Ow P k e ok kl w b r n S L cnt) (hg:w.grownBy w' row) (hb':some b≠row) (hr':some r≠row):Ow P k e ok kl w' b r n S L cnt:=by
 obtain⟨D,left,h1,h2⟩:=h;exact⟨D,left,h1.kept hg hb' hr',h2⟩
theorem Ow.keep {w':World} {r:Nat} {L:List α} {cnt:Nat} (h:Ow P k e ok kl w b r n S L cnt) (hb:Below w.heap.size w w'):Ow P k e ok kl w' b r n S L cnt :=
 h.kept (row:=none) ⟨hb.os,hb.tape,hb.output,hb.size,fun k hk _=>hb.block k hk⟩ (by simp) (by simp)
theorem Ow.left {r:Nat} {L:List α} {cnt:Nat} (h:Ow P k e ok kl w b r n S L cnt):w.rangeLeft b r=cnt:=by
 obtain⟨D,left,h1,_⟩:=h;exact h1.left_eq
theorem Nb {ops:Array Oper} {rest:List Oper} {o:Oper} {a:Act} {Q:Exit->Act->World->Prop} (hg:o.guard=none) (m:Operand) (t:TypeId) (hop:o.op=Op.range t m)
 (K:KeyRep P k key ok kl) (ht:P.underlying t=some (.map k e)) (hm:a.eval m=.map (some b)) (h:C5 P k e ok kl w b n S)
 (hK:∀w' cnt,Ow P k e ok kl w' b w.heap.size n S [] cnt->w.grownBy w' none->w'.heap.size=w.heap.size+1->wpList P ops Q rest (a.put o.dst (.pointer (some ⟨w.heap.size,0,none⟩))) w'):wpList P ops Q (o::rest) a w:=by
 obtain⟨D,h1,h2,h3⟩:=h;refine wpList_range_own w hg m t hop k e K.law ht (plainElem P e) b n D hm h1 fun w' hr hgr hsz=>?_
 refine hK w' _ ⟨D,_,hr,h2,List.nodup_nil,by simp,fun x hx=>⟨fun hh=>⟨?_,by simp⟩,fun hh=>?_⟩,fun x hx hh=>?_,fun l hl=>hl⟩ hgr hsz
 ·by_cases hS:x∈S
  ·exact hS
  ·rw[(h3 x hx).2 hS] at hh;cases hh
 ·exact Maps.has_true_of_atKey ((h3 x hx).1 hh.1)
 ·by_cases hS:x∈S
  ·exact hS
  ·rw[(h3 x hx).2 hS] at hh;cases hh
structure NextIs (P:Program) (k e:TypeId) (key:α->Value) (ok:α->Prop) (kl:α->Lit) (w:World) (b r n:Nat) (S L:List α) (cnt:Nat) where
 x:α
 c:Bool
 w':World
 cnt':Nat
 inS:x∈S
 new:¬x∈L
 rg:Ow P k e ok kl w' b r n S (L++[x]) cnt'
 lt:cnt'<cnt
 gr:w.grownBy w' (some r)
 sz:w'.heap.size=w.heap.size
 en:(Instr.entry (.pointer (some ⟨r,0,none⟩))).run P w'=.ok (.tuple #[key x,.bool c]) w'
theorem Oy {ops:Array Oper} {rest:List Oper} {o:Oper} {a:Act} {Q:Exit->Act->World->Prop} {r:Nat} {L:List α} {cnt:Nat} (hg:o.guard=none) (it:Operand) (hop:o.op=Op.next it false)
 (K:KeyRep P k key ok kl) (he:P.underlying e=some .bool) (hit:a.eval it=.pointer (some ⟨r,0,none⟩)) (h:Ow P k e ok kl w b r n S L cnt)
 (hDone:Hid (∀x,x∈S↔x∈L)->wpList P ops Q rest (a.put o.dst (.tuple #[.bool false])) w)
 (hMore:∀q:NextIs P k e key ok kl w b r n S L cnt,wpList P ops Q rest (a.put o.dst (.tuple #[.bool true,key q.x,.bool q.c])) q.w'):wpList P ops Q (o::rest) a w:=by
 obtain⟨D,left,h1,h2,h3,h4,h5,h6,h7⟩:=h;refine wpList_next_ranges w hg it hop k K.law (plainElem P e) key Value.bool (fun v l hv=>by obtain⟨x,hx,_⟩:=K.inv v l hv;exact⟨x,hx⟩) (fun v y hv=>by obtain⟨c,hc,_⟩:=Ei he hv;exact⟨c,hc⟩) b r n D left cnt hit h1 (fun _ hl=>hDone (Lib.hid fun x=>⟨fun hx=>?_,h4 x⟩)) ?_
 ·have:=(h5 x (h2 x hx))
  rw[hl] at this;by_cases hL:x∈L
  ·exact hL
  ·exact absurd (this.2 ⟨hx,hL⟩) (by simp)
 ·intro x c l y w' cnt' hkey hlk hRv hat hrg hlt hgr hsz hen
  obtain⟨x',ex,hox⟩:=K.inv _ _ hkey;have:=K.inj _ _ ex;subst this
  have hkl:l=kl x:=by
   have:=K.of x hox;rw[hkey] at this;injection this
  subst hkl;obtain⟨hxS,hxL⟩:=(h5 x hox).1 hlk;refine hMore ⟨x,c,w',cnt',hxS,hxL,⟨D,_,hrg,h2,?_,?_,?_,h6,?_⟩,hlt,hgr,hsz,hen⟩
  ·rw[List.nodup_append]
   exact⟨h3,by simp,by simp;intro a ha e;exact hxL (e ▸ ha)⟩
  ·intro z hz
   rcases List.mem_append.1 hz with h|h
   ·exact h4 z h
   ·simp at h;subst h;exact hxS
  ·intro z hz
   simp only[Bool.and_eq_true,Bool.not_eq_true'];rw[h5 z hz];constructor
   ·rintro⟨⟨q1,q2⟩,q3⟩
    refine⟨q1,fun q=>?_⟩
    rcases List.mem_append.1 q with q|q
    ·exact q2 q
    ·simp at q;subst q
     rw[WideAt.sameKey_self (K.law.key hkey)] at q3;cases q3
   ·rintro⟨q1,q2⟩
    refine⟨⟨q1,fun q=>q2 (List.mem_append_left _ q)⟩,?_⟩
    refine Maps.sameKey_ne fun q=>q2 ?_
    rw[K.one hz hox q];simp
  ·intro l hl
   simp only[Bool.and_eq_true] at hl;exact h7 l hl.1
end
theorem Lp:laidOutB Tryz.prog=true:=by kernel_rfl
def inR (n:Int):Prop := -9223372036854775808<=n/\n<=9223372036854775807
theorem N9 {n:Int} (h:inR n):(Lit.int .i64 n).wf=true:=by
 unfold inR at h;exact WalkArith.wf_i64 h
theorem Aaw {n:Int} (h:(Lit.int .i64 n).wf=true):inR n:=by
 unfold inR;have e1:IntKind.i64.min = -9223372036854775808:=by decide
 have e2:IntKind.i64.max=9223372036854775807:=by decide
 simp only[Lit.wf,Bool.and_eq_true,decide_eq_true_eq,e1,e2] at h;exact h
def okS (p:Int×Int):Prop:=inR p.1/\inR p.2
def Adp (p:Int×Int):Value:=.agg #[.int .i64 p.1,.int .i64 p.2]
def klS (p:Int×Int):Lit:=.string (keyBytes [.int .i64 p.1,.int .i64 p.2])
theorem O8:∃m,Tryz.prog.types.size+1=m+5:=⟨Tryz.prog.types.size-4,by have:10<=Tryz.prog.types.size:=of_decide_eq_true (by kernel_rfl);omega⟩
theorem Aft:(match Tryz.prog.underlying 49 with|some (.array _ _)|some (.struct _)=>true|_=>false)=true:=by rw[Tryz.underlying49]
theorem Ak2:(49:TypeId)<Tryz.prog.types.size:=of_decide_eq_true (by kernel_rfl)
theorem Alg:Keyed Tryz.prog 49:=Keyed.of_law (deep_law_laid (P:=Tryz.prog) (k:=49) Lp (m:=3) (by omega) Ak2 (by kernel_rfl) Aft)
theorem cellsI:Tryz.prog.cellsOf 3=1:=by kernel_rfl
theorem Oq:Tryz.prog.cellsOf 49=2:=by kernel_rfl
theorem Ajn:Tryz.prog.keyType 49=true:=by kernel_rfl
theorem Ado (p:Int×Int) (h:okS p):keyOf Tryz.prog 49 (Adp p)=some (klS p):=by
 obtain⟨m,hm⟩:=O8;have h1:=N9 h.1;have h2:=N9 h.2;unfold keyOf Adp klS;rw[hm];simp[Tryz.underlying49,Ajn,Value.formed,Oq,Program.keyLits,Tryz.underlying3,cellsI,Value.cells,h1,h2]
section
variable {P : Program} {t : TypeId} {d : Nat} {cs : List Value} {L : List Lit}
theorem Tn (hu:P.underlying t=some (.int .i64)) {a:Value} (h:P.keyLits (d+1) t [a]=some L):∃n,a=.int .i64 n/\inR n:=by
 unfold Program.keyLits at h;rw[hu] at h;cases a<;>simp at h
 obtain⟨⟨rfl,h1⟩,_⟩:=h;exact⟨_,rfl,Aaw h1⟩
theorem Agy (hu:P.underlying t=some .bool) {a:Value} (h:P.keyLits (d+1) t [a]=some L):∃n,a=.bool n:=by
 unfold Program.keyLits at h;rw[hu] at h;cases a<;>simp at h
 exact⟨_,rfl⟩
theorem lq {f1 f2:Field} (hu:P.underlying t=some (.struct #[f1,f2])) (h:P.keyLits (d+1) t cs=some L) :
 cs.length=P.cellsOf t/\(∃L1,P.keyLits d f1.type ((cs.drop f1.offset).take (P.cellsOf f1.type))=some L1)/\∃L2,P.keyLits d f2.type ((cs.drop f2.offset).take (P.cellsOf f2.type))=some L2:=by
 unfold Program.keyLits at h;rw[hu] at h;simp only at h;split at h
 ·rename_i hc
  refine⟨hc.1,?_⟩;cases h1:P.keyLits d f1.type ((cs.drop f1.offset).take (P.cellsOf f1.type)) with
  | none=>simp[h1] at h
  | some L1 =>
    cases h2:P.keyLits d f2.type ((cs.drop f2.offset).take (P.cellsOf f2.type)) with
    | none=>simp[h1,h2] at h
    | some L2=>exact⟨⟨L1,rfl⟩,⟨L2,rfl⟩⟩
 ·cases h
theorem Yf {f1 f2 f3:Field} (hu:P.underlying t=some (.struct #[f1,f2,f3])) (h:P.keyLits (d+1) t cs=some L) :
 cs.length=P.cellsOf t/\(∃L1,P.keyLits d f1.type ((cs.drop f1.offset).take (P.cellsOf f1.type))=some L1)/\(∃L2,P.keyLits d f2.type ((cs.drop f2.offset).take (P.cellsOf f2.type))=some L2)/\∃L3,P.keyLits d f3.type ((cs.drop f3.offset).take (P.cellsOf f3.type))=some L3:=by
 unfold Program.keyLits at h;rw[hu] at h;simp only at h;split at h
 ·rename_i hc
  refine⟨hc.1,?_⟩;cases h1:P.keyLits d f1.type ((cs.drop f1.offset).take (P.cellsOf f1.type)) with
  | none=>simp[h1] at h
  | some L1 =>
    cases h2:P.keyLits d f2.type ((cs.drop f2.offset).take (P.cellsOf f2.type)) with
    | none=>simp[h1,h2] at h
    | some L2 =>
      cases h3:P.keyLits d f3.type ((cs.drop f3.offset).take (P.cellsOf f3.type)) with
      | none=>simp[h1,h2,h3] at h
      | some L3=>exact⟨⟨L1,rfl⟩,⟨L2,rfl⟩,⟨L3,rfl⟩⟩
 ·cases h
end
theorem Akh {xs:List Value} (h:xs.length=2):∃a b,xs=[a,b]:=by
 match xs,h with
 | [a,b],_=>exact⟨a,b,rfl⟩
theorem Ale {xs:List Value} (h:xs.length=6):∃a b c d e f,xs=[a,b,c,d,e,f]:=by
 match xs,h with
 | [a,b,c,d,e,f],_=>exact⟨a,b,c,d,e,f,rfl⟩
theorem Abn {d:Nat} {xs:List Value} {L:List Lit} (h:Tryz.prog.keyLits (d+2) 49 xs=some L):∃x y,xs=[.int .i64 x,.int .i64 y]/\inR x/\inR y:=by
 obtain⟨h1,⟨L1,h2⟩,⟨L2,h3⟩⟩:=lq Tryz.underlying49 h;rw[Oq] at h1;rw[cellsI] at h2 h3;obtain⟨a,b,rfl⟩:=Akh h1;simp only[List.drop_zero,List.drop_succ_cons,List.take_succ_cons,List.take_zero] at h2 h3;obtain⟨x,rfl,hx⟩:=Tn (P:=Tryz.prog) Tryz.underlying3 h2;obtain⟨y,rfl,hy⟩:=Tn (P:=Tryz.prog) Tryz.underlying3 h3;exact⟨x,y,rfl,hx,hy⟩
theorem yc (v:Value) (l:Lit) (h:keyOf Tryz.prog 49 v=some l):∃p,v=Adp p/\okS p:=by
 obtain⟨m,hm⟩:=O8;obtain⟨xs,L,rfl,h1,rfl⟩:=keyOf_top (P:=Tryz.prog) (k:=49) Aft h;rw[hm] at h1;obtain⟨x,y,hxs,h2,h3⟩:=Abn h1;refine⟨(x,y),?_,h2,h3⟩;unfold Adp;rw[show xs=#[.int .i64 x,.int .i64 y] by apply Array.ext';simpa using hxs]
theorem vw:KeyRep Tryz.prog 49 Adp okS klS where
 law:=Alg
 of:=Ado
 inv:=yc
 inj x y h:=by
  unfold Adp at h;injection h with h
  injection h with h
  simp at h;exact Prod.ext h.1 h.2
end
end Go.Proofs.YtpbchbcdgikonaaGreat
