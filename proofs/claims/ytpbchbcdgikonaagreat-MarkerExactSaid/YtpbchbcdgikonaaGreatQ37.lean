/- Lean texts of the claim. -/
import Derived.Test.YtpbchbcdgikonaaGreatQ36
namespace Go.Proofs.YtpbchbcdgikonaaGreat
set_option linter.unusedVariables false
set_option linter.unusedSimpArgs false
set_option maxRecDepth 100000
set_option maxHeartbeats 4000000
open Go.RowKit
theorem Ob {l:List Int} {i:Nat} (h:i<l.length):gi l i=l[i]:=by
 unfold gi;rw[List.getD,List.getElem?_eq_getElem h];rfl
theorem Pz (f:Int->Int->Int):∀(j:Nat) (l:List Int),j<l.length->(J1 f l j).Perm l
 | 0,l,_=>by rw[J1]
 | j+1,l,h=>by
   rw[J1];split
   ·have h2:=@List.set_set_perm _ l (j+1) j h (by omega)
    rw[Ob h,Ob (show j<l.length by omega)]
    exact(Pz f j _ (by simp;omega)).trans h2
   ·exact List.Perm.refl _
theorem Jd (f:Int->Int->Int) (l:List Int):∀i,i<=l.length->(Iw f l i).Perm l
 | 0,_=>List.Perm.refl _
 | i+1,h=>by
   have ih:=Jd f l i (by omega)
   rw[Iw];exact(Pz f i _ (by rw[ih.length_eq];omega)).trans ih
theorem Nr (S:List Shp):(Jx S).Perm ((List.range S.length).map fun i:Nat=>(i:Int)):=Jd _ _ _ (by simp)
theorem ll {a c:PlcP} (h:kt a=kt c) (hf:a.fl=c.fl) (p:Pt5):az a p=az c p:=by
 unfold kt at h;injection h with h1 h2
 injection h2 with h2 h3
 unfold az;rw[h1,h2,h3,hf]
theorem Ac0 {l:List PlcP} {t i:Nat} {x:PlcP} (h:i<l.length):plc (l.set t x) i=if t=i then x else plc l i:=by
 unfold plc;rw[List.getD,List.getD,List.getElem?_set];by_cases g:t=i
 ·rw[if_pos g,if_pos g,if_pos (by omega)];rfl
 ·rw[if_neg g,if_neg g]
theorem Ye {C:List PlcP} {P:List Pt5}:∀(k i:Nat),i<C.length->(∃j,j<k/\(pt P j).sh.toNat=i)->∃j,j<k/\(pt P j).sh.toNat=i/\plc (Cp C P k) i=az (plc C i) (pt P j)
 | 0,i,_,h=>by obtain⟨j,hj,_⟩:=h;omega
 | k+1,i,hi,h=>by
   obtain⟨s1,s2⟩:=Cb (C:=C) (P:=P) k;rw[Cp,Ac0 (by rw[s1];exact hi)]
   by_cases g:(pt P k).sh.toNat=i
   ·rw[if_pos g]
    refine⟨k,by omega,g,?_⟩
    rw[g];exact ll (s2 i hi).1 (s2 i hi).2 _
   ·rw[if_neg g]
    obtain⟨j,hj,hs⟩:=h
    have hjk:j<k:=by
     rcases Nat.lt_or_ge j k with q|q
     ·exact q
     ·obtain rfl:j=k:=by omega
      exact absurd hs g
    obtain⟨j',h1,h2,h3⟩:=Ye k i hi ⟨j,hjk,hs⟩;exact⟨j',by omega,h2,h3⟩
theorem kg {α β:Type} {l:List α} {f:α->β} (h:(l.map f).Nodup) {a c:α} (ha:a∈l) (hc:c∈l) (e:f a=f c):a=c:=by
 obtain⟨i,hi,rfl⟩:=List.mem_iff_getElem.1 ha;obtain⟨j,hj,rfl⟩:=List.mem_iff_getElem.1 hc;have hp:=List.pairwise_iff_getElem.1 (List.pairwise_map.1 h);rcases Nat.lt_trichotomy i j with g|g|g
 ·exact absurd e (hp i j hi hj g)
 ·subst g;rfl
 ·exact absurd e.symm (hp j i hj hi g)
theorem Q7 {S:List Shp} {C:List PlcP} {P:List Pt5} (hC:(C.map kt).Nodup) (hl:S.length=C.length) (hP:P.map (·.sh)=Jx S) (hf:∀p∈P,p.fl=false) :
 ((Cp C P P.length).map (Kc C)).Perm P/\∀i,i<C.length->∃p,p∈P/\p.sh=i/\plc (Cp C P P.length) i=az (plc C i) p/\Kc C (plc (Cp C P P.length) i)=p:=by
 have hperm:=Nr S;have hnd:(P.map (·.sh)).Nodup:=by rw[hP];exact hperm.nodup_iff.2 (L9 _)
 have hmem:∀z:Int,z∈P.map (·.sh)↔∃i,i<C.length/\(i:Int)=z:=by
  intro z;rw[hP,hperm.mem_iff,hl];simp
 have key:∀i,i<C.length->∃p,p∈P/\p.sh=i/\plc (Cp C P P.length) i=az (plc C i) p/\Kc C (plc (Cp C P P.length) i)=p:=by
  intro i hi;obtain⟨p,hp,e⟩:=List.mem_map.1 ((hmem i).2 ⟨i,hi,rfl⟩);obtain⟨k,hk,rfl⟩:=List.mem_iff_getElem.1 hp;obtain⟨j,hj,hs,hlay⟩:=Ye (C:=C) (P:=P) P.length i hi ⟨k,hk,by rw[Dy hk,e];simp⟩
  have hsh:(pt P j).sh=i:=by
   obtain⟨q,_,hq⟩:=(hmem (pt P j).sh).1 (List.mem_map.2 ⟨_,Jn hj,rfl⟩);omega
  refine⟨pt P j,Jn hj,hsh,hlay,?_⟩;have hfl:=hf _ (Jn hj);have hk2:=Ads hC hi (p:=plc (Cp C P P.length) i) (by rw[hlay];rfl)
  unfold Kc;rw[hk2,hlay];clear hk2 hlay hs;generalize pt P j=q at *
  obtain⟨sh,fl,qu,x,y⟩:=q;dsimp only at hsh hfl;subst hsh hfl;rfl
 refine⟨(List.perm_ext_iff_of_nodup ?_ ?_).2 fun a=>⟨fun ha=>?_,fun ha=>?_⟩,key⟩
 ·have h2:((Cp C P P.length).map (kI C)).Nodup:=by rw[Abm hC];exact L9 _
  exact List.pairwise_map.2 (List.Pairwise.imp (fun h e=>h (congrArg Pt5.sh e)) (List.pairwise_map.1 h2))
 ·exact List.Pairwise.imp (fun h e=>h (congrArg Pt5.sh e)) (List.pairwise_map.1 hnd)
 ·obtain⟨c,hc,rfl⟩:=List.mem_map.1 ha
  obtain⟨i,hi,rfl⟩:=List.mem_iff_getElem.1 hc;have hi2:i<C.length:=by rw[(Cb P.length).1] at hi;exact hi
  obtain⟨p,h1,_,_,h4⟩:=key i hi2;rw[<-Dd hi,h4];exact h1
 ·obtain⟨i,hi,e⟩:=(hmem a.sh).1 (List.mem_map.2 ⟨a,ha,rfl⟩)
  obtain⟨p,h1,h2,_,h4⟩:=key i hi;have:p=a:=kg hnd h1 ha (by show p.sh=a.sh;omega)
  subst this;have hi2:i<(Cp C P P.length).length:=by rw[(Cb P.length).1];exact hi
  rw[<-h4,Dd hi2];exact List.mem_map.2 ⟨_,List.getElem_mem hi2,rfl⟩
theorem mw {b:Bed4} {S:List Shp} {ps:List Pt5} {p:Pt5} (h:Dm b S ps p=0):p.fl=false:=by
 have h3:=(Co h).2.2;unfold Lt at h3;split at h3
 ·cases h3
 ·rename_i g
  unfold Zf at g;cases hf:p.fl with
  | false=>rfl
  | true=>rw[hf] at g;simp at g
theorem Qq {b:Bed4} {S:List Shp} {os:List Int} (h:(Ho b S os).1=0):Ic b S (Ho b S os).2=0/\(Ho b S os).2.map (·.sh)=os/\∀p∈(Ho b S os).2,p.fl=false:=by
 obtain⟨h60,_,hlen,hf⟩:=U0 h;refine⟨?_,?_,fun p hp=>?_⟩
 ·unfold Ic
  rw[hlen,if_neg (by omega),Gj]
  exact fun k hk=>(hf k hk).1
 ·apply List.ext_getElem
  ·simp[hlen]
  ·intro i h1 h2
   have:=(hf i h2).2;rw[Ob h2,Dy (by omega)] at this
   simpa using this
 ·obtain⟨i,hi,rfl⟩:=List.mem_iff_getElem.1 hp
  have:=mw (hf i (by omega)).1
  rwa [Dy hi] at this
theorem K6 {s:StyleP} {b:Bed4} {Z:List Int} (h:(Bz s b Z).1=0):∃S C P,Bd s Z=(0,S,C)/\S.length=C.length/\(C.map kt).Nodup/\Ho b S (Jx S)=(0,P)/\(Mo S P).1=0 /\
 (Bz s b Z).2=⟨(Mo S P).2,b.wid,b.rx,b.ry,Z,Cp C P P.length⟩:=by
 unfold Bz at h ⊢;split at h
 ·rename_i g;exact absurd h g
 ·rename_i g0
  split at h
  ·rename_i g;exact absurd h g
  ·rename_i g1
   split at h
   ·rename_i g;exact absurd h g
   ·rename_i g2
    rw[if_neg g0,if_neg g1,if_neg g2];have h0:(Bd s Z).1=0:=by simpa using g0
    refine⟨_,_,_,Prod.ext h0 rfl,?_,Uw h0,Prod.ext (by simpa using g1) rfl,by simpa using g2,rfl⟩
    rw[(Fi h0).1];dsimp only;rw[Hm,Hi]
theorem Aex {C:List PlcP} {S:List Shp} {m:MkP} (h1:∀p∈m.pl,0<=kI C p) (h2:(m.pl.map (kI C)).Nodup) (h3:∀t,t<C.length->(t:Int)∈m.pl.map (kI C)) (h4:∀p∈m.pl,p.fl=(plc C (kI C p).toNat).fl) :
 Aaj C S m (Ft C m.pl m.pl.length)=if Ic (Y8 m) S (m.pl.map (Kc C))≠0 then (Ic (Y8 m) S (m.pl.map (Kc C)),[],[]) else (0,S,m.pl.map (Kc C)):=by
 have hT:m.pl.take m.pl.length=m.pl:=List.take_length;have h0:=Wg (C:=C) (P:=m.pl) m.pl.length (Nat.le_refl _) (by rw[hT];exact h1) (by rw[hT];exact h2)
 obtain⟨_,_,i3,i4,i5⟩:=I4 m.pl.length (Nat.le_refl _) h0;rw[hT] at i3 i5;unfold Aaj;rw[if_neg (by rw[h0];simp),if_neg,if_neg,i3]
 ·intro h
  obtain⟨i,hi,hb⟩:=Bq.iff.1 h;rw[i3] at hb;have e:pt (m.pl.map (Kc C)) i=Kc C m.pl[i]:=by rw[Dy (by simpa using hi)];simp
  rw[e,Dd hi] at hb;have:=h4 _ (List.getElem_mem hi);simp[Kc,this] at hb
 ·intro h
  obtain⟨i,hi,hb⟩:=Bq.iff.1 h;have:=(i5 i).2 (h3 i hi);simp[this] at hb
theorem I1 {s:StyleP} {b:Bed4} {Z:List Int} {S:List Shp} {C:List PlcP} {P:List Pt5} (h0:Bd s Z=(0,S,C)) (hl:S.length=C.length) (hC:(C.map kt).Nodup) (hr:Ho b S (Jx S)=(0,P)) (len:Int) :
 Fs s ⟨len,b.wid,b.rx,b.ry,Z,Cp C P P.length⟩=if Ic (Gz b len) S ((Cp C P P.length).map (Kc C))≠0 then (Ic (Gz b len) S ((Cp C P P.length).map (Kc C)),[],[]) else (0,S,(Cp C P P.length).map (Kc C)):=by
 obtain⟨c1,c2,c3⟩:=Qq (b:=b) (S:=S) (os:=Jx S) (by rw[hr])
 rw[hr] at c1 c2 c3;have hk:=Abm hC P P.length;unfold Fs;dsimp only;rw[h0,if_neg (by simp)]
 dsimp only;rw[Aex]
 ·rfl
 ·dsimp only
  intro p hp;have:kI C p∈(Cp C P P.length).map (kI C):=List.mem_map.2 ⟨p,hp,rfl⟩;rw[hk] at this;obtain⟨j,_,e⟩:=List.mem_map.1 this;omega
 ·dsimp only;rw[hk];exact L9 _
 ·dsimp only;rw[hk];intro t ht;exact List.mem_map.2 ⟨t,List.mem_range.2 ht,rfl⟩
 ·dsimp only
  intro p hp;obtain⟨i,hi,rfl⟩:=List.mem_iff_getElem.1 hp;have hi2:i<C.length:=by rw[(Cb P.length).1] at hi;exact hi
  obtain⟨s1,s2⟩:=(Cb (C:=C) (P:=P) P.length).2 i hi2;rw[Dd hi] at s1 s2;rw[Ads hC hi2 s1,s2];rfl
theorem dh {b:Bed4} {l:Int} {S:List Shp} {ps:List Pt5} {p:Pt5} (h:Dm b S ps p=0) (hl:Dc (Gz b l)=false) :
 (Dm (Gz b l) S ps p=0/\O3 (Be S p).2<=l)\/(Dm (Gz b l) S ps p=13/\l<O3 (Be S p).2):=by
 obtain⟨_,h2,h3⟩:=Co h;have hpos:0<(Be S p).2.length:=by obtain⟨_,_,e,_,h5,_⟩:=G9 h2;rw[e];unfold km;simp;omega
 have e:Dm (Gz b l) S ps p=Lt (Gz b l) S ps p (shp S p.sh.toNat) (Be S p).2:=by
  unfold Dm;rw[hl,if_neg (by simp),if_neg (by rw[h2];simp)]
 rw[e];unfold Lt at h3 ⊢;split at h3
 ·cases h3
 ·rename_i g1
  rw[if_neg g1];split at h3
  ·cases h3
  ·rename_i g2
   by_cases g3:Bq (fun i=>Da (Gz b l) (gt (Be S p).2 i)) (Be S p).2.length=true
   ·rw[if_pos g3]
    refine .inr ⟨rfl,?_⟩;obtain⟨i,hi,ho⟩:=Bq.iff.1 g3
    have ho2:Da b (gt (Be S p).2 i)=false:=by
     cases hq:Da b (gt (Be S p).2 i) with
     | false=>rfl
     | true=>exact absurd (Bq.yes (f:=fun i=>Da b (gt (Be S p).2 i)) hi hq) g2
    have:=(Jz hpos (z:=O3 (Be S p).2)).1 (Int.le_refl _) _ (Oa hi);unfold Da Gz at ho;unfold Da at ho2;simp at ho ho2;omega
   ·rw[if_neg g3]
    refine .inl ⟨h3,?_⟩;rw[Jz hpos];intro q hq;obtain⟨i,hi,rfl⟩:=Nx hq;cases ho:Da (Gz b l) (gt (Be S p).2 i) with
    | true=>exact absurd (Bq.yes (f:=fun i=>Da (Gz b l) (gt (Be S p).2 i)) hi ho) g3
    | false=>unfold Da Gz at ho;simp at ho;omega
theorem Yl {f:Nat->Int} {c:Int}:∀{n:Nat},(∀i,i<n->f i=0\/f i=c)->Gk f n=0\/Gk f n=c
 | 0,_=>.inl rfl
 | n+1,h=>by
   rw[Gk];split
   ·exact h n (by omega)
   ·exact Yl fun i hi=>h i (by omega)
theorem Ym {f:Nat->Int} {c:Int} {n i:Nat} (h:∀i,i<n->f i=0\/f i=c) (hi:i<n) (hc:f i=c) (h0:c≠0):Gk f n=c:=by
 rcases Yl h with g|g
 ·exact absurd (Gj.1 g i hi) (by rw[hc];exact h0)
 ·exact g
theorem qk {b:Bed4} {l:Int} {S:List Shp} {ps:List Pt5} (h:Ic b S ps=0) (hl:Dc (Gz b l)=false) :
 ((∀p∈ps,O3 (Be S p).2<=l)->Ic (Gz b l) S ps=0)/\((∃p∈ps,l<O3 (Be S p).2)->Ic (Gz b l) S ps=13):=by
 unfold Ic at h ⊢;split at h
 ·cases h
 ·rename_i h60
  rw[if_neg h60];have hf:=fun i hi=>dh (l:=l) (Gj.1 h i hi) hl
  constructor
  ·intro hm
   rw[Gj];intro i hi;rcases hf i hi with g|g
   ·exact g.1
   ·have:=hm _ (Jn hi)
    have:=g.2;omega
  ·rintro⟨p,hp,hlt⟩
   obtain⟨i,hi,rfl⟩:=List.mem_iff_getElem.1 hp;rw[<-Dy hi] at hlt;refine Ym (fun i hi=>?_) hi ?_ (by decide)
   ·rcases hf i hi with g|g
    ·exact .inl g.1
    ·exact .inr g.1
   ·rcases hf i hi with g|g
    ·have:=g.2;omega
    ·exact g.1
theorem qj {b:Bed4} {S:List Shp} {ps:List Pt5} (hb:Dc b=true) (h0:0<ps.length) (h60:ps.length<=60):Ic b S ps=3:=by
 unfold Ic;rw[if_neg (by omega)]
 have h3:∀i,i<ps.length->Dm b S (ps.take i) (pt ps i)=3:=fun i _=>by unfold Dm;rw[if_pos hb]
 exact Ym (fun i hi=>.inr (h3 i hi)) h0 (h3 0 h0) (by decide)
theorem Aay (f:Nat->Int):∀n,0<n->∃m,m<n/\∀i,i<n->f i<=f m
 | 0,h=>by omega
 | n+1,_=>by
   rcases Nat.eq_zero_or_pos n with h|h
   ·exact⟨0,by omega,fun i hi=>by
    obtain rfl:i=0:=by omega
    exact Int.le_refl _⟩
   ·obtain⟨m,hm,hall⟩:=Aay f n h
    rcases Int.lt_or_le (f m) (f n) with g|g
    ·refine⟨n,by omega,fun i hi=>?_⟩
     rcases Nat.lt_or_ge i n with q|q
     ·have:=hall i q;omega
     ·obtain rfl:i=n:=by omega
      exact Int.le_refl _
    ·refine⟨m,by omega,fun i hi=>?_⟩
     rcases Nat.lt_or_ge i n with q|q
     ·exact hall i q
     ·obtain rfl:i=n:=by omega
      exact g
theorem Ajf {l:List (Int×Int)} (hc:Bf l l.length=0) (h0:∀q∈l,0<=q.1):1<=O3 l:=by
 obtain⟨h3,h40,hin,hs⟩:=L7 hc;apply Classical.byContradiction;intro hn
 have hx:∀i,i<l.length->(gt l i).1=0:=by
  intro i hi;have h1:=h0 _ (Oa hi);have h2:=(Jz (by omega) (z:=O3 l)).1 (Int.le_refl _) _ (Oa hi)
  omega
 obtain⟨m,hm,hall⟩:=Aay (fun i=>(gt l i).2) l.length (by omega)
 obtain⟨k,hk,hk1⟩:∃k,k<l.length/\(k+1) % l.length=m:=by
  rcases Nat.eq_zero_or_pos m with g|g
  ·exact⟨l.length-1,by omega,by rw[show l.length-1+1=l.length by omega,Nat.mod_self,g]⟩
  ·exact⟨m-1,by omega,by rw[show m-1+1=m by omega,Nat.mod_eq_of_lt hm]⟩
 have hq:(k+2) % l.length<l.length:=Nat.mod_lt _ (by omega)
 have hkm:k≠m:=by
  intro e;subst e;rcases Nat.lt_or_ge (k+1) l.length with g|g
  ·rw[Nat.mod_eq_of_lt g] at hk1;omega
  ·rw[show k+1=l.length by omega,Nat.mod_self] at hk1;omega
 have hqm:(k+2) % l.length≠m:=by
  intro e;have e2:(k+2) % l.length=(m+1) % l.length:=by rw[<-hk1,Nat.mod_add_mod]
  rw[e2] at e;rcases Nat.lt_or_ge (m+1) l.length with g|g
  ·rw[Nat.mod_eq_of_lt g] at e;omega
  ·rw[show m+1=l.length by omega,Nat.mod_self] at e;omega
 have n1:=Yx hc hk hm hkm;have n2:=Yx hc hq hm hqm;have a1:=hall k hk;have a2:=hall _ hq;have x1:=hx k hk;have x2:=hx m hm;have x3:=hx _ hq;have i1:=hin k hk;have i2:=hin m hm;have i3:=hin _ hq
 have hf:J3 (gt l k) (gt l ((k+1) % l.length)) (gt l ((k+2) % l.length))=true:=by
  rw[hk1];generalize gt l k=a at *
  generalize gt l m=c at *
  generalize gt l ((k+2) % l.length)=d at *
  obtain⟨ax,ay⟩:=a;obtain⟨cx,cy⟩:=c;obtain⟨dx,dy⟩:=d;unfold Vr at i1 i2 i3;dsimp only at *
  subst x1 x2 x3
  have p1:ay<cy:=by
   rcases Int.lt_or_eq_of_le a1 with g|g
   ·exact g
   ·subst g;exact absurd rfl n1
  have p2:dy<cy:=by
   rcases Int.lt_or_eq_of_le a2 with g|g
   ·exact g
   ·subst g;exact absurd rfl n2
  have w1:wrap64 (ay-cy)=ay-cy:=Dn (by omega) (by omega)
  have w2:wrap64 (dy-cy)=dy-cy:=Dn (by omega) (by omega)
  have w0:wrap64 (0-0)=0:=Dn (by omega) (by omega)
  have hp:0<(cy-ay)*(cy-dy):=Int.mul_pos (by omega) (by omega)
  have hp2:(cy-ay)*(cy-dy)<=4194304*4194304:=Int.mul_le_mul (by omega) (by omega) (by omega) (by omega)
  have he:(ay-cy)*(dy-cy)=(cy-ay)*(cy-dy):=by grind
  unfold J3 Bo;dsimp only;rw[w1,w2,w0,he];generalize (cy-ay)*(cy-dy)=z at *
  have wz:wrap64 z=z:=by unfold wrap64;omega
  simp only[Int.zero_mul,Int.mul_zero];rw[wz,show wrap64 0=0 from Dn (by omega) (by omega)]
  simp only[Int.sub_zero,Int.zero_add];rw[wz,show wrap64 0=0 from Dn (by omega) (by omega)]
  simp;exact hp
 rw[Sr hk hf] at hs;cases hs
theorem Kn {s:StyleP} {b:Bed4} {Z:List Int} (h:(Bz s b Z).1=0) (hp:0<(Bz s b Z).2.pl.length) :
 1<=(Bz s b Z).2.len/\(Bz s b Z).2.len<=1048576/\(∀l,(Bz s b Z).2.len<=l->l<=1048576->(Fs s { (Bz s b Z).2 with len:=l }).1=0) /\
 (Fs s { (Bz s b Z).2 with len:=(Bz s b Z).2.len-1 }).1=if (Bz s b Z).2.len-1<1 then 3 else 13:=by
 obtain⟨S,C,P,h0,hl,hC,hr,he,hm⟩:=K6 h;rw[hm] at hp ⊢;dsimp only at hp ⊢;obtain⟨c1,c2,c3⟩:=Qq (b:=b) (S:=S) (os:=Jx S) (by rw[hr])
 rw[hr] at c1 c2 c3;dsimp only at c1 c2 c3;obtain⟨hperm,-⟩:=Q7 hC hl c2 c3;have hPL:P.length=C.length:=by have:=hperm.length_eq;rw[List.length_map,(Cb P.length).1] at this;exact this.symm
 have hpos:0<P.length:=by rw[(Cb P.length).1] at hp;omega
 obtain⟨k60,kf,-⟩:=L6.1 c1;obtain⟨E,hE⟩:∃E,(Mo S P).2=E:=⟨_,rfl⟩
 unfold Mo at he hE;obtain⟨e1,e2⟩:=Ty he;obtain⟨i,hi,ei⟩:=e2 hpos;rw[hE] at e1 ei
 have hall:∀p∈P,O3 (Be S p).2<=E:=by
  intro p hp;obtain⟨j,hj,rfl⟩:=List.mem_iff_getElem.1 hp;rw[<-Dy hj];exact(e1 j hj).2
 have hfi:=kf _ (Jn hi);have hbed:Dc b=false:=(Co hfi).1;have hEb:E<=b.len:=by rw[ei];exact Tx hfi
 have hE1:1<=E:=by
  rw[ei];refine Ajf (Ed (Co hfi).2.1) fun q hq=>?_
  have h3:=(Co hfi).2.2;unfold Lt at h3;split at h3
  ·cases h3
  ·split at h3
   ·cases h3
   ·rename_i g2
    obtain⟨j,hj,rfl⟩:=Nx hq;cases ho:Da b (gt (Be S (pt P i)).2 j) with
    | true=>exact absurd (Bq.yes (f:=fun i'=>Da b (gt (Be S (pt P i)).2 i')) hj ho) g2
    | false=>unfold Da at ho;simp at ho;omega
 have hbb:=hbed;unfold Dc at hbb;simp at hbb
 have hgood:∀l,1<=l->l<=1048576->Dc (Gz b l)=false:=by
  intro l l1 l2;unfold Dc Gz;simp;omega
 change 1<=(Ef S P P.length).2/\_
 rw[show (Mo S P).2=E from hE,hE]
 refine⟨hE1,by omega,fun l l1 l2=>?_,?_⟩
 ·have h1:=((qk c1 (hgood l (by omega) l2)).1) fun p hp=>by have:=hall p hp;omega
  rw[I1 h0 hl hC hr,if_neg (fun hne=>hne ((Kz hperm).2 h1))]
 ·rw[I1 h0 hl hC hr]
  by_cases hs:E-1<1
  ·have hb3:=qj (S:=S) (ps:=(Cp C P P.length).map (Kc C)) (b:=Gz b (E-1)) (by unfold Dc Gz;simp;omega) (by rw[List.length_map];exact hp) (by rw[hperm.length_eq];exact k60)
   rw[if_pos hs,hb3,if_pos (by decide)]
  ·have hch:Ic (Gz b (E-1)) S ((Cp C P P.length).map (Kc C))=13:=by
    have hbase:Ic b S ((Cp C P P.length).map (Kc C))=0:=(Kz hperm).2 c1;refine(qk hbase (hgood (E-1) (by omega) (by omega))).2 ⟨pt P i,hperm.mem_iff.2 (Jn hi),?_⟩
    omega
   rw[if_neg hs,hch,if_pos (by decide)]
def arT (l:List (Int×Int)) (n:Nat):Nat->Int
 | 0=>0
 | k+1=>arT l n k+((gt l k).1*(gt l ((k+1) % n)).2-(gt l k).2*(gt l ((k+1) % n)).1)
theorem Agq {x y:Int} (h1 : -1048576<=x) (h2:x<=1048576) (h3 : -1048576<=y) (h4:y<=1048576) : -1099511627776<=x*y/\x*y<=1099511627776:=by
 have h:=Nat.mul_le_mul (show x.natAbs<=1048576 by omega) (show y.natAbs<=1048576 by omega)
 rw[<-Int.natAbs_mul] at h;generalize x*y=z at h ⊢;omega
theorem Zb {l:List (Int×Int)} (hl:∀q∈l,Ep 1048576 q) (hn:l.length<=45):∀k,k<=l.length->Ma l l.length k=arT l l.length k /\ -(k:Int)*2199023255552<=arT l l.length k/\arT l l.length k<=(k:Int)*2199023255552
 | 0,_=>by simp[Ma,arT]
 | k+1,hk=>by
   obtain⟨ih,b1,b2⟩:=Zb hl hn k (by omega)
   have n1:=hl _ (Oa (l:=l) (i:=k) (by omega))
   have n2:=hl _ (Oa (l:=l) (i:=(k+1) % l.length) (Nat.mod_lt _ (by omega)))
   unfold Ep at n1 n2;have m1:=Agq (x:=(gt l k).1) (y:=(gt l ((k+1) % l.length)).2) (by omega) (by omega) (by omega) (by omega)
   have m2:=Agq (x:=(gt l k).2) (y:=(gt l ((k+1) % l.length)).1) (by omega) (by omega) (by omega) (by omega)
   rw[Ma,arT,ih];generalize (gt l k).1*(gt l ((k+1) % l.length)).2=u at *
   generalize (gt l k).2*(gt l ((k+1) % l.length)).1=v at *
   generalize arT l l.length k=a at *
   have kk:(k:Int)<=45:=by omega
   rw[show wrap64 u=u by unfold wrap64;omega,show wrap64 v=v by unfold wrap64;omega,show wrap64 (u-v)=u-v by unfold wrap64;omega,show wrap64 (a+(u-v))=a+(u-v) by unfold wrap64;omega]
   refine⟨by omega,by omega,by omega⟩
theorem Rb {f:Int×Int->Int×Int} {l:List (Int×Int)} {i:Nat} (h:i<l.length):gt (l.map f) i=f (gt l i):=by
 unfold gt;rw[List.getD,List.getD,List.getElem?_map,List.getElem?_eq_getElem h];rfl
theorem Zc {l:List (Int×Int)} (hl:∀q∈l,Ep 1048576 q):∀k,k<=l.length->arT (l.map Afc) l.length k=arT l l.length k
 | 0,_=>rfl
 | k+1,hk=>by
   have hm:(k+1) % l.length<l.length:=Nat.mod_lt _ (by omega)
   rw[arT,arT,Zc hl k (by omega),Rb (by omega),Rb hm]
   have n1:=hl _ (Oa (l:=l) (i:=k) (by omega))
   have n2:=hl _ (Oa hm);unfold Ep at n1 n2;unfold Afc;dsimp only;rw[Dn (by omega) (by omega),Dn (by omega) (by omega)]
   grind
theorem Aai {l:List (Int×Int)} (hl:∀q∈l,Ep 1048576 q):∀n,arT (l.map (R6 n)) l.length l.length=arT l l.length l.length:=by
 intro n;induction n with
 | zero =>
   rw[show (R6 0:Int×Int->Int×Int)=id from funext fun q=>rfl,List.map_id]
 | succ n ih =>
   have e:l.map (R6 (n+1))=(l.map (R6 n)).map Afc:=by rw[List.map_map];rfl
   have h2:=Zc (l:=l.map (R6 n)) (fun q hq=>by
    obtain⟨p,hp,rfl⟩:=List.mem_map.1 hq;exact Su (by omega) n (hl p hp)) l.length (by rw[List.length_map];exact Nat.le_refl _)
   rw[List.length_map] at h2;rw[e,h2,ih]
theorem Aah {l:List (Int×Int)} (hl:∀q∈l,Ep 1048576 q) (u:Int):arT (Fv false u l) l.length l.length=arT l l.length l.length:=by
 unfold Fv;rw[if_neg (by simp)]
 have:C4 false u=R6 (u % 4).toNat:=funext fun q=>rfl
 rw[this,Aai hl]
theorem Qi {l:List (Int×Int)} {x y:Int}:∀k,k<=l.length->arT (km l x y) l.length k=arT l l.length k+(x*((gt l (k % l.length)).2-(gt l 0).2)-y*((gt l (k % l.length)).1-(gt l 0).1))
 | 0,_=>by rw[Nat.zero_mod];simp[arT]
 | k+1,hk=>by
   have hm:(k+1) % l.length<l.length:=Nat.mod_lt _ (by omega)
   have h0:k % l.length=k:=Nat.mod_eq_of_lt (by omega)
   have ih:=Qi (l:=l) (x:=x) (y:=y) k (by omega)
   rw[h0] at ih;rw[arT,arT,ih];unfold km;rw[Rb (show k<l.length by omega),Rb hm]
   dsimp only
   grind
theorem Aew {l:List (Int×Int)} {x y:Int}:arT (km l x y) l.length l.length=arT l l.length l.length:=by
 rw[Qi l.length (Nat.le_refl _),Nat.mod_self];simp
theorem Rt {l:List (Int×Int)} (hc:Bf l l.length=0):R7 l=arT l l.length l.length /\ -100000000000000<=R7 l/\R7 l<=100000000000000:=by
 have hn:=D9 hc;obtain⟨h1,h2,h3⟩:=Zb (Jg hc) (by omega) l.length (Nat.le_refl _)
 unfold R7;rw[if_pos hc,h1];have:(l.length:Int)<=40:=by omega
 refine⟨rfl,by omega,by omega⟩
theorem rz {l:List (Int×Int)} (hc:Bf l l.length=0):0<=Kd l/\Kd l<=100000000000000:=by
 have:=Rt hc;unfold Kd;omega
theorem rq {S:List Shp} {p:Pt5} (h:(Be S p).1=0) (hf:p.fl=false):Kd (Be S p).2=Kd (shp S p.sh.toNat).poly:=by
 obtain⟨a1,a2,a3,a4,a5,a6⟩:=G9 h;have hc:=Ed h;have e1:=(Rt hc).1;have e2:=(Rt a6).1;have hl:(tpS S p).length=(shp S p.sh.toNat).poly.length:=Fg _ _ _;have hl2:(Be S p).2.length=(tpS S p).length:=by rw[a3];unfold km;simp
 have:R7 (Be S p).2=R7 (shp S p.sh.toNat).poly:=by
  rw[e1,e2,hl2,a3,Aew];unfold tpS at hl ⊢;rw[hf] at hl ⊢;rw[hl,Aah (Jg a6)]
 unfold Kd;rw[this]
theorem Qv {S:List Shp} {ps:List Pt5} (h:∀p∈ps,(Be S p).1=0):∀k,k<=ps.length->Gq S ps k=(0,(ps.take k).map fun p=>(Be S p).2)
 | 0,_=>by simp[Gq]
 | k+1,hk=>by
   rw[Gq,Qv h k (by omega),if_neg (by simp),if_neg (by rw[h _ (Jn (by omega))];simp),List.take_succ_eq_append_getElem (by omega),List.map_append,<-Dy (by omega)]
   rfl
theorem O7 {l:List (List (Int×Int))}:∀k,k<=l.length->Gt l k=((l.take k).map Kd).sum
 | 0,_=>by simp[Gt]
 | k+1,hk=>by
   rw[Gt,O7 k (by omega),List.take_succ_eq_append_getElem (by omega),List.map_append,List.sum_append]
   unfold lt_;rw[List.getD,List.getElem?_eq_getElem (by omega)]
   simp
def Abv (s:StyleP) (C:List PlcP) (z:Int):Int:=(C.map fun c=>Kd (F8 s z c).1.poly).sum
theorem Uo (s:StyleP) (Z:List Int) (C:List PlcP):∀j,((O5 s Z C j).map fun S=>Kd S.poly).sum=((List.range j).map fun i=>Abv s C (gi Z i)).sum
 | 0=>rfl
 | j+1=>by
   rw[O5,List.map_append,List.sum_append,Uo s Z C j,List.range_succ,List.map_append,List.sum_append,List.map_map]
   congr 1
   unfold Abv;simp;rfl
theorem wj (Z:List Int) (f:Int->Int):((List.range Z.length).map fun i=>f (gi Z i))=Z.map f:=by
 apply List.ext_getElem
 ·simp
 ·intro i h1 h2
  simp only[List.length_map] at h2;rw[List.getElem_map,List.getElem_map,List.getElem_range,Ob h2]
theorem jl (S:List Shp) (f:Shp->Int):((List.range S.length).map fun i=>f (shp S i))=S.map f:=by
 apply List.ext_getElem
 ·simp
 ·intro i h1 h2
  simp only[List.length_map] at h2;rw[List.getElem_map,List.getElem_map,List.getElem_range];unfold shp;rw[List.getD,List.getElem?_eq_getElem h2];rfl
theorem Af0 {l:List Int} {M:Int} (h:∀z∈l,0<=z/\z<=M):0<=l.sum/\l.sum<=l.length*M:=by
 induction l with
 | nil=>simp
 | cons a l ih =>
   have h1:=h a (by simp)
   have h2:=ih fun z hz=>h z (by simp[hz])
   rw[List.sum_cons,List.length_cons,show ((l.length+1:Nat):Int)=(l.length:Int)+1 by omega,Int.add_mul]
   omega
theorem Lf {s:StyleP} {b:Bed4} {Z:List Int} (h:(Bz s b Z).1=0):(Fs s (Bz s b Z).2).1=0/\Zo s (Bz s b Z).2=((Z.map (Abv s (Em s))).sum,0)/\0<=(Z.map (Abv s (Em s))).sum/\(Z.map (Abv s (Em s))).sum<=6000000000000000:=by
 obtain⟨S,C,P,h0,hl,hC,hr,he,hm⟩:=K6 h;rw[hm];obtain⟨c1,c2,c3⟩:=Qq (b:=b) (S:=S) (os:=Jx S) (by rw[hr])
 rw[hr] at c1 c2 c3;dsimp only at c1 c2 c3;obtain⟨hperm,hat⟩:=Q7 hC hl c2 c3;obtain⟨k60,kf,-⟩:=L6.1 c1;obtain⟨L,hL⟩:∃L,(Cp C P P.length).map (Kc C)=L:=⟨_,rfl⟩
 have hL2:L.length=S.length:=by rw[<-hL,List.length_map,(Cb P.length).1,hl]
 rw[hL] at hperm
 have hat2:∀i,i<L.length->(Be S (pt L i)).1=0/\Kd (Be S (pt L i)).2=Kd (shp S i).poly:=by
  intro i hi;obtain⟨p,p1,p2,p3,p4⟩:=hat i (by omega)
  have e:pt L i=p:=by
   rw[Dy hi];have hi2:i<(Cp C P P.length).length:=by rw[(Cb P.length).1];omega
   have:L[i]=Kc C (Cp C P P.length)[i]:=by
    have:=List.getElem_of_eq hL.symm hi;rw[this,List.getElem_map]
   rw[this,<-Dd hi2,p4]
  have hp:=(Co (kf p p1)).2.1;rw[e];refine⟨hp,?_⟩;rw[rq hp (c3 p p1),p2];rfl
 have hbed:∀p∈L,Dm b S [] p=0:=fun p hp=>kf p (hperm.mem_iff.1 hp)
 have hall:∀p∈L,(Be S p).1=0:=fun p hp=>(Co (hbed p hp)).2.1
 have hS:=(Fi (s:=s) (Z:=Z) (by rw[h0])).1
 rw[h0] at hS;injection hS with _ hS
 injection hS with hS hCC
 have hsum:(L.map fun p=>Kd (Be S p).2).sum=(Z.map (Abv s (Em s))).sum:=by
  have e1:(L.map fun p=>Kd (Be S p).2)=(List.range S.length).map fun i=>Kd (shp S i).poly:=by
   apply List.ext_getElem
   ·simp[hL2]
   ·intro i i1 i2
    simp only[List.length_map] at i1;rw[List.getElem_map,List.getElem_map,List.getElem_range,<-Dy i1];exact(hat2 i i1).2
  rw[e1,jl S fun s=>Kd s.poly,hS,Uo,wj Z (Abv s (Em s))]
 have harr:Fs s ⟨(Mo S P).2,b.wid,b.rx,b.ry,Z,Cp C P P.length⟩=(0,S,L):=by
  rw[I1 h0 hl hC hr,hL,if_neg];have hbase:Ic b S L=0:=(Kz hperm).2 c1;rcases Nat.eq_zero_or_pos P.length with g|g
  ·have:L=[]:=by
    have:=hperm.length_eq;exact List.eq_nil_of_length_eq_zero (by omega)
   rw[this];simp[Ic,Gk]
  ·have hpl:0<(Bz s b Z).2.pl.length:=by
    rw[hm];dsimp only;rw[(Cb P.length).1];have:=hperm.length_eq;omega
   obtain⟨q1,q2,q3,-⟩:=Kn h hpl;have q4:=q3 (Bz s b Z).2.len (Int.le_refl _) q2;rw[hm] at q4;dsimp only at q4;rw[I1 h0 hl hC hr,hL] at q4;intro hne;rw[if_pos hne] at q4;exact hne q4
 refine⟨by rw[harr],?_,?_⟩
 ·unfold Zo Ia
  rw[harr];dsimp only;rw[if_neg (show ¬((0:Int)≠0) by simp),Qv hall L.length (Nat.le_refl _),List.take_length]
  dsimp only;rw[if_neg (show ¬((0:Int)≠0) by simp),O7 _ (Nat.le_refl _),List.take_length,List.map_map,<-hsum]
  rfl
 ·rw[<-hsum]
  have:=Af0 (l:=L.map fun p=>Kd (Be S p).2) (M:=100000000000000) fun z hz=>by
   obtain⟨p,hp,rfl⟩:=List.mem_map.1 hz;exact rz (Ed (hall p hp))
  rw[List.length_map] at this;have h60:(L.length:Int)<=60:=by have:=hperm.length_eq;omega
  omega
theorem Ab6 (l:List (Int×Int)) : -100000000000000<=R7 l/\R7 l<=100000000000000:=by
 by_cases hc:Bf l l.length=0
 ·exact(Rt hc).2
 ·unfold R7;rw[if_neg hc];omega
theorem ru (l:List (Int×Int)):0<=Kd l/\Kd l<=100000000000000:=by
 have:=Ab6 l;unfold Kd;omega
theorem Nz (A:Option Addr) (cap n:Nat) (l:List (Int×Int)) (w:World) (hl:n<=9223372036854775807) (hcap:n<=cap) (hs:SpS w A n l) :
 Calls Tryz.prog 35 #[.slice A n cap] w fun e w'=>e=.returned (.int .i64 (Kd l))/\Below w.heap.size w w':=by
 have H2:=Lib.hid (show (if Bf l n=0 then Ma l n n else 0)=R7 l by unfold R7;rw[hs.1])
 have hb:=Ab6 l;have HR:=Lib.hid (show Kd l=max (R7 l) (-(R7 l)) from rfl)
 obtain⟨z,hz⟩:∃z,R7 l=z:=⟨_,rfl⟩
 rw[hz] at H2 hb HR;have W1:IntKind.i64.wrap (-z) = -z:=by rw[IntKind.wrap_i64];omega
 clear hz;go_enter Tryz.func35,Tryz.ntmps35
 go_wp2_with (go_at_call 61;refine(Un A cap n l _ hl hcap hs).mono ?_;rintro e w1 ⟨rfl,hb1⟩;rw[H2.out])
 go_ret;exact⟨Bh (by rw[HR.out]),hb1⟩
def Afk (B:Nat):Value:=.func (.func 37) #[] #[.pointer (some ⟨B,0,none⟩)]
theorem Aaf (B:Nat) (A:Option Addr) (n c:Nat) (S:List Shp) (i k:Nat) (w:World) (hB:Bb w B 82 #[.slice A n c]) (hS:ShS w A n S) (hi:i<n) (hk:k<n) :
 Calls Tryz.prog 37 #[.int .i64 (i:Int),.int .i64 (k:Int),.pointer (some ⟨B,0,none⟩)] w fun e w'=>e=.returned (.int .i64 (Ns S i k))/\Below w.heap.size w w':=by
 have HR:=Lib.hid (show Ns S i k=Kd (shp S k).poly-Kd (shp S i).poly by unfold Ns;simp)
 have c0:w.cell? ⟨B,0,none⟩=some (.slice A n c):=(hB.cell 0).trans rfl;obtain⟨b,off,rfl,-,hi2⟩:=hS.at_ hi;obtain⟨b',off',e,-,hk2⟩:=hS.at_ hk;injection e with e
 injection e with e1 e2
 subst e1 e2;obtain⟨Ai,ci,i1,i2,i3,i4,-⟩:=hi2;obtain⟨Ak,ck,k1,k2,k3,k4,-⟩:=hk2;have ai:=ru (shp S i).poly;have ak:=ru (shp S k).poly;obtain⟨li,hli⟩:∃l,(shp S i).poly=l:=⟨_,rfl⟩
 obtain⟨lk,hlk⟩:∃l,(shp S k).poly=l:=⟨_,rfl⟩
 rw[hli] at i1 i2 i4 ai HR;rw[hlk] at k1 k2 k4 ak HR;obtain⟨ni,hni⟩:∃l,li.length=l:=⟨_,rfl⟩
 obtain⟨nk,hnk⟩:∃l,lk.length=l:=⟨_,rfl⟩
 rw[hni] at i1 i2 i4;rw[hnk] at k1 k2 k4;obtain⟨zi,hzi⟩:∃l,Kd li=l:=⟨_,rfl⟩
 obtain⟨zk,hzk⟩:∃l,Kd lk=l:=⟨_,rfl⟩
 have ZI:=Lib.hid hzi;have ZK:=Lib.hid hzk;rw[hzi] at ai HR;rw[hzk] at ak HR;have B1:(i:Int)<(n:Int):=by omega
 have B2:(k:Int)<(n:Int):=by omega
 have W1:IntKind.i64.wrap (zk-zi)=zk-zi:=by rw[IntKind.wrap_i64];omega
 clear hli hlk hni hnk hzi hzk hS hB;have KF:∀W',Below w.heap.size w W'->(W'.cell? ⟨B,0,none⟩=some (.slice (some ⟨b,off,none⟩) n c)/\W'.cell? ⟨b,off+i*5,none⟩=some (.slice Ai ni ci)/\W'.cell? ⟨b,off+k*5,none⟩=some (.slice Ak nk ck)):=fun W' hb=>⟨Aq hb c0,Aq hb i1,Aq hb k1⟩
 have hbD:=Aw (Below.refl w.heap.size w);clear c0 i1 k1;go_enter Tryz.func37,Tryz.ntmps37;go_upto_region 1 with fail
 go_region_held3 (fun W'=>W'.cell? ⟨B,0,none⟩=some (.slice (some ⟨b,off,none⟩) n c)/\W'.cell? ⟨b,off+i*5,none⟩=some (.slice Ai ni ci)/\W'.cell? ⟨b,off+k*5,none⟩=some (.slice Ak nk ck))
  (with_reducible exact KF _ hbD)
  ((first
    | (go_at_call 35;have hX1:=hb4;(with_reducible refine(Nz Ai ci ni li _ (by omega) i2 (i4.keep hbD)).mono ?_);rintro e w5 ⟨rfl,hb5⟩;rw[ZI.out];replace hbD:=Ao hbD hb5)
    | (go_at_call 35;(with_reducible refine(Nz Ak ck nk lk _ (by omega) k2 (k4.keep hbD)).mono ?_);rintro e w4 ⟨rfl,hb4⟩;rw[ZK.out];replace hbD:=Ao hbD hb4)))
 all_goals go_wp2_with fail
 all_goals go_ret
 all_goals exact⟨Bh (by rw[HR.out]),hbD⟩
theorem OwI.cellsI {w:World} {base g cap n:Nat} {l:List Int} (h:OwI w base (.slice (some ⟨g,0,none⟩) n cap) l) (hn:l.length=n) {k:Nat} (hk:k<n):w.cell? ⟨g,k,none⟩=some (.int .i64 (gi l k))/\w.frozen? ⟨g,k,none⟩=false:=by
 subst hn;have c0:=OwG.cells h k (by omega)
 have f0:=Bp Lx l k 0 _ (Vu hk) (by omega)
 rw[Nat.mul_one,Nat.add_zero] at f0;rw[f0] at c0;exact⟨c0,OwG.frozen h _⟩
theorem mj {l:List Int} {k:Nat} (x:Int):(l.flatMap enI).set k (.int .i64 x)=(l.set k x).flatMap enI:=by
 induction l generalizing k with
 | nil=>simp
 | cons a l ih =>
   cases k with
   | zero=>simp[enI]
   | succ k=>rw[List.set_cons_succ,List.flatMap_cons,List.flatMap_cons,<-ih];simp[enI]
theorem OwI.storeI {w:World} {base g cap n:Nat} {l:List Int} (h:OwI w base (.slice (some ⟨g,0,none⟩) n cap) l) (hn:l.length=n) (k:Nat) (x:Int):OwI (w.setCell ⟨g,k,none⟩ (.int .i64 x)) base (.slice (some ⟨g,0,none⟩) n cap) (l.set k x):=by
 subst hn;have h1:=(World.ownsRow.stored h k (.int .i64 x)).1;rw[mj] at h1;unfold OwI OwG;rw[List.length_set];exact h1
def Uv (l:List Int) (j:Nat):List Int:=(l.set (j+1) (gi l j)).set j (gi l (j+1))
theorem fz {l:List Int} {j:Nat} (h:j+1<l.length) {P:Int->Prop} (hP:∀z∈l,P z):∀z∈Uv l j,P z:=by
 intro z hz;unfold Uv at hz;have g1:gi l j∈l:=by rw[Ob (by omega)];exact List.getElem_mem _
 have g2:gi l (j+1)∈l:=by rw[Ob h];exact List.getElem_mem _
 rcases List.mem_or_eq_of_mem_set hz with h|rfl
 ·rcases List.mem_or_eq_of_mem_set h with h|rfl
  ·exact hP z h
  ·exact hP _ g1
 ·exact hP _ g2
theorem mb {l:List Int} {k:Nat} (h:k<l.length):gi l k∈l:=by rw[Ob h];exact List.getElem_mem _
theorem l7 {f:Int->Int->Int} {l:List Int} {j:Nat} (h:f (gi l (j+1)) (gi l j)<0):J1 f l (j+1)=J1 f (Uv l j) j:=by rw[J1,if_pos h];rfl
theorem yi {f:Int->Int->Int} {l:List Int} {j:Nat} (h:¬f (gi l (j+1)) (gi l j)<0):J1 f l (j+1)=l:=by rw[J1,if_neg h]
theorem Py (f:Int->Int->Int) (l:List Int):J1 f l 0=l:=by rw[J1]
theorem gd (l:List Int) (j:Nat):(Uv l j).length=l.length:=by unfold Uv;simp
def SoW (w0:World) (B n:Nat) (S:List Shp):Prop:=∃A c,Bb w0 B 82 #[.slice A n c]/\ShS w0 A n S
def Afp (n:Nat) (l:List Int):Prop:=∀z∈l,0<=z/\z<n
theorem lv (B n:Nat) (S:List Shp) (g cap m:Nat) (l:List Int) (w0 w:World) (hm:m<=1000) (hl:l.length=m) (hS:SoW w0 B n S) (hb0:Below w0.heap.size w0 w) (hM:Afp n l) (ho:OwI w w0.heap.size (.slice (some ⟨g,0,none⟩) m cap) l) :
 Calls Tryz.prog 95 #[.slice (some ⟨g,0,none⟩) m cap,.int .i64 0,.int .i64 (m:Int),Afk B] w fun e w'=>e=.returned (.tuple #[])/\OwI w' w0.heap.size (.slice (some ⟨g,0,none⟩) m cap) (Iw (Ns S) l m)/\Below w0.heap.size w0 w':=by
 have HS:=Lib.hid hS;unfold Afk;have HI:=Lib.hid (fun i=>show Iw (Ns S) l (i+1)=J1 (Ns S) (Iw (Ns S) l i) i from rfl)
 have hgb:w0.heap.size<=g:=(OwG.lt ho g rfl).1;have HLN:=Lib.hid (fun i (hi:i<=m)=>show (Iw (Ns S) l i).length=m from by rw[(Jd _ _ i (by omega)).length_eq,hl])
 have HMN:=Lib.hid (fun i (hi:i<=m)=>show Afp n (Iw (Ns S) l i) from fun z hz=>hM z ((Jd _ _ i (by omega)).mem_iff.1 hz))
 have h01:Iw (Ns S) l 1=l:=by rw[HI.out 0,Py];rfl
 clear hS hM;by_cases hm1:m<=1
 ·have HE:=Lib.hid (show Iw (Ns S) l m=l by
   rcases Nat.le_one_iff_eq_zero_or_eq_one.1 hm1 with h|h
   ·rw[h];rfl
   ·rw[h];exact h01)
  clear h01 hl;go_enter Tryz.func95,Tryz.ntmps95;go_wp2_with fail;go_loopw [8] (fun i wr=>i=.int .i64 1/\wr=w) (fun _ _=>0)
  case atStart=>exact⟨rfl,rfl⟩
  case round =>
   obtain⟨rfl,rfl⟩:=hrel;have B1:¬(1:Int)<(m:Int):=by omega
   go_wp2_with fail
   go_end0
   exact⟨rfl,by rw[HE.out];exact ho,hb0⟩
 ·have H01:=Lib.hid h01
  clear h01 hl;go_enter Tryz.func95,Tryz.ntmps95;go_wp2_with fail;go_loopw [8,9] (fun i _ wr=>∃k:Nat,1<=k/\k<=m/\i=.int .i64 k/\OwI wr w0.heap.size (.slice (some ⟨g,0,none⟩) m cap) (Iw (Ns S) l k)/\Below w0.heap.size w0 wr) (fun i _ _=>m-(intOf i).toNat)
  case atStart=>exact⟨1,Nat.le_refl _,by omega,rfl,by rw[H01.out];exact ho,hb0⟩
  case round =>
   clear ho hb0;obtain⟨k,hk1,hk,rfl,ho,hb⟩:=hrel;by_cases hlt:k<m
   ·have B1:(k:Int)<(m:Int):=by omega
    have HK:=Lib.hid (HI.out k);have HL1:=Lib.hid (HLN.out k hk);have HM1:=Lib.hid (HMN.out k hk);obtain⟨L0,hL0⟩:∃L,Iw (Ns S) l k=L:=⟨_,rfl⟩
    rw[hL0] at ho HK HL1 HM1;clear hL0;obtain⟨wa,rfl⟩:∃wa:World,wa=wr:=⟨_,rfl⟩
    go_upto_region 4 with fail;go_loopw [9] (fun j wx=>∃(p:Nat) (L:List Int),p<=k/\j=.int .i64 p/\Hid (J1 (Ns S) L p=J1 (Ns S) L0 k)/\Hid (L.length=m)/\Hid (Afp n L)/\OwI wx w0.heap.size (.slice (some ⟨g,0,none⟩) m cap) L/\Below w0.heap.size w0 wx) (fun j _=>(intOf j).toNat)
    case atStart=>exact⟨k,L0,Nat.le_refl _,rfl,Lib.hid rfl,HL1,HM1,ho,hb⟩
    case round =>
     clear ho hb;obtain⟨p,L,hp,rfl,hI,hL,hN,ho,hb⟩:=hrel;by_cases hp0:p=0
     ·subst hp0
      go_upto_region 4 with fail
      go_quiet (fail)
      go_wp2_with fail;have hfin:=hI.out;rw[Py] at hfin;exact⟨⟨k+1,by omega,by omega,by go_num,by rw[HK.out,<-hfin];exact OwG.keep ho (Bg (Below.refl _ _) _),Bg hb _⟩,by simp[intOf];omega⟩
     ·obtain⟨q,rfl⟩:∃q,p=q+1:=⟨p-1,by omega⟩
      clear hp0;have hq1:q+1<m:=by omega
      obtain⟨c1,f1⟩:=OwI.cellsI ho hL.out hq1;obtain⟨c2,f2⟩:=OwI.cellsI ho hL.out (show q<m by omega)
      have n1:=hN.out _ (mb (show q+1<L.length by rw[hL.out];exact hq1))
      have n2:=hN.out _ (mb (show q<L.length by rw[hL.out];omega))
      have HY:=Lib.hid (fun (h:Ns S (gi L (q+1)) (gi L q)<0)=>(l7 h).symm.trans hI.out)
      have HNo:=Lib.hid (fun (h:¬Ns S (gi L (q+1)) (gi L q)<0)=>(yi h).symm.trans hI.out)
      have HSW:=Lib.hid (show Uv L q=(L.set (q+1) (gi L q)).set q (gi L (q+1)) from rfl)
      obtain⟨za,hza⟩:∃z:Nat,gi L (q+1)=z:=⟨(gi L (q+1)).toNat,by omega⟩
      obtain⟨zb,hzb⟩:∃z:Nat,gi L q=z:=⟨(gi L q).toNat,by omega⟩
      rw[hza] at c1 n1 HY HNo HSW;rw[hzb] at c2 n2 HY HNo HSW;have hza2:za<n:=by omega
      have hzb2:zb<n:=by omega
      obtain⟨x,hx⟩:∃x,Ns S za zb=x:=⟨_,rfl⟩
      rw[hx] at HY HNo;have HX:=Lib.hid hx;clear hza hzb n1 n2 hx;have W1:IntKind.i64.wrap (((q+1:Nat):Int)-1)=(q:Int):=by rw[IntKind.wrap_i64];omega
      have B3:((q+1:Nat):Int)<(m:Int):=by omega
      have B4:(q:Int)<(m:Int):=by omega
      have B5:(0<q+1)=True:=by simp
      obtain⟨r,hr⟩:∃r,q+1=r:=⟨_,rfl⟩
      rw[hr] at c1 f1 W1 B3 B5 HSW ⊢;have HR:=Lib.hid hr;clear hr hq1;have KF:∀W',Below wr.heap.size wr W'->(W'.cell? ⟨g,r,none⟩=some (.int .i64 (za:Int))/\W'.cell? ⟨g,q,none⟩=some (.int .i64 (zb:Int))):=fun W' hb=>⟨Aq hb c1,Aq hb c2⟩
      have hbD:=Aw (Below.refl wr.heap.size wr);go_upto_region 4 with fail
      go_region_held3 (fun W'=>W'.cell? ⟨g,r,none⟩=some (.int .i64 (za:Int))/\W'.cell? ⟨g,q,none⟩=some (.int .i64 (zb:Int)))
       (with_reducible exact KF _ hbD)
       ((go_at_call 37;obtain⟨AS,cS,hBS,hSS⟩:=HS.out;(with_reducible refine(Aaf B AS n cS S za zb _ (hBS.keep (Ao hb hbD)) (hSS.keep (Ao hb hbD)) hza2 hzb2).mono ?_);rintro e w5 ⟨rfl,hb5⟩;rw[HX.out];replace hbD:=Ao hbD hb5))
      have hoD:=OwG.keep ho hbD;have hbE:=Ao hb hbD;have hgb:=(OwG.lt ho g rfl).1;have d1:=Aq hbD c1;have d2:=Aq hbD c2;obtain⟨-,f1'⟩:=OwI.cellsI hoD hL.out (show r<m by have:=HR.out;omega)
      obtain⟨-,f2'⟩:=OwI.cellsI hoD hL.out (show q<m by have:=HR.out;omega)
      clear KF hbD ho hb c1 c2 f1 f2;by_cases hx0:x<0
      ·have hI2:=HY.out hx0
       have hne1:¬r=q:=by have:=HR.out;omega
       have hne2:¬q=r:=by have:=HR.out;omega
       go_wp2_with fail
       go_region
       go_wp2_with fail;have hrm:q+1<L.length:=by rw[hL.out,HR.out];omega
       have ho2:=(OwI.storeI hoD hL.out r (zb:Int)).storeI (by rw[List.length_set];exact hL.out) q (za:Int)
       refine⟨⟨q,Uv L q,by have:=HR.out;omega,rfl,Lib.hid hI2,Lib.hid (by rw[gd];exact hL.out),Lib.hid (fun z hz=>fz hrm (P:=fun z=>0<=z/\z<(n:Int)) hN.out z hz),?_,?_⟩,by have:=HR.out;simp[intOf];omega⟩
       ·rw[HSW.out];exact ho2
       ·exact Aw (Bc (Bc hbE (p:=⟨g,r,none⟩) hgb _) (p:=⟨g,q,none⟩) hgb _)
      ·have hI2:=HNo.out (by omega)
       go_wp2_with fail;exact⟨⟨k+1,by omega,by omega,by go_num,by rw[HK.out,<-hI2];exact hoD,hbE⟩,by simp[intOf];omega⟩
   ·obtain rfl:m=k:=by omega
    go_wp2_with fail
    go_end0
    exact⟨rfl,ho,hb⟩
end Go.Proofs.YtpbchbcdgikonaaGreat
