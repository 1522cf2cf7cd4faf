/- Lean texts of the claim. -/
import Derived.Test.YtboghahlhmnblaaGreatZv03
import Derived.Test.YtboghahlhmnblaaGreatZv01
import Derived.Lib.ItoaNum
import Derived.Lib.EndianBits
namespace Go.Proofs.YtboghahlhmnblaaGreat
set_option linter.all false
set_option maxRecDepth 100000
set_option maxHeartbeats 0
open Go.RowKit Go.Proofs.Tryz
variable{a:List Nat}{b f g h k l:Nat}{c:World}{e:Option Addr}{i:Int}{j:Value}{z:Int}{L u:List Nat}{base base' d m n nb s x:Nat}{w:World}
namespace Limb
def BB:Nat:=4294967296
def val:List Nat->Nat
 | []=>0
 | x::l=>x+BB*val l
def lmb(n:Nat):List Nat:=if h:n=0 then [] else n % BB::lmb (n / BB)
termination_by n
decreasing_by unfold BB;omega
theorem Cb:lmb 0=[]:=by rw[lmb];simp
theorem D6(h:b≠0):lmb b=b % BB::lmb (b / BB):=by rw[lmb,dif_neg h]
theorem Ep(n:Nat):val (lmb n)=n:=by
 induction n using Nat.strongRecOn with
 | _ n ih =>
   by_cases h:n=0
   .rw[h,Cb];rfl
   rw[D6 h,val,ih (n / BB) (by unfold BB;omega)];exact fR n BB
theorem Dj(n:Nat):∀x∈lmb n,x<BB:=by
 induction n using Nat.strongRecOn with
 | _ n ih =>
   by_cases h:n=0
   .rw[h,Cb];simp
   rw[D6 h];intro x a;rcases bO.1 a with rfl|a
   .exact bE _ aM
   exact ih (n / BB) (by unfold BB;omega) x a
theorem Ho(a b:List Nat):val (a++b)=val a+BB ^ a.length*val b:=by
 induction a with
 | nil=>simp[val]
 | cons x a ih=>rw[cV,val,val,ih,dP,bZ,cR];rw[show BB*(BB ^ a.length*val b)=BB ^ a.length*BB*val b by rw[<-bM,bN BB]];omega
theorem Ql{l:List Nat}(h:∀x∈l,x<BB):val l<BB ^ l.length:=by
 induction l with
 | nil=>simp[val]
 | cons x l ih =>
   have c:=h x aL;have a:=ih (λy b=>h y (by simp[b]));rw[val,dP,bZ];have:=cK BB (show val l+1<=BB ^ l.length from a);rw[cR,dM]at this;rw[bN (BB ^ l.length)];omega
theorem E7(k:Nat):val (List.replicate k 0)=0:=by
 induction k with
 | zero=>rfl
 | succ k ih=>rw[List.replicate_succ,val,ih];rfl
theorem qg:∀{l:List Nat},(∀x∈l,x<BB)->(∀h:l≠[],l.getLast h≠0)->lmb (val l)=l
 | [],_,_=>Cb
 | x::l,h,hl=>by
   have b:=h x (by simp)
   have ih:=qg (l:=l) (λy i=>h y (by simp[i])) (λa=>by
    have:=hl (by simp)
    rwa [List.getLast_cons a] at this)
   have a:val (x::l)≠0:=by
    intro e;rw[val]at e;have c:x=0:=by omega
    have d:BB*val l=0:=by omega
    have f:val l=0:=by rcases Nat.mul_eq_zero.1 d with g|g;(unfold BB at g;omega);exact g
    rw[f,Cb]at ih;subst ih;have:=hl (by simp);simp at this;exact this c
   rw[D6 a,val];have j:(x+BB*val l) % BB=x:=by rw[gG];exact cC b
   have k:(x+BB*val l) / BB=val l:=by rw[gR _ _ (by decide),dZ b,dB]
   rw[j,k,ih]
def trl:List Nat->Nat->Nat
 | _,0=>0
 | l,k+1=>if l.getD k 0=0 then trl l k else k+1
theorem Xr(l:List Nat):∀k,trl l k<=k
 | 0=>aA
 | k+1=>by rw[trl];split;exact bB (Xr l k) (by omega);omega
theorem Xq{l:List Nat}(h:∀x∈l,x<BB):∀k,k<=l.length->l.take (trl l k)=lmb (val (l.take k))
 | 0,_=>by simp[trl,val,Cb]
 | k+1,hk=>by
   have g:l.getD k 0=l[k]'(by omega):=by rw[List.getD,aW (by omega)];rfl
   have e:l.take (k+1)=l.take k++[l[k]'(by omega)]:=cG (by omega);rw[trl];split
   .rename_i z;rw[Xq h k (by omega),e,<-g,z,Ho];simp[val]
   rename_i z
   symm
   apply qg
   .intro x j;exact h x (eY j)
   intro d
   have b:∀(a c:List Nat) (x:Nat) (f:a≠[]),a=c++[x]->a.getLast f=x:=by
    intro a c x f i;subst i;simp
   rw[b _ _ _ d e,<-g];exact z
theorem Sc(h:n≠0):(lmb n).getD ((lmb n).length-1) 0≠0:=by
 induction n using Nat.strongRecOn with
 | _ n ih =>
   rw[D6 h];by_cases c:n / BB=0
   .rw[c,Cb];simp;have:=eQ n BB;rw[c]at this;omega
   have:=ih (n / BB) (by unfold BB;omega) c;rw[D6 c]at this ⊢;simpa using this
theorem Gv(n:Nat):trl (lmb n) (lmb n).length=(lmb n).length:=by
 by_cases h:n=0
 .rw[h,Cb];rfl
 have a:=Sc h;rw[D6 h]at a ⊢;rw[dP]at a ⊢;rw[trl,if_neg (by simpa using a)]
theorem Akw{T P:Nat}(e:0<P)(d:g*P<=f)(i:b<(T+1)*P)(c:0<g)(hq:h*f<=b):h<=T / g:=by
 rw[fC c]
 have a:h*g*P<(T+1)*P:=by
  have:=cK h d;rw[<-bM]at this;omega
 have:=gW a;omega
theorem Agu{P:Nat}(c:h*P<=f)(j:b<(g+1)*P)(d:g<l*h)(hq:k*f<=b):k<l:=by
 apply bT;intro m;have e:l*f<=k*f:=bQ f aK;have a:=cK l c;rw[<-bM]at a;have i:=bQ P (show g+1<=l*h from d);omega
theorem Akv{U V U3 V2 P:Nat}(d:V<(V2+1)*P)(n:U3*P<=U)(g:f*V2<=U3)(a:f<BB)(e:BB*P<=V)(c:0<P)(hq:U<(b+1)*V):f<=b+1:=by
 apply bT;intro o;have h:(b+1)*V<=(f-1)*V:=bQ V aK;have i:f*V<=f*((V2+1)*P):=cK f (cX d);have j:f*((V2+1)*P)=f*V2*P+f*P:=by rw[<-bM,cR,dM,cN]
 have k:=bQ P g;have l:f*P<BB*P:=dD a c;have m:(f-1)*V+V=f*V:=by rw[show f=f-1+1 by omega,cN,eF];simp
 omega
end Limb
namespace Limb
theorem Mx(n:Nat):n<BB ^ (lmb n).length:=by have:=Ql (Dj n);rwa [Ep] at this
theorem Sb(h:n≠0):BB ^ ((lmb n).length-1)<=n:=by
 induction n using Nat.strongRecOn with
 | _ n ih =>
   rw[D6 h,dP,fP];by_cases c:n / BB=0
   .rw[c,Cb];simp;omega
   have b:=ih (n / BB) (by unfold BB;omega) c;have d:0<(lmb (n / BB)).length:=by rw[D6 c];simp
   have a:=bQ BB b;rw[<-bZ,show ((lmb (n / BB)).length-1).succ=(lmb (n / BB)).length by omega]at a;exact bB a (Nat.div_mul_le_self n BB)
theorem Mf(h:(lmb b).length<(lmb f).length):b<f:=by
 have a:f≠0:=by intro e;rw[e,Cb]at h;simp at h
 have c:=Mx b;have d:=Sb a;have g:BB ^ (lmb b).length<=BB ^ ((lmb f).length-1):=bJ aM aK;omega
theorem Hu(h:b<=f):(lmb b).length<=(lmb f).length:=by
 rcases bG (lmb f).length (lmb b).length with g|g
 .have:=Mf g;omega
 exact g
theorem Me(h:b<BB ^ f):(lmb b).length<=f:=by
 by_cases a:b=0
 .rw[a,Cb];simp
 apply bT;intro e;have c:=Sb a;have d:BB ^ f<=BB ^ ((lmb b).length-1):=bJ aM aK;omega
theorem Xn(c:b<a.length:=by omega):val (a.take (b+1))=val (a.take b)+BB ^ b*a.getD b 0:=by
 have d:a.getD b 0=a[b]:=by rw[List.getD,aW c];rfl
 rw[cG c,Ho,d,bC,eR aK];simp[val]
theorem Lu(h:∀x∈a,x<BB)(b:k<=a.length:=by omega):val (a.take k)<BB ^ k:=by
 have:=Ql (l:=a.take k) λx c=>h x (eY c)
 rwa [bC,eR b] at this
def ug(a b:List Nat):Nat->Int
 | 0=>0
 | k+1=>if a.getD k 0<b.getD k 0 then -1 else if b.getD k 0<a.getD k 0 then 1 else ug a b k
def Ia(a b:Nat):Int:=if a<b then -1 else if b<a then 1 else 0
theorem Zp{a b:List Nat}(d:∀x∈a,x<BB)(e:∀x∈b,x<BB):∀k,k<=a.length->k<=b.length->ug a b k=Ia (val (a.take k)) (val (b.take k))
 | 0,_,_=>by simp[ug,Ia,val]
 | k+1,h1,h2=>by
   have ih:=Zp d e k (by omega) (by omega);rw[ug,Xn,Xn,ih];have f:=Lu d (k:=k);have g:=Lu e (k:=k);generalize val (a.take k)=x at *
   generalize val (b.take k)=y at *
   generalize a.getD k 0=p;generalize b.getD k 0=q;generalize BB ^ k=B at *
   unfold Ia;rcases fV p q with c|c|c
   .have:=cK B (show p+1<=q from c);rw[cR,dM]at this;rw[if_pos c,if_pos (by omega)]
   .subst c;rw[if_neg (eH p),if_neg (eH p)];simp only[iB]
   have:=cK B (show q+1<=p from c);rw[cR,dM]at this;rw[if_neg (by omega),if_pos c,if_neg (by omega),if_pos (by omega)]
theorem Agy{a b:Nat}:Ia a b=if (lmb a).length<(lmb b).length then -1 else if (lmb b).length<(lmb a).length then 1 else ug (lmb a) (lmb b) (lmb a).length:=by
 split
 .rename_i h;have:=Mf h;unfold Ia;rw[if_pos this]
 split
 .rename_i h;have:=Mf h;unfold Ia;rw[if_neg aK,if_pos this]
 rename_i c d;rw[Zp (Dj a) (Dj b) _ aA aK,dR,Ep,show (lmb a).length=(lmb b).length by omega,dR,Ep]
def lim(a k:Nat):Nat:=(lmb a).getD k 0
theorem Q7(a:Nat):∀k,lim a k=a / BB ^ k % BB:=by
 induction a using Nat.strongRecOn with
 | _ a ih =>
   intro k;unfold lim;by_cases h:a=0
   .rw[h,Cb];simp
   rw[D6 h];cases k with
   | zero=>simp
   | succ k =>
     have:=ih (a / BB) (by unfold BB;omega) k;unfold lim at this;rw[gS,this,dK,bZ,bN BB]
theorem Bt(a k:Nat):a % BB ^ (k+1)=a % BB ^ k+BB ^ k*lim a k:=by
 rw[Q7,bZ,Nat.mod_mul]
end Limb
namespace Limb
theorem Ku(l:List Nat)(x:Nat):val (l++[x])=val l+BB ^ l.length*x:=by
 rw[Ho];simp[val]
theorem Fp:∀{l:List Nat} {k x:Nat},k<l.length->val (l.set k x)+BB ^ k*l.getD k 0=val l+BB ^ k*x
 | y::l,0,x,_=>by simp[val];omega
 | y::l,k+1,x,h=>by
   have ih:=Fp (l:=l) (k:=k) (x:=x) (by simpa using h);rw[eE,val,val,gS,bZ,bN (BB ^ k) BB,bM,bM];have:=eB (BB*·) ih;simp only[cR]at this;omega
theorem Hq(h:∀y∈a,y<BB)(b:x<BB):∀y∈a.set k x,y<BB:=by
 intro y c;rcases fE c with g|rfl
 .exact h y g
 exact b
theorem Od(h:∀y∈a,y<BB)(b:x<BB):∀y∈a++[x],y<BB:=by
 intro y c;rcases bD.1 c with g|g
 .exact h y g
 rw[fQ.1 g];exact b
theorem Fc(c:b<a.length):(a.set b x).getD f 0=if b=f then x else a.getD f 0:=by
 rw[List.getD,fU];by_cases h:b=f
 .subst h;simp[c]
 simp[h,List.getD]
theorem G4(n k:Nat):(List.replicate n 0).getD k 0=0:=by
 rw[List.getD,fA];split<;>rfl
theorem Ex(h:∀y∈a,y<BB)(k:Nat):a.getD k 0<BB:=by
 rw[List.getD];rcases bG k a.length with g|g
 .rw[aW g];exact h _ (cY g)
 rw[bI g];decide
theorem Gh(n:Nat):∀y∈List.replicate n 0,y<BB:=by
 intro y a;rw[iC a];decide
theorem Di{a k:Nat}(h:(lmb a).length<=k:=by omega):a % BB ^ k=a:=cC (aZ (Mx a) (bJ aM h))
theorem Cv(a k:Nat):lim a k<BB:=Ex (Dj a) k
theorem Sd(h:(lmb b).length<=f):lim b f=0:=by
 unfold lim;rw[List.getD,bI h];rfl
theorem Lh(B s:Nat):B*(s % BB)+B*BB*(s / BB)=B*s:=by
 rw[bM,<-cR,fR]
theorem Anf(c:a.length=g)(d:val a+BB ^ g*h=b % BB ^ g+f % BB ^ g):
 val (a++[(h+lim b g+lim f g) % BB])+BB ^ (g+1)*((h+lim b g+lim f g) / BB)=b % BB ^ (g+1)+f % BB ^ (g+1):=by
 rw[Ku,c,Bt,Bt,bZ];have:=Lh (BB ^ g) (h+lim b g+lim f g);rw[cR (BB ^ g) (h+lim b g),cR (BB ^ g) h]at this;omega
theorem Ak0{j c z s:Nat}{r:List Nat}(b:j<r.length:=by omega)(d:s=c+z+r.getD j 0:=by omega):
 val (r.set j (s % BB))+BB ^ (j+1)*(s / BB)=val r+BB ^ j*c+BB ^ j*z:=by
 have e:=Fp (x:=s % BB) b;have a:=Lh (BB ^ j) s;rw[bZ];rw[show BB ^ j*s=BB ^ j*c+BB ^ j*z+BB ^ j*r.getD j 0 by rw[d,cR,cR]] at a;omega
theorem Aly(d:g<a.length)(i:a.getD g 0=0)(j:val a+f % BB ^ g=b % BB ^ g+BB ^ g*h)(e:l+lim f g+h=lim b g+BB*k):
 val (a.set g l)+f % BB ^ (g+1)=b % BB ^ (g+1)+BB ^ (g+1)*k:=by
 have c:=Fp (x:=l) d;rw[i,eD,bU]at c;rw[c,Bt,Bt,bZ];have:=eB (BB ^ g*·) e;simp only[cR,<-bM]at this;omega
theorem Ae2(j:f<a.length)(k:a.getD f 0=0)(h:val a*d+BB ^ (f+1)*g+b % BB ^ (f+1)=b):
 val (a.set f ((g*BB+lim b f) / d))*d+BB ^ f*((g*BB+lim b f) % d)+b % BB ^ f=b:=by
 have i:=Fp (x:=(g*BB+lim b f) / d) j;rw[k,eD,bU]at i;rw[i,cN];rw[Bt,bZ]at h;have e:=eQ (g*BB+lim b f) d;have c:=eB (BB ^ f*·) e;simp only[cR]at c;rw[show BB ^ f*(d*((g*BB+lim b f) / d))=BB ^ f*((g*BB+lim b f) / d)*d by rw[bN d,<-bM],show BB ^ f*(g*BB)=BB ^ f*BB*g by rw[bN g,<-bM]] at c;omega
theorem Am9{j c z o o' v:Nat}(d:j<u.length)(e:v+(c+z) % BB+o=u.getD j 0+BB*o'):
 val (u.set j v)+BB ^ j*z+BB ^ j*(c+o)=val u+BB ^ (j+1)*((c+z) / BB+o'):=by
 have f:=Fp (x:=v) d;have b:=Lh (BB ^ j) (c+z);rw[bZ];have a:=eB (BB ^ j*·) e;simp only[cR,<-bM]at a b ⊢;omega
end Limb
section
namespace Limb
structure DigC (X W P P2 H v2 T u2:Nat):Prop where
 hP:P=BB*P2
 hP2:0<P2
 hW1:H*P<=W
 hW2:W<(H+1)*P
 hX1:T*P<=X
 hX2:X<(T+1)*P
 hV1:(H*BB+v2)*P2<=W
 hV2:W<(H*BB+v2+1)*P2
 hU1:(T*BB+u2)*P2<=X
 hU2:X<(T*BB+u2+1)*P2
 hH:BB<=2*H
 hHb:H<BB
 hv2:v2<BB
 hu2:u2<BB
 hXW:X<W*BB
structure DigI (X W H T q r:Nat):Prop where
 e:q*H+r=T
 ge:X / W<=q
 le:q<=BB+1
 or:q<=BB\/r<BB
section
variable {X W P P2 H v2 T u2 q r : Nat}
theorem DigC.pW(h:DigC X W P P2 H v2 T u2):0<W:=by
 have h1:=h.hV1;rcases bK W with e|e
 ·have:=h.hXW;rw[e] at this;omega
 ·exact e
theorem DigC.hq(h:DigC X W P P2 H v2 T u2):X / W*W<=X:=Nat.div_mul_le_self X W
theorem DigC.hq2(h:DigC X W P P2 H v2 T u2):X<(X / W+1)*W:=by
 have:=Nat.lt_mul_div_succ X h.pW;rw[bN] at this;exact this
theorem DigC.lt(h:DigC X W P P2 H v2 T u2):X / W<BB:=eZ h.hXW
theorem DigC.start(h:DigC X W P P2 H v2 T u2):DigI X W H T (T / H) (T % H):=by
 have hH:0<H:=by have:=h.hH;unfold BB at this;omega
 have hP:0<P:=by rw[h.hP];exact gZ aM h.hP2
 refine⟨by rw[bN];exact eQ T H,Akw hP h.hW1 h.hX2 hH h.hq,?_,.inr (gC (bE _ hH) h.hHb)⟩
 have h1:T*P<(H+1)*BB*P:=by
  have a:=dD h.hW2 (show 0<BB by decide)
  have b:(H+1)*P*BB=(H+1)*BB*P:=by rw[bM,bM,bN P]
  rw[b] at a;exact eG h.hX1 (gC h.hXW a)
 have h2:=gW h1;rw[cN,eF] at h2
 have h3:T<(BB+1+1)*H:=by
  have:=h.hH;rw[cN,cN,eF,bN BB];omega
 have:=(dO hH).2 h3;omega
theorem DigC.step(h:DigC X W P P2 H v2 T u2)(i:DigI X W H T q r)(hr:r<BB)(hc:BB<=q\/r*BB+u2<q*v2):DigI X W H T (q-1) (r+H)/\1<=q:=by
 have hlt:X / W<q:=by
  rcases hc with hc|hc
  ·exact aZ h.lt hc
  ·refine Agu h.hV1 h.hU2 ?_ h.hq
   rw[cR,<-bM,<-i.e,cN];omega
 have e:=i.e;have h0:1<=q:=eG aB hlt;obtain⟨p,rfl⟩:∃p,q=p+1:=⟨q-1,aK⟩
 rw[cN,eF] at e;have:=i.le;exact⟨⟨by rw[fP];omega,hJ hlt,aK,.inl aK⟩,h0⟩
theorem DigC.end1(h:DigC X W P P2 H v2 T u2)(i:DigI X W H T q r)(hr:BB<=r):q=X / W:=by
 have hq:q<=BB:=by rcases i.or with g|g;exact g;omega
 refine Nat.le_antisymm ?_ i.ge;rw[fC h.pW];have h1:q*W<=q*((H+1)*P):=cK q (cX h.hW2);have h2:q*((H+1)*P)=(q*H+q)*P:=by rw[<-bM,cR,dM]
 have h3:(q*H+q)*P<=T*P:=bQ P (by rw[<-i.e];omega)
 have:=h.hX1;omega
theorem DigC.end2(h:DigC X W P P2 H v2 T u2)(i:DigI X W H T q r)(hq:q<BB)(hc:q*v2<=r*BB+u2):q<=X / W+1:=by
 refine Akv (U:=X) (V:=W) (U3:=T*BB+u2) (V2:=H*BB+v2) (P:=P2) h.hV2 h.hU1 ?_ hq ?_ h.hP2 h.hq2
 ·rw[cR,<-bM,<-i.e,cN]
  omega
 ·have h1:=h.hW1
  have hH:1<=H:=by have:=h.hH;unfold BB at this;omega
  have:=bQ P hH;rw[h.hP] at *
  omega
end
theorem I3(l:List Nat)(j:Nat)(h:j<=l.length:=by omega):val l=val (l.take j)+BB ^ j*val (l.drop j):=by
 have:=Ho (l.take j) (l.drop j)
 rwa [fD,bC,eR h] at this
theorem Jl(l:List Nat)(j:Nat):val (l.drop j)=l.getD j 0+BB*val (l.drop (j+1)):=by
 rcases bG j l.length with h|h
 .rw[gH h,val,List.getD,aW h];rfl
 rw[iG h,iG aK,List.getD,bI h];simp[val]
theorem xm(h:∀j,a.getD j 0=0):val a=0:=by
 induction a with
 | nil=>rfl
 | cons x a ih =>
   have b:=h 0;simp at b;rw[val,b,ih λj=>by have:=h (j+1);simpa using this];rfl
theorem drop_zero(h:∀j,b<=j->a.getD j 0=0):val (a.drop b)=0 :=
 xm λj=>by
  have:=h (b+j) aK;rw[List.getD,List.getElem?_drop]
  rwa [List.getD] at this
theorem Vt{l:List Nat}{j:Nat}(b:∀x∈l,x<BB)(h:∀k,j<k->l.getD k 0=0)(c:j<l.length:=by omega):l.getD j 0*BB ^ j<=val l/\val l<(l.getD j 0+1)*BB ^ j:=by
 have e:=I3 l j;rw[Jl,drop_zero λk a=>h k a,eD,bU,bN]at e;have:=Lu b (k:=j);rw[cN,eF];omega
theorem je{j:Nat}(c:∀x∈a,x<BB)(h:∀k,j+1<k->a.getD k 0=0)(d:j+1<a.length:=by omega):(a.getD (j+1) 0*BB+a.getD j 0)*BB ^ j<=val a/\val a<(a.getD (j+1) 0*BB+a.getD j 0+1)*BB ^ j:=by
 have e:=I3 a j;rw[Jl,Jl,drop_zero λk b=>h k b,eD,bU,bN]at e;have:=Lu c (k:=j);rw[cN _ 1,eF,bN (a.getD (j+1) 0),gU (BB*_)];omega
theorem jf{j:Nat}(d:∀x∈a,x<BB)(h:∀k,j+2<k->a.getD k 0=0)(f:j+2<a.length):((a.getD (j+2) 0*BB+a.getD (j+1) 0)*BB+a.getD j 0)*BB ^ j<=val a/\val a<((a.getD (j+2) 0*BB+a.getD (j+1) 0)*BB+a.getD j 0+1)*BB ^ j:=by
 have e:=I3 a j;rw[Jl,Jl,Jl,drop_zero λk c=>h k c,bN (BB ^ j)]at e;have z:BB*0=0:=rfl;rw[z,show a.getD (j+1+1) 0+0=a.getD (j+2) 0 from rfl]at e;have:=Lu d (k:=j)
 have b:(a.getD (j+2) 0*BB+a.getD (j+1) 0)*BB+a.getD j 0=a.getD j 0+BB*(a.getD (j+1) 0+BB*a.getD (j+2) 0):=by
  rw[bN _ BB,bN _ BB,gU (BB*_),gU (BB*a.getD (j+2) 0)]
 rw[b,cN _ 1,eF];omega
theorem Ap9{c:List Nat}(i:∀x∈a,x<BB)(g:∀x∈c,x<BB)(C:c.length=f)(A:2<=f)(B:b+f<a.length)(r:∀k,b+f<k->a.getD k 0=0)(z:BB<=2*c.getD (f-1) 0)(l:val a<val c*BB ^ b*BB):
 DigC (val a) (val c*BB ^ b) (BB ^ (b+f-1)) (BB ^ (b+f-2)) (c.getD (f-1) 0) (c.getD (f-2) 0) (a.getD (b+f) 0*BB+a.getD (b+f-1) 0) (a.getD (b+f-2) 0):=by
 obtain⟨m,rfl⟩:∃m,f=m+2:=⟨f-2,by omega⟩
 have d:∀k,m+2<=k->c.getD k 0=0:=λk e=>by rw[List.getD,bI (by omega)];rfl
 let⟨u,v⟩:=Vt (j:=m+1) g (λk e=>d k (by omega));let⟨w,y⟩:=je (j:=m) g (λk e=>d k (by omega));let⟨n,o⟩:=je (j:=b+m+1) i (λk e=>r k (by omega));let⟨p,q⟩:=jf (j:=b+m) i (λk e=>r k (by omega)) (by omega);have s:BB ^ (b+(m+2)-1)=BB ^ (m+1)*BB ^ b:=by rw[<-dJ];congr 1;omega
 have t:BB ^ (b+(m+2)-2)=BB ^ m*BB ^ b:=by rw[<-dJ];congr 1;omega
 have h:0<BB ^ b:=dE (by decide);simp only[show m+2-1=m+1 from rfl,show m+2-2=m from rfl,show b+(m+2)=b+m+1+1 by omega,show b+m+1+1-1=b+m+1 from rfl,show b+m+1+1-2=b+m from rfl]at *
 rw[s]at n o;rw[t]at p q;rw[s,t];refine⟨?_,gZ (dE (by decide)) h,?_,?_,n,o,?_,?_,p,q,z,Ex g _,Ex g _,Ex i _,l⟩
 .rw[bZ,bN _ BB,bM]
 .rw[<-bM];exact bQ _ u
 .rw[<-bM];exact dD v h
 .rw[<-bM];exact bQ _ w
 rw[<-bM];exact dD y h
end Limb
end
namespace Limb
theorem Sl(b:∀x∈a,x<BB):∀k,a.getD k 0=val a / BB ^ k % BB:=by
 induction a with
 | nil=>intro k;simp[val]
 | cons x a ih =>
   intro k;have c:=b x aL;have ih:=ih (λy d=>b y (by simp[d]));cases k with
   | zero=>rw[val,gD,Nat.div_one,gG,cC c];rfl
   | succ k=>rw[gS,ih,val,bZ,bN _ BB,<-dK,gR _ _ aM,dZ c,dB]
theorem On(a:s<=32):BB=2 ^ s*2 ^ (32-s):=by
 rw[<-dJ,show s+(32-s)=32 by omega];rfl
theorem Ajp{a k:Nat}{r:List Nat}(i:k+1<r.length)(j:r.getD (k+1) 0=0)(e:lim a k*2 ^ b=f+BB*g)(h:val r=(a % BB ^ k)*2 ^ b):
 val ((r.set k (r.getD k 0+f)).set (k+1) g)=(a % BB ^ (k+1))*2 ^ b:=by
 have d:=Fp (l:=r) (k:=k) (x:=r.getD k 0+f) (by omega);have c:=Fp (l:=r.set k (r.getD k 0+f)) (k:=k+1) (x:=g) (by rw[cD];exact i);rw[Fc (by omega),if_neg (by omega),j,eD,bU]at c;rw[cR]at d;rw[c,Bt,cN,<-h,bM,e,cR,<-bM,bZ];omega
theorem Ajm(h:x<BB)(i:b<=31):x*2 ^ b % BB % 2 ^ b=0/\x*2 ^ b / BB<2 ^ b/\x*2 ^ b % BB+2 ^ b<=BB:=by
 have g:0<2 ^ b:=dE aM
 have d:x*2 ^ b % BB % 2 ^ b=0:=by
  have:=On (s:=b) aK;rw[this,Nat.mod_mul_right_mod,Nat.mul_mod_left]
 refine⟨d,?_,?_⟩
 .rw[dO aM,bN];exact Nat.mul_lt_mul_of_pos_left h g
 have a:x*2 ^ b % BB<BB:=bE _ aM;let⟨c,f⟩:=Nat.dvd_of_mod_eq_zero d;have e:=On (s:=b) aK;rw[f]at a ⊢;rw[e]at a ⊢;have:=gX a;have:=cK (2 ^ b) (show c+1<=2 ^ (32-b) from this);rw[cR,dM]at this;exact this
theorem Afb(f:∀x∈a,x<BB)(q:b<=31){r:List Nat}(n:k<r.length)(p:r.getD k 0=0)(h:val r=(val a / 2 ^ b) % BB ^ k):
 val (r.set k ((a.getD k 0+BB*a.getD (k+1) 0) / 2 ^ b % BB))=(val a / 2 ^ b) % BB ^ (k+1):=by
 have e:=Fp (l:=r) (k:=k) (x:=(a.getD k 0+BB*a.getD (k+1) 0) / 2 ^ b % BB) n;rw[p,eD,bU]at e;rw[e,h,bZ,Nat.mod_mul]
 congr 2
 have o:0<2 ^ b:=dE (by decide);rw[dK,bN (2 ^ b),<-dK];have j:=Sl f k;have d:=Sl f (k+1);rw[bZ,<-dK]at d;generalize val a / BB ^ k=A at *
 have g:=fR A BB;have c:=fR (A / BB) BB;rw[<-j]at g;rw[<-d]at c;have l:=On (s:=b) (by omega)
 have i:A=(a.getD k 0+BB*a.getD (k+1) 0)+2 ^ b*(BB*(2 ^ (32-b)*(A / BB / BB))):=by
  have:2 ^ b*(BB*(2 ^ (32-b)*(A / BB / BB)))=BB*(BB*(A / BB / BB)):=by
   rw[iA,<-bM (2 ^ b),<-l]
  rw[this];have:=eB (BB*·) c;simp only[cR]at this;omega
 let⟨M,m⟩:∃M,A=(a.getD k 0+BB*a.getD (k+1) 0)+2 ^ b*(BB*M):=⟨_,i⟩
 rw[m,gR _ _ o,gG]
theorem Ak1(c:∀x∈a,x<BB)(h:val a<BB ^ m)(k:Nat)(b:m<=k):a.getD k 0=0:=by
 rw[Sl c,dZ (aZ h (bJ aM b))];rfl
structure DivI (A V i:Nat) (q L:List Nat):Prop where
 e:val q*V+val L=A
 lt:val L<V*BB ^ i
 z:∀k,k<i->q.getD k 0=0
theorem DivI.step{q c:List Nat}(h:DivI b f (g+1) q a)(hq:g<q.length)(n:0<f)(j:d=val a / (f*BB ^ g))(i:val c=val a % (f*BB ^ g)):DivI b f g (q.set g d) c/\d<BB:=by
 have e:=Fp (l:=q) (k:=g) (x:=d) hq;rw[h.z g aK,eD,bU]at e;have m:0<f*BB ^ g:=gZ n (dE aM);have o:=fR (val a) (f*BB ^ g);refine⟨⟨?_,?_,?_⟩,?_⟩
 .rw[e,i,cN,<-h.e,j,gI,bN (BB ^ g) f];omega
 .rw[i];exact bE _ m
 .intro k p;rw[Fc hq,if_neg aK];exact h.z k aK
 rw[j,dO m,bN,bM,<-bZ];exact h.lt
theorem tt{d b s n c:Nat}(h:(lmb b).length=n)(v:(lmb d).length=c)(A:0<n)(w:n<=c)(C:s<=31)(u:BB<=2*(lim b (n-1)*2 ^ s))(g:val a=d*2 ^ s)(m:Nat):DivI (d*2 ^ s) (b*2 ^ s) (c+1-n) (List.replicate m 0) a:=by
 refine⟨by rw[E7,eC,dB,g],?_,λk _=>G4 m k⟩;have y:b≠0:=by intro e;rw[e,Cb]at h;simp at h;omega
 have f:=Mx d;rw[v]at f;have B:0<2 ^ s:=dE aM;obtain⟨m,rfl⟩:∃m,n=m+1:=⟨n-1,aK⟩
 have t:=(Vt (l:=lmb b) (j:=m) (Dj b) λk z=>by rw[List.getD,bI aK];rfl).1;rw[Ep]at t
 have p:2 ^ s*2<=BB:=by
  rw[<-bZ];exact bJ aM (by omega:s+1<=32)
 have x:BB*BB ^ m<=2*(b*2 ^ s):=by
  have:=bQ (BB ^ m) u
  have q:2*(lim b (m+1-1)*2 ^ s)*BB ^ m=2*(lim b m*BB ^ m*2 ^ s):=by
   rw[fP,bM,gI]
  rw[q]at this;exact bB this (cK 2 (bQ _ t))
 have r:BB ^ c*BB=BB*BB ^ m*BB ^ (c+1-(m+1)):=by
  rw[bM,<-dJ,bN,show m+(c+1-(m+1))=c by omega]
 rw[g]
 have i:d*2 ^ s*2<BB ^ c*BB:=by
  rw[bM];exact eG (cK d p) (dD f aM)
 rw[r]at i;have o:=bQ (BB ^ (c+1-(m+1))) x;rw[bM 2]at o;omega
theorem DivI.fin{c b s:Nat}(h:DivI (c*2 ^ s) (b*2 ^ s) 0 a L)(i:0<b):val a=c / b/\val L / 2 ^ s=c % b/\val L<b*2 ^ s:=by
 have f:0<2 ^ s:=dE aM;have d:=h.lt;rw[gD,dM]at d;have e:=h.e
 have g:val a=c*2 ^ s / (b*2 ^ s):=by
  rw[<-e,bN,iJ (gZ i f),dZ d,bU]
 rw[iN _ _ f]at g
 have j:val L=c % b*2 ^ s:=by
  rw[<-Nat.mul_mod_mul_right,<-e,bN,iK,cC d]
 exact⟨g,by rw[j,Nat.mul_div_cancel _ f],d⟩
end Limb
namespace Limb
structure AddI (a b k c:Nat) (l:List Nat):Prop where
 len:l.length=k
 lt:∀x∈l,x<BB
 cle:c<=1
 e:val l+BB ^ k*c=a % BB ^ k+b % BB ^ k
theorem AddI.zero(a b:Nat):AddI a b 0 0 []:=⟨rfl,aL,aK,by simp[val,eJ]⟩
theorem AddI.step(c:AddI b f g h a)(d:s=h+lim b g+lim f g):AddI b f (g+1) (s / BB) (a++[s % BB]):=by
 have e:=Cv b g;have i:=Cv f g;have j:=c.cle;refine⟨by simp[c.len],Od c.lt (bE _ aM),?_,by rw[d];exact Anf c.len c.e⟩;unfold BB at *;omega
theorem AddI.fin{d b k c:Nat}(h:AddI d b k c a)(f:(lmb d).length<=k)(g:(lmb b).length<=k):val (a++[c])=d+b/\∀x∈a++[c],x<BB:=by
 have e:=h.e;rw[Di (h:=f),Di (h:=g)]at e;exact⟨by rw[Ku,h.len,e],Od h.lt (by have:=h.cle;unfold BB;omega)⟩
structure SubI (a b k o n:Nat) (l:List Nat):Prop where
 len:l.length=n
 lt:∀x∈l,x<BB
 ole:o<=1
 z:∀j,k<=j->l.getD j 0=0
 e:val l+b % BB ^ k=a % BB ^ k+BB ^ k*o
theorem SubI.zero(a b n:Nat):SubI a b 0 0 n (List.replicate n 0):=⟨aL,Gh n,aK,λj _=>G4 n j,by rw[E7];simp[eJ]⟩
theorem SubI.step(c:SubI b f g h k a)(p:g<k)(n:l<BB)(m:d<=1)(e:l+lim f g+h=lim b g+BB*d):SubI b f (g+1) d k (a.set g l):=by
 have i:=c.len;refine⟨by rw[cD];exact i,Hq c.lt n,m,λj o=>?_,Aly aK (c.z g aK) c.e e⟩;rw[Fc aK,if_neg aK];exact c.z j aK
theorem SubI.fin{c b o n:Nat}(h:SubI c b n o n a)(f:(lmb c).length<=n)(i:(lmb b).length<=n)(j:b<=c):val a=c-b:=by
 have e:=h.e;rw[Di (h:=f),Di (h:=i)]at e;have d:=Ql h.lt;rw[h.len]at d
 have k:o=0:=by
  rcases bK o with g|g
  .exact g
  have:=cK (BB ^ n) g;omega
 rw[k,eD]at e;omega
structure MulO (a b i na nb:Nat) (l:List Nat):Prop where
 len:l.length=na+nb
 lt:∀x∈l,x<BB
 z:∀j,i+nb<=j->l.getD j 0=0
 e:val l=(a % BB ^ i)*b
structure MulN (a b i k c na nb:Nat) (l:List Nat):Prop where
 len:l.length=na+nb
 lt:∀x∈l,x<BB
 cl:c<BB
 z:∀j,i+nb<=j->l.getD j 0=0
 e:val l+BB ^ (i+k)*c=(a % BB ^ i)*b+BB ^ i*lim a i*(b % BB ^ k)
theorem MulO.zero(a b c nb:Nat):MulO a b 0 c nb (List.replicate (c+nb) 0):=⟨aL,Gh _,λj _=>G4 _ j,by rw[E7];simp[eJ]⟩
theorem MulO.inner(c:MulO b f g h nb a):MulN b f g 0 0 h nb a:=⟨c.len,c.lt,aM,c.z,by rw[c.e];simp[eJ]⟩
theorem MulN.step(c:MulN b f g h k l nb a)(t:g<l)(u:h<nb)(v:s=k+(lim b g*lim f h+a.getD (g+h) 0)):MulN b f g (h+1) (s / BB) l nb (a.set (g+h) (s % BB))/\s<18446744073709551616:=by
 have i:=c.len;have m:=Cv b g;have n:=Cv f h;have o:=c.cl;have p:=Ex c.lt (g+h);have q:lim b g*lim f h<=(BB-1)*(BB-1):=cJ aK aK;have d:s<18446744073709551616:=by unfold BB at *;omega
 refine⟨⟨by rw[cD];exact i,Hq c.lt (bE _ aM),?_,λj e=>?_,?_⟩,d⟩
 .rw[dO aM];exact d
 .rw[Fc aK,if_neg aK];exact c.z j e
 have:=Ak0 (r:=a) (j:=g+h) (c:=k) (z:=lim b g*lim f h) (s:=s);rw[<-cQ,this,c.e,Bt,cR,cQ]
 congr 2
 rw[dJ,bM,bM,iA (lim b g)]
theorem MulN.fin{d b i c e nb:Nat}(h:MulN d b i nb c e nb a)(m:i<e)(l:(lmb b).length=nb):MulO d b (i+1) e nb (a.set (i+nb) c):=by
 have g:=h.len;have f:=Fp (l:=a) (k:=i+nb) (x:=c) aK;rw[h.z (i+nb) aK,eD,bU,h.e,Di (a:=b) (k:=nb)]at f;refine⟨by rw[cD];exact g,Hq h.lt h.cl,λj n=>?_,?_⟩
 .rw[Fc aK,if_neg aK];exact h.z j aK
 rw[f,Bt,cN]
theorem MulO.fin{c b d nb:Nat}(h:MulO c b d d nb a)(e:(lmb c).length=d):val a=c*b:=by
 rw[h.e,Di]
structure ShoI (a d k r n:Nat) (q:List Nat):Prop where
 len:q.length=n
 lt:∀x∈q,x<BB
 rl:r<d
 z:∀j,j<k->q.getD j 0=0
 e:val q*d+BB ^ k*r+a % BB ^ k=a
theorem ShoI.zero(a:0<d)(c:(lmb b).length=f):ShoI b d f 0 f (List.replicate f 0):=⟨aL,Gh f,a,λj _=>G4 f j,by rw[E7,Di];simp⟩
theorem ShoI.step{q:List Nat}(a:ShoI b d (f+1) g h q)(e:d<BB)(o:f<h)(l:s=g*BB+lim b f):ShoI b d f (s % d) h (q.set f (s / d))/\s<18446744073709551616/\s / d<BB:=by
 have i:=a.len;have k:=a.rl;have m:=Cv b f
 have c:s<d*BB:=by
  have:=bQ BB (show g+1<=d from k);rw[cN]at this;omega
 have hq:s / d<BB:=eZ c;refine⟨⟨by rw[cD];exact i,Hq a.lt hq,bE _ aK,λj n=>?_,by rw[l];exact Ae2 aK (a.z f aK) a.e⟩,?_,hq⟩
 .rw[Fc aK,if_neg aK];exact a.z j aK
 have:=bQ BB (show d<=BB from cX e);unfold BB at *;omega
theorem ShoI.fin(h:ShoI b d 0 f g a):val a=b / d/\f=b % d:=by
 have e:=h.e;have c:=h.rl;rw[gD,eJ,eF,bU,bN]at e;rw[<-e];exact⟨by rw[iJ aK,dZ c,bU],by rw[iK,cC c]⟩
end Limb
namespace Limb
theorem x8(d:∀x∈a,x<BB)(h:val a=b)(g:(lmb b).length=f):a.take f=lmb b:=by
 have e:=Xq d a.length aA;rw[dR,h]at e;have c:(a.take (trl a a.length)).length=f:=by rw[e,g]
 rw[bC,eR (Xr _ _)]at c;rw[<-c,e]
theorem Aac(A:(lmb b).length=g+1)(s:lim b g=d)(C:f<=31)(o:BB<=2*(d*2 ^ f))(c:d*2 ^ f<BB):(lmb (b*2 ^ f)).length=g+1/\BB<=2*lim (b*2 ^ f) g/\b*2 ^ f<BB ^ (g+1):=by
 have t:=Vt (l:=lmb b) (j:=g) (Dj b) (λk B=>by rw[List.getD,bI aK];rfl);rw[Ep]at t;rw[show (lmb b).getD g 0=d from s]at t;obtain⟨v,w⟩:=t;have u:0<2 ^ f:=dE aM;have h:0<BB ^ g:=dE aM
 have i:d*2 ^ f*BB ^ g<=b*2 ^ f:=by
  have:=bQ (2 ^ f) v
  rwa [gI] at this
 have a:b*2 ^ f<BB ^ (g+1):=by
  have:=dD w u;rw[gI]at this;have e:=On (s:=f) aK
  have p:d<2 ^ (32-f):=by
   rw[e,bN]at c;exact gX c
  have q:(d+1)*2 ^ f<=BB:=by
   rw[e,bN];exact cK _ p
  have y:=bQ (BB ^ g) q;rw[bZ,bN (BB ^ g)];omega
 have x:d*2 ^ f<=b*2 ^ f / BB ^ g:=(fC h).2 i
 have m:b*2 ^ f / BB ^ g<BB:=by
  rw[dO h,bN BB,<-bZ];exact a
 refine⟨?_,?_,a⟩
 .have D:=Me a;rcases bG (lmb (b*2 ^ f)).length (g+1) with n|n
  .have:=Mx (b*2 ^ f);have z:BB ^ (lmb (b*2 ^ f)).length<=BB ^ g:=bJ aM aK;have r:1<=d*2 ^ f:=by unfold BB at o;omega
   have:=bQ (BB ^ g) r;omega
  omega
 rw[Q7,cC m];omega
end Limb
section
open Go.RowKit Limb
def gu(l:List Nat)(k:Nat):Nat:=l.getD k 0
theorem Mj(h:b<a.length):a[b]? = some (gu a b):=by
 unfold gu;rw[List.getD,aW h];rfl
def Hn(w:World)(A:Option Addr)(n:Nat)(l:List Nat):Prop:=l.length=n/\(n=0\/∃b a,A=some ⟨b,a,none⟩/\∀k,k<n->Cq w b (a+k) (.int .u32 (gu l k:Int)))
theorem Hn.keep(h:Hn w e b a)(i:Be w c):Hn c e b a:=by
 refine⟨h.1,?_⟩;obtain⟨_,d⟩:=h;rcases d with d|⟨g,f,rfl,d⟩
 .exact .inl d
 exact .inr ⟨g,f,rfl,λk j=>Aq i (d k j)⟩
theorem Hn.at_(h:Hn w e b a)(g:k<b):∃d c,e=some ⟨d,c,none⟩/\Cq w d (c+k) (.int .u32 (gu a k:Int)):=by
 obtain⟨_,f⟩:=h;rcases f with f|⟨d,c,rfl,f⟩
 .omega
 exact⟨d,c,rfl,f k g⟩
theorem Hn.take(h:Hn w e b a)(j:m<=b):Hn w e m (a.take m):=by
 obtain⟨i,c⟩:=h;refine⟨by rw[bC];omega,?_⟩;rcases c with c|⟨f,d,rfl,c⟩
 .exact .inl aK
 refine .inr ⟨f,d,rfl,λk g=>?_⟩;have:gu (a.take m) k=gu a k:=by unfold gu;rw[List.getD,List.getD,eK g]
 rw[this];exact c k aK
def enU(z:Nat):List Value:=[.int .u32 (z:Int)]
theorem Hj(z:Nat):(enU z).length=1:=rfl
theorem Im(z:Nat):∀u∈enU z,u.oneCell'=true:=by
 intro u a;simp[enU]at a;subst a;rfl
def OwU(w:World)(a:Nat)(v:Value)(l:List Nat):Prop:=OwG 275 1 enU w a v l
theorem Pd:(prog.info? 275).map (λi=>(i.zero,i.size,i.bytes))=some (some (.int .u32 0),1,4):=aN
def Ce(w:World)(b:Nat)(v:Value)(a:Nat):Prop:=∃A c,v=.slice A (lmb a).length c/\(lmb a).length<=c/\c<=maxLen/\Hn w A (lmb a).length (lmb a)/\(A=none->c=0)/\∀p,A=some p->b<=p.block
theorem Ce.keep(h:Ce w base j b)(l:Be w c):Ce c base j b:=by
 obtain⟨A,a,e,d,f,g,i,k⟩:=h;exact⟨A,a,e,d,f,g.keep l,i,k⟩
theorem Ce.lower(h:Ce w b j f)(l:base'<=b):Ce w base' j f:=by
 obtain⟨A,c,e,a,d,g,i,k⟩:=h;exact⟨A,c,e,a,d,g,i,λp m=>bB l (k p m)⟩
end
section
open Go.RowKit Limb
theorem Aih(h:gu a b=0:=by omega):trl a (b+1)=trl a b:=by unfold gu at h;rw[trl,if_pos h]
theorem Ac5(h:¬gu a b=0:=by omega):trl a (b+1)=b+1:=by unfold gu at h;rw[trl,if_neg h]
theorem Ci(A:Option Addr)(a n:Nat)(l:List Nat)(p:n<=a)(j:Hn w A n l)(r:n<=1000000:=by omega):Calls prog 352 #[.slice A n a] w (Bz w (.slice A (trl l n) a)):=by
 go_in;go_wp2;go_loopw [3] (λi wr=>∃k:Nat,k<=n/\i=k/\Hid (trl l n=trl l k)/\Be w wr) λi _=>(intOf i).toNat
 case atStart=>exact⟨n,aA,rfl,Ar rfl,bl0⟩
 obtain⟨k,q,rfl,f,e⟩:=hrel;cases k with
 | zero =>
   have d:=Ar (show trl l n=0 by rw[f.out];rfl);go_wp2;go_ret;exact⟨by rw[d.out];rfl,e⟩
 | succ k =>
   obtain⟨b,o,rfl,g⟩:=(j.keep e).at_ (show k<n by omega)
   let⟨z,c⟩:=gN (((gu l k:Nat):Int):Int)
   rw[c]at g;by_cases h:z=0
   .have d:=Ar (show trl l n=trl l k by rw[f.out];exact Aih);rw[h]at g;go_wp2;exact⟨⟨k,aK,aP,d,e⟩,aJ⟩
   have d:=Ar (show trl l n=k+1 by rw[f.out];exact Ac5)
   go_wp2;go_ret;exact⟨by rw[d.out];rfl,e⟩
end
section
open Go.RowKit Limb
theorem Hn.trim(h:Hn w e b a)(d:∀x∈a,x<BB):Hn w e (trl a b) (lmb (val a))/\(lmb (val a)).length=trl a b:=by
 have c:=Xq d b (by rw[h.1];exact aA);have t:=h.take (Xr a b);rw[show a.take b=a from cW (by rw[h.1];exact aA)] at c;rw[c]at t;exact⟨t,t.1⟩
theorem Oz{base c:Nat}(h:Hn w e b a)(k:∀x∈a,x<BB)(j:b<=c)(f:e=none->c=0)(i:∀p,e=some p->base<=p.block)(hc2:c<=maxLen:=by unfold maxLen;omega):Ce w base (.slice e (trl a b) c) (val a):=by
 let⟨g,d⟩:=h.trim k;refine⟨e,c,by rw[d],?_,hc2,by rw[d];exact g,f,i⟩;rw[d];exact bB (Xr a b) j
theorem Aeq(w:World)(l:List Nat):Hn (w.alloc (.cells (l.map λx:Nat=>(.int .u32 (x:Int):Value)).toArray 275)) (some ⟨w,0,none⟩) l.length l:=by
 have h:=Bf.new w 275 (l.map λx:Nat=>(.int .u32 (x:Int):Value)).toArray;refine⟨rfl,.inr ⟨_,0,rfl,λk a=>?_⟩⟩;rw[dB];refine(h.cell k).trans ?_;rw[cA,dC,Mj a];rfl
theorem R4(n:Nat)(m:n<18446744073709551616):Calls prog 311 #[.int .u64 (n:Int)] w λe j=>∃v,e=.returned v/\Ce j w v n/\Be w j:=by
 have f:∀x∈[n % 4294967296,n / 4294967296],x<BB:=by
  intro x i;simp at i;unfold BB;rcases i with rfl|rfl<;>omega
 have g:val [n % 4294967296,n / 4294967296]=n:=by
  unfold val val val BB;omega
 have d:=Ar (show Hn (w.alloc (.cells #[.int .u32 ((n:Int) % 4294967296),.int .u32 ((n:Int) / 4294967296)] 275)) (some ⟨w,0,none⟩) 2 [n % 4294967296,n / 4294967296] by
  have h:=Aeq w [n % 4294967296,n / 4294967296];simpa using h)
 have k:=Ar f;have l:=Ar g;clear f g;go_in
 go_wp2_with (go_at_call 352;refine rR (Ci (some ⟨w,0,none⟩) 2 2 [n % 4294967296,n / 4294967296] aK d.out) λo a=>?_)
 go_ret;refine⟨_,rfl,?_,An blA a⟩;have:=Oz (base:=w.heap.size) (c:=2) (d.out.keep a) k.out aL (λh=>by cases h) (λp b=>by injection b with b;subst b;exact aA);rw[l.out]at this;exact this
end
section
open Go.RowKit Limb
def vU(l:List Nat):Array Value:=(l.map λx:Nat=>(.int .u32 (x:Int):Value)).toArray
def Ka(w:World)(g:Nat)(l:List Nat):Prop:=Bf w g 275 (vU l)
theorem Ka.keep(h:Ka w b a)(d:Be w c):Ka c b a:=Bf.keep h d
theorem Ka.lt(h:Ka w b a):b<w.heap.size:=Bf.lt h
theorem Ka.cell(h:Ka w b a)(c:k<a.length):Cq w b k (.int .u32 (gu a k:Int))/\w.frozen? ⟨b,k,none⟩=false:=by
 refine⟨(Bf.cell h k).trans ?_,Bf.frozen h k⟩;unfold vU;rw[cA,dC,Mj c];rfl
theorem Ka.store(h:Ka w b a)(k x:Nat):Ka (w.setCell ⟨b,k,none⟩ (.int .u32 (x:Int))) b (a.set k x):=by
 have:=Bf.set_ h k (.int .u32 (x:Int));unfold Ka;rw[show vU (a.set k x)=(vU a).setIfInBounds k (.int .u32 (x:Int)) by unfold vU;rw[fY,List.map_set]];exact this
theorem Ka.u32s(h:Ka w b a):Hn w (some ⟨b,0,none⟩) a.length a:=⟨rfl,.inr ⟨b,0,rfl,λk c=>by rw[dB];exact(h.cell c).1⟩⟩
theorem Fb(n:Nat)(hn:n<=1000000:=by omega):∃Z:Array Value,(∀w,(Instr.makeSlice 180 n n).run prog w=.ok (.slice (some ⟨w,0,none⟩) n n) (w.alloc (.cells Z 275)))/\∀w:World,Ka (w.alloc (.cells Z 275)) w (List.replicate n 0):=by
 let⟨i,g,a,b,c⟩:=dW Pd
 have f:madeCells (Value.int IntKind.u32 0).cells (n*1)=vU (List.replicate n 0):=by
  unfold vU madeCells;apply Array.ext';have e:(Value.int IntKind.u32 0).cells=#[.int .u32 0]:=aN
  rw[e];simp;apply gQ
  .simp
  intro j h k;simp[eJ]
 refine⟨madeCells (Value.int IntKind.u32 0).cells (n*1),λw=>?_,λw=>?_⟩
 .have d:=iO (P:=prog) w 180 275 i (.int .u32 0) underlying180 g a .i64 .i64 n n aK aK (by rw[c];omega) aK;rw[b]at d;simpa using d
 rw[f];exact Bf.new w _ _
theorem Ka.natV{base n v:Nat}(h:Ka w b a)(f:∀x∈a,x<BB)(g:a.length=n)(e:n<=1000000)(d:base<=b)(i:val a=v):Ce w base (.slice (some ⟨b,0,none⟩) (trl a n) n) v:=by
 subst g;subst i;exact Oz h.u32s f aA (λh=>by cases h) λp c=>by injection c with c;subst c;exact d
end
section
open Go.RowKit Limb
theorem ff{x:Int}:Calls prog 368 #[.int .u32 x] w λe a=>e=.returned (.bool false)/\w=a:=by
 go_in;go_wp2;go_ret;exact⟨Bn aL,rfl⟩
theorem U0{x:Int}:Calls prog 353 #[.int .u32 x,.int .u32 i] w (Bz w (Ey x i)):=by
 go_in
 go_wp2_with (go_at_call 368;refine aG (ff) ?_)
 all_goals go_ret
 all_goals exact⟨Bm (by unfold Ey;(repeat split)<;>omega),bl0⟩
theorem Jo(A B:Option Addr)(D E c nb a b:Nat)(J:(lmb a).length=c)(K:(lmb b).length=nb)(L:c<=D)(M:nb<=E)(F:Hn w A c (lmb a))(H:Hn w B nb (lmb b))(hna:c<=1000000:=by omega)(hnb:nb<=1000000:=by omega):Calls prog 313 #[.slice A c D,.slice B nb E] w (Bz w (Ia a b)):=by
 have Q:trl (lmb a) c=c:=by rw[<-J];exact Gv a
 have tb:trl (lmb b) nb=nb:=by rw[<-K];exact Gv b
 have v:=Ar (Agy (a:=a) (b:=b));rw[J,K]at v;have y:=Ar Q;have C:=Ar tb;clear Q tb J K;go_enter func313,ntmps313
 go_upto_region 3 with (first
  | (go_at_call 150;refine rR (Kn _ _) λw3 t=>?_)
  | (go_at_call 352;refine(Ci B E nb (lmb b) M (H.keep l)).mono ?_;rintro e w2 ⟨rfl,s⟩;rw[C.out])
  | (go_at_call 352;refine(Ci A D c (lmb a) L F).mono ?_;rintro e Y ⟨rfl,l⟩;rw[y.out]))
 have f:=An (An l s) t;have G:=F.keep f;have I:=H.keep f;clear l s t G I;by_cases h:c<nb
 .have d:Ey (c:Int) (nb:Int) = -1:=by unfold Ey;rw[if_pos aK]
  have g:=Ar (show Ia a b = -1 by rw[v.out,if_pos h]);rw[d];clear d;go_wp2;go_ret;exact⟨by rw[g.out];rfl,f⟩
 by_cases n:nb<c
 .have d:Ey (c:Int) (nb:Int)=1:=by unfold Ey;rw[if_neg aK,if_pos aK]
  have g:=Ar (show Ia a b=1 by rw[v.out,if_neg h,if_pos n]);rw[d];clear d;go_wp2;go_ret;exact⟨by rw[g.out];rfl,f⟩
 obtain rfl:c=nb:=aK
 have d:Ey (c:Int) (c:Int)=0:=by unfold Ey;rw[if_neg aK,if_neg aK]
 have g:=Ar (show Ia a b=ug (lmb a) (lmb b) c by rw[v.out,if_neg h,if_neg n]);rw[d];clear d h n;go_wp2;go_loopw [6,7] (λi _ wr=>∃(k:Nat) (z:Int),k<=c/\z=(k:Int)-1/\i=z/\Hid (Ia a b=ug (lmb a) (lmb b) k)/\Be w wr) λi _ _=>(intOf i+1).toNat
 case atStart=>exact⟨c,_,aA,rfl,rfl,g,f⟩
 obtain⟨k,z,Z,P,rfl,N,j⟩:=hrel;cases k with
 | zero =>
   have R:=Ar (show Ia a b=0 by rw[N.out];rfl);obtain rfl:z = -1:=aK
   clear P;go_wp2;go_ret;exact⟨by rw[R.out];rfl,j⟩
 | succ k =>
   obtain rfl:z=(k:Int):=aK
   clear P;obtain⟨S,W,rfl,U⟩:=(F.keep j).at_ (show k<c by omega);obtain⟨T,X,rfl,V⟩:=(H.keep j).at_ (show k<c by omega);have o:=Ar (show ug (lmb a) (lmb b) (k+1)=if gu (lmb a) k<gu (lmb b) k then -1 else if gu (lmb b) k<gu (lmb a) k then 1 else ug (lmb a) (lmb b) k from rfl);let⟨p,O⟩:=gN (((gu (lmb a) k:Nat):Int):Int)
   let⟨q,hq⟩:=gN (((gu (lmb b) k:Nat):Int):Int)
   rw[O]at U;rw[hq]at V;have z1:(0:Int)<=(k:Int):=aK
   have z2:(k:Int)<(c:Int):=aK
   have x:Hid (Ia a b=if p<q then -1 else if q<p then 1 else ug (lmb a) (lmb b) k):=Ar (by
    rw[N.out,o.out]
    (repeat' split)<;>first|rfl|omega)
   clear O hq N o;go_wp2_with fail;refine Bh wr [(⟨S,W+k,none⟩,.int .u32 p),(⟨T,X+k,none⟩,.int .u32 q)] ⟨bl0,aR⟩ ?_
   repeat
    apply Cx
    .rfl
    .intro Y u;have d:=u.2;simp only[AC]at d
     go_simp
     first|rfl|exact Bw u (U0)
    go_simp
   refine cH ?_;intro w8 r;have m:=An j r.1;by_cases h:p<q
   .have d:Ey p q = -1:=by unfold Ey;rw[if_pos h]
    have g:=Ar (show Ia a b = -1 by rw[x.out,if_pos h]);rw[d];clear d;go_wp2;go_ret;exact⟨by rw[g.out];rfl,m⟩
   by_cases n:q<p
   .have d:Ey p q=1:=by unfold Ey;rw[if_neg h,if_pos aK]
    have g:=Ar (show Ia a b=1 by rw[x.out,if_neg h,if_pos n]);rw[d];clear d;go_wp2;go_ret;exact⟨by rw[g.out];rfl,m⟩
   have d:Ey p q=0:=by unfold Ey;rw[if_neg h,if_neg aK]
   have g:=Ar (show Ia a b=ug (lmb a) (lmb b) k by rw[x.out,if_neg h,if_neg n]);rw[d];clear d x;go_wp2;exact⟨⟨k,(k:Int)-1,aK,rfl,aP,g,m⟩,aJ⟩
end
theorem Cj{P:Program}{c:Code}{Q:Exit->Act->World->Prop}{a:Act}(F:World->Prop)(b:F w)(h:∀X,F X->c.wp P Q a X):c.wp P Q a w:=h w b
theorem Ds(a:0<=z:=by omega)(b:z<18446744073709551616:=by first|omega|(unfold BB at *;omega)):IntKind.u64.wrap z=z:=by rw[dG];omega
theorem mn{a:Int}:Calls prog 251 #[.agg #[i,a]] w λe b=>e=.returned (.bool (Cc 1048576 (i,a)))/\Below w w b:=by
 go_enter func251,ntmps251;go_wp2;all_goals go_ret
 all_goals exact⟨Bn (by simp[Cc]<;>omega),Ao (aV _ _)⟩
theorem oi(A:Option Addr)(g n:Nat)(l:LP)(w:World)(t:n<=1000000)(o:SpS w A n l):Calls prog 104 #[.slice A n g,.func (.func 251) #[] #[]] w (Bz w (Db (λi=>Cc 1048576 (gt l i)) n)):=by
 go_in;go_wp2;go_loopw [8] (λi wr=>∃k:Nat,k<=n/\i=k/\Hid (Bp (λi=>Cc 1048576 (gt l i)) k=false)/\Be w wr) λi _=>n-(intOf i).toNat
 case atStart=>exact⟨0,aB,rfl,Bp.zero _,bl0⟩
 obtain⟨k,s,rfl,j,f⟩:=hrel;by_cases a:k<n
 .obtain⟨b,p,rfl,m,h⟩:=o.at_ a;have q:=Aq f (h k a).1;have r:=Aq f (h k a).2;clear h
  go_wp2_with (go_at_call 251;refine rR (mn) λu c=>?_;have d:=An f c;clear c)
  .go_ret;exact⟨Bm (Hf a j.out aQ).symm,d⟩
  go_roundw
  case rel=>exact⟨k+1,aK,aP,Bp.succ j.out (by simpa using ‹_›),d⟩
  case measure=>simp[intOf];omega
 obtain rfl:n=k:=aK
 go_wp2;go_ret;exact⟨Bm (Fy j.out).symm,f⟩
theorem Ub(l:LP)(d:SpS w e f l)(c:f<=1000000:=by omega):Calls prog 60 #[.slice e f b,.func (.func 251) #[] #[]] w (Bz w (.bool (Bp (λi=>Cc 1048576 (gt l i)) f))):=by
 go_in
 go_wp2_with (go_at_call 104;refine rR (oi _ _ _ _ _ c d) λh a=>?_)
 go_ret;exact⟨Bn (Hy _ _),a⟩
def plW(l:LP)(n:Nat):Int :=
 if n > 40 then 5 else if n<2 then 11 else if Bp (λi=>Cc 1048576 (gt l i)) n then 3 else if Bp (λi=>eqS (gt l i) (gt l (i+1))) (n-1) then 11 else 0
theorem Ih(A:Option Addr)(q n:Nat)(l:LP)(N:n<=9223372036854775807)(t:SpS w A n l):Calls prog 195 #[.slice A n q] w (Bz w (plW l n)):=by
 by_cases r:40<n
 .have a:=Ar (show plW l n=5 by unfold plW;rw[if_pos r]);go_in;go_wp2;go_ret;exact⟨by rw[a.out];rfl,bl0⟩
 by_cases u:n<2
 .have a:=Ar (show plW l n=11 by unfold plW;rw[if_neg r,if_pos u]);go_in;go_wp2;go_ret;exact⟨by rw[a.out];rfl,bl0⟩
 have o:=Ar (show plW l n=if Bp (λi=>Cc 1048576 (gt l i)) n then 3 else if Bp (λi=>eqS (gt l i) (gt l (i+1))) (n-1) then 11 else 0 by unfold plW;rw[if_neg r,if_neg u]);have E:=Ea;cases ho:Bp (λi=>Cc 1048576 (gt l i)) n with
 | true =>
   have a:=Ar (show plW l n=3 by rw[o.out,ho];rfl);have j:=Ar ho;go_in
   go_wp2_with (go_at_call 60;refine rR (Ub l t) λG d=>?_;rw[j.out])
   go_ret;exact⟨by rw[a.out];rfl,d⟩
 | false =>
   have p:=Ar (show plW l n=if Bp (λi=>eqS (gt l i) (gt l (i+1))) (n-1) then 11 else 0 by rw[o.out,ho];rfl);have j:=Ar ho;let⟨m,O⟩:∃m,m+1=n:=⟨n-1,aK⟩
   rw[show n-1=m by omega]at p
   go_in
   go_upto_region 8 with (go_at_call 60;refine rR (Ub l t) λG d=>?_;rw[j.out])
   go_loopw [3,15] (λ_ i wr=>∃k:Nat,k<=m/\i=k/\Hid (Bp (λi=>eqS (gt l i) (gt l (i+1))) k=false)/\Be w wr) λ_ i _=>m-(intOf i).toNat
   case atStart=>exact⟨0,aB,rfl,Bp.zero _,d⟩
   obtain⟨k,M,rfl,v,c⟩:=hrel;by_cases s:k<m
   .obtain⟨b,F,rfl,D,h⟩:=t.at_ (k:=0) aK;have H:=Aq c (h k aK).1;have I:=Aq c (h k aK).2;have J:=Aq c (h (k+1) aK).1;have K:=Aq c (h (k+1) aK).2
    go_wp2;go_quiet (fail);have g:Be w (wr.drewN nq):=Bd c _;cases he:eqS ((gt l k).1,(gt l k).2) ((gt l (k+1)).1,(gt l (k+1)).2) with
    | true =>
      have a:=Ar (show plW l n=11 by rw[p.out,if_pos (Bp.yes (f:=λi=>eqS (gt l i) (gt l (i+1))) s he)]);go_wp2;go_ret;exact⟨by rw[a.out];rfl,g⟩
    | false =>
      have a:=Bp.succ (f:=λi=>eqS (gt l i) (gt l (i+1))) v.out he;go_wp2;exact aE ⟨a,g⟩
   obtain rfl:m=k:=aK
   have a:=Ar (show plW l n=0 by rw[p.out,v.out];rfl);go_wp2;go_ret;exact⟨by rw[a.out];rfl,c⟩
def R5(n x:Nat):Nat:=if h:(x+n / x) / 2<x then R5 n ((x+n / x) / 2) else x
termination_by x
decreasing_by exact h
theorem Afs:∀x,R5 b x<=x:=by
 intro x;induction x using Nat.strongRecOn with
 | _ x ih =>
   rw[R5];split
   .rename_i h;exact bB (ih _ h) (cX h)
   exact aA
def Ca(n:Nat):Nat:=if n<2 then n else R5 n (2 ^ ((Lib.bitLen n+1) / 2))
theorem Ys(f:0<x):n<((x+n / x) / 2+1)*((x+n / x) / 2+1):=by
 have j:n<(n / x+1)*x:=by
  have:=Nat.lt_mul_div_succ n f
  rwa [bN] at this
 generalize n / x=q at *
 let⟨y,g⟩:=gN ((x+q) / 2)
 rw[g];have d:x+q+1<=2*(y+1):=aK
 have k:=cJ d d
 have l:4*((q+1)*x)<=(x+q+1)*(x+q+1):=by
  have c:∀a b:Int,4*(a*b)<=(a+b)*(a+b):=by
   intro a b;have m:(a+b)*(a+b)-4*(a*b)=(a-b)*(a-b):=aU
   have o:0<=(a-b)*(a-b):=by
    rcases iH 0 (a-b) with h|h
    .exact dT h h
    exact eN h h
   omega
  have:=c ((q+1:Nat):Int) (x:Int);have e:(((q+1:Nat):Int)+(x:Int))=((x+q+1:Nat):Int):=aK
  rw[e]at this
  exact_mod_cast this
 have i:2*(y+1)*(2*(y+1))=4*((y+1)*(y+1)):=aU
 omega
theorem dh(n:Nat)(hn:n<9223372036854775808):Calls prog 316 #[(n:Int)] w (Bz w (Ca n:Int)):=by
 by_cases u:n<2
 .have d:=Ar (show Ca n=n by unfold Ca;rw[if_pos u]);go_enter func316,ntmps316;go_wp2;go_ret;exact⟨by rw[d.out];rfl,bl0⟩
 obtain⟨H,I,t⟩:1<=Lib.bitLen n/\2 ^ (Lib.bitLen n-1)<=n/\n<2 ^ Lib.bitLen n:=Lib.bitLenAux_bounds 64 n (by have e:(2:Nat) ^ 64=18446744073709551616:= aM;omega) aK;have d:=Ar (show Ca n=R5 n (2 ^ ((Lib.bitLen n+1) / 2)) by unfold Ca;rw[if_neg u]);obtain⟨L,v⟩:∃L,Lib.bitLen n=L:=⟨_,rfl⟩
 rw[v]at H I t d
 have h:L<=63:=by
  apply bT;intro hc;have:2 ^ 63<=2 ^ (L-1):=bJ aM aK;have e:(2:Nat) ^ 63=9223372036854775808:=aM
  omega
 obtain⟨k,J⟩:∃k,(L+1) / 2=k:=⟨_,rfl⟩
 rw[J]at d;have j:k<=32:=aK
 obtain⟨X,f⟩:∃X,2 ^ k=X:=⟨_,rfl⟩
 have A:0<X:=by rw[<-f];exact dE aM
 have B:X<=4294967296:=by rw[<-f];exact bJ aM j
 have C:n<X*X:=by
  rw[<-f,<-dJ];exact aZ t (bJ aM aK)
 have o:=Ar v;rw[f]at d
 have O:((L:Int)+1) / 2=(k:Int):=aK
 have F:(2:Int) ^ k=(X:Int):=by rw[<-f];simp
 have G:IntKind.i64.wrap (2 ^ k)=(X:Int):=by rw[F,bH];omega
 go_enter func316,ntmps316
 go_wp2_with (go_at_call 211;refine(Any.bits_Len YtboghahlhmnblaaGreat.lays125 (n:Int) _ aK aK).mono ?_;rintro e S ⟨rfl,rfl⟩;rw[cT,o.out])
 go_loopw [3,4] (λx _ wr=>∃a:Nat,x=a/\0<a/\a<=4294967296/\n<(a+1)*(a+1)/\Hid (R5 n X=R5 n a)/\wr=S) λx _ _=>(intOf x).toNat
 case atStart=>exact⟨X,rfl,A,B,aZ C (cJ (dU _) (dU _)),Ar rfl,rfl⟩
 obtain⟨a,rfl,i,R,D,E,rfl⟩:=hrel
 have hq:n / a<=a+2:=by
  apply hJ;rw[dO i];have e:(a+1)*(a+1)=a*a+2*a+1:=aU
  have Q:(a+2+1)*a=a*a+3*a:=aU
  show n<(a+2+1)*a
  rw[Q];rw[e]at D;omega
 have hinv:=Ys (n:=n) i
 have c:0<(a+n / a) / 2:=by
  rcases bK ((a+n / a) / 2) with g|g
  .rw[g]at hinv;omega
  exact g
 obtain⟨q,b⟩:∃q,n / a=q:=⟨_,rfl⟩
 have r:=Ar b;rw[b]at hq hinv c;obtain⟨y,m⟩:∃y,(a+q) / 2=y:=⟨_,rfl⟩
 have s:=Ar m;rw[m]at hinv c
 have V:(n:Int) / (a:Int)=(q:Int):=by rw[<-b];rfl
 have W:Int.tdiv ((a:Int)+(q:Int)) 2=(y:Int):=by rw[eA aK];omega
 by_cases l:y<a
 .have p:Hid (R5 n X=R5 n y):=Ar (by
   have e:R5 n a=R5 n ((a+n / a) / 2):=by rw[R5,iI (by rw[r.out,s.out];exact l)]
   rw[E.out,e,r.out,s.out])
  go_wp2;exact⟨⟨y,rfl,c,aK,hinv,p,trivial⟩,aI⟩
 have p:Hid (Ca n=a):=Ar (by
  have e:R5 n a=a:=by rw[R5,dif_neg (by rw[r.out,s.out];exact l)]
  rw[d.out,E.out,e])
 go_wp2;go_ret;exact⟨by rw[p.out];rfl,bl0⟩
def sqd(p q:Int×Int):Nat:=(((q.1-p.1)*(q.1-p.1)+(q.2-p.2)*(q.2-p.2))).toNat
section
open Go.RowKit Limb
theorem OwU.u32s(h:OwU w b j a):∃A c,j=.slice A a.length c/\a.length<=c/\c<=maxLen/\Hn w A a.length a/\(A=none->c=0)/\∀p,A=some p->b<=p.block:=by
 rcases OwG.form h with⟨rfl,rfl⟩|⟨g,c,rfl,i,o,l,m⟩
 .exact⟨none,0,rfl,aA,aB,⟨rfl,.inl rfl⟩,λ_=>rfl,λp d=>by cases d⟩
 refine⟨_,c,rfl,l,m,⟨rfl,.inr ⟨g,0,rfl,λk n=>?_⟩⟩,(λh=>by cases h),λp d=>by injection d with d;subst d;exact i⟩;have e:=OwG.cells h (k*1) aK;have f:=Bu Hj a k 0 _ (Mj n) aK;rw[bU]at f;rw[f,dM]at e;rw[dB];exact e
theorem Acv(A B:Option Addr)(O P f nb a b:Nat)(w:World)(S:Array Value)(s:Nat)(hS:S=#[.slice A f O,.slice B nb P]\/nb<f/\S=#[.slice B nb P,.slice A f O])(hs:a+b=s)(ha:(lmb a).length=f)(hb:(lmb b).length=nb)(cj:f<=100000)(bb:nb<=f)(U:f<=O)(V:nb<=P)(hA:Hn w A f (lmb a))(hB:Hn w B nb (lmb b)):Calls prog 358 S w λe w'=>∃v,e=.returned v/\Ce w' w v s/\Be w w':=by
 have b0:=Ar hs;clear hs;have ta:trl (lmb a) f=f:=by rw[<-ha];exact Gv a
 have tb:trl (lmb b) nb=nb:=by rw[<-hb];exact Gv b
 have M:=Ar ta;have N:=Ar tb;have aw:=Ar ha;have K:=Ar hb;clear ta tb ha hb;let⟨i,o,a7,a8,ad⟩:=dW Pd;rcases hS with rfl|⟨Y,rfl⟩
 all_goals
  go_in
  go_upto_region 4 with (first
   | (go_at_call 352;have hz:=g;(with_reducible refine(Ci B P nb (lmb b) V (hB.keep g)).mono ?_);rintro e D ⟨rfl,Q⟩;rw[N.out])
   | (go_at_call 352;have hz:=g;(with_reducible refine(Ci A O f (lmb a) U (hA.keep g)).mono ?_);rintro e D ⟨rfl,Q⟩;rw[M.out])
   | (go_at_call 352;(with_reducible refine(Ci A O f (lmb a) U hA).mono ?_);rintro e w1 ⟨rfl,g⟩;rw[M.out])
   | (go_at_call 352;(with_reducible refine(Ci B P nb (lmb b) V hB).mono ?_);rintro e w1 ⟨rfl,g⟩;rw[N.out]))
  have t:=An g Q;clear g
  go_upto_region 7 with (at_make;refine wpList_make_own _ rfl _ _ 180 rfl D 275 i (.int .u32 0) 1 underlying180 o a7 a8 _ _ _ (f+1) rfl rfl (by first|rfl|omega|simp) (by rw[ad];omega) aS aA ?_;intro w3 Z W)
  have a1:OwU w3 D (.slice (some ⟨D,0,none⟩) 0 (f+1)) []:=Z;have b7:Be D w3:=dS bl0 W aA (λj hj=>by cases hj);clear Z W a7 a8 ad o;go_loopw [5,6,7,8,26] (λr c _ _ i wr=>∃(k d:Nat) (l:List Nat),k<=f/\i=k/\c=.int .u64 (d:Int)/\Hid (AddI a b k d l)/\OwU wr D r l/\Be D wr) λ_ _ _ _ i _=>f-(intOf i).toNat
  case atStart=>exact⟨0,0,[],aB,rfl,rfl,Ar (AddI.zero a b),a1,b7⟩
  obtain⟨k,d,l,hk,rfl,rfl,E,p,h⟩:=hrel;have T:=An t h;have cf:=E.out.cle;have ba:=E.out.len;by_cases Y:k<f
  .obtain⟨b1,o1,rfl,h1⟩:=(hA.keep T).at_ Y;have HX:=Cv a k;let⟨x,J⟩:=gN (lim a k)
   have H:gu (lmb a) k=x:=J;rw[H]at h1;rw[J]at HX;unfold BB at HX;have W1:=Ds (z:=(x:Int)) aK aK;have W2:=Ds (z:=(d:Int)+(x:Int)) aK aK;by_cases b9:k<nb
   .obtain⟨b2,o2,rfl,h2⟩:=(hB.keep T).at_ b9;have HY:=Cv b k;let⟨y,I⟩:=gN (lim b k)
    have a6:gu (lmb b) k=y:=I;rw[a6]at h2;rw[I]at HY;unfold BB at HY;have W3:=Ds (z:=(y:Int)) aK aK;have W4:=Ds (z:=(d:Int)+(x:Int)+(y:Int)) aK aK;have L:=Ar (E.out.step (s:=d+x+y) (by rw[J,I]));clear J H I a6;let⟨q,n⟩:=gN ((d+x+y) % BB:Nat)
    let⟨o,m⟩:=gN ((d+x+y) / BB:Nat)
    have G:Hid (AddI a b (k+1) o (l++[q])):=Ar (by rw[<-n,<-m];exact L.out);unfold BB at n m;have E1:((d:Int)+(x:Int)+(y:Int)) % 4294967296=(q:Int):=aK
    have E2:((d:Int)+(x:Int)+(y:Int)) / 4294967296=(o:Int):=aK
    clear n m L E
    go_wp2_with (at_builtin;refine Co 180 rfl enU D 275 (.int .u32 0) 1 4 underlying180 Pd Hj Im l (p.alloc _) wr 1 q 275 (Bf.new _ _ _) (Ao h).size ?_;intro v' w' C u F)
    exact⟨⟨k+1,o,l++[q],aK,aP,rfl,G,C,Bk (Ao h) (p.alloc _) u⟩,aI⟩
   have I:lim b k=0:=Sd (by rw[K.out];omega);have L:=Ar (E.out.step (s:=d+x) (by rw[J,I,bU]));clear J H I;let⟨q,n⟩:=gN ((d+x) % BB:Nat)
   let⟨o,m⟩:=gN ((d+x) / BB:Nat)
   have G:Hid (AddI a b (k+1) o (l++[q])):=Ar (by rw[<-n,<-m];exact L.out);unfold BB at n m;have E1:((d:Int)+(x:Int)) % 4294967296=(q:Int):=aK
   have E2:((d:Int)+(x:Int)) / 4294967296=(o:Int):=aK
   clear n m L E
   go_wp2_with (at_builtin;refine Co 180 rfl enU D 275 (.int .u32 0) 1 4 underlying180 Pd Hj Im l (p.alloc _) wr 1 q 275 (Bf.new _ _ _) (Ao h).size ?_;intro v' w' C u F)
   exact⟨⟨k+1,o,l++[q],aK,aP,rfl,G,C,Bk (Ao h) (p.alloc _) u⟩,aI⟩
  obtain rfl:k=f:=aK
  let⟨F1,F2⟩:=E.out.fin (by rw[aw.out];exact aA) (by rw[K.out];exact bb);have ak:=Ar F1;have au:=Ar F2;have E3:(d:Int) % 4294967296=(d:Int):=aK
  have X:(l++[d]).length=k+1:=by simp[ba]
  clear F1 F2 E
  go_wp2_with (first|(go_at_call 352;obtain⟨A',c',rfl,q1,q2,q3,q4,q5⟩:=OwU.u32s C;refine rR (Ci A' c' _ (l++[d]) q1 q3) λw5 R=>?_)|(at_builtin;refine Co 180 rfl enU D 275 (.int .u32 0) 1 4 underlying180 Pd Hj Im l (p.alloc _) wr 1 d 275 (Bf.new _ _ _) (Ao h).size ?_;intro v' w' C u F))
  go_ret;have b8:=Bk (Ao h) (p.alloc _) u;have hN:=Oz (q3.keep R) au.out q1 (hc2:=q2) q4 q5;rw[ak.out,X,b0.out]at hN;refine⟨_,rfl,hN.lower t.size,An (An t b8) R⟩
def Afv:=λ(A B:Option Addr) (c d e nb a b:Nat) (w:World)=>@Acv A B c d e nb a b w _ _ (.inl rfl) rfl
def Afu:=λ(A B:Option Addr) (f g e nb a b:Nat) (w:World) h i d (c:nb<e)=>@Acv A B f g e nb a b w _ _ (.inr ⟨c,rfl⟩) (gU a b) h i d (cX c)
end
def F8(a b:Int):Int:=if a<0 then -((2 * -a+b) / (2*b)) else (2*a+b) / (2*b)
theorem L4{a M:Int}(j:0<i)(h : -(i*M)<=a)(c:a<=i*M)(g:0<=M:=by omega): -M<=F8 a i/\F8 a i<=M:=by
 have b:∀x:Int,0<=x->x<=i*M->0<=(2*x+i) / (2*i)/\(2*x+i) / (2*i)<=M:=by
  intro x d f;constructor
  .exact iL aK aK
  have:(2*x+i) / (2*i)<M+1:=by
   apply Int.ediv_lt_of_lt_mul aK;have e:(M+1)*(2*i)=2*(i*M)+2*i:=by rw[gJ,eW M,Int.mul_assoc 2 i M,fZ]
   omega
  omega
 unfold F8;split
 .have:=b (-a) aK aK;omega
 have:=b a aK c;omega
theorem Ah7{f:Nat}(h:f=201\/f=197)(a b:Int)(w:World)(m:0<=a)(n:a<=1152921504606846976)(o:0<b)(e:b<=1152921504606846976):Calls prog f #[a,b] w (Bz w (F8 a b)):=by
 rcases h with rfl|rfl
 all_goals
  have c:=Ar (show F8 a b=(2*a+b) / (2*b) by unfold F8;rw[if_neg aK]);have d:Int.tdiv (2*a+b) (2*b)=(2*a+b) / (2*b):=eA aK;have i:=iL (show 0<=2*a+b by omega) (show 0<=2*b by omega)
  have j:(2*a+b) / (2*b)<=2*a+b:=by
   have:=Int.ediv_le_self (a:=2*a+b) (2*b) aK;omega
  let⟨q,hq⟩:=gN ((2*a+b) / (2*b))
  rw[hq]at i d j c
  go_in
  go_wp2;go_ret;exact⟨by rw[c.out];rfl,bl0⟩
def Ane:=@Ah7 201 (.inl rfl)
def Am1:=@Ah7 197 (.inr rfl)
theorem Anm{f:Nat}(n:f=201\/f=197)(a b:Int)(w:World)(r : -1152921504606846976<=a)(m:a<=1152921504606846976)(g:0<b)(d:b<=1152921504606846976):Calls prog f #[a,b] w (Bz w (F8 a b)):=by
 rcases n with rfl|rfl
 have c:=@Ane
 rotate_left 1
 have c:=@Am1
 rotate_left 1
 all_goals
  by_cases h:a<0
  .have j:=Ar (show F8 a b = -(F8 (-a) b) by unfold F8;rw[if_pos h,if_neg aK]);have k:=L4 (M:=1152921504606846976) g (a := -a) (by have:=fI (show 1<=b by omega) (show (0:Int)<=1152921504606846976 by omega);omega) (by have:=fI (show 1<=b by omega) (show (0:Int)<=1152921504606846976 by omega);omega);let⟨q,hq⟩:=gN (F8 (-a) b)
   rw[hq]at k j;have l:=Ar hq;clear hq;obtain⟨o,p⟩:=k;go_in
   go_wp2_with ((first|go_at_call 201|go_at_call 197);refine rR (c (-a) b _ aK aK g d) λs i=>?_;rw[l.out])
   go_ret;exact⟨by rw[j.out];rfl,i⟩
  exact c a b w aK m g d
def Z4:=@Anm 201 (.inl rfl)
def Zc:=@Anm 197 (.inr rfl)
def wI(n b:Int):Bool:=decide (-b<=n)&&decide (n<=b)
theorem D7(n b:Int)(w:World)(a:0<=b)(c:b<=4611686018427387904):Calls prog 131 #[n,b] w (Bz w (.bool (wI n b))):=by
 go_in;go_wp2;all_goals go_ret
 all_goals exact⟨Bn (by simp[wI]<;>omega),bl0⟩
def wS(s:Int×Int)(b:Int):Bool:=wI s.1 b&&wI s.2 b
theorem Is(x y b:Int)(a:0<=b:=by omega)(c:b<=4611686018427387904:=by omega):Calls prog 141 #[.agg #[x,y],b] w (Bz w (.bool (wS (x,y) b))):=by
 go_in;go_wp2;all_goals go_ret
 all_goals exact⟨Bn (by first|(simp[wS,wI]<;>omega)|(simp[wS,wI, *];done)|(simp[wS,wI, *];omega)|(simp_all [wS,wI];done)|(simp_all [wS,wI];omega)),blA⟩
section
open Go.RowKit Limb
theorem Aad(A B:Option Addr)(ca cb:Nat)(a g:Nat)(w:World)(ha:(lmb a).length=b)(hb:(lmb g).length=nb)(c4:b<=100000)(c5:nb<=100000)(ad:b<=ca)(ai:nb<=cb)(hA:Hn w A b (lmb a))(hB:Hn w B nb (lmb g)):Calls prog 315 #[.slice A b ca,.slice B nb cb] w λe w'=>∃v,e=.returned v/\Ce w' w v (a*g)/\Be w w':=by
 have ta:trl (lmb a) b=b:=by rw[<-ha];exact Gv a
 have tb:trl (lmb g) nb=nb:=by rw[<-hb];exact Gv g
 have a1:=Ar ta;have a6:=Ar tb;have V:=Ar ha;have W:=Ar hb;let⟨Z,M,hZ⟩:=Fb (b+nb);have au:∀w,(Instr.makeSlice 180 (.int .i64 ((b:Int)+(nb:Int))) (.int .i64 ((b:Int)+(nb:Int)))).run prog w=.ok (.slice (some ⟨w,0,none⟩) (b+nb) (b+nb)) (w.alloc (.cells Z 275)):=λw=>by have:=M w;rwa [fS] at this
 go_in
 go_upto_region 4 with (first
  | (go_at_call 352;refine(Ci B cb nb (lmb g) ai (hB.keep u)).mono ?_;rintro e F ⟨rfl,H⟩;rw[a6.out])
  | (go_at_call 352;refine(Ci A ca b (lmb a) ad hA).mono ?_;rintro e w1 ⟨rfl,u⟩;rw[a1.out]))
 have n:=An u H;go_loopw [6,7,8,9,10,23,28,29,30] (λ_ _ _ _ _ i _ _ _ wr=>∃(k:Nat) (l:List Nat),k<=b/\i=k/\Hid (MulO a g k b nb l)/\Ka wr F l/\Be F wr) λ_ _ _ _ _ i _ _ _ _=>b-(intOf i).toNat
 case atStart=>exact⟨0,_,aB,rfl,Ar (MulO.zero a g b nb),hZ F,blA⟩
 obtain⟨k,l,hk,rfl,h,d,f⟩:=hrel;have o:=An n f;have r:=h.out.len;have K:=d.lt;by_cases E:k<b
 .obtain⟨b1,o1,rfl,h1⟩:=(hA.keep o).at_ E;have HX:=Cv a k;let⟨x,hx⟩:=gN (lim a k)
  have b3:gu (lmb a) k=x:=hx;rw[b3]at h1;rw[hx]at HX;have W1:=Ds (z:=(x:Int));have G:=Ar h.out.inner;have Hx:=Ar hx;go_wp2;obtain⟨wa,rfl⟩:∃wa:World,wa=wr:=⟨_,rfl⟩
  go_loopw [8,9,10,30] (λc _ _ i wr=>∃(j q:Nat) (l:List Nat),j<=nb/\i=j/\c=.int .u64 (q:Int)/\Hid (MulN a g k j q b nb l)/\Ka wr F l/\Be F wr) λ_ _ _ i _=>nb-(intOf i).toNat
  case atStart=>exact⟨0,0,l,aB,rfl,rfl,G,d,f⟩
  obtain⟨j,q,l,hj,rfl,rfl,h,d,f⟩:=hrel;have o:=An n f;have r:=h.out.len;have J:=h.out.cl;by_cases L:j<nb
  .obtain⟨b2,o2,rfl,h2⟩:=(hB.keep o).at_ L;let⟨z1,f1⟩:=d.cell (k:=k+j) aK;have HY:=Cv g j;let⟨s,R⟩:∃s,s=q+(lim a k*lim g j+l.getD (k+j) 0):=⟨_,rfl⟩
   let⟨t,aw⟩:=h.out.step E L R;have HZ:=Ex h.out.lt (k+j);let⟨y,S⟩:=gN (lim g j)
   have N:gu (lmb g) j=y:=S;let⟨z,T⟩:=gN (l.getD (k+j) 0)
   have O:gu l (k+j)=z:=T;rw[N]at h2;rw[O]at z1;rw[S]at HY;rw[T]at HZ;rw[S,T,Hx.out]at R;generalize hm:x*y=m at R
   have W3:=Ds (z:=(y:Int));have W4:=Ds (z:=(x:Int)*(y:Int));have W5:=Ds (z:=(z:Int));have W6:=Ds (z:=(x:Int)*(y:Int)+(z:Int));have W7:IntKind.u64.wrap ((q:Int)+((x:Int)*(y:Int)+(z:Int)))=(s:Int):=by rw[Ds];omega
   let⟨P,D⟩:=gN (s % BB:Nat)
   let⟨Q,C⟩:=gN (s / BB:Nat)
   rw[D,C]at t;have Y:=Ar t;unfold BB at D C;have E1:(s:Int) % 4294967296=(P:Int):=aK
   have E2:(s:Int) / 4294967296=(Q:Int):=aK
   clear D C h t R aw hm S N T O HY HZ J r;go_wp2;exact⟨⟨j+1,Q,l.set (k+j) P,aK,aP,rfl,Y,d.store (k+j) P,Ba f (p:=⟨F,k+j,none⟩) aA⟩,aI⟩
  obtain rfl:j=nb:=aK
  let⟨z1,f1⟩:=d.cell (k:=k+j) aK;have U:=Ar (h.out.fin E W.out);have E1:(q:Int) % 4294967296=(q:Int):=by unfold BB at J;omega
  go_wp2;exact⟨⟨k+1,l.set (k+j) q,aK,aP,U,d.store (k+j) q,Ba f (p:=⟨F,k+j,none⟩) aA⟩,aI⟩
 obtain rfl:k=b:=aK
 have U:=Ar (h.out.fin V.out);have X:=Ar h.out.lt;have hU:=d.u32s;rw[r]at hU
 go_wp2_with (go_at_call 352;refine rR (Ci _ (k+nb) (k+nb) l aA hU) λw5 I=>?_)
 go_ret;have hN:=(d.keep I).natV (base:=w.heap.size) X.out r aK n.size U.out;exact⟨_,rfl,hN,An o I⟩
theorem Alk(a:b<BB)(c:f<BB):bits .or .u64 ((b:Int)*4294967296) (f:Int)=((b*BB+f:Nat):Int):=by
 unfold BB at *
 rw[bits_join .u64 64 aM wraps_u64 32 _ _ aK aK aK aK aK aK];omega
theorem dv(A:Option Addr)(O b a d:Nat)(Q:(lmb a).length=b)(au:b<=100000)(a8:b<=O)(hA:Hn w A b (lmb a))(hd:0<d)(y:d<BB):Calls prog 369 #[.slice A b O,.int .u32 (d:Int)] w λe S=>∃v,e=.returned (.tuple #[v,.int .u32 ((a % d:Nat):Int)])/\Ce S w v (a / d)/\Be w S:=by
 let⟨Z,ak,hZ⟩:=Fb b;have F:=Ar Q;have j:=Ar y;have WD:=Ds (z:=(d:Int));go_in;go_upto_region 4 with fail;go_loopw [7,8] (λr i wr=>∃(k h:Nat) (z:Int) (l:List Nat),k<=b/\z=(k:Int)-1/\i=z/\r=.int .u64 (h:Int)/\Hid (ShoI a d k h b l)/\Ka wr w l/\Be w wr) λ_ i _=>(intOf i+1).toNat
 case atStart=>exact⟨b,0,_,_,aA,rfl,rfl,rfl,Ar (ShoI.zero hd F.out),hZ w,blA⟩
 obtain⟨k,h,z,l,hk,R,rfl,rfl,g,c,n⟩:=hrel;have o:=g.out.len;cases k with
 | zero =>
   obtain rfl:z = -1:=aK
   clear R;let⟨M,N⟩:=g.out.fin;have W:=Ar M;have E:=Ar N;have G:=Ar g.out.lt;have f:=g.out.rl;have P:=c.u32s;rw[o]at P;have T:(h:Int) % 4294967296=(h:Int):=by have:=j.out;unfold BB at this;omega
   clear g M N f
   go_wp2_with (go_at_call 352;refine rR (Ci _ b b l aA P) λw5 u=>?_)
   go_ret2
   have hN:=(c.keep u).natV (base:=w.heap.size) G.out o aK aA W.out;exact⟨_,by rw[<-E.out];rfl,hN,An n u⟩
 | succ k =>
   obtain rfl:z=(k:Int):=aK
   clear R;obtain⟨b1,o1,rfl,Y⟩:=(hA.keep n).at_ (show k<b by omega);let⟨c1,f1⟩:=c.cell (k:=k) aK;have I:=Cv a k;let⟨s,D⟩:∃s,s=h*BB+lim a k:=⟨_,rfl⟩
   let⟨m,K,t⟩:=g.out.step j.out aK D;have f:=g.out.rl;let⟨x,L⟩:=gN (lim a k)
   have C:gu (lmb a) k=x:=L;rw[C]at Y;rw[L]at I D;have B:h<BB:=gC f j.out;have W1:=Ds (z:=(x:Int));have W2:=Ds (z:=(h:Int)*4294967296);have X:=Alk B I;rw[<-D]at X;let⟨q,hq⟩:=gN (s / d)
   let⟨r,J⟩:=gN (s % d)
   rw[hq]at t;rw[hq,J]at m;have H:=Ar m
   have T:(q:Int) % 4294967296=(q:Int):=by unfold BB at t;omega
   have U:(s:Int) / (d:Int)=(q:Int):=by rw[<-hq];rfl
   have V:(s:Int) % (d:Int)=(r:Int):=by rw[<-J];rfl
   have E5:Int.tmod (s:Int) (d:Int)=(r:Int):=by rw[eO aK];exact V
   clear L C I g m D K t f B hq J o;go_wp2
   trace_state
   exact⟨⟨k,r,(k:Int)-1,l.set k q,aK,rfl,aP,rfl,H,c.store k q,Ba n (p:=⟨w,k,none⟩) aA⟩,aJ⟩
end
end Go.Proofs.YtboghahlhmnblaaGreat
