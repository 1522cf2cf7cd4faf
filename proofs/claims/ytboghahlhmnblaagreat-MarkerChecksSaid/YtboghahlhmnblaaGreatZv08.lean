/- Lean texts of the claim. -/
import Derived.Test.YtboghahlhmnblaaGreatZv04
import Derived.Test.YtboghahlhmnblaaGreatZv05
namespace Go.Proofs.YtboghahlhmnblaaGreat
set_option linter.all false
set_option maxRecDepth 100000
set_option maxHeartbeats 0
open Go.RowKit Go.Proofs.Tryz
variable{a f g h l p:Nat}{b n:World}{c m:List Nat}{e j:Value}{i:Option Addr}{k:Int}{o:Addr}{base base' d nb s x:Nat}{v:Value}{w:World}
namespace Limb
theorem qe(a:∀x∈c,x<BB){m:Nat}(h:∀j,m<=j->c.getD j 0=0):val c<BB ^ m:=by
 rcases bG m c.length with g|g
 .have e:=I3 c m;rw[drop_zero h,eD,bU]at e;rw[e];exact Lu a
 exact aZ (Ql a) (bJ aM g)
structure DgI (L0:List Nat) (V q i k c o:Nat) (L:List Nat):Prop where
 len:L.length=L0.length
 lt:∀x∈L,x<BB
 cl:c<BB
 ol:o<=1
 hi:∀j,i+k<=j->L.getD j 0=L0.getD j 0
 e:val L+BB ^ i*q*(V % BB ^ k)=val L0+BB ^ (i+k)*(c+o)
theorem DgI.zero(a:∀x∈c,x<BB)(V q i:Nat):DgI c V q i 0 0 0 c:=⟨rfl,a,aM,aK,λ_ _=>rfl,by simp[eJ]⟩
theorem DgI.step{q i:Nat}(b:DgI c a q f g h l m)(hq:q<BB)(y:f+g<c.length)(r:p<BB)(o:i<=1)(e:p+(h+q*lim a g) % BB+l=c.getD (f+g) 0+BB*i):
 DgI c a q f (g+1) ((h+q*lim a g) / BB) i (m.set (f+g) p):=by
 have n:=b.len;have w:=b.cl;have t:=Cv a g;have v:q*lim a g<=(BB-1)*(BB-1):=cJ (by omega) (by omega);refine⟨by rw[cD];exact n,Hq b.lt r,?_,o,λj x=>?_,?_⟩
 .rw[dO (by decide)];unfold BB at *;omega
 .rw[Fc (by omega),if_neg (by omega)];exact b.hi j (by omega)
 rw[<-b.hi (f+g) aA]at e;have d:=Am9 (u:=m) (j:=f+g) (c:=h) (z:=q*lim a g) (o:=l) (o':=i) (v:=p) (by omega) e;have s:=b.e
 have k:BB ^ f*q*(BB ^ g*lim a g)=BB ^ (f+g)*(q*lim a g):=by
  rw[dJ,bM,bM,iA q]
 rw[Bt,cR,k,<-cQ f g 1];omega
theorem DgI.small(b:DgI c a f g h l p m)(hq:f<BB):l+f*lim a h<18446744073709551616:=by
 have i:=b.cl;have d:=Cv a h;have e:f*lim a h<=(BB-1)*(BB-1):=cJ aK aK;unfold BB at *;omega
theorem DgI.top{V q i n b o v f:Nat}(h:DgI c V q i n b o m)(r:(lmb V).length=n)(s:i+n<c.length)(u:v<BB)(e:v+b+o=c.getD (i+n) 0+BB*f):
 val (m.set (i+n) v)+q*(V*BB ^ i)=val c+BB ^ (i+n+1)*f:=by
 have t:=h.len;have d:=h.e;rw[Di (a:=V) (k:=n)]at d;have p:=Fp (l:=m) (k:=i+n) (x:=v) (by omega);rw[h.hi (i+n) aA]at p;have g:=eB (BB ^ (i+n)*·) e;simp only[cR,<-bM]at g d;rw[bZ];have j:q*(V*BB ^ i)=BB ^ i*q*V:=by rw[bN V,<-bM,bN q]
 rw[j];omega
theorem Agv{b:List Nat}(k:∀x∈b,x<BB)(n:∀j,g+h<j->b.getD j 0=0)(e:val b+f*(a*BB ^ g)=val c+BB ^ (g+h+1)*l)(q:val c / (a*BB ^ g)<=f)(hq2:f<=val c / (a*BB ^ g)+1)(o:0<a*BB ^ g)(u:l<=1):
 (l=0->f=val c / (a*BB ^ g)/\val b=val c % (a*BB ^ g))/\(l=1->f=val c / (a*BB ^ g)+1/\val b+a*BB ^ g=val c % (a*BB ^ g)+BB ^ (g+h+1)):=by
 have p:=eQ (val c) (a*BB ^ g);have t:=bE (val c) o;have r:=qe k (m:=g+h+1) (λj s=>n j (by omega));generalize a*BB ^ g=W at *
 generalize val c / W=Q at *
 generalize val c % W=R at *
 generalize BB ^ (g+h+1)=B at *
 rw[bN]at p;constructor
 .intro i;rw[i,eD,bU]at e
  have:f=Q:=by
   rcases bG Q f with d|d
   .obtain rfl:f=Q+1:=by omega
    rw[cN,eF]at e;omega
   omega
  subst this;exact⟨rfl,by omega⟩
 intro i;rw[i,dM]at e
 have:f=Q+1:=by
  rcases bG Q f with d|d
  .omega
  obtain rfl:f=Q:=by omega
  omega
 subst this;rw[cN,eF]at e;exact⟨rfl,by omega⟩
structure AbI (L1:List Nat) (V i k c:Nat) (L:List Nat):Prop where
 len:L.length=L1.length
 lt:∀x∈L,x<BB
 cl:c<=1
 hi:∀j,i+k<=j->L.getD j 0=L1.getD j 0
 e:val L+BB ^ (i+k)*c=val L1+BB ^ i*(V % BB ^ k)
theorem AbI.zero(a:∀x∈c,x<BB)(V i:Nat):AbI c V i 0 0 c:=⟨rfl,a,aK,λ_ _=>rfl,by simp[eJ]⟩
theorem AbI.step(b:AbI c a f g h m)(q:f+g<c.length)(i:s=h+(c.getD (f+g) 0+lim a g)):
 AbI c a f (g+1) (s / BB) (m.set (f+g) (s % BB)):=by
 have e:=b.len;have o:=b.cl;have l:=Cv a g;rw[<-b.hi (f+g) aA]at i;have n:=Ex b.lt (f+g);refine⟨by rw[cD];exact e,Hq b.lt (bE _ (by decide)),by unfold BB at *;omega,λj p=>?_,?_⟩
 .rw[Fc (by omega),if_neg (by omega)];exact b.hi j (by omega)
 have d:=Ak0 (r:=m) (j:=f+g) (c:=h) (z:=lim a g) (s:=s);have k:=b.e;rw[Bt,cR,<-bM,<-dJ,<-cQ f g 1];omega
theorem Ang{P x W b B:Nat}(e:a+P*g=b+W)(j:f+P*x=a+P*h)(d:P*h+P*B*l=P*x+P*g)(i:b+W=p+P*B)(m:f<P*B)(k:l<=1):f=p:=by
 rcases bK l with c|c
 .subst c;rw[eD]at d;omega
 obtain rfl:l=1:=aK
 rw[dM]at d;omega
theorem AbI.fin{V i n b R:Nat}(h:AbI c V i n b m)(e:∀x∈c,x<BB)(v:(lmb V).length=n)(y:i+n<c.length)(f:∀j,i+n<j->c.getD j 0=0)(o:val c+V*BB ^ i=R+BB ^ (i+n+1)):
 val (m.set (i+n) ((c.getD (i+n) 0+b) % BB))=R/\∀x∈m.set (i+n) ((c.getD (i+n) 0+b) % BB),x<BB:=by
 have z:=h.len;have d:=Hq (k:=i+n) (x:=(c.getD (i+n) 0+b) % BB) h.lt (bE _ (by decide));refine⟨?_,d⟩;have g:=h.e;rw[Di (a:=V) (k:=n),bN (BB ^ i) V]at g;have p:=Fp (l:=m) (k:=i+n) (x:=(c.getD (i+n) 0+b) % BB) (by omega);rw[h.hi (i+n) aA]at p
 have t:∀j,i+n+1<=j->(m.set (i+n) ((c.getD (i+n) 0+b) % BB)).getD j 0=0:=λj w=>by
  rw[Fc (by omega),if_neg (by omega),h.hi j (by omega)];exact f j (by omega)
 have r:=qe d t;have q:=Lh (BB ^ (i+n)) (c.getD (i+n) 0+b);have u:=Ex e (i+n);have s:(c.getD (i+n) 0+b) / BB<=1:=by have:=h.cl;unfold BB at *;omega
 rw[cR (BB ^ (i+n)) (c.getD (i+n) 0)]at q;rw[bZ]at o r;exact Ang g p q o r s
end Limb
namespace Limb
structure SubJ (a b k o:Nat) (l:List Nat):Prop where
 len:l.length=k
 lt:∀x∈l,x<BB
 ole:o<=1
 e:val l+b % BB ^ k=a % BB ^ k+BB ^ k*o
theorem SubJ.zero(a b:Nat):SubJ a b 0 0 []:=⟨rfl,aL,aK,by simp[val,eJ]⟩
theorem SubJ.step(b:SubJ a f g h c)(o:s+lim f g+h=BB+lim a g):SubJ a f (g+1) (1-s / BB) (c++[s % BB])/\s / BB<=1:=by
 have l:=Cv a g;have m:=Cv f g;have n:=b.ole;have i:=eQ s BB;have j:s / BB<=1:=hJ (eZ aK);refine⟨⟨by simp[b.len],Od b.lt (bE _ aM),Nat.sub_le _ _,?_⟩,j⟩;rw[Ku,b.len,Bt,Bt,bZ];have e:=b.e;generalize BB ^ g=B at *
 have k:B*(s % BB)+B*lim f g+B*h=B*lim a g+B*BB*(1-s / BB):=by
  rw[<-cR,<-cR,bM,<-cR]
  congr 1
  rcases bG (s / BB) 1 with d|d
  .have:=Nat.lt_one_iff.1 d;rw[this]at i ⊢;omega
  have:=Nat.le_antisymm j d;rw[this]at i ⊢;omega
 omega
theorem SubJ.fin{b:Nat}(h:SubJ a b f g c)(j:(lmb a).length<=f)(k:(lmb b).length<=f)(l:b<=a):val c=a-b:=by
 have e:=h.e;rw[Di (h:=j),Di (h:=k)]at e;have i:=Ql h.lt;rw[h.len]at i
 have m:g=0:=by
  rcases bK g with d|d
  .exact d
  have:=cK (BB ^ f) d;omega
 rw[m,eD]at e;omega
theorem AddI.fin0(h:AddI a f g 0 c)(b:(lmb a).length<=g)(d:(lmb f).length<=g):val c=a+f:=by
 have e:=h.e;rw[Di (h:=b),Di (h:=d)]at e;simpa using e
def Abs(a b:Nat):Nat->Int
 | 0=>0
 | k+1=>if lim a k<lim b k then -1 else if lim b k<lim a k then 1 else Abs a b k
theorem Zr{a b:Nat}:∀k,Abs a b k=Ia (a % BB ^ k) (b % BB ^ k)
 | 0=>by simp[Abs,Ia,eJ]
 | k+1=>by
   rw[Abs,Zr k,Bt,Bt];have d:=bE a (dE (n:=k) (show 0<BB by decide));have e:=bE b (dE (n:=k) (show 0<BB by decide));generalize a % BB ^ k=x at *
   generalize b % BB ^ k=y at *
   generalize lim a k=p;generalize lim b k=q;generalize BB ^ k=B at *
   unfold Ia;rcases fV p q with c|c|c
   .have:=cK B (show p+1<=q from c);rw[cR,dM]at this;rw[if_pos c,if_pos (by omega)]
   .subst c;rw[if_neg (eH p),if_neg (eH p)];simp only[iB]
   have:=cK B (show q+1<=p from c);rw[cR,dM]at this;rw[if_neg (by omega),if_pos c,if_neg (by omega),if_pos (by omega)]
theorem Abr(b:(lmb a).length<=g)(c:(lmb f).length<=g):Abs a f g=Ia a f:=by rw[Zr,Di (h:=b),Di (h:=c)]
theorem jc(b:∀x∈c,x<BB)(d:c.length=f)(h:trl c f=a):c.take a=lmb (val c):=by
 have:=Xq b f aK
 rwa [h,cW (show c.length<=f by omega)] at this
end Limb
namespace Limb
theorem An7(k:Nat):0<BB ^ k:=dE aM
structure LowI (x k:Nat) (l:List Nat):Prop where
 len:l.length=k
 lt:∀y∈l,y<BB
 e:val l=x % BB ^ k
theorem LowI.zero(x:Nat):LowI x 0 []:=⟨rfl,aL,by simp[val,eJ]⟩
theorem LowI.half(h:LowI (a / 2) f c)(b:d=lim a f / 2+lim a (f+1) % 2*2147483648):LowI (a / 2) (f+1) (c++[d]):=by
 have e:d=lim (a / 2) f:=by
  rw[b,Q7,Q7,Q7,bZ,<-dK,dK a 2,bN 2,<-dK];generalize a / BB ^ f=t;unfold BB;omega
 rw[e];exact⟨by simp[h.len],Od h.lt (Cv _ _),by rw[Ku,h.len,h.e,Bt]⟩
theorem LowI.fin(h:LowI x a c)(b:(lmb x).length<=a):val c=x:=by rw[h.e,Di (h:=b)]
structure ShfI (a s i c:Nat) (l:List Nat):Prop where
 len:l.length=i
 lt:∀y∈l,y<BB
 cl:c<2 ^ s
 e:val l+BB ^ i*c=a % BB ^ i*2 ^ s
theorem ShfI.zero(a s:Nat):ShfI a s 0 0 []:=⟨rfl,aL,dE aM,by simp[val,eJ]⟩
theorem ShfI.step(b:ShfI a s f g c)(n:s<32)(k:h=lim a f*2 ^ s+g):ShfI a s (f+1) (h / BB) (c++[h % BB])/\h<18446744073709551616:=by
 have i:=Cv a f;have l:=b.cl
 have d:h<BB*2 ^ s:=by
  have:=bQ (2 ^ s) (show lim a f+1<=BB from i);rw[cN]at this;omega
 have j:2 ^ s<=BB:=bB (bJ aM (show s<=32 by omega)) aM;refine⟨⟨by simp[b.len],Od b.lt (bE _ aM),eZ d,?_⟩,aZ d (bB (cK _ j) aM)⟩;have e:=b.e;have m:=eQ h BB;rw[Ku,b.len,Bt,bZ];generalize BB ^ f=B at *
 rw[cN,<-e,bM B BB,cQ,<-cR,show h % BB+BB*(h / BB)=h by omega,k,cR,bM];omega
theorem ShfI.fin(d:ShfI a f g h c)(o:f<32)(l:(lmb a).length+1<=g)(q:Nat):val (List.replicate q 0++c)=a*2 ^ (32*q+f):=by
 have e:=d.e;rw[Di]at e
 have b:h=0:=by
  apply bT;intro b;have i:=Mx a
  have m:a*2 ^ f<BB ^ g:=by
   have j:BB ^ ((lmb a).length+1)<=BB ^ g:=bJ aM l;have k:2 ^ f<=BB:=bB (bJ aM (show f<=32 by omega)) aM;rw[bZ]at j;have n:=Nat.mul_lt_mul_of_lt_of_le i k (show 0<BB by decide);omega
  have:=cK (BB ^ g) (show 1<=h by omega);omega
 rw[b,eD,bU]at e;rw[Ho,E7,List.length_replicate,e,dB,show BB=2 ^ 32 from rfl,<-Nat.pow_mul,dJ,<-bM,bN _ a,<-bM]
def IsB(a n:Nat):Prop:=a<2 ^ n/\(n=0\/2 ^ (n-1)<=a)
theorem Aat:IsB 0 0:=⟨aM,.inl rfl⟩
theorem Af6(c:(lmb a).length=f+1)(j:lim a f=x)(h:x<2 ^ g)(l:g=0\/2 ^ (g-1)<=x):IsB a (32*f+g)/\0<32*f+g:=by
 have k:a≠0:=by intro e;rw[e,Cb]at c;simp at c
 have i:=Sc k;rw[c,fP]at i;have m:x≠0:=by rw[<-j];exact i
 have e:=Bt a f;rw[Di,j]at e;have n:=bE a (An7 f);have o:0<g:=by rcases bK g with b|b;(subst b;simp at h;omega);exact b
 generalize a % BB ^ f=y at *
 have d:∀z,2 ^ (32*f+z)=BB ^ f*2 ^ z:=λz=>by rw[dJ,Nat.pow_mul];rfl
 refine⟨⟨?_,.inr ?_⟩,aK⟩
 .rw[d];have:=cK (BB ^ f) (show x+1<=2 ^ g from h);rw[cR]at this;omega
 rw[show 32*f+g-1=32*f+(g-1) by omega,d];have:=cK (BB ^ f) (l.resolve_left aK);omega
theorem Ajv(c:IsB a x)(d:IsB f g)(h:x<g):a<f:=by
 have b:=d.2.resolve_left aK;exact aZ c.1 (bB (bJ aM aK) b)
def BtI(x c t:Nat):Prop:=t=x / 2 ^ c/\(c=0\/2 ^ (c-1)<=x)/\c<=32
theorem BtI.step(h:BtI x a f)(d:x<4294967296)(b:0<f):BtI x (a+1) (f / 2):=by
 obtain⟨rfl,-,-⟩:=h
 have c:2 ^ a<=x:=by
  have:=(fC (dE (n:=a) (show 0<2 by decide))).1 (show 1<=x / 2 ^ a from b);omega
 refine⟨by rw[dK,bZ],.inr c,?_⟩;have:=(Nat.pow_lt_pow_iff_right (show 1<2 by decide)).1 (show 2 ^ a<2 ^ 32 by omega);omega
theorem BtI.fin{x c:Nat}(h:BtI x c 0):x<2 ^ c:=by
 have:=Nat.lt_div_mul_add (a:=x) (dE (n:=c) (show 0<2 by decide));rw[<-h.1]at this;omega
structure DvI (a b j n r:Nat) (l:List Nat):Prop where
 len:l.length=n / 32+1
 lt:∀y∈l,y<BB
 e:a=val l*b+r
 r:r<b*2 ^ j
 d:2 ^ j ∣ val l
theorem DvI.zero(c:IsB a x)(d:IsB f g)(e:0<g)(h:g<=x):DvI a f (x-g+1) (x-g) a (List.replicate ((x-g) / 32+1) 0):=by
 refine⟨aL,Gh _,by rw[E7];simp,?_,by rw[E7];exact Nat.dvd_zero _⟩;have b:=d.2.resolve_left aK;refine aZ c.1 (bB ?_ (bQ _ b));rw[<-dJ];exact bJ aM aK
theorem Zl(f:∀y∈c,y<BB)(h:2 ^ (a+1) ∣ val c):c.getD (a / 32) 0+2 ^ (a % 32)<BB:=by
 obtain⟨m,g⟩:=h
 have e:2 ^ (a+1)=BB ^ (a / 32)*2 ^ (a % 32+1):=by
  rw[show BB=2 ^ 32 from rfl,<-Nat.pow_mul,<-dJ];congr 1;omega
 rw[Sl f,g,e,bM,Nat.mul_div_cancel_left _ (An7 _)];have i:=On (s:=a % 32+1) aK;rw[i,Nat.mul_mod_mul_left,bZ];have b:=bE m (show 0<2 ^ (32-(a % 32+1)) from dE aM);have d:=cK (2 ^ (a % 32)*2) (show m % 2 ^ (32-(a % 32+1))+1<=2 ^ (32-(a % 32+1)) from b);have j:0<2 ^ (a % 32):=dE aM;rw[cR]at d;omega
theorem DvI.yes{k:Nat}{l:List Nat}(b:DvI a f (k+1) g h l)(j:k<=g)(p:f*2 ^ k<=h):DvI a f k g (h-f*2 ^ k) (l.set (k / 32) (l.getD (k / 32) 0+2 ^ (k % 32))):=by
 have m:=b.len;have hq:k / 32<l.length:=by have:=Nat.div_le_div_right (c:=32) j;omega
 have n:=Fp (x:=l.getD (k / 32) 0+2 ^ (k % 32)) hq
 have e:BB ^ (k / 32)*2 ^ (k % 32)=2 ^ k:=by
  rw[show BB=2 ^ 32 from rfl,<-Nat.pow_mul,<-dJ];congr 1;omega
 rw[cR,e]at n;have d:val (l.set (k / 32) (l.getD (k / 32) 0+2 ^ (k % 32)))=val l+2 ^ k:=aK
 have i:=b.r;have o:=b.e;refine⟨by rw[cD];exact m,Hq b.lt (Zl b.lt b.d),?_,?_,?_⟩
 .rw[d,cN,bN (2 ^ k)];omega
 .rw[bZ,<-bM]at i;omega
 rw[d];exact Nat.dvd_add (Nat.dvd_trans (Nat.pow_dvd_pow 2 (dU k)) b.d) (Nat.dvd_refl _)
theorem DvI.no(b:DvI a f (g+1) h l c)(d:l<f*2 ^ g):DvI a f g h l c:=⟨b.len,b.lt,b.e,d,Nat.dvd_trans (Nat.pow_dvd_pow 2 (dU g)) b.d⟩
theorem DvI.fin{b:Nat}(h:DvI a b 0 f g c):val c=a / b/\g=a % b:=by
 have e:=h.e;have d:=h.r;rw[gD,dM]at d;rw[e,bN];exact⟨by rw[iJ aK,dZ d,bU],by rw[iK,cC d]⟩
end Limb
section
open Go.RowKit Limb
theorem R7(a:Nat):Ce w a (.slice none 0 0) 0:=by
 refine⟨none,0,by rw[Cb];rfl,by rw[Cb];exact aA,aB,?_,λ_=>rfl,λp b=>by cases b⟩;rw[Cb];exact⟨rfl,.inl rfl⟩
theorem jm(e:x<BB)(g:a<BB)(d:f<=1):∃(p q:Int) (c b:Nat),IntKind.u64.wrap ((x:Int)-(f:Int))=p/\IntKind.u64.wrap (p-(a:Int))=q/\q % 4294967296=(c:Int)/\q / 9223372036854775808=(b:Int)/\c<BB/\b<=1/\c+a+f=x+BB*b/\(a=0->q=p):=by
 unfold BB at *
 rw[dG];refine⟨_,_,((((x:Int)-(f:Int)) % 18446744073709551616-(a:Int)) % 18446744073709551616 % 4294967296).toNat,((((x:Int)-(f:Int)) % 18446744073709551616-(a:Int)) % 18446744073709551616 / 9223372036854775808).toNat,rfl,dG _,?_,?_,?_,?_,?_,?_⟩<;>omega
theorem Aaa(A B:Option Addr)(K L:Nat)(d b:Nat)(w:World)(ha:(lmb d).length=a)(hb:(lmb b).length=nb)(c3:a<=100000)(c4:nb<=100000)(D:a<=K)(E:nb<=L)(T:Hn w A a (lmb d))(U:Hn w B nb (lmb b)):Calls prog 374 #[.slice A a K,.slice B nb L] w λe w'=>∃v,e=.returned (.tuple #[v,.bool (decide (b<=d))])/\Ce w' w v (d-b)/\Be w w':=by
 have ta:trl (lmb d) a=a:=by rw[<-ha];exact Gv d
 have tb:trl (lmb b) nb=nb:=by rw[<-hb];exact Gv b
 have a7:=Ar ta;have a8:=Ar tb;have m:=Ar ha;have j:=Ar hb;clear ta tb ha hb;let⟨Z,b6,hZ⟩:=Fb a;go_in
 go_upto_region 2 with (first
  | (go_at_call 352;refine(Ci B L nb (lmb b) E (U.keep s)).mono ?_;rintro e w2 ⟨rfl,M⟩;rw[a8.out])
  | (go_at_call 352;refine(Ci A K a (lmb d) D T).mono ?_;rintro e w1 ⟨rfl,s⟩;rw[a7.out]))
 have f:=An s M;clear s M;by_cases g:b<=d
 .obtain⟨c,hc,X⟩:∃c,0<=c/\Hid (Ia d b=c):=⟨_,by unfold Ia;rw[if_neg aK];split<;>omega,Ar rfl⟩
  have Y:Hid (decide (b<=d)=true):=Ar (by simpa using g);have HN:Hid (nb<=a):=Ar (by rw[<-m.out,<-j.out];exact Hu g);have a1:=Ar g;clear g
  go_upto_region 7 with (go_at_call 313;refine rR (Jo A B K L a nb d b m.out j.out D E (T.keep f) (U.keep f)) λI t=>?_;rw[X.out])
  have r:=An f t;go_loopw [7,8,9,10,24] (λo _ _ _ i wr=>∃(k b0:Nat) (l:List Nat),k<=a/\i=k/\o=.int .u64 (b0:Int)/\Hid (SubI d b k b0 a l)/\Ka wr I l/\Be I wr) λ_ _ _ _ i _=>a-(intOf i).toNat
  case atStart=>exact⟨0,0,_,aB,rfl,rfl,Ar (SubI.zero d b a),hZ I,blA⟩
  clear b6 hZ;obtain⟨k,b0,l,hk,rfl,rfl,H,h,u⟩:=hrel;have C:=An r u;have b4:=H.out.ole;have n:=H.out.len;have c0:=h.lt;by_cases O:k<a
  .obtain⟨b1,o1,rfl,h1⟩:=(T.keep C).at_ O;let⟨c1,f1⟩:=h.cell (k:=k) aK;let⟨p,q,W,hi,P1,P2,P3,P4,P5,P6,P7,S⟩:=jm (Cv d k) (Cv b k) b4;have Q:=Cv d k;have R:=Cv b k;have J:=Ar (H.out.step O P5 P6 P7);let⟨x,V⟩:=gN (lim d k)
   have F:gu (lmb d) k=x:=V;rw[F]at h1;rw[V]at Q P1;unfold BB at Q;have W1:=Ds (z:=(x:Int));let⟨y,P⟩:=gN (lim b k)
   have G:gu (lmb b) k=y:=P;rw[P]at R P2 S;unfold BB at R;have W3:=Ds (z:=(y:Int));by_cases b5:k<nb
   .obtain⟨b2,o2,rfl,h2⟩:=(U.keep C).at_ b5;rw[G]at h2;clear V F P G P5 P6 P7 S Q R n;go_wp2;exact⟨⟨k+1,hi,l.set k W,aK,aP,rfl,J,h.store k W,Ba u (p:=⟨I,k,none⟩) aA⟩,aI⟩
   have hq:q=p:=S (by rw[<-P];exact Sd (by rw[j.out];omega));rw[hq]at P3 P4;clear V F P G P2 P5 P6 P7 S Q R n hq;go_wp2;exact⟨⟨k+1,hi,l.set k W,aK,aP,rfl,J,h.store k W,Ba u (p:=⟨I,k,none⟩) aA⟩,aI⟩
  obtain rfl:k=a:=aK
  have HF:=Ar (H.out.fin (Nat.le_of_eq m.out) (by rw[j.out];exact HN.out) a1.out);have a6:=Ar H.out.lt;have hU:=h.u32s;rw[n]at hU;clear H
  go_wp2_with (go_at_call 352;refine rR (Ci _ k k l aA hU) λw5 N=>?_)
  go_ret2
  have hN:=(h.keep N).natV (base:=w.heap.size) a6.out n aK r.size HF.out;exact⟨_,by rw[Y.out];rfl,hN,An C N⟩
 have X:Hid (Ia d b = -1):=Ar (by unfold Ia;rw[if_pos aK]);have Y:Hid (decide (b<=d)=false):=Ar (by simpa using g);have HZ:Hid (d-b=0):=Ar aK;clear g
 go_wp2_with (go_at_call 313;refine rR (Jo A B K L a nb d b m.out j.out D E (T.keep f) (U.keep f)) λI t=>?_;rw[X.out])
 go_ret2
 refine⟨.slice none 0 0,by rw[Y.out];rfl,?_,An f t⟩;rw[HZ.out];exact R7 _
end
section
open Go.RowKit Limb
theorem Aiq:(prog.info? 275).map (·.size)=some 1:=aN
theorem Hn.some_addr(h:Hn w (some o) a c):∀j v,(c.map λx:Nat=>(.int .u32 (x:Int):Value))[j]? = some v->w.cell? (o.add j)=some v:=by
 intro j v d;rw[dC]at d
 have i:j<c.length:=by
  rcases bG j c.length with g|g
  .exact g
  rw[bI g]at d;cases d
 rw[Mj i]at d;injection d with d
 subst d;let⟨b,f,e,l⟩:=h.at_ (k:=j) (by rw[<-h.1];exact i);injection e with e
 subst e
 show w.cell? (Addr.add ⟨b,f,none⟩ j)=some (.int .u32 ((gu c j:Nat):Int))
 have e:Addr.add ⟨b,f,none⟩ j=⟨b,f+j,none⟩:=by simp only[Addr.add];split<;>simp_all
 rw[e,l]
theorem Anc{c:Nat}{l:List Nat}(h:Ka w a (List.replicate f 0))(i:Hn w (some o) f l)(m:Be b w)(p:b.heap.size<=a):∃g,(∀e,(Builtin.copy_ #[180,180] e #[.slice (some ⟨a,0,none⟩) f f,.slice (some o) f c]).run prog w=.ok (goInt f) g)/\Ka g a l/\Be b g:=by
 have d:=i.1;refine⟨w.setRow a (vU l),λe=>?_,setRow_heap w a _ _ _ _ h,m.trans ⟨rfl,rfl,rfl,by simp[World.setRow],λk q=>setRow_other w a k _ aK⟩⟩;have n:=run_copy_row (P:=prog) w 180 180 e 275 a 0 f f o f c (vU (List.replicate f 0)) 275 (l.map λx:Nat=>(.int .u32 (x:Int):Value)) underlying180 Aiq h (by simp[d]) i.some_addr (by simp[vU,d]) (by intro u j;simp at j;obtain⟨x,-,rfl⟩:=j;rfl);rw[n]
 congr 1
 .rw[List.length_map,d]
 congr 1
 simp[vU,d]
theorem Ui(A:Option Addr)(i d a:Nat)(w:World)(q:(lmb a).length=d)(F:d<=100000)(s:d<=i)(C:A=none->i=0)(x:Hn w A d (lmb a)):Calls prog 354 #[.slice A d i] w λe t=>∃v,e=.returned v/\Ce t w v a/\Be w t:=by
 have z:trl (lmb a) d=d:=by rw[<-q];exact Gv a
 have h:=Ar z;have g:=Ar q;let⟨Z,k,E⟩:=Fb d;clear z q;go_in
 go_upto_region 3 with (go_at_call 352;refine rR (Ci A i d (lmb a) s x) λu b=>?_;rw[h.out])
 have y:=E u;have j:=Ao b (o:=.cells Z 275);have l:=(x.keep b).keep (fJ bl0 aA (.cells Z 275));cases A with
 | none =>
   have B:=C rfl;obtain rfl:d=0:=aK
   subst B;have f:=λG=>run_copy_nil (P:=prog) (u.alloc (.cells Z 275)) 180 180 G 275 ⟨u,0,none⟩ 0 0 underlying180 (by rw[Aiq];rfl)
   clear k
   go_wp2_with (at_builtin;refine I2 rfl 180 180 rfl rfl rfl f ?_)
   go_ret;refine⟨_,rfl,?_,j⟩
   obtain rfl:a=0:=by
    have:=Ep a;rw[bL g.out]at this;exact this.symm
   have:=y.natV (base:=w.heap.size) (n:=0) (v:=0) (Gh 0) rfl aK b.size rfl;exact this
 | some p =>
   let⟨t,f,m,r⟩:=Anc (c:=i) y l j b.size;clear k
   go_wp2_with (at_builtin;refine I2 rfl 180 180 rfl rfl rfl f ?_)
   go_ret;refine⟨_,rfl,?_,r⟩;have D:=m.natV (base:=w.heap.size) (Dj a) g.out aK b.size (Ep a)
   rwa [h.out] at D
theorem Uj(A:Option Addr)(Y b a s:Nat)(ha:(lmb a).length=b)(aw:b<=Y)(hA:Hn w A b (lmb a))(hs:s<=31)(b0:b<=100000:=by omega):Calls prog 371 #[.slice A b Y,(s:Int)] w λe V=>∃g l,e=.returned (.slice (some ⟨g,0,none⟩) (b+1) (b+1))/\w.heap.size<=g/\g<V.heap.size/\Ka V g l/\l.length=b+1/\(∀x∈l,x<BB)/\val l=a*2 ^ s/\Be w V:=by
 let⟨Z,u,hZ⟩:=Fb (b+1);have R:∀w,(Instr.makeSlice 180 (.int .i64 ((b:Int)+1)) (.int .i64 ((b:Int)+1))).run prog w=.ok (.slice (some ⟨w,0,none⟩) (b+1) (b+1)) (w.alloc (.cells Z 275)):=λw=>by have:=u w;rwa [fS] at this
 have L:=Ar ha;clear u ha;go_in;go_upto_region 3 with fail;go_loopw [6,7,8,15] (λ_ _ _ i wr=>∃(k:Nat) (l:List Nat),k<=b/\i=k/\Hid (l.length=b+1/\(∀x∈l,x<BB)/\val l=(a % BB ^ k)*2 ^ s/\l.getD k 0<2 ^ s/\∀j,k<j->l.getD j 0=0)/\Ka wr w l/\Be w wr) λ_ _ _ i _=>b-(intOf i).toNat
 case atStart=>exact⟨0,_,aB,rfl,Ar ⟨List.length_replicate,Gh _,by rw[E7,gD,eJ,eC],by rw[G4];exact dE aM,λj _=>G4 _ _⟩,hZ w,blA⟩
 clear R hZ;obtain⟨k,l,hk,rfl,W,q,B⟩:=hrel;let⟨C,o,S,hg,U⟩:=W.out;have N:=q.lt;by_cases O:k<b
 .obtain⟨b1,o1,rfl,h1⟩:=(hA.keep B).at_ O;let⟨c1,f1⟩:=q.cell (k:=k) aK;let⟨c2,f2⟩:=q.cell (k:=k+1) aK;have J:=Cv a k;let⟨x,K⟩:=gN (lim a k)
  have H:gu (lmb a) k=x:=K;rw[H]at h1;rw[K]at J;let⟨I,E,F⟩:=Ajm J hs;have t:=fR (x*2 ^ s) BB;let⟨d,n⟩:=gN (x*2 ^ s % BB:Nat)
  let⟨c,f⟩:=gN (x*2 ^ s / BB:Nat)
  let⟨m,P⟩:=gN (x*2 ^ s:Nat)
  rw[n]at I F;rw[f]at E;rw[n,f]at t;have G:2 ^ s<=2147483648:=bJ aM hs;have X:=Ar (Ajp (r:=l) (k:=k) (a:=a) aK (U (k+1) aK) (by rw[K];exact t.symm) S);rw[P]at n f t;let⟨y,T⟩:=gN (gu l k)
  have D:l.getD k 0=y:=T;rw[T]at c1;rw[D]at hg;have M:Hid ((((l.set k (y+d)).set (k+1) c).length=b+1)/\(∀x∈(l.set k (y+d)).set (k+1) c,x<BB)/\val ((l.set k (y+d)).set (k+1) c)=(a % BB ^ (k+1))*2 ^ s/\((l.set k (y+d)).set (k+1) c).getD (k+1) 0<2 ^ s/\∀j,k+1<j->((l.set k (y+d)).set (k+1) c).getD j 0=0):=Ar ⟨by simp[C],Hq (Hq o aK) (by unfold BB;omega),by rw[<-D];exact X.out,by rw[Fc (by rw[cD];omega),if_pos rfl];exact E,λj hj=>by rw[Fc (by rw[cD];omega),if_neg aK,Fc aK,if_neg aK];exact U j aK⟩
  have Q:m<18446744073709551616:=by
   have:x*2 ^ s<=4294967295*2147483648:=cJ (by unfold BB at J;omega) G;omega
  have W1:=Ds (z:=(x:Int));have P1:(x:Int)*2 ^ s=(m:Int):=by rw[<-P];simp
  have W2:IntKind.u64.wrap ((x:Int)*2 ^ s)=(m:Int):=by rw[P1];exact Ds
  have E1:(m:Int) % 4294967296=(d:Int):=by rw[<-n];unfold BB;omega
  have E2:(m:Int) / 4294967296=(c:Int):=by rw[<-f];unfold BB;omega
  have E3:bits .or .u32 (y:Int) (d:Int)=((y+d:Nat):Int):=by
   have e:(2:Int) ^ s=((2 ^ s:Nat):Int):=aL
   rw[bits_join_low .u32 32 aM wraps_u32 s _ _ aK (by rw[e];omega) aK aK (by rw[e];omega) (by unfold BB at F;omega)];omega
  have E4:(c:Int) % 4294967296=(c:Int):=aK
  have z1:(0:Int)<=(s:Int):=aK
  have z2:((s:Int)).toNat=s:=aK
  clear K H J I E F t n f P X W C o S hg U T D Q;go_wp2;have v:=(q.store k (y+d)).store (k+1) c;rw[fS]at v;exact⟨⟨k+1,(l.set k (y+d)).set (k+1) c,aK,aP,M,v,Ba (Ba B (p:=⟨w,k,none⟩) aA) (p:=⟨w,k+1,none⟩) aA⟩,aI⟩
 obtain rfl:k=b:=aK
 go_wp2;go_ret;exact⟨w,l,rfl,aA,N,q,C,o,by rw[S,Di (h:=Nat.le_of_eq L.out)],B⟩
theorem dw(A:Option Addr)(ca c s:Nat)(l:List Nat)(b4:c<=100000)(V:Hn w A c l)(Y:∀x∈l,x<BB)(hs:s<=31):Calls prog 373 #[.slice A c ca,(s:Int)] w λe w'=>∃v,e=.returned v/\Ce w' w v (val l / 2 ^ s)/\Be w w':=by
 let⟨Z,U,X⟩:=Fb c;have N:=Ar Y;have C:=Ar V.1;go_in;go_upto_region 3 with fail;go_loopw [6,7,8,14] (λ_ _ _ i wr=>∃(k:Nat) (r:List Nat),k<=c/\i=k/\Hid (r.length=c/\(∀x∈r,x<BB)/\val r=(val l / 2 ^ s) % BB ^ k/\∀j,k<=j->r.getD j 0=0)/\Ka wr w r/\Be w wr) λ_ _ _ i _=>c-(intOf i).toNat
 case atStart=>exact⟨0,_,aB,rfl,Ar ⟨List.length_replicate,Gh _,by rw[E7,gD,eJ],λj _=>G4 _ _⟩,X w,blA⟩
 obtain⟨k,r,hk,rfl,M,b,m⟩:=hrel;let⟨f,a,I,L⟩:=M.out;by_cases T:k<c
 .have G:=V.keep m;obtain⟨b1,o1,rfl,O⟩:=G.at_ T;let⟨c1,f1⟩:=b.cell (k:=k) aK;have Q:=Ex N.out k;have R:=Ex N.out (k+1);have D:=Ar (Afb N.out hs (r:=r) (k:=k) aK (L k aA) I);let⟨x,J⟩:=gN (l.getD k 0)
  have o:gu l k=x:=J;rw[o]at O;rw[J]at Q;let⟨y,B⟩:=gN (l.getD (k+1) 0)
  have u:gu l (k+1)=y:=B;rw[B]at R;rw[J,B]at D;let⟨q,hq⟩:=gN ((x+BB*y) / 2 ^ s:Nat)
  let⟨d,g⟩:=gN (q % BB:Nat)
  rw[hq,g]at D;have h:d<BB:=by rw[<-g];exact bE _ aM
  have E:Hid ((r.set k d).length=c/\(∀x∈r.set k d,x<BB)/\val (r.set k d)=(val l / 2 ^ s) % BB ^ (k+1)/\∀j,k+1<=j->(r.set k d).getD j 0=0):=Ar ⟨by simp[f],Hq a h,D.out,λj hj=>by rw[Fc aK,if_neg aK];exact L j aK⟩;have W1:=Ds (z:=(x:Int));have W3:=Ds (z:=(y:Int));have n:(2:Int) ^ s=((2 ^ s:Nat):Int):=aL
  have E1:(q:Int) % 4294967296=(d:Int):=by rw[<-g];unfold BB;omega
  by_cases S:k+1<c
  .obtain⟨b2,o2,F,h2⟩:=G.at_ S;injection F with F
   injection F with F e3
   subst F e3;rw[u]at h2;have W4:=Ds (z:=(y:Int)*4294967296)
   have E3:bits .or .u64 (x:Int) ((y:Int)*4294967296)=((x+BB*y:Nat):Int):=by
    unfold BB at *
    rw[bits_join_low .u64 64 aM wraps_u64 32 _ _ aK aK aK aK aK aK];omega
   let⟨t,ht⟩:=gN (x+BB*y:Nat)
   rw[ht]at E3 hq;have E4:Int.fdiv (t:Int) (2 ^ s)=(q:Int):=by rw[Int.fdiv_eq_ediv_of_nonneg _ (by rw[n];exact Int.natCast_nonneg _),n,<-hq];rfl
   have E5:(t:Int) / (2 ^ s)=(q:Int):=by rw[n,<-hq];rfl
   have B1:((k:Int)+1)<(c:Int):=aK
   clear J o Q B u R hq g h D M f a I L ht n;go_wp2;exact⟨⟨k+1,r.set k d,aK,aP,E,b.store k d,Ba m (p:=⟨w,k,none⟩) aA⟩,aI⟩
  have K:y=0:=by rw[<-B,List.getD,bI (by rw[C.out];omega)];rfl
  rw[K,eD,bU]at hq
  have E5:(x:Int) / (2 ^ s)=(q:Int):=by rw[n,<-hq];rfl
  clear J o Q B u R hq g h D M f a I L K n;go_wp2;exact⟨⟨k+1,r.set k d,aK,aP,E,b.store k d,Ba m (p:=⟨w,k,none⟩) aA⟩,aI⟩
 obtain rfl:k=c:=aK
 have W:=b.u32s;rw[f]at W;have P:=Ar a
 have HV:Hid (val r=val l / 2 ^ s):=Ar (by
  rw[I];have O:=Ql N.out;rw[C.out]at O;exact cC (eG (Nat.div_le_self _ _) O))
 go_wp2_with (go_at_call 352;refine rR (Ci _ k k r aA W) λw5 H=>?_)
 go_ret;have hN:=(b.keep H).natV (base:=w.heap.size) P.out f aK aA HV.out;exact⟨_,rfl,hN,An m H⟩
end
section
open Go.RowKit Limb
theorem Hn.grown(h:Hn w i a c)(q:w.grownBy b (some f))(l:∀p,i=some p->p.block≠f):Hn b i a c:=by
 refine⟨h.1,?_⟩;obtain⟨_,d⟩:=h;rcases d with d|⟨g,m,rfl,d⟩
 .exact .inl d
 have o:g≠f:=l _ rfl;refine .inr ⟨g,m,rfl,λk r=>?_⟩;have n:=d k r;have j:=Bi n
 show World.cell? _ _=_
 rw[<-show World.cell? _ _=_ from n];unfold World.cell?;rw[q.block g j λe=>o (by injection e)]
theorem Hn.far(h:Hn w i a c){p:Addr}(e:∀q,i=some q->q.block≠p.block)(u:Value):Hn (w.setCell p u) i a c:=by
 refine⟨h.1,?_⟩;obtain⟨_,d⟩:=h;rcases d with d|⟨b,f,rfl,d⟩
 .exact .inl d
 refine .inr ⟨b,f,rfl,λk g=>?_⟩
 show World.cell? _ _=_
 rw[<-show World.cell? _ _=_ from d k g];unfold World.cell?;rw[dN w p u b (e _ rfl)]
theorem Agi(w:World)(a:Option Nat):w.grownBy w a:=⟨rfl,rfl,rfl,aA,λ_ _ _=>rfl⟩
theorem Qn(g:x<BB)(d:a<BB)(e:f<=1):∃(p q:Int) (c b:Nat),IntKind.u64.wrap ((x:Int)-(a:Int))=p/\IntKind.u64.wrap (p-(f:Int))=q/\q % 4294967296=(c:Int)/\q / 9223372036854775808=(b:Int)/\c<BB/\b<=1/\c+a+f=x+BB*b:=by
 unfold BB at *
 rw[dG];refine⟨_,_,((((x:Int)-(a:Int)) % 18446744073709551616-(f:Int)) % 18446744073709551616 % 4294967296).toNat,((((x:Int)-(a:Int)) % 18446744073709551616-(f:Int)) % 18446744073709551616 / 9223372036854775808).toNat,rfl,dG _,?_,?_,?_,?_,?_⟩<;>omega
theorem Uu{c:Option Nat}(h:w.grownBy b c)(a:Be b n):w.grownBy n c:=⟨a.os.trans h.os,a.tape.trans h.tape,a.output.trans h.output,bB h.size a.size,λk e d=>(a.block k (aZ e h.size)).trans (h.block k e d)⟩
theorem ej(g i n V cu cb:Nat)(L:List Nat)(B:Option Addr)(h2:2<=n)(hV:(lmb V).length=n)(hN:i+n<L.length)(n9:L.length<=200000)(K:Hn w B n (lmb V))(cc:∀p,B=some p->p.block≠g)(D:Ka w g L)(I:∀x∈L,x<BB)(hz:∀k,i+n<k->L.getD k 0=0)(hH:BB<=2*lim V (n-1))(hX:val L<V*BB ^ i*BB)(nf:n+1<=cu)(nd:n<=cb):Calls prog 372 #[.slice (some ⟨g,i,none⟩) (n+1) cu,.slice B n cb] w λe w'=>∃L',e=.returned (.int .u32 ((val L / (V*BB ^ i):Nat):Int))/\Ka w' g L'/\L'.length=L.length/\(∀x∈L',x<BB)/\val L'=val L % (V*BB ^ i)/\w.grownBy w' (some g):=by
 have HC:=Ar (Ap9 I (Dj V) hV h2 hN hz hH (by rw[Ep];exact hX));rw[Ep]at HC;have ih:=Ar I;have HV:=Ar hV;have HZ:=Ar hz;let⟨p,hp⟩:∃p,p+2=n:=⟨n-2,aK⟩
 let⟨M,nh⟩:∃M,M+1=n:=⟨n-1,aK⟩
 rw[show i+n-1=i+M by omega,show i+n-2=i+p by omega,show n-1=M by omega,show n-2=p by omega]at HC;have e4:=Ex I (i+n);have e7:=Ex I (i+M);have bs:=Ex I (i+p);have ba:=Ex (Dj V) M;have bt:=Ex (Dj V) p;let⟨c1,f1⟩:=D.cell (k:=i+n) aK;let⟨c2,f2⟩:=D.cell (k:=i+M) aK;let⟨c3,f3⟩:=D.cell (k:=i+p) aK;obtain⟨vb,vo,rfl,c4⟩:=K.at_ (k:=M) aK;let⟨cj,ck,A,c5⟩:=K.at_ (k:=p) aK;injection A with A
 injection A with A e6
 subst A e6;let⟨u1,b3⟩:=gN (gu L (i+n))
 let⟨u2,b4⟩:=gN (gu L (i+M))
 let⟨u3,a8⟩:=gN (gu L (i+p))
 let⟨U,b5⟩:=gN (gu (lmb V) M)
 let⟨v2,ad⟩:=gN (gu (lmb V) p)
 rw[b3]at c1;rw[b4]at c2;rw[a8]at c3;rw[b5]at c4;rw[ad]at c5;unfold gu at b3 b4 a8 b5 ad;rw[b3]at e4;rw[b4]at e7;rw[a8]at bs;rw[b5]at ba;rw[ad]at bt;rw[b3,b4,a8,b5,ad]at HC;have j6:0<U:=by have:=HC.out.hH;unfold BB at this;omega
 let⟨T,hT⟩:=gN (u1*BB+u2)
 let⟨Q,hQ⟩:=gN (val L / (V*BB ^ i))
 rw[hT]at HC;have nc:T<18446744073709551616:=by rw[<-hT];unfold BB at *;omega
 have HQ:=Ar hQ;have W1:=Ds (z:=(u1:Int));have W2:=Ds (z:=(u1:Int)*4294967296);have W3:=Ds (z:=(u2:Int));have W4:=Ds (z:=(U:Int));have W5:=Alk e4 e7;rw[hT]at W5;have N1:(n:Int)-1=(M:Int):=aK
 have N2:(n:Int)-2=(p:Int):=aK
 have N3:IntKind.i64.wrap ((n:Int)-1)=(M:Int):=by rw[N1,bH];omega
 have N4:IntKind.i64.wrap ((n:Int)-2)=(p:Int):=by rw[N2,bH];omega
 have N5:IntKind.i64.wrap (M:Int)=(M:Int):=aD
 have N6:IntKind.i64.wrap (p:Int)=(p:Int):=aD
 have B1:(n:Int)<(n:Int)+1:=aK
 have B2:(M:Int)<(n:Int)+1:=aK
 have B3:(M:Int)<(n:Int):=aK
 have B4:(p:Int)<(n:Int):=aK
 have B5:(p:Int)<(n:Int)+1:=aK
 have e8:=Ar a8;have e9:=Ar ad;clear b3 b4 a8 b5 ad hT hX hz hH hV I;go_enter func372,ntmps372;go_upto_region 2 with fail;refine Bh w [(⟨g,i+n,none⟩,.int .u32 u1),(⟨g,i+M,none⟩,.int .u32 u2),(⟨vb,vo+M,none⟩,.int .u32 U)] ⟨bl0,aR⟩ ?_
 repeat
  apply Cx
  .rfl
  .intro w1 F;have u:=F.2;simp only[AC]at u
   go_simp
   first|rfl
  go_simp
 refine cH ?_;intro w2 C;have gf:=D.keep C.1;have ey:=K.keep C.1;have j2:=Aq C.1 c1;have j3:=Aq C.1 c3;have j4:=Aq C.1 c5;have fr:=Uu (Agi w (some g)) C.1;clear C c1 c2 c3 c4 c5 f1 f2 f3 W1 W2 W3 W5 N3;have f:=Ar HC.out.start;let⟨q0,bd⟩:=gN (T / U)
 let⟨r0,bl⟩:=gN (T % U)
 rw[bd,bl]at f;have h5:q0<=T:=by rw[<-bd];exact Nat.div_le_self _ _
 have lk:r0<U:=by rw[<-bl];exact bE _ j6
 have E2:(T:Int) / (U:Int)=(q0:Int):=by rw[<-bd];rfl
 have E3:(T:Int) % (U:Int)=(r0:Int):=by rw[<-bl];rfl
 have E4:Int.tdiv (T:Int) (U:Int)=(q0:Int):=by rw[eA aK];exact E2
 have E5:Int.tmod (T:Int) (U:Int)=(r0:Int):=by rw[eO aK];exact E3
 have W6:=Ds (z:=(q0:Int));have W7:=Ds (z:=(r0:Int));have j9:(U:Int)≠0:=aK
 have jr:¬U=0:=aK
 clear bd bl;go_wp2_with fail;refine Bh w2 [] ⟨bl0,aR⟩ ?_
 repeat
  apply Cx
  .rfl
  .intro w1 F;have u:=F.2;simp only[AC]at u
   go_simp
   first|rfl
  go_simp
 refine cH ?_;intro w3 Z;have gw:=gf.keep Z.1;have fa:=ey.keep Z.1;have fs:=Uu fr Z.1;clear E2 E3 E4 E5 W6 W7 Z gf ey fr j2 j3 j4 j9 jr;go_wp2;go_loopw [8,9] (λq r wr=>∃a H:Nat,q=.int .u64 (a:Int)/\r=.int .u64 (H:Int)/\a<=T/\H<8589934592/\Hid (DigI (val L) (V*BB ^ i) U T a H)/\Ka wr g L/\Hn wr (some ⟨vb,vo,none⟩) n (lmb V)/\w.grownBy wr (some g)) λq _ _=>(intOf q).toNat
 case atStart=>exact⟨q0,r0,rfl,rfl,h5,by unfold BB at ba;omega,f,gw,fa,fs⟩
 clear gw fa fs f D K;obtain⟨a,H,rfl,rfl,nj,nk,f,D,K,hG⟩:=hrel;let⟨c3,f3⟩:=D.cell (k:=i+p) aK;let⟨cj,ck,A,c5⟩:=K.at_ (k:=p) aK;injection A with A
 injection A with A e6
 subst A e6;have g3:gu L (i+p)=u3:=e8.out;have g5:gu (lmb V) p=v2:=e9.out;rw[g3]at c3;rw[g5]at c5;clear g3 g5 f3;by_cases J:H<BB/\(BB<=a\/H*BB+u3<a*v2)
 .obtain⟨hr,hq⟩:=J;let⟨HS,h6⟩:=HC.out.step f.out hr hq;have e3:=Ar HS;have C1:(H:Int)<4294967296:=by unfold BB at hr;omega
  have W6:=Ds (z:=(a:Int)-1);have W7:=Ds (z:=(H:Int)+(U:Int));by_cases hq2:BB<=a
  .have C2:(4294967296:Int)<=(a:Int):=by unfold BB at hq2;omega
   clear f HS;go_wp2_with fail;refine Bh wr [] ⟨bl0,aR⟩ ?_
   repeat
    first
    | go_big_quiet_skip
    | go_big_quiet_want
      apply Exists.intro;refine And.intro ?_ ?_
      .intro w1 F;have u:=F.2;simp only[AC]at u
       go_simp
       first|rfl
      go_simp
      go_big_quiet_on
   refine cH ?_;intro w4 b;go_wp2;exact⟨⟨a-1,H+U,aP,aP,aK,by unfold BB at ba hr;omega,e3,D.keep b.1,K.keep b.1,Uu hG b.1⟩,aI⟩
  have C2:((4294967296:Int)<=(a:Int))=False:=by unfold BB at hq2;simp;omega
  have ds:(4294967296<=a)=False:=by unfold BB at hq2;simp;omega
  have ni:a<4294967296:=by unfold BB at hq2;omega
  let⟨m,W⟩:=gN (a*v2)
  let⟨t,ht⟩:=gN (H*BB+u3)
  have ca:m<=4294967295*4294967295:=by rw[<-W];exact cJ aK (by unfold BB at bt;omega)
  have O:(a:Int)*(v2:Int)=(m:Int):=by rw[<-Int.natCast_mul,W]
  have P1:=Ds (z:=(v2:Int));have P2:IntKind.u64.wrap ((a:Int)*(v2:Int))=(m:Int):=by rw[O];exact Ds
  have P3:=Ds (z:=(H:Int)*4294967296);have P4:=Ds (z:=(u3:Int));have P5:=Alk hr bs;rw[ht]at P5;have C3:((t:Int)<(m:Int))=True:=by rw[W,ht]at hq;simp;omega
  have dx:(t<m)=True:=by rw[W,ht]at hq;simp;omega
  clear f HS W O ht ca hq;go_wp2_with fail;refine Bh wr [(⟨g,i+p,none⟩,.int .u32 u3),(⟨vb,vo+p,none⟩,.int .u32 v2)] ⟨bl0,aR⟩ ?_
  repeat
   first
   | go_big_quiet_skip
   | go_big_quiet_want
     apply Exists.intro;refine And.intro ?_ ?_
     .intro w1 F;have u:=F.2;simp only[AC]at u
      go_simp
      first|rfl
     go_simp
     go_big_quiet_on
  refine cH ?_;intro w4 b;go_wp2;exact⟨⟨a-1,H+U,aP,aP,aK,by unfold BB at ba hr;omega,e3,D.keep b.1,K.keep b.1,Uu hG b.1⟩,aI⟩
 let⟨k0,h6,hq2,X⟩:(BB<=H\/(H<BB/\a<BB/\a*v2<=H*BB+u3))/\Q<=a/\a<=Q+1/\a<BB:=by
  rw[<-HQ.out];rcases bG H BB with h|h
  .have h1:a<BB:=Nat.lt_of_not_le λhc=>J ⟨h,.inl hc⟩
   have h2:a*v2<=H*BB+u3:=Nat.le_of_not_lt λhc=>J ⟨h,.inr hc⟩
   exact⟨.inr ⟨h,h1,h2⟩,f.out.ge,HC.out.end2 f.out h1 h2,h1⟩
  have e:=HC.out.end1 f.out h;exact⟨.inl h,Nat.le_of_eq e.symm,by rw[e];exact dU _,by rw[e];exact HC.out.lt⟩
 clear J f;rcases k0 with hr|⟨hr,-,c6⟩
 have C1:((H:Int)<4294967296)=False:=by unfold BB at hr;simp;omega
 have mf:(H<4294967296)=False:=by unfold BB at hr;simp;omega
 go_wp2_with fail;refine Bh wr [] ⟨bl0,aR⟩ ?_
 repeat
  first
  | go_big_quiet_skip
  | go_big_quiet_want
    apply Exists.intro;refine And.intro ?_ ?_
    .intro w1 F;have u:=F.2;simp only[AC]at u
     go_simp
     first|rfl
    go_simp
    go_big_quiet_on
 refine cH ?_;intro w4 b;go_wp2_with fail
 rotate_left
 have C1:(H:Int)<4294967296:=by unfold BB at hr;omega
 have C2:((4294967296:Int)<=(a:Int))=False:=by unfold BB at X;simp;omega
 have ds:(4294967296<=a)=False:=by unfold BB at X;simp;omega
 let⟨m,W⟩:=gN (a*v2)
 let⟨t,ht⟩:=gN (H*BB+u3)
 have ca:m<=4294967295*4294967295:=by rw[<-W];exact cJ (by unfold BB at X;omega) (by unfold BB at bt;omega)
 have O:(a:Int)*(v2:Int)=(m:Int):=by rw[<-Int.natCast_mul,W]
 have P1:=Ds (z:=(v2:Int));have P2:IntKind.u64.wrap ((a:Int)*(v2:Int))=(m:Int):=by rw[O];exact Ds
 have P3:=Ds (z:=(H:Int)*4294967296);have P4:=Ds (z:=(u3:Int));have P5:=Alk hr bs;rw[ht]at P5;have C3:((t:Int)<(m:Int))=False:=by rw[W,ht]at c6;simp;omega
 have dx:(t<m)=False:=by rw[W,ht]at c6;simp;omega
 clear W O ht ca c6;go_wp2_with fail;refine Bh wr [(⟨g,i+p,none⟩,.int .u32 u3),(⟨vb,vo+p,none⟩,.int .u32 v2)] ⟨bl0,aR⟩ ?_
 repeat
  first
  | go_big_quiet_skip
  | go_big_quiet_want
    apply Exists.intro;refine And.intro ?_ ?_
    .intro w1 F;have u:=F.2;simp only[AC]at u
     go_simp
     first|rfl
    go_simp
    go_big_quiet_on
 refine cH ?_;intro w4 b;go_wp2_with fail;clear P1 P2 P3 P4 P5 C3 dx C2 ds;all_goals
 (have gx:=D.keep b.1
  have fb:=K.keep b.1;have fv:=Uu hG b.1;have fc:=Ar (DgI.zero ih.out V a i);have E9:(a:Int) % 4294967296=(a:Int):=by unfold BB at X;omega
  clear D K hG b c3 c5;go_wp2_with fail;obtain⟨wb,rfl⟩:∃wb:World,wb=wr:=⟨_,rfl⟩
  go_loopw [10,11,12,13,14,78] (λc o _ _ _ j wr=>∃(k N b0:Nat) (l:List Nat),k<=n/\j=.int .i64 k/\c=.int .u64 (N:Int)/\o=.int .u64 (b0:Int)/\Hid (DgI L V a i k N b0 l)/\Ka wr g l/\Hn wr (some ⟨vb,vo,none⟩) n (lmb V)/\w.grownBy wr (some g)) λ_ _ _ _ _ j _=>n-(intOf j).toNat
  case atStart=>exact⟨0,0,0,L,aB,rfl,rfl,rfl,fc,gx,fb,fv⟩
  clear gx fb fv fc;obtain⟨k,N,b0,l,hk,rfl,rfl,rfl,f,D,K,hG⟩:=hrel;have a7:=f.out.len;have h3:=D.lt;by_cases I:k<n
  .obtain⟨cj,ck,A,z1⟩:=K.at_ I;injection A with A
   injection A with A e6
   subst A e6;let⟨z2,f2⟩:=D.cell (k:=i+k) aK;have HX:=Ex f.out.lt (i+k);have HY:=Cv V k;let⟨s,hs⟩:=gN (N+a*lim V k)
   have h7:=f.out.small X;let⟨P,R,S,hi,P1,P2,P3,P4,P5,P6,P7⟩:=Qn HX (bE (N+a*lim V k) (by decide:BB > 0)) f.out.ol;have HS:=Ar (f.out.step X aK P5 P6 (by rw[<-f.out.hi (i+k) aA];exact P7));rw[hs]at h7 P1 HS;let⟨y,hy⟩:=gN (lim V k)
   have b6:gu (lmb V) k=y:=hy;let⟨x,u⟩:=gN (l.getD (i+k) 0)
   have G:gu l (i+k)=x:=u;rw[b6]at z1;rw[G]at z2;rw[u]at HX P1;rw[hy]at HY hs;let⟨m,W⟩:=gN (a*y)
   rw[W]at hs;have O:(a:Int)*(y:Int)=(m:Int):=by rw[<-Int.natCast_mul,W]
   let⟨v,d⟩:=gN (s % BB:Nat)
   let⟨aw,E⟩:=gN (s / BB:Nat)
   have c9:v<BB:=by rw[<-d];exact bE _ aM
   rw[d]at P1;rw[E]at HS;have A1:=Ds (z:=(y:Int));have A2:IntKind.u64.wrap ((a:Int)*(y:Int))=(m:Int):=by rw[O];exact Ds
   have A3:IntKind.u64.wrap ((N:Int)+(m:Int))=(s:Int):=by rw[Ds];omega
   have A4:=Ds (z:=(x:Int));have A5:(s:Int) % 4294967296=(v:Int):=by rw[<-d];unfold BB;omega
   have A6:(s:Int) / 4294967296=(aw:Int):=by rw[<-E];unfold BB;omega
   have A7:=Ds (z:=(v:Int));have A8:((k:Int))<(n:Int)+1:=aK
   clear f hs h7 hy b6 u G HX HY W O d E c9 P5 P6 P7 a7;go_wp2;exact⟨⟨k+1,aw,hi,l.set (i+k) S,aK,aP,aP,aP,HS,D.store (i+k) S,K.far (p:=⟨g,i+k,none⟩) cc _,Gb.set hG (i+k) _⟩,aI⟩
  obtain rfl:k=n:=aK
  let⟨z2,f2⟩:=D.cell (k:=i+k) aK;have HX:=Ex f.out.lt (i+k);have e2:=f.out.cl;let⟨P,R,S,hi,P1,P2,P3,P4,P5,P6,P7⟩:=Qn HX e2 f.out.ol;have e:=f.out.top HV.out hN P5 (by rw[<-f.out.hi (i+k) aA];exact P7);have b1:∀x∈l.set (i+k) S,x<BB:=Hq f.out.lt P5
  have cf:∀j,i+k<j->(l.set (i+k) S).getD j 0=0:=λj hj=>by rw[Fc aK,if_neg aK,f.out.hi j aK];exact HZ.out j hj
  have OV:=Agv b1 cf e (by rw[HQ.out];exact h6) (by rw[HQ.out];exact hq2) HC.out.pW P6;have h4:(l.set (i+k) S).length=L.length:=by rw[cD];exact a7
  have Y:=Ar b1;have ee:=Ar cf;have bc:=D.store (i+k) S;have ew:=K.far (p:=⟨g,i+k,none⟩) cc (.int .u32 (S:Int));have c0:=Gb.set hG (i+k) (.int .u32 (S:Int));let⟨x,u⟩:=gN (l.getD (i+k) 0)
  have G:gu l (i+k)=x:=u;rw[G]at z2;rw[u]at HX P1;have A4:=Ds (z:=(x:Int));have A8:((k:Int))<(k:Int)+1:=aK
  let⟨L1,bm⟩:=gN (l.set (i+k) S)
  rw[bm]at OV h4 Y ee bc;clear b1 cf e bm u G HX P5 P7 f e2 a7 K hG;rcases bK hi with h0|h0
  .obtain⟨o1,o2⟩:=OV.1 h0;have O1:=Ar o1;have O2:=Ar o2;rw[h0]at P4;clear OV P6 h0 o1 o2;go_wp2;go_ret;exact⟨L1,by rw[<-O1.out];rfl,bc,h4,Y.out,O2.out,c0⟩
  have h1:hi=1:=aK
  let⟨o1,o2⟩:=OV.2 h1;have O1:=Ar o1;have O2:=Ar o2;have HR:=Ar (bE (val L) HC.out.pW);rw[h1]at P4;have lg:1<=a:=by rw[o1];exact Nat.succ_le_succ aB
  have e1:=Ar (AbI.zero Y.out V i);clear OV P6 h0 o1 o2 h1;go_wp2_with fail;obtain⟨wc,rfl⟩:∃wc:World,wc=wr:=⟨_,rfl⟩
  go_loopw [10,16,17,131] (λc _ _ j wr=>∃(t N:Nat) (l:List Nat),t<=k/\j=t/\c=.int .u64 (N:Int)/\Hid (AbI L1 V i t N l)/\Ka wr g l/\Hn wr (some ⟨vb,vo,none⟩) k (lmb V)/\w.grownBy wr (some g)) λ_ _ _ j _=>k-(intOf j).toNat
  case atStart=>exact⟨0,0,L1,aB,rfl,rfl,e1,bc,ew,c0⟩
  clear bc ew c0 e1 z2 f2 h3 P1 P2 P3 P4 A4;obtain⟨t,N,l',ht,rfl,rfl,f,D,K,hG⟩:=hrel;have a7:=f.out.len;have h3:=D.lt;have gy:=f.out.cl;by_cases I:t<k
  .obtain⟨cj,ck,A,z1⟩:=K.at_ I;injection A with A
   injection A with A e6
   subst A e6;let⟨z2,f2⟩:=D.cell (k:=i+t) aK;have HX:=Ex f.out.lt (i+t);have HY:=Cv V t;let⟨s,hs⟩:∃s,s=N+(L1.getD (i+t) 0+lim V t):=⟨_,rfl⟩
   have HS:=Ar (f.out.step aK hs);rw[<-f.out.hi (i+t) aA]at hs;let⟨y,hy⟩:=gN (lim V t)
   have b6:gu (lmb V) t=y:=hy;let⟨x,u⟩:=gN (l'.getD (i+t) 0)
   have G:gu l' (i+t)=x:=u;rw[b6]at z1;rw[G]at z2;rw[u]at HX hs;rw[hy]at HY hs;let⟨v,d⟩:=gN (s % BB:Nat)
   let⟨aw,E⟩:=gN (s / BB:Nat)
   rw[d,E]at HS;have A1:=Ds (z:=(y:Int));have A4:=Ds (z:=(x:Int));have A2:=Ds (z:=(x:Int)+(y:Int));have A3:IntKind.u64.wrap ((N:Int)+((x:Int)+(y:Int)))=(s:Int):=by rw[Ds];omega
   have A5:(s:Int) % 4294967296=(v:Int):=by rw[<-d];unfold BB;omega
   have A6:(s:Int) / 4294967296=(aw:Int):=by rw[<-E];unfold BB;omega
   have A8:((t:Int))<(k:Int)+1:=aK
   clear f hs hy b6 u G HX HY d E a7 gy;go_wp2;exact⟨⟨t+1,aw,l'.set (i+t) v,aK,aP,aP,HS,D.store (i+t) v,K.far (p:=⟨g,i+t,none⟩) cc _,Gb.set hG (i+t) _⟩,aI⟩
  obtain rfl:t=k:=aK
  let⟨z2,f2⟩:=D.cell (k:=i+t) aK;let⟨F1,F2⟩:=f.out.fin Y.out HV.out aK ee.out O2.out;have HX:=Ex f.out.lt (i+t);rw[<-f.out.hi (i+t) aA]at F1 F2;let⟨x,u⟩:=gN (l'.getD (i+t) 0)
  have G:gu l' (i+t)=x:=u;rw[G]at z2;rw[u]at HX F1 F2;let⟨v,d⟩:=gN ((x+N) % BB:Nat)
  rw[d]at F1 F2;have ho:=Ar F1;have hv:=Ar F2;have A1:(N:Int) % 4294967296=(N:Int):=aK
  have A2:IntKind.u32.wrap ((x:Int)+(N:Int))=(v:Int):=by rw[IntKind.wrap_u32,<-d];unfold BB;omega
  have A3:((x:Int)+(N:Int)) % 4294967296=(v:Int):=by rw[<-d];unfold BB;omega
  have A8:((t:Int))<(t:Int)+1:=aK
  have A4:=Ds (z:=(a:Int)-1);have A5:((a:Int)-1) % 4294967296=(a:Int)-1:=by unfold BB at X;omega
  have k1:(l'.set (i+t) v).length=L.length:=by rw[cD];omega
  clear f u G HX F1 F2 d a7 gy E9;go_wp2;go_ret;refine⟨l'.set (i+t) v,?_,D.store (i+t) v,k1,hv.out,ho.out,Gb.set hG (i+t) _⟩;have e:=O1.out;rw[show val L / (V*BB ^ i)=a-1 by omega];exact Bm aK)
end
section
open Go.RowKit Limb
theorem Aak(x:Nat)(k:0<x)(a:x<BB):Calls prog 370 #[.int .u32 (x:Int)] w λe b=>∃s:Nat,s<=31/\BB<=2*(x*2 ^ s)/\x*2 ^ s<BB/\e=.returned s/\b=w:=by
 refine(Any.bits_LeadingZeros32 YtboghahlhmnblaaGreat.lays133 (x:Int) w aK (by unfold BB at a;omega)).mono ?_;rintro e b ⟨rfl,rfl⟩;rw[cT];obtain⟨g,d,c⟩:1<=Lib.bitLen x/\2 ^ (Lib.bitLen x-1)<=x/\x<2 ^ Lib.bitLen x:=Lib.bitLenAux_bounds 64 x (by unfold BB at a;omega) aK
 have h:Lib.bitLen x<=32:=by
  apply bT;intro l;have:2 ^ 32<=2 ^ (Lib.bitLen x-1):=bJ aM aK;unfold BB at a;omega
 have i:2 ^ (Lib.bitLen x-1)*2 ^ (32-Lib.bitLen x)*2=BB:=by
  rw[<-dJ,<-bZ,show (Lib.bitLen x-1+(32-Lib.bitLen x)).succ=32 by omega];rfl
 have j:2 ^ Lib.bitLen x*2 ^ (32-Lib.bitLen x)=BB:=by
  rw[<-dJ,show Lib.bitLen x+(32-Lib.bitLen x)=32 by omega];rfl
 have f:0<2 ^ (32-Lib.bitLen x):=dE aM;refine⟨32-Lib.bitLen x,aK,?_,?_,?_,rfl⟩
 .have:=bQ (2 ^ (32-Lib.bitLen x)) d;omega
 .have:=dD c f;omega
 exact Bm aK
theorem Aae(A B:Option Addr)(Q cb:Nat)(l b:Nat)(w:World)(ha:(lmb l).length=a)(hb:(lmb b).length=nb)(kk:a<=100000)(kl:nb<=100000)(D:a<=Q)(K:nb<=cb)(hA:Hn w A a (lmb l))(hB:Hn w B nb (lmb b))(eo:A=none->Q=0)(c4:0<b):Calls prog 356 #[.slice A a Q,.slice B nb cb] w λe w'=>∃q r,e=.returned (.tuple #[q,r,.bool true])/\Ce w' w q (l / b)/\Ce w' w r (l % b)/\Be w w':=by
 have ta:trl (lmb l) a=a:=by rw[<-ha];exact Gv l
 have tb:trl (lmb b) nb=nb:=by rw[<-hb];exact Gv b
 have ix:0<nb:=by
  rcases bK nb with g|g
  .rw[g]at hb;have:=Ep b;rw[bL hb]at this;simp[val]at this;omega
  exact g
 have e5:=Ar ta;have e6:=Ar tb;have t:=Ar ha;have o:=Ar hb;have S:=Ar c4;clear ta tb ha hb c4;go_in
 go_upto_region 4 with (first
  | (go_at_call 352;refine(Ci B cb nb (lmb b) K (hB.keep aw)).mono ?_;rintro e w2 ⟨rfl,c5⟩;rw[e6.out])
  | (go_at_call 352;refine(Ci A Q a (lmb l) D hA).mono ?_;rintro e w1 ⟨rfl,aw⟩;rw[e5.out]))
 have f:=An aw c5;clear aw c5;by_cases G:l<b
 .have HC:Hid (Ia l b = -1):=Ar (by unfold Ia;rw[if_pos G]);have HD:Hid (l / b=0):=Ar (dZ G);have HM:Hid (l % b=l):=Ar (cC G);clear G
  go_wp2_with (first
   | (go_at_call 354;refine aF (Ui A Q a l _ t.out aK D eo ((hA.keep f).keep u)) λw4 v4 b4 T=>?_)
   | (go_at_call 313;refine rR (Jo A B Q cb a nb l b t.out o.out D K (hA.keep f) (hB.keep f)) λw3 u=>?_;rw[HC.out]))
  go_ret3
  refine⟨.slice none 0 0,v4,rfl,?_,?_,An (An f u) T⟩
  .rw[HD.out];exact R7 _
  rw[HM.out];exact b4.lower (An f u).size
 let⟨c,hc,HC⟩:∃c,0<=c/\Hid (Ia l b=c):=⟨_,by unfold Ia;rw[if_neg G];split<;>omega,Ar rfl⟩
 have HN:Hid (nb<=a):=Ar (by rw[<-t.out,<-o.out];exact Hu aK);clear G;by_cases h1:nb=1
 .subst h1;let⟨d,Y⟩:=gN (lim b 0)
  have M:gu (lmb b) 0=d:=Y
  have b0:b=d:=by
   have e:=Ep b;have hl:=o.out;rw[<-Y];unfold lim
   match lmb b,hl,e with
   | [x],_,e=>rw[<-e];simp[val]
  have bb:=Ar b0;have y:=Cv b 0;rw[Y]at y;have F:0<d:=by rw[<-b0];exact S.out
  have HL:=Ar y;let⟨r,hr⟩:=gN (l % d)
  have HR:=Ar hr;have kq:r<4294967296:=by rw[<-hr];exact gC (bE _ F) y
  have W1:=Ds (z:=(r:Int));clear Y b0 y hr
  go_upto_region 7 with (go_at_call 313;refine rR (Jo A B Q cb a 1 l b t.out o.out D K (hA.keep f) (hB.keep f)) λw3 u=>?_;rw[HC.out])
  have h:=An f u;obtain⟨b2,o2,rfl,z2⟩:=(hB.keep h).at_ (k:=0) aK;rw[M,bU]at z2;clear M
  go_wp2_with (first
   | (go_at_call 311;refine aF (R4 r aK) λw5 v5 h0 E=>?_;have k6:=fc)
   | (go_at_call 369;refine aF (dv A Q a l d t.out aK D (hA.keep h) F HL.out) λw4 v4 b4 T=>?_;rw[HR.out];have fc:=T))
  go_ret3
  have v:=An h T;refine⟨v4,v5,rfl,?_,?_,An v E⟩
  .rw[bb.out];exact(b4.keep E).lower h.size
  rw[bb.out,HR.out];exact h0.lower v.size
 go_upto_region 10 with (go_at_call 313;refine rR (Jo A B Q cb a nb l b t.out o.out D K (hA.keep f) (hB.keep f)) λw3 u=>?_;rw[HC.out])
 have h:=An f u;clear u f;let⟨H,ck⟩:∃H,H+1=nb:=⟨nb-1,aK⟩
 obtain⟨b2,o2,rfl,z2⟩:=(hB.keep h).at_ (k:=H) aK;let⟨d,Y⟩:=gN (lim b H)
 have M:gu (lmb b) H=d:=Y;rw[M]at z2;have y:=Cv b H
 have F:0<lim b H:=by
  have:=Sc (n:=b) (by have:=S.out;omega);rw[o.out,show nb-1=H by omega]at this;unfold lim;omega
 rw[Y]at y F;have N1:(nb:Int)-1=(H:Int):=aK
 have B1:(H:Int)<(nb:Int):=aK
 have B2:(0:Int)<=(H:Int):=aK
 have HD:=Ar Y;have C:=Ar ck;clear Y M ck
 go_upto_region 11 with (go_at_call 370;refine(Aak d F y).mono ?_;rintro e w4 ⟨s,hs,cx,cy,rfl,rfl⟩)
 have ai:=Ar cx;have bl:=Ar cy;clear cx cy N1 B1 B2 z2 F y
 go_region_with (first
  | (go_at_call 371;refine(Uj (some ⟨b2,o2,none⟩) cb nb b s o.out K (hB.keep (An (Aw h) E)) hs).mono ?_;rintro e w6 ⟨g6,l6,rfl,k9,ih,b1,cj,ad,N,U⟩)
  | (go_at_call 371;refine(Uj A Q a l s t.out D (hA.keep (Aw h)) hs).mono ?_;rintro e w5 ⟨g5,l5,rfl,fv,hy,a1,cf,cg,a8,E⟩))
 have v:=An (Aw h) E;have J:=An v U;have ee:=b1.lt;have ec:=(a1.keep U).lt;have hf:w.heap.size<=g5:=bB (Aw h).size fv;have a7:=a1.keep U;have er:=hA.keep J;let⟨K1,K2,K3⟩:=Aac (by rw[o.out];exact C.out.symm) HD.out hs ai.out bl.out;rw[C.out]at K1;generalize hV:b*2 ^ s=V at K1 K2 K3 N;have bm:=Ar hV
 have b5:Hn w6 (some ⟨g6,0,none⟩) nb (lmb V):=by
  have:=b1.u32s.take (m:=nb) aK
  rwa [x8 ad N K1] at this
 let⟨nq,cn⟩:=gN (a+1-nb)
 have fa:=HN.out;have NQ:(a:Int)+1-(nb:Int)=(nq:Int):=aK
 let⟨Z,gw,hZ⟩:=Fb nq;have kp:nq+nb=a+1:=aK
 have ba:Hid (DivI (l*2 ^ s) V nq (List.replicate nq 0) l5):=Ar (by
  have:=tt (b:=b) o.out t.out aK HN.out hs (by rw[show nb-1=H by have:=C.out;omega,HD.out];exact ai.out) a8 nq
  rwa [hV,cn] at this)
 have cm:g5≠g6:=by have:=a1.lt;omega
 have e8:Hid (0<V):=Ar (by
  rw[<-hV];exact gZ S.out (dE aM))
 have e2:=Ar K1;have e3:=Ar K2;have bd:=Ar K3;have h8:=C;clear cn fa a8 N ad cj b1 a1 K1 K2 K3 hV U E ai bl HD v h;go_wp2;have cd:=J.size;have gf:=b5.at_ (k:=0) aK;go_loopw [14] (λi wr=>∃(k:Nat) (z:Int) (R L:List Nat),k<=nq/\z=(k:Int)-1/\i=z/\Hid (DivI (l*2 ^ s) V k R L/\R.length=nq/\(∀x∈R,x<BB)/\L.length=a+1/\(∀x∈L,x<BB))/\Ka wr w6 R/\Ka wr g5 L/\Hn wr (some ⟨g6,0,none⟩) nb (lmb V)/\Be w wr) λi _=>(intOf i+1).toNat
 case atStart=>exact⟨nq,_,_,l5,aA,rfl,rfl,Ar ⟨ba.out,List.length_replicate,Gh _,cf,cg⟩,hZ w6,a7.keep (fJ bl0 aA _),b5.keep (fJ bl0 aA _),Ao J⟩
 clear gw hZ ba a7 b5 er;obtain⟨k,z,R,L,hk,hz,rfl,HI,hq,hu,hv,X⟩:=hrel;let⟨hI,P,b3,ey,I⟩:=HI.out;have cc:=hq.lt;have im:=hu.lt;cases k with
 | zero =>
   obtain rfl:z = -1:=aK
   have bt:DivI (l*2 ^ s) (b*2 ^ s) 0 R L:=by rw[bm.out];exact hI
   let⟨F1,F2,F3⟩:=bt.fin S.out;have e0:=Ar F1
   have cz:val (L.take nb)=val L:=by
    have e:=I3 L nb;rw[drop_zero λj hj=>Ak1 I (m:=nb) (gC F3 (by rw[bm.out,<-C.out];exact bd.out)) j hj,eD,bU] at e;exact e.symm
   rw[<-cz]at F2;have e1:=Ar F2;have e4:=Ar b3;have e7:=Ar λx (hx:x∈L.take nb)=>I x (eY hx);have hU:=hq.u32s;rw[P]at hU;have fb:=hu.u32s.take (m:=nb) aK;have z1:nb<=a+1:=aK
   have z2:(nb:Int)<=(a:Int)+1:=aK
   clear hz hI bt HI F1 F2 F3 cz b3 I;go_upto_region 17 with fail
   go_region_with (first
    | (go_at_call 373;refine aF (dw (some ⟨g5,0,none⟩) (a+1) nb s (L.take nb) aK (fb.keep (An blD W)) e7.out hs) λw8 v8 da c6=>?_)
    | (go_at_call 352;refine rR (Ci _ nq nq R aA (hU.keep blD)) λw7 W=>?_))
   go_wp2;have fs:=An (An (Aw X) W) c6;have hN:=((hq.keep blD).keep W).keep c6 |>.natV (base:=w.heap.size) e4.out P aK cd e0.out
   rw[e1.out]at da;have hR:=da.lower (An (Aw X) W).size
   go_ret3
   exact⟨_,_,rfl,hN,hR,fs⟩
 | succ k =>
   obtain rfl:z=(k:Int):=aK
   clear hz;have hX:val L<V*BB ^ k*BB:=by rw[bM,<-bZ];exact hI.lt
   have db:∀j,k+nb<j->L.getD j 0=0:=λj hj=>Ak1 I (m:=k+nb+1) (by
    rw[show k+nb+1=nb+(k+1) by omega,dJ];exact aZ hI.lt (bQ _ (cX (by rw[<-C.out];exact bd.out)))) j hj
   let⟨d1,c9⟩:=gN (val L / (V*BB ^ k))
   have HX:=Ar hX;have e9:=Ar db;have bc:=Ar c9;let⟨c1,f1⟩:=hq.cell (k:=k) aK;have z1:(0:Int)<=(k:Int):=aK
   have z2:(k:Int)<(nq:Int):=aK
   have z3:(k:Int)+(nb:Int)+1<=(a:Int)+1:=aK
   have z4:(k:Int)<=(k:Int)+(nb:Int)+1:=aK
   have z5:(k:Int)+(nb:Int)<=(a:Int):=aK
   have z6:k<a+1:=aK
   have z7:k+nb+1-k=nb+1:=aK
   clear hX db c9
   go_wp2_with (go_at_call 372;refine(ej g5 k nb V (a+1-k) (nb+1) L (some ⟨g6,0,none⟩) aK e2.out aK aK hv (λp O=>by injection O with O;subst O;exact λe=>cm e.symm) hu I e9.out (by rw[show nb-1=H by have:=C.out;omega];exact e3.out) HX.out aK aK).mono ?_;rintro e w7 ⟨L',rfl,ew,bu,bx,c0,hG⟩;rw[bc.out];have cu:Ka w7 w6 R:=(hG.block _ cc λe=>by injection e with e;omega).trans hq;let⟨c7,f7⟩:=cu.cell (k:=k) aK)
   refine⟨⟨k,(k:Int)-1,R.set k d1,L',aK,rfl,aP,Ar ?_,cu.store k d1,Bf.far ew (p:=⟨w6,k,none⟩) (eL ec) _,(hv.grown hG λp O=>by injection O with O;subst O;exact λe=>cm e.symm).far (p:=⟨w6,k,none⟩) (λp O=>by injection O with O;subst O;exact eL ee) _,Ba (dS X hG X.size λj hj=>by injection hj with hj;omega) (p:=⟨w6,k,none⟩) cd⟩,aJ⟩;let⟨r1,r2⟩:=hI.step (q:=R) aK e8.out bc.out.symm c0;exact⟨r1,by rw[cD];exact P,Hq b3 r2,by rw[bu];exact ey,bx⟩
end
section
open Go.RowKit Limb
def SM:Nat:=38
def Sm(a:Nat):Prop:=a<BB ^ SM
theorem Aed(k:Nat):BB ^ k=2 ^ (32*k):=by rw[show BB=2 ^ 32 from rfl,<-Nat.pow_mul]
theorem Sm.len(h:Sm a):(lmb a).length<=100000:=bB (Me h) aM
theorem F7{m:Nat}(h:a<2 ^ m)(b:m<=1216:=by decide):Sm a:=by
 unfold Sm;rw[Aed];exact aZ h (bJ aM (bB b aM))
theorem Sm.le(h:Sm f)(b:a<=f):Sm a:=eG b h
def iv(w:World)(a:Nat)(e:Ending)(b:World):Prop:=∃v,e=.returned v/\Ce b w v a/\Be w b
section
variable {w : World} {ba bb a b : Nat} {va vb : Value}
theorem Ald(hA:Ce w ba va a)(hB:Ce w bb vb b)(sa:Sm a)(sb:Sm b):Calls prog 358 #[va,vb] w (iv w (a+b)):=by
 obtain⟨A,ca,rfl,a1,a2,a3,a4,a5⟩:=hA;obtain⟨B,cb,rfl,b1,b2,b3,b4,b5⟩:=hB;rcases bG (lmb a).length (lmb b).length with g|g
 ·exact Afu B A cb ca _ _ b a w rfl rfl sb.len g b1 a1 b3 a3
 ·exact Afv A B ca cb _ _ a b w rfl rfl sa.len g a1 b1 a3 b3
theorem Aob(hA:Ce w ba va a)(hB:Ce w bb vb b)(sa:Sm a)(sb:Sm b):Calls prog 374 #[va,vb] w fun e w'=>∃v,e=.returned (.tuple #[v,.bool (decide (b<=a))])/\Ce w' w v (a-b)/\Be w w':=by
 obtain⟨A,ca,rfl,a1,a2,a3,a4,a5⟩:=hA;obtain⟨B,cb,rfl,b1,b2,b3,b4,b5⟩:=hB;exact Aaa A B ca cb a b w rfl rfl sa.len sb.len a1 b1 a3 b3
theorem Ahf(hA:Ce w ba va a)(hB:Ce w bb vb b)(sa:Sm a)(sb:Sm b):Calls prog 315 #[va,vb] w (iv w (a*b)):=by
 obtain⟨A,ca,rfl,a1,a2,a3,a4,a5⟩:=hA;obtain⟨B,cb,rfl,b1,b2,b3,b4,b5⟩:=hB;exact Aad A B ca cb a b w rfl rfl sa.len sb.len a1 b1 a3 b3
theorem Aep(hA:Ce w ba va a)(sa:Sm a):Calls prog 354 #[va] w (iv w a):=by
 obtain⟨A,ca,rfl,a1,a2,a3,a4,a5⟩:=hA;exact Ui A ca _ a w rfl sa.len a1 a4 a3
theorem Alu(hA:Ce w ba va a)(hB:Ce w bb vb b)(sa:Sm a)(sb:Sm b):Calls prog 313 #[va,vb] w (Bz w (Ia a b)):=by
 obtain⟨A,ca,rfl,a1,a2,a3,a4,a5⟩:=hA;obtain⟨B,cb,rfl,b1,b2,b3,b4,b5⟩:=hB;exact Jo A B ca cb _ _ a b (w:=w) rfl rfl (hna:=by have:=sa.len;omega) (hnb:=by have:=sb.len;omega) a1 b1 a3 b3
theorem Alc(hA:Ce w ba va a)(hB:Ce w bb vb b)(sa:Sm a)(sb:Sm b)(hb:0<b):Calls prog 356 #[va,vb] w fun e w'=>∃q r,e=.returned (.tuple #[q,r,.bool true])/\Ce w' w q (a / b)/\Ce w' w r (a % b)/\Be w w':=by
 obtain⟨A,ca,rfl,a1,a2,a3,a4,a5⟩:=hA;obtain⟨B,cb,rfl,b1,b2,b3,b4,b5⟩:=hB;exact Aae A B ca cb a b w rfl rfl sa.len sb.len a1 b1 a3 b3 a4 hb
end
theorem Ce.uniq(t:Ce w a e g)(u:Ce w f e h):g=h:=by
 obtain⟨A,H,rfl,x,y,m,z,C⟩:=t;obtain⟨B,I,r,D,E,n,F,G⟩:=u;injection r with e1 e2 e3
 subst e1
 have v:lmb g=lmb h:=by
  apply gQ e2;intro k j l;let⟨p,o,s,q⟩:=m.at_ j;let⟨K,J,c,b⟩:=n.at_ l;rw[s]at c;injection c with c
  injection c with c e6
  subst c e6;replace b:=q.symm.trans b;injection b with b
  injection b with _ b
  have d:=Mj j;have i:=Mj l;rw[aW j]at d;rw[aW l]at i;injection d with d
  injection i with i
  omega
 rw[<-Ep g,<-Ep h,v]
open Classical in
noncomputable def natOf(w:World)(v:Value):Nat:=if h:∃a,Ce w 0 v a then h.choose else 0
theorem Np(h:Ce w a e f):natOf w e=f:=by
 have b:∃f,Ce w 0 e f:=⟨f,h.lower aB⟩
 unfold natOf;rw[iI b];exact Ce.uniq b.choose_spec h
theorem Aoc(O:Ce w a e g)(P:Ce w f j h)(R:Sm g)(S:Sm h):Calls prog 355 #[e,j] w (iv w (Nat.gcd g h)):=by
 go_in
 go_wp2_with (first
  | (go_at_call 354;refine aF (Aep (P.keep b) S) λw2 v2 A p=>?_)
  | (go_at_call 354;refine aF (Aep O R) λw1 v1 z b=>?_))
 have c:=An b p;have d:=(z.keep p).lower aA;have i:=A.lower b.size;clear z A b p O P;go_loopw [0,1,5,6,7,15] (λx y _ _ _ _ wr=>∃m n:Nat,Ce wr w x m/\Ce wr w y n/\Sm m/\Sm n/\Hid (Nat.gcd g h=Nat.gcd m n)/\Be w wr) λ_ y _ _ _ _ wr=>natOf wr y
 case atStart=>exact⟨g,h,d,i,R,S,Ar rfl,c⟩
 clear d i c;obtain⟨m,n,Q,t,sm,F,C,q⟩:=hrel;have I:=Np t;obtain⟨B,cb,rfl,L,Y,M,Z,b5⟩:=id t;by_cases o:n=0
 .have U:Hid (Nat.gcd g h=m):=Ar (by rw[C.out,o,Nat.gcd_zero_right]);have E:(lmb n).length=0:=by rw[o,Cb];rfl
  generalize D:(lmb n).length=k at E ⊢;clear D I L M t C o F;subst E;go_wp2;go_ret;exact⟨_,rfl,by rw[U.out];exact Q,q⟩
 have E:0<(lmb n).length:=by rw[D6 o];simp
 let⟨k,D⟩:=gN ((lmb n).length)
 have G:=Ar (Nat.pos_of_ne_zero o);have u:Hid (Nat.gcd g h=Nat.gcd n (m % n)):=Ar (by rw[C.out,Nat.gcd_comm,Nat.gcd_rec,Nat.gcd_comm]);have l:=Ar (bE m (Nat.pos_of_ne_zero o));have T:Sm (m % n):=F.le (cX l.out);let⟨r,K⟩:=gN (m % n)
 have H:=Ar K;rw[K]at u l T;rw[D]at E I t ⊢;clear D L M o K C
 go_wp2_with (go_at_call 356;refine(Alc Q t sm F G.out).mono ?_;rintro N X ⟨q3,W,rfl,V,s,v⟩;rw[H.out]at s)
 refine⟨⟨n,r,t.keep v,s.lower q.size,F,T,u,An q v⟩,?_⟩;have J:=Np s
 show natOf X W<natOf wr _
 rw[J,I];exact l.out
end
section
open Go.RowKit Limb
def sg(b:Bool)(a:Nat):Int:=if b then -(a:Int) else a
theorem ku(b:Bool)(a:Nat):(sg b a).natAbs=a:=by unfold sg;split<;>omega
theorem Aiz(b:Bool)(a:Nat):decide (sg b a<0)=(b&&decide (0<a)):=by
 unfold sg;cases b<;>simp
def P9(w:World)(a:Nat)(v:Value)(z:Int):Prop:=∃m,v=.agg #[.bool (decide (z<0)),m]/\Ce w a m z.natAbs
theorem P9.keep(h:P9 w base e k)(c:Be w b):P9 b base e k:=by
 obtain⟨m,a,d⟩:=h;exact⟨m,a,d.keep c⟩
theorem P9.lower(h:P9 w a e k)(c:base'<=a):P9 w base' e k:=by
 obtain⟨m,b,d⟩:=h;exact⟨m,b,d.lower c⟩
def wm(w:World)(z:Int)(e:Ending)(a:World):Prop:=∃v,e=.returned v/\P9 a w v z/\Be w a
theorem Ce.far(h:Ce w a e f){p:Addr}(l:p.block<a)(u:Value):Ce (w.setCell p u) a e f:=by
 obtain⟨A,c,d,g,i,j,k,b⟩:=h;exact⟨A,c,d,g,i,j.far (λq hq=>Nat.ne_of_gt (aZ l (b q hq))) u,k,b⟩
theorem Ajw{c:Bool}{d:Bool}(h:Ce b a e f)(i:w.heap.size<=a)(g:d=(c&&decide (0<f))):P9 b w (.agg #[.bool d,e]) (sg c f):=⟨e,by rw[Aiz,g],by rw[ku];exact h.lower i⟩
theorem Ce.sl{b:Nat}(h:Ce w b e a):∃A n c,e=.slice A n c:=by
 obtain⟨A,c,d,-⟩:=h;exact⟨A,_,c,d⟩
theorem Gd{T:TypeId}{x:Value}(d:Bf b a T #[x,e])(h:Ce b f j k.natAbs)(c:a<f)(g:Be w b)(hw:w.heap.size<=a:=by omega):
 Cq ((b.setCell ⟨a,0,none⟩ (.bool (decide (k<0)))).setCell ⟨a,1,none⟩ j) a 0 (.bool (decide (k<0)))/\Cq ((b.setCell ⟨a,0,none⟩ (.bool (decide (k<0)))).setCell ⟨a,1,none⟩ j) a 1 j/\wm w k (.returned (.agg #[.bool (decide (k<0)),j])) ((b.setCell ⟨a,0,none⟩ (.bool (decide (k<0)))).setCell ⟨a,1,none⟩ j):=by
 obtain⟨i,l,-,-,-⟩:=Bf.pair (u:=.bool (decide (k<0))) (v:=j) ((d.set_ 0 (.bool (decide (k<0)))).set_ 1 j);exact⟨i,l,_,rfl,⟨j,rfl,((h.far (p:=⟨a,0,none⟩) c _).far (p:=⟨a,1,none⟩) c _).lower (by omega)⟩,Ba (Ba g (p:=⟨a,0,none⟩) hw) (p:=⟨a,1,none⟩) hw⟩
end
section
open Go.RowKit Limb
def Ln(a:Nat):Prop:=(lmb a).length<=100000
theorem Gf{c:Nat}{l:List Nat}(h:Hn w i a l)(n:∀x∈l,x<BB)(k:Nat):Calls prog 292 #[.slice i a c,(k:Int)] w λe p=>e=.returned (.int .u64 (gu l k:Int))/\w=p:=by
 have j:=Ex n k;by_cases m:k<a
 .obtain⟨b,o,rfl,g⟩:=h.at_ m;let⟨z,d⟩:=gN (gu l k)
  rw[d]at g;have W:=Ds (z:=(z:Int)) aK (by unfold gu at d;unfold BB at j;omega);have f:(k:Int)<(a:Int):=aK
  go_enter func292,ntmps292;go_wp2;go_ret;exact⟨by rw[d];rfl,rfl⟩
 have d:gu l k=0:=by unfold gu;rw[List.getD,bI (by rw[h.1];omega)];rfl
 have f:(a:Int)<=(k:Int):=aK
 go_enter func292,ntmps292;go_wp2;go_ret;exact⟨by rw[d];rfl,rfl⟩
theorem Akg(l:List Nat):l.flatMap enU=l.map λx:Nat=>(.int .u32 (x:Int):Value):=by
 induction l with
 | nil=>rfl
 | cons x l ih=>rw[cM,ih];rfl
theorem N7{r:Array Oper}{f:List Oper}{o:Oper}{a:Act}{Q:Exit->Act->World->Prop}(k:o.guard=none){s x:Operand}
 (J:o.op=.call { callee:=.builtin .append,args:=#[s,x],argTypes:=#[180,180] })
 (b:Nat) (v:Value) (l:List Nat) (K:a.eval s=v) (d:OwU w b v l)
 (A:Option Addr) (m c:Nat) (y:List Nat) (L:a.eval x=.slice A m c) (q:Hn w A m y) (n:A=none->c=0)
 (I:l.length+m<=1000000) 
 (h:∀j t,OwU t b j (l++y)->w.grownBy t v.ownBlock->(j.ownBlock=v.ownBlock\/j.ownBlock=some w)->wpList prog r Q f (a.put o.dst j) t)  (g:b<=w.heap.size:=by exact aA) :
 wpList prog r Q (o::f) a w:=by
 let⟨i,H,E,F,G⟩:=dW Pd;cases A with
 | none =>
   have M:=n rfl;subst M
   have O:m=0:=by
    rcases bK m with z|z
    .exact z
    let⟨_,_,e,_⟩:=q.at_ z;cases e
   subst O;have C:y=[]:=bL q.1;subst C;refine gM k s x 180 J b 275 i 1 underlying180 H v l.length (l.flatMap enU) K d L ?_;exact h v w (by rw[eM];exact d) (dA _ _) (Or.inl rfl)
 | some ad =>
   refine eX (P:=prog) w k s x 180 J b 275 i (.int .u32 0) 1 4 underlying180 H E F G rfl (by omega) v l.length (l.flatMap enU) K d ad m c (y.flatMap enU) L (by rw[Cz Hj,q.1]) (by rw[Akg];exact q.some_addr) ?_ (by unfold maxLen;omega) (by omega) g ?_
   .intro u S;let⟨p,_,R⟩:=gB.1 S;exact Im p u R
   intro j t D N _ B;refine h j t ?_ N B;unfold OwU OwG;rw[bA,dH,q.1];exact D
theorem OwU.natV(h:OwU w base v (lmb a)):Ce w base v a:=by
 obtain⟨A,c,rfl,b,d,e,f,g⟩:=h.u32s;exact⟨A,c,rfl,b,d,e,f,g⟩
theorem Mu{c:Nat}{l:List Nat}(h:Hn w i a l)(y:∀x∈l,x<BB)(E:a<=c)(u:i=none->c=0)(hn:a<=1000000:=by omega):Calls prog 290 #[.slice i a c] w (iv w (val l)):=by
 go_enter func290,ntmps290;go_wp2;go_loopw [3] (λs wr=>∃k:Nat,k<=a/\s=k/\Hid (trl l a=trl l k)/\w=wr) λs _=>(intOf s).toNat
 case atStart=>exact⟨a,aA,rfl,Ar rfl,rfl⟩
 obtain⟨k,q,rfl,r,rfl⟩:=hrel;cases k with
 | zero =>
   have m:=Ar (show l.take 0=lmb (val l) from jc y h.1 (r.out.trans rfl));have D:(0:Int)<=(c:Int):=aK
   go_wp2_with (at_builtin;refine N7 rfl rfl w (.slice none 0 0) [] rfl OwG.nil i 0 c (l.take 0) rfl (h.take q) u (by rw[List.length_nil];omega) ?_;intro B C d f n;rw[dQ,m.out]at d;have e:=Bk bl0 (show OwU w w (.slice none 0 0) [] from OwG.nil) f)
   go_ret;exact⟨_,rfl,d.natV,e⟩
 | succ k =>
   obtain⟨b,t,rfl,v⟩:=h.at_ (show k<a by omega);let⟨j,p⟩:=gN (k+1)
   have D:(j:Int)-1=(k:Int):=aK
   have F:(0:Int)<(j:Int):=aK
   have G:(k:Int)<(a:Int):=aK
   have H:(j:Int)<=(c:Int):=aK
   let⟨z,g⟩:=gN (((gu l k:Nat):Int):Int)
   rw[g]at v;by_cases o:z=0
   .have m:=Ar (show trl l a=trl l k by rw[r.out];exact Aih);rw[o]at v;rw[p];clear g o;go_wp2;exact⟨⟨k,aK,aP,m,trivial⟩,aI⟩
   have m:=Ar (jc y h.1 (r.out.trans (Ac5)));have A:(z == 0)=false:=by simpa using o
   rw[p]at m q ⊢;clear g o p
   go_wp2_with (at_builtin;refine N7 rfl rfl w (.slice none 0 0) [] rfl OwG.nil (some ⟨b,t,none⟩) j c (l.take j) rfl (h.take q) u (by rw[List.length_nil];omega) ?_;intro B C d f n;rw[dQ,m.out]at d;have e:=Bk bl0 (show OwU w w (.slice none 0 0) [] from OwG.nil) f)
   go_ret;exact⟨_,rfl,d.natV,e⟩
theorem Rz(b:Ce w a e f)(g:Ln f):Calls prog 290 #[e] w (iv w f):=by
 obtain⟨A,h,rfl,c,-,b,d,-⟩:=b;have:=Mu b (Dj f) (hn:=bB g aK) c d
 rwa [Ep] at this
end
section
open Go.RowKit Limb
theorem Ami(F:Ce w a e g)(G:Ce w f j h)(sa:Ln g)(sb:Ln h):Calls prog 231 #[e,j] w (iv w (g+h)):=by
 have la:(lmb g).length<=100000:=sa;have lb:(lmb h).length<=100000:=sb;obtain⟨A,ca,rfl,-,-,F,-,-⟩:=F;obtain⟨B,cb,rfl,-,-,G,-,-⟩:=G;let⟨na,ha⟩:=gN ((lmb g).length)
 let⟨nb,hb⟩:=gN ((lmb h).length)
 rw[ha]at la F ⊢;rw[hb]at lb G ⊢;let⟨M,hM⟩:=gN (max na nb)
 have b5:max (na:Int) (nb:Int)=(M:Int):=aK
 have J:=Ar (λ(k:Nat) (l:List Nat) (hk:M<=k) (b3:AddI g h k 0 l)=>(b3.fin0 aK aK:val l=g+h));have L:=Ar (λ(k:Nat) (hk:M<=k)=>(⟨Sd aK,Sd aK⟩:lim g k=0/\lim h k=0));clear ha hb;go_enter func231,ntmps231;go_upto_region 4 with fail;go_loopw [5,6,7,8] (λo c i _ wr=>∃(k b:Nat) (l:List Nat),k<=M+1/\(M<k->b=0)/\i=k/\c=.int .u64 (b:Int)/\Hid (AddI g h k b l)/\OwU wr w o l/\Be w wr) λ_ _ i _ _=>M+2-(intOf i).toNat
 case atStart=>exact⟨0,0,[],aB,λ_=>rfl,rfl,rfl,Ar (AddI.zero g h),OwG.nil,bl0⟩
 obtain⟨k,b,l,hk,T,rfl,rfl,m,r,d⟩:=hrel;have b6:=m.out.cle;have U:=m.out.len;go_upto_region 4 with fail;go_cut [19] λv wx=>v=.bool (decide (k<M\/0<b))/\wx=wr
 case first =>
  by_cases h1:k<M
  .have B1:(k:Int)<(M:Int):=aK
   go_wp2;go_meet;exact⟨by rw[bV (Or.inl h1)],rfl⟩
  have B1:(M:Int)<=(k:Int):=aK
  go_wp2;all_goals go_meet
  all_goals exact⟨eB Value.bool (decide_eq_decide.2 aK),rfl⟩
 obtain⟨rfl,hw⟩:=hcut;rw[hw];clear hw;by_cases Q:k<M\/0<b
 .rw[bV Q];let⟨x,H⟩:=gN (lim g k)
  let⟨y,I⟩:=gN (lim h k)
  have Y:=Cv g k;have Z:=Cv h k;have C:gu (lmb g) k=x:=H;have D:gu (lmb h) k=y:=I;have N:=Ar C;have O:=Ar D;rw[H]at Y;rw[I]at Z;unfold BB at Y Z;have X:=Ar (m.out.step (s:=x+y+b) (by rw[H,I];omega));have b7:k<=M:=aK
  have W1:=Ds (z:=(x:Int)+(y:Int));have W2:=Ds (z:=(x:Int)+(y:Int)+(b:Int));let⟨E,q⟩:=gN ((x+y+b) % BB:Nat)
  let⟨t,p⟩:=gN ((x+y+b) / BB:Nat)
  rw[q,p]at X;unfold BB at q p;have E1:((x:Int)+(y:Int)+(b:Int)) % 4294967296=(E:Int):=aK
  have E2:((x:Int)+(y:Int)+(b:Int)) / 4294967296=(t:Int):=aK
  have R:M<k+1->t=0:=by
   intro hq;let⟨b8,b9⟩:=L.out k aK;omega
  clear q p m H I C D Q T
  go_wp2_with (first
   | (at_builtin;refine Co 180 rfl enU w 275 (.int .u32 0) 1 4 underlying180 Pd Hj Im l (r.alloc _) wr 1 E 275 (Bf.new _ _ _) (Ao d).size ?_;intro v' w' V S a7)
   | (go_at_call 292;have hq2:=W;refine aG (Gf (G.keep d) (Dj h) k) ?_;rw[O.out])
   | (go_at_call 292;refine aG (Gf (F.keep d) (Dj g) k) ?_;rw[N.out];have W:=trivial))
  exact⟨⟨k+1,t,l++[E],aK,R,aP,by rw[E2],X,V,Bk (Ao d) (r.alloc _) S⟩,aI⟩
 rw[decide_eq_false Q];obtain rfl:b=0:=aK
 have HV:=Ar (J.out k l aK m.out);have K:=Ar m.out.lt;clear m;obtain⟨Al,cl,rfl,q1,q2,q3,q4,q5⟩:=OwU.u32s r;rw[U]at q1 q3 ⊢
 go_wp2_with (go_at_call 290;refine aF (Mu q3 K.out q1 q4) λw8 v8 u P=>?_;rw[HV.out]at u)
 go_ret;exact⟨_,rfl,u.lower d.size,An d P⟩
theorem Amh(m:Ce w a e g)(o:Ce w f j h)(K:Ln g)(L:Ln h):Calls prog 348 #[e,j] w λl N=>l=.returned (Ia g h)/\w=N:=by
 have I:(lmb g).length<=100000:=K;have J:(lmb h).length<=100000:=L;obtain⟨A,Q,rfl,-,-,m,-,-⟩:=m;obtain⟨B,R,rfl,-,-,o,-,-⟩:=o;let⟨z,u⟩:=gN ((lmb g).length)
 let⟨nb,v⟩:=gN ((lmb h).length)
 rw[u]at I m ⊢;rw[v]at J o ⊢;let⟨M,T⟩:=gN (max z nb)
 have H:max (z:Int) (nb:Int)=(M:Int):=aK
 have F:Hid (Ia g h=Abs g h M):=Ar (Abr aK aK).symm;have O:IntKind.i64.wrap ((M:Int)-1)=(M:Int)-1:=aD
 clear u v;go_enter func348,ntmps348;go_wp2;go_loopw [5] (λi wr=>∃k:Nat,k<=M/\i=.int .i64 ((k:Int)-1)/\Hid (Ia g h=Abs g h k)/\w=wr) λi _=>(intOf i+1).toNat
 case atStart=>exact⟨M,aA,rfl,F,rfl⟩
 obtain⟨k,U,rfl,r,rfl⟩:=hrel;cases k with
 | zero =>
   go_wp2;go_ret;exact⟨by rw[r.out];rfl,rfl⟩
 | succ k =>
   have E:((k+1:Nat):Int)-1=(k:Int):=aK
   have V:(0:Int)<=(k:Int):=aK
   rw[E];let⟨x,s⟩:=gN (lim g k)
   let⟨y,t⟩:=gN (lim h k)
   have q:Hid (Ia g h=if x<y then -1 else if y<x then 1 else Abs g h k):=Ar (by rw[r.out,Abs,s,t]);have c:=Ar (show gu (lmb g) k=x from s);have d:=Ar (show gu (lmb h) k=y from t);clear s t r E;have P:IntKind.i64.wrap ((k:Int)-1)=(k:Int)-1:=aD
   rcases fV x y with p|p|p
   .have G:(x:Int)<(y:Int):=aK
    go_wp2_with (first
     | (go_at_call 292;have hq2:=b;refine aG (Gf o (Dj h) k) ?_;rw[d.out];clear b)
     | (go_at_call 292;refine aG (Gf m (Dj g) k) ?_;rw[c.out];have b:=trivial))
    go_ret;exact⟨by rw[q.out,if_pos p];rfl,rfl⟩
   .subst p
    go_wp2_with (first
     | (go_at_call 292;have hq2:=b;refine aG (Gf o (Dj h) k) ?_;rw[d.out];clear b)
     | (go_at_call 292;refine aG (Gf m (Dj g) k) ?_;rw[c.out];have b:=trivial))
    exact⟨⟨k,aK,aP,Ar (by rw[q.out,if_neg (eH _),if_neg (eH _)]),trivial⟩,aJ⟩
   have G:(y:Int)<(x:Int):=aK
   have S:¬(x:Int)<(y:Int):=aK
   go_wp2_with (first
    | (go_at_call 292;have hq2:=b;refine aG (Gf o (Dj h) k) ?_;rw[d.out];clear b)
    | (go_at_call 292;refine aG (Gf m (Dj g) k) ?_;rw[c.out];have b:=trivial))
   go_ret;exact⟨by rw[q.out,if_neg aK,if_pos p];rfl,rfl⟩
theorem Afm(D:Ce w a e g)(E:Ce w f j h)(sa:Ln g)(sb:Ln h):Calls prog 297 #[e,j] w λC W=>∃v,C=.returned (.tuple #[v,.bool (decide (h<=g))])/\Ce W w v (g-h)/\Be w W:=by
 have I:=Ar (Amh D E sa sb);have la:(lmb g).length<=100000:=sa;have lb:(lmb h).length<=100000:=sb;obtain⟨A,ca,rfl,-,-,D,-,-⟩:=D;obtain⟨B,cb,rfl,-,-,E,-,-⟩:=E;let⟨na,ha⟩:=gN ((lmb g).length)
 let⟨nb,hb⟩:=gN ((lmb h).length)
 rw[ha]at la D I ⊢;rw[hb]at lb E I ⊢;let⟨M,hM⟩:=gN (max na nb)
 by_cases d:h<=g
 .have N:=Ar (λ(k o:Nat) (l:List Nat) (hk:M<=k) (b3:SubJ g h k o l)=>(b3.fin aK aK d:val l=g-h));have L:¬Ia g h<0:=by unfold Ia;split<;>(try split)<;>omega
  rw[bV d];go_enter func297,ntmps297
  go_upto_region 6 with (go_at_call 348;refine I.out.mono ?_;rintro C w7 ⟨rfl,rfl⟩)
  go_loopw [6,7,8,9] (λo c i _ wr=>∃(k u:Nat) (l:List Nat),k<=M/\i=k/\c=.int .u64 (u:Int)/\Hid (SubJ g h k u l)/\OwU wr w o l/\Be w wr) λ_ _ i _ _=>M-(intOf i).toNat
  case atStart=>exact⟨0,0,[],aB,rfl,rfl,Ar (SubJ.zero g h),OwG.nil,bl0⟩
  obtain⟨k,u,l,hk,rfl,rfl,m,t,b⟩:=hrel;have b5:=m.out.ole;have T:=m.out.len;by_cases b7:k<M
  .have B1:(k:Int)<(M:Int):=aK
   let⟨x,J⟩:=gN (lim g k)
   let⟨y,K⟩:=gN (lim h k)
   have X:=Cv g k;have Y:=Cv h k;have P:=Ar (show gu (lmb g) k=x from J);have Q:=Ar (show gu (lmb h) k=y from K);rw[J]at X;rw[K]at Y;let⟨s,hs⟩:=gN (BB+x-y-u)
   have p:=m.out.step (s:=s) (by rw[J,K];omega);let⟨H,r⟩:=gN (s % BB:Nat)
   let⟨q,hq⟩:=gN (s / BB:Nat)
   rw[r,hq]at p;obtain⟨p,b8⟩:=p;let⟨Z,F⟩:=gN (1-q)
   rw[F]at p;have p:=Ar p;unfold BB at r hq hs X Y;have W2:IntKind.u64.wrap (4294967296+(x:Int)-(y:Int)-(u:Int))=(s:Int):=by rw[Ds];omega
   have E1:(s:Int) % 4294967296=(H:Int):=aK
   have E2:(s:Int) / 4294967296=(q:Int):=aK
   have W3:IntKind.u64.wrap (1-(q:Int))=(Z:Int):=by rw[Ds];omega
   go_wp2_with (first
    | (at_builtin;refine Co 180 rfl enU w 275 (.int .u32 0) 1 4 underlying180 Pd Hj Im l (t.alloc _) wr 1 H 275 (Bf.new _ _ _) (Ao b).size ?_;intro v' W U S a7)
    | (go_at_call 292;have hq2:=V;refine aG (Gf (E.keep b) (Dj h) k) ?_;rw[Q.out])
    | (go_at_call 292;refine aG (Gf (D.keep b) (Dj g) k) ?_;rw[P.out];have V:=trivial))
   exact⟨⟨k+1,Z,l++[H],aK,aP,rfl,p,U,Bk (Ao b) (t.alloc _) S⟩,aI⟩
  have HV:=Ar (N.out k u l aK m.out);have O:=Ar m.out.lt;obtain⟨Al,cl,rfl,L,q2,q3,q4,q5⟩:=OwU.u32s t;rw[T]at L q3 ⊢
  go_wp2_with (go_at_call 290;refine aF (Mu q3 O.out L q4) λw8 v8 G R=>?_;rw[HV.out]at G)
  go_ret2
  exact⟨_,rfl,G.lower b.size,An b R⟩
 have L:Ia g h<0:=by unfold Ia;rw[if_pos aK];decide
 have h0:g-h=0:=aK
 rw[decide_eq_false d,h0];go_enter func297,ntmps297
 go_wp2_with (go_at_call 348;refine I.out.mono ?_;rintro C w7 ⟨rfl,rfl⟩)
 go_ret2
 exact⟨_,rfl,OwU.natV (by rw[Cb];exact OwG.nil),bl0⟩
theorem All(n:Nat)(y:n<18446744073709551616):Calls prog 229 #[.int .u64 (n:Int)] w (iv w n):=by
 go_enter func229,ntmps229;go_wp2;go_loopw [0,3] (λi o wr=>∃(m:Nat) (l:List Nat),m<18446744073709551616/\l.length<=2/\i=.int .u64 (m:Int)/\Hid (lmb n=l++lmb m/\(l.length<=1\/m=0)/\(l.length=0\/m<4294967296))/\OwU wr w o l/\Be w wr) λi _ _=>(intOf i).toNat
 case atStart=>exact⟨n,[],y,aL,rfl,Ar ⟨rfl,aL,aL⟩,OwG.nil,bl0⟩
 obtain⟨m,l,E,x,rfl,h,b,d⟩:=hrel;by_cases r:m=0
 .have q:=h.out.1;subst r;rw[Cb,eM]at q;rw[<-q]at b;go_wp2;go_ret;exact⟨_,rfl,b.natV,d⟩
 let⟨g,z,A⟩:=h.out;rw[D6 r]at g;let⟨c,f⟩:=gN (m % BB:Nat)
 let⟨a,e⟩:=gN (m / BB:Nat)
 rw[f,e]at g;unfold BB at f e;have B:(0:Int)<(m:Int):=aK
 have C:(m:Int) % 4294967296=(c:Int):=aK
 have D:(m:Int) / 4294967296=(a:Int):=aK
 have u:=Ar (show lmb n=(l++[c])++lmb a/\((l++[c]).length<=1\/a=0)/\((l++[c]).length=0\/a<4294967296) from ⟨by rw[g];simp,by rw[bA,List.length_singleton];omega,aK⟩);have v:l.length<=1:=aK
 have k:a<18446744073709551616:=aK
 have t:a<m:=aK
 clear g z A f e h
 go_wp2_with (at_builtin;refine Co 180 rfl enU w 275 (.int .u32 0) 1 4 underlying180 Pd Hj Im l (b.alloc _) wr 1 c 275 (Bf.new _ _ _) (Ao d).size ?_;intro F G p j s)
 exact⟨⟨a,l++[c],k,aO,rfl,u,p,Bk (Ao d) (b.alloc _) j⟩,aI⟩
end
section
open Go.RowKit Limb
theorem Amf(O:Ce w a e g)(P:Ce w f j h)(sa:Ln g)(sb:Ln h):Calls prog 223 #[e,j] w (iv w (g*h)):=by
 have la:(lmb g).length<=100000:=sa;have lb:(lmb h).length<=100000:=sb;obtain⟨A,ca,rfl,-,-,O,-,-⟩:=O;obtain⟨B,cb,rfl,-,-,P,-,-⟩:=P;let⟨q,ha⟩:=gN ((lmb g).length)
 let⟨nb,hb⟩:=gN ((lmb h).length)
 rw[ha]at la O ⊢;rw[hb]at lb P ⊢;have S:=Ar ha;have T:=Ar hb;let⟨Z,v,hZ⟩:=Fb (q+nb);have ak:∀w,(Instr.makeSlice 180 (.int .i64 ((q:Int)+(nb:Int))) (.int .i64 ((q:Int)+(nb:Int)))).run prog w=.ok (.slice (some ⟨w,0,none⟩) (q+nb) (q+nb)) (w.alloc (.cells Z 275)):=λw=>by have:=v w;rwa [fS] at this
 go_in;go_upto_region 3 with fail;go_loopw [6,7,8,9] (λi _ _ _ wr=>∃(k:Nat) (l:List Nat),k<=q/\i=k/\Hid (MulO g h k q nb l)/\Ka wr w l/\Be w wr) λi _ _ _ _=>q-(intOf i).toNat
 case atStart=>exact⟨0,_,aB,rfl,Ar (MulO.zero g h q nb),hZ w,blA⟩
 obtain⟨k,l,hk,rfl,r,o,d⟩:=hrel;have t:=r.out.len;by_cases L:k<q
 .have B1:(k:Int)<(q:Int):=aK
  have G:=Ar r.out.inner;go_upto_region 7 with fail;obtain⟨wa,rfl⟩:∃wa:World,wa=wr:=⟨_,rfl⟩
  go_loopw [7,8,9] (λc b _ wr=>∃(m u:Nat) (l:List Nat),m<=nb/\b=m/\c=.int .u64 (u:Int)/\Hid (MulN g h k m u q nb l)/\Ka wr w l/\Be w wr) λ_ b _ _=>nb-(intOf b).toNat
  case atStart=>exact⟨0,0,l,aB,rfl,rfl,G,o,d⟩
  obtain⟨b,u,l,hj,rfl,rfl,r,o,d⟩:=hrel;have t:=r.out.len;have D:=r.out.cl;by_cases ad:b<nb
  .have U:=Ar r.out.lt;let⟨z1,f1⟩:=o.cell (k:=k+b) aK;have J:=o.u32s;rw[t]at J;let⟨s,Q⟩:∃s,s=u+(lim g k*lim h b+l.getD (k+b) 0):=⟨_,rfl⟩
   let⟨C,aw⟩:=r.out.step L ad Q;let⟨x,hx⟩:=gN (lim g k)
   let⟨y,hy⟩:=gN (lim h b)
   let⟨z,hz⟩:=gN (l.getD (k+b) 0)
   have X:=Ar (show gu (lmb g) k=x from hx);have Y:=Ar (show gu (lmb h) b=y from hy);have I:=Ar (show gu l (k+b)=z from hz);rw[I.out]at z1;rw[hx,hy,hz]at Q;generalize hm:x*y=m at Q
   have W4:=Ds (z:=(x:Int)*(y:Int));have W6:=Ds (z:=(x:Int)*(y:Int)+(z:Int));have W7:IntKind.u64.wrap ((x:Int)*(y:Int)+(z:Int)+(u:Int))=(s:Int):=by rw[Ds];omega
   let⟨N,F⟩:=gN (s % BB:Nat)
   let⟨K,E⟩:=gN (s / BB:Nat)
   rw[F,E]at C;have W:=Ar C;unfold BB at F E;have E1:(s:Int) % 4294967296=(N:Int):=aK
   have E2:(s:Int) / 4294967296=(K:Int):=aK
   have W8:=Ds (z:=(K:Int))
   have H:=Ar (Gf (c:=q+nb) J U.out (k+b));rw[I.out,fS]at H
   clear F E r C Q aw hm hx hy hz D t
   go_wp2_with (first
    | (go_at_call 292;have bd:=hq2;refine H.out.mono ?_;rintro a1 w8 ⟨rfl,rfl⟩)
    | (go_at_call 292;have hq2:=au;refine aG (Gf (P.keep d) (Dj h) b) ?_;rw[Y.out])
    | (go_at_call 292;refine aG (Gf (O.keep d) (Dj g) k) ?_;rw[X.out];have au:=trivial))
   exact⟨⟨b+1,K,l.set (k+b) N,aK,aP,rfl,W,o.store (k+b) N,Ba d (p:=⟨w,k+b,none⟩) aA⟩,aI⟩
  obtain rfl:b=nb:=aK
  let⟨z1,f1⟩:=o.cell (k:=k+b) aK;have R:=Ar (r.out.fin L T.out);have E1:(u:Int) % 4294967296=(u:Int):=by unfold BB at D;omega
  go_wp2;exact⟨⟨k+1,l.set (k+b) u,aK,aP,R,o.store (k+b) u,Ba d (p:=⟨w,k+b,none⟩) aA⟩,aI⟩
 obtain rfl:k=q:=aK
 have R:=Ar (r.out.fin S.out);have V:=Ar r.out.lt;have J:=o.u32s;rw[t]at J
 go_wp2_with (go_at_call 290;refine aF (Mu J V.out aA λbc=>by cases bc) λw5 v5 M a8=>?_;rw[R.out]at M)
 go_ret;exact⟨_,rfl,M.lower d.size,An d a8⟩
end
section
open Go.RowKit Limb
theorem Adr(q:Ce w a e f)(V:Ln f):Calls prog 298 #[e] w (iv w (f / 2)):=by
 have T:(lmb f).length<=100000:=V;obtain⟨A,R,rfl,-,-,q,-,-⟩:=q;let⟨p,C⟩:=gN ((lmb f).length)
 rw[C]at T q ⊢;have u:=Ar (λ(l:List Nat) (h:LowI (f / 2) p l)=>(h.fin (by rw[<-C];exact Hu (Nat.div_le_self _ _)):val l=f / 2));clear C;go_enter func298,ntmps298;go_upto_region 3 with fail;go_loopw [3,4] (λo i wr=>∃(k:Nat) (l:List Nat),k<=p/\i=k/\Hid (LowI (f / 2) k l)/\OwU wr w o l/\Be w wr) λ_ i _=>p-(intOf i).toNat
 case atStart=>exact⟨0,[],aB,rfl,Ar (LowI.zero _),OwG.nil,bl0⟩
 obtain⟨k,l,hk,rfl,m,j,b⟩:=hrel;have F:=m.out.len;by_cases S:k<p
 .have Y:(k:Int)<(p:Int):=aK
  let⟨x,t⟩:=gN (lim f k)
  let⟨y,I⟩:=gN (lim f (k+1))
  have K:=Cv f k;have B:=Ar (show gu (lmb f) k=x from t);have J:=Ar (Gf (c:=R) (q.keep b) (Dj f) (k+1));rw[show gu (lmb f) (k+1)=y from I,fS]at J;let⟨s,g⟩:=gN (lim f k / 2+lim f (k+1) % 2*2147483648)
  have P:=Ar (m.out.half g.symm);rw[t,I]at g;rw[t]at K;unfold BB at K;have Z:=Ds (z:=(y:Int) % 2*2147483648);have W2:IntKind.u64.wrap ((x:Int) / 2+(y:Int) % 2*2147483648)=(s:Int):=by rw[Ds];omega
  have W3:(s:Int) % 4294967296=(s:Int):=aK
  have W4:IntKind.i64.wrap ((k:Int)+1)=(k:Int)+1:=aD
  clear t I g m
  go_wp2_with (first
   | (at_builtin;refine Co 180 rfl enU w 275 (.int .u32 0) 1 4 underlying180 Pd Hj Im l (j.alloc _) wr 1 s 275 (Bf.new _ _ _) (Ao b).size ?_;intro v' w' G E M)
   | (go_at_call 292;have hq2:=H;refine J.out.mono ?_;rintro L W ⟨rfl,rfl⟩)
   | (go_at_call 292;refine aG (Gf (q.keep b) (Dj f) k) ?_;rw[B.out];have H:=trivial))
  exact⟨⟨k+1,l++[s],aK,aP,P,G,Bk (Ao b) (j.alloc _) E⟩,aI⟩
 obtain rfl:k=p:=aK
 have Q:=Ar (u.out l m.out);have v:=Ar m.out.lt;clear m;obtain⟨X,cl,rfl,N,q2,O,U,q5⟩:=OwU.u32s j;rw[F]at N O ⊢
 go_wp2_with (go_at_call 290;refine aF (Mu O v.out N U) λW v8 r D=>?_;rw[Q.out]at r)
 go_ret;exact⟨_,rfl,r.lower b.size,An b D⟩
theorem pf(s:Ce w a e f)(V:Ln f):Calls prog 295 #[e] w λC X=>∃n:Nat,C=.returned n/\IsB f n/\n<=4000000/\(n=0->f=0)/\Be w X:=by
 have T:(lmb f).length<=100000:=V;obtain⟨A,ca,rfl,I,-,s,Q,-⟩:=s;generalize k:(lmb f).length=g at T I s ⊢;have v:=Ar (Mu s (Dj f) I Q);rw[Ep]at v;by_cases o:f=0
 .have D:g=0:=by rw[<-k,o,Cb];rfl
  subst D;go_in
  go_wp2_with (go_at_call 290;refine v.out.mono ?_;rintro C w8 ⟨W,rfl,d,b⟩;obtain⟨N,c8,rfl,-⟩:=id d;rw[o,Cb])
  go_ret;exact⟨0,rfl,o ▸ Aat,aK,λ_=>o,b⟩
 let⟨m,J⟩:∃m,g=m+1:=⟨g-1,by rw[D6 o,dP]at k;omega⟩
 have P:=Ar λ(x c:Nat) (l:lim f m=x) (D:x<2 ^ c) (R:c=0\/2 ^ (c-1)<=x)=>Af6 (k.trans J) l D R;let⟨x,l⟩:=gN (lim f m)
 have r:=Cv f m;have p:gu (lmb f) m=x:=l;have z:=Ar p;rw[l]at r;unfold BB at r;have B:=Ar l;have u:=Ar k;have z1:(g:Int)-1=(m:Int):=aK
 have Z:m<g:=aK
 clear k l p J;go_in
 go_upto_region 4 with (go_at_call 290;refine v.out.mono ?_;rintro C Y ⟨W,rfl,d,b⟩;obtain⟨N,c8,rfl,U,o2,H,-⟩:=id d;rw[u.out]at U H ⊢)
 obtain⟨b8,f8,rfl,K⟩:=H.at_ Z;rw[z.out]at K
 go_upto_region 6 with fail;have E:=Ar b;go_loopw [4,5] (λn i wr=>∃c t:Nat,c<=32/\n=.int .i64 (32*(m:Int)+(c:Int))/\i=.int .u32 (t:Int)/\Hid (BtI x c t)/\Y=wr) λ_ i _=>(intOf i).toNat
 case atStart=>exact⟨0,x,aK,aL,rfl,Ar ⟨aL,.inl rfl,aK⟩,rfl⟩
 obtain⟨c,t,hc,rfl,rfl,j,rfl⟩:=hrel;by_cases G:t=0
 .obtain⟨L,M⟩:=P.out x c B.out (by subst G;exact j.out.fin) j.out.2.1;subst G;have O:=Ar L;have y:=Ar M;go_wp2;go_ret;exact⟨32*m+c,rfl,O.out,aK,λh=>absurd h (Nat.ne_of_gt y.out),E.out⟩
 have q:=j.out.step r (Nat.pos_of_ne_zero G);have F:=q.2.2;have q:=Ar q
 have S:t<4294967296:=eG (by rw[j.out.1];exact Nat.div_le_self _ _) r
 go_wp2;exact⟨⟨c+1,t / 2,F,aP,eB (Value.int IntKind.u32) aK,q,trivial⟩,aI⟩
theorem Ul(n:Nat)(w:World)(a:n<=1000000:=by omega):(Instr.makeSlice 180 n n).run prog w=.ok (.slice (some ⟨w,0,none⟩) n n) (w.alloc (.cells (vU (List.replicate n 0)) 275)):=by
 let⟨Z,b,c⟩:=Fb n (hn:=a)
 have e:some (Obj.cells Z 275)=some (Obj.cells (vU (List.replicate n 0)) 275):=by
  have d:=(c w:(w.alloc (.cells Z 275)).heap[w.heap.size]? = _);rw[<-d];exact(Array.getElem?_push_size (xs:=w.heap)).symm
 injection e with e
 rw[b w,e]
theorem Afj(n:Nat)(a:n<=1000000)(w:World):OwU (w.alloc (.cells (vU (List.replicate n 0)) 275)) w (.slice (some ⟨w,0,none⟩) n n) (List.replicate n 0):=by
 unfold OwU OwG;rw[Akg,List.length_replicate];exact World.ownsRow_lit w (vU (List.replicate n 0)) n aA aS (by simp[vU])
theorem Afn(J:Ce w a e f)(sa:Ln f)(n:Nat)(hn:n<=4000000):Calls prog 296 #[e,(n:Int)] w (iv w (f*2 ^ n)):=by
 have la:(lmb f).length<=100000:=sa;obtain⟨A,ca,rfl,-,-,J,-,-⟩:=J;let⟨r,V⟩:=gN ((lmb f).length)
 rw[V]at la J ⊢;let⟨q,hq⟩:=gN (n / 32)
 let⟨s,hs⟩:=gN (n % 32)
 have p:s<32:=aK
 have E:n=32*q+s:=aK
 have M:=Ar (λ(c:Nat) (l:List Nat) (h:ShfI f s (r+1) c l)=>(by rw[E];exact h.fin p aK q:val (List.replicate q 0++l)=f*2 ^ n));have T:=Ul q;have d:=Afj q aK w;have Q1:(n:Int) / 32=(q:Int):=aK
 have Q2:(n:Int) % 32=(s:Int):=aK
 clear V E hq hs;go_enter func296,ntmps296;go_upto_region 4 with fail;have u:Be w (w.alloc (.cells (vU (List.replicate q 0)) 275)):=blA;let⟨Z,F⟩:=gN (w.alloc (.cells (vU (List.replicate q 0)) 275))
 rw[F]at u d ⊢;clear F T;go_loopw [5,6,7,8] (λo c i _ wr=>∃(k B:Nat) (l:List Nat),k<=r+1/\i=k/\c=.int .u64 (B:Int)/\Hid (ShfI f s k B l)/\OwU wr w o (List.replicate q 0++l)/\Be w wr) λ_ _ i _ _=>r+1-(intOf i).toNat
 case atStart=>exact⟨0,0,[],aB,rfl,rfl,Ar (ShfI.zero f s),by rw[eM];exact d,u⟩
 clear u d;obtain⟨k,B,l,hk,rfl,rfl,z,g,b⟩:=hrel;have R:=z.out.len;by_cases a8:k<r+1
 .have B1:(k:Int)<=(r:Int):=aK
  let⟨x,G⟩:=gN (lim f k)
  have O:=Ar (show gu (lmb f) k=x from G);let⟨t,L⟩:=gN (lim f k*2 ^ s+B)
  let⟨I,ak⟩:=z.out.step p L.symm;rw[G]at L;let⟨H,y⟩:=gN (t % BB:Nat)
  let⟨K,v⟩:=gN (t / BB:Nat)
  rw[y,v]at I;have I:=Ar I;unfold BB at y v;have E1:(t:Int) % 4294967296=(H:Int):=aK
  have E2:(t:Int) / 4294967296=(K:Int):=aK
  let⟨m,S⟩:=gN (x*2 ^ s)
  rw[S]at L
  have W1:IntKind.u64.wrap ((x:Int)*2 ^ s)=(m:Int):=by
   rw[show (x:Int)*2 ^ s=(m:Int) by rw[<-S,Int.natCast_mul,Int.natCast_pow];rfl,Ds]
  have W2:IntKind.u64.wrap ((m:Int)+(B:Int))=(t:Int):=by rw[Ds];omega
  clear y v z G S L
  go_wp2_with (first
   | (at_builtin;refine Co 180 rfl enU w 275 (.int .u32 0) 1 4 underlying180 Pd Hj Im (List.replicate q 0++l) (g.alloc _) wr 1 H 275 (Bf.new _ _ _) (hlen:=by unfold maxLen;simp;omega) (hbytes:=aO) (Ao b).size ?_;intro v' w' U Q W)
   | (go_at_call 292;refine aG (Gf (J.keep b) (Dj f) k) ?_;rw[O.out]))
  exact⟨⟨k+1,K,l++[H],aK,aP,rfl,I,by rw[<-List.append_assoc];exact U,Bk (Ao b) (g.alloc _) Q⟩,aI⟩
 obtain rfl:k=r+1:=aK
 have B1:(r:Int)<(r:Int)+1:=aK
 have HV:=Ar (M.out B l z.out);have N:=Ar (show ∀x∈List.replicate q 0++l,x<BB from λx G=>(bD.1 G).elim (Gh q x) (z.out.lt x));clear z;obtain⟨Al,cl,rfl,X,q2,Y,q4,q5⟩:=OwU.u32s g;have j:(List.replicate q 0++l).length<=1000000:=aO
 let⟨ln,C⟩:=gN ((List.replicate q 0++l).length)
 rw[C]at X Y j ⊢;clear C R g
 go_wp2_with (go_at_call 290;refine aF (Mu Y N.out (hn:=j) X q4) λw8 v8 D P=>?_;rw[HV.out]at D)
 go_ret;exact⟨_,rfl,D.lower b.size,An b P⟩
end
section
open Go.RowKit Limb
theorem Sm.ln(h:Sm a):Ln a:=h.len
theorem Amm{k:Nat}(h:a<BB ^ k)(b:k<=100000):Ln a:=bB (Me h) b
theorem Afh(e:Sm a)(c:IsB a x)(d:IsB f g)(h:g<=x)(j:0<g):Ln (f*2 ^ (x-g)):=by
 refine Amm (k:=SM+1) ?_ aM;have i:=c.2.resolve_left aK;have b:f*2 ^ (x-g)<2 ^ g*2 ^ (x-g):=Nat.mul_lt_mul_of_lt_of_le d.1 aA (dE aM);rw[<-dJ,show g+(x-g)=(x-1)+1 by omega,bZ]at b;unfold Sm at e;rw[bZ];have:BB ^ SM*2<=BB ^ SM*BB:=cK _ aM;omega
def Nx(g b:Nat)(w:World)(v:Value)(a:Nat):Prop:=Ce w b v a/\(a=0\/∀p n c,v=.slice (some p) n c->p.block≠g)
theorem Nx.of(d:Ce w g e h)(k:a<g)(j:f<=g):Nx a f w e h:=by
 refine⟨d.lower j,.inr λp n c b=>?_⟩;obtain⟨A,c,rfl,-,-,-,-,i⟩:=d;injection b with b
 have:=i p b;omega
theorem Nx.old(h:Ce w f e g)(l:w.heap.size<=a):Nx a f w e g:=by
 refine⟨h,?_⟩;by_cases i:g=0
 .exact .inl i
 refine .inr λp n c d=>?_
 obtain⟨A,c,rfl,-,-,j,-⟩:=h;obtain⟨b,o,rfl,k⟩:=j.at_ (show 0<(lmb g).length by rw[D6 i];simp);injection d with d
 injection d with d
 subst d;exact eL (aZ (Bi k) l)
theorem Nx.keep(h:Nx a base w e f)(c:Be w b):Nx a base b e f:=⟨h.1.keep c,h.2⟩
theorem Nx.far(d:Nx a f w e h)(u:Value):Nx a f (w.setCell ⟨a,g,none⟩ u) e h:=by
 obtain⟨⟨A,c,rfl,i,j,k,l,m⟩,b⟩:=d;refine⟨⟨A,c,rfl,i,j,?_,l,m⟩,b⟩;rcases b with b|b
 .subst b;rw[Cb];exact⟨rfl,.inl rfl⟩
 exact k.far (λq hq=>b q _ _ (by rw[hq])) u
theorem Aab(hA:Ce w a e g)(hB:Ce w f j h)(sa:Sm g)(sb:Sm h)(h0:0<h):Calls prog 230 #[e,j] w λz w'=>∃q r,z=.returned (.tuple #[q,r,.bool true])/\Ce w' w q (g / h)/\Ce w' w r (g % h)/\Be w w':=by
 go_in
 go_upto_region 2 with (go_at_call 295;refine(pf hB sb.ln).mono ?_;rintro z w1 ⟨y0,rfl,-,-,b2,H⟩)
 have c4:¬((y0:Int)=0):=λcn=>by have:=b2 aK;omega
 go_upto_region 5 with (first
  | (go_at_call 295;have e2:=E;refine(pf (hB.keep u) sb.ln).mono ?_;rintro z w4 ⟨y,rfl,K,ca,b3,Q⟩)
  | (go_at_call 295;refine(pf V sa.ln).mono ?_;rintro z w3 ⟨x,rfl,E,c9,-,P⟩;have u:=An (An H ak) P)
  | (go_at_call 290;refine aF (Rz (hA.keep H) sa.ln) λw2 v2 V ak=>?_))
 have t:=An u Q;have W:=((V.keep P).keep Q).lower H.size;have ad:=hB.keep t;have hy:0<y:=by rcases bK y with A|A;(have:=b3 A;omega);exact A
 clear H ak P Q u V hA hB c4 b2 b3;by_cases b1:x<y
 .have au:=Ajv E K b1;have B1:((x:Int)-(y:Int))<0:=aK
  go_wp2
  go_ret3
  exact⟨_,_,rfl,OwU.natV (by rw[dZ au,Cb];exact OwG.nil),by rw[cC au];exact W,t⟩
 let⟨d,hd⟩:=gN (x-y)
 have hI:=DvI.zero E K hy aK;have T:=Afh sa E K aK hy;rw[hd]at hI T;have e1:(x:Int)-(y:Int)=(d:Int):=aK
 have bs:d<=4000000:=aK
 rw[e1];clear e1 hd E K hy c9 ca b1;have aw:=Ul (d / 32+1);rw[show ((d / 32+1:Nat):Int)=(d:Int) / 32+1 by omega]at aw;have W1:IntKind.i64.wrap ((d:Int) / 32+1)=(d:Int) / 32+1:=aD
 go_upto_region 8 with fail;let⟨X,hX⟩:=gN (w4.alloc (.cells (vU (List.replicate (d / 32+1) 0)) 275))
 have B:Ka X w4 (List.replicate (d / 32+1) 0):=hX ▸ Bf.new _ _ _;have J:Be w4 X:=hX ▸ blA;rw[hX];clear hX aw W1;have C:=An t J
 go_upto_region 10 with (go_at_call 296;refine aF (Afn (ad.keep J) sb.ln d bs) λw5 v5 F I=>?_)
 have O:=B.keep I;have U:=((Nx.old W aA).keep J).keep I;have M:=An C I;have hI:=Ar hI;have hg:w.heap.size<=w4.heap.size:=t.size;have F:=Nx.of F B.lt C.size;generalize bt:w4.heap.size=A at O hg U F ⊢;clear t W ad B J C I bt;go_loopw [7,10,11,12,13] (λrv pv k _ _ wr=>∃(a6 r:Nat) (p:Nat) (l:List Nat),a6<=d+1/\k=.int .i64 ((a6:Int)-1)/\Hid (DvI g h a6 d r l)/\Hid (∀i,a6=i+1->p=h*2 ^ i)/\Nx A w wr rv r/\Nx A w wr pv p/\Ln r/\Ln p/\Ka wr A l/\Be w wr) λ_ _ k _ _ _=>(intOf k+1).toNat
 case atStart=>exact⟨d+1,g,_,_,aA,aP,hI,Ar λi Y=>by rw[show d=i by omega],U,F,sa.ln,T,O,M⟩
 clear hI T U F O M;obtain⟨a6,r,p,l,hj,rfl,G,HP,hr,hp,sr,sp,B,D⟩:=hrel;have c0:=G.out.len;cases a6 with
 | zero =>
   let⟨f1,f2⟩:=G.out.fin;have HV:=Ar f1;have bm:=Ar G.out.lt;subst f2;have hU:=B.u32s;rw[c0]at hU;have B1:¬(0:Int) <= -1:=aK
   clear G HP f1
   go_wp2_with (go_at_call 290;refine aF (Mu (c:=d / 32+1) hU bm.out aA λcn=>by cases cn) λw8 v8 b0 n=>?_;rw[HV.out]at b0)
   go_ret3
   exact⟨_,_,rfl,b0.lower D.size,hr.1.keep n,An D n⟩
 | succ k =>
   have z1:((k+1:Nat):Int)-1=(k:Int):=aK
   have v:=HP.out k rfl;rw[z1];have W0:IntKind.i64.wrap ((k:Int)-1)=(k:Int)-1:=aD
   have a8:=Ar (show ∀i,k=i+1->p / 2=h*2 ^ i from λi Y=>by rw[v,Y,bZ,<-bM];exact Nat.mul_div_cancel _ aM);have b4:Ln (p / 2):=bB (Hu (Nat.div_le_self _ _)) sp;by_cases S:p<=r
   .obtain⟨i,Y⟩:∃i,k / 32=i:=⟨_,rfl⟩
    let⟨s,hs⟩:=gN (k % 32)
    have L:=G.out.yes aK (by rw[<-v];exact S);have o:=Zl G.out.lt G.out.d;rw[<-v,Y,hs]at L;rw[Y,hs]at o;generalize hx:l.getD i 0=x at L o;generalize hy:x+2 ^ s=y at L o;let⟨c1,f1⟩:=B.cell (k:=i) aK;rw[show gu l i=x from hx]at c1;let⟨m,hm⟩:=gN (2 ^ s)
    have P1:(2:Int) ^ s=(m:Int):=by rw[<-hm,Int.natCast_pow];rfl
    rw[hm]at hy;unfold BB at o;have W1:IntKind.u32.wrap ((2:Int) ^ s)=(m:Int):=by rw[P1,IntKind.wrap_u32];omega
    have W2:((x:Int)+(m:Int)) % 4294967296=(y:Int):=aK
    have bp:=Ar (show gu l i=x from hx);have Q1:(k:Int) / 32=(i:Int):=aK
    have Q2:(k:Int) % 32=(s:Int):=aK
    have B1:(i:Int)<((d / 32+1:Nat):Int):=aK
    have L:=Ar L;have cc:Ln (r-p):=bB (Hu (Nat.sub_le _ _)) sr;have bu:i<l.length:=aK
    clear hx hy hm P1 Y hs G HP v z1
    go_upto_region 16 with (go_at_call 297;refine aF (Afm hr.1 hp.1 sr sp) λw6 v6 bx b=>?_;rw[bV S];let⟨c2,f2⟩:=(B.keep b).cell bu;rw[bp.out]at c2)
    refine Cj (λZ=>Ka Z A (l.set i y)/\Nx A w Z v6 (r-p)/\Nx A w Z _ p/\Be w Z) ⟨(B.keep b).store i y,(Nx.of bx B.lt D.size).far _,(hp.keep b).far _,Ba (An D b) (p:=⟨A,i,none⟩) hg⟩ ?_;rintro Z ⟨z1,z2,z3,z4⟩
    go_wp2_with (go_at_call 298;refine aF (Adr z3.1 sp) λw8 v8 R n=>?_)
    exact⟨⟨k,r-p,p / 2,_,aK,aP,L,a8,z2.keep n,Nx.of R z1.lt z4.size,cc,b4,z1.keep n,An z4 n⟩,aJ⟩
   have L:=Ar (G.out.no (by rw[<-v];omega));clear G HP v z1
   go_wp2_with (first
    | (go_at_call 297;refine aF (Afm hr.1 hp.1 sr sp) λw6 v6 _ b=>?_;rw[decide_eq_false S])
    | (go_at_call 298;refine aF (Adr (hp.1.keep b) sp) λw8 v8 R n=>?_))
   have cx:=An b n;have N:=An D b;exact⟨⟨k,r,p / 2,_,aK,aP,L,a8,(hr.keep b).keep n,Nx.of R (B.keep b).lt N.size,sr,b4,(B.keep b).keep n,An N n⟩,aJ⟩
theorem Amg(K:Ce w a e g)(L:Ce w f j h)(O:Sm g)(P:Sm h):Calls prog 291 #[e,j] w (iv w (Nat.gcd g h)):=by
 go_in
 go_upto_region 2 with (first
  | (go_at_call 290;refine aF (Rz (L.keep b) P.ln) λw2 Z A p=>?_)
  | (go_at_call 290;refine aF (Rz K O.ln) λw1 Y z b=>?_))
 have c:=An b p;have d:=(z.keep p).lower aA;have i:=A.lower b.size;clear z A b p K L;go_loopw [5,6,7,8,9] (λx y _ _ _ wr=>∃m n:Nat,Ce wr w x m/\Ce wr w y n/\Sm m/\Sm n/\Hid (Nat.gcd g h=Nat.gcd m n)/\Be w wr) λ_ y _ _ _ wr=>natOf wr y
 case atStart=>exact⟨g,h,d,i,O,P,Ar rfl,c⟩
 clear d i c;obtain⟨m,n,M,t,sm,D,C,q⟩:=hrel;have G:=Np t;obtain⟨B,W,rfl,-⟩:=id t;by_cases o:n=0
 .have R:Hid (Nat.gcd g h=m):=Ar (by rw[C.out,o,Nat.gcd_zero_right]);rw[o,Cb];clear G t C o D;go_wp2;go_ret;exact⟨_,rfl,by rw[R.out];exact M,q⟩
 have S:0<(lmb n).length:=by rw[D6 o];simp
 let⟨k,N⟩:=gN ((lmb n).length)
 have E:=Ar (Nat.pos_of_ne_zero o);have u:Hid (Nat.gcd g h=Nat.gcd n (m % n)):=Ar (by rw[C.out,Nat.gcd_comm,Nat.gcd_rec,Nat.gcd_comm]);have l:=Ar (bE m (Nat.pos_of_ne_zero o));have Q:Sm (m % n):=D.le (cX l.out);let⟨r,I⟩:=gN (m % n)
 have F:=Ar I;rw[I]at u l Q;rw[N]at S G t ⊢;clear N o I C
 go_wp2_with (go_at_call 230;refine(Aab M t sm D E.out).mono ?_;rintro J V ⟨X,U,rfl,T,s,v⟩;rw[F.out]at s)
 refine⟨⟨n,r,t.keep v,s.lower q.size,D,Q,u,An q v⟩,?_⟩;have H:=Np s
 show natOf V U<natOf wr _
 rw[H,G];exact l.out
end
end Go.Proofs.YtboghahlhmnblaaGreat
