/- Lean texts of the claim. -/
import Derived.Test.YtboghahlhmnblaaGreatZv24
import Derived.Test.YtboghahlhmnblaaGreatZv22
import Derived.Test.YtboghahlhmnblaaGreatZv21
import Derived.Test.YtboghahlhmnblaaGreatZv23
namespace Go.Proofs.YtboghahlhmnblaaGreat
set_option linter.all false
set_option maxRecDepth 100000
set_option maxHeartbeats 0
open Go.RowKit Go.Proofs.Tryz
variable{a l n o:Nat}{b:List Int}{c:List PlcP}{e:World}{f:List Bool}{g:List Shp}{h:PlcP}{i:StyleP}{j:Int->Int->Int}{k:Array Value}{m:MkP}{p:LP}{w:World}
theorem Ayn{b:List Pt5}(h:a<b.length):pt b a∈b:=by
 unfold pt;rw[List.getD,aW h];exact cY h
theorem Ut(h:a<b.length):gi b a=b[a]:=by
 unfold gi;rw[List.getD,aW h];rfl
theorem Rc(f:Int->Int->Int):∀(j:Nat) (l:List Int),j<l.length->(Kk f l j).Perm l
 | 0,l,_=>by rw[Kk]
 | j+1,l,h=>by
   rw[Kk];split
   .have a:=@List.set_set_perm _ l (j+1) j h (by omega);rw[Ut h,Ut (show j<l.length by omega)];exact(Rc f j _ (by simp;omega)).trans a
   exact List.Perm.refl _
theorem Jq(f:Int->Int->Int)(l:List Int):∀i,i<=l.length->(Jb f l i).Perm l
 | 0,_=>List.Perm.refl _
 | i+1,h=>by
   have ih:=Jq f l i (by omega);rw[Jb];exact(Rc f i _ (by rw[ih.length_eq];omega)).trans ih
theorem Ud(S:List Shp):(No S).Perm ((List.range S.length).map λi:Nat=>(i:Int)):=Jq _ _ _ aL
theorem Ax6(l:∀p∈m.pl,0<=kI c p)(n:(m.pl.map (kI c)).Nodup)(o:∀t,t<c.length->(t:Int)∈m.pl.map (kI c))(q:∀p∈m.pl,p.fl=(plc c (kI c p).toNat).fl):
 Akz c g m (Hh c m.pl m.pl.length)=if Zt (uz m) g (m.pl.map (Al9 c))≠0 then (Zt (uz m) g (m.pl.map (Al9 c)),[],[]) else (0,g,m.pl.map (Al9 c)):=by
 have d:m.pl.take m.pl.length=m.pl:=dR;have j:=Aub (C:=c) (P:=m.pl) m.pl.length aA (by rw[d];exact l) (by rw[d];exact n);let⟨_,_,f,r,k⟩:=S5 m.pl.length aA j;rw[d]at f k;unfold Akz;rw[if_neg (by rw[j];simp),if_neg,if_neg,f]
 .intro h;let⟨i,b,a⟩:=Bp.iff.1 h;rw[f]at a;have e:pt (m.pl.map (Al9 c)) i=Al9 c m.pl[i]:=by rw[Art (by simpa using b)];simp
  rw[e,nu b]at a;have:=q _ (cY b);simp[Al9,this]at a
 intro h;let⟨i,b,a⟩:=Bp.iff.1 h;have:=(k i).2 (o i b);simp[this]at a
def arT(l:LP)(n:Nat):Nat->Int
 | 0=>0
 | k+1=>arT l n k+((gt l k).1*(gt l ((k+1) % n)).2-(gt l k).2*(gt l ((k+1) % n)).1)
theorem Aqq{x y:Int}(a: -1048576<=x:=by omega)(b:x<=1048576:=by omega)(c: -1048576<=y:=by omega)(d:y<=1048576:=by omega): -1099511627776<=x*y/\x*y<=1099511627776:=by
 have h:=cJ (show x.natAbs<=1048576 by omega) (show y.natAbs<=1048576 by omega);rw[<-Int.natAbs_mul]at h;generalize x*y=z at h ⊢;omega
theorem Z5{l:LP}(b:∀q∈l,Du 1048576 q)(c:l.length<=45):∀k,k<=l.length->F4 l l.length k=arT l l.length k /\ -(k:Int)*2199023255552<=arT l l.length k/\arT l l.length k<=(k:Int)*2199023255552
 | 0,_=>by simp[F4,arT]
 | k+1,hk=>by
   let⟨ih,f,g⟩:=Z5 b c k (by omega);have d:=b _ (fo (l:=l) (i:=k) (by omega));have e:=b _ (fo (l:=l) (i:=(k+1) % l.length) (bE _ (by omega)));unfold Du at d e;have j:=Aqq (x:=(gt l k).1) (y:=(gt l ((k+1) % l.length)).2);have m:=Aqq (x:=(gt l k).2) (y:=(gt l ((k+1) % l.length)).1);rw[F4,arT,ih];generalize (gt l k).1*(gt l ((k+1) % l.length)).2=u at *
   generalize (gt l k).2*(gt l ((k+1) % l.length)).1=v at *
   generalize arT l l.length k=a at *
   rw[show wrap64 u=u by unfold wrap64;omega,show wrap64 v=v by unfold wrap64;omega,show wrap64 (u-v)=u-v by unfold wrap64;omega,show wrap64 (a+(u-v))=a+(u-v) by unfold wrap64;omega];refine⟨by omega,by omega,by omega⟩
theorem vf(a:Bg p p.length=0):Qi p=arT p p.length p.length /\ -100000000000000<=Qi p/\Qi p<=100000000000000:=by
 have e:=El a;let⟨b,c,d⟩:=Z5 (gv a) aK p.length aA;unfold Qi;rw[if_pos a,b];have:(p.length:Int)<=40:=aK
 refine⟨rfl,aK,aK⟩
theorem Ag4(a:Bg p p.length=0):0<=Vh p/\Vh p<=100000000000000:=by
 have:=vf a;unfold Vh;omega
theorem Auf{S:List Shp}{a:List Pt5}(h:∀p∈a,(Br S p).1=0):∀k,k<=a.length->Ig S a k=(0,(a.take k).map λp=>(Br S p).2)
 | 0,_=>by simp[Ig]
 | k+1,hk=>by
   rw[Ig,Auf h k (by omega),if_neg (by simp),if_neg (by rw[h _ (Ayn (by omega))];simp),cG (by omega),List.map_append,<-Art (by omega)];rfl
theorem Aee(l:LP): -100000000000000<=Qi l/\Qi l<=100000000000000:=by
 by_cases a:Bg l l.length=0
 .exact(vf a).2
 unfold Qi;rw[if_neg a];omega
theorem vj(l:LP):0<=Vh l/\Vh l<=100000000000000:=by
 have:=Aee l;unfold Vh;omega
theorem O5(A:Option Addr)(a n:Nat)(l:LP)(w:World)(b:n<=a)(g:SpS w A n l)(i:n<=9223372036854775807:=by omega):Calls prog 21 #[.slice A n a] w (Bz w (Vh l)):=by
 have d:=Ar (show (if Bg l n=0 then F4 l n n else 0)=Qi l by unfold Qi;rw[g.1]);have h:=Aee l;have f:=Ar (show Vh l=max (Qi l) (-(Qi l)) from rfl);generalize j:Qi l=z at d h f;have k:IntKind.i64.wrap (-z) = -z:=aD
 clear j;go_in
 go_wp2_with (go_at_call 45;refine rR (Vg A a n l i b g) λm c=>?_;rw[d.out])
 go_ret;exact⟨Bm (by rw[f.out]),c⟩
def Ahq(B:Nat):Value:=.func (.func 31) #[] #[.pointer (some ⟨B,0,none⟩)]
theorem Acb(B:Nat)(A:Option Addr)(n c:Nat)(S:List Shp)(i k:Nat)(P:Bf w B 56 #[.slice A n c])(u:ShS w A n S)(Z:i<n)(hk:k<n):Calls prog 31 #[(i:Int),(k:Int),.pointer (some ⟨B,0,none⟩)] w (Bz w (Ov S i k)):=by
 have h:=Ar (show Ov S i k=Vh (shp S k).poly-Vh (shp S i).poly by unfold Ov;simp);have M:Cq w B 0 (.slice A n c):=(P.cell 0).trans rfl;obtain⟨b,g,rfl,-,y⟩:=u.at_ Z;obtain⟨b',T,e,-,z⟩:=u.at_ hk;injection e with e
 injection e with e1 e2
 subst e1 e2;obtain⟨H,N,s,C,i3,D,-⟩:=y;obtain⟨I,O,t,E,k3,F,-⟩:=z;have K:=vj (shp S i).poly;have L:=vj (shp S k).poly;let⟨li,o⟩:=gN ((shp S i).poly)
 let⟨G,p⟩:=gN ((shp S k).poly)
 rw[o]at s C D K h;rw[p]at t E F L h;let⟨Q,q⟩:=gN li.length
 let⟨R,r⟩:=gN G.length
 rw[q]at s C D;rw[r]at t E F;let⟨U,d⟩:=gN (Vh li)
 let⟨V,f⟩:=gN (Vh G)
 have W:=Ar d;have X:=Ar f;rw[d]at K h;rw[f]at L h;have B1:(i:Int)<(n:Int):=aK
 have B2:(k:Int)<(n:Int):=aK
 have W1:IntKind.i64.wrap (V-U)=V-U:=aD
 clear o p q r d f u P;have J:∀j,Be w j->(Cq j B 0 (.slice (some ⟨b,g,none⟩) n c)/\Cq j b (g+i*5) (.slice H Q N)/\Cq j b (g+k*5) (.slice I R O)):=λj v=>⟨Aq v M,Aq v s,Aq v t⟩
 have a:=Aw (aV w w);clear M s t;go_in;go_upto_region 1 with fail
 go_region_held3 (sB J)
  (with_reducible exact J _ a)
  ((first
    | (go_at_call 21;have Y:=m;(with_reducible refine(O5 H N Q li _ C (D.keep a)).mono ?_);rintro e w5 ⟨rfl,x⟩;rw[W.out];replace a:=An a x)
    | (go_at_call 21;(with_reducible refine(O5 I O R G _ E (F.keep a)).mono ?_);rintro e w4 ⟨rfl,m⟩;rw[X.out];replace a:=An a m)))
 go_wp2;go_ret;exact⟨Bm (by rw[h.out]),a⟩
theorem OwI.cellsI(h:OwI w a (.slice (some ⟨l,0,none⟩) o n) b)(f:b.length=o){k:Nat}(e:k<o):Cq w l k (gi b k)/\w.frozen? ⟨l,k,none⟩=false:=by
 subst f;have c:=OwG.cells h k aK;have d:=Bu Ml b k 0 _ (Wr e) aK;rw[dM,bU]at d;rw[d]at c;exact⟨c,OwG.frozen h _⟩
theorem sc{k:Nat}(x:Int):(b.flatMap enI).set k x=(b.set k x).flatMap enI:=by
 induction b generalizing k with
 | nil=>simp
 | cons a b ih =>
   cases k with
   | zero=>simp[enI]
   | succ k=>rw[eE,cM,cM,<-ih];simp[enI]
theorem OwI.storeI(h:OwI w a (.slice (some ⟨l,0,none⟩) o n) b)(d:b.length=o)(k:Nat)(x:Int):OwI (w.setCell ⟨l,k,none⟩ x) a (.slice (some ⟨l,0,none⟩) o n) (b.set k x):=by
 subst d;have c:=(dI h k x).1;rw[sc]at c;unfold OwI OwG;rw[cD];exact c
def Vu(l:List Int)(j:Nat):List Int:=(l.set (j+1) (gi l j)).set j (gi l (j+1))
theorem jk(h:a+1<b.length){P:Int->Prop}(c:∀z∈b,P z):∀z∈Vu b a,P z:=by
 intro z d;unfold Vu at d;have e:gi b a∈b:=by rw[Ut aK];exact cY _
 have f:gi b (a+1)∈b:=by rw[Ut h];exact cY _
 rcases fE d with h|rfl
 .rcases fE h with h|rfl
  .exact c z h
  exact c _ e
 exact c _ f
theorem rp(h:a<b.length):gi b a∈b:=by rw[Ut h];exact cY _
theorem rb(h:j (gi b (a+1)) (gi b a)<0):Kk j b (a+1)=Kk j (Vu b a) a:=by rw[Kk,if_pos h];rfl
theorem Aau(h:¬j (gi b (a+1)) (gi b a)<0):Kk j b (a+1)=b:=by rw[Kk,if_neg h]
theorem Rb(f:Int->Int->Int)(l:List Int):Kk f l 0=l:=by rw[Kk]
theorem jl(l:List Int)(j:Nat):(Vu l j).length=l.length:=by unfold Vu;simp
def SoW(a:World)(B n:Nat)(S:List Shp):Prop:=∃A c,Bf a B 56 #[.slice A n c]/\ShS a A n S
def Ahs(n:Nat)(l:List Int):Prop:=∀z∈l,0<=z/\z<n
theorem ra(B n:Nat)(S:List Shp)(g d m:Nat)(l:List Int)(o w:World)(hm:m<=1000)(hl:l.length=m)(hS:SoW o B n S)(E:Be o w)(hM:Ahs n l)(b:OwI w o (.slice (some ⟨g,0,none⟩) m d) l):Calls prog 92 #[.slice (some ⟨g,0,none⟩) m d,.int .i64 0,(m:Int),Ahq B] w λe w'=>e=.returned (.tuple #[])/\OwI w' o (.slice (some ⟨g,0,none⟩) m d) (Jb (Ov S) l m)/\Be o w':=by
 have HS:=Ar hS;unfold Ahq;have HI:=Ar λi=>show Jb (Ov S) l (i+1)=Kk (Ov S) (Jb (Ov S) l i) i from rfl;have F:o.heap.size<=g:=(OwG.lt b g rfl).1;have Z:=Ar (λi (hi:i<=m)=>show (Jb (Ov S) l i).length=m from by rw[(Jq _ _ i aK).length_eq,hl]);have a1:=Ar (λi (hi:i<=m)=>show Ahs n (Jb (Ov S) l i) from λz hz=>hM z ((Jq _ _ i aK).mem_iff.1 hz));have u:Jb (Ov S) l 1=l:=by rw[HI.out 0,Rb];rfl
 clear hS hM;by_cases aw:m<=1
 .have HE:=Ar (show Jb (Ov S) l m=l by
   rcases Nat.le_one_iff_eq_zero_or_eq_one.1 aw with h|h
   .rw[h];rfl
   rw[h];exact u)
  clear u hl;go_in;go_wp2;go_loopw [8] (λi wr=>i=.int .i64 1/\wr=w) λ_ _=>0
  case atStart=>exact⟨rfl,rfl⟩
  obtain⟨rfl,rfl⟩:=hrel;have B1:¬(1:Int)<(m:Int):=aK
  go_wp2
  go_end0
  exact⟨rfl,by rw[HE.out];exact b,E⟩
 have X:=Ar u;clear u hl;go_in;go_wp2;go_loopw [8,9] (λi _ wr=>∃k:Nat,1<=k/\k<=m/\i=k/\OwI wr o (.slice (some ⟨g,0,none⟩) m d) (Jb (Ov S) l k)/\Be o wr) λi _ _=>m-(intOf i).toNat
 case atStart=>exact⟨1,aA,aK,rfl,by rw[X.out];exact b,E⟩
 clear b E;obtain⟨k,cg,hk,rfl,b,c⟩:=hrel;by_cases cj:k<m
 .have B1:(k:Int)<(m:Int):=aK
  have Y:=Ar (HI.out k);have J:=Ar (Z.out k hk);have K:=Ar (a1.out k hk);generalize a8:Jb (Ov S) l k=L0 at b Y J K;clear a8;obtain⟨wa,rfl⟩:∃wa:World,wa=wr:=⟨_,rfl⟩
  go_upto_region 4 with fail;go_loopw [9] (λj wx=>∃(p:Nat) (L:List Int),p<=k/\j=p/\Hid (Kk (Ov S) L p=Kk (Ov S) L0 k)/\Hid (L.length=m)/\Hid (Ahs n L)/\OwI wx o (.slice (some ⟨g,0,none⟩) m d) L/\Be o wx) λj _=>(intOf j).toNat
  case atStart=>exact⟨k,L0,aA,rfl,Ar rfl,J,K,b,c⟩
  clear b c;obtain⟨p,L,hp,rfl,hI,f,hN,b,c⟩:=hrel;by_cases O:p=0
  .subst O;go_upto_region 4 with fail;go_quiet (fail);go_wp2;have y:=hI.out;rw[Rb]at y;exact⟨⟨k+1,aK,aK,aP,by rw[Y.out,<-y];exact OwG.keep b (Bd bl0 _),Bd c _⟩,aI⟩
  obtain⟨q,rfl⟩:∃q,p=q+1:=⟨p-1,aK⟩
  clear O;have G:q+1<m:=aK
  let⟨M,f1⟩:=OwI.cellsI b f.out G;let⟨W,f2⟩:=OwI.cellsI b f.out (show q<m by omega);have n1:=hN.out _ (rp (show q+1<L.length by rw[f.out];exact G));have n2:=hN.out _ (rp (show q<L.length by rw[f.out];omega));have V:=Ar λ(h:Ov S (gi L (q+1)) (gi L q)<0)=>(rb h).symm.trans hI.out;have s:=Ar λ(h:¬Ov S (gi L (q+1)) (gi L q)<0)=>(Aau h).symm.trans hI.out;have t:=Ar (show Vu L q=(L.set (q+1) (gi L q)).set q (gi L (q+1)) from rfl);let⟨H,Q⟩:∃z:Nat,gi L (q+1)=z:=⟨(gi L (q+1)).toNat,aK⟩
  let⟨I,T⟩:∃z:Nat,gi L q=z:=⟨(gi L q).toNat,aK⟩
  rw[Q]at M n1 V s t;rw[T]at W n2 V s t;have R:H<n:=aK
  have U:I<n:=aK
  generalize hx:Ov S H I=x at V s;have HX:=Ar hx;clear Q T n1 n2 hx;have W1:IntKind.i64.wrap (((q+1:Nat):Int)-1)=(q:Int):=aD
  have B3:((q+1:Nat):Int)<(m:Int):=aK
  have B4:(q:Int)<(m:Int):=aK
  have B5:(0<q+1)=True:=aL
  generalize hr:q+1=r at M f1 W1 B3 B5 t ⊢;have A:=Ar hr;clear hr G;have KF:∀C,Be wr C->(Cq C g r (H:Int)/\Cq C g q (I:Int)):=λC c=>⟨Aq c M,Aq c W⟩
  have a:=Aw (aV wr wr);go_upto_region 4 with fail
  go_region_held3 (λC=>Cq C g r (H:Int)/\Cq C g q (I:Int))
   (with_reducible exact KF _ a)
   ((go_at_call 31;let⟨AS,cS,a6,ai⟩:=HS.out;(with_reducible refine(Acb B AS n cS S H I (a6.keep (An c a)) (ai.keep (An c a)) R U).mono ?_);rintro e w5 ⟨rfl,ak⟩;rw[HX.out];replace a:=An a ak))
  have v:=OwG.keep b a;have N:=An c a;have F:=(OwG.lt b g rfl).1;have d1:=Aq a M;have d2:=Aq a W;obtain⟨-,cb⟩:=OwI.cellsI v f.out (show r<m by have:=A.out;omega);obtain⟨-,cd⟩:=OwI.cellsI v f.out (show q<m by have:=A.out;omega);clear KF a b c M W f1 f2;by_cases b2:x<0
  .have D:=V.out b2;have bb:¬r=q:=by have:=A.out;omega
   have bc:¬q=r:=by have:=A.out;omega
   go_wp2;go_region;go_wp2;have b1:q+1<L.length:=by rw[f.out,A.out];omega
   have b0:=(OwI.storeI v f.out r (I:Int)).storeI (by rw[cD];exact f.out) q (H:Int);refine⟨⟨q,Vu L q,by have:=A.out;omega,rfl,Ar D,Ar (by rw[jl];exact f.out),Ar λz hz=>jk b1 (P:=λz=>0<=z/\z<(n:Int)) hN.out z hz,?_,?_⟩,by have:=A.out;simp[intOf];omega⟩
   .rw[t.out];exact b0
   exact Aw (Ba (Ba N (p:=⟨g,r,none⟩) F) (p:=⟨g,q,none⟩) F)
  have D:=s.out aK;go_wp2;exact⟨⟨k+1,aK,aK,aP,by rw[Y.out,<-D];exact v,N⟩,aI⟩
 obtain rfl:m=k:=aK
 go_wp2
 go_end0
 exact⟨rfl,b,c⟩
def wi(w:World)(l:List PlcP)(e:Ending)(a:World):Prop:=∃v,e=.returned v/\Tb a w v l/\Be w a
theorem Kw(h:Bv i=0):i.mu.length=i.sz.length/\i.us.length<=12/\i.sz.length<=12/\∀b,b<i.us.length->0<=(use i.us b).pc/\(use i.us b).pc<i.pc.length/\1<=(use i.us b).ct/\(use i.us b).ct<=4:=by
 unfold Bv at h;split at h
 .rename_i g;exact absurd h g
 rename_i c;split at h
 .rename_i g;exact absurd h g
 split at h
 .cases h
 rename_i d;have a:C6 i=0:=by simpa using c
 unfold C6 at a;split at a
 .cases a
 split at a
 .cases a
 split at a
 .cases a
 rename_i k;split at a
 .cases a
 split at a
 .cases a
 rename_i l;refine⟨bT λe=>k (Or.inl e),aK,aK,λb j=>?_⟩;cases hu:Ni i b with
 | true=>exact absurd (Bp.yes (f:=Ni i) j hu) d
 | false=>unfold Ni at hu;simp at hu;omega
theorem Lk{U:List UseP}{n:Nat}(h:∀i,i<n->(use U i).ct<=4):∀k,k<=n->(Fi U k).length<=4*k
 | 0,_=>by simp[Fi]
 | k+1,hk=>by
   have:=Lk h k (by omega);have:=h k (by omega);rw[Fi,bA,List.length_map,List.length_range];omega
theorem pd(j:Nat):((j:Int) % 2 == 1)=decide (j % 2=1):=by
 cases h:decide (j % 2=1) with
 | true=>simp at h;rw[beq_iff_eq];omega
 | false=>simp at h;rw[eP];omega
theorem Ana(vs:Array Value)(s:StyleP)(w:World)(a7:SmS s)(hv:StV w vs s)(h:Bv s=0):Calls prog 28 #[.agg vs] w (wi w (Fi s.us s.us.length)):=by
 have HC:=Ar h;obtain⟨-,k1,-,k2⟩:=Kw h;have HU:=Ar k2;have HL:=Ar (Lk (U:=s.us) (n:=s.us.length) λi hi=>(k2 i hi).2.2.2);clear h k2;have N:=hv;obtain⟨A1,c1,A2,c2,A3,c3,A4,c4,A5,c5,A6,c6,rfl,⟨v1,v2,v3⟩,⟨v4,v5,v6⟩,⟨v7,v8,v9⟩,⟨ad,c9,O⟩,⟨ca,cb,ai⟩,cc,cd⟩:=hv;go_enter func28,ntmps28;go_upto_region 1 with fail;refine Bq λX p Q=>?_
 let⟨p0,p1,p2,p3,p4,p5,p6⟩:=st7 Q;have u:=N.keep p;have g:=O.keep p;let⟨n,hn⟩:=gN s.us.length
 rw[hn]at p4 g Q HU HL k1 ad u ⊢;have HN:=Ar hn;clear hn N v3 v6 v9 O ai;have E:=Q
 go_upto_region 5 with (go_at_call 27;refine rR (Fs _ s _ a7 u) λA o=>?_;rw[HC.out];let⟨x0,x1,x2,x3,x4,x5,x6⟩:=st7 (E.keep o))
 have vU:=g.keep o;have H:=An p o;clear x0 x1 x2 x3 x4 x5 x6 p0 p1 p2 p3 p4 p5 p6 Q E u g p o;go_loopw [3,4,5,14] (λv _ _ i wr=>∃k:Nat,k<=n/\i=k/\Tb wr A v (Fi s.us k)/\Be A wr) λ_ _ _ i _=>n-(intOf i).toNat
 case atStart=>exact⟨0,aB,rfl,OwG.nil,bl0⟩
 obtain⟨k,hk,rfl,c,l⟩:=hrel;by_cases I:k<n
 .obtain⟨b0,bm,rfl,V,W,Z⟩:=(vU.keep l).at_ I;let⟨u1,u2,u3,u4⟩:=HU.out k I;have C:=Ar (show Fi s.us (k+1)=Fi s.us k++(List.range (use s.us k).ct.toNat).map (Qh k (use s.us k).pr) from rfl);have a:=HL.out k hk;let⟨L,hL⟩:=gN (Fi s.us k)
  let⟨⟨pc,ct,f⟩,K⟩:∃x,use s.us k=x:=⟨_,rfl⟩
  rw[K]at V W Z u1 u2 u3 u4 C;rw[hL]at c C a;dsimp only at V W Z u1 u2 u3 u4 C;obtain⟨m,rfl⟩:∃m:Nat,ct=m:=⟨ct.toNat,aK⟩
  rw[cT]at C;have S:=Ar a;clear K hL a;have B1:(k:Int)<(n:Int):=aK
  go_upto_region 7 with fail;refine Bq λY y q=>?_
  have q1:Cq Y wr 1 (m:Int):=(q.cell 1).trans rfl;have J:=OwG.keep c y;have G:=An l y;let⟨P,D⟩:=gN wr.heap.size
  rw[D]at q q1 ⊢;clear V W Z c l y D;go_upto_region 8 with fail;clear q1;go_loopw [3,6,7,21] (λv _ _ i wx=>∃j:Nat,j<=m/\i=j/\Tb wx A v (L++(List.range j).map (Qh k f))/\Bf wx P 54 #[pc,(m:Int),.bool f]/\Be A wx) λ_ _ _ i _=>m-(intOf i).toNat
  case atStart=>exact⟨0,aB,rfl,by rw[List.range_zero,fO,eM];exact J,q,G⟩
  clear J G q;obtain⟨j,hj,rfl,c,q,l⟩:=hrel;by_cases bc:j<m
  .have T:=Ar (show L++(List.range (j+1)).map (Qh k f)=(L++(List.range j).map (Qh k f))++[Qh k f j] by rw[fB,List.map_append,List.append_assoc];rfl)
   have a:(L++(List.range j).map (Qh k f)).length<=1000000:=by
    rw[bA,List.length_map,List.length_range];have:=S.out;omega
   let⟨M,hM⟩:=gN (L++(List.range j).map (Qh k f))
   rw[hM]at c T a;clear hM;have q2:Cq wr P 2 (.bool f):=(q.cell 2).trans rfl;have B2:(j:Int)<(m:Int):=aK
   have a6:=pd j;have t:=Ar (show Qh k f j=⟨0,(k:Int),(j:Int),f&&decide (j % 2=1),0,0,0⟩ from rfl);let⟨R,r⟩:=gN (decide (j % 2=1))
   rw[r]at a6 t;clear r;cases f with
   | true =>
     have b:=Bf.alloc q (.cells #[.int .i64 0,(k:Int),(j:Int),.bool R,.int .i64 0,.int .i64 0,.int .i64 0] 67)
     go_wp2_with (at_builtin;refine Eu rfl A M (OwG.alloc c _) wr 1 ⟨0,(k:Int),(j:Int),R,0,0,0⟩ 67 (Bf.new _ _ _) a (Ao l).size ?_;intro v7 w7 z d F)
     exact aE ⟨by rw[T.out,t.out];exact z,(d.block P b.lt (OwG.neB (OwG.alloc c _) b aM)).trans b,Bk (Ao l) (OwG.alloc c _) d⟩
   | false =>
     have b:=Bf.alloc q (.cells #[.int .i64 0,(k:Int),(j:Int),.bool false,.int .i64 0,.int .i64 0,.int .i64 0] 67)
     go_wp2_with (at_builtin;refine Eu rfl A M (OwG.alloc c _) wr 1 ⟨0,(k:Int),(j:Int),false,0,0,0⟩ 67 (Bf.new _ _ _) a (Ao l).size ?_;intro v7 w7 z d F)
     exact aE ⟨by rw[T.out,t.out];exact z,(d.block P b.lt (OwG.neB (OwG.alloc c _) b aM)).trans b,Bk (Ao l) (OwG.alloc c _) d⟩
  obtain rfl:m=j:=aK
  go_wp2_with fail;exact aE ⟨by rw[C.out];exact c,l⟩
 obtain rfl:n=k:=aK
 go_wp2;go_ret;exact⟨_,rfl,by rw[HN.out];exact OwG.lower c H.size,An H l⟩
theorem yt(B n:Nat)(S:List Shp)(g c m:Nat)(l:List Int)(d w:World)(x:m<20)(k:l.length=m)(q:SoW d B n S)(f:Be d w)(p:Ahs n l)(r:OwI w d (.slice (some ⟨g,0,none⟩) m c) l):Calls prog 56 #[.slice (some ⟨g,0,none⟩) m c,(m:Int),Ahq B] w λe o=>e=.returned (.tuple #[])/\OwI o d (.slice (some ⟨g,0,none⟩) m c) (Jb (Ov S) l m)/\Be d o:=by
 have j:=Ar (ra B n S g c m l d w aK k q f p r);unfold Ahq at j ⊢;have u:((20:Int)<=(m:Int))=False:=aO
 have v:((20:Int)<(m:Int))=False:=aO
 clear k;go_in;go_upto_region 2 with fail;go_loopw [7,8] (λa b wr=>a=.int .i64 0/\b=.int .i64 20/\wr=w) λ_ _ _=>0
 case atStart=>exact⟨rfl,rfl,rfl⟩
 obtain⟨rfl,rfl,rfl⟩:=hrel
 go_upto_region 7 with (go_at_call 92;refine j.out.mono ?_;rintro e s ⟨rfl,i,h⟩)
 go_loopw [6,7,8,9] (λa _ _ _ t=>a=.int .i64 20/\t=s) λ_ _ _ _ _=>0
 case atStart=>exact⟨rfl,rfl⟩
 obtain⟨rfl,rfl⟩:=hrel;go_wp2
 go_end0
 exact⟨rfl,i,h⟩
theorem jt(B n:Nat)(S:List Shp)(g a m:Nat)(l:List Int)(b w:World)(p:m<20)(i:l.length=m)(o:SoW b B n S)(c:Be b w)(k:Ahs n l)(q:OwI w b (.slice (some ⟨g,0,none⟩) m a) l):Calls prog 30 #[.slice (some ⟨g,0,none⟩) m a,Ahq B] w λe j=>e=.returned (.tuple #[])/\OwI j b (.slice (some ⟨g,0,none⟩) m a) (Jb (Ov S) l m)/\Be b j:=by
 have h:=Ar (yt B n S g a m l b w p i o c k q);unfold Ahq at h ⊢;clear i;go_in
 go_wp2_with (go_at_call 56;refine h.out.mono ?_;rintro e r ⟨rfl,f,d⟩)
 go_end0
 exact⟨rfl,f,d⟩
theorem qd(n:Nat)(f:n<=1000):∃Z:Array Value,(∀w,(Instr.makeSlice 23 n n).run prog w=.ok (.slice (some ⟨w,0,none⟩) n n) (w.alloc (.cells Z 3)))/\∀w:World,OwI (w.alloc (.cells Z 3)) w (.slice (some ⟨w,0,none⟩) n n) (List.replicate n 0):=by
 let⟨i,e,a,b,c⟩:=dW Aj5;refine⟨madeCells (Value.int IntKind.i64 0).cells (n*1),λw=>?_,λw=>?_⟩
 .have d:=iO (P:=prog) w 23 3 i (.int .i64 0) underlying23 e a .i64 .i64 n n aK aK (by rw[c];omega) aK;rw[b]at d;simpa using d
 unfold OwI OwG;rw[List.length_replicate,<-O6 Ml 0 n (Value.int IntKind.i64 0).cells];exact World.ownsRow_lit w _ n aA aS (size_madeCells _ _)
def upI(n k:Nat):List Int:=(List.range n).map λi=>if i<k then (i:Int) else 0
theorem Vq(n k:Nat):(upI n k).length=n:=by unfold upI;simp
theorem xq(n:Nat):upI n 0=List.replicate n 0:=by
 unfold upI;apply gQ
 .simp
 intro i a b;simp
theorem Xo(n:Nat):upI n n=(List.range n).map λi:Nat=>(i:Int):=by
 unfold upI;apply List.map_congr_left;intro i a;rw[if_pos (List.mem_range.1 a)]
theorem xt(h:l<a):(upI a l).set l (l:Int)=upI a (l+1):=by
 apply gQ
 .simp[upI]
 intro i b c;rw[List.getElem_set];simp[upI]at b c ⊢;by_cases e:l=i
 .subst e;simp
 rw[if_neg e];by_cases q:i<l
 .rw[if_pos q,if_pos aK]
 rw[if_neg q,if_neg aK]
def Ahp(z:Bool):List Value:=[.bool z]
theorem Zj(z:Bool):(Ahp z).length=1:=rfl
def wj(w:World)(a:Nat)(v:Value)(l:List Bool):Prop:=OwG 4 1 Ahp w a v l
theorem Aj8:(prog.info? 4).map (λi=>(i.zero,i.size,i.bytes))=some (some (.bool false),1,1):=aN
theorem Aa0(h:a<f.length):f[a]? = some (gbo f a):=by
 unfold gbo;rw[List.getD,aW h];rfl
theorem wj.cellsB(h:wj w a (.slice (some ⟨l,0,none⟩) o n) f)(e:f.length=o){k:Nat}(d:k<o):Cq w l k (.bool (gbo f k))/\w.frozen? ⟨l,k,none⟩=false:=by
 subst e;have b:=OwG.cells h k aK;have c:=Bu Zj f k 0 _ (Aa0 d) aK;rw[dM,bU]at c;rw[c]at b;exact⟨b,OwG.frozen h _⟩
theorem fw{k:Nat}(x:Bool):(f.flatMap Ahp).set k (.bool x)=(f.set k x).flatMap Ahp:=by
 induction f generalizing k with
 | nil=>simp
 | cons a f ih =>
   cases k with
   | zero=>simp[Ahp]
   | succ k=>rw[eE,cM,cM,<-ih];simp[Ahp]
theorem wj.storeB(h:wj w a (.slice (some ⟨l,0,none⟩) o n) f)(c:f.length=o)(k:Nat)(x:Bool):wj (w.setCell ⟨l,k,none⟩ (.bool x)) a (.slice (some ⟨l,0,none⟩) o n) (f.set k x):=by
 subst c;have b:=(dI h k (.bool x)).1;rw[fw]at b;unfold wj OwG;rw[cD];exact b
theorem et(n:Nat)(f:n<=1000):∃Z:Array Value,(∀w,(Instr.makeSlice 98 n n).run prog w=.ok (.slice (some ⟨w,0,none⟩) n n) (w.alloc (.cells Z 4)))/\∀w:World,wj (w.alloc (.cells Z 4)) w (.slice (some ⟨w,0,none⟩) n n) (List.replicate n false):=by
 let⟨i,e,a,b,c⟩:=dW Aj8;refine⟨madeCells (Value.bool false).cells (n*1),λw=>?_,λw=>?_⟩
 .have d:=iO (P:=prog) w 98 4 i (.bool false) underlying98 e a .i64 .i64 n n aK aK (by rw[c];omega) aK;rw[b]at d;simpa using d
 unfold wj OwG;rw[List.length_replicate,<-O6 Zj false n (Value.bool false).cells];exact World.ownsRow_lit w _ n aA aS (size_madeCells _ _)
theorem fh(g b n:Nat)(l:List Bool)(a:Nat)(z:n<=1000000)(q:l.length=n)(t:wj w a (.slice (some ⟨g,0,none⟩) n b) l):Calls prog 58 #[.slice (some ⟨g,0,none⟩) n b,.bool false] w (Bz w (Db (λi=>!gbo l i) n)):=by
 have r:=Ar q;clear q;go_in;go_wp2;go_loopw [8] (λi wr=>∃k:Nat,k<=n/\i=k/\Hid (Bp (λi=>!gbo l i) k=false)/\Be w wr) λi _=>n-(intOf i).toNat
 case atStart=>exact⟨0,aB,rfl,Bp.zero _,bl0⟩
 obtain⟨k,y,rfl,p,j⟩:=hrel;by_cases c:k<n
 .obtain⟨s,-⟩:=wj.cellsB (OwG.keep t j) r.out c;have e:=Ar (λ(h:gbo l k=true)=>Bp.succ (f:=λi=>!gbo l i) p.out (by rw[h];rfl));have d:=Ar (λ(h:gbo l k=false)=>Hf (f:=λi=>!gbo l i) c p.out (by rw[h];rfl));generalize u:gbo l k=x at s e d;clear u;have v:(k:Int)<(n:Int):=aK
  cases x with
  | false =>
    have m:=Ar (d.out rfl);clear e d;go_wp2;go_ret;exact⟨Bm m.out.symm,j⟩
  | true =>
    have o:=Ar (e.out rfl);clear e d;go_wp2;exact aE ⟨o,j⟩
 obtain rfl:n=k:=aK
 go_wp2;go_ret;exact⟨Bm (Fy p.out).symm,j⟩
theorem Sv(g b n:Nat)(l:List Bool)(w:World)(a:Nat)(h:n<=1000000)(d:l.length=n)(j:wj w a (.slice (some ⟨g,0,none⟩) n b) l):Calls prog 36 #[.slice (some ⟨g,0,none⟩) n b,.bool false] w (Bz w (.bool (Bp (λi=>!gbo l i) n))):=by
 have f:=Ar d;clear d;go_in
 go_wp2_with (go_at_call 58;refine rR (fh g b n l a h f.out j) λk c=>?_)
 go_ret;exact⟨Bn (Hy _ _),c⟩
theorem Aui(C:List PlcP):∀n j i,j<n->i<C.length->plc (Sn C n) (j*C.length+i)=Ts (plc C i) j
 | 0,j,_,hj,_=>by omega
 | n+1,j,i,hj,hi=>by
   have a:=Pf C n;rw[Sn];unfold plc;rcases bG j n with g|g
   .have:=Aui C n j i g hi;unfold plc at this;have:(j+1)*C.length<=n*C.length:=bQ _ g;rw[cN]at this;rw[List.getD,cF (by omega)]
    assumption
   obtain rfl:j=n:=by omega
   rw[List.getD,cI (by omega),a,show j*C.length+i-j*C.length=i by omega,dC,List.getD,aW hi];rfl
theorem Aus(s:StyleP)(Z:List Int)(C:List PlcP):∀n j i,j<n->i<C.length->shp (ie s Z C n) (j*C.length+i)=(Fq s (gi Z j) (plc C i)).1
 | 0,j,_,hj,_=>by omega
 | n+1,j,i,hj,hi=>by
   have a:=Lp s Z C n;rw[ie];unfold shp;rcases bG j n with g|g
   .have:=Aus s Z C n j i g hi;unfold shp at this;have:(j+1)*C.length<=n*C.length:=bQ _ g;rw[cN]at this;rw[List.getD,cF (by omega)]
    assumption
   obtain rfl:j=n:=by omega
   rw[List.getD,cI (by omega),a,show j*C.length+i-j*C.length=i by omega,dC,aW hi,nu hi];rfl
theorem Avb(a:Bool)(b:Int)(l:LP):F6 false b (if a then F6 true 0 l else l)=F6 a b l:=by
 cases a with
 | false=>rfl
 | true =>
   unfold F6;rw[if_neg aL,if_pos rfl,if_pos rfl,if_pos rfl,List.map_reverse,List.map_map];rfl
theorem Awq{n c k:Nat}(b:k<n*c)(f:a=k / c)(e:l=k % c):a<n/\l<c/\k=a*c+l:=by
 have d:0<c:=by
  rcases bK c with g|g
  .subst g;simp at b
  exact g
 subst f e;refine⟨eZ (by rwa [bN] at b),bE _ d,?_⟩;have:=eQ k c;rw[bN]at this;omega
theorem Aig{f:Nat}(o:f=28\/f=76)(l:Array Value)(s:StyleP)(w:World)(i:SmS s)(k:StV w l s)(h:Bv s≠0):Calls prog f #[.agg l] w (wi w []):=by
 rcases o with rfl|rfl
 have b:=@Fs
 rotate_left 1
 have b:=@N8
 rotate_left 1
 all_goals
  let⟨c,g⟩:=gN (Bv s)
  rw[g]at h;have m:=Ar g;have p:(c != 0)=true:=by simpa using h
  clear g h;have j:=k;obtain⟨A,G,B,H,C,I,D,J,E,K,F,L,rfl,⟨T,U,V⟩,⟨W,Y,Z⟩,⟨v7,v8,v9⟩,⟨q,r,t⟩,⟨u,v,x⟩,y,z⟩:=k;go_in;go_upto_region 1 with fail;refine Bq λX a n=>?_
  let⟨M,N,O,P,Q,R,S⟩:=st7 n
  go_wp2_with ((first|go_at_call 27|go_at_call 64);refine rR (b _ s _ i (j.keep a)) λw1 d=>?_;rw[m.out])
  go_ret;exact⟨_,rfl,OwG.nil,An a d⟩
def Anb:=@Aig 28 (.inl rfl)
def Ail:=@Aig 76 (.inr rfl)
theorem Aik(vs:Array Value)(s:StyleP)(w:World)(T:SmS s)(hv:StV w vs s)(h:Bv s=0):Calls prog 76 #[.agg vs] w (wi w (Fi s.us s.us.length)):=by
 have HC:=Ar h;obtain⟨-,k1,-,V⟩:=Kw h;have HU:=Ar V;have HL:=Ar (Lk (U:=s.us) (n:=s.us.length) λi hi=>(V i hi).2.2.2);clear h V;have I:=hv;obtain⟨A1,c1,A2,c2,A3,c3,O,c4,A5,c5,A6,c6,rfl,⟨v1,v2,v3⟩,⟨v4,v5,v6⟩,⟨v7,v8,v9⟩,⟨Z,bs,J⟩,⟨bt,bu,a1⟩,bx,c0⟩:=hv;go_enter func76,ntmps76;go_upto_region 1 with fail;refine Bq λX o K=>?_
 let⟨p0,p1,p2,p3,N,p5,p6⟩:=st7 K;have u:=I.keep o;have g:=J.keep o;let⟨n,R⟩:=gN s.us.length
 rw[R]at N g K HU HL k1 Z u ⊢;have HN:=Ar R;clear R I v3 v6 v9 J a1
 go_upto_region 5 with (go_at_call 64;refine rR (N8 _ s _ T u) λB l=>?_;rw[HC.out])
 have vU:=g.keep l;have E:=K.keep l;have G:=An o l;clear p0 p1 p2 p3 N p5 p6 K u g o l;go_loopw [3,4,5] (λv i _ wr=>∃k:Nat,k<=n/\i=k/\Tb wr B v (Fi s.us k)/\Be B wr) λ_ i _ _=>n-(intOf i).toNat
 case atStart=>exact⟨0,aB,rfl,OwG.nil,bl0⟩
 obtain⟨k,hk,rfl,f,d⟩:=hrel;have N:Cq wr w 4 (.slice O n c4):=((E.keep d).cell 4).trans rfl;by_cases z:k<n
 .obtain⟨b0,c,rfl,C⟩:∃b c,O=some ⟨b,c,none⟩/\∀W,Be B W->Cq W w 4 (.slice O n c4)/\Cq W b (c+k*3+1) (use s.us k).ct/\Cq W b (c+k*3+2) (.bool (use s.us k).pr):=by
   obtain⟨b,c,e,-⟩:=vU.at_ z;refine⟨b,c,e,λW hW=>⟨((E.keep hW).cell 4).trans rfl,?_⟩⟩;obtain⟨b',b2,e',-,q⟩:=(vU.keep hW).at_ z;rw[e]at e';cases e'
   exact q
  obtain⟨-,-,u3,u4⟩:=HU.out k z;have D:=Ar (show Fi s.us (k+1)=Fi s.us k++(List.range (use s.us k).ct.toNat).map (Qh k (use s.us k).pr) from rfl);have a:=HL.out k hk;let⟨L,hL⟩:=gN (Fi s.us k)
  let⟨⟨pc,ct,p⟩,H⟩:∃x,use s.us k=x:=⟨_,rfl⟩
  rw[H]at C u3 u4 D;rw[hL]at f D a;dsimp only at C u3 u4 D;obtain⟨m,rfl⟩:∃m:Nat,ct=m:=⟨ct.toNat,aK⟩
  rw[cT]at D;have P:=Ar a;have C:=Ar C;clear H hL a;have B1:(k:Int)<(n:Int):=aK
  go_upto_region 8 with fail;clear N;go_loopw [3,5] (λv i wx=>∃j:Nat,j<=m/\i=j/\Tb wx B v (L++(List.range j).map (Qh k p))/\Be B wx) λ_ i _=>m-(intOf i).toNat
  case atStart=>exact⟨0,aB,rfl,by rw[List.range_zero,fO,eM];exact f,d⟩
  clear f d;obtain⟨j,hj,rfl,f,d⟩:=hrel;let⟨q4,q1,q2⟩:=C.out _ d;by_cases b9:j<m
  .have Q:=Ar (show L++(List.range (j+1)).map (Qh k p)=(L++(List.range j).map (Qh k p))++[Qh k p j] by rw[fB,List.map_append,List.append_assoc];rfl)
   have a:(L++(List.range j).map (Qh k p)).length<=1000000:=by
    rw[bA,List.length_map,List.length_range];have:=P.out;omega
   let⟨M,hM⟩:=gN (L++(List.range j).map (Qh k p))
   rw[hM]at f Q a;clear hM;have B2:(j:Int)<(m:Int):=aK
   have S:=pd j;have t:=Ar (show Qh k p j=⟨0,(k:Int),(j:Int),p&&decide (j % 2=1),0,0,0⟩ from rfl);let⟨Y,r⟩:=gN (decide (j % 2=1))
   rw[r]at S t;clear r;cases p with
   | true =>
     go_wp2_with (at_builtin;refine Eu rfl B M (OwG.alloc f _) wr 1 ⟨0,(k:Int),(j:Int),Y,0,0,0⟩ 67 (Bf.new _ _ _) a (Ao d).size ?_;intro v7 w7 A y F)
     exact aE ⟨by rw[Q.out,t.out];exact A,Bk (Ao d) (OwG.alloc f _) y⟩
   | false =>
     go_wp2_with (at_builtin;refine Eu rfl B M (OwG.alloc f _) wr 1 ⟨0,(k:Int),(j:Int),false,0,0,0⟩ 67 (Bf.new _ _ _) a (Ao d).size ?_;intro v7 w7 A y F)
     exact aE ⟨by rw[Q.out,t.out];exact A,Bk (Ao d) (OwG.alloc f _) y⟩
  obtain rfl:m=j:=aK
  go_wp2_with fail;exact aE ⟨by rw[D.out];exact f,d⟩
 obtain rfl:n=k:=aK
 go_wp2;go_ret;exact⟨_,rfl,by rw[HN.out];exact OwG.lower f G.size,An G d⟩
theorem Aev(s:StyleP)(a:SmS s)(b:StV w k s):Calls prog 76 #[.agg k] w (wi w (Kq s)):=by
 unfold Kq;by_cases h:Bv s=0
 .rw[if_neg (by rw[h];simp)];exact Aik k s w a b h
 rw[if_pos h];exact Ail k s w a b h
theorem gl(s:StyleP)(a:SmS s)(b:StV w k s):Calls prog 28 #[.agg k] w (wi w (Kq s)):=by
 unfold Kq;by_cases h:Bv s=0
 .rw[if_neg (by rw[h];simp)];exact Ana k s w a b h
 rw[if_pos h];exact Anb k s w a b h
def Asd(C:List PlcP)(p:PlcP):Nat->Int
 | 0 => -1
 | k+1=>if Asd C p k ≠ -1 then Asd C p k else if Ahm (plc C k) p then (k:Int) else -1
theorem Ary(C:List PlcP)(p:PlcP):∀n,(Asd C p n = -1/\∀t,t<n->Ahm (plc C t) p=false)\/∃k:Nat,Asd C p n=k/\k<n/\Ahm (plc C k) p=true
 | 0=>.inl ⟨rfl,λt d=>by omega⟩
 | n+1=>by
   rw[Asd];rcases Ary C p n with⟨a,b⟩|⟨k,a,b,c⟩
   .rw[if_neg (by rw[a];simp)];by_cases h:Ahm (plc C n) p=true
    .rw[if_pos h];exact .inr ⟨n,rfl,by omega,h⟩
    rw[if_neg h];refine .inl ⟨rfl,λt d=>?_⟩;rcases bG t n with g|g
    .exact b t g
    obtain rfl:t=n:=by omega
    simpa using h
   rw[if_pos (by omega)];exact .inr ⟨k,a,by omega,c⟩
theorem Atq{C:List PlcP}{p:PlcP}{k:Nat}{x:Int}(h:Asd C p k=x)(a:x ≠ -1):∀m,Asd C p (k+m)=x
 | 0=>h
 | m+1=>by
   have:=Atq h a m;rw[<-cQ,Asd,if_pos (by rw[this];exact a),this]
theorem Axz(i:(c.map kt).Nodup):Asd c h c.length=Sf c h c.length:=by
 rcases Ary c h c.length with⟨a,b⟩|⟨k,a,b,g⟩
 .rcases q8 c h c.length with⟨e,_⟩|⟨j,_,f,d⟩
  .rw[a,e]
  rw[b j f]at d;cases d
 rw[a];exact(Ayz i b (Y8.1 g).symm).symm
theorem Awt{q:PlcP}(a:kt h=kt q):kI c h=kI c q:=by
 unfold kI;generalize c.length=n;induction n with
 | zero=>rfl
 | succ n ih =>
   rw[Sf,Sf,ih,show Ahm (plc c n) h=Ahm (plc c n) q by rw[cZ,Y8,Y8,a]]
theorem Ayo{q:PlcP}(d:kI c h=kI c q)(e:0<=kI c h):kt h=kt q:=by
 unfold kI at d e;rcases q8 c h c.length with⟨g,_⟩|⟨i,k,_,b⟩
 .omega
 rcases q8 c q c.length with⟨g,_⟩|⟨j,f,_,a⟩
 .omega
 obtain rfl:i=j:=aK
 exact(Y8.1 b).symm.trans (Y8.1 a)
theorem Avw{P:List PlcP}(n:a<P.length)(i:(Hh c P a).1=0)(hq:0<=kI c (plc P a)):
 decide (0<=Asd P (plc P a) a)=gbo (Hh c P a).2.1 (kI c (plc P a)).toNat:=by
 obtain⟨-,-,-,-,k⟩:=S5 a (by omega) i;have e:(((kI c (plc P a)).toNat:Nat):Int)=kI c (plc P a):=by omega
 rw[cZ,k,e,decide_eq_true_iff];constructor
 .intro h;rcases Ary P (plc P a) a with⟨g,_⟩|⟨j,_,b,f⟩
  .omega
  refine List.mem_map.2 ⟨plc P j,?_,Awt (Y8.1 f)⟩;rw[nu (by omega)];exact List.mem_iff_getElem.2 ⟨j,by rw[bC];omega,by rw[List.getElem_take]⟩
 intro h;let⟨q,d,hq2⟩:=List.mem_map.1 h;obtain⟨j,l,rfl⟩:=List.mem_iff_getElem.1 d;rw[bC]at l;rw[List.getElem_take]at hq2;rcases Ary P (plc P a) a with⟨_,g⟩|⟨j,m,_,_⟩
 .have b:=g j (by omega);rw[nu (by omega),Y8.2 (Ayo hq2 (by omega))]at b;cases b
 omega
theorem At5{d:Type}[DecidableEq d]:∀{r l:List d},r.Nodup->(∀q∈r,q∈l)->r.length<=l.length
 | [],_,_,_=>aB
 | a::r,l,h,g=>by
   have b:=List.nodup_cons.1 h;have c:=g a (by simp);have ih:=At5 (r:=r) (l:=l.erase a) b.2 (λq hq=>(List.mem_erase_of_ne λe=>b.1 (by rw[<-e];exact hq)).2 (g q (by simp[hq])));rw[List.length_erase_of_mem c]at ih;have:=List.length_pos_of_mem c;rw[dP];omega
theorem Axy{P:List PlcP}(u:(Hh c P P.length).1=0):Bp (λi=>!gbo (Hh c P P.length).2.1 i) c.length=decide (P.length<c.length):=by
 obtain⟨o,s,-,-,k⟩:=S5 P.length aA u;rw[dR]at o s k
 have w:((List.range c.length).map λi:Nat=>(i:Int)).Nodup:=by
  refine List.Pairwise.map _ ?_ List.nodup_range;intro a b m e;exact m aK
 have f:∀q∈P.map (kI c),q∈(List.range c.length).map λi:Nat=>(i:Int):=by
  intro q hq;obtain⟨p,x,rfl⟩:=List.mem_map.1 hq;have:=o p x;have:=Wk c p c.length;exact List.mem_map.2 ⟨(kI c p).toNat,List.mem_range.2 (by unfold kI at *;omega),by unfold kI at *;omega⟩
 by_cases h:P.length<c.length
 .rw[bV h];by_cases j:Bp (λi=>!gbo (Hh c P P.length).2.1 i) c.length=true
  .exact j
  have j:∀i,i<c.length->(!gbo (Hh c P P.length).2.1 i)=false:=λi d=>Bool.eq_false_iff.2 λe=>j (Bp.iff.2 ⟨i,d,e⟩)
  have:=At5 w (l:=P.map (kI c)) (λq hq=>by
   obtain⟨i,d,rfl⟩:=List.mem_map.1 hq;have:=j i (List.mem_range.1 d);exact(k i).1 (by simpa using this))
  rw[List.length_map,List.length_map,List.length_range]at this;omega
 rw[decide_eq_false h];refine Bool.eq_false_iff.2 λg=>?_
 let⟨i,d,g⟩:=Bp.iff.1 g;by_cases t:gbo (Hh c P P.length).2.1 i=true
 .rw[t]at g;cases g
 have n:¬(i:Int)∈P.map (kI c):=λv=>t ((k i).2 v)
 have:=At5 (r:=(i:Int)::P.map (kI c)) (List.nodup_cons.2 ⟨n,s⟩) (l:=(List.range c.length).map λi:Nat=>(i:Int)) (λq hq=>by
  rcases bO.1 hq with rfl|hq
  .exact List.mem_map.2 ⟨i,List.mem_range.2 d,rfl⟩
  exact f q hq)
 rw[dP,List.length_map,List.length_map,List.length_range]at this;omega
def Axq(C:List PlcP)(S:List Shp)(m:MkP)(r:Int×List Bool×List Pt5):Int×List Shp×List Pt5 :=
 if r.1≠0 then (r.1,[],[]) else if m.pl.length<C.length then (20,[],[])
 else if Bp (λi=>(plc m.pl i).fl != (plc C (pt r.2.2 i).sh.toNat).fl) m.pl.length then (12,[],[]) else (0,S,r.2.2)
def Aq9(s:StyleP)(m:MkP):Int×List Shp×List Pt5 :=
 if (Bc s m.sz).1≠0 then ((Bc s m.sz).1,[],[]) else Axq (Bc s m.sz).2.2 (Bc s m.sz).2.1 m (Hh (Bc s m.sz).2.2 m.pl m.pl.length)
theorem Aw6(s:StyleP)(m:MkP):(J6 s m).1=if (Aq9 s m).1≠0 then (Aq9 s m).1 else Zt (uz m) (Aq9 s m).2.1 (Aq9 s m).2.2:=by
 unfold J6 Aq9;by_cases h:(Bc s m.sz).1≠0
 .rw[if_pos h,if_pos h,if_pos h]
 rw[if_neg h,if_neg h];unfold Akz Axq;by_cases a:(Hh (Bc s m.sz).2.2 m.pl m.pl.length).1≠0
 .rw[if_pos a,if_pos a,if_pos a]
 rw[if_neg a,if_neg a,Axy (by simpa using a)];by_cases b:m.pl.length<(Bc s m.sz).2.2.length
 .rw[if_pos (by simpa using b),if_pos b];rfl
 rw[if_neg (by simpa using b),if_neg b];split
 .rfl
 by_cases c:Zt (uz m) (Bc s m.sz).2.1 (Hh (Bc s m.sz).2.2 m.pl m.pl.length).2.2=0<;>simp[c]
theorem Ayt(h:(J6 i m).1=0):∃S C,Bc i m.sz=(0,S,C)/\J6 i m=(0,S,m.pl.map (Al9 C))/\Ay0 C S (uz m) m.pl:=by
 unfold J6 at h ⊢;by_cases a:(Bc i m.sz).1≠0
 .rw[if_pos a]at h;exact absurd h a
 rw[if_neg a]at h ⊢;have k:=Aw7.1 h;refine⟨_,_,Prod.ext (by simpa using a) rfl,?_,k⟩;rw[Ax6 k.1 k.2.1 k.2.2.1 k.2.2.2.1,if_neg (by rw[k.2.2.2.2];simp)]
theorem Ax5{C:List PlcP}(t:Bc i b=(0,g,C))(D:0<=kI C h)(q:h.fl=(plc C (kI C h).toNat).fl):
 (0<=h.ga/\h.ga<b.length)/\(J5 i (gi b h.ga.toNat) h.us).2=0/\(shp g (kI C h).toNat).poly=if h.fl then F6 true 0 (J5 i (gi b h.ga.toNat) h.us).1 else (J5 i (gi b h.ga.toNat) h.us).1:=by
 obtain⟨e,-,-,-,-,-,s⟩:=Kz (s:=i) (Z:=b) (by rw[t]);rw[t]at e;injection e with _ e
 injection e with hS hCC
 have y:C.length=b.length*(Kq i).length:=by rw[hCC,Pf]
 unfold kI at *
 rcases q8 C h C.length with⟨a,_⟩|⟨k,w,B,x⟩
 .omega
 rw[w]at q ⊢;rw[cT]at q ⊢;let⟨o,l,p⟩:=Awq (n:=b.length) (c:=(Kq i).length) (k:=k) (by omega) rfl rfl;let⟨j,A⟩:=gN (k / (Kq i).length)
 let⟨f,z⟩:=gN (k % (Kq i).length)
 rw[A]at o p;rw[z]at l p
 have u:plc C k=Ts (plc (Kq i) f) j:=by
  have:=Aui (Kq i) b.length _ _ o l;rw[<-p,<-hCC]at this;exact this
 have v:shp g k=(Fq i (gi b j) (plc (Kq i) f)).1:=by
  have:=Aus i b (Kq i) b.length _ _ o l;rw[<-p,<-hS]at this;exact this
 have d:=Y8.1 x;rw[u]at d q;unfold kt Ts at d;dsimp only at d;injection d with t1 t2
 injection t2 with t2 t3
 have r:h.fl=(plc (Kq i) f).fl:=q;refine⟨by omega,?_⟩;rw[v];have m:=s j o _ (show plc (Kq i) f∈Kq i by rw[nu l];exact cY l);rw[r,<-t1,<-t2,cT];unfold Fq at m ⊢;split at m
 .rename_i a;exact absurd m a
 rename_i a;rw[if_neg a];refine⟨by simpa using a,?_⟩;split at m
 .rename_i a;exact absurd m a
 rename_i a;rw[if_neg a]
theorem Awn{p:Pt5}(h:(Br g p).1=0):(Br g p).2=Yv (F6 p.fl p.qu (shp g p.sh.toNat).poly) (p.x,p.y):=by
 unfold Br La at h ⊢;split at h
 .cases h
 rename_i a;rw[if_neg a];split at h
 .rename_i a;exact absurd h a
 rename_i a;rw[if_neg a];split at h
 .rename_i a;exact absurd h a
 rename_i a;rw[if_neg a]
def Awc(s:StyleP)(Z:List Int)(p:PlcP):LP:=Yv (F6 p.fl p.qu (J5 s (gi Z p.ga.toNat) p.us).1) (p.x,p.y)
theorem Aue{s:StyleP}{m:MkP}(h:(J6 s m).1=0):J1 s m=(0,m.pl.map (Awc s m.sz))/\∀p∈m.pl,(0<=p.ga/\p.ga<m.sz.length)/\(J5 s (gi m.sz p.ga.toNat) p.us).2=0:=by
 let⟨S,C,d,i,k⟩:=Ayt h;obtain⟨e,l,n,f,g⟩:=k;obtain⟨-,kf,-⟩:=Ax4.1 g;have b:=λp (a:p∈m.pl)=>Ax5 d (e p a) (f p a)
 refine⟨?_,λp a=>⟨(b p a).1,(b p a).2.1⟩⟩;unfold J1;rw[i,if_neg aL];dsimp only;rw[Auf (λp a=>(sk (kf p a)).2.1) _ aA,dR,List.map_map]
 congr 1
 refine List.map_congr_left λp a=>?_
 have j:=(sk (kf _ (List.mem_map.2 ⟨p,a,rfl⟩))).2.1;have c:(shp S (Al9 C p).sh.toNat).poly=_:=(b p a).2.2
 show (Br S (Al9 C p)).2=_
 rw[Awn j,c];unfold Awc Al9;dsimp only;rw[Avb]
end Go.Proofs.YtboghahlhmnblaaGreat
