/- Lean texts of the claim. -/
import Derived.Test.YtlogblbfbihleaaGreatZr34
import Derived.BigRegion
namespace Go.Proofs.YtlogblbfbihleaaGreat
set_option linter.all false
set_option maxRecDepth 100000
set_option maxHeartbeats 0
open Go.RowKit
variable{a j:World}{b i:Nat}{e:Array Value}{f:StyleP}{g:TypeId}{h:Int}
theorem MkV.keep{w:World}  {m:MkP} (h:MkV w e m) (b:Be w a):MkV a e m:=by
 obtain⟨c,f,d,g,rfl,⟨i,j,p⟩,k,l,n,o⟩:=h;exact⟨c,f,d,g,rfl,⟨i,j,p.keep b⟩,k,l,n,o.keep b⟩
theorem vg(s:StyleP) (m:MkP):(J6 s m).2.2.length<=m.pl.length/\(J6 s m).2.1.length<=60:=by
 unfold J6;split
 .simp
 rename_i h;let⟨⟨x,S,C⟩,b⟩:∃r,Bc s m.sz=r:=⟨_,rfl⟩
 rw[b]at h ⊢;have d:x=0:=by simpa using h
 subst d;have a:=(X5 b).2;dsimp only;unfold Akz;split
 .simp
 rename_i c;obtain⟨-,-,e,-,-⟩:=S5 (C:=C) (P:=m.pl) m.pl.length (Nat.le_refl _) (by simpa using c)
 repeat' split
 all_goals first
  | (simp;done)
  | (refine⟨?_,a⟩;dsimp only;rw[e,List.length_map,List.length_take];omega)
theorem Rw (S:List Shp) (a:List Pt5):∀k,Ig S a k=Dk S a k
 | 0=>rfl
 | k+1=>by rw[Ig,Dk,Rw S a k]
theorem mh{S:List Shp} {a:List Pt5}  {x:Int} (h:Ig S a b=(x,[])) (c:x≠0):∀m,Ig S a (b+m)=(x,[]):=by
 intro m;induction m with
 | zero=>exact h
 | succ m ih=>rw[<-Nat.add_assoc,Ig,if_pos (by rw[ih];exact c)];exact ih
theorem Oq (S:List Shp) (a:List Pt5):∀k,∀t∈(Ig S a k).2,Bg t t.length=0
 | 0=>by simp[Ig]
 | k+1=>by
   rw[Ig];intro t ht;split at ht
   .exact Oq S a k t ht
   split at ht
   .simp at ht
   rename_i h;rcases List.mem_append.1 ht with ht|ht
   .exact Oq S a k t ht
   rw[List.mem_singleton]at ht;subst ht;exact Oo (by simpa using h)
theorem Tg {l:List LP} (h:∀t∈l,Bg t t.length=0):∀k,k<=l.length->0<=I4 l k/\I4 l k<=100000000000000*k
 | 0,_=>by simp[I4]
 | k+1,hk=>by
   have ih:=Tg h k (by omega);have a:=Ag4 (h _ (I9 (ls:=l) (k:=k) (by omega)));rw[I4];omega
theorem Aff(s:StyleP) (m:MkP):(J1 s m).2.length<=m.pl.length/\∀t∈(J1 s m).2,Bg t t.length=0:=by
 unfold J1;split
 .simp
 refine⟨?_,Oq _ _ _⟩;rw[Rw];have:=(Hd (J6 s m).2.1 (J6 s m).2.2 (J6 s m).2.2.length).1;have:=(vg s m).1;omega
theorem ep(l:Array Value) (s:StyleP) (k:Array Value) (m:MkP) (w:World) (g:SmS s) (j:StV w l s) (i:MkV w k m) (c:∀p∈m.pl,okC (kt p)) (f:m.pl.length<=1000) :
 Calls Tryz.prog 14 #[.agg l,.agg k] w (Bz w (.int .i64 (J6 s m).1)):=by
 obtain⟨q,A,r,B,t,C,u,D,v,E,x,F,rfl,-⟩:=id j;obtain⟨y,G,z,H,rfl,-⟩:=id i;go_enter Tryz.func14,Tryz.ntmps14;go_upto_region 1 with fail;refine Eo λX a o n=>?_
 let⟨O,P,Q,R,S,T,U⟩:=st7 o;let⟨I,J,K,L,M,N⟩:=mk6 n;have h:=j.keep a;have d:=i.keep a
 go_wp2_with (go_at_call 33;refine(Ji _ s _ m _ g h d c f).mono ?_;rintro e V ⟨u1,u2,rfl,-,-,b⟩)
 go_ret;exact⟨rfl,An a b⟩
theorem O3(vs:Array Value) (s:StyleP) (ms:Array Value) (m:MkP) (w:World) (Q:SmS s) (hv:StV w vs s) (hm:MkV w ms m) (L:∀p∈m.pl,okC (kt p)) (N:m.pl.length<=1000) :
 Calls Tryz.prog 13 #[.agg vs,.agg ms] w (wg w (J1 s m)):=by
 have t:=Ar (show J1 s m=if (J6 s m).1≠0 then ((J6 s m).1,[]) else Ig (J6 s m).2.1 (J6 s m).2.2 (J6 s m).2.2.length from rfl);let⟨l1,l2⟩:=vg s m;let⟨r,hr⟩:=gN (J6 s m)
 rw[hr]at t l1 l2;have HE:=Ar hr;obtain⟨x,S,d⟩:=r;dsimp only at t l1 l2;clear hr;obtain⟨A1,c1,A2,c2,A3,c3,A4,c4,A5,c5,A6,c6,rfl,-⟩:=id hv;obtain⟨M1,d1,M2,d2,rfl,-⟩:=id hm;go_enter Tryz.func13,Tryz.ntmps13;go_upto_region 1 with fail;refine Eo λX f hP hK=>?_
 let⟨p0,p1,p2,p3,p4,p5,p6⟩:=st7 hP;let⟨k0,k1,k2,k3,k4,k5⟩:=mk6 hK;have C:=hv.keep f;have A:=hm.keep f;by_cases V:x=0
 .subst V;rw[if_neg (by simp)]at t
  go_upto_region 4 with (go_at_call 33;refine(Ji _ s _ m _ Q C A L N).mono ?_;rintro e W ⟨v1,v2,rfl,j,h,n⟩;rw[HE.out]at j h ⊢;dsimp only at j h ⊢;obtain⟨AS,cS,rfl,lS,mS,K⟩:=j.shs (by omega);obtain⟨AU,cU,rfl,J⟩:=OwP.pus h)
  have z:=An f n;let⟨u,M⟩:=gN d.length
  rw[M]at J t l1 ⊢;clear p0 p1 p2 p3 p4 p5 p6 k0 k1 k2 k3 k4 k5 hP hK C A j h f n M;go_upto_region 6 with fail;go_loopw [9,11,12,13,26] (λv _ _ _ i wx=>∃k:Nat,k<=u/\i=.int .i64 k/\Hid ((Ig S d k).1=0)/\Iw wx W.heap.size v (Ig S d k).2/\Be W wx) λ_ _ _ _ i _=>u-(intOf i).toNat
  case atStart=>exact⟨0,Nat.zero_le _,rfl,Ar rfl,Iw.nil,bl0⟩
  obtain⟨k,hk,rfl,hz,ho,b⟩:=hrel;by_cases Z:k<u
  .obtain⟨bb,ob,rfl,bm,D,E,F,G,H⟩:=(J.keep b).at_ Z;have P:=F9 S (pt d k);have R:=(Hd S d k).1;rw[<-Rw]at R;have a:=Ar (show Ig S d (k+1)=if (Br S (pt d k)).1≠0 then ((Br S (pt d k)).1,[]) else (0,(Ig S d k).2++[(Br S (pt d k)).2]) by rw[Ig,if_neg (by rw[hz.out];simp)]);let⟨qq,B⟩:=gN (Br S (pt d k))
   rw[B]at P a;have y:=Ar B;clear B;obtain⟨q1,q⟩:=qq;dsimp only at P a;let⟨pq,O⟩:=gN (pt d k)
   rw[O]at D E F G H y;clear O;obtain⟨U,I,T,x2,y2⟩:=pq;dsimp only at D E F G H;have B1:(k:Int)<(u:Int):=by omega
   by_cases l:q1=0
   .subst l;rw[if_neg (by simp)]at a
    go_wp2_with (first|(go_at_call 34;refine(Cf _ _ _ S ⟨U,I,T,x2,y2⟩ _ (K.keep (Ao b _))).mono ?_;rintro e w5 ⟨v5,rfl,o,c⟩;rw[y.out]at o ⊢;obtain⟨A5,c5,rfl,-,-,-,-⟩:=OwS.els o)|(at_builtin;refine Fo rfl _ _ rfl W.heap.size _ (Ig S d k).2 rfl (((ho.alloc _).keep c).alloc _) w5.heap.size 1 _ q 46 rfl (Bf.new _ _ _) ((ElS.lower (OwS.els o) (Ao b _).size).keep blA) (by omega) (Ao (An (Ao b _) c) _).size ?_;intro v7 w7 a6 Y aw))
    exact⟨⟨k+1,by omega,by go_num,Ar (by rw[a.out]),by rw[a.out];exact a6,G6 (Ao (An (Ao b _) c) _) (((ho.alloc _).keep c).alloc _) Y⟩,by simp[intOf];omega⟩
   have qo:(q1 != 0)=true:=by simpa using l
   rw[if_pos l]at a;have g:=mh a.out l (u-(k+1));rw[show k+1+(u-(k+1))=u by omega]at g;have HR:=Ar (t.out.trans g);clear g l
   go_wp2_with (go_at_call 34;refine(Cf _ _ _ S ⟨U,I,T,x2,y2⟩ _ (K.keep (Ao b _))).mono ?_;rintro e w5 ⟨v5,rfl,o,c⟩;rw[y.out])
   go_ret2
   rw[HR.out];exact⟨_,rfl,Iw.nil,An z (An (Ao b _) c)⟩
  obtain rfl:u=k:=by omega
  go_wp2_with fail
  go_ret2
  rw[t.out];exact⟨u9,by rw[hz.out];rfl,ho.lower z.size,An z b⟩
 rw[if_pos V]at t;have bp:(x != 0)=true:=by simpa using V
 clear V
 go_wp2_with (go_at_call 33;refine(Ji _ s _ m _ Q C A L N).mono ?_;rintro e W ⟨v1,v2,rfl,j,h,n⟩;rw[HE.out];dsimp only)
 go_ret2
 rw[t.out];exact⟨_,rfl,Iw.nil,An f n⟩
theorem ph(Z:Array Value) (s:StyleP) (W:Array Value) (m:MkP) (w:World) (D:SmS s) (V:StV w Z s) (U:MkV w W m) (A:∀p∈m.pl,okC (kt p)) (C:m.pl.length<=1000) :
 Calls Tryz.prog 12 #[.agg Z,.agg W] w (Bz w (.tuple #[(xo s m).1,(xo s m).2])):=by
 have h:=Ar (show xo s m=if (J1 s m).1≠0 then (0,(J1 s m).1) else (I4 (J1 s m).2 (J1 s m).2.length,0) from rfl);let⟨N,F⟩:=Aff s m;let⟨r,M⟩:=gN (J1 s m)
 rw[M]at h N F;have O:=Ar M;obtain⟨x,L⟩:=r;dsimp only at h N F;have g:=Ar (Tg F);have t:=Ar λk (K:k<L.length)=>(El (F _ (I9 K))).2;clear M F;obtain⟨A1,c1,A2,c2,A3,c3,A4,c4,A5,c5,A6,c6,rfl,-⟩:=id V;obtain⟨M1,d1,M2,d2,rfl,-⟩:=id U;go_enter Tryz.func12,Tryz.ntmps12;go_upto_region 1 with fail;refine Eo λX b S R=>?_
 let⟨p0,p1,p2,p3,p4,p5,p6⟩:=st7 S;let⟨k0,k1,k2,k3,k4,k5⟩:=mk6 R;have o:=V.keep b;have n:=U.keep b;by_cases H:x=0
 .subst H;rw[if_neg (by simp)]at h
  go_upto_region 4 with (go_at_call 13;refine(O3 _ s _ m _ D o n A C).mono ?_;rintro e w1 ⟨v1,rfl,c,d⟩;rw[O.out]at c ⊢;dsimp only at c ⊢;obtain⟨AL,cL,rfl,lL,y,-⟩:=c.spss)
  have J:=An b d;let⟨G,B⟩:=gN L.length
  rw[B]at y h N lL g t ⊢;clear p0 p1 p2 p3 p4 p5 p6 k0 k1 k2 k3 k4 k5 S R o n c b d B;go_upto_region 6 with fail;go_loopw [8,10,22] (λv _ i wx=>∃k:Nat,k<=G/\i=.int .i64 k/\v=.int .i64 (I4 L k)/\Be w1 wx) λ_ _ i _=>G-(intOf i).toNat
  case atStart=>exact⟨0,Nat.zero_le _,rfl,rfl,bl0⟩
  obtain⟨k,K,rfl,rfl,j⟩:=hrel;by_cases l:k<G
  .obtain⟨bb,ob,Ak,ck,rfl,-,e1,e2,Q,-⟩:=(y.keep j).at_ l;have B1:(k:Int)<(G:Int):=by omega
   let⟨u1,u2⟩:=g.out k K;let⟨u3,u4⟩:=g.out (k+1) l;have f:=Ar (show I4 L (k+1)=I4 L k+Vh (lt_ L k) from rfl);rw[f.out]at u3 u4;have T:=t.out k l;have u:=Ar (O5 Ak ck (lt_ L k).length (lt_ L k) wr (by omega) e2 Q);let⟨P,z⟩:=gN (Vh (lt_ L k))
   let⟨Y,E⟩:=gN (I4 L k)
   rw[z]at u3 u4 f u;rw[E]at u1 u2 u3 u4 f ⊢;clear z E Q;have W1:IntKind.i64.wrap (Y+P)=Y+P:=by rw[IntKind.wrap_i64];omega
   go_wp2_with (go_at_call 29;refine u.out.mono ?_;rintro e w5 ⟨rfl,I⟩)
   exact⟨⟨k+1,by omega,by go_num,by rw[f.out],An j I⟩,by simp[intOf];omega⟩
  obtain rfl:G=k:=by omega
  go_wp2_with fail
  go_ret2
  rw[h.out];exact⟨rfl,An J j⟩
 rw[if_pos H]at h;have ad:(x != 0)=true:=by simpa using H
 clear H
 go_wp2_with (go_at_call 13;refine(O3 _ s _ m _ D o n A C).mono ?_;rintro e w1 ⟨v1,rfl,c,d⟩;rw[O.out];dsimp only)
 go_ret2
 rw[h.out];exact⟨rfl,An b d⟩
def Xb (U:List UseP):Nat->Int
 | 0=>0
 | k+1=>Xb U k+min (max (use U k).ct 0) 9
theorem uf (U:List UseP):∀k,0<=Xb U k/\Xb U k<=9*k
 | 0=>by simp[Xb]
 | k+1=>by
   have:=uf U k;rw[Xb];omega
def Ak4 (s:StyleP) (g:Int):Prop:=SmS s/\0<=g/\g<=7/\Xb s.us s.us.length*g<=6
def Ak3 (s:StyleP) (g:Int) (w:World) (e:Ending) (a:World):Prop:=∃b,e=.returned (.bool b)/\(b=true->Ak4 s g)/\Be w a
theorem Ak3.no{w:World} (c:Be w a):Ak3 f h w (.returned (.bool false)) a:=⟨false,rfl,λb=>(by cases b),c⟩
theorem kg(vs:Array Value) (s:StyleP) (g:Int) (w:World) (hv:StV w vs s) :
 Calls Tryz.prog 4 #[.agg vs,g] w (Ak3 s g w):=by
 obtain⟨A1,c1,A2,c2,A3,c3,A4,c4,A5,c5,A6,c6,rfl,⟨v1,v2,v3⟩,⟨v4,v5,v6⟩,⟨v7,v8,v9⟩,⟨U,e0,L⟩,⟨M,V,W⟩,N,Y⟩:=hv;go_in;go_upto_region 1 with fail;refine Bq λX a o=>?_
 have f:=v9.keep a;have l:=L.keep a;have b:=Ar λ(a1:s.pc.length<=4) (a2:s.us.length<=4) (a3:s.sz.length<=4) (a4:s.mu.length<=4) (a5:s.se.length<=6) (a6:s.no<=8) (a7:0<=g) (a8:g<=7) (a9:Xb s.us s.us.length*g<=6)=>show Ak4 s g from ⟨⟨a3,a4,a1,a2,a5,a6⟩,a7,a8,a9⟩;let⟨p0,p1,p2,p3,p4,p5,p6⟩:=st7 o;let⟨n1,D⟩:=gN s.sz.length
 let⟨n2,E⟩:=gN s.mu.length
 let⟨r,F⟩:=gN s.pc.length
 let⟨n4,G⟩:=gN s.us.length
 let⟨n5,H⟩:=gN s.se.length
 let⟨n6,I⟩:=gN s.no
 rw[D]at p1 b o v1;rw[E]at p2 b o v4;rw[F]at p3 b o v7 f;rw[G]at p4 b o U l;rw[H]at p5 b o M;rw[I]at p6 b o N;clear D E F G H I v3 v6 v9 L W;by_cases h1:(4:Int)<(r:Int)
 .go_wp2;go_ret;exact Ak3.no a
 by_cases h2:(4:Int)<(n4:Int)
 .go_wp2;go_ret;exact Ak3.no a
 by_cases h3:(4:Int)<(n1:Int)
 .go_wp2;go_ret;exact Ak3.no a
 by_cases h4:(4:Int)<(n2:Int)
 .go_wp2;go_ret;exact Ak3.no a
 by_cases h5:(6:Int)<(n5:Int)
 .go_wp2;go_ret;exact Ak3.no a
 by_cases h6:(8:Int)<(n6:Int)
 .go_wp2;go_ret;exact Ak3.no a
 by_cases h7:g<0
 .go_wp2;go_ret;exact Ak3.no a
 by_cases h8:7<g
 .go_wp2;go_ret;exact Ak3.no a
 have d:=Ar (b.out (by omega) (by omega) (by omega) (by omega) (by omega) (by omega) (by omega) (by omega));have q3:r<=4:=by omega
 have q4:n4<=4:=by omega
 have g0:0<=g:=by omega
 have g7:g<=7:=by omega
 go_upto_region 4 with fail;clear b h1 h2 h3 h4 h5 h6 h7 h8 p0 p1 p2 p5 p6 v1 v2 v4 v5 M V N Y;go_loopw [5] (λi O=>∃k:Nat,k<=r/\i=.int .i64 k/\O=X) λi _=>r-(intOf i).toNat
 case atStart=>exact⟨0,Nat.zero_le _,rfl,rfl⟩
 obtain⟨k,hk,rfl,rfl⟩:=hrel;by_cases p:k<r
 .obtain⟨bp,op,rfl,ee,⟨B1,d1,B2,d2,B3,d3,B4,d4,rfl,⟨e1,e2,R⟩,⟨e4,e5,-⟩,-⟩,S⟩:=f.at_ p;have Z:Cq wr bp (op+k*7+1) (.slice B1 (pce s.pc k).ed.length d1):=S 1 _ rfl;have y3:Cq wr bp (op+k*7+3) (.slice B2 (pce s.pc k).nt.length d2):=S 3 _ rfl;let⟨m,J⟩:=gN ((pce s.pc k).ed.length)
  let⟨nn,K⟩:=gN ((pce s.pc k).nt.length)
  let⟨ED,x⟩:=gN ((pce s.pc k).ed)
  rw[J]at Z e1 R;rw[K]at y3 e4;rw[x]at R;have P:(k:Int)<(r:Int):=by omega
  clear S J K x;go_upto_region 8 with fail;go_loopw [6,7] (λv i O=>∃(j:Nat) (z:Int),j<=m/\j<=17/\i=.int .i64 j/\v=.int .i64 z/\0<=z/\z<=20*j/\O=wr) λ_ i _=>m-(intOf i).toNat
  case atStart=>exact⟨0,0,Nat.zero_le _,by omega,rfl,rfl,by omega,by omega,rfl⟩
  obtain⟨j,z,hj,ar,rfl,rfl,z0,z1,rfl⟩:=hrel;by_cases B:j<m
  .by_cases cn:j<17
   .obtain⟨be,oe,rfl,hE⟩:=R.at_ B;obtain⟨-,Bl,dl,x1,x2,x3,-⟩:=hE j B;generalize T:(edg ED j).ln.length=ln at x1 x2;have t:(j:Int)<(m:Int):=by omega
    have Q:(j:Int)<17:=by omega
    have au:0<=min (ln:Int) 20/\min (ln:Int) 20<=20:=by omega
    clear T hE;go_wp2;exact⟨⟨j+1,z+min (ln:Int) 20,by omega,by omega,by go_num,rfl,by omega,by omega,trivial⟩,by simp[intOf];omega⟩
   have t:(j:Int)<(m:Int):=by omega
   have Q:¬(j:Int)<17:=by omega
   by_cases r1:(24:Int)<z
   .go_wp2;go_ret;exact Ak3.no a
   have r2:(16:Int)<(m:Int):=by omega
   go_wp2;go_ret;exact Ak3.no a
  have t:¬(j:Int)<(m:Int):=by omega
  by_cases r1:(24:Int)<z
  .go_wp2;go_ret;exact Ak3.no a
  by_cases r2:(16:Int)<(m:Int)
  .go_wp2;go_ret;exact Ak3.no a
  by_cases r3:(16:Int)<(nn:Int)
  .go_wp2;go_ret;exact Ak3.no a
  go_wp2;exact⟨⟨k+1,by omega,by go_num,trivial⟩,by simp[intOf];omega⟩
 obtain rfl:r=k:=by omega
 go_upto_region 15 with fail;go_loopw [8,9] (λv i O=>∃k:Nat,k<=n4/\i=.int .i64 k/\v=.int .i64 (Xb s.us k)/\O=wr) λ_ i _=>n4-(intOf i).toNat
 case atStart=>exact⟨0,Nat.zero_le _,rfl,rfl,rfl⟩
 obtain⟨k,hk,rfl,rfl,rfl⟩:=hrel;have y:=uf s.us k;by_cases p:k<n4
 .obtain⟨bu,ou,rfl,-,Z,-⟩:=l.at_ p;have q:=Ar (show Xb s.us (k+1)=Xb s.us k+min (max (use s.us k).ct 0) 9 from rfl);let⟨u,e⟩:=gN (Xb s.us k)
  let⟨ct,A⟩:=gN ((use s.us k).ct)
  rw[e]at q y ⊢;rw[A]at q Z;have P:(k:Int)<(n4:Int):=by omega
  clear e A;go_wp2;exact⟨⟨k+1,by omega,by go_num,by rw[q.out],trivial⟩,by simp[intOf];omega⟩
 obtain rfl:n4=k:=by omega
 have C:=Ar (d.out);generalize e:Xb s.us n4=u at d y ⊢;have cw:0<=u*g/\u*g<=36*7:=⟨Int.mul_nonneg (by omega) g0,Int.mul_le_mul (by omega) g7 g0 (by omega)⟩;have W1:IntKind.i64.wrap (u*g)=u*g:=by rw[IntKind.wrap_i64];omega
 clear e C;go_wp2;go_ret;exact⟨_,rfl,λh=>d.out (by simpa using h),a⟩
theorem Uy {U:List UseP} {n:Nat} (h:∀i,i<n->(use U i).ct<=4):∀k,k<=n->((Fi U k).length:Int)=Xb U k
 | 0,_=>by simp[Fi,Xb]
 | k+1,hk=>by
   have:=Uy h k (by omega);have:=h k (by omega);rw[Fi,List.length_append,List.length_map,List.length_range,Xb];omega
theorem Al2{Z:List Int} (h:Ak4 f Z.length) (c:(Bc f Z).1=0):(Bc f Z).2.1.length<20:=by
 obtain⟨e,b,-,-,-,-,-⟩:=Kz c;obtain⟨-,o,-,m⟩:=Kw b;have d:=Uy (U:=f.us) (n:=f.us.length) (λi l=>(m i l).2.2.2) f.us.length (Nat.le_refl _);have a:=h.2.2.2;rw[<-d]at a;have g:=Lp f Z (Kq f) Z.length;have j:(Kq f).length=(Fi f.us f.us.length).length:=by unfold Kq;rw[if_neg (by rw[b];simp)]
 rw[e,g,j]
 have k:(Fi f.us f.us.length).length*Z.length<=6:=by
  have:(((Fi f.us f.us.length).length*Z.length:Nat):Int)<=6:=by rw[Int.natCast_mul];exact a
  omega
 rw[Nat.mul_comm]at k;omega
theorem kr {s:StyleP} {z j:Int} {C:List PlcP} {a:Int×List Shp×List PlcP} (d:a.1≠0->a.2=([],[])):∀k,(Hi s z j C a k).1≠0->(Hi s z j C a k).2=([],[])
 | 0,h=>d h
 | k+1,h=>by
   rw[Hi]at h ⊢;by_cases b:(Hi s z j C a k).1≠0
   .rw[if_pos b];exact kr d k b
   rw[if_neg b]at h ⊢;by_cases c:(Fq s z (plc C k)).2≠0
   .rw[if_pos c]
   rw[if_neg c]at h;exact absurd rfl h
theorem Vz {s:StyleP} {Z:List Int} {C:List PlcP}:∀j,(Hc s Z C j).1≠0->(Hc s Z C j).2=([],[])
 | 0,h=>absurd rfl h
 | j+1,h=>by
   rw[Hc]at h ⊢;by_cases a:(Hc s Z C j).1≠0
   .rw[if_pos a];exact Vz j a
   rw[if_neg a]at h ⊢;exact kr (Vz j) _ h
theorem kq{Z:List Int} (h:(Bc f Z).1≠0):(Bc f Z).2=([],[]):=by
 unfold Bc at h ⊢;split
 .rfl
 rw[if_neg (by assumption)]at h;split
 .rfl
 rw[if_neg (by assumption)]at h;split
 .rfl
 rw[if_neg (by assumption)]at h;split
 .rfl
 rw[if_neg (by assumption)]at h;exact Vz _ h
theorem qj(aw:∀w:World,Calls Tryz.prog 5 #[] w (Bz w (.bool true))) (l:Array Value) (s:StyleP) (A:Option Addr) (n c:Nat) (Z:List Int) (w:World) (hv:StV w l s) (hn:n<=c) (P:c<=9223372036854775807) (hZ:InS w A n Z) :
 Calls Tryz.prog 3 #[.agg l,.slice A n c] w (Bz w (.bool true)):=by
 have HA:=Ar aw;have HZ:=Ar hZ.1;obtain⟨A1,c1,A2,c2,A3,c3,A4,c4,A5,c5,A6,c6,rfl,-⟩:=id hv
 have o:Ak4 s n->(Bc s Z).2.1.length<=60/\(Bc s Z).2.2.length<=60:=by
  intro h;by_cases h0:(Bc s Z).1=0
  .have h1:=Al2 (Z:=Z) (by rw[hZ.1];exact h) h0;have h2:=(X5 (S:=(Bc s Z).2.1) (C:=(Bc s Z).2.2) (by rw[<-h0])).1;omega
  rw[kq h0];exact⟨Nat.zero_le _,Nat.zero_le _⟩
 have o:=Ar o;go_enter Tryz.func3,Tryz.ntmps3;go_upto_region 1 with fail;refine Bq λX B hP=>?_
 let⟨p0,p1,p2,p3,p4,p5,p6⟩:=st7 hP;have a6:=hv.keep B;go_cut [20] (λv wx=>∃ok:Bool,v=.bool (!ok)/\(ok=true->Ak4 s n)/\Be X wx)
 case first =>
  by_cases h1:7<n
  .go_wp2_with fail
   go_meet;exact⟨false,rfl,λh=>(by cases h),bl0⟩
  go_wp2_with (go_at_call 4;refine(kg _ s n _ a6).mono ?_;rintro e w1 ⟨ok,rfl,i,a⟩)
  go_meet;exact⟨ok,congrArg Value.bool (by rw[decide_eq_false (by omega)];rfl),i,a⟩
 obtain⟨ok,rfl,i,D⟩:=hcut;have t:=hP.keep D;have b:=An B D;have E:=hv.keep b;have y:=hZ.keep b;let⟨q0,q1,q2,q3,q4,q5,q6⟩:=st7 t;clear hP a6 p0 p1 p2 p3 p4 p5 p6;cases ok with
 | false =>
   go_wp2_with (go_at_call 5;refine rR (HA.out _) λw9 z=>?_)
   go_ret;exact⟨rfl,An b z⟩
 | true =>
   have k:=i rfl;have Y:=k.1;let⟨l1,l2⟩:=o.out k;let⟨R,hR⟩:=gN (Bc s Z)
   obtain⟨x,S,C⟩:=R;rw[hR]at l1 l2;dsimp only at l1 l2;let⟨nS,T⟩:=gN S.length
   let⟨nC,Q⟩:=gN C.length
   have HS:=Ar λ(W:World) (l:Array Value) (h:StV W l s) (g:InS W A n Z)=>Gr l s A n c Z W hn P g Y h;have HR:=Ar λ(W:World) (l:Array Value) (h:StV W l s) (g:InS W A n Z)=>Ae9 l s A n c Z W hn P g Y h;rw[hR]at HS HR;clear hR i HZ hv hZ B D
   go_upto_region 4 with (go_at_call 6;refine(HS.out _ _ E y).mono ?_;rintro e w1 ⟨v1,v2,rfl,V,U,a⟩)
   obtain⟨AS,cS,rfl,-,-,u⟩:=V.shs (by omega);obtain⟨AP,cP,rfl,-,-,p⟩:=U.pls;rw[T]at u ⊢;rw[Q]at p ⊢;have J:=t.keep a;have a1:=E.keep a;have M:=y.keep a;have j:=An b a;clear q0 q1 q2 q3 q4 q5 q6 V U t E y b a;let⟨q0,q1,q2,q3,q4,q5,q6⟩:=st7 J
   go_upto_region 5 with (go_at_call 7;refine(HR.out _ _ a1 M).mono ?_;rintro e w2 ⟨u1,u2,rfl,I,H,d⟩)
   obtain⟨BS,dS,rfl,-,-,G⟩:=I.shs (by omega);obtain⟨BP,dP,rfl,-,-,F⟩:=H.pls;rw[T]at G ⊢;rw[Q]at F ⊢;have L:=u.keep d;have K:=p.keep d;have O:=An j d;clear q0 q1 q2 q3 q4 q5 q6 I H J a1 M j d u p;have q:(x == x)=true:=by simp
   go_wp2_with (first
    | (go_at_call 5;have hz:=N;refine rR (HA.out _) λw9 z=>?_)
    | (go_at_call 9;have hz:=f;refine rR (Ajj AP BP cP dP nC C _ (by omega) (K.keep f) (F.keep f)) λw4 N=>?_)
    | (go_at_call 8;refine rR (Aiu AS BS cS dS nS S _ L G) λw3 f=>?_))
   all_goals go_ret
   all_goals exact⟨rfl,An (An (An O f) N) z⟩
def yo:List EdgeP:=[⟨⟨#[108,111,119]⟩,[(0,0),(10,0)]⟩,⟨⟨#[114,105,103,104,116]⟩,[(10,0),(10,10)]⟩,⟨⟨#[104,105,103,104]⟩,[(10,10),(0,10)]⟩,⟨⟨#[108,101,102,116]⟩,[(0,10),(0,0)]⟩]
theorem Eb(X:World) (o:Obj):(X.alloc o).heap.size=X.heap.size+1:=by simp
theorem bk0(X:World) (t:TypeId) (e:Array Value) (a b c d:Obj):Bf (((((X.alloc (.cells e t)).alloc a).alloc b).alloc c).alloc d).drew X.heap.size t e :=
 ((((((Bf.new X t e).alloc a).alloc b).alloc c).alloc d).keep blD)
theorem bk1(X:World) (t:TypeId) (e:Array Value) (a b c d:Obj):Bf (((((X.alloc a).alloc (.cells e t)).alloc b).alloc c).alloc d).drew (X.heap.size+1) t e:=by
 rw[<-Eb X a];exact(((((Bf.new _ t e).alloc b).alloc c).alloc d).keep blD)
theorem bk2(X:World) (t:TypeId) (e:Array Value) (a b c d:Obj):Bf (((((X.alloc a).alloc b).alloc (.cells e t)).alloc c).alloc d).drew (X.heap.size+1+1) t e:=by
 rw[<-Eb X a,<-Eb _ b];exact((((Bf.new _ t e).alloc c).alloc d).keep blD)
theorem bk3(X:World) (t:TypeId) (e:Array Value) (a b c d:Obj):Bf (((((X.alloc a).alloc b).alloc c).alloc (.cells e t)).alloc d).drew (X.heap.size+1+1+1) t e:=by
 rw[<-Eb X a,<-Eb _ b,<-Eb _ c];exact(((Bf.new _ t e).alloc d).keep blD)
theorem bk4(X:World) (t:TypeId) (e:Array Value) (a b c d:Obj):Bf (((((X.alloc a).alloc b).alloc c).alloc d).alloc (.cells e t)).drew (X.heap.size+1+1+1+1) t e:=by
 rw[<-Eb X a,<-Eb _ b,<-Eb _ c,<-Eb _ d];exact((Bf.new _ t e).keep blD)
theorem Ve{W:World}    (c:∀k,b<=k->k<W.heap.size->a.heap[k]? = W.heap[k]?) (d:b<=i) (h:Bf W i g e):Bf a i g e:=(c i d (D9 h)).trans h
theorem Nr{W:World}  {a c d:Int} (j:Bf W b 60 #[h,a,c,d]):SpS W (some ⟨b,0,none⟩) 2 [(h,a),(c,d)]:=by
 obtain⟨e,f,g,i,-⟩:=j.cells4;refine⟨rfl,.inr ⟨b,0,rfl,λk l=>?_⟩⟩
 match k,l with
 | 0,_=>exact⟨e,f⟩
 | 1,_=>exact⟨g,i⟩
theorem Akt{W:World} {c d g:Nat} (e:Bf W b 60 #[.int .i64 0,.int .i64 0,.int .i64 10,.int .i64 0]) (f:Bf W i 60 #[.int .i64 10,.int .i64 0,.int .i64 10,.int .i64 10]) (h:Bf W c 60 #[.int .i64 10,.int .i64 10,.int .i64 0,.int .i64 10]) (j:Bf W d 60 #[.int .i64 0,.int .i64 10,.int .i64 0,.int .i64 0])
 (a:Bf W g 50 #[.string ⟨#[108,111,119]⟩,.slice (some ⟨b,0,none⟩) 2 2,.string ⟨#[114,105,103,104,116]⟩,.slice (some ⟨i,0,none⟩) 2 2,.string ⟨#[104,105,103,104]⟩,.slice (some ⟨c,0,none⟩) 2 2,.string ⟨#[108,101,102,116]⟩,.slice (some ⟨d,0,none⟩) 2 2]):EdS W (some ⟨g,0,none⟩) 4 yo:=by
 refine⟨rfl,.inr ⟨g,0,rfl,λk l=>?_⟩⟩
 match k,l with
 | 0,_=>exact⟨(a.cell 0).trans rfl,_,2,(a.cell 1).trans rfl,Nat.le_refl _,by omega,Nr e⟩
 | 1,_=>exact⟨(a.cell 2).trans rfl,_,2,(a.cell 3).trans rfl,Nat.le_refl _,by omega,Nr f⟩
 | 2,_=>exact⟨(a.cell 4).trans rfl,_,2,(a.cell 5).trans rfl,Nat.le_refl _,by omega,Nr h⟩
 | 3,_=>exact⟨(a.cell 6).trans rfl,_,2,(a.cell 7).trans rfl,Nat.le_refl _,by omega,Nr j⟩
theorem kn(w:World) :
 Calls Tryz.prog 26 #[.int .i64 10,.int .i64 10] w λe i=>∃A,e=.returned (.slice A 4 4)/\(∀a:World,(∀k,w.heap.size<=k->k<i.heap.size->a.heap[k]? = i.heap[k]?)->EdS a A 4 yo)/\Be w i:=by
 go_enter Tryz.func26,Tryz.ntmps26;go_upto_region 2 with fail;refine Bq λX d f=>?_
 have b:∀a,Be X a->Cq a w.heap.size 0 (.int .i64 0)/\Cq a w.heap.size 1 (.int .i64 0)/\Cq a w.heap.size 2 (.int .i64 10)/\Cq a w.heap.size 3 (.int .i64 0)/\Cq a w.heap.size 4 (.int .i64 10)/\Cq a w.heap.size 5 (.int .i64 10)/\Cq a w.heap.size 6 (.int .i64 0)/\Cq a w.heap.size 7 (.int .i64 10):=λa j=>by
  have h:=f.keep j;exact⟨(h.cell 0).trans rfl,(h.cell 1).trans rfl,(h.cell 2).trans rfl,(h.cell 3).trans rfl,(h.cell 4).trans rfl,(h.cell 5).trans rfl,(h.cell 6).trans rfl,(h.cell 7).trans rfl⟩
 have g:=f;clear f
 go_region_held3 (λa=>Cq a w.heap.size 0 (.int .i64 0)/\Cq a w.heap.size 1 (.int .i64 0)/\Cq a w.heap.size 2 (.int .i64 10)/\Cq a w.heap.size 3 (.int .i64 0)/\Cq a w.heap.size 4 (.int .i64 10)/\Cq a w.heap.size 5 (.int .i64 10)/\Cq a w.heap.size 6 (.int .i64 0)/\Cq a w.heap.size 7 (.int .i64 10))
  (first
   | with_reducible exact b _ blD
   | with_reducible exact b _ bl0
   | with_reducible exact b _ (Aw blA)
   | with_reducible exact b _ blA
   | with_reducible exact b _ (Aw (Ao blA _))
   | with_reducible exact b _ (Ao blA _)
   | with_reducible exact b _ (Aw (Ao (Ao blA _) _))
   | with_reducible exact b _ (Ao (Ao blA _) _)
   | with_reducible exact b _ (Aw (Ao (Ao (Ao blA _) _) _))
   | with_reducible exact b _ (Ao (Ao (Ao blA _) _) _)
   | with_reducible exact b _ (Aw (Ao (Ao (Ao (Ao blA _) _) _) _))
   | with_reducible exact b _ (Ao (Ao (Ao (Ao blA _) _) _) _))
  ((first|fail))
 all_goals go_wp2_with fail
 all_goals go_ret
 all_goals
  refine⟨_,rfl,λa c=>Akt (Ve c ?_ ?_) (Ve c ?_ ?_) (Ve c ?_ ?_) (Ve c ?_ ?_) (Ve c ?_ (bk4 _ _ _ _ _ _ _)),An d (Aw (Ao (Ao (Ao (Ao blA _) _) _) _))⟩
  all_goals first
   | with_reducible exact bk0 _ _ _ _ _ _ _
   | with_reducible exact bk1 _ _ _ _ _ _ _
   | with_reducible exact bk2 _ _ _ _ _ _ _
   | with_reducible exact bk3 _ _ _ _ _ _ _
   | (clear b g;have:=d.size;omega)
def Akf:PieceP:=⟨⟨#[102,114,111,110,116]⟩,yo,1,[],[(0,0),(1,0),(1,0),(0,0)],[0,0,0,0],false⟩
def Lc:StyleP:=⟨⟨#[115,104,105,114,116]⟩,[⟨#[83]⟩,⟨#[77]⟩],[0,2],[Akf],[⟨0,2,true⟩],[],0⟩
theorem zu:SmS Lc:=⟨by decide,by decide,by decide,by decide,by decide,by decide⟩
theorem Zz(W:World)  (a:b=W.heap.size)  :Bf (W.alloc (.cells e g)) b g e:=by rw[a];exact Bf.new W g e
theorem Aho{W:World}    (H:Bf W b g e) (a:b≠i) (u0 u1 u2 u3 u4 u5 u6:Value):Bf (((((((W.setCell ⟨i,0,none⟩ u0).setCell ⟨i,1,none⟩ u1).setCell ⟨i,2,none⟩ u2).setCell ⟨i,3,none⟩ u3).setCell ⟨i,4,none⟩ u4).setCell ⟨i,5,none⟩ u5).setCell ⟨i,6,none⟩ u6) b g e:=(Bf.far (Bf.far (Bf.far (Bf.far (Bf.far (Bf.far (Bf.far H (p:=⟨i,0,none⟩) a u0) (p:=⟨i,1,none⟩) a u1) (p:=⟨i,2,none⟩) a u2) (p:=⟨i,3,none⟩) a u3) (p:=⟨i,4,none⟩) a u4) (p:=⟨i,5,none⟩) a u5) (p:=⟨i,6,none⟩) a u6)
theorem Aox{W:World}  (d:Below b a W) (c:b<=i) (u0 u1 u2 u3 u4 u5 u6:Value):Below b a (((((((W.setCell ⟨i,0,none⟩ u0).setCell ⟨i,1,none⟩ u1).setCell ⟨i,2,none⟩ u2).setCell ⟨i,3,none⟩ u3).setCell ⟨i,4,none⟩ u4).setCell ⟨i,5,none⟩ u5).setCell ⟨i,6,none⟩ u6) :=
 Below.setCell (Below.setCell (Below.setCell (Below.setCell (Below.setCell (Below.setCell (Below.setCell d c _) c _) c _) c _) c _) c _) c _
theorem Akc{W:World}  (a:i≠b) (u0 u1 u2 u3 u4 u5 u6:Value):(((((((W.setCell ⟨b,0,none⟩ u0).setCell ⟨b,1,none⟩ u1).setCell ⟨b,2,none⟩ u2).setCell ⟨b,3,none⟩ u3).setCell ⟨b,4,none⟩ u4).setCell ⟨b,5,none⟩ u5).setCell ⟨b,6,none⟩ u6).heap[i]? = W.heap[i]? :=
 (Dv _ _ _ _ a).trans ((Dv _ _ _ _ a).trans ((Dv _ _ _ _ a).trans ((Dv _ _ _ _ a).trans ((Dv _ _ _ _ a).trans ((Dv _ _ _ _ a).trans (Dv _ _ _ _ a))))))
def Afi (A:Option Addr) (B:Nat):Array Value:=#[.string ⟨#[115,104,105,114,116]⟩,.slice (some ⟨B+1+1+1,0,none⟩) 2 2,.slice (some ⟨B+1+1+1+1,0,none⟩) 2 2,.slice (some ⟨B+1+1+1+1+1,0,none⟩) 1 1,.slice (some ⟨B+1+1+1+1+1+1,0,none⟩) 1 1,.slice none 0 0,.slice none 0 0]
theorem zr{F:World} {A:Option Addr}  (m:EdS F A 4 yo) (c:Bf F b 60 #[.int .i64 0,.int .i64 0,.int .i64 1,.int .i64 0,.int .i64 1,.int .i64 0,.int .i64 0,.int .i64 0]) (d:Bf F (b+1) 3 #[.int .i64 0,.int .i64 0,.int .i64 0,.int .i64 0])
 (h:Bf F (b+1+1+1) 9 #[.string ⟨#[83]⟩,.string ⟨#[77]⟩]) (i:Bf F (b+1+1+1+1) 3 #[.int .i64 0,.int .i64 2])
 (l:Bf F (b+1+1+1+1+1) 48 #[.string ⟨#[102,114,111,110,116]⟩,.slice A 4 4,.int .i64 1,.slice none 0 0,.slice (some ⟨b,0,none⟩) 4 4,.slice (some ⟨b+1,0,none⟩) 4 4,.bool false]) (e:Bf F (b+1+1+1+1+1+1) 52 #[.int .i64 0,.int .i64 2,.bool true]) :
 StV F (Afi A b) Lc:=by
 have g:SpS F (some ⟨b,0,none⟩) 4 [(0,0),(1,0),(1,0),(0,0)]:=by
  refine⟨rfl,.inr ⟨b,0,rfl,λk a=>?_⟩⟩
  match k,a with
  | 0,_=>exact⟨(c.cell 0).trans rfl,(c.cell 1).trans rfl⟩
  | 1,_=>exact⟨(c.cell 2).trans rfl,(c.cell 3).trans rfl⟩
  | 2,_=>exact⟨(c.cell 4).trans rfl,(c.cell 5).trans rfl⟩
  | 3,_=>exact⟨(c.cell 6).trans rfl,(c.cell 7).trans rfl⟩
 have f:InS F (some ⟨b+1,0,none⟩) 4 [0,0,0,0]:=by
  refine⟨rfl,.inr ⟨b+1,0,rfl,λk a=>?_⟩⟩
  match k,a with
  | 0,_=>exact(d.cell 0).trans rfl
  | 1,_=>exact(d.cell 1).trans rfl
  | 2,_=>exact(d.cell 2).trans rfl
  | 3,_=>exact(d.cell 3).trans rfl
 refine⟨_,2,_,2,_,1,_,1,none,0,none,0,rfl,⟨Nat.le_refl _,by omega,rfl,.inr ⟨_,0,rfl,λk a=>?_⟩⟩,⟨Nat.le_refl _,by omega,rfl,.inr ⟨_,0,rfl,λk a=>?_⟩⟩,⟨Nat.le_refl _,by omega,rfl,.inr ⟨_,0,rfl,λk a=>?_⟩⟩,⟨Nat.le_refl _,by omega,rfl,.inr ⟨_,0,rfl,λk a=>?_⟩⟩,⟨Nat.le_refl _,by omega,rfl,.inl rfl⟩,Nat.le_refl _,by omega⟩
 .match k,a with
  | 0,_=>exact⟨(h.cell 0).trans rfl,by decide⟩
  | 1,_=>exact⟨(h.cell 1).trans rfl,by decide⟩
 .match k,a with
  | 0,_=>exact(i.cell 0).trans rfl
  | 1,_=>exact(i.cell 1).trans rfl
 .match k,a with
  | 0,_ =>
    refine⟨_,⟨A,4,none,0,some ⟨b,0,none⟩,4,some ⟨b+1,0,none⟩,4,rfl,⟨Nat.le_refl _,by omega,m⟩,⟨Nat.le_refl _,by omega,rfl,.inl rfl⟩,⟨Nat.le_refl _,by omega,g⟩,Nat.le_refl _,by omega,f⟩,λj u n=>?_⟩;rw[show 0+0*7+j=j by omega];exact(l.cell j).trans n
 match k,a with
 | 0,_=>exact⟨(e.cell 0).trans rfl,(e.cell 1).trans rfl,(e.cell 2).trans rfl⟩
theorem zt(w:World) :
 Calls Tryz.prog 10 #[] w λe s=>∃r,e=.returned (.agg r)/\StV s r Lc/\Be w s:=by
 go_in
 go_upto_region 2 with (go_at_call 26;refine(kn _).mono ?_;rintro e o ⟨A,rfl,T,h⟩)
 let⟨B,p⟩:=gN o.heap.size
 refine Cj (λY=>Be o Y/\Bf Y B 60 #[.int .i64 0,.int .i64 0,.int .i64 1,.int .i64 0,.int .i64 1,.int .i64 0,.int .i64 0,.int .i64 0]/\Bf Y (B+1) 3 #[.int .i64 0,.int .i64 0,.int .i64 0,.int .i64 0]/\Bf Y (B+1+1) 48 #[.string ⟨#[102,114,111,110,116]⟩,.slice A 4 4,.int .i64 1,.slice none 0 0,.slice (some ⟨B,0,none⟩) 4 4,.slice (some ⟨B+1,0,none⟩) 4 4,.bool false]/\Y.heap.size=B+1+1+1) (by
  subst p;refine⟨Ao (Ao blA _) _,((Bf.new _ _ _).alloc _).alloc _,(Bf.new2 _ _ _ _).alloc _,?_,by simp⟩;rw[<-Eb o (.cells #[.int .i64 0,.int .i64 0,.int .i64 1,.int .i64 0,.int .i64 1,.int .i64 0,.int .i64 0,.int .i64 0] 60)];exact Bf.new2 _ _ _ _) ?_
 rintro Y ⟨i,S,U,j,m⟩;let⟨c0,t,u,x,y,z,C⟩:=st7 j;have l:Bf Y w.heap.size 29 #[.string ⟨#[]⟩,.slice none 0 0,.slice none 0 0,.slice none 0 0,.slice none 0 0,.slice none 0 0,.slice none 0 0]:=((Bf.new w _ _).keep h).keep i;have c:=λa b d f=>(((l.alloc a).alloc b).alloc d).alloc f
 have g:=λa b=>(j.alloc a).alloc b
 have W:=λa b d f=>(st7 (c a b d f)).1
 have K:=λa b d f=>(c a b d f).frozen 0
 have D:=λa b=>(st7 (g a b)).1
 have X:=λa b d f=>(st7 (c a b d f)).2.1
 have L:=λa b d f=>(c a b d f).frozen 1
 have E:=λa b=>(st7 (g a b)).2.1
 have Z:=λa b d f=>(st7 (c a b d f)).2.2.1
 have M:=λa b d f=>(c a b d f).frozen 2
 have F:=λa b=>(st7 (g a b)).2.2.1
 have r3:=λa b d f=>(st7 (c a b d f)).2.2.2.1
 have N:=λa b d f=>(c a b d f).frozen 3
 have G:=λa b=>(st7 (g a b)).2.2.2.1
 have r4:=λa b d f=>(st7 (c a b d f)).2.2.2.2.1
 have O:=λa b d f=>(c a b d f).frozen 4
 have H:=λa b=>(st7 (g a b)).2.2.2.2.1
 have r5:=λa b d f=>(st7 (c a b d f)).2.2.2.2.2.1
 have P:=λa b d f=>(c a b d f).frozen 5
 have I:=λa b=>(st7 (g a b)).2.2.2.2.2.1
 have r6:=λa b d f=>(st7 (c a b d f)).2.2.2.2.2.2
 have Q:=λa b d f=>(c a b d f).frozen 6
 have J:=λa b=>(st7 (g a b)).2.2.2.2.2.2
 have q:=m;rw[p];go_wp2;clear W X Z r3 r4 r5 r6 K L M N O P Q D E F G H I J c0 t u x y z C;let⟨s0,s1,s2,s3,s4,s5,s6⟩:=st7 ((((((((c (.cells #[.string ⟨#[83]⟩,.string ⟨#[77]⟩] 9) (.cells #[.int .i64 0,.int .i64 2] 3) (.cells #[.string ⟨#[102,114,111,110,116]⟩,.slice A 4 4,.int .i64 1,.slice none 0 0,.slice (some ⟨B,0,none⟩) 4 4,.slice (some ⟨B+1,0,none⟩) 4 4,.bool false] 48) (.cells #[.int .i64 0,.int .i64 2,.bool true] 52)).set_ 0 (.string ⟨#[115,104,105,114,116]⟩)).set_ 1 (.slice (some ⟨B+1+1+1,0,none⟩) 2 2)).set_ 2 (.slice (some ⟨B+1+1+1+1,0,none⟩) 2 2)).set_ 3 (.slice (some ⟨B+1+1+1+1+1,0,none⟩) 1 1)).set_ 4 (.slice (some ⟨B+1+1+1+1+1+1,0,none⟩) 1 1)).set_ 5 (.slice none 0 0)).set_ 6 (.slice none 0 0));refine bodyPost_ret (v:=.agg (Afi A B)) (by simp[results,Tryz.results10,go_sem,s0,s1,s2,s3,s4,s5,s6,Afi]) rfl ?_;have R:w.heap.size<B:=by have:=h.size;rw[Eb]at this;omega
 refine⟨_,rfl,zr (T _ λk V n=>?_) (Aho ((((S.alloc _).alloc _).alloc _).alloc _) (by omega) _ _ _ _ _ _ _) (Aho ((((U.alloc _).alloc _).alloc _).alloc _) (by omega) _ _ _ _ _ _ _) (Aho ((((Zz _ (by omega)).alloc _).alloc _).alloc _) (by omega) _ _ _ _ _ _ _) (Aho (((Zz _ (by simp;omega)).alloc _).alloc _) (by omega) _ _ _ _ _ _ _) (Aho ((Zz _ (by simp;omega)).alloc _) (by omega) _ _ _ _ _ _ _) (Aho (Zz _ (by simp;omega)) (by omega) _ _ _ _ _ _ _),Aox (Ao (Ao (Ao (Ao (An (An blA h) i) _) _) _) _) (Nat.le_refl _) _ _ _ _ _ _ _⟩;rw[Eb]at V;exact(Akc (by omega) _ _ _ _ _ _ _).trans ((Ao (Ao (Ao (Ao i _) _) _) _).block k n)
instance:DecidableEq PlcP:=fun a b=>decidable_of_iff (a.ga=b.ga/\a.us=b.us/\a.cp=b.cp/\a.fl=b.fl/\a.qu=b.qu/\a.x=b.x/\a.y=b.y) (by cases a;cases b;simp)
instance:DecidableEq Shp:=fun a b=>decidable_of_iff (a.poly=b.poly/\a.grain=b.grain/\a.mat=b.mat/\a.anc=b.anc) (by cases a;cases b;simp)
def Vo:Bed4:=⟨100,20,0,0⟩
def rcA (w:Int):LP:=[(0,0),(w,0),(w,10),(0,10)]
def rcB (w:Int):LP:=[(0,10),(-w,10),(-w,0),(0,0)]
def shA (w:Int):List Shp:=[⟨rcA w,1,false,(0,0)⟩,⟨rcB w,1,false,(0,0)⟩]
def cpA:List PlcP:=[⟨0,0,0,false,0,0,0⟩,⟨0,0,1,true,0,0,0⟩]
def pA0:Pt5:=⟨0,false,0,0,0⟩
def mkA (w z:Int):MkP:=⟨w,20,0,0,[z],[⟨0,0,0,false,0,0,0⟩,⟨0,0,1,true,0,w,10⟩]⟩
theorem Ako:Bc Lc [0]=(0,shA 10,cpA):=Prod.ext (by decide +kernel) (Prod.ext (by decide +kernel) (by decide +kernel))
theorem Akn:Bc Lc [1]=(0,shA 12,cpA):=Prod.ext (by decide +kernel) (Prod.ext (by decide +kernel) (by decide +kernel))
theorem Akm:Bc Lc []=(3,[],[]):=Prod.ext (by decide +kernel) (Prod.ext (by decide +kernel) (by decide +kernel))
theorem Ap3:No (shA 10)=[0,1]:=by decide +kernel
theorem Ap2:No (shA 12)=[0,1]:=by decide +kernel
theorem Am7:Gj Vo (shA 10) [] 0=(0,pA0):=by rw[Nk];decide +kernel
theorem Am6:Gj Vo (shA 10) [pA0] 1=(0,⟨1,false,0,10,10⟩):=by rw[Nk];decide +kernel
theorem Am5:Gj Vo (shA 12) [] 0=(0,pA0):=by rw[Nk];decide +kernel
theorem Am4:Gj Vo (shA 12) [pA0] 1=(0,⟨1,false,0,12,10⟩):=by rw[Nk];decide +kernel
theorem Ap1:Jz Vo (shA 10) [0,1]=(0,[pA0,⟨1,false,0,10,10⟩]):=by
 have a:Cp Vo (shA 10) [0,1] 1=(0,[pA0]):=by simp[Cp,gi,Am7]
 have b:Cp Vo (shA 10) [0,1] 2=(0,[pA0,⟨1,false,0,10,10⟩]):=by rw[Cp,a];simp[gi,Am6]
 unfold Jz;rw[if_neg (by simp)];exact b
theorem Ap0:Jz Vo (shA 12) [0,1]=(0,[pA0,⟨1,false,0,12,10⟩]):=by
 have a:Cp Vo (shA 12) [0,1] 1=(0,[pA0]):=by simp[Cp,gi,Am5]
 have b:Cp Vo (shA 12) [0,1] 2=(0,[pA0,⟨1,false,0,12,10⟩]):=by rw[Cp,a];simp[gi,Am4]
 unfold Jz;rw[if_neg (by simp)];exact b
theorem Ap5:Vn (shA 10) [pA0,⟨1,false,0,10,10⟩]=(0,10):=by decide +kernel
theorem Ap4:Vn (shA 12) [pA0,⟨1,false,0,12,10⟩]=(0,12):=by decide +kernel
theorem Ap8:Hg Lc Vo [0]=(0,mkA 10 0):=by
 unfold Hg;rw[Ako];dsimp only;rw[Ap3,Ap1];dsimp only;rw[Ap5];rfl
theorem Ap7:Hg Lc Vo [1]=(0,mkA 12 1):=by
 unfold Hg;rw[Akn];dsimp only;rw[Ap2,Ap0];dsimp only;rw[Ap4];rfl
theorem Ap6:Hg Lc Vo []=(3,Qa):=by
 unfold Hg;rw[Akm];rfl
theorem Akl:xo Lc (mkA 10 0)=(400,0):=by decide +kernel
theorem Am8:(J6 Lc (mkA 10 0)).1=0:=by decide +kernel
theorem Akp:∃L,J1 Lc (mkA 10 0)=(0,L)/\L.length=2:=⟨(J1 Lc (mkA 10 0)).2,Prod.ext (by decide +kernel) rfl,by decide +kernel⟩
theorem Ame(m:MkP) (w z:Int) (h:m=mkA w z):∀p∈m.pl,okC (kt p):=by
 subst h;intro p a;simp[mkA]at a;rcases a with rfl|rfl<;>(unfold okC kt inR;dsimp only;omega)
theorem in1(w:World) (z:Int):InS (w.alloc (.cells #[z] 3)) (some ⟨w.heap.size,0,none⟩) 1 [z] :=
 ⟨rfl,.inr ⟨_,0,rfl,λk a=>by (obtain rfl:k=0:=by omega);exact((Bf.new w _ _).cell 0).trans rfl⟩⟩
theorem ve(w:World) :
 Calls Tryz.prog 5 #[] w (Bz w (.bool true)):=by
 let⟨s,hs⟩:∃s,s=Lc:=⟨_,rfl⟩
 have d:SmS s:=by rw[hs];exact zu
 have b6:=Ar zt;have S:=Ar Ako;have b8:=Ar Akm;have b7:=Ar Akn;have P:=Ar Ap8;have Q:=Ar Ap7;have b5:=Ar Ap6;have HU:=Ar Akl;have O:=Ar Am8;have R:=Ar Akp;rw[<-hs]at b6 S b8 b7 P Q b5 HU O R;clear hs;let⟨m,hm⟩:∃m,m=mkA 10 0:=⟨_,rfl⟩
 let⟨m1,au⟩:∃m,m=mkA 12 1:=⟨_,rfl⟩
 have ca:=Ame m 10 0 hm;have c7:m.len=10:=by rw[hm];rfl
 have c9:m.pl.length=2:=by rw[hm];rfl
 have M:m1.len=12:=by rw[au];rfl
 rw[<-hm]at P HU O R;rw[<-au]at Q;clear hm au;have n:=Ar ca;have o:=Ar (show m.pl.length<=1000 by omega);have b9:=Ar (show (Bc s [0]).1=0->(Bc s [0]).2.1.length<20 by rw[S.out];intro _;decide);have ba:=Ar (show (Bc s [1]).1=0->(Bc s [1]).2.1.length<20 by rw[b7.out];intro _;decide);have bb:=Ar (show (Bc s []).1=0->(Bc s []).2.1.length<20 by rw[b8.out];intro h;cases h);clear ca;go_enter Tryz.func5,Tryz.ntmps5
 go_upto_region 2 with (go_at_call 10;refine(b6.out _).mono ?_;rintro e w1 ⟨vs,rfl,hS,bq⟩;obtain⟨A1,c1,A2,c2,A3,c3,A4,c4,A5,c5,A6,c6,rfl,-⟩:=id hS)
 refine Bq λX ad hP=>?_
 have a8:=hS.keep ad;have I:=An bq ad;let⟨g1,ar⟩:=gN w1.heap.size
 rw[ar]at hP;let⟨p,q,r,t,u,v,x⟩:=st7 hP;rw[ar];clear ar hS bq ad
 go_upto_region 3 with (go_at_call 6;refine(Gr _ s _ 1 1 [0] _ (Nat.le_refl _) (by omega) (in1 X 0) d (a8.keep blA)).mono ?_;rintro e w2 ⟨v1,v2,rfl,C,B,ck⟩;rw[S.out]at C B ⊢;dsimp only at C B ⊢;obtain⟨AS,cS,rfl,lS,mS,-⟩:=C.shs (by decide);obtain⟨AP,cP,rfl,lP,mP,cg⟩:=B.pls;rw[show (shA 10).length=2 from rfl,show cpA.length=2 from rfl]at *;obtain⟨bP,oP,rfl,ak⟩:=cg.at_ (show 0<2 by omega))
 have f:=An blA ck;have U:=hP.keep f;have a6:=a8.keep f;have H:=An I f;let⟨q0,q1,q2,q3,q4,q5,q6⟩:=st7 U;have e0:=ak 0 (by omega);have e1:=ak 1 (by omega);clear f hP a8 I p q r t u v x C B ak
 go_upto_region 4 with (go_at_call 11;refine(Pu _ s Vo _ 1 1 [0] _ (Nat.le_refl _) (by omega) (by intro h;cases h) (in1 w2 0) d (a6.keep blA) b9.out).mono ?_;rintro e w3 ⟨vm,rfl,a,bs⟩;rw[P.out]at a ⊢;dsimp only at a ⊢;have y:=a w3 λ_ _ _=>rfl;obtain⟨M1,d1,M2,d2,rfl,-⟩:=id y)
 have D:=An blA bs;rw[c7,c9]at y ⊢;clear a;refine Bq λY ai hM=>?_
 let⟨GM,bd⟩:=gN w3.heap.size
 have b:=An D ai;have z:=y.keep ai;rw[bd]at hM ⊢;have a1:=U.keep b;have k:=a6.keep b;have J:=An H b;have f0:=(e0.keep b).2.2.2.1;have f1:=(e1.keep b).2.2.2.1;simp only[Nat.zero_mul,Nat.one_mul,Nat.add_zero]at f0 f1;let⟨N,l1,l2,l3,l4,l5⟩:=mk6 hM;clear D bs y bd b U a6 H q0 q1 q2 q3 q4 q5 q6 e0 e1 ai c7 c9;go_upto_region 6 with fail;obtain⟨L,hL,cd⟩:=R;have HL:=Ar hL;clear hL N l1 l2 l3 l4 l5 f0 f1;let⟨N,l1,l2,l3,l4,l5⟩:=mk6 hM;let⟨p,q,r,t,u,v,x⟩:=st7 a1
 go_upto_region 7 with (go_at_call 12;refine rR (ph _ s _ m _ d k z n.out o.out) λw4 c=>?_;rw[HU.out])
 have T:=hM.keep c;have V:=a1.keep c;have E:=An J c;clear N l1 l2 l3 l4 l5 p q r t u v x;let⟨N,l1,l2,l3,l4,l5⟩:=mk6 T;let⟨p,q,r,t,u,v,x⟩:=st7 V
 go_upto_region 8 with (go_at_call 13;refine(O3 _ s _ m _ d (k.keep c) (z.keep c) n.out o.out).mono ?_;rintro e w5 ⟨v5,rfl,aw,l⟩;rw[HL.out]at aw ⊢;obtain⟨AL,cL,rfl,-,-,-⟩:=aw.spss;rw[cd])
 have bm:=T.keep l;have W:=V.keep l;have i:=An c l;have F:=An E l;clear N l1 l2 l3 l4 l5 p q r t u v x T V E c l;let⟨N,l1,l2,l3,l4,l5⟩:=mk6 bm;let⟨p,q,r,t,u,v,x⟩:=st7 W
 go_upto_region 10 with (go_at_call 14;refine rR (ep _ s _ m _ d (k.keep i) (z.keep i) n.out o.out) λw6 A=>?_;rw[O.out])
 have Z:=W.keep A;have a7:=(k.keep i).keep A;have G:=An F A;clear N l1 l2 l3 l4 l5 p q r t u v x bm W F A i aw hM z a1 k J;let⟨p,q,r,t,u,v,x⟩:=st7 Z
 go_upto_region 11 with (go_at_call 11;refine(Pu _ s Vo _ 1 1 [1] _ (Nat.le_refl _) (by omega) (by intro h;cases h) (in1 w6 1) d (a7.keep blA) ba.out).mono ?_;rintro e w7 ⟨vm,rfl,a,bt⟩;rw[Q.out]at a ⊢;dsimp only at a ⊢;obtain⟨K1,k1,K2,k2,rfl,-⟩:=id (a w7 λ_ _ _=>rfl);rw[M])
 refine Bq λY7 K bp=>?_
 have j:=An (An blA bt) K;have cf:=Z.keep j;have cj:=a7.keep j;have bu:=An G j;let⟨G7,bc⟩:=gN w7.heap.size
 rw[bc]at bp ⊢;clear p q r t u v x Z a7 G a bt K bc j M;let⟨p,q,r,t,u,v,x⟩:=st7 cf
 go_upto_region 12 with (go_at_call 11;refine(Pu _ s Vo none 0 0 [] _ (Nat.le_refl _) (by omega) (λ_=>rfl) ⟨rfl,.inl rfl⟩ d cj bb.out).mono ?_;rintro e w8 ⟨vm,rfl,a,bw⟩;rw[b5.out]at a ⊢;dsimp only at a ⊢;obtain⟨N1,j1,N2,j2,rfl,-⟩:=id (a w8 λ_ _ _=>rfl))
 obtain⟨N,-,-,-,-,-⟩:=mk6 ((bp.keep bw).alloc (.cells #[Qa.len,Qa.wid,Qa.rx,Qa.ry,.slice N1 Qa.sz.length j1,.slice N2 Qa.pl.length j2] 42));go_wp2_with fail;go_ret;exact⟨rfl,Ao (An bu bw) _⟩
end Go.Proofs.YtlogblbfbihleaaGreat
