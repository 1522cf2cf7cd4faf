/- Lean texts of the claim. -/
import Derived.Test.YtboghahlhmnblaaGreatZv31
import Derived.Test.YtboghahlhmnblaaGreatZv29
namespace Go.Proofs.YtboghahlhmnblaaGreat
set_option linter.all false
set_option maxRecDepth 100000
set_option maxHeartbeats 0
open Go.RowKit Go.Proofs.Tryz
variable{a:World}{b g:Array Value}{c:Nat}{e:List PlcP}{f:Value}{h:MkP}{x:Int}{H i k:Nat}{A:Option Addr}{Z:Prop}{w:World}
theorem PlS.take(h:PlS w A c e)(g:i<=c):PlS w A i (e.take i):=by
 refine⟨by rw[bC,h.1];omega,?_⟩;rcases h.2 with d|⟨b,a,rfl,d⟩
 .exact .inl aK
 refine .inr ⟨b,a,rfl,λk f=>?_⟩;have:plc (e.take i) k=plc e k:=by unfold plc;rw[List.getD,List.getD,eK f]
 rw[this];exact d k aK
theorem Atp{P:List PlcP}{p:PlcP}:∀j,j<=k->Asd (P.take k) p j=Asd P p j
 | 0,_=>rfl
 | j+1,h=>by
   rw[Asd,Asd,Atp j (by omega),show plc (P.take k) j=plc P j by unfold plc;rw[List.getD,List.getD,eK (by omega)]]
theorem Awh(A:Option Addr)(c n:Nat)(C:List PlcP)(p:PlcP)(L:PlS w A n C)(hn:n<=1000000:=by omega):Calls prog 48 #[.slice A n c,.agg #[p.ga,p.us,p.cp,.bool p.fl,p.qu,p.x,p.y]] w (Bz w (Asd C p n)):=by
 obtain⟨K,T,I,fl,qu,x,y⟩:=p;dsimp only;let⟨P,d⟩:=gN (⟨K,T,I,fl,qu,x,y⟩:PlcP)
 have j:=Ar d;rw[d];clear d
 have N:∀k,Hid (Asd C P k = -1)->∀b:Bool,Hid (Ahm (plc C k) P=b)->Asd C P (k+1)=if b then (k:Int) else -1:=λk h b a=>by
  rw[Asd,if_neg (by rw[h.out];simp),a.out]
 have Z:=Ar N
 have Y:=Ar (λ(k:Nat) (hk:k<n) (h:Asd C P (k+1)=(k:Int))=>show Asd C P n=(k:Int) by
  have:=Atq h aK (n-(k+1));rwa [show k+1+(n-(k+1))=n by omega] at this)
 clear N;go_in;go_upto_region 1 with fail;refine Bq λX e M=>?_
 let⟨Q,R,S,r,s,t,u⟩:=st7 M;have o:=L.keep e;clear L;go_wp2;go_loopw [5] (λi wx=>∃k:Nat,k<=n/\i=.int .i64 k/\Hid (Asd C P k = -1)/\Be X wx) λi _=>n-(intOf i).toNat
 case atStart=>exact⟨0,aB,rfl,Ar rfl,bl0⟩
 clear Q R S r s t u;obtain⟨k,hk,rfl,O,a⟩:=hrel;let⟨Q,R,S,r,s,t,u⟩:=st7 (M.keep a);by_cases f:k<n
 .obtain⟨b1,o1,rfl,J⟩:=(o.keep a).at_ f;let⟨U,V,W,z,B,D,E⟩:=J k f;let⟨⟨m,v,l,ad,au,cx,cy⟩,q⟩:∃c,plc C k=c:=⟨_,rfl⟩
  rw[q]at U V W z B D E;dsimp only at U V W z B D E;let⟨F,e1⟩:=gN (m == K)
  let⟨G,e2⟩:=gN (v == T)
  let⟨H,e3⟩:=gN (l == I)
  have g:=Ar (Z.out k O (F&&G&&H) (Ar (by rw[q,<-j.out,<-e1,<-e2,<-e3];rw[cZ];simp[Ahm,and_assoc])));have B1:(k:Int)<(n:Int):=aK
  clear q J z B D E r s t u;go_upto_region 4 with fail;cases F with
  | false =>
    go_quiet (fail);have a:=Bd a nq;go_wp2;exact aE ⟨Ar (by rw[g.out];rfl),a⟩
  | true =>
    cases G with
    | false =>
      go_quiet (fail);have a:=Bd a nq;go_wp2;exact aE ⟨Ar (by rw[g.out];rfl),a⟩
    | true =>
      cases H with
      | false =>
        go_quiet (fail);have a:=Bd a nq;go_wp2;exact aE ⟨Ar (by rw[g.out];rfl),a⟩
      | true =>
        go_quiet (fail);have a:=Bd a nq;go_wp2;go_ret;exact⟨Bm (Y.out k f g.out).symm,An e a⟩
 obtain rfl:n=k:=aK
 go_wp2;go_ret;exact⟨Bm O.out.symm,An e a⟩
theorem Ayj(V W:Option Addr)(y q n1 h:Nat)(b:Bed4)(S:List Shp)(j:List Pt5)(w:World)(ak:h<=9223372036854775807)(ad:h<=q)(ai:q<=9223372036854775807)(Z:ShS w V n1 S)(u:PuS w W h j):Calls prog 24 #[Jw b,.slice V n1 y,.slice W h q] w (Bz w (Zt b S j)):=by
 have z:=Ar (Bf.new w 62 #[b.len,b.wid,b.rx,b.ry]);have d:=Ar (show Be w (w.alloc (.cells #[b.len,b.wid,b.rx,b.ry] 62)) from (Ao (aV _ _)));obtain⟨len,c,rx,l⟩:=b;unfold Jw;dsimp only at z d ⊢;have O:=u.1;by_cases D:60<h
 .have K:=Ar (show Zt ⟨len,c,rx,l⟩ S j=5 by unfold Zt;rw[O,if_pos D]);clear O;go_enter func24,ntmps24;go_wp2;go_ret;exact⟨Bm K.out.symm,d.out⟩
 have K:=Ar (show Zt ⟨len,c,rx,l⟩ S j=iu ⟨len,c,rx,l⟩ S j h by unfold Zt iu;rw[O,if_neg D]);clear O;go_enter func24,ntmps24;go_wp2_with fail;refine Cu (λX=>Be w X/\Bf X w 62 #[len,c,rx,l]) ⟨d.out,z.out⟩ ?_;clear d z;rintro X ⟨d,z⟩;have E:=Z.keep d;have s:=u.keep d;have Y:=Ar z;clear Z u z;go_loopw [7] (λi wr=>∃k:Nat,k<=h/\i=k/\Hid (iu ⟨len,c,rx,l⟩ S j k=0)/\Be X wr) λi _=>h-(intOf i).toNat
 case atStart=>exact⟨0,aB,rfl,Ar rfl,bl0⟩
 obtain⟨k,hk,rfl,hz,n⟩:=hrel;by_cases U:k<h
 .have i2:(k:Int)<=(q:Int):=aK
  have i3:(k:Int)<=(h:Int):=aK
  obtain⟨m,o,rfl,-,y,q,L,M,N⟩:=(s.keep n).at_ U;have f:=Ar (show iu ⟨len,c,rx,l⟩ S j (k+1)=Ha ⟨len,c,rx,l⟩ S (j.take k) (pt j k) by rw[uo,if_neg (by rw[hz.out];simp)]);let⟨p,hp⟩:=gN (pt j k)
  rw[hp]at y q L M N f;clear hp;obtain⟨F,G,H,I,J⟩:=p;dsimp only at y q L M N;let⟨C,x⟩:=gN (Ha ⟨len,c,rx,l⟩ S (j.take k) ⟨F,G,H,I,J⟩)
  rw[x]at f;have B:=Ar x;clear x;by_cases r:C=0
  .subst r;obtain⟨P,Q,R,T,-⟩:=(Y.out.keep n).cells4;have v:=E.keep n;have t:=(s.keep n).take hk;have i1:(0:Int)<=(k:Int):=aK
   go_upto_region 6 with fail
   go_region_held3 (λg=>Cq g w 0 len/\Cq g w 1 c/\Cq g w 2 rx/\Cq g w 3 l/\Cq g m (o+k*5) F/\Cq g m (o+k*5+1) (.bool G)/\Cq g m (o+k*5+2) H/\Cq g m (o+k*5+3) I/\Cq g m (o+k*5+4) J)
    (first
     | (go_keep;done)
     | exact⟨Aq a P,Aq a Q,Aq a R,Aq a T,Aq a y,Aq a q,Aq a L,Aq a M,Aq a N⟩)
    ((go_at_call 49;refine rR (Atk ⟨len,c,rx,l⟩ S (j.take k) ⟨F,G,H,I,J⟩ (v.keep blD) (t.keep blD)) λw5 a=>?_;rw[B.out]))
   all_goals go_wp2_with fail
   all_goals exact aE ⟨Ar f.out,An n (An blD a)⟩
  have qf:(C != 0)=true:=by simpa using r
  have A:=Ar (show iu ⟨len,c,rx,l⟩ S j h=C by have:=Abt f.out r (h-(k+1));rwa [show k+1+(h-(k+1))=h by omega] at this);clear r;obtain⟨P,Q,R,T,-⟩:=(Y.out.keep n).cells4;have v:=E.keep n;have t:=(s.keep n).take hk;have i1:(0:Int)<=(k:Int):=aK
  go_upto_region 6 with fail
  go_region_held3 (λg=>Cq g w 0 len/\Cq g w 1 c/\Cq g w 2 rx/\Cq g w 3 l/\Cq g m (o+k*5) F/\Cq g m (o+k*5+1) (.bool G)/\Cq g m (o+k*5+2) H/\Cq g m (o+k*5+3) I/\Cq g m (o+k*5+4) J)
   (first
    | (go_keep;done)
    | exact⟨Aq a P,Aq a Q,Aq a R,Aq a T,Aq a y,Aq a q,Aq a L,Aq a M,Aq a N⟩)
   ((go_at_call 49;refine rR (Atk ⟨len,c,rx,l⟩ S (j.take k) ⟨F,G,H,I,J⟩ (v.keep blD) (t.keep blD)) λw5 a=>?_;rw[B.out]))
  all_goals go_wp2
  all_goals go_ret
  all_goals exact⟨Bm (by rw[K.out,A.out]),An d (An n (An blD a))⟩
 obtain rfl:h=k:=aK
 go_wp2;go_ret;exact⟨Bm (by rw[K.out,hz.out]),An d n⟩
theorem Azc(k:Array Value)(s:StyleP)(j:Array Value)(m:MkP)(w:World)(f:SmS s)(i:StV w k s)(y:MkV w j m)(h:(Bc s m.sz).1≠0):Calls prog 23 #[.agg k,.agg j] w (Acp w ((Bc s m.sz).1,[],[])):=by
 let⟨r,d⟩:=gN (Bc s m.sz)
 rw[d]at h ⊢;have l:=Ar d;obtain⟨x,S,C⟩:=r;dsimp only at h ⊢;have z:(x != 0)=true:=by simpa using h
 clear d h;obtain⟨B,J,D,K,E,L,F,M,G,N,H,O,rfl,-⟩:=id i;obtain⟨n,o,I,P,rfl,⟨p,q,v⟩,Q,R,T,U⟩:=y;go_enter func23,ntmps23;go_upto_region 1 with fail;refine Eo λX a u t=>?_
 let⟨p0,p1,p2,p3,p4,p5,p6⟩:=st7 u;let⟨V,W,Y,Z,k4,k5⟩:=mk6 t;have g:=i.keep a
 go_wp2_with (go_at_call 47;refine(Ae9 s n o m.sz p q (v.keep a) f g).mono ?_;rintro e w1 ⟨u1,u2,rfl,c,A,b⟩;rw[l.out]at c ⊢;dsimp only)
 go_ret3
 exact Acp.none_ (An a b)
theorem Awm{P:List PlcP}{S:List Shp}(d:h.pl=P)(f:c<P.length)(b:Hh e P (c+1)=(x,[],[]))(a:x≠0):Axq e S h (Hh e h.pl h.pl.length)=(x,[],[]):=by
 have:=Acd b a (P.length-(c+1));rw[show c+1+(P.length-(c+1))=P.length by omega]at this;rw[d,this];unfold Axq;rw[if_pos a]
theorem Azb(vs:Array Value)(s:StyleP)(ms:Array Value)(m:MkP)(w:World)(ha:SmS s)(hv:StV w vs s)(hm:MkV w ms m)(h:(Bc s m.sz).1=0)(h9:m.pl.length<=1000):Calls prog 23 #[.agg vs,.agg ms] w (Acp w (Aq9 s m)):=by
 let⟨r,hr⟩:=gN (Bc s m.sz)
 obtain⟨x,S,C⟩:=r;rw[hr]at h;dsimp only at h;subst h;let⟨cn,gw⟩:=X5 hr;have er:=Ar (show (C.map kt).Nodup by have:=Atu (s:=s) (Z:=m.sz) (by rw[hr]);rw[hr]at this;exact this);have HE:=Ar hr;have R:=Ar (show Aq9 s m=Axq C S m (Hh C m.pl m.pl.length) by unfold Aq9;rw[hr,if_neg aL]);have ev:=Ar (show S.length<=1000000 by omega);have eo:=Ar cn;clear hr cn;obtain⟨A1,c1,A2,c2,A3,c3,A4,c4,A5,c5,A6,c6,rfl,-⟩:=id hv;obtain⟨M1,d1,M2,d2,rfl,⟨h1,h2,hZ⟩,h3,h4,h5,hQ⟩:=hm;go_enter func23,ntmps23;go_upto_region 1 with fail;refine Eo λX N hP hK=>?_
 let⟨p0,p1,p2,p3,p4,p5,p6⟩:=st7 hP;let⟨k0,k1,k2,k3,k4,k5⟩:=mk6 hK;have e4:=hv.keep N
 go_upto_region 4 with (go_at_call 47;refine(Ae9 s M1 d1 m.sz h1 h2 (hZ.keep N) ha e4).mono ?_;rintro e w1 ⟨u1,u2,rfl,I,O,cx⟩;rw[HE.out]at I O ⊢;dsimp only at I O ⊢;obtain⟨AS,cS,rfl,lS,mS,cu⟩:=I.shs ev.out;obtain⟨AP,cP,rfl,lP,mP,L⟩:=O.pls)
 let⟨nq,bt⟩:=gN S.length
 have bl:C.length=nq:=by rw[<-eo.out,bt]
 rw[bt]at cu gw lS I ⊢;rw[bl]at O lP L ⊢;have b7:=Ar bl;let⟨d,ds⟩:=gN m.pl.length
 rw[ds]at R hK h3 hQ h9 ⊢;have K:=hK.keep cx;have l:=An N cx;have E:=hQ.keep l;have h6:=N.size;have cw:=l.size;clear hP hK e4 p0 p1 p2 p3 p4 p5 p6 k0 k1 k2 k3 k4 k5 bl bt ds N
 have b8:=Ar (λ(k:Nat) (x:Int) (hk:k<d) (h:Hh C m.pl (k+1)=(x,[],[])) (hx:x≠0)=>show Aq9 s m=(x,[],[]) by
  rw[R.out];have hq:=E.1;exact hq ▸ Awm (S:=S) rfl (by rw[hq];exact hk) h hx)
 have t:=Ar E.1;go_upto_region 6 with fail;go_loopw [10,11,12,13] (λv i _ _ wx=>∃k:Nat,k<=d/\i=k/\Hid ((Hh C m.pl k).1=0)/\OwG 72 5 enP wx w1 v (Hh C m.pl k).2.2/\Be w1 wx) λ_ i _ _ _=>d-(intOf i).toNat
 case atStart=>exact⟨0,aB,rfl,Ar rfl,OwG.nil,bl0⟩
 obtain⟨k,hk,rfl,J,p,j⟩:=hrel;by_cases g:k<d
 .obtain⟨b1,o1,rfl,cy⟩:=(E.keep j).at_ g;let⟨l0,l1,l2,l3,l4,l5,l6⟩:=cy k g;let⟨k0,k1,k2,k3,k4,k5⟩:=mk6 (K.keep j)
  have F:=Ar (show Hh C m.pl (k+1)=if Sf C (plc m.pl k) C.length<0 then (3,[],[]) else if gbo (Hh C m.pl k).2.1 (Sf C (plc m.pl k) C.length).toNat then (7,[],[]) else (0,(Hh C m.pl k).2.1.set (Sf C (plc m.pl k) C.length).toNat true,(Hh C m.pl k).2.2++[⟨Sf C (plc m.pl k) C.length,false,(plc m.pl k).qu,(plc m.pl k).x,(plc m.pl k).y⟩]) by
   rw[Hh,if_neg (by rw[J.out];simp)])
  have hF:=Ar (show Asd C (plc m.pl k) nq=Sf C (plc m.pl k) C.length by rw[<-b7.out];exact Axz er.out)
  have hG:=Ar (λ(h:0<=Sf C (plc m.pl k) C.length)=>show decide (0<=Asd (m.pl.take k) (plc m.pl k) k)=gbo (Hh C m.pl k).2.1 (Sf C (plc m.pl k) C.length).toNat by
   rw[Atp k aA];exact Avw (by rw[t.out];exact g) J.out h)
  have u:=Ar (show (Hh C m.pl k).2.2.length=k by
   have:=(S5 k (by rw[t.out];exact hk) J.out).2.2.1;rw[this,List.length_map,bC,t.out];omega)
  let⟨D,M⟩:=gN ((Hh C m.pl k).2.2)
  rw[M]at p u F;let⟨P,hP⟩:=gN (plc m.pl k)
  rw[hP]at l0 l1 l2 l3 l4 l5 l6 F hF hG;let⟨fx,bs⟩:=gN (Asd (m.pl.take k) P k)
  rw[bs]at hG;have cd:=Ar bs;let⟨ix,da⟩:=gN (Sf C P C.length)
  rw[da]at F hF hG;have B1:(k:Int)<(d:Int):=aK
  have B0:(0:Int)<=(k:Int):=aK
  have B2:(k:Int)<=(d2:Int):=aK
  have cm:=Ar λW (h:Be w1 W)=>(E.keep h).take hk;clear M hP bs da cy;go_upto_region 9 with fail;refine Bq λY bb hT=>?_
  let⟨t0,t1,t2,t3,t4,t5,t6⟩:=st7 hT;have H:=An j bb;have dy:=OwG.keep p bb;let⟨k0,k1,k2,k3,k4,k5⟩:=mk6 (K.keep H);clear l0 l1 l2 l3 l4 l5 l6 p j bb;let⟨y,cc⟩:=gN wr.heap.size
  rw[cc]at hT t0 t1 t2 t3 t4 t5 t6 ⊢;clear cc;by_cases dk:ix<0
  .have U:=Ar (b8.out k 3 g (by rw[F.out,if_pos dk]) aM)
   go_wp2_with (go_at_call 48;refine rR (Awh AP cP nq C P (L.keep H)) λw5 G=>?_;rw[hF.out])
   go_ret3
   rw[U.out];exact Acp.none_ (An l (An H G))
  obtain⟨q,rfl⟩:∃q:Nat,ix=q:=⟨ix.toNat,aK⟩
  have ca:=Ar (show gbo (Hh C m.pl k).2.1 q=decide (0<=fx) by rw[hG.out aK,cT])
  have a6:=Ar (show Hh C m.pl (k+1)=if 0<=fx then (7,[],[]) else (0,(Hh C m.pl k).2.1.set q true,D++[⟨(q:Int),false,P.qu,P.x,P.y⟩]) by
   rw[F.out,if_neg dk,cT,ca.out];simp only[decide_eq_true_eq])
  clear F hG ca
  go_upto_region 12 with (go_at_call 48;refine rR (Awh AP cP nq C P (L.keep H)) λw5 G=>?_;rw[hF.out])
  have o:=An H G;have ba:=hT.keep G;have ad:=OwG.keep dy G;have cg:=K.keep o;let⟨z0,z1,z2,z3,z4,z5,z6⟩:=st7 ba;let⟨y0,y1,y2,y3,y4,y5⟩:=mk6 cg;clear t0 t1 t2 t3 t4 t5 t6 hT dy k0 k1 k2 k3 k4 k5 H G;by_cases hs:0<=fx
  .have U:=Ar (b8.out k 7 g (by rw[a6.out,if_pos hs]) aM)
   go_region_held3 (λn=>Cq n (w+1) 4 (.slice M1 m.sz.length d1)/\Cq n (w+1) 5 (.slice (some ⟨b1,o1,none⟩) d d2)/\Cq n y 0 P.ga/\Cq n y 1 P.us/\Cq n y 2 P.cp/\Cq n y 3 (.bool P.fl)/\Cq n y 4 P.qu/\Cq n y 5 P.x/\Cq n y 6 P.y)
    (first
     | (go_keep;done)
     | exact⟨Aq a y4,Aq a y5,Aq a z0,Aq a z1,Aq a z2,Aq a z3,Aq a z4,Aq a z5,Aq a z6⟩)
    ((go_at_call 48;refine rR (Awh _ _ k (m.pl.take k) P (cm.out _ (An o blD))) λw6 a=>?_;rw[cd.out]))
   all_goals go_wp2
   all_goals go_ret3
   all_goals rw[U.out]
   all_goals exact Acp.none_ (An l (An o (An blD a)))
  have c9:=Ar (show Hh C m.pl (k+1)=(0,(Hh C m.pl k).2.1.set q true,D++[⟨(q:Int),false,P.qu,P.x,P.y⟩]) by rw[a6.out,if_neg hs]);have n0:fx<0:=aK
  go_region_held3 (λn=>Cq n (w+1) 4 (.slice M1 m.sz.length d1)/\Cq n (w+1) 5 (.slice (some ⟨b1,o1,none⟩) d d2)/\Cq n y 0 P.ga/\Cq n y 1 P.us/\Cq n y 2 P.cp/\Cq n y 3 (.bool P.fl)/\Cq n y 4 P.qu/\Cq n y 5 P.x/\Cq n y 6 P.y)
   (first
    | (go_keep;done)
    | exact⟨Aq a y4,Aq a y5,Aq a z0,Aq a z1,Aq a z2,Aq a z3,Aq a z4,Aq a z5,Aq a z6⟩)
   ((go_at_call 48;refine rR (Awh _ _ k (m.pl.take k) P (cm.out _ (An o blD))) λw6 a=>?_;rw[cd.out]))
  all_goals have a7:=An o (An blD a)
  all_goals have ai:=OwG.keep (OwG.keep ad blD) a
  all_goals have h0:=(ba.keep blD).keep a
  all_goals let⟨x0,x1,x2,x3,x4,x5,x6⟩:=st7 h0
  all_goals clear z0 z1 z2 z3 z4 z5 z6 y0 y1 y2 y3 y4 y5 ad ba cg
  all_goals go_wp2_with (at_builtin;refine Co 68 rfl enP w1 72 (.agg #[.int .i64 0,.bool false,.int .i64 0,.int .i64 0,.int .i64 0]) 5 40 underlying68 Aj4 Kl tg D (OwG.alloc ai _) w6 1 ⟨(q:Int),false,P.qu,P.x,P.y⟩ 72 (Bf.new _ _ _) (hlen:=by rw[u.out];unfold maxLen;omega) (hbytes:=by rw[u.out];omega) (Ao a7).size ?_;intro v' w7 h8 h7 j4)
  all_goals exact aE ⟨Ar (by rw[c9.out]),by rw[c9.out];exact h8,Bk (Ao a7) (OwG.alloc ai _) h7⟩
 obtain rfl:d=k:=aK
 have Q:=Ar (show Aq9 s m=if d<nq then (20,[],[]) else if Bp (λi=>(plc m.pl i).fl != (plc C (pt (Hh C m.pl d).2.2 i).sh.toNat).fl) d then (12,[],[]) else (0,S,(Hh C m.pl d).2.2) by
  rw[R.out];unfold Axq;rw[if_neg (by rw[J.out];simp),t.out,b7.out])
 have V:=S5 d (by rw[t.out];exact aA) J.out;have u:(Hh C m.pl d).2.2.length=d:=by rw[V.2.2.1,List.length_map,bC,t.out];omega
 have ak:∀i,i<d->∃q:Nat,q<nq/\(pt (Hh C m.pl d).2.2 i).sh=(q:Int):=λi hi=>by
  have cz:i<(m.pl.take d).length:=by rw[bC,t.out];omega
  have g4:pt (Hh C m.pl d).2.2 i=Al9 C (m.pl.take d)[i]:=by
   unfold pt;rw[V.2.2.1,List.getD,dC,aW cz];rfl
  have g5:=V.1 _ (cY cz);have g6:=Wk C (m.pl.take d)[i] C.length;rw[g4];unfold Al9 kI at *
  rw[b7.out]at *
  dsimp only;exact⟨(Sf C (m.pl.take d)[i] nq).toNat,aK,aK⟩
 have c0:=Ar ak;clear V ak;let⟨D,M⟩:=gN ((Hh C m.pl d).2.2)
 rw[M]at p u Q c0;have dx:=I.keep j;have gx:=L.keep j;have gy:=E.keep j;have bd:=An l j;have b9:=K.keep j
 obtain⟨AU,cU,rfl,lU,mU,ck⟩:∃AU cU,u10=.slice AU D.length cU/\D.length<=cU/\cU<=9223372036854775807/\PuS wr AU D.length D:=by
  obtain⟨A,c,e,h1,h2,-⟩:=OwG.form2 p;let⟨A',c',e',h'⟩:=OwP.pus p;have e0:=e.symm.trans e';injection e0 with e1 _ e3
  subst e1 e3;exact⟨A,c,e,h1,by unfold maxLen at h2;exact h2,h'⟩
 rw[u]at lU ck p ⊢;clear u M K E cu L I l O j J R b8;let⟨k0,k1,k2,k3,k4,k5⟩:=mk6 b9;by_cases a8:d<nq
 .have U:=Ar (show Aq9 s m=(20,[],[]) by rw[Q.out,if_pos a8]);have B1:(d:Int)<(nq:Int):=aK
  go_wp2
  go_ret3
  rw[U.out];exact Acp.none_ bd
 have a1:=Ar (show Aq9 s m=if Bp (λi=>(plc m.pl i).fl != (plc C (pt D i).sh.toNat).fl) d then (12,[],[]) else (0,S,D) by rw[Q.out,if_neg a8]);have B1:¬(d:Int)<(nq:Int):=aK
 clear Q;go_upto_region 18 with fail;go_loopw [14] (λi wx=>∃k:Nat,k<=d/\i=k/\Hid (Bp (λi=>(plc m.pl i).fl != (plc C (pt D i).sh.toNat).fl) k=false)/\Be wr wx) λi _=>d-(intOf i).toNat
 case atStart=>exact⟨0,aB,rfl,Ar (Bp.zero _),bl0⟩
 clear k0 k1 k2 k3 k4 k5;obtain⟨k,hk,rfl,hz,j⟩:=hrel;by_cases g:k<d
 .obtain⟨b1,o1,rfl,g1⟩:=(gy.keep j).at_ g;obtain⟨b2,o2,rfl,-,e1,-⟩:=(ck.keep j).at_ g;let⟨q,hq,bu⟩:=c0.out k g;rw[bu]at e1;obtain⟨b3,o3,rfl,g3⟩:=(gx.keep j).at_ hq;have e2:=(g1 k g).2.2.2.1;have e3:=(g3 q hq).2.2.2.1;let⟨f1,bm⟩:=gN ((plc m.pl k).fl)
  let⟨f2,bp⟩:=gN ((plc C q).fl)
  let⟨bq,bc⟩:=gN (f1 != f2)
  have cb:=Ar (show (λi=>(plc m.pl i).fl != (plc C (pt D i).sh.toNat).fl) k=bq by dsimp only;rw[bu,cT,bm,bp,bc]);rw[bm]at e2;rw[bp]at e3;let⟨k0,k1,k2,k3,k4,k5⟩:=mk6 (b9.keep j);have B2:(k:Int)<(d:Int):=aK
  have B3:(q:Int)<(nq:Int):=aK
  have B0:(0:Int)<=(q:Int):=aK
  clear g1 g3 bu bm bp;go_upto_region 20 with fail;cases bq with
  | false =>
    have HY:=Ar (Bp.succ hz.out cb.out);cases f1<;>cases f2<;>first|(exact absurd bc aM)|skip
    all_goals go_quiet (fail)
    all_goals go_wp2_with fail
    all_goals exact aE ⟨HY,Bd j _⟩
  | true =>
    have U:=Ar (show Aq9 s m=(12,[],[]) by rw[a1.out,if_pos (Bp.yes g cb.out)]);cases f1<;>cases f2<;>first|(exact absurd bc aM)|skip
    all_goals go_quiet (fail)
    all_goals go_wp2
    all_goals go_ret3
    all_goals rw[U.out]
    all_goals exact Acp.none_ (An bd (Bd j _))
 obtain rfl:d=k:=aK
 have U:=Ar (show Aq9 s m=(0,S,D) by rw[a1.out,if_neg (by rw[hz.out];simp)]);let⟨k0,k1,k2,k3,k4,k5⟩:=mk6 (b9.keep j);go_wp2
 go_ret3
 rw[U.out];exact⟨_,_,rfl,(dx.keep j).lower h6,OwG.lower (OwG.keep p j) cw,An bd j⟩
theorem Awl(s:StyleP)(m:MkP):(Aq9 s m).2.2.length<=m.pl.length/\(Aq9 s m).2.1.length<=60:=by
 unfold Aq9;split
 .simp
 rename_i h;let⟨⟨x,S,C⟩,b⟩:∃r,Bc s m.sz=r:=⟨_,rfl⟩
 rw[b]at h ⊢;have d:x=0:=by simpa using h
 subst d;have a:=(X5 b).2;dsimp only;unfold Axq;split
 .simp
 rename_i c;obtain⟨-,-,e,-,-⟩:=S5 (C:=C) (P:=m.pl) m.pl.length aA (by simpa using c)
 repeat' split
 all_goals first
  | (simp;done)
  | (refine⟨?_,a⟩;dsimp only;rw[e,List.length_map,bC];omega)
theorem Ate(s:StyleP)(m:MkP)(a:SmS s)(e:StV w b s)(d:MkV w g m)(c:m.pl.length<=1000):Calls prog 23 #[.agg b,.agg g] w (Acp w (Aq9 s m)):=by
 by_cases h:(Bc s m.sz).1=0
 .exact Azb b s g m w a e d h c
 rw[show Aq9 s m=((Bc s m.sz).1,[],[]) by unfold Aq9;rw[if_pos h]];exact Azc b s g m w a e d h
theorem OwP.pusC{l:List Pt5}(h:OwG 72 5 enP w c f l):∃A a,f=.slice A l.length a/\l.length<=a/\a<=9223372036854775807/\PuS w A l.length l:=by
 obtain⟨A,a,e,j,b,-⟩:=OwG.form2 h;let⟨k,m,d,i⟩:=OwP.pus h;have g:=e.symm.trans d;injection g with e1 _ e3
 subst e1 e3;exact⟨A,a,e,j,by unfold maxLen at b;exact b,i⟩
theorem Atz(s:StyleP)(m:MkP)(o:SmS s)(E:StV w b s)(D:MkV w g m)(n:m.pl.length<=1000):Calls prog 11 #[.agg b,.agg g] w (Bz w (J6 s m).1):=by
 have k:=Ar (Aw6 s m);let⟨F,G⟩:=Awl s m;let⟨r,z⟩:=gN (Aq9 s m)
 rw[z]at k F G;have B:=Ar z;obtain⟨x,S,A⟩:=r;dsimp only at k F G;clear z;obtain⟨A1,c1,A2,c2,A3,c3,A4,c4,A5,c5,A6,c6,rfl,-⟩:=id E;obtain⟨M1,d1,M2,d2,rfl,-⟩:=id D;go_enter func11,ntmps11;go_upto_region 1 with fail;refine Eo λX f M C=>?_
 let⟨p0,p1,p2,p3,p4,p5,p6⟩:=st7 M;let⟨O,P,Q,R,T,U⟩:=mk6 C;have p:=E.keep f;have l:=D.keep f;by_cases q:x=0
 .subst q;rw[if_neg aL]at k
  go_upto_region 4 with (go_at_call 23;refine(Ate s m o p l n).mono ?_;rintro e H ⟨Y,Z,rfl,j,i,d⟩;rw[B.out]at j i ⊢;dsimp only at j i ⊢;obtain⟨I,K,rfl,lS,mS,v⟩:=j.shs aK;obtain⟨J,L,rfl,V,W,u⟩:=OwP.pusC i)
  let⟨O,P,Q,R,T,U⟩:=mk6 (C.keep d);have a:=Ar (Ayj I J K L S.length A.length (uz m) S A H aK V W v u);let⟨cv,h⟩:=gN (Zt (uz m) S A)
  rw[h]at a;have t:=Ar (k.out.trans h);unfold uz Jw at a;dsimp only at a;clear h
  go_wp2_with (go_at_call 24;refine a.out.mono ?_;rintro e w2 ⟨rfl,y⟩)
  go_ret;rw[t.out];exact⟨rfl,An (An f d) y⟩
 rw[if_pos q]at k;have N:(x != 0)=true:=by simpa using q
 clear q
 go_wp2_with (go_at_call 23;refine(Ate s m o p l n).mono ?_;rintro e H ⟨Y,Z,rfl,-,-,d⟩;rw[B.out];dsimp only)
 go_ret;rw[k.out];exact⟨rfl,An f d⟩
theorem Avd{a1:Array Oper}{o:Oper}{a:Act}{K:Act->World->Prop}{Q:Exit->Act->World->Prop}(T:o.guard=none){s x:Operand}
 (ho:o.op=.call { callee:=.builtin .append,args:=#[s,x],argTypes:=#[37,37] })
 (b:Nat)  (I:List LP) (hs:a.eval s=f) (D:Iw w b f I)
  (L:Nat) (u:Value) (l:LP) (tb:TypeId) (hx:a.eval x=.slice (some ⟨c,0,none⟩) 1 L) (C:Bf w c tb #[u]) (hu:ElS w b u l)
 (ai:I.length<=1000000) (r:b<=w.heap.size)  (hH:w.heap.size=H)
 (h:∀J E,Iw E b J (I++[l])->w.grownBy E f.ownBlock->(J.ownBlock=f.ownBlock\/J.ownBlock=some H)->K (a.put o.dst J) E) :
 if Region.wanted o (yielded a1 a.tmps)=true then Oper.wp prog o a w K Q else Z:=by
 let⟨i,hi,W,X,Y⟩:=dW Aj2;obtain⟨p,O,F,h3,h4⟩:=D;have q:u.oneCell'=true:=by obtain⟨A,L,rfl,_⟩:=hu;rfl
 have n:∀k M N,b<=k->w.heap[k]? = some (.cells M 65 N)->some k≠f.ownBlock:=by
  intro k M N _ G he;rcases O.2 with⟨rfl,_⟩|⟨g,v,au,rfl,_,z,_⟩
  .cases he
  have:k=g:=by simpa[Value.ownBlock] using he
  subst this;rw[z]at G;injection G with G
  injection G with _ ht
  exact absurd ht (by decide)
 have S:p.flatMap enV=p:=by
  clear O F h3 h4 n;induction p with
  | nil=>rfl
  | cons a l ih=>rw[cM,ih];rfl
 refine step_append_lies (P:=prog) w T s x 37 ho b 48 i (.slice none 0 0) 1 24 underlying37 hi W X Y rfl (by omega) f p.length (p.flatMap enV) hs O ⟨c,0,none⟩ 1 L [u] hx rfl ?_ (by simpa using q) (by omega) (by rw[F];unfold maxLen;omega) (by rw[F];omega) r H hH ?_
 .intro j y hj;exact eI (w:=w) (B:=c) (cs:=#[u]) (t:=tb) (fr:=(0,0)) C j y (by simpa using hj)
 intro g v E V z R b2;refine h (.slice (some ⟨g,0,none⟩) (p.length+1) v) E ⟨p++[u],?_,by rw[bA,bA,F];rfl,?_,?_⟩ z (R.elim (λe=>.inl e.symm) λe=>.inr (by rw[e];rfl))
 .unfold OwG;rw[bA,dH];exact V
 .intro y d;rcases bD.1 d with d|d
  .exact h3 y d
  rw[fQ.1 d];exact q
 intro k y l' d m;rcases bG k p.length with U|U
 .rw[cF U]at d;rw[cF (by omega)]at m;exact(h4 k y l' d m).grown z n
 rw[cI U]at d;rw[cI (by omega)]at m;rcases bK (k-p.length) with h0|h0
 .rw[h0]at d;rw[show k-I.length=0 by omega]at m;simp at d m;subst d m;exact hu.grown z n
 rw[bI (by simp;omega)]at d;cases d
theorem Axa(s:StyleP)(m:MkP)(O:SmS s)(hv:StV w b s)(hm:MkV w g m)(N:m.pl.length<=1000):Calls prog 7 #[.agg b,.agg g] w (wg w (J1 s m)):=by
 let⟨r,I⟩:=gN (J6 s m)
 have HE:=Ar I;obtain⟨x,S,ps⟩:=r;have HP:=Ar (λ(h:x≠0)=>show J1 s m=(x,[]) by unfold J1;rw[I,if_pos h]);have HQ:=Ar (λ(h:x=0)=>Aue (s:=s) (m:=m) (by rw[I];exact h));clear I;let⟨V,b0⟩:=gN m.pl.length
 have HN:=Ar b0;clear b0;have aw:=hm;obtain⟨A1,c1,A2,c2,A3,c3,A4,c4,A5,c5,A6,c6,rfl,-⟩:=id hv;obtain⟨M1,d1,M2,d2,rfl,⟨h1,h2,hZ⟩,h3,h4,h5,hQ⟩:=hm;go_enter func7,ntmps7;go_upto_region 1 with fail;refine Eo λX E hP hK=>?_
 let⟨p0,p1,p2,p3,p4,p5,p6⟩:=st7 hP;let⟨k0,k1,k2,k3,U,k5⟩:=mk6 hK;have Q:=hv.keep E;have L:=aw.keep E;by_cases hx:x=0
 .subst hx;let⟨hq,ak⟩:=HQ.out rfl;have cd:=Ar hq;have ca:=Ar ak;clear hq ak HQ HP
  go_upto_region 4 with (go_at_call 11;refine rR (Atz s m O Q L N) λw1 o=>?_;rw[HE.out];dsimp only)
  have d:=An E o;have u:=hK.keep o;have a7:=hQ.keep d;have cn:=hZ.keep d;have ds:=hv.keep d;have cm:=hP.keep o;rw[HN.out]at a7 u N ⊢;clear p0 p1 p2 p3 p4 p5 p6 k0 k1 k2 k3 U k5 hK hP hQ hZ hv Q L aw;go_upto_region 6 with fail;go_loopw [7,8,9,10,11] (λv i _ _ _ wx=>∃k:Nat,k<=V/\i=k/\Iw wx w1 v ((m.pl.take k).map (Awc s m.sz))/\Be w1 wx) λ_ i _ _ _ _=>V-(intOf i).toNat
  case atStart=>exact⟨0,aB,rfl,Iw.nil,bl0⟩
  obtain⟨k,hk,rfl,ho,J⟩:=hrel;by_cases K:k<V
  .obtain⟨b1,o1,rfl,ai⟩:=(a7.keep J).at_ K;let⟨l0,l1,l2,l3,l4,l5,l6⟩:=ai k K;let⟨k0,k1,k2,k3,U,k5⟩:=mk6 (u.keep J);have au:k<m.pl.length:=by rw[HN.out];exact K
   have HT:=Ar (show (m.pl.take (k+1)).map (Awc s m.sz)=(m.pl.take k).map (Awc s m.sz)++[Awc s m.sz (plc m.pl k)] by
    rw[Xu (h:=au),List.map_append];rfl)
   have hg:=ca.out _ (mw au);let⟨P,a6⟩:=gN (plc m.pl k)
   rw[a6]at l0 l1 l2 l3 l4 l5 l6 HT hg;obtain⟨ga,us,cp,T,W,x,y⟩:=P;dsimp only at l0 l1 l2 l3 l4 l5 l6 hg;obtain⟨hg,hcut⟩:=hg;obtain⟨j,rfl⟩:∃j:Nat,ga=j:=⟨ga.toNat,aK⟩
   have A:=Ar (show Awc s m.sz ⟨(j:Int),us,cp,T,W,x,y⟩=Yv (F6 T W (J5 s (gi m.sz j) us).1) (x,y) by unfold Awc;dsimp only;rw[cT]);obtain⟨zb,zo,rfl,b3⟩:=cn.at_ (show j<m.sz.length by omega);have R:=Aq J b3;let⟨z,hz⟩:=gN (gi m.sz j)
   rw[cT]at hcut;rw[hz]at A R hcut;have t:=tu hcut;let⟨r,I⟩:=gN (J5 s z us)
   rw[I]at A t hcut;have c9:=Ar I;obtain⟨l,x2⟩:=r;dsimp only at A t hcut;subst hcut;have B1:(k:Int)<(V:Int):=aK
   have B3:(j:Int)<(m.sz.length:Int):=aK
   have B4:(0:Int)<=(j:Int):=aK
   clear ai a6 hz b3 I;go_upto_region 9 with fail;refine Bq λY F hT=>?_
   let⟨BT,Z⟩:=gN wr.heap.size
   rw[Z]at hT ⊢;let⟨t0,t1,t2,t3,t4,t5,t6⟩:=st7 hT;have D:=An J F;let⟨p0,p1,p2,p3,p4,p5,p6⟩:=st7 (cm.keep D);let⟨k0,k1,k2,k3,U,k5⟩:=mk6 (u.keep D);have zE:=Aq F R;have dx:=ds.keep D;have b2:=ho.keep F;clear l0 l1 l2 l3 l4 l5 l6 J R ho F Z
   go_region_held3 (λf=>Cq f w 0 (.string s.nm)/\Cq f w 1 (.slice A1 s.sz.length c1)/\Cq f w 2 (.slice A2 s.mu.length c2)/\Cq f w 3 (.slice A3 s.pc.length c3)/\Cq f w 4 (.slice A4 s.us.length c4)/\Cq f w 5 (.slice A5 s.se.length c5)/\Cq f w 6 (.slice A6 s.no c6)/\Cq f (w+1) 4 (.slice (some ⟨zb,zo,none⟩) m.sz.length d1)/\Cq f zb (zo+j) z/\Cq f BT 0 (j:Int)/\Cq f BT 1 us)
    (first
     | (go_keep;done)
     | exact⟨Aq a p0,Aq a p1,Aq a p2,Aq a p3,Aq a p4,Aq a p5,Aq a p6,Aq a U,Aq a zE,Aq a t0,Aq a t1⟩)
    ((go_at_call 18;refine aF (Aof s z us O (dx.keep blD)) λw6 v6 G a=>?_;rw[c9.out]at G ⊢;dsimp only at G ⊢))
   all_goals have p:=An D (An blD a)
   all_goals have C:=(hT.keep blD).keep a
   all_goals have H:=(b2.keep blD).keep a
   all_goals let⟨x0,x1,x2,x3,x4,x5,x6⟩:=st7 C
   all_goals obtain⟨c0,cg,rfl,fb,fc,a8,-⟩:=Zk G
   all_goals let⟨nl,M⟩:=gN l.length
   all_goals rw[M]at a8 t ⊢
   all_goals have cc:=Ar M
   all_goals clear t0 t1 t2 t3 t4 t5 t6 p0 p1 p2 p3 p4 p5 p6 k0 k1 k2 k3 U k5 hT b2 G zE M
   all_goals go_upto_region 10 with fail
   all_goals have c:=Aw (aV w6 w6)
   all_goals obtain⟨-,-,-,x3,x4,x5,x6⟩:=st7 (C.keep c)
   all_goals go_region_law ((first
    | (go_simp;go_at_call 20;(with_reducible refine(bg T W c0 cg nl l t (a8.keep c)).mono ?_);rintro e w7 ⟨v7,rfl,da,cu⟩;replace c:=An c cu;have dy:=c.size;obtain⟨-,-,-,x3,x4,x5,x6⟩:=st7 (C.keep c);obtain⟨A7,c7,rfl,j1,fr,ad,-⟩:=Zk da;rw[E8,cc.out]at ad ⊢)
    | (go_simp;go_at_call 19;(with_reducible refine(Atg A7 c7 nl (F6 T W l) x y t ad).mono ?_);rintro e w8 ⟨v8,rfl,db,cw⟩;replace c:=An c cw;obtain⟨-,-,-,x3,x4,x5,x6⟩:=st7 (C.keep c);obtain⟨A8,c8,rfl,j2,fs,j0,a1⟩:=Zk db;let⟨n8,cy⟩:=gN ((Yv (F6 T W l) (x,y)).length);rw[cy]at a1 ⊢)
    | (refine Avd rfl rfl w1 ((m.pl.take k).map (Awc s m.sz)) rfl ((H.keep c).alloc _) 1 (.slice A8 n8 c8) (Yv (F6 T W l) (x,y)) 48 rfl (Bf.new _ _ _) ((ElS.lower a1 (bB p.size dy)).keep blA) aO (Ao (An p c)).size rfl ?_;intro v9 w9 dk cx fa)))
   all_goals go_wp2_with fail
   all_goals exact aE ⟨by rw[HT.out,A.out];exact dk,G6 (Ao (An p c)) ((H.keep c).alloc _) cx⟩
  obtain rfl:V=k:=aK
  have HR:=Ar (show J1 s m=(0,(m.pl.take V).map (Awc s m.sz)) by rw[cd.out,<-HN.out,dR]);let⟨k0,k1,k2,k3,U,k5⟩:=mk6 (u.keep J);go_wp2
  go_ret2
  rw[HR.out];exact⟨_,rfl,ho.lower d.size,An d J⟩
 have j3:(x != 0)=true:=by simpa using hx
 have HR:=Ar (HP.out hx);clear hx
 go_wp2_with (go_at_call 11;refine rR (Atz s m O Q L N) λw1 o=>?_;rw[HE.out];dsimp only)
 go_ret2
 rw[HR.out];exact⟨_,rfl,Iw.nil,An E o⟩
theorem Axp(A:Option Addr)(a n:Nat)(l:LP)(i:n<=9223372036854775807)(b:n<=a)(g:SpS w A n l):Calls prog 22 #[.slice A n a] w (Bz w (Vh l)):=by
 have d:=Ar (show (if Bg l n=0 then F4 l n n else 0)=Qi l by unfold Qi;rw[g.1]);have h:=Aee l;have f:=Ar (show Vh l=max (Qi l) (-(Qi l)) from rfl);generalize j:Qi l=z at d h f;have k:IntKind.i64.wrap (-z) = -z:=aD
 clear j;go_in
 go_wp2_with (go_at_call 46;refine rR (dd A a n l _ i b g) λm c=>?_;rw[d.out])
 go_ret;exact⟨Bm (by rw[f.out]),c⟩
theorem Awo{s:StyleP}(b:(J1 s h).1≠0):(J1 s h).2=[]:=by
 by_cases a:(J6 s h).1=0
 .exact absurd (by rw[(Aue a).1]) b
 unfold J1;rw[if_pos a]
theorem Ayi(s:StyleP)(m:MkP)(S:SmS s)(hv:StV w b s)(Z:MkV w g m)(Q:m.pl.length<=1000):Calls prog 9 #[.agg b,.agg g] w (Bz w (.tuple #[(xo s m).1,(xo s m).2])):=by
 have J:=Ar (show xo s m=(I4 (J1 s m).2 (J1 s m).2.length,(J1 s m).1) by
  unfold xo;by_cases h:(J1 s m).1≠0
  .rw[if_pos h,Awo h];rfl
  rw[if_neg h];simp at h;rw[h])
 let⟨T,H⟩:=Aff s m;let⟨r,R⟩:=gN (J1 s m)
 rw[R]at J T H;have HE:=Ar R;obtain⟨x,L⟩:=r;dsimp only at J T H;have j:=Ar (Tg H);have u:=Ar λk (P:k<L.length)=>(El (H _ (I9 P))).2;clear R H;obtain⟨A1,c1,A2,c2,A3,c3,A4,c4,A5,c5,A6,c6,rfl,-⟩:=id hv;obtain⟨M1,d1,M2,d2,rfl,-⟩:=id Z;go_enter func9,ntmps9;go_upto_region 1 with fail;refine Eo λX d Y W=>?_
 let⟨p0,p1,p2,p3,p4,p5,p6⟩:=st7 Y;let⟨k0,k1,k2,k3,k4,k5⟩:=mk6 W;have G:=hv.keep d;have C:=Z.keep d
 go_upto_region 3 with (go_at_call 7;refine aF (Axa s m S G C Q) λw1 v1 f A=>?_;rw[HE.out]at f ⊢;dsimp only at f ⊢;obtain⟨AL,cL,rfl,lL,z,-⟩:=f.spss)
 have O:=An d A;let⟨I,D⟩:=gN L.length
 rw[D]at z J T lL j u ⊢;clear p0 p1 p2 p3 p4 p5 p6 k0 k1 k2 k3 k4 k5 Y W G C f d A D;go_upto_region 4 with fail;go_loopw [8,9] (λv i wx=>∃k:Nat,k<=I/\i=k/\v=(I4 L k)/\Be w1 wx) λ_ i _=>I-(intOf i).toNat
 case atStart=>exact⟨0,aB,rfl,rfl,bl0⟩
 obtain⟨k,P,rfl,rfl,p⟩:=hrel;by_cases t:k<I
 .obtain⟨bb,ob,Ak,ck,rfl,-,e1,V,M,-⟩:=(z.keep p).at_ t;have B1:(k:Int)<(I:Int):=aK
  let⟨u1,u2⟩:=j.out k P;let⟨u3,u4⟩:=j.out (k+1) t;have c:=Ar (show I4 L (k+1)=I4 L k+Vh (lt_ L k) from rfl);rw[c.out]at u3 u4;have B:=u.out k t;let⟨nl,E⟩:=gN ((lt_ L k).length)
  rw[E]at e1 V M B;let⟨U,y⟩:=gN (lt_ L k)
  rw[y]at M c u3 u4;let⟨ar,o⟩:=gN (Vh U)
  let⟨us,F⟩:=gN (I4 L k)
  rw[o]at u3 u4 c;rw[F]at u1 u2 u3 u4 c ⊢;have K:=Ar o;clear o F E y;have W1:IntKind.i64.wrap (us+ar)=us+ar:=aD
  go_wp2_with (go_at_call 22;refine rR (Axp Ak ck nl U aK V M) λw5 N=>?_;rw[K.out])
  exact aE ⟨by rw[c.out],An p N⟩
 obtain rfl:I=k:=aK
 go_wp2
 go_ret2
 rw[J.out];exact⟨rfl,An O p⟩
theorem Ayk(A B:Option Addr)(E F n:Nat)(L:List LP)(O:n<=1000000)(I:∀k,k<n->(lt_ L k).length<=1000000)(G:Aeg w A n L)(H:Aeg w B n L):Calls prog 12 #[.slice A n E,.slice B n F] w (Bz w (.bool true)):=by
 have q:((n:Int) != (n:Int))=false:=aL
 go_in;go_wp2;go_loopw [5] (λi wr=>∃k:Nat,k<=n/\i=.int .i64 k/\Be w wr) λi _=>n-(intOf i).toNat
 case atStart=>exact⟨0,aB,rfl,bl0⟩
 obtain⟨k,N,rfl,d⟩:=hrel;by_cases b:k<n
 .obtain⟨C,J,p,t,rfl,-,f,v,g,-⟩:=(G.keep d).at_ b;obtain⟨D,K,r,u,rfl,-,h,x,j,-⟩:=(H.keep d).at_ b;have y:=I k b;let⟨l,c⟩:=gN (lt_ L k)
  rw[c]at f v g h x j y;let⟨m,z⟩:=gN l.length
  rw[z]at f v g h x j y;have M:(k:Int)<(n:Int):=aK
  clear c z;go_upto_region 6 with fail;have a:=Aw (aV wr wr)
  go_region_held3 (λs=>Cq s C (J+k) (.slice p m t)/\Cq s D (K+k) (.slice r m u))
   (with_reducible exact⟨Aq a f,Aq a h⟩)
   ((go_at_call 25;(with_reducible refine(ju p r t u m l aK (g.keep a) (j.keep a)).mono ?_);rintro e P ⟨rfl,o⟩;replace a:=An a o))
  all_goals go_wp2
  all_goals exact aE (An d a)
 obtain rfl:n=k:=aK
 go_wp2;go_ret;exact⟨rfl,d⟩
theorem Avr(aw:∀w:World,Calls prog 5 #[] w (Bz w (.bool true)))(vs:Array Value)(s:StyleP)(ms:Array Value)(m:MkP)(w:World)(hv:StV w vs s)(hm:MkV w ms m)(cu:∀p∈m.pl,okC (kt p)):Calls prog 3 #[.agg vs,.agg ms] w (Bz w (.bool true)):=by
 have HA:=Ar aw;have HK:=Ar cu;obtain⟨A1,c1,A2,c2,A3,c3,A4,c4,A5,c5,A6,c6,rfl,-⟩:=id hv;obtain⟨M1,d1,M2,d2,rfl,-⟩:=id hm;go_enter func3,ntmps3;go_upto_region 1 with fail;refine Eo λX H hP hK=>?_
 let⟨p0,p1,p2,p3,p4,p5,p6⟩:=st7 hP;let⟨k0,k1,k2,k3,k4,k5⟩:=mk6 hK;have bx:=hv.keep H;have cx:=hm.keep H;go_cut [30] (λv wx=>∃ok:Bool,v=.bool (!ok)/\(ok=true->Ak4 s m.sz.length/\m.pl.length<=8)/\Be X wx)
 case first =>
  by_cases h1:7<m.sz.length
  .have ca:(7:Int)<(m.sz.length:Int):=aK
   go_wp2;go_meet;exact⟨false,rfl,λh=>(by cases h),bl0⟩
  have ca:¬(7:Int)<(m.sz.length:Int):=aK
  by_cases h2:8<m.pl.length
  .have cb:(8:Int)<(m.pl.length:Int):=aK
   go_wp2;go_meet;exact⟨false,rfl,λh=>(by cases h),bl0⟩
  have cb:¬(8:Int)<(m.pl.length:Int):=aK
  go_wp2_with (go_at_call 4;refine aF (kg s m.sz.length bx) λw1 ok J b=>?_)
  go_meet;exact⟨ok,rfl,λh=>⟨J h,aK⟩,b⟩
 obtain⟨ok,rfl,J,I⟩:=hcut;have Y:=hP.keep I;have Q:=hK.keep I;have n:=An H I;have b5:=hv.keep n;have a8:=hm.keep n;let⟨o,q,t,u,y,z,A⟩:=st7 Y;let⟨B,C,D,E,F,G⟩:=mk6 Q;clear hP hK bx cx p0 p1 p2 p3 p4 p5 p6 k0 k1 k2 k3 k4 k5;cases ok with
 | false =>
   go_wp2_with (go_at_call 5;refine rR (HA.out _) λw9 Z=>?_)
   go_ret;exact⟨rfl,An n Z⟩
 | true =>
   let⟨bq,fs⟩:=J rfl;have l:=bq.1;have i:m.pl.length<=1000:=aK
   let⟨c0,K⟩:=Aff s m;let⟨R,hR⟩:=gN (J1 s m)
   rw[hR]at c0 K;have HR:=Ar hR;obtain⟨x,L⟩:=R;dsimp only at c0 K;have HL:=Ar (λk (hk:k<L.length)=>show (lt_ L k).length<=1000000 from by have:=(El (K _ (I9 hk))).2;omega);clear hR K J;have bl:=n;clear n H I
   go_upto_region 4 with (go_at_call 6;refine aF (O3 s m l b5 a8 HK.out i) λw1 v1 ad b=>?_;rw[HR.out]at ad ⊢;dsimp only at ad ⊢;obtain⟨AL,cL,rfl,lL,b9,-⟩:=ad.spss)
   have S:=Y.keep b;have M:=Q.keep b;have ak:=b5.keep b;have a1:=a8.keep b;have bb:=An bl b;clear o q t u y z A B C D E F G Y Q b5 a8 bl;let⟨o,q,t,u,y,z,A⟩:=st7 S;let⟨B,C,D,E,F,G⟩:=mk6 M
   go_upto_region 5 with (go_at_call 7;refine aF (Axa s m l ak a1 i) λw2 v2 ai j=>?_;rw[HR.out]at ai ⊢;dsimp only at ai ⊢;obtain⟨BL,dL,rfl,mL,b7,-⟩:=ai.spss)
   have T:=S.keep j;have N:=M.keep j;have au:=ak.keep j;have a6:=a1.keep j;have bc:=An bb j;clear o q t u y z A B C D E F G S M ak a1 bb;let⟨o,q,t,u,y,z,A⟩:=st7 T;let⟨B,C,D,E,F,G⟩:=mk6 N
   go_upto_region 6 with (go_at_call 8;refine rR (ph s m l au a6 HK.out i) λw3 d=>?_)
   have U:=T.keep d;have O:=N.keep d;have b0:=au.keep d;have a7:=a6.keep d;have bd:=An bc d;clear o q t u y z A B C D E F G T N au a6 bc;let⟨o,q,t,u,y,z,A⟩:=st7 U;let⟨B,C,D,E,F,G⟩:=mk6 O
   go_upto_region 7 with (go_at_call 9;refine rR (Ayi s m l b0 a7 i) λw4 f=>?_)
   have V:=U.keep f;have P:=O.keep f;have bu:=b0.keep f;have bp:=a7.keep f;have cg:=An bd f;clear o q t u y z A B C D E F G U O b0 a7 bd;let⟨o,q,t,u,y,z,A⟩:=st7 V;let⟨B,C,D,E,F,G⟩:=mk6 P;let⟨ck,bm⟩:=gN ((J6 s m).1)
   have b6:=Ar bm;have b1:(ck == ck)=true:=aL
   have b2:(x == x)=true:=aL
   let⟨u1,bs⟩:=gN ((xo s m).1)
   let⟨u2,bt⟩:=gN ((xo s m).2)
   rw[bs,bt];have b3:(u1 == u1)=true:=aL
   have b4:(u2 == u2)=true:=aL
   clear bm bs bt o q t u y z A B C D E F G;have ba:=((b9.keep j).keep d).keep f;have b8:=(b7.keep d).keep f
   have KF:∀W,Be w4 W->(λg=>Cq g w 0 (.string s.nm)/\Cq g w 1 (.slice A1 s.sz.length c1)/\Cq g w 2 (.slice A2 s.mu.length c2)/\Cq g w 3 (.slice A3 s.pc.length c3)/\Cq g w 4 (.slice A4 s.us.length c4)/\Cq g w 5 (.slice A5 s.se.length c5)/\Cq g w 6 (.slice A6 s.no c6)/\Cq g (w+1) 0 m.len/\Cq g (w+1) 1 m.wid/\Cq g (w+1) 2 m.rx/\Cq g (w+1) 3 m.ry/\Cq g (w+1) 4 (.slice M1 m.sz.length d1)/\Cq g (w+1) 5 (.slice M2 m.pl.length d2)) W:=λW h=>by
    let⟨o,q,t,u,y,z,A⟩:=st7 (V.keep h);let⟨B,C,D,E,F,G⟩:=mk6 (P.keep h);exact⟨o,q,t,u,y,z,A,B,C,D,E,F,G⟩
   have a:=Aw (aV w4 w4);clear V P b9 b7;go_upto_region 7 with fail
   go_region_held3 (sB KF)
    (with_reducible exact KF _ a)
    ((first
      | (go_at_call 5;refine rR (HA.out _) λw9 Z=>?_;replace a:=An a Z)
      | (go_at_call 10;(with_reducible refine(ep s m l (bu.keep a) (bp.keep a) HK.out i).mono ?_);rintro e w5 ⟨rfl,cj⟩;rw[b6.out];replace a:=An a cj)
      | (go_at_call 11;(with_reducible refine(Atz s m l (bu.keep a) (bp.keep a) i).mono ?_);rintro e w6 ⟨rfl,cm⟩;rw[b6.out];replace a:=An a cm)
      | (go_at_call 12;(with_reducible refine(Ayk AL BL cL dL L.length L aK HL.out (ba.keep a) (b8.keep a)).mono ?_);rintro e w7 ⟨rfl,cn⟩;replace a:=An a cn)))
   all_goals go_wp2
   all_goals go_ret
   all_goals exact⟨rfl,An cg a⟩
end Go.Proofs.YtboghahlhmnblaaGreat
