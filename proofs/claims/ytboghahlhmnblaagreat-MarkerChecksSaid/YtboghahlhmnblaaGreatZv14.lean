/- Lean texts of the claim. -/
import Derived.Test.YtboghahlhmnblaaGreatZv12
import Derived.Test.YtboghahlhmnblaaGreatZv11
namespace Go.Proofs.YtboghahlhmnblaaGreat
set_option linter.all false
set_option maxRecDepth 100000
set_option maxHeartbeats 0
open Go.RowKit Go.Proofs.Tryz
variable{a:World}{b:Value}{c:Nat}{e:TypeId}{I n:Nat}{F v x:Value}{w:World}
section
open Go.RowKit Limb
theorem Anv(w:World)(a:Nat):Ce w a (.slice none 0 0) 0:=by
 have e:lmb 0=[]:=by rw[lmb];rfl
 refine⟨none,0,?_,?_,aS,⟨rfl,?_⟩,λ_=>rfl,λp b=>by cases b⟩
 .rw[e];rfl
 .rw[e];exact aA
 rw[e];exact .inl rfl
theorem k8(w:World):Calls prog 244 #[.agg #[.bool false,.slice none 0 0,.slice none 0 0]] w λe q=>∃v,e=.returned (.agg #[.bool false,.slice none 0 0,v])/\Ce q w v 1/\Be w q:=by
 have s:Sm 0:=F7 (m:=1) aM;go_in;go_upto_region 1 with fail;refine Eo λX f r o=>?_
 obtain⟨z,A,B,-,-,-,-⟩:=r.triple;have g:=o.lt
 go_wp2_with (first
  | (go_at_call 311;have y:=a;refine aF (R4 1 aK) λH F n d=>?_;have b:=(o.keep a).keep d;let⟨C,D,E,t,u,x,lt⟩:=b.triple;obtain⟨k,p,l,rfl⟩:=n.sl)
  | (go_at_call 310;refine rR (yv (Anv _ 0) s) λG a=>?_))
 obtain⟨h,i,j,-,-,-,-⟩:=(b.set3 (u':=.bool false) (v':=.slice none 0 0) (x':=.slice k p l)).triple;have c:=An a d;exact bR ⟨_,rfl,(n.far3 (aZ g a.size) _ _ _).lower (bB f.size a.size),Dw (An f c)⟩ rfl (by simp[results,results244,go_sem,h,i,j])
theorem Ce.fr2{a g:Nat}(h:Ce w c b a)(d:g<c)(u x:Value):Ce ((w.setCell ⟨g,0,none⟩ u).setCell ⟨g,1,none⟩ x) c b a:=(h.far (p:=⟨g,0,none⟩) d u).far (p:=⟨g,1,none⟩) d x
theorem Ael(h:Be a w)(d:a.heap.size<=c):Be a ((w.setCell ⟨c,0,none⟩ b).setCell ⟨c,1,none⟩ v):=Ba (Ba h (p:=⟨c,0,none⟩) d (u:=b)) (p:=⟨c,1,none⟩) d (u:=v)
theorem Ale:decide (sg false 0<0)=false:=rfl
theorem Aj9(A:Ce w c b 0)(B:Ce w I F 0):Calls prog 245 #[.agg #[.bool false,b],.agg #[.bool false,F]] w (Bz w (.int .i64 0)):=by
 have k:Sm 0:=F7 (m:=1) aM;go_enter func245,ntmps245;go_upto_region 1 with fail;obtain⟨Ax,nx,cx,rfl⟩:=A.sl;obtain⟨Ay,ny,cy,rfl⟩:=B.sl;refine Eo λX l t u=>?_
 have n:=A.keep l;have o:=B.keep l;have g:=t.lt;have h:=u.lt;have D:w.heap.size≠w.heap.size+1:=aK
 have E:w.heap.size+1≠w.heap.size:=aK
 have a:=Aw (aV X X);obtain⟨v,x,-,-,-⟩:=t.pair;obtain⟨y,z,-,-,-⟩:=u.pair;clear A B
 go_region_with (first
  | (go_at_call 312;have P:=d;refine(Wo false (n.keep a) k).mono ?_;rintro e w2 ⟨Y,rfl,⟨T,rfl,j⟩,i⟩;obtain⟨H,V,K,rfl⟩:=j.sl;rw[Ale];replace d:=d.keep i;replace a:=An a i;clear p q r s;have p:=Aq a v;have q:=Aq a x;have r:=Aq a y;have s:=Aq a z;obtain⟨-,-,L,M,Q⟩:=(t.keep a).pair;obtain⟨-,-,N,O,R⟩:=(u.keep a).pair)
  | (go_at_call 312;have P:=d;refine(Wo false (o.keep a) k).mono ?_;rintro e w2 ⟨Y,rfl,⟨T,rfl,j⟩,i⟩;obtain⟨H,V,K,rfl⟩:=j.sl;rw[Ale];replace d:=d.keep i;replace a:=An a i;clear p q r s;have p:=Aq a v;have q:=Aq a x;have r:=Aq a y;have s:=Aq a z;obtain⟨-,-,L,M,Q⟩:=(t.keep a).pair;obtain⟨-,-,N,O,R⟩:=(u.keep a).pair)
  | (go_at_call 312;refine(Wo false (n.keep a) k).mono ?_;rintro e Z ⟨W,rfl,⟨S,rfl,d⟩,f⟩;obtain⟨G,U,J,rfl⟩:=d.sl;rw[Ale];replace a:=An a f;have p:=Aq a v;have q:=Aq a x;have r:=Aq a y;have s:=Aq a z)
  | (go_at_call 312;refine(Wo false (o.keep a) k).mono ?_;rintro e Z ⟨W,rfl,⟨S,rfl,d⟩,f⟩;obtain⟨G,U,J,rfl⟩:=d.sl;rw[Ale];replace a:=An a f;have p:=Aq a v;have q:=Aq a x;have r:=Aq a y;have s:=Aq a z))
 all_goals go_wp2_with (go_at_call 313;(first|refine(Alu ((d.fr2 g _ _).fr2 h _ _) ((j.fr2 (aZ g f.size) _ _).fr2 (aZ h f.size) _ _) k k).mono ?_|refine(Alu ((j.fr2 (aZ g f.size) _ _).fr2 (aZ h f.size) _ _) ((d.fr2 g _ _).fr2 h _ _) k k).mono ?_);rintro e w3 ⟨rfl,C⟩)
 all_goals go_ret
 all_goals exact⟨rfl,An (Ael (Ael (An l a) aA) aK) C⟩
end
section
open Go.RowKit Limb
theorem Air{a:Nat}(h:Bf w c e #[.bool false,.slice none 0 0,x])(k:Bf w a e #[.bool false,.slice none 0 0,b]):
 Cq w c 0 (.bool false)/\Cq w c 1 (.slice none 0 0)/\Cq w c 2 x/\Cq w a 0 (.bool false)/\Cq w a 1 (.slice none 0 0)/\Cq w a 2 b :=
 ⟨(h.cell 0).trans rfl,(h.cell 1).trans rfl,(h.cell 2).trans rfl,(k.cell 0).trans rfl,(k.cell 1).trans rfl,(k.cell 2).trans rfl⟩
theorem An4:P9 w 0 (.agg #[.bool false,.slice none 0 0]) 0:=⟨_,rfl,Anv w 0⟩
theorem An3(h:Ce w c b 1):P9 w c (.agg #[.bool false,b]) 1:=⟨_,rfl,h⟩
theorem Ajx(h:P9 w c b (0*1)):∃m,b=.agg #[.bool false,m]/\Ce w c m 0:=by
 obtain⟨m,e,a⟩:=h;exact⟨m,e,a⟩
theorem Ai8:Calls prog 190 #[.agg #[.bool false,.slice none 0 0,.slice none 0 0],.agg #[.bool false,.slice none 0 0,.slice none 0 0]] w (Bz w (.int .i64 0)):=by
 have A:Sm 0:=F7 (m:=1) aM;have Q:Sm 1:=F7 (m:=1) aM;go_in;go_upto_region 1 with fail;refine Eo λX l j k=>?_
 have c:=j.lt;have d:=k.lt;have g:w.heap.size≠w.heap.size+1:=aK
 have i:w.heap.size+1≠w.heap.size:=aK
 go_cut [6] λv6 z=>∃p v r q x s,Be w z/\Bf z w 184 #[.bool false,.slice none 0 0,.slice p v r]/\Bf z (w+1) 184 #[.bool false,.slice none 0 0,.slice q x s]/\Ce z 0 (.slice p v r) 1/\Ce z 0 (.slice q x s) 1
 case first =>
  have a:=Aw (aV X X);let⟨p0,p1,p2,q0,q1,q2⟩:=Air j k
  go_region_with (first
   | (go_at_call 244;have J:=t;refine aF (k8 _) λU S u f=>?_;obtain⟨q,x,s,rfl⟩:=u.sl;replace t:=t.keep f;replace a:=An a f;clear K L M N O P;let⟨K,L,M,N,O,P⟩:=Air (j.keep a) (k.keep a);obtain⟨-,-,-,V,Y,Z,l0⟩:=(j.keep a).triple;obtain⟨-,-,-,f3,f4,f5,l1⟩:=(k.keep a).triple)
   | (go_at_call 244;refine aF (k8 _) λT v1 t b=>?_;obtain⟨p,v,r,rfl⟩:=t.sl;replace a:=An a b;let⟨K,L,M,N,O,P⟩:=Air (j.keep a) (k.keep a)))
  go_wp2;all_goals go_meet
  all_goals (first
   | exact⟨p,v,r,q,x,s,Dw (Dw (An l a) (hg:=aA)),(j.keep a).set3.far3 g _ _ _,((k.keep a).far3 i _ _ _).set3,((t.far3 c _ _ _).far3 d _ _ _).lower aB,((u.far3 (aZ c b.size) _ _ _).far3 (aZ d b.size) _ _ _).lower aB⟩
   | exact⟨q,x,s,p,v,r,Dw (Dw (An l a) (hg:=aA)),(j.keep a).set3.far3 g _ _ _,((k.keep a).far3 i _ _ _).set3,((u.far3 (aZ c b.size) _ _ _).far3 (aZ d b.size) _ _ _).lower aB,((t.far3 c _ _ _).far3 d _ _ _).lower aB⟩)
 obtain⟨p,v,r,q,x,s,l,j,k,H,I⟩:=hcut;go_upto_region 2 with fail;have a:=Aw (aV wc wc);have D:=H.keep a;have E:=I.keep a
 go_region_held3 (sB λW h=>Air (j.keep h) (k.keep h))
  (with_reducible exact Air (j.keep a) (k.keep a))
  ((first
    | (go_at_call 245;refine rR (Aj9 (u.keep (An n y)) R) λw5 F=>?_;replace a:=An a F)
    | (go_at_call 246;have J:=n;refine aF (Aga (An4) (An3 (D.keep G)) A Q A) λw4 v4 C y=>?_;obtain⟨m4,rfl,R⟩:=Ajx C;replace a:=An a y)
    | (go_at_call 247;have J:=u;refine rR (Alh) λw3 o=>?_;have n:=o;have G:=An (An b f) o;replace a:=An a o)
    | (go_at_call 246;refine aF (Aga (An4) (An3 (E.keep b)) A Q A) λU S B f=>?_;obtain⟨m2,rfl,u⟩:=Ajx B;replace a:=An a f)
    | (go_at_call 247;refine(Alh).mono ?_;rintro e T ⟨rfl,b⟩;replace a:=An a b)))
 go_wp2;go_ret;exact⟨rfl,An l a⟩
end
theorem An6:Calls prog 307 #[.int .i64 2] w λe a=>e=.returned (.tuple #[.int .i64 0,.int .i64 0])/\w=a:=by
 go_in;go_wp2
 go_ret2
 exact⟨rfl,rfl⟩
def exV(s:ByteArray):Array Value:=#[.int .i64 2,.bool false,.slice none 0 0,.slice none 0 0,.string s,.slice none 0 0]
theorem Jd{s:ByteArray}(h:Bf w c e #[.int .i64 2,.bool false,.slice none 0 0,.slice none 0 0,.string s,.slice none 0 0]):
 Cq w c 0 (.int .i64 2)/\Cq w c 1 (.bool false)/\Cq w c 2 (.slice none 0 0)/\Cq w c 3 (.slice none 0 0)/\Cq w c 4 (.string s)/\Cq w c 5 (.slice none 0 0) :=
 ⟨(h.cell 0).trans rfl,(h.cell 1).trans rfl,(h.cell 2).trans rfl,(h.cell 3).trans rfl,(h.cell 4).trans rfl,(h.cell 5).trans rfl⟩
theorem Ra(s:ByteArray):Calls prog 308 #[.string s] w (Bz w (.bool (Cy s))):=by
 cases h:Ow s with
 | true =>
   have:Cy s=false:=by unfold Cy;rw[h];rfl
   rw[this];exact fe s w h
 | false=>exact Wm s w h
theorem Ad8(s:ByteArray):Calls prog 243 #[.agg (exV s)] w (Bz w (.bool (Cy s))):=by
 let⟨b,d⟩:=gN (Cy s)
 have g:=Ar d;rw[d];clear d;unfold exV;go_in;go_upto_region 1 with fail;refine Bq λX c h=>?_
 let⟨k,l,m,n,o,p⟩:=Jd h;cases b with
 | false =>
   go_wp2_with (first
    | (go_at_call 308;refine rR (Ra s) λj a=>?_;rw[g.out])
    | (go_at_call 307;refine aG (An6) ?_))
   go_ret;exact⟨rfl,An c a⟩
 | true =>
   go_wp2_with (first
    | (go_at_call 190;have y:=a;refine rR (Ai8) λz f=>?_)
    | (go_at_call 308;refine rR (Ra s) λj a=>?_;rw[g.out];let⟨q,r,t,u,v,x⟩:=Jd (h.keep a))
    | (go_at_call 307;refine aG (An6) ?_))
   go_ret;exact⟨rfl,An (An c a) f⟩
theorem Akk(s:ByteArray):Calls prog 187 #[.agg (exV s),.int .i64 1] w (Bz w (if Cy s then 0 else 1:Int)):=by
 obtain⟨b,hb⟩:∃b,Cy s=b:=⟨_,rfl⟩
 have HB:=Ar hb;rw[hb];clear hb
 go_in
 go_upto_region 1 with fail;refine Bq fun X hbX hP=>?_
 obtain⟨c0,c1,c2,c3,c4,c5⟩:=Jd hP;have HC:Hid (exV s=#[.int .i64 2,.bool false,.slice none 0 0,.slice none 0 0,.string s,.slice none 0 0]):=Ar rfl;cases b with
 | false =>
   go_wp2_with (go_at_call 243;refine(Ad8 s).mono ?_;rintro e w1 ⟨rfl,hb1⟩;rw[HB.out])
   go_ret;exact⟨rfl,An hbX hb1⟩
 | true =>
   go_upto_region 6 with (go_at_call 243;refine(Ad8 s).mono ?_;rintro e w1 ⟨rfl,hb1⟩;rw[HB.out];obtain⟨d0,d1,d2,d3,d4,d5⟩:=Jd (hP.keep hb1))
   go_loopw [6,7,16] (fun _ _ i wr=>i=.int .i64 0/\wr=w1) (fun _ _ _ _=>0)
   case atStart=>exact⟨rfl,rfl⟩
   case round =>
    obtain⟨rfl,rfl⟩:=hrel;go_wp2;go_ret;exact⟨rfl,An hbX hb1⟩
theorem Ze(s:ByteArray):Calls prog 128 #[.agg (exV s)] w (Bz w (if Cy s then 0 else 1:Int)):=by
 let⟨b,a⟩:=gN (if Cy s then (0:Int) else 1)
 have f:=Ar a;rw[a];clear a;go_in;go_upto_region 1 with fail;refine Bq λX d g=>?_
 let⟨h,i,j,k,l,m⟩:=Jd g
 go_wp2_with (go_at_call 187;refine rR (Akk s) λn c=>?_;rw[f.out])
 go_ret;exact⟨rfl,An d c⟩
theorem Aid{f:Nat}(g:f=194\/f=85)(s:ByteArray)(w:World):Calls prog f #[.string s] w (Bz w (.bool (Cy s))):=by
 rcases g with rfl|rfl
 all_goals
  let⟨b,c⟩:=gN (Cy s)
  have d:=Ar (show (if Cy s then (0:Int) else 1)=if b then 0 else 1 by rw[c]);rw[c];clear c;go_in;cases b with
  | false =>
    go_wp2_with (go_at_call 128;refine rR (Ze s) λh a=>?_;rw[d.out];simp only[Bool.false_eq_true,if_false])
    go_ret;exact⟨rfl,a⟩
  | true =>
    go_wp2_with (go_at_call 128;refine rR (Ze s) λh a=>?_;rw[d.out];simp only[if_true])
    go_ret;exact⟨rfl,a⟩
def Uf:=@Aid 194 (.inl rfl)
def Hp:=@Aid 85 (.inr rfl)
theorem Adp{E:List EdgeP}{n k:Nat}(f:E.length=n)(c:¬16<n)(d:¬n<2)(e:k<n)(b:Fh (Hk E) k=0)(a:Hk E k≠0):C7 E=Hk E k:=by
 unfold C7;rw[f,if_neg c,if_neg d,Mk e b a,if_pos a]
theorem oo{E:List EdgeP}(d:E.length=n)(b:¬16<n)(c:¬n<2)(a:Fh (Hk E) n=0):C7 E=if Bp (J2 E) n then 11 else Bg (Bj E) (Bj E).length:=by
 unfold C7;rw[d,if_neg b,if_neg c,if_neg (by rw[a];simp)]
theorem Gs(A:Option Addr)(D n:Nat)(E:List EdgeP)(ee:n<=D)(hE:EdS w A n E)(hn:n<=9223372036854775807:=by omega):Calls prog 132 #[.slice A n D] w (Bz w (C7 E)):=by
 have d:=hE.1;by_cases h1:16<n
 .have y:=Ar (show C7 E=5 by unfold C7;rw[d,if_pos h1]);clear d;go_in;go_wp2;go_ret;exact⟨by rw[y.out];rfl,bl0⟩
 by_cases h2:n<2
 .have y:=Ar (show C7 E=11 by unfold C7;rw[d,if_neg h1,if_pos h2]);clear d;go_in;go_wp2;go_ret;exact⟨by rw[y.out];rfl,bl0⟩
 have HA:=Ar λk hk I h3=>Adp (E:=E) (n:=n) (k:=k) d h1 h2 hk I h3;have HZ:=Ar λI=>oo (E:=E) (n:=n) d h1 h2 I;have Z:=Ar d;clear d;have ht:=Ea;go_in;go_upto_region 6 with fail;go_loopw [3,4,6,7,19] (λ_ _ _ _ i wr=>∃k:Nat,k<=n/\i=k/\Hid (Fh (Hk E) k=0)/\Be w wr) λ_ _ _ _ i _=>n-(intOf i).toNat
 case atStart=>exact⟨0,aB,rfl,Ar rfl,bl0⟩
 obtain⟨k,hk,rfl,U,v⟩:=hrel;by_cases h:k<n
 .have cw:=hE.keep v;obtain⟨b,dx,rfl,M⟩:=cw.at_ h;let⟨c0,Al,cl,R,q1,q2,H⟩:=M k h;have r:=Ar (show Hk E k=if Cy (edg E k).nm=false then 1 else if Bp (λj=>Gq (edg E j).nm (edg E k).nm) k then 7 else plW (edg E k).ln (edg E k).ln.length from rfl);have HK:=Ar (HA.out k h U.out);let⟨l,hl⟩:=gN ((edg E k).ln)
  let⟨nm,b8⟩:=gN ((edg E k).nm)
  rw[hl]at R q1 H r;rw[b8]at c0 r;generalize hm:l.length=m at R q1 H r;have HC:=Ar M;clear M hl hm b8;have B1:(k:Int)<(n:Int):=aK
  cases hnb:Cy nm with
  | false =>
    have y:=Ar (show C7 E=1 by
     have e:Hk E k=1:=by rw[r.out,hnb];rfl
     rw[<-e];exact HK.out (by rw[e];decide))
    have HN:=Ar hnb;clear hnb;go_upto_region 8 with fail;refine Bq λX K T=>?_
    have p0:Cq X wr 0 (.string nm):=(T.cell 0).trans rfl
    go_wp2_with (go_at_call 194;refine rR (Uf nm _) λw1 F=>?_;rw[HN.out])
    go_ret;exact⟨by rw[y.out];rfl,An (An v K) F⟩
  | true =>
    have W:=Ar (show Hk E k=if Bp (λj=>Gq (edg E j).nm nm) k then 7 else plW l m by rw[r.out,hnb];rfl);have HN:=Ar hnb;clear hnb r;go_upto_region 8 with fail;refine Bq λX K T=>?_
    have p0:Cq X wr 0 (.string nm):=(T.cell 0).trans rfl;have S1:(0:Int)<=(k:Int):=aK
    have S2:(k:Int)<=(D:Int):=aK
    go_upto_region 11 with (go_at_call 194;refine rR (Uf nm _) λw1 F=>?_;rw[HN.out])
    have G:=An K F;have ai:=T.keep F;have cu:=H.keep G;clear p0 S1 S2;go_loopw [6,32] (λ_ i wx=>∃j:Nat,j<=k/\i=j/\Hid (Bp (λj=>Gq (edg E j).nm nm) j=false)/\Be w1 wx) λ_ i _=>k-(intOf i).toNat
    case atStart=>exact⟨0,aB,rfl,Ar (Bp.zero _),bl0⟩
    obtain⟨j,hj,rfl,ba,o⟩:=hrel;by_cases aw:j<k
    .obtain⟨d0,Aj,cj,S,-,-,-⟩:=HC.out j aK;have z:=An G o;have e0:=Aq z d0;have e1:=Aq z S;have f0:=Aq o ((ai.cell 0).trans rfl:_=some (Value.string nm));let⟨x,hx⟩:=gN ((edg E j).nm)
     have HX:=Ar hx;rw[hx]at e0;clear d0 S hx;have S3:(j:Int)<(k:Int):=aK
     go_upto_region 13 with fail;refine Bq λY a cx=>?_
     have g0:Cq Y wr 0 (.string x):=(cx.cell 0).trans rfl;have g1:=Aq a f0;let⟨Q,L⟩:=gN (x.toList == nm.toList)
     have HS:Hid (Gq (edg E j).nm nm=Q):=Ar (by rw[HX.out];exact L);cases Q with
     | true =>
       have y:=Ar (show C7 E=7 by
        have e:Hk E k=7:=by rw[W.out,if_pos (Bp.yes (f:=λj=>Gq (edg E j).nm nm) aw HS.out)]
        rw[<-e];exact HK.out (by rw[e];decide))
       go_wp2;go_ret;exact⟨by rw[y.out];rfl,An (An (An v G) o) a⟩
     | false =>
       have HP:=Bp.succ (f:=λj=>Gq (edg E j).nm nm) ba.out HS.out;go_wp2;exact aE ⟨Ar HP,An o a⟩
    obtain rfl:k=j:=aK
    have C:=Ar (show Hk E k=plW l m by rw[W.out,ba.out];rfl);have f1:=Aq o ((ai.cell 1).trans rfl:_=some (Value.slice Al m cl));have ad:=cu.keep o;have z:=An v (An G o);let⟨pe,P⟩:=gN (plW l m)
    have a6:=Ar P;rw[P]at C;clear P aw;by_cases I:pe=0
    .subst I;have cd:=Ar (show Fh (Hk E) (k+1)=0 by rw[Ga U.out,C.out])
     go_wp2_with (go_at_call 195;refine rR (Ih Al cl m l aK ad) λw3 u=>?_;rw[a6.out])
     exact aE ⟨cd,An z u⟩
    have y:=Ar (show C7 E=pe by rw[<-C.out];exact HK.out (by rw[C.out];exact I));have hf:(pe != 0)=true:=by simpa using I
    clear I
    go_wp2_with (go_at_call 195;refine rR (Ih Al cl m l aK ad) λw3 u=>?_;rw[a6.out])
    go_ret;exact⟨by rw[y.out];rfl,An z u⟩
 obtain rfl:n=k:=aK
 have HO:=Ar (HZ.out U.out)
 have t:=Ar (λi (N:i<n)=>by
  have g:=Ph.1 U.out i N;unfold Hk at g;split at g
  .cases g
  split at g
  .cases g
  exact Er g:∀i,i<n->2<=(edg E i).ln.length/\(edg E i).ln.length<=40)
 clear HZ HA;go_upto_region 21 with fail;obtain⟨wa,rfl⟩:∃wa:World,wa=wr:=⟨_,rfl⟩
 go_loopw [8,9,10,51] (λ_ _ _ i wx=>∃k:Nat,k<=n/\i=k/\Hid (Bp (J2 E) k=false)/\Be w wx) λ_ _ _ i _=>n-(intOf i).toNat
 case atStart=>exact⟨0,aB,rfl,Ar (Bp.zero _),v⟩
 clear v U;obtain⟨k,hk,rfl,hp,v⟩:=hrel;by_cases h:k<n
 .obtain⟨b,dx,rfl,M⟩:=(hE.keep v).at_ h;have b4:(k+1) % n<n:=bE _ aK;have m1:=(Q6 ((k:Int)+1) (k+1) n).2;let⟨c0,A1,cg,R,q1,q2,H⟩:=M k h;let⟨d0,A2,ck,S,r1,r2,r3⟩:=M ((k+1) % n) b4;have c:=Ar (show J2 E k=!eqS (gt (edg E k).ln ((edg E k).ln.length-1)) (gt (edg E ((k+1) % n)).ln 0) by unfold J2;rw[Z.out]);obtain⟨g1,-⟩:=t.out k h;obtain⟨g2,-⟩:=t.out _ b4;let⟨l1,b0⟩:=gN ((edg E k).ln)
  let⟨l2,b3⟩:=gN ((edg E ((k+1) % n)).ln)
  rw[b0]at R q1 H g1 c;rw[b3]at S r1 r3 g2 c;let⟨B,b5⟩:=gN l1.length
  let⟨n2,b7⟩:=gN l2.length
  rw[b5]at R q1 H g1 c;rw[b7]at S r1 r3 g2;obtain⟨b1,o1,rfl,-,-⟩:=H.at_ (show 0<B by omega);obtain⟨b2,o2,rfl,-,-⟩:=r3.at_ (show 0<n2 by omega);let⟨x1,x2⟩:=H.cells (show B-1<B by omega);let⟨y1,y2⟩:=r3.cells (show 0<n2 by omega);let⟨s1,bl⟩:=gN ((edg E k).nm)
  let⟨s2,bm⟩:=gN ((edg E ((k+1) % n)).nm)
  rw[bl]at c0;rw[bm]at d0;let⟨q,b6⟩:∃m,B=m+1:=⟨B-1,aK⟩
  rw[show B-1=q by omega]at x1 x2 c;have hh:(B:Int)-1=(q:Int):=aK
  have ho:q<B:=aK
  clear b6;let⟨⟨px,py⟩,bc⟩:∃p,gt l1 q=p:=⟨_,rfl⟩
  let⟨⟨qx,qy⟩,bd⟩:∃p,gt l2 0=p:=⟨_,rfl⟩
  rw[bc]at x1 x2 c;rw[bd]at y1 y2 c;have hs:b<wr.heap.size:=Bi c0;clear M b0 b3 b5 b7 bl bm bc bd H r3;go_upto_region 24 with fail;refine Eo λY a T hQ=>?_
  have p1:Cq Y wr 1 (.slice (some ⟨b1,o1,none⟩) B cg):=(T.cell 1).trans rfl;have p2:Cq Y (wr+1) 1 (.slice (some ⟨b2,o2,none⟩) n2 ck):=(hQ.cell 1).trans rfl;have X1:=Aq a x1;have X2:=Aq a x2;have Y1:=Aq a y1;have Y2:=Aq a y2;clear x1 x2 y1 y2 c0 R d0 S;have W1:IntKind.i64.wrap ((B:Int)-1)=(q:Int):=aD
  have B1:(0:Int)<=(q:Int):=aK
  have B2:(q:Int)<(B:Int):=aK
  have B3:(0:Int)<(n2:Int):=aK
  have y0:o2+0*2=o2:=aK
  rw[y0]at Y1 Y2;go_quiet (fail);clear W1 B1 B2 B3 y0;generalize L:(!eqS (px,py) (qx,qy))=Q at c ⊢;clear L;cases Q with
  | false =>
    have HP:=Bp.succ (f:=J2 E) hp.out c.out;go_wp2;exact aE ⟨Ar HP,Bd (An v a) _⟩
  | true =>
    have y:=Ar (show C7 E=11 by rw[HO.out,if_pos (Bp.yes (f:=J2 E) h c.out)]);go_wp2;go_ret;exact⟨by rw[y.out];rfl,Bd (An v a) _⟩
 obtain rfl:n=k:=aK
 have J:=Ar (show C7 E=Bg (Bj E) (Bj E).length by rw[HO.out,hp.out];rfl)
 have a1:=Ar (show (Bj E).length<=n*40 by
  have:=Kt (E:=E) (n:=n) (λi N=>⟨by have:=(t.out i N).1;omega,(t.out i N).2⟩) (Nat.le_refl n);unfold Bj;rw[Z.out];exact this)
 generalize hV:Bj E=V at J a1;have cc:=Ar hV;clear hV
 go_wp2_with (first
  | (go_at_call 39;have U:=u;refine rR (Dc A3 c3 nv V au ak) λw4 cy=>?_)
  | (go_at_call 196;refine aF (Uc D n E (hE.keep v) λi N=>⟨by have:=(t.out i N).1;omega,(t.out i N).2⟩) λw3 v3 O u=>?_;rw[cc.out]at O;obtain⟨A3,c3,rfl,au,ak,-⟩:=O.sps;have da:=a1.out;let⟨nv,b9⟩:=gN V.length;rw[b9]at au ak da O J ⊢;clear b9))
 go_ret;exact⟨by rw[J.out];rfl,An (An v u) cy⟩
end Go.Proofs.YtboghahlhmnblaaGreat
