/- Lean texts of the claim. -/
import Derived.Test.YtboghahlhmnblaaGreatZv31
import Derived.Test.YtboghahlhmnblaaGreatZv30
namespace Go.Proofs.YtboghahlhmnblaaGreat
set_option linter.all false
set_option maxRecDepth 100000
set_option maxHeartbeats 0
open Go.RowKit
def Ym(l:LP)(a b c:Int)(pls:List LP):Nat->Int×LP
 | 0=>(0,S9 [] [(a,b),(a,c)] (0,0))
 | k+1=>match Ym l a b c pls k with
   | (x,r)=>if x≠0 then (x,r) else match jx (lt_ pls k) l with
     | (y,sp)=>if y≠0 then (y,[]) else (0,Ma a b c sp r sp.length)
theorem zn(l:LP)(a b c:Int)(pls:List LP):∀k,Ft l a b c pls k=Ym l a b c pls k:=by
 intro k;induction k with
 | zero=>rfl
 | succ k ih=>rw[Ft,Ym,ih,jv]
def Wb(b:Bed4)(l:LP)(pls:List LP):Int×LP :=
 if Bg l l.length≠0 then (Bg l l.length,[])
 else Ym l (wrap64 (-loX l l.length)) (wrap64 (-loY l l.length)) (wrap64 (wrap64 (b.wid-loY l l.length)-wrap64 (hiY l l.length-loY l l.length))) pls pls.length
theorem dj(b:Bed4)(l:LP)(pls:List LP):Dh b l pls=Wb b l pls:=by
 unfold Dh Wb;rw[zn]
def Ag0(b:Bed4)(s:Shp)(a:Bool)(c:Int)(l:LP)(pls:List LP):Int×LP :=
 match Wb b l pls with
 | (x,r)=>if x≠0 then (x,[]) else (0,kd (Fk b.rx b.ry s a c r r.length))
theorem Ab8(b:Bed4)(s:Shp)(a:Bool)(c:Int)(l:LP)(pls:List LP):Iz b s a c l pls=Ag0 b s a c l pls:=by
 unfold Iz Ag0;rw[dj,Rt]
def Aog(b:Bed4)(S:List Shp)(a:List Pt5)(sh:Int)(t:Trn)(E:List End6)(l:LP)(c:Int×LP):Int×List End6 :=
 match c with
 | (y,cs)=>if y≠0 then (y,[]) else match Pg b S a sh t cs with
   | none=>(0,E)
   | some j=>(0,S9 E [td sh t l (gt cs j)] ⟨⟨0,false,0,0,0⟩,0⟩)
def Aoh(b:Bed4)(S:List Shp)(a:List Pt5)(sh:Int)(pls:List LP)(t:Trn)(E:List End6)(q:Int×LP):Int×List End6 :=
 match q with
 | (x,l)=>if x≠0 then (x,[]) else Aog b S a sh t E l (Ag0 b (shp S sh.toNat) t.1 t.2 l pls)
def yd(b:Bed4)(S:List Shp)(c:List Pt5)(sh:Int)(pls:List LP)(a:List Trn):Nat->Int×List End6
 | 0=>(0,[])
 | k+1=>match yd b S c sh pls a k with
   | (e,E)=>if e≠0 then (e,E) else Aoh b S c sh pls (tr a k) E (Br S ⟨sh,(tr a k).1,(tr a k).2,0,0⟩)
theorem Aez(b:Bed4)(S:List Shp)(a:List Pt5)(sh:Int)(pls:List LP)(c:List Trn):∀k,I0 b S a sh pls c k=yd b S a sh pls c k:=by
 intro k;induction k with
 | zero=>rfl
 | succ k ih=>rw[I0,yd,ih,Ab8];rfl
def Ac8(b:Bed4)(S:List Shp)(c:List Pt5)(sh:Int)(a:List Trn)(r:Int×LP×List LP):Int×Pt5 :=
 match r with
 | (x,_,pls)=>if x≠0 then (x,I1) else J8 (yd b S c sh pls a a.length)
def Aim(b:Bed4)(S:List Shp)(a:List Pt5)(sh:Int):Int×Pt5:=Ac8 b S a sh (vp (shp S sh.toNat).grain false) (Gl b S a sh false 0)
theorem Nk(b:Bed4)(S:List Shp)(a:List Pt5)(sh:Int):Gj b S a sh=Aim b S a sh:=by
 unfold Gj Aim Ac8;rw[Aez]
theorem MkV.ln{W:World}{m:MkP}{a b:Option Addr}{d f:Nat}{x:Int}(h:MkV W #[x,m.wid,m.rx,m.ry,.slice a m.sz.length d,.slice b m.pl.length f] m)(l:Int):MkV W #[l,m.wid,m.rx,m.ry,.slice a m.sz.length d,.slice b m.pl.length f] { m with len:=l }:=by
 obtain⟨A,c,i,j,e,g⟩:=h;have e:=eB Array.toList e;simp at e;obtain⟨-,⟨rfl,rfl⟩,rfl,rfl⟩:=e;exact⟨_,_,_,_,rfl,g⟩
instance:DecidableEq PlcP:=fun a b=>decidable_of_iff (a.ga=b.ga/\a.us=b.us/\a.cp=b.cp/\a.fl=b.fl/\a.qu=b.qu/\a.x=b.x/\a.y=b.y) (by cases a;cases b;simp)
instance:DecidableEq Shp:=fun a b=>decidable_of_iff (a.poly=b.poly/\a.grain=b.grain/\a.mat=b.mat/\a.anc=b.anc) (by cases a;cases b;simp)
def Vo:Bed4:=⟨100,20,0,0⟩
def rcA(w:Int):LP:=[(0,0),(w,0),(w,10),(0,10)]
def rcB(w:Int):LP:=[(0,10),(-w,10),(-w,0),(0,0)]
def shA(w:Int):List Shp:=[⟨rcA w,1,false,(0,0)⟩,⟨rcB w,1,false,(0,0)⟩]
def cpA:List PlcP:=[⟨0,0,0,false,0,0,0⟩,⟨0,0,1,true,0,0,0⟩]
def pA0:Pt5:=⟨0,false,0,0,0⟩
def mkA(w z:Int):MkP:=⟨w,20,0,0,[z],[⟨0,0,0,false,0,0,0⟩,⟨0,0,1,true,0,w,10⟩]⟩
theorem Ako:Bc Lc [0]=(0,shA 10,cpA):=Prod.ext aT (Prod.ext aT aT)
theorem Akn:Bc Lc [1]=(0,shA 12,cpA):=Prod.ext aT (Prod.ext aT aT)
theorem Akm:Bc Lc []=(3,[],[]):=Prod.ext aT (Prod.ext aT aT)
theorem Ap3:No (shA 10)=[0,1]:=aT
theorem Ap2:No (shA 12)=[0,1]:=aT
theorem Am7:Gj Vo (shA 10) [] 0=(0,pA0):=by rw[Nk];decide +kernel
theorem Am6:Gj Vo (shA 10) [pA0] 1=(0,⟨1,false,0,10,10⟩):=by rw[Nk];decide +kernel
theorem Am5:Gj Vo (shA 12) [] 0=(0,pA0):=by rw[Nk];decide +kernel
theorem Am4:Gj Vo (shA 12) [pA0] 1=(0,⟨1,false,0,12,10⟩):=by rw[Nk];decide +kernel
theorem Ap1:Jz Vo (shA 10) [0,1]=(0,[pA0,⟨1,false,0,10,10⟩]):=by
 have a:Cp Vo (shA 10) [0,1] 1=(0,[pA0]):=by simp[Cp,gi,Am7]
 have b:Cp Vo (shA 10) [0,1] 2=(0,[pA0,⟨1,false,0,10,10⟩]):=by rw[Cp,a];simp[gi,Am6]
 unfold Jz;rw[if_neg aL];exact b
theorem Ap0:Jz Vo (shA 12) [0,1]=(0,[pA0,⟨1,false,0,12,10⟩]):=by
 have a:Cp Vo (shA 12) [0,1] 1=(0,[pA0]):=by simp[Cp,gi,Am5]
 have b:Cp Vo (shA 12) [0,1] 2=(0,[pA0,⟨1,false,0,12,10⟩]):=by rw[Cp,a];simp[gi,Am4]
 unfold Jz;rw[if_neg aL];exact b
theorem Ap5:Vn (shA 10) [pA0,⟨1,false,0,10,10⟩]=(0,10):=aT
theorem Ap4:Vn (shA 12) [pA0,⟨1,false,0,12,10⟩]=(0,12):=aT
theorem Ap8:Hg Lc Vo [0]=(0,mkA 10 0):=by
 unfold Hg;rw[Ako];dsimp only;rw[Ap3,Ap1];dsimp only;rw[Ap5];rfl
theorem Ap7:Hg Lc Vo [1]=(0,mkA 12 1):=by
 unfold Hg;rw[Akn];dsimp only;rw[Ap2,Ap0];dsimp only;rw[Ap4];rfl
theorem Ap6:Hg Lc Vo []=(3,Qa):=by
 unfold Hg;rw[Akm];rfl
theorem Akl:xo Lc (mkA 10 0)=(400,0):=aT
theorem Am8:(J6 Lc (mkA 10 0)).1=0:=aT
theorem Akp:∃L,J1 Lc (mkA 10 0)=(0,L)/\L.length=2:=⟨(J1 Lc (mkA 10 0)).2,Prod.ext aT rfl,aT⟩
theorem Ame(m:MkP)(w z:Int)(h:m=mkA w z):∀p∈m.pl,okC (kt p):=by
 subst h;intro p a;simp[mkA]at a;rcases a with rfl|rfl<;>(unfold okC kt inR;dsimp only;omega)
theorem in1(w:World)(z:Int):InS (w.alloc (.cells #[z] 3)) (some ⟨w,0,none⟩) 1 [z]:=⟨rfl,.inr ⟨_,0,rfl,λk a=>by (obtain rfl:k=0:=aK);exact((Bf.new w _ _).cell 0).trans rfl⟩⟩
theorem ve(w:World):Calls Tryz.prog 5 #[] w (Bz w (.bool true)):=by
 let⟨s,hs⟩:∃s,s=Lc:=⟨_,rfl⟩
 have d:SmS s:=by rw[hs];exact zu
 have b7:=Ar zt;have S:=Ar Ako;have b9:=Ar Akm;have b8:=Ar Akn;have P:=Ar Ap8;have Q:=Ar Ap7;have b6:=Ar Ap6;have HU:=Ar Akl;have O:=Ar Am8;have R:=Ar Akp;rw[<-hs]at b7 S b9 b8 P Q b6 HU O R;clear hs;let⟨m,hm⟩:∃m,m=mkA 10 0:=⟨_,rfl⟩
 let⟨m1,aw⟩:∃m,m=mkA 12 1:=⟨_,rfl⟩
 have cc:=Ame m 10 0 hm;have ca:m.len=10:=by rw[hm];rfl
 have cb:m.pl.length=2:=by rw[hm];rfl
 have M:m1.len=12:=by rw[aw];rfl
 rw[<-hm]at P HU O R;rw[<-aw]at Q;clear hm aw;have n:=Ar cc;have o:=Ar (show m.pl.length<=1000 by omega);have ba:=Ar (show (Bc s [0]).1=0->(Bc s [0]).2.1.length<20 by rw[S.out];intro _;decide);have bb:=Ar (show (Bc s [1]).1=0->(Bc s [1]).2.1.length<20 by rw[b8.out];intro _;decide);have bc:=Ar (show (Bc s []).1=0->(Bc s []).2.1.length<20 by rw[b9.out];intro h;cases h);clear cc;go_enter Tryz.func5,Tryz.ntmps5
 go_upto_region 2 with (go_at_call 13;refine aF (b7.out _) λw1 vs hS bs=>?_;obtain⟨A1,c1,A2,c2,A3,c3,A4,c4,A5,c5,A6,c6,rfl,-⟩:=id hS)
 refine Bq λX ad hP=>?_
 have a8:=hS.keep ad;have I:=An bs ad;let⟨g1,au⟩:=gN w1.heap.size
 rw[au]at hP;let⟨p,q,r,t,u,v,x⟩:=st7 hP;rw[au];clear au hS bs ad
 go_upto_region 3 with (go_at_call 14;refine(Gr s _ 1 1 [0] aA aK (in1 X 0) d (a8.keep blA)).mono ?_;rintro e w2 ⟨v1,v2,rfl,C,B,cu⟩;rw[S.out]at C B ⊢;dsimp only at C B ⊢;obtain⟨AS,cS,rfl,lS,mS,-⟩:=C.shs aM;obtain⟨AP,cP,rfl,lP,mP,ck⟩:=B.pls;rw[show (shA 10).length=2 from rfl,show cpA.length=2 from rfl]at *;obtain⟨bP,oP,rfl,ak⟩:=ck.at_ (show 0<2 by omega))
 have f:=An blA cu;have U:=hP.keep f;have a6:=a8.keep f;have H:=An I f;let⟨q0,q1,q2,q3,q4,q5,q6⟩:=st7 U;have e0:=ak 0 aK;have e1:=ak 1 aK;clear f hP a8 I p q r t u v x C B ak
 go_upto_region 4 with (go_at_call 15;refine aF (Pu s Vo _ 1 1 [0] (by intro h;cases h) (in1 w2 0) d (a6.keep blA) ba.out) λw3 vm a bt=>?_;rw[P.out]at a ⊢;dsimp only at a ⊢;have y:=a w3 λ_ _ _=>rfl;obtain⟨M1,d1,M2,d2,rfl,-⟩:=id y)
 have D:=An blA bt;rw[ca,cb]at y ⊢;clear a;refine Bq λY ai hM=>?_
 let⟨GM,bl⟩:=gN w3.heap.size
 have b:=An D ai;have z:=y.keep ai;rw[bl]at hM ⊢;have a1:=U.keep b;have k:=a6.keep b;have J:=An H b;have f0:=(e0.keep b).2.2.2.1;have f1:=(e1.keep b).2.2.2.1;simp only[eC,eF,bU]at f0 f1;let⟨N,l1,l2,l3,l4,l5⟩:=mk6 hM;clear D bt y bl b U a6 H q0 q1 q2 q3 q4 q5 q6 e0 e1 ai ca cb;go_upto_region 6 with fail;obtain⟨L,hL,cg⟩:=R;have HL:=Ar hL;clear hL N l1 l2 l3 l4 l5 f0 f1;let⟨N,l1,l2,l3,l4,l5⟩:=mk6 hM;let⟨p,q,r,t,u,v,x⟩:=st7 a1
 go_upto_region 7 with (go_at_call 8;refine rR (ph s m d k z n.out o.out) λw4 c=>?_;rw[HU.out])
 have T:=hM.keep c;have V:=a1.keep c;have E:=An J c;clear N l1 l2 l3 l4 l5 p q r t u v x;let⟨N,l1,l2,l3,l4,l5⟩:=mk6 T;let⟨p,q,r,t,u,v,x⟩:=st7 V
 go_upto_region 8 with (go_at_call 6;refine aF (O3 s m d (k.keep c) (z.keep c) n.out o.out) λw5 v5 b0 l=>?_;rw[HL.out]at b0 ⊢;obtain⟨AL,cL,rfl,-,-,-⟩:=b0.spss;rw[cg])
 have bp:=T.keep l;have W:=V.keep l;have i:=An c l;have F:=An E l;clear N l1 l2 l3 l4 l5 p q r t u v x T V E c l;let⟨N,l1,l2,l3,l4,l5⟩:=mk6 bp;let⟨p,q,r,t,u,v,x⟩:=st7 W
 go_upto_region 10 with (go_at_call 10;refine rR (ep s m d (k.keep i) (z.keep i) n.out o.out) λw6 A=>?_;rw[O.out])
 have Z:=W.keep A;have a7:=(k.keep i).keep A;have G:=An F A;clear N l1 l2 l3 l4 l5 p q r t u v x bp W F A i b0 hM z a1 k J;let⟨p,q,r,t,u,v,x⟩:=st7 Z
 go_upto_region 11 with (go_at_call 15;refine aF (Pu s Vo _ 1 1 [1] (by intro h;cases h) (in1 w6 1) d (a7.keep blA) bb.out) λw7 vm a bu=>?_;rw[Q.out]at a ⊢;dsimp only at a ⊢;obtain⟨K1,k1,K2,k2,rfl,-⟩:=id (a w7 λ_ _ _=>rfl);rw[M])
 refine Bq λY7 K bq=>?_
 have j:=An (An blA bu) K;have cj:=Z.keep j;have cn:=a7.keep j;have bx:=An G j;let⟨G7,bd⟩:=gN w7.heap.size
 rw[bd]at bq ⊢;clear p q r t u v x Z a7 G a bu K bd j M;let⟨p,q,r,t,u,v,x⟩:=st7 cj
 go_upto_region 12 with (go_at_call 15;refine aF (Pu s Vo none 0 0 [] (λ_=>rfl) ⟨rfl,.inl rfl⟩ d cn bc.out) λw8 vm a c0=>?_;rw[b6.out]at a ⊢;dsimp only at a ⊢;obtain⟨N1,j1,N2,j2,rfl,-⟩:=id (a w8 λ_ _ _=>rfl))
 obtain⟨N,-,-,-,-,-⟩:=mk6 ((bq.keep c0).alloc (.cells #[Qa.len,Qa.wid,Qa.rx,Qa.ry,.slice N1 Qa.sz.length j1,.slice N2 Qa.pl.length j2] 34));go_wp2;go_ret;exact⟨rfl,Ao (An bx c0)⟩
end Go.Proofs.YtboghahlhmnblaaGreat
