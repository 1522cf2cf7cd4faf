/- Lean texts of the claim. -/
import Derived.Test.YtlogblbfbihleaaGreatZr17
namespace Go.Proofs.YtlogblbfbihleaaGreat
set_option linter.all false
set_option maxRecDepth 100000
set_option maxHeartbeats 0
open Go.RowKit
variable{a j:World}{b i:Nat}{e:Value}{f:LP}{g:TypeId}{h:List Shp}
def xh (n:Int):Int:=if n<1\/n > 1048576 then 0 else n
def Adv (n:Int):Int:=min (max n (-1048576)) 1048576
def Aji (n p:Int):Int:=if p=0 then 0 else (wrap64 (n.tmod p+p)).tmod p
def Afq (p a b:Int):Int:=wrap64 (a+Aji (wrap64 (b-a)) p)
theorem Qz(n:Int) (w:World):Calls Tryz.prog 292 #[n] w λe a=>e=.returned (.int .i64 (xh n))/\a=w:=by
 go_enter Tryz.func292,Tryz.ntmps292;go_wp2;all_goals go_ret
 all_goals exact⟨Bm (by unfold xh;split<;>omega),rfl⟩
theorem Fw(n:Int) (w:World):Calls Tryz.prog 234 #[n] w λe a=>e=.returned (.int .i64 (Adv n))/\a=w:=by
 go_enter Tryz.func234,Tryz.ntmps234;go_wp2;all_goals go_ret
 all_goals exact⟨Bm (by unfold Adv;omega),rfl⟩
theorem Md(n p:Int) (w:World):Calls Tryz.prog 293 #[n,p] w λe b=>e=.returned (.int .i64 (Aji n p))/\b=w:=by
 by_cases a:p=0
 .subst a;go_in;go_wp2;go_ret;exact⟨Bm rfl,rfl⟩
 have hq:(p == 0)=false:=by simpa using a
 go_in;go_wp2;go_ret;exact⟨Bm (by unfold Aji;rw[if_neg a]),rfl⟩
theorem Yr(p a b:Int) (w:World):Calls Tryz.prog 233 #[p,a,b] w λe c=>e=.returned (.int .i64 (Afq p a b))/\c=w:=by
 go_in
 go_wp2_with (go_at_call 293;refine(Md _ _ _).mono ?_;rintro e d ⟨rfl,rfl⟩)
 go_ret;exact⟨Bm rfl,rfl⟩
theorem Tq(x y:Int) (w:World):Calls Tryz.prog 232 #[.agg #[x,y]] w (Bz w (.agg #[(xh x),(xh y)])):=by
 go_in;go_wp2;refine Ck 7 (by kernel_rfl) (by kernel_rfl) ?_;simp only[List.take_succ_cons,List.take_zero,List.drop_succ_cons,List.drop_zero]
 repeat still_step
 still_call (Qz _ _)
 repeat still_step
 still_call (Qz _ _)
 repeat still_step
 refine wpStill_nil ?_;go_wp2;exact bR ⟨rfl,Aw (Ao blA _)⟩ rfl (by simp[results,Tryz.results232,go_sem])
def Ot (rx a x y:Int):Int×Int:=(Aji (Adv x) (xh rx),Aji (Adv y) (xh a))
def J9 (rx e a b d c:Int):Int×Int:=(Afq (xh rx) (Adv a) (Adv d),Afq (xh e) (Adv b) (Adv c))
theorem oj(rx b x y:Int) (w:World):Calls Tryz.prog 245 #[.agg #[rx,b],.agg #[x,y]] w (Bz w (.agg #[(Ot rx b x y).1,(Ot rx b x y).2])):=by
 go_enter Tryz.func245,Tryz.ntmps245;have j:Bf (((w.alloc (.cells #[rx,b] 40)).alloc (.cells #[x,y] 60)).alloc (.cells #[.int .i64 0,.int .i64 0] 60)) w.heap.size 40 #[rx,b]:=((Bf.new _ _ _).alloc _).alloc _;have k:Bf (((w.alloc (.cells #[rx,b] 40)).alloc (.cells #[x,y] 60)).alloc (.cells #[.int .i64 0,.int .i64 0] 60)) (w.heap.size+1) 60 #[x,y]:=(Bf.new2 _ _ _ _).alloc _;have l:Bf (((w.alloc (.cells #[rx,b] 40)).alloc (.cells #[x,y] 60)).alloc (.cells #[.int .i64 0,.int .i64 0] 60)) (w.heap.size+1+1) 60 #[.int .i64 0,.int .i64 0]:=Bf.new3 _ _ _ _ _;have m:=Ar j;have n:=Ar k;have o:=Ar l;clear j k l
 go_wp2_with (go_at_call 232;refine rR (Tq _ _ _) λE a=>?_;have c:=m.out.keep a;have g:=n.out.keep a;have d:=o.out.keep a;have p:=c.cell 0;have r:=c.cell 1;have u:=c.frozen 0;have z:=c.frozen 1;have s:=g.cell 0;have t:=g.cell 1;have h:=d.cell 0;have i:=d.cell 1;have A:=d.frozen 0;have q:=d.frozen 1;have B:=c.lt;have C:=g.lt;have D:=d.lt;simp only[List.getElem?_toArray,List.getElem?_cons_zero,List.getElem?_cons_succ]at p r s t h i)
 refine Ck 13 (by kernel_rfl) (by kernel_rfl) ?_;simp only[List.take_succ_cons,List.take_zero,List.drop_succ_cons,List.drop_zero]
 repeat still_step
 still_call (Fw _ _)
 repeat still_step
 still_call (Md _ _ _)
 repeat still_step
 still_call (Fw _ _)
 repeat still_step
 still_call (Md _ _ _)
 repeat still_step
 refine wpStill_nil ?_;go_wp2_with fail;exact bR ⟨rfl,by have f:=An (Ao (Ao (Ao (Below.refl _ _) _) _) _) a;(repeat first|exact f|refine Aw ?_|refine Ba ?_ (by dsimp only;omega) _)⟩ rfl (by simp[results,Tryz.results245,go_sem,h,i,Ot])
def Ae7 (rx a b c e d:Int):Bool:=eqS (Ot rx a b c) (Ot rx a e d)
theorem yu(rx g c d f e:Int) (w:World):Calls Tryz.prog 184 #[.agg #[rx,g],.agg #[c,d],.agg #[f,e]] w (Bz w (.bool (Ae7 rx g c d f e))):=by
 have i:=Ea;go_enter Tryz.func184,Tryz.ntmps184;go_wp2_with fail;refine Bh w [(⟨w.heap.size,0,none⟩,.int .i64 rx),(⟨w.heap.size,1,none⟩,.int .i64 g),(⟨w.heap.size+1,0,none⟩,.int .i64 c),(⟨w.heap.size+1,1,none⟩,.int .i64 d),(⟨w.heap.size+1+1,0,none⟩,.int .i64 f),(⟨w.heap.size+1+1,1,none⟩,.int .i64 e)] (by kernel_rfl) (by kernel_rfl) ⟨(Ao (Ao (Ao (Below.refl _ _) _) _) _),by simp only[List.mem_cons,List.not_mem_nil,forall_eq_or_imp,or_false,forall_eq];go_simp⟩ ?_
 repeat
  apply Cx
  .rfl
  .intro k b;have j:=b.2;simp only[List.mem_cons,List.not_mem_nil,forall_eq_or_imp,or_false,forall_eq]at j
   go_simp
   first|rfl|exact Bw b (oj _ _ _ _ _)
  go_simp
 refine wpQuiet_nil ?_;intro k a;have h:=a.1;clear a;go_wp2;go_ret;exact⟨rfl,h⟩
theorem ke(rx f x y d c:Int) (w:World):Calls Tryz.prog 181 #[.agg #[rx,f],.agg #[x,y],.agg #[d,c]] w (Bz w (.agg #[(J9 rx f x y d c).1,(J9 rx f x y d c).2])):=by
 go_enter Tryz.func181,Tryz.ntmps181;let⟨g,a⟩:∃g,g=((((w.alloc (.cells #[rx,f] 40)).alloc (.cells #[x,y] 60)).alloc (.cells #[d,c] 60)).alloc (.cells #[.int .i64 0,.int .i64 0] 60)):=⟨_,rfl⟩
 have o:Bf g w.heap.size 40 #[rx,f]:=by rw[a];exact(((Bf.new _ _ _).alloc _).alloc _).alloc _
 have p:Bf g (w.heap.size+1) 60 #[x,y]:=by rw[a];exact((Bf.new2 _ _ _ _).alloc _).alloc _
 have q:Bf g (w.heap.size+1+1) 60 #[d,c]:=by rw[a];exact(Bf.new3 _ _ _ _ _).alloc _
 have r:Bf g (w.heap.size+1+1+1) 60 #[.int .i64 0,.int .i64 0]:=by
  rw[a];have:=Bf.new (((w.alloc (.cells #[rx,f] 40)).alloc (.cells #[x,y] 60)).alloc (.cells #[d,c] 60)) 60 #[.int .i64 0,.int .i64 0];simpa using this
 subst a;have s:=Ar o;have t:=Ar p;have u:=Ar q;have z:=Ar r;clear o p q r
 go_wp2_with (go_at_call 232;refine rR (Tq _ _ _) λO b=>?_;have h:=s.out.keep b;have k:=t.out.keep b;have l:=u.out.keep b;have i:=z.out.keep b;have A:=h.cell 0;have C:=h.cell 1;have H:=h.frozen 0;have I:=h.frozen 1;have D:=k.cell 0;have E:=k.cell 1;have F:=l.cell 0;have G:=l.cell 1;have m:=i.cell 0;have n:=i.cell 1;have J:=i.frozen 0;have B:=i.frozen 1;have K:=h.lt;have L:=k.lt;have M:=l.lt;have N:=i.lt;simp only[List.getElem?_toArray,List.getElem?_cons_zero,List.getElem?_cons_succ]at A C D E F G m n)
 refine Ck 19 (by kernel_rfl) (by kernel_rfl) ?_;simp only[List.take_succ_cons,List.take_zero,List.drop_succ_cons,List.drop_zero]
 repeat still_step
 still_call (Fw _ _)
 repeat still_step
 still_call (Fw _ _)
 repeat still_step
 still_call (Yr _ _ _ _)
 repeat still_step
 still_call (Fw _ _)
 repeat still_step
 still_call (Fw _ _)
 repeat still_step
 still_call (Yr _ _ _ _)
 repeat still_step
 refine wpStill_nil ?_;go_wp2_with fail;exact bR ⟨rfl,by have j:=An (Ao (Ao (Ao (Ao (Below.refl _ _) _) _) _) _) b;(repeat first|exact j|refine Aw ?_|refine Ba ?_ (by dsimp only;omega) _)⟩ rfl (by simp[results,Tryz.results181,go_sem,m,n,J9])
def Aaj (rx b:Int) (a:Int×Int) (p:Pt5):Bool :=
 !Cc 1048576 a&&(!Cc 1048576 (xk (Cd p.fl p.qu a) (p.x,p.y))&&Ae7 rx b (xk (Cd p.fl p.qu a) (p.x,p.y)).1 (xk (Cd p.fl p.qu a) (p.x,p.y)).2 0 0)
theorem Bf.cells2{w:World}   {v:Value} (h:Bf w b g #[e,v]):Cq w b 0 e/\Cq w b 1 v/\w.frozen? ⟨b,0,none⟩=false/\w.frozen? ⟨b,1,none⟩=false/\b<w.heap.size :=
 ⟨h.cell 0,h.cell 1,h.frozen 0,h.frozen 1,h.lt⟩
theorem Bf.cells5{w:World}   {u1 u2 u3 u4:Value} (h:Bf w b g #[e,u1,u2,u3,u4]):Cq w b 0 e/\Cq w b 1 u1/\Cq w b 2 u2/\Cq w b 3 u3/\Cq w b 4 u4/\b<w.heap.size :=
 ⟨h.cell 0,h.cell 1,h.cell 2,h.cell 3,h.cell 4,h.lt⟩
theorem Bf.cells4{w:World}   {u1 u2 u3:Value} (h:Bf w b g #[e,u1,u2,u3]):Cq w b 0 e/\Cq w b 1 u1/\Cq w b 2 u2/\Cq w b 3 u3/\b<w.heap.size :=
 ⟨h.cell 0,h.cell 1,h.cell 2,h.cell 3,h.lt⟩
theorem O4(rx s j k:Int) (p:Pt5) (w:World) :
 Calls Tryz.prog 131 #[.agg #[rx,s],.agg #[j,k],L7 p] w (Bz w (.bool (Aaj rx s (j,k) p))):=by
 obtain⟨sh,v,D,x,y⟩:=p;unfold L7;dsimp only;let⟨t,c⟩:∃t,t=(((w.alloc (.cells #[rx,s] 40)).alloc (.cells #[j,k] 60)).alloc (.cells #[sh,.bool v,D,x,y] 92)):=⟨_,rfl⟩
 have P:Bf t w.heap.size 40 #[rx,s]:=by rw[c];exact((Bf.new _ _ _).alloc _).alloc _
 have Q:Bf t (w.heap.size+1) 60 #[j,k]:=by rw[c];exact(Bf.new2 _ _ _ _).alloc _
 have R:Bf t (w.heap.size+1+1) 92 #[sh,.bool v,D,x,y]:=by rw[c];exact Bf.new3 _ _ _ _ _
 have z:Be w t:=by rw[c];exact(Ao (Ao (Ao (Below.refl _ _) _) _) _)
 have M:=Ar P;have N:=Ar Q;have O:=Ar R;have m:=Ar z;subst c;clear P Q R z;by_cases F:Cc 1048576 (j,k)=true
 .have A:Aaj rx s (j,k) ⟨sh,v,D,x,y⟩=false:=by unfold Aaj;rw[F];rfl
  have i:=Ar A;clear A;go_enter Tryz.func131,Tryz.ntmps131
  go_wp2_with (go_at_call 56;refine rR (Dz _ _ _) λS a=>?_)
  go_ret;exact⟨Bn i.out.symm,An m.out a⟩
 have G:Cc 1048576 (j,k)=false:=by simpa using F
 clear F;let⟨I,n⟩:=gN (Cd v D (j,k))
 obtain⟨B,C⟩:=I;have u:=Ar n;have A:Aaj rx s (j,k) ⟨sh,v,D,x,y⟩=(!Cc 1048576 (wrap64 (B+x),wrap64 (C+y))&&Ae7 rx s (wrap64 (B+x)) (wrap64 (C+y)) 0 0):=by unfold Aaj;rw[G,n];rfl
 have i:=Ar A;clear A n;by_cases o:Cc 1048576 (wrap64 (B+x),wrap64 (C+y))=true
 .have h:True:=trivial;go_enter Tryz.func131,Tryz.ntmps131
  go_wp2_with (first|(go_at_call 41;refine rR (G8 _ _ _ _ _) λT b=>?_;rw[u.out];have K:=f.keep b;have r:=g.keep b;have l:=q.keep b;let⟨c1,c2,c3,c4,c5,c6⟩:=r.cells5;let⟨n1,n2,n3,n4,n5⟩:=l.cells2)|(go_at_call 56;first|(have _t:=h;refine rR (Dz _ _ _) λS a=>?_;clear h;have f:=N.out.keep a;have g:=O.out.keep a;have q:=M.out.keep a;let⟨U,V,W,X,Y⟩:=f.cells2;let⟨Z,b2,b3,b4,b5,b6⟩:=g.cells5)|(refine rR (Dz _ _ _) λw3 d=>?_)))
  go_ret;exact⟨Bn (by rw[i.out,o];rfl),An (Ao (An (An m.out a) b) _) d⟩
 have H:Cc 1048576 (wrap64 (B+x),wrap64 (C+y))=false:=by simpa using o
 clear o;have h:True:=trivial;go_enter Tryz.func131,Tryz.ntmps131
 go_wp2_with (first|(go_at_call 41;refine rR (G8 _ _ _ _ _) λT b=>?_;rw[u.out];have K:=f.keep b;have r:=g.keep b;have l:=q.keep b;let⟨c1,c2,c3,c4,c5,c6⟩:=r.cells5;let⟨n1,n2,n3,n4,n5⟩:=l.cells2)|(go_at_call 56;first|(have _t:=h;refine rR (Dz _ _ _) λS a=>?_;clear h;have f:=N.out.keep a;have g:=O.out.keep a;have q:=M.out.keep a;let⟨U,V,W,X,Y⟩:=f.cells2;let⟨Z,b2,b3,b4,b5,b6⟩:=g.cells5)|(refine rR (Dz _ _ _) λw3 d=>?_;have J:=(l.alloc _).keep d;have L:=Bf.keep (Bf.new T 60 #[(wrap64 (B+x)),(wrap64 (C+y))]) d;let⟨m1,m2,m3,m4,m5⟩:=J.cells2;let⟨r1,r2,r3,r4,r5⟩:=L.cells2))|(go_at_call 184;refine rR (yu _ _ _ _ _ _ _) λw4 E=>?_))
 go_ret;exact⟨Bn (by rw[i.out,H];rfl),An (An (Ao (An (An m.out a) b) _) d) E⟩
structure Bed4 where
 len:Int
 wid:Int
 rx:Int
 ry:Int
def Jw (b:Bed4):Value:=.agg #[b.len,b.wid,b.rx,b.ry]
def Gg (b:Bed4):Bool:=decide (b.len<1) || decide (b.len > 1048576) || decide (b.wid<1) || decide (b.wid > 1048576)
def Ou (b:Bed4) (v:Int×Int):Bool:=decide (v.1<0) || decide (v.1 > b.len) || decide (v.2<0) || decide (v.2 > b.wid)
def J3 (S:List Shp) (a:LP) (b:List Pt5):Nat->Int
 | 0=>0
 | k+1=>if J3 S a b k≠0 then J3 S a b k else if (Br S (pt b k)).1≠0 then (Br S (pt b k)).1 else if (Gm (Br S (pt b k)).2 a).2≠0 then (Gm (Br S (pt b k)).2 a).2 else if (Gm (Br S (pt b k)).2 a).1 then 14 else 0
def so (b:Bed4) (S:List Shp) (a:List Pt5) (p:Pt5) (s:Shp) (r:LP):Int :=
 if Acf s.grain false p.fl p.qu=false then 12 else if Bp (λi=>Ou b (gt r i)) r.length then 13 else if s.mat&&!Aaj b.rx b.ry s.anc p then 15 else J3 S r a a.length
def Ha (b:Bed4) (S:List Shp) (a:List Pt5) (p:Pt5):Int :=
 if Gg b then 3 else if (Br S p).1≠0 then (Br S p).1 else so b S a p (shp S p.sh.toNat) (Br S p).2
theorem H5{a:List Pt5}  {x:Int} (c:J3 h f a b=x) (d:x≠0):∀m,J3 h f a (b+m)=x:=by
 intro m;induction m with
 | zero=>exact c
 | succ m ih=>rw[<-Nat.add_assoc,J3,if_pos (by rw[ih];exact d)];exact ih
theorem F9(S:List Shp) (p:Pt5):(Br S p).2.length<=40:=by
 unfold Br;split
 .simp
 unfold La;split
 .simp
 split
 .simp
 rename_i h _
 show (Yv _ _).length<=40
 rw[Ld,E8];exact(El (by simpa using h)).2
theorem Yl{p:Pt5} (a:(Br h p).1=0):∃k:Nat,p.sh=(k:Int)/\k<h.length/\p.sh.toNat=k:=by
 unfold Br at a;split at a
 .cases a
 rename_i b;simp only[not_or]at b;exact⟨p.sh.toNat,by omega,by omega,rfl⟩
theorem Akj(c d:Option Addr) (e f g h:Nat) (b:Bed4) (S:List Shp) (k:List Pt5) (p:Pt5) (w:World) (a:Gg b=true) :
 Calls Tryz.prog 86 #[Jw b,.slice c g e,.slice d h f,L7 p] w (Bz w (.int .i64 3)):=by
 obtain⟨sh,j,l,x,y⟩:=p;obtain⟨len,i,rx,m⟩:=b;unfold L7 Jw;unfold Gg at a;simp only[Bool.or_eq_true,decide_eq_true_eq]at a;dsimp only at a ⊢;go_enter Tryz.func86,Tryz.ntmps86;go_upto_region 3 with fail
 all_goals first
  | (go_ret;exact⟨rfl,(Ao (Ao (Below.refl _ _) _) _)⟩)
  | (exfalso;omega)
theorem Aki(f j:Option Addr) (l m i s:Nat) (b:Bed4) (S:List Shp) (v:List Pt5) (p:Pt5) (w:World) (o:ShS w f i S) (g:Gg b=false) (h:¬(Br S p).1=0) :
 Calls Tryz.prog 86 #[Jw b,.slice f i l,.slice j s m,L7 p] w (Bz w (.int .i64 (Br S p).1)):=by
 have a:((Br S p).1 != 0)=true:=by simpa using h
 clear h;obtain⟨len,u,rx,B⟩:=b;unfold Gg at g;simp only[Bool.or_eq_false_iff,decide_eq_false_iff_not]at g;let⟨r,d⟩:=gN (Br S p)
 rw[d]at a ⊢;have k:=Ar d;clear d;obtain⟨z,A⟩:=r;dsimp only at a ⊢;obtain⟨sh,n,t,x,y⟩:=p;unfold L7 Jw;dsimp only;go_enter Tryz.func86,Tryz.ntmps86
 go_wp2_with (go_at_call 34;refine(Cf _ _ _ S ⟨sh,n,t,x,y⟩ _ (o.keep (Ao (Ao (Below.refl _ _) _) _))).mono ?_;rintro e D ⟨C,rfl,q,c⟩;rw[k.out])
 go_ret;exact⟨rfl,An (Ao (Ao (Below.refl _ _) _) _) c⟩
theorem Akh(A1 A2:Option Addr) (c1 c2 n1 m:Nat) (b:Bed4) (S:List Shp) (u:List Pt5) (p:Pt5) (w:World) (j9:m<=1000000) (hS:ShS w A1 n1 S) (e7:PuS w A2 m u) (hb:Gg b=false) (R:(Br S p).1=0) :
 Calls Tryz.prog 86 #[Jw b,.slice A1 n1 c1,.slice A2 m c2,L7 p] w (Bz w (so b S u p (shp S p.sh.toNat) (Br S p).2)):=by
 let⟨k,hk,ec,ee⟩:=Yl R;rw[ee];clear ee;obtain⟨len,L,rx,Z⟩:=b;unfold Gg at hb;simp only[Bool.or_eq_false_iff,decide_eq_false_iff_not]at hb;have b8:=F9 S p;let⟨r,hr⟩:=gN (Br S p)
 rw[hr]at R b8 ⊢;have HR:=Ar hr;clear hr;obtain⟨r1,r⟩:=r;dsimp only at R b8 ⊢;subst R;obtain⟨sh,O,P,x,y⟩:=p;dsimp only at hk;subst hk;have h4:k<n1:=by rw[<-hS.1];exact ec
 have j2:=hS.2.1;clear ec;obtain⟨ba,oa,rfl,a8,Ak,ck,g1,g2,g3,g4,g5,g6,g7,g8,g9⟩:=hS.at_ h4;let⟨s,hs⟩:=gN (shp S k)
 rw[hs]at g1 g2 g4 g6 g7 g8 g9 ⊢;have j6:=Ar hs;clear hs;obtain⟨pl,gr,mt,⟨ax,ay⟩⟩:=s;dsimp only at g1 g2 g4 g6 g7 g8 g9;let⟨ad,au⟩:=gN pl.length
 rw[au]at g1 g2 g4;clear au g4 g2;unfold L7 Jw;dsimp only;let⟨cu,e8⟩:∃cu:Bed4,cu=⟨len,L,rx,Z⟩:=⟨_,rfl⟩
 let⟨pp,h5⟩:∃pp:Pt5,pp=⟨(k:Int),O,P,x,y⟩:=⟨_,rfl⟩
 let⟨aw,W⟩:=gN (so ⟨len,L,rx,Z⟩ S u ⟨(k:Int),O,P,x,y⟩ ⟨pl,gr,mt,(ax,ay)⟩ r)
 rw[W];have c:=Ar (show aw=if Acf gr false O P=false then 12 else if Bp (λi=>Ou ⟨len,L,rx,Z⟩ (gt r i)) r.length then 13 else if mt&&!Aaj rx Z (ax,ay) ⟨(k:Int),O,P,x,y⟩ then 15 else J3 S r u u.length from W.symm);clear W;let⟨W2,a6⟩:∃W2,W2=((w.alloc (.cells #[len,L,rx,Z] 57)).alloc (.cells #[(k:Int),.bool O,P,x,y] 92)):=⟨_,rfl⟩
 have h0:Bf W2 w.heap.size 57 #[len,L,rx,Z]:=by rw[a6];exact(Bf.new _ _ _).alloc _
 have h1:Bf W2 (w.heap.size+1) 92 #[(k:Int),.bool O,P,x,y]:=by rw[a6];exact Bf.new2 _ _ _ _
 have e9:Be w W2:=by rw[a6];exact(Ao (Ao (Below.refl _ _) _) _)
 have H0:=Ar h0;have H1:=Ar h1;have Q:=Ar e9;subst a6;clear h0 h1 e9 e8 h5;by_cases ha:Acf gr false O P=true
 .rw[if_neg (by rw[ha];simp)] at c;go_enter Tryz.func86,Tryz.ntmps86
  go_upto_region 9 with (first|(go_at_call 34;refine(Cf _ _ _ S ⟨(k:Int),O,P,x,y⟩ _ (hS.keep Q.out)).mono ?_;rintro e w1 ⟨v1,rfl,l,F⟩;rw[HR.out]at l ⊢;have X:=H0.out.keep F;have Y:=H1.out.keep F;let⟨a1,a2,a3,a4,a5⟩:=X.cells4;let⟨b1,b2,b3,b4,b5,b6⟩:=Y.cells5;have n:=An Q.out F;have e1:=Aq n g1;have e2:=Aq n g6;have e3:=Aq n g7;have e4:=Aq n g8;have e5:=Aq n g9)|(go_at_call 125;refine rR (It _ _ _ _ _) λw2 K=>?_))
  have o:Be w w2:=An (Ao n _) K;have K0:=(X.alloc _).keep K;have K1:=(Y.alloc _).keep K;have K2:=(Bf.new w1 72 #[.slice Ak ad ck,gr,.bool mt,ax,ay]).keep K;have t:=OwG.keep (OwG.alloc l (.cells #[.slice Ak ad ck,gr,.bool mt,ax,ay] 72)) K;let⟨c6,ar⟩:∃c6,c6=w1.heap.size:=⟨_,rfl⟩
  rw[<-ar]at K2 ⊢;obtain⟨A9,c9,rfl,M,I,-,-⟩:=OwS.els t;have J:=hS.keep o;have D:=e7.keep o;have fs:=Ar K0;have fv:=Ar K1;have gf:=Ar K2;clear l t a1 a2 a3 a4 a5 b1 b2 b3 b4 b5 b6 e1 e2 e3 e4 e5 X Y F K n ar K0 K1 K2 g1 g6 g7 g8 g9 a8 hS e7 H0 H1 Q;let⟨nr,eg⟩:=gN r.length
  rw[eg]at M I b8 c ⊢;clear eg;go_wp2_with fail;go_loopw [59] (λi wr=>∃j:Nat,j<=nr/\i=.int .i64 j/\Hid (Bp (λi=>Ou ⟨len,L,rx,Z⟩ (gt r i)) j=false)/\Be w2 wr) λi _=>nr-(intOf i).toNat
  case atStart=>exact⟨0,Nat.zero_le _,rfl,Ar (Bp.zero _),bl0⟩
  obtain⟨j,hj,rfl,R,d⟩:=hrel;let⟨a1,a2,a3,a4,a5⟩:=(fs.out.keep d).cells4;by_cases b7:j<nr
  .obtain⟨bb,ob,rfl,a8,hc⟩:=(I.keep d).at_ b7;let⟨d1,d2⟩:=hc j b7;clear hc a3 a4;by_cases hq:Ou ⟨len,L,rx,Z⟩ (gt r j)=true
   .have HQ:=Ar hq;unfold Ou at hq;simp only[Bool.or_eq_true,decide_eq_true_eq]at hq;rw[if_pos (Bp.yes b7 HQ.out)]at c;go_wp2_with fail
    all_goals first
     | (go_ret;exact⟨Bm c.out.symm,An o (Ao d _)⟩)
     | (exfalso;omega)
   have HQ:=Ar (show Ou ⟨len,L,rx,Z⟩ (gt r j)=false by simpa using hq);unfold Ou at hq;simp only[Bool.or_eq_true,decide_eq_true_eq,not_or]at hq;go_wp2_with fail
   all_goals first
    | exact⟨⟨j+1,by omega,by go_num,Ar (Bp.succ R.out HQ.out),Ao d _⟩,by simp[intOf];omega⟩
    | (exfalso;omega)
  obtain rfl:nr=j:=by omega
  rw[if_neg (by rw[R.out];simp)] at c;let⟨b1,b2,b3,b4,b5,b6⟩:=(fv.out.keep d).cells5;let⟨e1,e2,e3,e4,e5,e6⟩:=(gf.out.keep d).cells5;cases mt with
  | true =>
    rw[Bool.true_and]at c;by_cases hm:Aaj rx Z (ax,ay) ⟨(k:Int),O,P,x,y⟩=true
    .rw[hm,if_neg (by simp)]at c
     go_wp2_with (go_at_call 131;refine rR (O4 _ _ _ _ ⟨(k:Int),O,P,x,y⟩ _) λw3 a7=>?_)
     clear a1 a2 a3 a4 a5 b1 b2 b3 b4 b5 b6 e1 e2 e3 e4 e5 e6;go_loopw [99] (λi wx=>∃j:Nat,j<=m/\i=.int .i64 j/\Hid (J3 S r u j=0)/\Be w2 wx) λi _=>m-(intOf i).toNat
     case atStart=>exact⟨0,Nat.zero_le _,rfl,Ar rfl,An d a7⟩
     clear d a7;obtain⟨j,hj,rfl,R,d⟩:=hrel;by_cases T:j<m
     .obtain⟨bb,ob,rfl,a8,d1,d2,d3,d4,d5⟩:=(D.keep d).at_ T;have V:=F9 S (pt u j);have a:=Ar (show J3 S r u (j+1)=if (Br S (pt u j)).1≠0 then (Br S (pt u j)).1 else if (Gm (Br S (pt u j)).2 r).2≠0 then (Gm (Br S (pt u j)).2 r).2 else if (Gm (Br S (pt u j)).2 r).1 then 14 else 0 by rw[J3,if_neg (by rw[R.out];simp)]);let⟨qq,N⟩:=gN (Br S (pt u j))
      rw[N]at V a;have v:=Ar N;clear N;obtain⟨q1,q⟩:=qq;dsimp only at V a;let⟨pq,U⟩:=gN (pt u j)
      rw[U]at d1 d2 d3 d4 d5 v;clear U;obtain⟨H,E,G,x2,y2⟩:=pq;dsimp only at d1 d2 d3 d4 d5;by_cases C:q1=0
      .subst C;rw[if_neg (by simp)]at a;by_cases l:(Gm q r).2=0
       .rw[if_neg (by rw[l];simp)] at a;by_cases t:(Gm q r).1=true
        .rw[if_pos t]at a;have f:=H5 a.out (by omega) (m-(j+1));rw[show j+1+(m-(j+1))=m by omega]at f;rw[D.1,f]at c;clear f
         go_wp2_with (first|(go_at_call 34;refine(Cf _ _ _ S ⟨H,E,G,x2,y2⟩ _ (J.keep (Ao d _))).mono ?_;rintro e w5 ⟨v5,rfl,h,g⟩;rw[v.out]at h ⊢;obtain⟨A5,c5,rfl,B,z,-,-⟩:=OwS.els h)|(go_at_call 132;refine rR (Fu _ _ _ _ _ _ q r _ (by omega) (by omega) B M z (I.keep (An (Ao d _) g))) λw6 A=>?_))
         go_ret;exact⟨Bm c.out.symm,An o (An (An (Ao d _) g) A)⟩
        have ek:(Gm q r).1=false:=by simpa using t
        rw[if_neg t]at a;clear t
        go_wp2_with (first|(go_at_call 34;refine(Cf _ _ _ S ⟨H,E,G,x2,y2⟩ _ (J.keep (Ao d _))).mono ?_;rintro e w5 ⟨v5,rfl,h,g⟩;rw[v.out]at h ⊢;obtain⟨A5,c5,rfl,B,z,-,-⟩:=OwS.els h)|(go_at_call 132;refine rR (Fu _ _ _ _ _ _ q r _ (by omega) (by omega) B M z (I.keep (An (Ao d _) g))) λw6 A=>?_))
        exact⟨⟨j+1,by omega,by go_num,a,An (An (Ao d _) g) A⟩,by simp[intOf];omega⟩
       have qo:((Gm q r).2 != 0)=true:=by simpa using l
       rw[if_pos l]at a;have f:=H5 a.out l (m-(j+1));rw[show j+1+(m-(j+1))=m by omega]at f;rw[D.1,f]at c;clear f l
       go_wp2_with (first|(go_at_call 34;refine(Cf _ _ _ S ⟨H,E,G,x2,y2⟩ _ (J.keep (Ao d _))).mono ?_;rintro e w5 ⟨v5,rfl,h,g⟩;rw[v.out]at h ⊢;obtain⟨A5,c5,rfl,B,z,-,-⟩:=OwS.els h)|(go_at_call 132;refine rR (Fu _ _ _ _ _ _ q r _ (by omega) (by omega) B M z (I.keep (An (Ao d _) g))) λw6 A=>?_))
       go_ret;exact⟨Bm c.out.symm,An o (An (An (Ao d _) g) A)⟩
      have qo:(q1 != 0)=true:=by simpa using C
      rw[if_pos C]at a;have f:=H5 a.out C (m-(j+1));rw[show j+1+(m-(j+1))=m by omega]at f;rw[D.1,f]at c;clear f C
      go_wp2_with (go_at_call 34;refine(Cf _ _ _ S ⟨H,E,G,x2,y2⟩ _ (J.keep (Ao d _))).mono ?_;rintro e w5 ⟨v5,rfl,h,g⟩;rw[v.out])
      go_ret;exact⟨Bm c.out.symm,An o (An (Ao d _) g)⟩
     obtain rfl:m=j:=by omega
     rw[D.1,R.out]at c;go_wp2_with fail;go_ret;exact⟨Bm c.out.symm,An o d⟩
    have h3:Aaj rx Z (ax,ay) ⟨(k:Int),O,P,x,y⟩=false:=by simpa using hm
    rw[h3,if_pos (by decide)]at c;clear hm
    go_wp2_with (go_at_call 131;refine rR (O4 _ _ _ _ ⟨(k:Int),O,P,x,y⟩ _) λw3 a7=>?_)
    go_ret;exact⟨Bm c.out.symm,An o (An d a7)⟩
  | false =>
    rw[Bool.false_and,if_neg (by simp)]at c
    go_wp2_with fail;clear a1 a2 a3 a4 a5 b1 b2 b3 b4 b5 b6 e1 e2 e3 e4 e5 e6;go_loopw [99] (λi wx=>∃j:Nat,j<=m/\i=.int .i64 j/\Hid (J3 S r u j=0)/\Be w2 wx) λi _=>m-(intOf i).toNat
    case atStart=>exact⟨0,Nat.zero_le _,rfl,Ar rfl,d⟩
    clear d ;obtain⟨j,hj,rfl,R,d⟩:=hrel;by_cases T:j<m
    .obtain⟨bb,ob,rfl,a8,d1,d2,d3,d4,d5⟩:=(D.keep d).at_ T;have V:=F9 S (pt u j);have a:=Ar (show J3 S r u (j+1)=if (Br S (pt u j)).1≠0 then (Br S (pt u j)).1 else if (Gm (Br S (pt u j)).2 r).2≠0 then (Gm (Br S (pt u j)).2 r).2 else if (Gm (Br S (pt u j)).2 r).1 then 14 else 0 by rw[J3,if_neg (by rw[R.out];simp)]);let⟨qq,N⟩:=gN (Br S (pt u j))
     rw[N]at V a;have v:=Ar N;clear N;obtain⟨q1,q⟩:=qq;dsimp only at V a;let⟨pq,U⟩:=gN (pt u j)
     rw[U]at d1 d2 d3 d4 d5 v;clear U;obtain⟨H,E,G,x2,y2⟩:=pq;dsimp only at d1 d2 d3 d4 d5;by_cases C:q1=0
     .subst C;rw[if_neg (by simp)]at a;by_cases l:(Gm q r).2=0
      .rw[if_neg (by rw[l];simp)] at a;by_cases t:(Gm q r).1=true
       .rw[if_pos t]at a;have f:=H5 a.out (by omega) (m-(j+1));rw[show j+1+(m-(j+1))=m by omega]at f;rw[D.1,f]at c;clear f
        go_wp2_with (first|(go_at_call 34;refine(Cf _ _ _ S ⟨H,E,G,x2,y2⟩ _ (J.keep (Ao d _))).mono ?_;rintro e w5 ⟨v5,rfl,h,g⟩;rw[v.out]at h ⊢;obtain⟨A5,c5,rfl,B,z,-,-⟩:=OwS.els h)|(go_at_call 132;refine rR (Fu _ _ _ _ _ _ q r _ (by omega) (by omega) B M z (I.keep (An (Ao d _) g))) λw6 A=>?_))
        go_ret;exact⟨Bm c.out.symm,An o (An (An (Ao d _) g) A)⟩
       have ek:(Gm q r).1=false:=by simpa using t
       rw[if_neg t]at a;clear t
       go_wp2_with (first|(go_at_call 34;refine(Cf _ _ _ S ⟨H,E,G,x2,y2⟩ _ (J.keep (Ao d _))).mono ?_;rintro e w5 ⟨v5,rfl,h,g⟩;rw[v.out]at h ⊢;obtain⟨A5,c5,rfl,B,z,-,-⟩:=OwS.els h)|(go_at_call 132;refine rR (Fu _ _ _ _ _ _ q r _ (by omega) (by omega) B M z (I.keep (An (Ao d _) g))) λw6 A=>?_))
       exact⟨⟨j+1,by omega,by go_num,a,An (An (Ao d _) g) A⟩,by simp[intOf];omega⟩
      have qo:((Gm q r).2 != 0)=true:=by simpa using l
      rw[if_pos l]at a;have f:=H5 a.out l (m-(j+1));rw[show j+1+(m-(j+1))=m by omega]at f;rw[D.1,f]at c;clear f l
      go_wp2_with (first|(go_at_call 34;refine(Cf _ _ _ S ⟨H,E,G,x2,y2⟩ _ (J.keep (Ao d _))).mono ?_;rintro e w5 ⟨v5,rfl,h,g⟩;rw[v.out]at h ⊢;obtain⟨A5,c5,rfl,B,z,-,-⟩:=OwS.els h)|(go_at_call 132;refine rR (Fu _ _ _ _ _ _ q r _ (by omega) (by omega) B M z (I.keep (An (Ao d _) g))) λw6 A=>?_))
      go_ret;exact⟨Bm c.out.symm,An o (An (An (Ao d _) g) A)⟩
     have qo:(q1 != 0)=true:=by simpa using C
     rw[if_pos C]at a;have f:=H5 a.out C (m-(j+1));rw[show j+1+(m-(j+1))=m by omega]at f;rw[D.1,f]at c;clear f C
     go_wp2_with (go_at_call 34;refine(Cf _ _ _ S ⟨H,E,G,x2,y2⟩ _ (J.keep (Ao d _))).mono ?_;rintro e w5 ⟨v5,rfl,h,g⟩;rw[v.out])
     go_ret;exact⟨Bm c.out.symm,An o (An (Ao d _) g)⟩
    obtain rfl:m=j:=by omega
    rw[D.1,R.out]at c;go_wp2_with fail;go_ret;exact⟨Bm c.out.symm,An o d⟩
 have gy:Acf gr false O P=false:=by simpa using ha
 rw[if_pos gy]at c;clear ha;go_enter Tryz.func86,Tryz.ntmps86
 go_wp2_with (first|(go_at_call 34;refine(Cf _ _ _ S ⟨(k:Int),O,P,x,y⟩ _ (hS.keep Q.out)).mono ?_;rintro e w1 ⟨v1,rfl,l,F⟩;rw[HR.out]at l ⊢;have X:=H0.out.keep F;have Y:=H1.out.keep F;let⟨a1,a2,a3,a4,a5⟩:=X.cells4;let⟨b1,b2,b3,b4,b5,b6⟩:=Y.cells5;have n:=An Q.out F;have e1:=Aq n g1;have e2:=Aq n g6;have e3:=Aq n g7;have e4:=Aq n g8;have e5:=Aq n g9)|(go_at_call 125;refine rR (It _ _ _ _ _) λw2 K=>?_))
 go_ret;exact⟨Bm c.out.symm,An (Ao (An Q.out F) _) K⟩
theorem Sq(e f:Option Addr) (h i g d:Nat) (b:Bed4) (S:List Shp) (a:List Pt5) (p:Pt5) (w:World) (l:d<=1000000) (m:ShS w e g S) (k:PuS w f d a) :
 Calls Tryz.prog 86 #[Jw b,.slice e g h,.slice f d i,L7 p] w (Bz w (Ha b S a p)):=by
 by_cases c:Gg b=true
 .rw[show Ha b S a p=3 by unfold Ha;rw[if_pos c]];exact Akj e f h i g d b S a p w c
 by_cases j:(Br S p).1=0
 .rw[show Ha b S a p=so b S a p (shp S p.sh.toNat) (Br S p).2 by unfold Ha;rw[if_neg c,if_neg (by rw[j];simp)]];exact Akh e f h i g d b S a p w l m k (by simpa using c) j
 rw[show Ha b S a p=(Br S p).1 by unfold Ha;rw[if_neg c,if_pos j]];exact Aki e f h i g d b S a p w m (by simpa using c) j
def Nc (rx c:Int) (s:Shp) (a:Bool) (b:Int) (p:Int×Int):Option (Int×Int) :=
 if s.mat then
  if Cc 1048576 s.anc then none
  else if Cc 1048576 (xk (Cd a b s.anc) p) then none
  else some (wrap64 ((J9 rx c (xk (Cd a b s.anc) p).1 (xk (Cd a b s.anc) p).2 0 0).1-(Cd a b s.anc).1),wrap64 ((J9 rx c (xk (Cd a b s.anc) p).1 (xk (Cd a b s.anc) p).2 0 0).2-(Cd a b s.anc).2))
 else some p
def Amc (o:Option (Int×Int)):Value:=.tuple #[.agg #[(o.getD (0,0)).1,(o.getD (0,0)).2],.bool o.isSome]
theorem Qt(rx j:Int) (I:Option Addr) (M K:Nat) (pl:LP) (r:Int) (H:Bool) (f g:Int) (n:Bool) (p x y:Int) (w:World) :
 Calls Tryz.prog 127 #[.agg #[rx,j],.agg #[.slice I M K,r,.bool H,f,g],.agg #[.bool n,p],.agg #[x,y]] w (Bz w (Amc (Nc rx j ⟨pl,r,H,(f,g)⟩ n p (x,y)))):=by
 let⟨q,d⟩:∃q,q=(((((w.alloc (.cells #[rx,j] 40)).alloc (.cells #[.slice I M K,r,.bool H,f,g] 72)).alloc (.cells #[.bool n,p] 59)).alloc (.cells #[x,y] 60)).alloc (.cells #[.int .i64 0,.int .i64 0] 60)):=⟨_,rfl⟩
 have h0:Bf q w.heap.size 40 #[rx,j]:=by rw[d];exact((((Bf.new _ _ _).alloc _).alloc _).alloc _).alloc _
 have h1:Bf q (w.heap.size+1) 72 #[.slice I M K,r,.bool H,f,g]:=by rw[d];exact(((Bf.new2 _ _ _ _).alloc _).alloc _).alloc _
 have h2:Bf q (w.heap.size+1+1) 59 #[.bool n,p]:=by rw[d];exact((Bf.new3 _ _ _ _ _).alloc _).alloc _
 have h3:Bf q (w.heap.size+1+1+1) 60 #[x,y]:=by
  rw[d];have:=(Bf.new (((w.alloc (.cells #[rx,j] 40)).alloc (.cells #[.slice I M K,r,.bool H,f,g] 72)).alloc (.cells #[.bool n,p] 59)) 60 #[x,y]).alloc (.cells #[.int .i64 0,.int .i64 0] 60);simpa using this
 have h4:Bf q (w.heap.size+1+1+1+1) 60 #[.int .i64 0,.int .i64 0]:=by
  rw[d];have:=Bf.new ((((w.alloc (.cells #[rx,j] 40)).alloc (.cells #[.slice I M K,r,.bool H,f,g] 72)).alloc (.cells #[.bool n,p] 59)).alloc (.cells #[x,y] 60)) 60 #[.int .i64 0,.int .i64 0];simpa using this
 have L:Be w q:=by rw[d];exact(Ao (Ao (Ao (Ao (Ao (Below.refl _ _) _) _) _) _) _)
 have H0:=Ar h0;have H1:=Ar h1;have H2:=Ar h2;have H3:=Ar h3;have N:=Ar h4;have s:=Ar L;subst d;clear h0 h1 h2 h3 h4 L;cases H with
 | false =>
   go_enter Tryz.func127,Tryz.ntmps127;go_wp2_with fail;exact bodyPost_ret (v:=.tuple #[.agg #[x,y],.bool true]) (by simp[results,Tryz.results127,go_sem]) rfl ⟨rfl,(Ao (Ao (Ao (Ao (Ao (Below.refl _ _) _) _) _) _) _)⟩
 | true =>
   by_cases R:Cc 1048576 (f,g)=true
   .have t:=Ar (show Nc rx j ⟨pl,r,true,(f,g)⟩ n p (x,y)=none by unfold Nc;dsimp only;rw[if_pos rfl,if_pos R]);go_enter Tryz.func127,Tryz.ntmps127
    go_wp2_with (go_at_call 180;refine rR (G5 _ _ _) λw1 a=>?_;let⟨P,Q,a3,a4,a5⟩:=(N.out.keep a).cells2)
    exact bodyPost_ret (v:=.tuple #[.agg #[.int .i64 0,.int .i64 0],.bool false]) (by simp[results,Tryz.results127,go_sem,P,Q]) rfl ⟨by rw[t.out];rfl,by have h:=An s.out a;(repeat first|exact h|refine Ba ?_ (by dsimp only;omega) _)⟩
   have S:Cc 1048576 (f,g)=false:=by simpa using R
   clear R;let⟨T,z⟩:=gN (Cd n p (f,g))
   obtain⟨l,m⟩:=T;have J:=Ar z
   have hE:Nc rx j ⟨pl,r,true,(f,g)⟩ n p (x,y)=if Cc 1048576 (wrap64 (l+x),wrap64 (m+y))=true then none else some (wrap64 ((J9 rx j (wrap64 (l+x)) (wrap64 (m+y)) 0 0).1-l),wrap64 ((J9 rx j (wrap64 (l+x)) (wrap64 (m+y)) 0 0).2-m)):=by
    unfold Nc;dsimp only;rw[if_pos rfl,if_neg (by rw[S];simp),z];rfl
   have t:=Ar hE;clear hE z;by_cases o:Cc 1048576 (wrap64 (l+x),wrap64 (m+y))=true
   .rw[if_pos o]at t;have k:True:=trivial;go_enter Tryz.func127,Tryz.ntmps127
    go_wp2_with (first|(go_at_call 41;refine rR (G8 _ _ _ _ _) λw2 b=>?_;rw[J.out];have E:=D.keep b;have i:=F.keep b;let⟨c1,c2,c3,c4,c5⟩:=E.cells2;have a8:=Bf.lt i)|(go_at_call 180;first|(have _t:=k;refine rR (G5 _ _ _) λw1 a=>?_;clear k;have B:=H1.out.keep a;have C:=H2.out.keep a;have D:=H3.out.keep a;have F:=N.out.keep a;let⟨P,Q,a3,a4,a5,a6⟩:=B.cells5;let⟨b1,b2,b3,b4,b5⟩:=C.cells2)|(refine rR (G5 _ _ _) λw3 c=>?_;have G:=((i.alloc _).alloc _).keep c;let⟨m1,m2,m3,m4,m5⟩:=G.cells2)))
    exact bodyPost_ret (v:=.tuple #[.agg #[.int .i64 0,.int .i64 0],.bool false]) (by simp[results,Tryz.results127,go_sem,m1,m2]) rfl ⟨by rw[t.out];rfl,by have h:=An (Ao (Ao (An (An s.out a) b) _) _) c;(repeat first|exact h|refine Ba ?_ (by dsimp only;omega) _)⟩
   have cg:Cc 1048576 (wrap64 (l+x),wrap64 (m+y))=false:=by simpa using o
   rw[if_neg o]at t;clear o;let⟨nx,A⟩:=gN (J9 rx j (wrap64 (l+x)) (wrap64 (m+y)) 0 0)
   rw[A]at t;have O:=Ar A;clear A;obtain⟨ai,ak⟩:=nx;have k:True:=trivial;go_enter Tryz.func127,Tryz.ntmps127
   go_wp2_with (first|(go_at_call 41;refine rR (G8 _ _ _ _ _) λw2 b=>?_;rw[J.out];have E:=D.keep b;have i:=F.keep b;have V:=U.keep b;let⟨c1,c2,c3,c4,c5⟩:=E.cells2;have a8:=Bf.lt i)|(go_at_call 181;refine rR (ke _ _ _ _ _ _ _) λw4 u=>?_;rw[O.out];have X:=G.keep u;have Z:=Y.keep u;let⟨s1,s2,s3,s4,s5⟩:=X.cells2;let⟨t1,t2,t3,t4,t5⟩:=Z.cells2)|(go_at_call 180;first|(have _t:=k;refine rR (G5 _ _ _) λw1 a=>?_;clear k;have B:=H1.out.keep a;have C:=H2.out.keep a;have D:=H3.out.keep a;have F:=N.out.keep a;have U:=H0.out.keep a;let⟨P,Q,a3,a4,a5,a6⟩:=B.cells5;let⟨b1,b2,b3,b4,b5⟩:=C.cells2)|(refine rR (G5 _ _ _) λw3 c=>?_;have G:=((i.alloc _).alloc _).keep c;have W:=((V.alloc _).alloc _).keep c;have Y:=Bf.keep ((Bf.new w2 60 #[l,m]).alloc _) c;have a7:=Bf.keep (Bf.new2 w2 _ 60 #[(wrap64 (l+x)),(wrap64 (m+y))]) c;let⟨m1,m2,m3,m4,m5⟩:=W.cells2;let⟨n1,n2,n3,n4,n5⟩:=a7.cells2)))
   exact bodyPost_ret (v:=.tuple #[.agg #[(wrap64 (ai-l)),(wrap64 (ak-m))],.bool true]) (by simp[results,Tryz.results127,go_sem,s1,s2,s5]) rfl ⟨by rw[t.out];rfl,by have h:=An (An (Ao (Ao (An (An s.out a) b) _) _) c) u;(repeat first|exact h|refine Ao ?_ _|refine Ba ?_ (by dsimp only;omega) _)⟩
section
open Go.RowKit Go.Maps
section
variable {α : Type} [DecidableEq α]
def Bo (L xs:List α) (d:α):Nat->List α
 | 0=>L
 | k+1=>if xs.getD k d∈Bo L xs d k then Bo L xs d k else Bo L xs d k++[xs.getD k d]
def S9 (L xs:List α) (d:α):List α:=Bo L xs d xs.length
theorem En (L xs:List α) (d:α) (k:Nat):(Bo L xs d k).length<=L.length+k:=by
 induction k with
 | zero=>exact Nat.le_refl _
 | succ k ih =>
   rw[Bo];split
   ·omega
   ·rw[List.length_append];simp;omega
theorem vu {L xs:List α} {d:α} {k:Nat} (hk:k<=xs.length) {x:α} (h:x∈Bo L xs d k):x∈L\/x∈xs:=by
 induction k with
 | zero=>exact .inl h
 | succ k ih =>
   rw[Bo] at h;split at h
   ·exact ih (by omega) h
   ·rcases List.mem_append.1 h with h|h
    ·exact ih (by omega) h
    ·simp at h;subst h;right;simp[show k<xs.length by omega]
end
theorem Ky{P:Program} {w:World} {T:Array Oper} {o:Oper} {a:Act} {K:Act->World->Prop} {Q:Exit->Act->World->Prop} {E:Prop} (M:o.guard=none) (s x:Operand) (t:TypeId)
 (ho:o.op=.call { callee:=.builtin .append,args:=#[s,x],argTypes:=#[t,t] })
 {U:Type} (d:U->List Value) (k:Nat) (e:TypeId) (i:TypeInfo) (z:Value) (b f:Nat) (ht:P.underlying t=some (.slice e)) (Y:P.info? e=some i) (hz:i.zero=some z)
 (r:i.size=b) (L:i.bytes=f) (S:z.cells.size=b) (R:0<b) (A:∀x,(d x).length=b) (I:∀x,∀u∈d x,u.oneCell'=true)
 (v:Value) (l:List U) (hs:a.eval s=v) (F:OwG e b d w k v l)
 (G c:Nat) (p:U) (V:TypeId) (hx:a.eval x=.slice (some ⟨G,0,none⟩) 1 c) (D:Bf w G V (d p).toArray)
 (C:l.length+1<=maxLen) (n:(l.length+1)*f<=140737488355328) (q:k<=w.heap.size) (H:Nat) (W:w.heap.size=H)
 (h:∀g m y,OwG e b d y k (.slice (some ⟨g,0,none⟩) (l.length+1) m) (l++[p])->w.grownBy y v.ownBlock->(v.ownBlock=some g\/g=H)->g<y.heap.size->K (a.put o.dst (.slice (some ⟨g,0,none⟩) (l.length+1) m)) y) :
 if Region.wanted o (yielded T a.tmps)=true then Oper.wp P o a w K Q else E:=by
 refine step_append_lies (P:=P) w M s x t ho k e i z b f ht Y hz r L S R v l.length (l.flatMap d) hs F ⟨G,0,none⟩ 1 c (d p) hx (by rw[A];omega) ?_ (I p) (by omega) C n q H W ?_
 .intro j u Z;exact World.news_of_block (w:=w) (B:=G) (cs:=(d p).toArray) (t:=V) (fr:=(0,0)) D j u (by simpa using Z)
 intro g m y O X J N;refine h g m y ?_ X J N;unfold OwG;rw[List.length_append,List.flatMap_append];simpa using O
def Z9 (w:World) (B b:Nat) (L:LP):Prop :=
 ∃c d,Bf w B 213 #[c,d]/\OwG 60 2 enS w B d L/\((c=.map none/\L=[])\/∃a,c=.map (some a)/\B<a/\a<b/\Dd Tryz.prog 60 4 okS klS w a L.length L)/\(∀k,d.ownBlock=some k->B<k/\k<b)/\B<b
theorem Z9.keep{w:World}   (h:Z9 w b i f) (d:Be w a):Z9 a b i f:=by
 obtain⟨q,r,m,n,c,o,p⟩:=h;refine⟨q,r,m.keep d,n.keep d,?_,o,p⟩;rcases c with c|⟨e,g,j,k,l⟩
 .exact .inl c
 exact .inr ⟨e,g,j,k,l.keep d⟩
theorem Z9.mono{w:World} {a:Nat}  (h:Z9 w b i f) (p:i<=a):Z9 w b a f:=by
 obtain⟨q,r,n,o,c,d,t⟩:=h;refine⟨q,r,n,o,?_,λk e=>⟨(d k e).1,Nat.lt_of_lt_of_le (d k e).2 p⟩,by omega⟩;rcases c with c|⟨g,j,l,s,m⟩
 .exact .inl c
 exact .inr ⟨g,j,l,by omega,m⟩
theorem Z9.new(w:World):Z9 (w.alloc (.cells #[.map none,.slice none 0 0] 213)) w.heap.size (w.heap.size+1) [] :=
 ⟨_,_,Bf.new _ _ _,OwG.nil,.inl ⟨rfl,rfl⟩,(λk a=>by cases a),by omega⟩
theorem Jx{w:World} (h:Below b a w):Below b a w.drew:=⟨h.os,h.tape,h.output,h.size,h.block⟩
theorem Gc{w:World} (h:Below b a w) (n:Nat):Below b a (w.drewN n):=⟨h.os,h.tape,h.output,h.size,h.block⟩
def AvS (w:World) (B s:Nat):Prop:=s<w.heap.size/\s≠B/\∀a b,Bf w B 213 #[a,b]->b.ownBlock≠some s/\a≠.map (some s)
theorem avS{w:World} {c:Nat}  (d:Bf w b 213 #[.map (some c),e]) (f:e.ownBlock≠some i) (g:c≠i):∀a e,Bf w b 213 #[a,e]->e.ownBlock≠some i/\a≠.map (some i):=by
 intro a j h;unfold Bf at h d;rw[d]at h;simp at h;obtain⟨rfl,rfl⟩:=h;exact⟨f,by simp;exact g⟩
theorem Z9.av{w:World} {s:Nat}  (h:Z9 w b i f) (p:i<=s) (a:s<w.heap.size):AvS w b s:=by
 obtain⟨q,r,c,n,d,g,o⟩:=h;refine⟨a,by omega,λj k h=>?_⟩;unfold Bf at h c;rw[c]at h;simp at h;obtain⟨rfl,rfl⟩:=h;refine⟨λe=>by have:=(g s e).2;omega,?_⟩;rcases d with⟨rfl,_⟩|⟨l,rfl,_,m,_⟩
 .simp
 simp;omega
theorem AvS.keep{w:World}  (h:AvS w b i) (e:b<w.heap.size) (c:Be w a):AvS a b i :=
 ⟨Nat.lt_of_lt_of_le h.1 c.size,h.2.1,λf g d=>h.2.2 f g ((c.block b e).symm.trans d)⟩
def Aqo (b:World) (B s:Nat) (L:LP) (e:Ending) (a:World):Prop:=e=.returned (.tuple #[])/\Z9 a B a.heap.size L/\Below B b a/\b.heap.size<=a.heap.size/\a.heap[s]? = b.heap[s]? /\ AvS a B s
theorem Z6{r n k l d:Nat} {x:(Int×Int)} {c:LP} {w:World}  {o:Obj} (D:Hid (Bo f c (0,0) (k+1)=Bo f c (0,0) k++[x])) (X:k<n)
 (u:Bf j b 213 #[.map (some i),e]) (G:OwG 60 2 enS a b e (Bo f c (0,0) k)) (gu:Dd Tryz.prog 60 4 okS klS a i ((Bo f c (0,0) k).length+1) (Bo f c (0,0) k++[x])) (E:∀k,e.ownBlock=some k->b<k/\k≠r)
 (v:Bf a r 60 (c.flatMap enS).toArray) (H:Below b w a) (U:w.heap.size<=a.heap.size) (K:OwG 60 2 enS j b (.slice (some ⟨l,0,none⟩) ((Bo f c (0,0) k).length+1) d) (Bo f c (0,0) k++[x]))
 (m:(a.alloc o).drew.grownBy j e.ownBlock) (A:e.ownBlock=some l\/l=a.heap.size+1) (W:b<i) {s:Nat} (Y:s<w.heap.size) (L:s≠b) (Z:i≠s) (I:a.heap[s]? = w.heap[s]?) (O:e.ownBlock≠some s) :
 (∃(q:Nat) (e:Value),q<=n/\Value.int IntKind.i64 ((k:Int)+1)=.int .i64 q/\Bf (j.setCell ⟨b,1,none⟩ (.slice (some ⟨l,0,none⟩) ((Bo f c (0,0) k).length+1) d)) b 213 #[.map (some i),e]/\OwG 60 2 enS (j.setCell ⟨b,1,none⟩ (.slice (some ⟨l,0,none⟩) ((Bo f c (0,0) k).length+1) d)) b e (Bo f c (0,0) q)/\Dd Tryz.prog 60 4 okS klS (j.setCell ⟨b,1,none⟩ (.slice (some ⟨l,0,none⟩) ((Bo f c (0,0) k).length+1) d)) i (Bo f c (0,0) q).length (Bo f c (0,0) q)/\(∀k,e.ownBlock=some k->b<k/\k≠r)/\Bf (j.setCell ⟨b,1,none⟩ (.slice (some ⟨l,0,none⟩) ((Bo f c (0,0) k).length+1) d)) r 60 (c.flatMap enS).toArray/\Below b w (j.setCell ⟨b,1,none⟩ (.slice (some ⟨l,0,none⟩) ((Bo f c (0,0) k).length+1) d))/\w.heap.size<=(j.setCell ⟨b,1,none⟩ (.slice (some ⟨l,0,none⟩) ((Bo f c (0,0) k).length+1) d)).heap.size/\Hid ((j.setCell ⟨b,1,none⟩ (.slice (some ⟨l,0,none⟩) ((Bo f c (0,0) k).length+1) d)).heap[s]? = w.heap[s]?)/\e.ownBlock≠some s):=by
 have C:∀N t P,a.heap[i]? ≠ some (.cells N t P):=λN t P h=>by let⟨es,cc,hq⟩:=gu.isMap;rw[hq]at h;cases h
 have R:=gu.lt;have S:=v.lt
 have B:b<l/\l≠r:=by
  rcases A with h|h
  .exact E l h
  omega
 have p:(Value.slice (some ⟨l,0,none⟩) ((Bo f c (0,0) k).length+1) d).ownBlock=some l:=rfl
 have M:r≠b:=by
  intro g;subst g;have y:=(m.block r (by simp;omega) (by intro T;exact(E r T.symm).2 rfl));have Q:=v.alloc o;unfold Bf at Q u;rw[u]at y;have V:(a.alloc o).drew.heap[r]? = some (.cells (c.flatMap enS).toArray 60 (0,0)):=Q;rw[V]at y;injection y with y
  injection y with _ y
  exact absurd y (by decide)
 refine⟨k+1,.slice (some ⟨l,0,none⟩) ((Bo f c (0,0) k).length+1) d,by omega,by go_num,u.set_ 1 _,by rw[D.out];exact OwG.far K (by rw[p];intro g;injection g with g;exact absurd g (Nat.ne_of_gt B.1)) _,?_,?_,?_,?_,?_,?_,?_⟩
 .rw[D.out,List.length_append];exact((gu.alloc o).keep blD).kept m (OwG.notMap G C).symm |>.kept (row:=some b) ⟨rfl,rfl,rfl,by simp[World.setCell],λF _ J=>Below.heap_setCell _ _ _ F λg=>J (by rw[g])⟩ (by intro g;injection g with g;omega)
 .intro F z;rw[p]at z;injection z with z
  subst z;exact B
 .exact(Bf.grown ((v.alloc o).drew) m (by intro g;exact(E r g.symm).2 rfl)).far M _
 .refine Below.setCell (Below.grown (Jx (Below.alloc H (by omega) o)) m (by simp;omega) λF z=>Nat.le_of_lt (E F z).1) (Nat.le_refl _) _
 .have:=m.size;simp[World.setCell]at this ⊢;omega
 .refine Ar ((Below.heap_setCell j _ _ s (by exact L)).trans ((m.block s (by simp;omega) λg=>O g.symm).trans ((Below.heap_alloc a o s (by omega)).trans I)))
 rw[p];intro g;injection g with g
 rcases A with h|h
 .exact O (by rw[h,g])
 omega
theorem Ta(B hi D n c:Nat) (L a:LP) (w:World) (hn:a.length=n) (gf:n<=1000) (hL:L.length<=1000000000000) (hX:Bf w D 60 (a.flatMap enS).toArray) (e3:hi<=D) (cy:∀x∈a,okS x) (hB:Z9 w B hi L) (s:Nat) (b4:AvS w B s) :
 Calls Tryz.prog 128 #[.pointer (some ⟨B,0,none⟩),.slice (some ⟨D,0,none⟩) n c] w (Aqo w B s (S9 L a (0,0))):=by
 have hz:=Qb;have HN:=Ar hn;have ca:=Ar cy;have HW:=Ar (show S9 L a (0,0)=Bo L a (0,0) n by unfold S9;rw[hn]);clear hn cy;obtain⟨mv,g,k1,k2,k3,k4,k5⟩:=hB;have cz:=b4.1;have aw:=b4.2.1;have k9:=b4.2.2 mv g k1;clear b4;rcases k3 with⟨rfl,ch⟩|⟨f,rfl,Q,b5,k3⟩
 .have e6:=@run_makeMap Tryz.prog;have bd:=λ(w:World)=>run_eql_map_nil (P:=Tryz.prog) w 211 60 4 none Tryz.underlying211
  let⟨R,S,T,U,N⟩:=k1.cells2;let⟨f,b5⟩:∃f,f=w.heap.size:=⟨_,rfl⟩
  have Q:B<f:=by omega
  have k3:True:=trivial;have e0:=Ar ch;clear ch;go_in;go_upto_region 2 with fail;clear e6 bd;rw[<-b5];have b1:(w.setCell ⟨B,0,none⟩ (.map (some f))).heap.size=f:=by rw[b5];simp[World.setCell]
  have e8:Dd Tryz.prog 60 4 okS klS ((w.setCell ⟨B,0,none⟩ (.map (some f))).alloc (.map #[] 0)) f L.length L:=by
   rw[e0.out];have h9:=Dd.made (P:=Tryz.prog) (k:=60) (e:=4) (ok:=okS) (kl:=klS) (w.setCell ⟨B,0,none⟩ (.map (some f)));rw[b1]at h9;exact h9
  have eo:w.heap.size<=f:=by omega
  have cw:D≠f:=by have:=hX.lt;omega
  have b0:f≠s:=by omega
  have cg:Hid ((w.setCell ⟨B,0,none⟩ (.map (some f))).heap.size=f):=b1;clear R S T U b1 b5;refine Cu (λX=>∃g,Bf X B 213 #[.map (some f),g]/\OwG 60 2 enS X B g L/\Dd Tryz.prog 60 4 okS klS X f L.length L/\(∀k,g.ownBlock=some k->B<k/\k≠D)/\Bf X D 60 (a.flatMap enS).toArray/\Below B w X/\w.heap.size<=X.heap.size/\X.heap[s]? = w.heap[s]? /\ g.ownBlock≠some s) ⟨g,(k1.set_ 0 _).alloc _,OwG.alloc (OwG.far k2 (λe=>Nat.lt_irrefl _ (k4 B e).1) _) _,e8,λk F=>⟨(k4 k F).1,by have:=(k4 k F).2;omega⟩,(hX.far (p:=⟨B,0,none⟩) (Nat.ne_of_gt (Nat.lt_of_lt_of_le k5 e3)) _).alloc _,Below.alloc (Below.setCell bl0 (Nat.le_refl _) _) (by rw[cg.out];exact Nat.le_of_lt Q) _,by simp[World.setCell],(Below.heap_alloc _ _ s (by rw[cg.out];omega)).trans (Below.heap_setCell w ⟨B,0,none⟩ _ s aw),k9.1⟩ ?_;rintro wl ⟨c7,m,o,l,I,r,v,E,y,O⟩;clear k1 k2 k3 k4 hX hz;go_wp2;go_loopw [17] (λi wr=>∃(k:Nat) (g:Value),k<=n/\i=.int .i64 k/\Bf wr B 213 #[.map (some f),g]/\OwG 60 2 enS wr B g (Bo L a (0,0) k)/\Dd Tryz.prog 60 4 okS klS wr f (Bo L a (0,0) k).length (Bo L a (0,0) k)/\(∀k,g.ownBlock=some k->B<k/\k≠D)/\Bf wr D 60 (a.flatMap enS).toArray/\Below B w wr/\w.heap.size<=wr.heap.size/\Hid (wr.heap[s]? = w.heap[s]?)/\g.ownBlock≠some s) λi _=>n-(intOf i).toNat
  case atStart=>exact⟨0,c7,Nat.zero_le _,rfl,m,o,l,I,r,v,E,Ar y,O⟩
  clear m o l I r v E y O;obtain⟨k,g,F,rfl,m,o,l,I,r,v,E,y,O⟩:=hrel;have cx:=En L a (0,0) k;by_cases ar:k<n
  .have bs:k<a.length:=by rw[HN.out];exact ar
   let⟨x,hx⟩:=gN (a.getD k (0,0))
   have C:a[k]? = some x:=by rw[<-hx,List.getD,List.getElem?_eq_getElem bs];rfl
   have u:okS x:=ca.out x (List.mem_of_getElem? C);have HX:=Ar hx;have d0:=(r.cell (k*2)).trans (by have:=Bu Cm a k 0 x C (by omega);simpa using this);have d1:=(r.cell (k*2+1)).trans (by have:=Bu Cm a k 1 x C (by omega);simpa using this);simp only[enS,List.getElem?_cons_zero,List.getElem?_cons_succ]at d0 d1;clear hx C;have bl:=r.lt;let⟨R,S,T,U,N⟩:=m.cells2;obtain⟨b,d⟩:=x;by_cases z:(b,d)∈Bo L a (0,0) k
   .have A:=Ar (show Bo L a (0,0) (k+1)=Bo L a (0,0) k by rw[Bo,HX.out,if_pos z])
    have K:∀q,(Instr.lookup 211 (.map (some f)) (.agg #[b,d]) false).run Tryz.prog ((wr.alloc (.cells #[b,d] 60)).drewN q)=.ok (.bool true) ((wr.alloc (.cells #[b,d] 60)).drewN q):=by
     intro q;have h9:=Dd.get (t:=211) y7 Tryz.underlying211 Tryz.underlying4 (Qb _) ((l.alloc (.cells #[b,d] 60)).keep (Bd bl0 q)) (x:=(b,d)) u;refine h9.trans ?_;simp[z]
    go_wp2;go_quiet (fail);clear K;go_wp2;exact⟨⟨k+1,g,by omega,by go_num,(m.alloc _).drewN _,by rw[A.out];exact OwG.keep (OwG.alloc o _) (Bd bl0 _),by rw[A.out];exact(l.alloc _).keep (Bd bl0 _),I,(r.alloc _).drewN _,Gc (Below.alloc v (by omega) _) _,by simp;omega,Ar ((Below.heap_alloc wr _ s (by omega)).trans y.out),O⟩,by simp[intOf];omega⟩
   have A:=Ar (show Bo L a (0,0) (k+1)=Bo L a (0,0) k++[(b,d)] by rw[Bo,HX.out,if_neg z])
   have K:∀q,(Instr.lookup 211 (.map (some f)) (.agg #[b,d]) false).run Tryz.prog ((wr.alloc (.cells #[b,d] 60)).drewN q)=.ok (.bool false) ((wr.alloc (.cells #[b,d] 60)).drewN q):=by
    intro q;have h9:=Dd.get (t:=211) y7 Tryz.underlying211 Tryz.underlying4 (Qb _) ((l.alloc (.cells #[b,d] 60)).keep (Bd bl0 q)) (x:=(b,d)) u;refine h9.trans ?_;simp[z]
   go_wp2;go_quiet (fail);clear K;have V:=(m.alloc (.cells #[b,d] 60)).drewN nq;have Z:=OwG.keep (OwG.alloc o (.cells #[b,d] 60)) (Bd bl0 nq);have a6:=(l.alloc (.cells #[b,d] 60)).keep (Bd bl0 nq);have a7:=(r.alloc (.cells #[b,d] 60)).drewN nq;have a8:=Gc (Below.alloc v (by omega) (.cells #[b,d] 60)) nq;have M:=(Bf.new wr 60 #[b,d]).drewN nq;have ai:((wr.alloc (.cells #[b,d] 60)).drewN nq).heap[s]? = w.heap[s]? := (Below.heap_alloc wr _ s (by omega)).trans y.out;have ad:w.heap.size<=((wr.alloc (.cells #[b,d] 60)).drewN nq).heap.size:=by simp;omega
   let⟨H,J⟩:∃H,H=wr.heap.size:=⟨_,rfl⟩
   have ck:D<H:=by omega
   have cn:B<H:=by omega
   have cu:f<H:=by have:=l.lt;omega
   have cv:∀k,g.ownBlock=some k->k<H:=λk F=>by rw[J];exact(OwG.lt o k F).2
   go_upto_region 6 with fail;rw[<-J]at M ⊢;refine Cu (λX=>Bf X B 213 #[.map (some f),g]/\OwG 60 2 enS X B g (Bo L a (0,0) k)/\Dd Tryz.prog 60 4 okS klS X f (Bo L a (0,0) k).length (Bo L a (0,0) k)/\Bf X D 60 (a.flatMap enS).toArray/\Bf X H 60 #[b,d]/\Below B w X/\w.heap.size<=X.heap.size/\Hid (X.heap[s]? = w.heap[s]?)) ⟨V,Z,a6,a7,M,a8,ad,Ar ai⟩ ?_;clear V Z a6 a7 M a8 ad ai m o l r v E y J d0 d1 R S T U N bl;rintro wz ⟨m,o,l,r,fx,v,E,y⟩;let⟨R,S,T,U,N⟩:=m.cells2;let⟨y1,y2,y3,y4,y5⟩:=fx.cells2;refine Ck 5 (by kernel_rfl) (by kernel_rfl) ?_;simp only[List.take_succ_cons,List.take_zero,List.drop_succ_cons,List.drop_zero]
   repeat still_step
   refine wpStill_nil ?_
   go_wp2_with (at_mapUpdate;refine D8 rfl _ _ _ 211 rfl y7 Tryz.underlying211 Tryz.underlying4 rfl (l.keep blD) (by unfold maxLen;omega) (b,d) u rfl rfl ?_;intro wu gu G)
   have au:g.ownBlock≠some f:=OwG.notMap o (λcs t fr h=>by let⟨es,cc,hq⟩:=l.isMap;rw[hq]at h;cases h);have W:=Bf.grown m.drew G (by intro e;injection e with e;omega);have a1:=OwG.kept (OwG.keep o blD) G (Or.inr au);have b6:=Bf.grown r.drew G (by intro e;injection e with e;omega);have bb:=Bf.grown fx.drew G (by intro e;injection e with e;omega);have b7:Below B w wu:=Below.grown (Jx v) G (by have:=N;simp;omega) (λj hj=>by cases hj;omega);have b8:w.heap.size<=wu.heap.size:=Nat.le_trans E G.size;have b9:Hid (wu.heap[s]? = w.heap[s]?):=Ar ((G.block s (by show s<wz.heap.size;omega) (by intro e;injection e with e;omega)).trans y.out);clear m o l r fx v E y G au R S T U N y1 y2 y3 y4 y5;let⟨R,S,T,U,N⟩:=W.cells2;let⟨y1,y2,y3,y4,y5⟩:=bb.cells2;let⟨i0,bp,bw,c3,c4⟩:=info_parts Si;have e9:=En L a (0,0) k
   go_region_law ((refine Ky rfl _ _ 46 rfl enS B 60 i0 (.agg #[.int .i64 0,.int .i64 0]) 2 16 Tryz.underlying46 bp bw c3 c4 rfl (by omega) Cm Io g (Bo L a (0,0) k) rfl (OwG.keep (OwG.alloc a1 _) blD) wu.heap.size 1 (b,d) 60 rfl (Bf.drew (Bf.new _ _ _)) (by unfold maxLen;omega) (by omega) (by simp;omega) (wu.heap.size+1) (by simp) ?_;intro gg e2 wv bt ak bc e5;have Y:=Bf.grown ((W.alloc _).drew) ak (by intro e;exact Nat.lt_irrefl _ (I _ e.symm).1);let⟨p1,p2,p3,p4,p5⟩:=Y.cells2))
   go_wp2;all_goals exact⟨Z6 A ar Y a1 gu I b6 b7 b8 bt ak bc Q cz aw b0 b9.out O,by simp[intOf];omega⟩
  obtain rfl:n=k:=by omega
  go_wp2
  go_end0
  refine⟨rfl,⟨_,g,m,by rw[HW.out];exact o,.inr ⟨f,rfl,Q,l.lt,by rw[HW.out];exact l⟩,λk F=>⟨(I k F).1,(OwG.lt o k F).2⟩,m.lt⟩,v,E,y.out,by omega,aw,avS m O b0⟩
 have bd:=λ(w:World)=>run_eql_map_nil (P:=Tryz.prog) w 211 60 4 (some f) Tryz.underlying211
 let⟨R,S,T,U,N⟩:=k1.cells2;go_in;go_upto_region 2 with fail;clear bd R S T U N;have cw:D≠f:=by omega
 have b0:f≠s:=λe=>k9.2 (by rw[e])
 refine Cu (λX=>∃g,Bf X B 213 #[.map (some f),g]/\OwG 60 2 enS X B g L/\Dd Tryz.prog 60 4 okS klS X f L.length L/\(∀k,g.ownBlock=some k->B<k/\k≠D)/\Bf X D 60 (a.flatMap enS).toArray/\Below B w X/\w.heap.size<=X.heap.size/\X.heap[s]? = w.heap[s]? /\ g.ownBlock≠some s) ⟨g,k1,k2,k3,λk F=>⟨(k4 k F).1,by have:=(k4 k F).2;omega⟩,hX,bl0,Nat.le_refl _,rfl,k9.1⟩ ?_;rintro wl ⟨c7,m,o,l,I,r,v,E,y,O⟩;clear k1 k2 k3 k4 hX hz;go_wp2;go_loopw [17] (λi wr=>∃(k:Nat) (g:Value),k<=n/\i=.int .i64 k/\Bf wr B 213 #[.map (some f),g]/\OwG 60 2 enS wr B g (Bo L a (0,0) k)/\Dd Tryz.prog 60 4 okS klS wr f (Bo L a (0,0) k).length (Bo L a (0,0) k)/\(∀k,g.ownBlock=some k->B<k/\k≠D)/\Bf wr D 60 (a.flatMap enS).toArray/\Below B w wr/\w.heap.size<=wr.heap.size/\Hid (wr.heap[s]? = w.heap[s]?)/\g.ownBlock≠some s) λi _=>n-(intOf i).toNat
 case atStart=>exact⟨0,c7,Nat.zero_le _,rfl,m,o,l,I,r,v,E,Ar y,O⟩
 clear m o l I r v E y O;obtain⟨k,g,F,rfl,m,o,l,I,r,v,E,y,O⟩:=hrel;have cx:=En L a (0,0) k;by_cases ar:k<n
 .have bs:k<a.length:=by rw[HN.out];exact ar
  let⟨x,hx⟩:=gN (a.getD k (0,0))
  have C:a[k]? = some x:=by rw[<-hx,List.getD,List.getElem?_eq_getElem bs];rfl
  have u:okS x:=ca.out x (List.mem_of_getElem? C);have HX:=Ar hx;have d0:=(r.cell (k*2)).trans (by have:=Bu Cm a k 0 x C (by omega);simpa using this);have d1:=(r.cell (k*2+1)).trans (by have:=Bu Cm a k 1 x C (by omega);simpa using this);simp only[enS,List.getElem?_cons_zero,List.getElem?_cons_succ]at d0 d1;clear hx C;have bl:=r.lt;let⟨R,S,T,U,N⟩:=m.cells2;obtain⟨b,d⟩:=x;by_cases z:(b,d)∈Bo L a (0,0) k
  .have A:=Ar (show Bo L a (0,0) (k+1)=Bo L a (0,0) k by rw[Bo,HX.out,if_pos z])
   have K:∀q,(Instr.lookup 211 (.map (some f)) (.agg #[b,d]) false).run Tryz.prog ((wr.alloc (.cells #[b,d] 60)).drewN q)=.ok (.bool true) ((wr.alloc (.cells #[b,d] 60)).drewN q):=by
    intro q;have h9:=Dd.get (t:=211) y7 Tryz.underlying211 Tryz.underlying4 (Qb _) ((l.alloc (.cells #[b,d] 60)).keep (Bd bl0 q)) (x:=(b,d)) u;refine h9.trans ?_;simp[z]
   go_wp2;go_quiet (fail);clear K;go_wp2;exact⟨⟨k+1,g,by omega,by go_num,(m.alloc _).drewN _,by rw[A.out];exact OwG.keep (OwG.alloc o _) (Bd bl0 _),by rw[A.out];exact(l.alloc _).keep (Bd bl0 _),I,(r.alloc _).drewN _,Gc (Below.alloc v (by omega) _) _,by simp;omega,Ar ((Below.heap_alloc wr _ s (by omega)).trans y.out),O⟩,by simp[intOf];omega⟩
  have A:=Ar (show Bo L a (0,0) (k+1)=Bo L a (0,0) k++[(b,d)] by rw[Bo,HX.out,if_neg z])
  have K:∀q,(Instr.lookup 211 (.map (some f)) (.agg #[b,d]) false).run Tryz.prog ((wr.alloc (.cells #[b,d] 60)).drewN q)=.ok (.bool false) ((wr.alloc (.cells #[b,d] 60)).drewN q):=by
   intro q;have h9:=Dd.get (t:=211) y7 Tryz.underlying211 Tryz.underlying4 (Qb _) ((l.alloc (.cells #[b,d] 60)).keep (Bd bl0 q)) (x:=(b,d)) u;refine h9.trans ?_;simp[z]
  go_wp2;go_quiet (fail);clear K;have V:=(m.alloc (.cells #[b,d] 60)).drewN nq;have Z:=OwG.keep (OwG.alloc o (.cells #[b,d] 60)) (Bd bl0 nq);have a6:=(l.alloc (.cells #[b,d] 60)).keep (Bd bl0 nq);have a7:=(r.alloc (.cells #[b,d] 60)).drewN nq;have a8:=Gc (Below.alloc v (by omega) (.cells #[b,d] 60)) nq;have M:=(Bf.new wr 60 #[b,d]).drewN nq;have ai:((wr.alloc (.cells #[b,d] 60)).drewN nq).heap[s]? = w.heap[s]? := (Below.heap_alloc wr _ s (by omega)).trans y.out;have ad:w.heap.size<=((wr.alloc (.cells #[b,d] 60)).drewN nq).heap.size:=by simp;omega
  let⟨H,J⟩:∃H,H=wr.heap.size:=⟨_,rfl⟩
  have ck:D<H:=by omega
  have cn:B<H:=by omega
  have cu:f<H:=by have:=l.lt;omega
  have cv:∀k,g.ownBlock=some k->k<H:=λk F=>by rw[J];exact(OwG.lt o k F).2
  go_upto_region 6 with fail;rw[<-J]at M ⊢;refine Cu (λX=>Bf X B 213 #[.map (some f),g]/\OwG 60 2 enS X B g (Bo L a (0,0) k)/\Dd Tryz.prog 60 4 okS klS X f (Bo L a (0,0) k).length (Bo L a (0,0) k)/\Bf X D 60 (a.flatMap enS).toArray/\Bf X H 60 #[b,d]/\Below B w X/\w.heap.size<=X.heap.size/\Hid (X.heap[s]? = w.heap[s]?)) ⟨V,Z,a6,a7,M,a8,ad,Ar ai⟩ ?_;clear V Z a6 a7 M a8 ad ai m o l r v E y J d0 d1 R S T U N bl;rintro wz ⟨m,o,l,r,fx,v,E,y⟩;let⟨R,S,T,U,N⟩:=m.cells2;let⟨y1,y2,y3,y4,y5⟩:=fx.cells2;refine Ck 5 (by kernel_rfl) (by kernel_rfl) ?_;simp only[List.take_succ_cons,List.take_zero,List.drop_succ_cons,List.drop_zero]
  repeat still_step
  refine wpStill_nil ?_
  go_wp2_with (at_mapUpdate;refine D8 rfl _ _ _ 211 rfl y7 Tryz.underlying211 Tryz.underlying4 rfl (l.keep blD) (by unfold maxLen;omega) (b,d) u rfl rfl ?_;intro wu gu G)
  have au:g.ownBlock≠some f:=OwG.notMap o (λcs t fr h=>by let⟨es,cc,hq⟩:=l.isMap;rw[hq]at h;cases h);have W:=Bf.grown m.drew G (by intro e;injection e with e;omega);have a1:=OwG.kept (OwG.keep o blD) G (Or.inr au);have b6:=Bf.grown r.drew G (by intro e;injection e with e;omega);have bb:=Bf.grown fx.drew G (by intro e;injection e with e;omega);have b7:Below B w wu:=Below.grown (Jx v) G (by have:=N;simp;omega) (λj hj=>by cases hj;omega);have b8:w.heap.size<=wu.heap.size:=Nat.le_trans E G.size;have b9:Hid (wu.heap[s]? = w.heap[s]?):=Ar ((G.block s (by show s<wz.heap.size;omega) (by intro e;injection e with e;omega)).trans y.out);clear m o l r fx v E y G au R S T U N y1 y2 y3 y4 y5;let⟨R,S,T,U,N⟩:=W.cells2;let⟨y1,y2,y3,y4,y5⟩:=bb.cells2;let⟨i0,bp,bw,c3,c4⟩:=info_parts Si;have e9:=En L a (0,0) k
  go_region_law ((refine Ky rfl _ _ 46 rfl enS B 60 i0 (.agg #[.int .i64 0,.int .i64 0]) 2 16 Tryz.underlying46 bp bw c3 c4 rfl (by omega) Cm Io g (Bo L a (0,0) k) rfl (OwG.keep (OwG.alloc a1 _) blD) wu.heap.size 1 (b,d) 60 rfl (Bf.drew (Bf.new _ _ _)) (by unfold maxLen;omega) (by omega) (by simp;omega) (wu.heap.size+1) (by simp) ?_;intro gg e2 wv bt ak bc e5;have Y:=Bf.grown ((W.alloc _).drew) ak (by intro e;exact Nat.lt_irrefl _ (I _ e.symm).1);let⟨p1,p2,p3,p4,p5⟩:=Y.cells2))
  go_wp2;all_goals exact⟨Z6 A ar Y a1 gu I b6 b7 b8 bt ak bc Q cz aw b0 b9.out O,by simp[intOf];omega⟩
 obtain rfl:n=k:=by omega
 go_wp2
 go_end0
 refine⟨rfl,⟨_,g,m,by rw[HW.out];exact o,.inr ⟨f,rfl,Q,l.lt,by rw[HW.out];exact l⟩,λk F=>⟨(I k F).1,(OwG.lt o k F).2⟩,m.lt⟩,v,E,y.out,by omega,aw,avS m O b0⟩
end
end Go.Proofs.YtlogblbfbihleaaGreat
