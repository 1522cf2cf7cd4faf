/- Lean texts of the claim. -/
import Derived.Test.YtboghahlhmnblaaGreatZv05
import Derived.Shelf.Abstract
import Derived.Laws.EntriesVeiled
import Derived.Sort.Grow
namespace Go.Proofs.YtboghahlhmnblaaGreat
set_option linter.all false
set_option maxRecDepth 100000
set_option maxHeartbeats 0
open Go.RowKit Go.Proofs.Tryz
variable{a r:World}{b h n q:Nat}{c t:Option Addr}{e:LP}{f:List LP}{g m:Int}{i:Value}{j:Exit->Act->World->Prop}{k:Int×Int}{l:List Int}{o:Program}{p:TypeId}{s:Act}{x:Int}{nb:Nat}{w:World}
def Ac6(l:LP)(n k:Nat):LP:=[gt l ((k+n-1) % n),gt l k,gt l ((k+1) % n)]
def De:Nat->LP->List LP->Option (List LP)
 | 0,cur,ts=>some (ts++[cur])
 | f+1,cur,ts =>
   if cur.length<=3 then some (ts++[cur])
   else if 0<=Db (Tl cur cur.length) cur.length then De f (cur.eraseIdx (Db (Tl cur cur.length) cur.length).toNat) ts
   else if Db (Gp cur cur.length) cur.length<0 then none
   else De f (cur.eraseIdx (Db (Gp cur cur.length) cur.length).toNat) (ts++[Ac6 cur cur.length (Db (Gp cur cur.length) cur.length).toNat])
theorem Qq{f:Nat}{cur:LP}{ts:List LP}(h:cur.length<=3):De f cur ts=some (ts++[cur]):=by
 cases f with
 | zero=>rfl
 | succ f=>unfold De;rw[if_pos h]
theorem Qp{f:Nat}{ts:List LP}{i:Nat}(c:e.length=b)(a:Db (Tl e b) b=(i:Int))(h:¬b<=3:=by omega):De (f+1) e ts=De f (e.eraseIdx i) ts:=by
 subst c;rw[show De (f+1) e ts=if e.length<=3 then some (ts++[e]) else if 0<=Db (Tl e e.length) e.length then De f (e.eraseIdx (Db (Tl e e.length) e.length).toNat) ts else if Db (Gp e e.length) e.length<0 then none else De f (e.eraseIdx (Db (Gp e e.length) e.length).toNat) (ts++[Ac6 e e.length (Db (Gp e e.length) e.length).toNat]) from rfl,if_neg h,if_pos (by rw[a];omega),a,cT]
theorem Ob{f:Nat}{ts:List LP}(d:e.length=b)(h:¬b<=3)(a:¬0<=Db (Tl e b) b)(c:Db (Gp e b) b<0):De (f+1) e ts=none:=by
 subst d;rw[show De (f+1) e ts=if e.length<=3 then some (ts++[e]) else if 0<=Db (Tl e e.length) e.length then De f (e.eraseIdx (Db (Tl e e.length) e.length).toNat) ts else if Db (Gp e e.length) e.length<0 then none else De f (e.eraseIdx (Db (Gp e e.length) e.length).toNat) (ts++[Ac6 e e.length (Db (Gp e e.length) e.length).toNat]) from rfl,if_neg h,if_neg a,if_pos c]
theorem Qr{f:Nat}{ts:List LP}{i:Nat}(d:e.length=b)(c:¬0<=Db (Tl e b) b)(a:Db (Gp e b) b=(i:Int))(h:¬b<=3:=by omega):De (f+1) e ts=De f (e.eraseIdx i) (ts++[Ac6 e b i]):=by
 subst d;rw[show De (f+1) e ts=if e.length<=3 then some (ts++[e]) else if 0<=Db (Tl e e.length) e.length then De f (e.eraseIdx (Db (Tl e e.length) e.length).toNat) ts else if Db (Gp e e.length) e.length<0 then none else De f (e.eraseIdx (Db (Gp e e.length) e.length).toNat) (ts++[Ac6 e e.length (Db (Gp e e.length) e.length).toNat]) from rfl,if_neg h,if_neg c,if_neg (by rw[a];omega),a,cT]
theorem Ik(f:Nat->Bool)(n:Nat):Db f n = -1\/∃k:Nat,k<n/\Db f n=(k:Int):=by
 unfold Db;cases h:(List.range n).find? f with
 | none=>exact .inl rfl
 | some i=>exact .inr ⟨i,by simpa using gF h,rfl⟩
theorem qh(l:LP)(n:Nat):(Ct l n).length<=n:=by
 unfold Ct rot;have a:=Po l n;have b:=Pj (Km l n) (Km l n).length;rw[bA,dF,bC];omega
def Afy(w:World)(a:Addr):Nat:=match w.cell? a with|some (.slice _ m _)=>m|_=>0
theorem Le{a:Addr}(d:w.cell? a=some (.slice c b h)):Afy w a=b:=by unfold Afy;rw[d]
def we(w:World)(r:Option (List LP))(e:Ending)(a:World):Prop :=
 Be w a/\match r with
  | none=>e=.returned (.tuple #[.slice none 0 0,.int .i64 11])
  | some ts=>∃v,e=.returned (.tuple #[v,.int .i64 0])/\Iw a w v ts
theorem OwS.els(h:OwS w b i e):ElS w b i e:=by
 obtain⟨A,c,rfl,m,n,r⟩:=h.sps;rcases h.2 with⟨j,k⟩|⟨g,o,f,j,p,q,_⟩
 .injection j with e1 k e3
  exact⟨A,c,rfl,m,n,λ_=>e3,λa d=>by rw[e1]at d;cases d⟩
 injection j with e1 k e3
 refine⟨A,c,rfl,m,n,λl=>?_,λa d=>?_⟩
 .rw[e1]at l;cases l
 rw[e1]at d;injection d with d;subst d;exact⟨p,f,(0,0),q⟩
theorem Zf:∀args w,(callFunc 281 args).run prog w=.ok (.enter 281 args) w:=by
 exact enters_of func281 aN rfl
theorem Abb:∀args w,(callFunc 283 args).run prog w=.ok (.enter 283 args) w:=by
 exact enters_of func283 aN rfl
theorem uc(a:World)(e h m:Nat)(Z:Array Value)(form:LP)(i:Z.size=m*2)(o:form.length=m)(f:SpS a (some ⟨e,0,none⟩) m form)(p:m<=1000):
 ∃W,(∀g,(Builtin.copy_ #[48,48] g #[.slice (some ⟨a,0,none⟩) m m,.slice (some ⟨e,0,none⟩) m h]).run prog ((a.alloc (.cells Z 65)).alloc (.cells #[.slice (some ⟨a,0,none⟩) m m] 48))=.ok m W) /\
  OwS W a (.slice (some ⟨a,0,none⟩) m m) form/\Bf W (a+1) 48 #[.slice (some ⟨a,0,none⟩) m m]/\Be a W:=by
 subst o;have d:Be a ((a.alloc (.cells Z 65)).alloc (.cells #[.slice (some ⟨a,0,none⟩) form.length form.length] 48)):=Ao blA;have j:Bf ((a.alloc (.cells Z 65)).alloc (.cells #[.slice (some ⟨a,0,none⟩) form.length form.length] 48)) a 65 Z:=(Bf.new _ _ _).alloc _;have n:Bf ((a.alloc (.cells Z 65)).alloc (.cells #[.slice (some ⟨a,0,none⟩) form.length form.length] 48)) (a+1) 48 #[.slice (some ⟨a,0,none⟩) form.length form.length]:=Bf.new2 _ _ _ _;generalize ((a.alloc (.cells Z 65)).alloc (.cells #[.slice (some ⟨a,0,none⟩) form.length form.length] 48))=W0 at *
 have b:=Cz Cm form;have c:Nat.min form.length form.length=form.length:=Nat.min_self _;have l:=λg=>Tu (P:=prog) W0 48 48 g 65 2 a 0 form.length form.length ⟨e,0,none⟩ form.length h Z 65 (form.flatMap enS) underlying48 Ae0 j (by rw[b,c]) (Ij (f.keep d)) (by rw[b,i];omega) (te _)
 rw[c]at l;refine⟨_,l,⟨b,.inr ⟨_,form.length,_,rfl,aA,setRow_heap W0 _ Z _ _ _ j,aA,by unfold maxLen;omega,?_,?_⟩⟩,?_,?_⟩
 .rw[List.size_toArray,bA,bA,bC,dF,b,Array.length_toList,i];omega
 .simp only[List.take_zero,dQ,dB];rw[List.take_append_of_le_length (by rw[b];omega),cW (by rw[b];omega)]
 .exact(setRow_other W0 a (a+1) _ (by omega)).trans n
 exact d.trans ⟨rfl,rfl,rfl,by simp[World.setRow],λk q=>setRow_other W0 a k _ (by omega)⟩
theorem Iw.own(h:Iw w b i f):OwG 48 1 enV w b i (Classical.choose h):=(Classical.choose_spec h).1
theorem Aoz(a:(Value.slice (some ⟨b,0,none⟩) h n).ownBlock=some q):b=q:=by simpa[Value.ownBlock] using a
theorem Cu{P:Program}{c:Code}(F:World->Prop)(a:F w)(h:∀X,F X->c.wp P j s X):c.wp P j s w:=h w a
theorem OwG.below{m:Type}{c:m->List Value}{l:List m}(o:OwG p b c w h i l)(s:Below n w a)(v:∀k,i.ownBlock=some k->k<n):OwG p b c a h i l:=by
 obtain⟨q,j⟩:=o;refine⟨q,?_⟩;rcases j with j|⟨g,e,f,d,t,u,r⟩
 .exact Or.inl j
 refine Or.inr ⟨g,e,f,d,t,?_,r⟩;rw[s.block g (v g (by rw[d];rfl))];exact u
theorem ElS.tri{a c:Int×Int}(f:Bf w h 65 #[k.1,k.2,a.1,a.2,c.1,c.2])(g:b<=h):ElS w b (.slice (some ⟨h,0,none⟩) 3 3) [k,a,c]:=by
 refine⟨some ⟨h,0,none⟩,3,rfl,aA,SpS.of3 f,(λe=>by cases e),λx d=>?_⟩;injection d with d
 subst d;exact⟨g,_,_,f⟩
theorem yj(b ca bp n:Nat)(l:LP)(w:World)(hl:n<=1000)(cz:n<=bp)(hs:SpS w (some ⟨b,ca,none⟩) n l)(hc:Bg l n=0):Calls prog 214 #[.slice (some ⟨b,ca,none⟩) n bp] w (we w (De (Ct l n).length (Ct l n) [])):=by
 have ds:=qh l n;let⟨form,a7⟩:∃form,form=Ct l n:=⟨_,rfl⟩
 have c4:=pg b ca bp n l w hl cz hs hc;rw[<-a7]at c4 ds ⊢;have e9:=Ar c4;clear c4 a7 hc;let⟨m,hm⟩:=gN form.length
 rw[hm]at ds ⊢;have HM:=Ar hm;clear hm;let⟨i,hi,e1,e2,e3⟩:=dW Si
 let⟨Z,hZ,bx⟩:∃Z:Array Value,Z.size=m*2/\∀w,(Instr.makeSlice 48 m m).run prog w=.ok (.slice (some ⟨w,0,none⟩) m m) (w.alloc (.cells Z 65)):=by
  refine⟨madeCells (Value.agg #[Value.int IntKind.i64 0,Value.int IntKind.i64 0]).cells (m*2),size_madeCells _ _,λw=>?_⟩;have hr:=iO (P:=prog) w 48 65 i (.agg #[.int .i64 0,.int .i64 0]) underlying48 hi e1 .i64 .i64 m m aK aK (by rw[e3];omega) aK;rw[e2]at hr;simpa using hr
 clear hi e1 e2 e3 i;go_enter func214,ntmps214
 go_upto_region 4 with (go_at_call 279;refine e9.out.mono ?_;rintro e y ⟨v1,rfl,b4,N⟩)
 rcases OwG.form b4 with⟨rfl,da⟩|⟨gf,cp,rfl,-,-,db,-⟩
 .have fb:m=0:=by rw[<-HM.out,da];rfl
  subst fb;subst da;have fv:∀ty (W:World),(Builtin.copy_ #[48,48] ty #[.slice (some ⟨y,0,none⟩) 0 0,.slice none 0 0]).run prog W=.ok (goInt 0) W:=λty W=>run_copy_nil prog W 48 48 ty 65 ⟨y,0,none⟩ 0 0 underlying48 (by rw[Ae0];rfl)
  have gy:∀w,(Instr.makeSlice 48 (.int .i64 0) (.int .i64 0)).run prog w=.ok (.slice (some ⟨w,0,none⟩) 0 0) (w.alloc (.cells Z 65)):=bx
  clear bx;go_wp2;go_loopw [10] (λcb wr=>cb=.slice none 0 0/\Bf wr y 65 Z/\Bf wr (y+1) 48 #[.slice (some ⟨y,0,none⟩) 0 0]/\Be w wr) (λ_ _=>0)
  case atStart=>exact⟨rfl,((Bf.new _ _ _).alloc _).alloc _,(Bf.new2 _ _ _ _).alloc _,Ao (Ao (Ao N))⟩
  obtain⟨rfl,eg,r,hb⟩:=hrel;have T:=r.cell 0;simp only[cA,bS]at T;have ew:ElS wr w (.slice (some ⟨y,0,none⟩) 0 0) []:=⟨some ⟨y,0,none⟩,0,rfl,aA,⟨rfl,.inl rfl⟩,(λh=>by cases h),λa ha=>by injection ha with ha;subst ha;exact⟨N.size,Z,(0,0),eg⟩⟩
  go_wp2_with (at_builtin;refine Fo rfl w [] Iw.nil wr 1 (.slice (some ⟨y,0,none⟩) 0 0) [] 48 (Bf.new _ _ _) (ew.keep blA) (hlen:=aL) (Ao hb).size ?_;intro v' w' c5 Q Y)
  go_ret2
  exact⟨Bk (Ao hb) (Iw.own (Iw.nil (w:=wr.alloc _))) Q,v',rfl,c5⟩
 rw[HM.out]at db b4 ⊢;have bb:=b4.spsg HM.out;let⟨W,L,ak,bs,b1⟩:=uc y gf cp m Z form hZ HM.out bb aK;clear b4 db;have b9:Be w W:=An N b1;go_wp2_with fail;clear L bx;have q:Bf (W.alloc (.cells #[.func (.func 280) #[] #[.pointer (some ⟨y+1,0,none⟩)]] 308)) W 308 #[.func (.func 280) #[] #[.pointer (some ⟨y+1,0,none⟩)]]:=Bf.new _ _ _;have r:=bs.alloc (.cells #[.func (.func 280) #[] #[.pointer (some ⟨y+1,0,none⟩)]] 308);have c9:OwS (W.alloc (.cells #[.func (.func 280) #[] #[.pointer (some ⟨y+1,0,none⟩)]] 308)) w (.slice (some ⟨y,0,none⟩) m m) form:=(OwG.lower ak N.size).alloc _;have bu:=Ao b9 (o:=.cells #[.func (.func 280) #[] #[.pointer (some ⟨y+1,0,none⟩)]] 308);have dk:y.heap.size+1<W.heap.size:=bs.lt;have ey:w.heap.size<=y.heap.size:=N.size;let⟨g,hg⟩:∃g,g=y.heap.size:=⟨_,rfl⟩
 let⟨x,bt⟩:∃x,x=W.heap.size:=⟨_,rfl⟩
 rw[<-hg]at q r c9 bu dk ey ⊢;rw[<-bt]at q dk ⊢;have fc:(W.alloc (.cells #[.func (.func 280) #[] #[.pointer (some ⟨g+1,0,none⟩)]] 308)).heap.size=x+1:=by rw[bt];simp
 generalize W.alloc (.cells #[.func (.func 280) #[] #[.pointer (some ⟨g+1,0,none⟩)]] 308)=WL at *
 clear hg bt b9 b1 bs ak N bb;have e0:x+1<=WL.heap.size:=aK
 clear fc;go_loopw [10] (λcb wr=>∃(c:LP) (k f:Nat) (C:List LP),Hid (c.length=k)/\k<=m/\C.length+k<=m/\OwS wr w (.slice (some ⟨g,0,none⟩) k m) c/\Bf wr (g+1) 48 #[.slice (some ⟨g,0,none⟩) k m]/\Bf wr x 308 #[.func (.func 280) #[] #[.pointer (some ⟨g+1,0,none⟩)]]/\Iw wr (x+1) cb C/\Be w wr/\k<=f/\Hid (De f c C=De m form [])) (λ_ wr=>Afy wr ⟨g+1,0,none⟩)
 case atStart=>exact⟨form,m,m,[],HM,aA,aL,c9,r,q,Iw.nil,bu,aA,rfl⟩
 clear c9 r q bu e0;obtain⟨c,k,f,C,HK,b3,hd,ho,r,q,R,hb,h7,B⟩:=hrel;have T:=r.cell 0;have c7:=q.cell 0;simp only[cA,bS]at T c7;have S:=ho.spsg HK.out;have e8:=Ar (Le T);by_cases h6:3<k
 .rcases Ik (Tl c k) k with c0|⟨i,ad,F⟩
  case' inr =>
   have v:=Qp (f:=f-1) (ts:=C) HK.out F;rw[show f-1+1=f by omega]at v;have D:=Ar (v.symm.trans B.out);clear v B;have E:=Pk 281 #[.pointer (some ⟨x,0,none⟩)] k (Tl c k) wr Zf (λj w' J s=>Mr x (g+1) g k m j c w' b3 (Aq s c7) (Aq s T) (S.keep s) J);rw[F]at E;have aw:=Ar E;clear E F
   go_upto_region 18 with (go_at_call 285;refine aw.out.mono ?_;rintro e M ⟨rfl,d⟩)
   have c6:OwS M _ _ _:=OwG.keep ho d;have H:=r.keep d;have U:=q.keep d;have u:=R.keep d;have a6:=An hb d;have bq:=Aq d T;clear ho r q R hb T c7 S d;let⟨b5,G⟩:∃t,t=C:=⟨_,rfl⟩
   rw[<-G]at u D;have bc:b5.length+(k-1)<=m:=by rw[G];omega
   clear G
  case' inl =>
   have K:¬0<=Db (Tl c k) k:=by rw[c0];omega
   have E:=Pk 281 #[.pointer (some ⟨x,0,none⟩)] k (Tl c k) wr Zf (λj w' J s=>Mr x (g+1) g k m j c w' b3 (Aq s c7) (Aq s T) (S.keep s) J);rw[c0]at E;have aw:=Ar E;clear E c0;have O:=λ(M:World) (d:Be wr M)=>Pk 283 #[.pointer (some ⟨x,0,none⟩),.pointer (some ⟨g+1,0,none⟩)] k (Gp c k) M Abb (λj w' J s=>Aa7 x (g+1) g k m j c w' aK b3 (Aq s (Aq d c7)) (Aq s (Aq d T)) ((S.keep d).keep s) J)
   rcases Ik (Gp c k) k with c3|⟨i,ad,F⟩
   case inl =>
    have v:=Ob (f:=f-1) (ts:=C) HK.out aK K (by rw[c3];omega);rw[show f-1+1=f by omega]at v;have D:=Ar (B.out.symm.trans v);rw[c3]at O;have bm:=Ar O;clear O v B c3 K;go_wp2_with fail;refine aw.out.mono ?_;rintro e M ⟨rfl,d⟩;have bq:=Aq d T;go_wp2_with fail;refine rR (bm.out M d) λw3 er=>?_;go_wp2
    go_ret2
    refine⟨An (An hb d) er,?_⟩;rw[D.out];rfl
   have v:=Qr (f:=f-1) (ts:=C) HK.out K F;rw[show f-1+1=f by omega]at v;have D:=Ar (v.symm.trans B.out);rw[F]at O;have bm:=Ar O;clear O v B K F;go_wp2_with fail;refine aw.out.mono ?_;rintro e wa ⟨rfl,a1⟩;have ck:=Aq a1 T;go_wp2_with fail;refine rR (bm.out wa a1) λwb b2=>?_;have cm:=Aq b2 ck;have ec:=Aq b2 (Aq a1 c7)
   go_upto_region 17 with (go_at_call 280;refine rR (Mm (g+1) g k m i c _ aK b3 cm ((S.keep a1).keep b2) ad) λwd ev=>?_)
   have b8:Be wr wd:=An (An a1 b2) ev;generalize cn:gt c ((i+k-1) % k)=p1;generalize cu:gt c i=p2;generalize cw:gt c ((i+1) % k)=p3
   have cj:Hid (Ac6 c k i=[p1,p2,p3]):=by
    show _=_
    unfold Ac6;rw[cn,cu,cw]
   clear cn cu cw;refine Cu (Cls wd [(⟨wd,0,none⟩,p1.1),(⟨wd,1,none⟩,p1.2),(⟨wd+1,0,none⟩,p2.1),(⟨wd+1,1,none⟩,p2.2),(⟨wd+1+1,0,none⟩,p3.1),(⟨wd+1+1,1,none⟩,p3.2)]) ⟨(Ao (Ao (Ao (aV _ _)))),aR⟩ ?_;intro X hX;have hx:=hX.2;simp only[AC]at hx;have z:Be wr X:=An b8 hX.1;have I:x+1<=wr.heap.size:=q.lt;have cy:x+1<=X.heap.size:=bB I z.size;clear hX b8 cm ec ck
   go_upto_region 18 with (at_builtin;refine Fo rfl (x+1) C (R.keep (Ao (Ao z))) (X+1) 1 (.slice (some ⟨X,0,none⟩) 3 3) [p1,p2,p3] 48 (Bf.new2 _ _ _ _) (ElS.tri ((Bf.new _ _ _).alloc _) cy) (bB I (Ao (Ao z)).size) ?_;intro v' M u Q Y)
   have A:Below (x+1) wr M:=dS ((Ao (Ao z)).mono I) Q (bB I (Ao (Ao z)).size) (λj J=>(OwG.lt (Iw.own R) j J).1);have c6:OwS M w (.slice (some ⟨g,0,none⟩) k m) c:=OwG.below ho A (λj J=>by have:=Aoz J;omega);have H:Bf M (g+1) 48 #[.slice (some ⟨g,0,none⟩) k m]:=(A.block (g+1) aK).trans r;have U:Bf M x 308 #[.func (.func 280) #[] #[.pointer (some ⟨g+1,0,none⟩)]]:=(A.block x aK).trans q;have a6:Be w M:=hb.trans (A.mono aK);have bq:=H.cell 0;simp only[cA,bS]at bq;rw[cj.out]at D;clear ho r q R hb T c7 S hx Y Q A;let⟨b5,G⟩:∃t,t=C++[[p1,p2,p3]]:=⟨_,rfl⟩
   rw[<-G]at u D;have bc:b5.length+(k-1)<=m:=by rw[G,bA];simp;omega
   clear G
  all_goals
   have z1:(i:Int)<=(k:Int):=aK
   have z2:(i:Int)+1<=(k:Int):=aK
   have z3:(k:Int)<=(m:Int):=aK
   have z4:(i:Int)<=(m:Int):=aK
   have z5:(i:Int)+1<=(m:Int):=aK
   have z6:(0:Int)<=(i:Int)+1:=aK
   have z7:((i:Int)+1).toNat=i+1:=aK
   have z8:¬m=i:=aK
   have q1:IntKind.i64.wrap ((i:Int)+1)=(i:Int)+1:=Dx i 1;by_cases ai:i+1=m
   case' pos =>
    let⟨W2,L,ak,a8⟩:=OwS.erase (w:=M.drew) (OwS.drew c6) HK.out ad ⟨g,0,none⟩ (λh=>by omega);have z9:(m=i+1)=True:=eq_true ai.symm
   case' neg =>
    let⟨W2,L,ak,a8⟩:=OwS.erase (w:=M.drew) (OwS.drew c6) HK.out ad ⟨g,(i+1)*2,none⟩ (λ_=>rfl);have z9:¬m=i+1:=aK
   all_goals
    clear ai;go_region;clear L q1;have V:Bf W2 (g+1) 48 #[.slice (some ⟨g,0,none⟩) k m]:=(a8.block (g+1) H.lt aL).trans H;have cx:Bf W2 x 308 #[.func (.func 280) #[] #[.pointer (some ⟨g+1,0,none⟩)]]:=(a8.block x U.lt aO).trans U;have dy:=u.keepAbove (w':=W2) (λj J dx=>a8.block j dx aO);have b1:Be w W2:=dS (Aw a6) a8 a6.size (λj J=>by injection J with J;omega);have ee:=V.cell 0;have fW:=V.frozen 0;simp only[cA,bS]at ee;have y1:(0:Int)<=(k:Int)-1:=aK
    have y2:(k:Int)-1<=(m:Int):=aK
    have y3:((k:Int)-1).toNat=k-1:=aK
    go_wp2_with fail;have b6:=V.set_ 0 (.slice (some ⟨g,0,none⟩) (k-1) m);refine⟨⟨c.eraseIdx i,k-1,f-1,b5,?_,aK,bc,OwG.far ak (p:=⟨g+1,0,none⟩) (by simp[Value.ownBlock]) _,b6,cx.far (p:=⟨g+1,0,none⟩) aO _,dy.keepAbove (λj J dx=>dN W2 ⟨g+1,0,none⟩ _ j aO),Ba b1 (p:=⟨g+1,0,none⟩) aO,aK,D⟩,?_⟩
    .show _=_
     rw[List.length_eraseIdx_of_lt (by rw[HK.out];exact ad),HK.out]
    rw[e8.out,Le (b6.cell 0)];omega
 have ba:=Qq (f:=f) (cur:=c) (ts:=C) (by rw[HK.out];omega);have cf:=Ar (B.out.symm.trans ba);clear ba B;have u:=R.lower (base':=w.heap.size) aK
 go_wp2_with (at_builtin;refine Fo rfl w C (u.keep blA) wr 1 (.slice (some ⟨g,0,none⟩) k m) c 48 (Bf.new _ _ _) ((OwS.els ho).keep blA) (Ao hb).size ?_;intro v' w' c5 Q Y)
 go_ret2
 refine⟨Bk (Ao hb) (Iw.own (u.keep blA)) Q,?_⟩;rw[cf.out];exact⟨v',rfl,c5⟩
theorem ef(A:Option Addr)(a n:Nat)(l:LP)(w:World)(f:n<=9223372036854775807)(b:n<=a)(g:SpS w A n l)(d:¬Bg l n=0):Calls prog 279 #[.slice A n a] w (Bz w (.tuple #[.slice none 0 0,(Bg l n)])):=by
 have q:(Bg l n != 0)=true:=by rw[eT];exact d
 clear d;go_in
 go_wp2_with (go_at_call 39;refine rR (Dc _ _ _ l (hl:=f) b g) λh c=>?_)
 go_ret2
 exact⟨rfl,c⟩
theorem jz(A:Option Addr)(a n:Nat)(l:LP)(w:World)(h:n<=9223372036854775807)(b:n<=a)(i:SpS w A n l)(g:¬Bg l n=0):Calls prog 214 #[.slice A n a] w (Bz w (.tuple #[.slice none 0 0,(Bg l n)])):=by
 have q:(Bg l n != 0)=true:=by rw[eT];exact g
 have c:=ef A a n l w h b i g;have d:=Ar c;clear c g;go_in
 go_wp2_with (go_at_call 279;refine d.out.mono ?_;rintro e j ⟨rfl,f⟩)
 go_ret2
 exact⟨rfl,f⟩
theorem El(h:Bg e b=0):3<=b/\b<=40:=by
 refine⟨?_,?_⟩
 .rcases bG b 3 with a|a
  .rw[Jf a]at h;omega
  exact a
 rcases bG 40 b with a|a
 .rw[Ir a]at h;omega
 exact a
def Acm(w:World)(l:LP)(n:Nat)(e:Ending)(b:World):Prop :=
 Be w b/\((¬Bg l n=0/\e=.returned (.tuple #[.slice none 0 0,(Bg l n)])) \/
  (Bg l n=0/\De (Ct l n).length (Ct l n) []=none/\e=.returned (.tuple #[.slice none 0 0,.int .i64 11])) \/
  (Bg l n=0/\∃a v,De (Ct l n).length (Ct l n) []=some a/\e=.returned (.tuple #[v,.int .i64 0])/\Iw b w v a))
theorem ka(A:Option Addr)(a n:Nat)(l:LP)(w:World)(r:n<=9223372036854775807)(c:n<=a)(g:SpS w A n l):Calls prog 214 #[.slice A n a] w (Acm w l n):=by
 by_cases d:Bg l n=0
 .have t:=El d;obtain⟨b,i,rfl,-,-⟩:=g.at_ (k:=0) aK;refine(yj b i a n l w aK c g d).mono ?_;intro e s h;obtain⟨j,f⟩:=h;refine⟨j,.inr ?_⟩;cases hsp:De (Ct l n).length (Ct l n) [] with
  | none=>rw[hsp]at f;exact .inl ⟨d,rfl,f⟩
  | some ts =>
    rw[hsp]at f;obtain⟨v,m,o⟩:=f;exact .inr ⟨d,ts,v,rfl,m,o⟩
 exact(jz A a n l w r c g d).mono λe s ⟨q,p⟩=>⟨p,.inl ⟨d,q⟩⟩
theorem M5(x y:Int)(w:World):Calls prog 150 #[x,y] w λe a=>e=.returned (Ey x y)/\w=a:=by
 go_enter func150,ntmps150
 go_wp2_with (go_at_call 212;refine aG (Up) ?_)
 all_goals go_ret
 all_goals exact⟨Bm (by unfold Ey;(repeat split)<;>omega),rfl⟩
def orI:List Int->Int
 | []=>0
 | x::l=>if x != 0 then x else orI l
theorem Afl{k:Nat}(h:∀j,j<k->l[j]? = some 0)(hk:l[k]? = some x)(hx:(x != 0)=true):orI l=x:=by
 induction l generalizing k with
 | nil=>simp at hk
 | cons a l ih =>
   cases k with
   | zero=>simp at hk;subst hk;unfold orI;rw[if_pos hx]
   | succ k =>
     have h0:=h 0 aK;simp at h0;subst h0;rw[show orI (0::l)=orI l from rfl];exact ih (k:=k) (λj hj=>by simpa using h (j+1) aK) (by simpa using hk)
theorem zz(h:∀j,j<l.length->l[j]? = some 0):orI l=0:=by
 induction l with
 | nil=>rfl
 | cons a l ih =>
   have b:=h 0 aL;simp at b;subst b;rw[show orI (0::l)=orI l from rfl];exact ih λj c=>by simpa using h (j+1) aO
theorem Adq(b h n:Nat)(l:List Int)(w:World)(v:l.length=n)(u:∀(k:Nat) (x:Int),l[k]? = some x->Cq w b k x)(B:n<=1000:=by omega):Calls prog 149 #[.slice (some ⟨b,0,none⟩) n h] w λe y=>e=.returned (orI l)/\w=y:=by
 have s:=Ar v;have f:=Ar u;clear v u;go_in;go_wp2
 go_loop [8] (λi=>∃k:Nat,k<=n/\i=k/\Hid (∀j,j<k->l[j]? = some 0)) λi=>n-(intOf i).toNat
 case atStart=>exact⟨0,aB,rfl,λj a=>absurd a aK⟩
 obtain⟨k,A,rfl,q⟩:=hrel;by_cases p:k<n
 .obtain⟨x,r⟩:∃x,l[k]? = some x:=⟨_,aW (by rw[s.out];exact p)⟩
  have z:=f.out k x r;have t:=Ar r;clear r;by_cases m:(x != 0)=true
  .go_wp2;go_ret;exact⟨Bm (Afl q.out t.out m).symm,rfl⟩
  have o:(x != 0)=false:=by simpa using m
  have d:x=0:=by simpa using o
  have g:=Ar d;clear m d;go_wp2
  go_round
  case rel =>
   refine⟨k+1,aK,aP,λj a=>?_⟩;rcases bG j k with c|c
   .exact q.out j c
   have:j=k:=aK
   rw[this,t.out,g.out]
  case measure=>simp[intOf];omega
 obtain rfl:n=k:=aK
 go_wp2;go_ret;exact⟨Bm (zz λj a=>q.out j (by rw[s.out]at a;exact a)).symm,rfl⟩
def H6(p q:Int×Int):Int:=orI [Ey p.1 q.1,Ey p.2 q.2]
theorem Agz{b a:Int}:orI [Ey g b,Ey m a]=H6 (g,m) (b,a):=rfl
def GrW(w:World)(b:World):Prop:=∃q a,b=Sort.grow (w.drewN q) a
theorem GrW.refl(w:World):GrW w w:=⟨0,#[],by rw[Sort.grow_empty];rfl⟩
theorem GrW.alloc(h:GrW w a)(o:Obj):GrW w (a.alloc o):=by
 obtain⟨q,b,rfl⟩:=h;exact⟨q,b++#[o],by rw[Sort.alloc_eq_grow,Sort.grow_grow]⟩
theorem GrW.drew(h:GrW w a):GrW w a.drew:=by
 obtain⟨q,b,rfl⟩:=h;exact⟨q+1,b,rfl⟩
theorem GrW.below(h:GrW w a):Be w a:=by
 obtain⟨q,c,rfl⟩:=h;refine⟨rfl,rfl,rfl,by simp[Sort.grow],λk b=>?_⟩
 show (w.heap++c)[k]? = _
 rw[Array.getElem?_append_left b]
theorem or2{tb:TypeId}(h:Bf w b tb #[x,g]):Calls prog 149 #[.slice (some ⟨b,0,none⟩) 2 2] w λe c=>e=.returned (orI [x,g])/\w=c :=
 Adq b 2 2 [x,g] w rfl (λk z a=>by
  match k,a with
  | 0,a=>simp at a;subst a;exact h.cell 0
  | 1,a=>simp at a;subst a;exact h.cell 1)
theorem Ck{P:Program}{l:List Oper}(n:Nat)
 (h:wpStill P l.toArray w.drew (λa=>wpList P l.toArray j (l.drop n) a w.drew) (l.take n) s) (d:P.follows .mixedOrders=true:=by kernel_rfl) (c:Region.lexTailB .any l.toArray n=true:=by kernel_rfl) :(Code.region b l.toArray true).wp P j s w:=wp_region_still_tail n d c h
theorem Gu:Calls prog 150 #[x,g] w λe c=>e=.returned (Ey x g)/\c=w:=(M5 x g w).mono λ_ _ ⟨a,b⟩=>⟨a,b.symm⟩
theorem Aet{f:Nat}(g:f=264\/f=376\/f=148)(a b d c:Int)(w:World):Calls prog f #[.agg #[a,b],.agg #[d,c]] w λe h=>e=.returned (H6 (a,b) (d,c))/\GrW w h:=by
 rcases g with rfl|rfl|rfl
 all_goals
  go_in
  go_wp2_with fail;refine Ck 10 ?_
  simp only[List.take_succ_cons,List.take_zero,List.drop_succ_cons,List.drop_zero]
  repeat still_step
  still_call (Gu)
  repeat still_step
  still_call (Gu)
  refine wpStill_nil ?_
  go_wp2_with (go_at_call 149;refine(or2 (Bf.drew (Bf.new3 _ _ _ _ _))).mono ?_;rintro e i ⟨rfl,rfl⟩)
  go_ret;exact⟨Bm (Agz),GrW.drew (GrW.alloc (GrW.alloc (GrW.alloc (GrW.refl _) _) _) _)⟩
def Ox:=@Aet 264 (.inl rfl)
def Ab5:=@Aet 376 (.inr (.inl rfl))
def Aa9:=@Aet 148 (.inr (.inr rfl))
theorem gn(b:Addr)(a n:Nat)(l:LP)(w:World)(k:n<=1000000)(i:SpS w (some b) n l):Calls prog 375 #[.slice (some b) n a] w (Vi w l):=by
 have g:=λ(w:World)=>Lib.run_eql_slice_nil (P:=prog) w 48 65 (some b) n a 0 0 underlying48
 have e:OwS (w.alloc (.cells #[] 65)) w (.slice (some ⟨w,0,none⟩) 0 0) []:=World.ownsRow_lit w #[] 0 aA aB rfl;go_in
 go_wp2_with (at_builtin;refine Et rfl w [] e (some b) n a l (i.keep blA) (λh=>by cases h) aO blA.size ?_;intro j m d c f)
 go_ret;exact⟨j,rfl,by simpa using d,Bk blA e c⟩
def Qf(l:LP):LP:=l.map λp=>(wrap64 (-p.1),wrap64 (-p.2))
theorem R6(l:LP):(Qf l).length=l.length:=by simp[Qf]
theorem eu(n:Nat):(madeCells (Value.agg #[Value.int IntKind.i64 0,Value.int IntKind.i64 0]).cells (n*2)).toList=(List.replicate n ((0:Int),(0:Int))).flatMap enS:=by
 apply fF;intro j;rcases bG j (n*2) with a|a
 .have h:=Bu Cm (List.replicate n ((0:Int),(0:Int))) (j / 2) (j % 2) (0,0) (by rw[fA,if_pos aK]) aK;rw[show j / 2*2+j % 2=j by omega]at h;rw[h];have e:(Value.agg #[Value.int IntKind.i64 0,Value.int IntKind.i64 0]).cells=#[.int .i64 0,.int .i64 0]:=aN
  rw[e];unfold madeCells;rw[Array.getElem?_toList,Array.getElem?_map,Array.getElem?_range,if_pos a];rcases gV j with b|b<;>simp[b,enS]
 rw[bI (by rw[Array.length_toList,size_madeCells];exact a),bI (by rw[Cz Cm];simpa using a)]
theorem Ht(n:Nat)(f:n<=1000000):∃Z:Array Value,(∀w,(Instr.makeSlice 48 n n).run prog w=.ok (.slice (some ⟨w,0,none⟩) n n) (w.alloc (.cells Z 65)))/\∀w:World,OwS (w.alloc (.cells Z 65)) w (.slice (some ⟨w,0,none⟩) n n) (List.replicate n (0,0)):=by
 let⟨i,e,a,b,c⟩:=dW Si;refine⟨madeCells (Value.agg #[Value.int IntKind.i64 0,Value.int IntKind.i64 0]).cells (n*2),λw=>?_,λw=>?_⟩
 .have d:=iO (P:=prog) w 48 65 i (.agg #[.int .i64 0,.int .i64 0]) underlying48 e a .i64 .i64 n n aK aK (by rw[c];omega) aK;rw[b]at d;simpa using d
 unfold OwS OwG;rw[List.length_replicate,<-eu];exact World.ownsRow_lit w _ n aA aS (size_madeCells _ _)
theorem Aft(a:b<e.length):gt (Qf e) b=(wrap64 (-(gt e b).1),wrap64 (-(gt e b).2)):=by
 unfold gt Qf;rw[List.getD,dC,List.getD,aW a];rfl
theorem Q5(l:LP)(o:SpS w c h l)(v:h<=1000000:=by omega):Calls prog 329 #[.slice c h b] w (Vi w (Qf l)):=by
 let⟨Z,m,q⟩:=Ht h v;go_in;go_wp2;go_loopw [11] (λi wr=>∃(k:Nat) (z:LP),k<=h/\i=k/\z.length=h/\(∀p,p<k->gt z p=(wrap64 (-(gt l p).1),wrap64 (-(gt l p).2)))/\OwS wr w (.slice (some ⟨w,0,none⟩) h h) z/\Be w wr) λi _=>h-(intOf i).toNat
 case atStart=>exact⟨0,_,aB,rfl,List.length_replicate,λp g=>absurd g (Nat.not_lt_zero _),q w,blA⟩
 clear m q;obtain⟨k,z,E,rfl,d,g,n,j⟩:=hrel;by_cases a:k<h
 .obtain⟨y,x,rfl,t,r⟩:=(o.keep j).at_ a;let⟨D,f⟩:=r k a;clear r;let⟨s,A,B,C⟩:=n.cells d a;have u:w.heap.size<wr.heap.size:=Bi s;go_wp2;refine⟨⟨k+1,z.set k (wrap64 (-(gt l k).1),wrap64 (-(gt l k).2)),aK,aP,by rw[cD];exact d,λp e=>?_,(n.store d a _ _).alloc _,Ao (Ba (Ba j (p:=⟨w,k*2,none⟩) aA) (p:=⟨w,k*2+1,none⟩) aA)⟩,aI⟩;rw[Lg (by rw[d];exact a)];by_cases f:k=p
  .rw[if_pos f,f]
  rw[if_neg f];exact g p aK
 obtain rfl:h=k:=aK
 go_wp2;go_ret;refine⟨_,rfl,?_,j⟩;rw[show Qf l=z from Gn (by rw[R6,o.1,d]) λp e=>by rw[R6]at e;rw[Aft e,g p (by rw[<-o.1];exact e)]];exact n
def Yv(l:LP)(d:Int×Int):LP:=l.map λp=>(wrap64 (p.1+d.1),wrap64 (p.2+d.2))
theorem Ld(l:LP)(d:Int×Int):(Yv l d).length=l.length:=by simp[Yv]
theorem Afw{d:Int×Int}(a:b<e.length):gt (Yv e d) b=(wrap64 ((gt e b).1+d.1),wrap64 ((gt e b).2+d.2)):=by
 unfold gt Yv;rw[List.getD,dC,List.getD,aW a];rfl
theorem mi(A:Option Addr)(f n:Nat)(l:LP)(x y:Int)(C:n<=1000000)(o:SpS w A n l):Calls prog 63 #[.slice A n f,.agg #[x,y]] w (Vi w (Yv l (x,y))):=by
 let⟨Z,j,r⟩:=Ht n C;go_in;go_wp2;go_loopw [13] (λi wr=>∃(k:Nat) (z:LP),k<=n/\i=k/\z.length=n/\(∀p,p<k->gt z p=(wrap64 ((gt l p).1+x),wrap64 ((gt l p).2+y)))/\Bf wr w 65 #[x,y]/\OwS wr (w+1) (.slice (some ⟨w+1,0,none⟩) n n) z/\Be w wr) λi _=>n-(intOf i).toNat
 case atStart=>exact⟨0,_,aB,rfl,List.length_replicate,λp e=>absurd e (Nat.not_lt_zero _),(Bf.new _ _ _).alloc _,by have:=r (w.alloc (.cells #[x,y] 65));simpa using this,Ao blA⟩
 clear j r;obtain⟨k,z,K,rfl,c,e,q,m,g⟩:=hrel;by_cases a:k<n
 .obtain⟨b,D,rfl,v,s⟩:=(o.keep g).at_ a;let⟨J,d⟩:=s k a;clear s;let⟨u,E,H,I⟩:=m.cells c a;have B:w.heap.size+1<wr.heap.size:=Bi u;have t:w.heap.size<wr.heap.size:=aK
  obtain⟨F,G,-⟩:=q.pair;go_wp2;refine⟨⟨k+1,z.set k (wrap64 ((gt l k).1+x),wrap64 ((gt l k).2+y)),aK,aP,by rw[cD];exact c,λp h=>?_,((q.far (p:=⟨w+1,k*2,none⟩) (eL (Nat.lt_succ_self _)) _).far (p:=⟨w+1,k*2+1,none⟩) (eL (Nat.lt_succ_self _)) _).alloc _,(m.store c a _ _).alloc _,Ao (Ba (Ba g (p:=⟨w+1,k*2,none⟩) (dU _)) (p:=⟨w+1,k*2+1,none⟩) (dU _))⟩,aI⟩;rw[Lg (by rw[c];exact a)];by_cases d:k=p
  .rw[if_pos d,d]
  rw[if_neg d];exact e p aK
 obtain rfl:n=k:=aK
 go_wp2;go_ret;refine⟨_,rfl,?_,g⟩;rw[show Yv l (x,y)=z from Gn (by rw[Ld,o.1,c]) λp h=>by rw[Ld]at h;rw[Afw h,e p (by rw[<-o.1];exact h)]];exact m.lower (dU _)
theorem Aag(l:LP)(d:h<=1000000)(i:SpS w c h l):Calls prog 40 #[.slice c h b,.agg #[x,g]] w (Vi w (Yv l (x,g))):=by
 go_in
 go_wp2_with (go_at_call 63;refine aF (mi c b h l x g d (i.keep blA)) λj v f a=>?_)
 go_ret;refine⟨_,rfl,f.lower aL,An blA a⟩
def Yw(p q:Int×Int)(b:LP):Nat->Int
 | 0 => -1
 | k+1=>max (Yw p q b k) (Ey (Bs p q (gt b k)) 0)
def Ki(a b:LP)(c nb:Nat):Nat->Int
 | 0=>1
 | k+1=>min (Ki a b c nb k) (Yw (gt a k) (gt a ((k+1) % c)) b nb)
def ma(a b:LP):Int:=Ki a b a.length b.length a.length
def Nv(a b:LP):Int:=min (ma a b) (ma b a)
theorem T5(a q:LP)(I:n<=1000000)(J:nb<=1000000)(y:SpS w c n a)(z:SpS w t nb q):Calls prog 286 #[.slice c n b,.slice t nb h] w (Bz w (Ki a q n nb n)):=by
 go_in;go_wp2;go_loopw [5,15] (fun r i wr=>∃k:Nat,k<=n/\i=k/\r=(Ki a q n nb k)/\Be w wr) (fun _ i _=>n-(intOf i).toNat)
 case atStart=>exact⟨0,aB,rfl,rfl,bl0⟩
 obtain⟨k,P,rfl,rfl,u⟩:=hrel;by_cases p:k<n
 ·obtain⟨M,Q,rfl,v,g⟩:=(y.keep u).at_ p;have x:(k+1) % n<n:=bE _ aK;obtain⟨B,C⟩:=g k p;obtain⟨F,G⟩:=g _ x;clear g;have K:=(Q6 ((k:Int)+1) (k+1) n).2;go_wp2;clear B C F G K;have f:Cls w [(⟨wr,0,none⟩,(gt a k).1),(⟨wr,1,none⟩,(gt a k).2),(⟨wr+1,0,none⟩,(gt a ((k+1) % n)).1),(⟨wr+1,1,none⟩,(gt a ((k+1) % n)).2)] ((wr.alloc (.cells #[(gt a k).1,(gt a k).2] 65)).alloc (.cells #[(gt a ((k+1) % n)).1,(gt a ((k+1) % n)).2] 65)):=⟨Ao (Ao u),aR⟩;obtain⟨d,m⟩:∃d,d=wr.heap.size:=⟨_,rfl⟩
  rw[<-m]at f ⊢;have l:=Ar f;clear f;go_loopw [9,30] (fun r i L=>∃j:Nat,j<=nb/\i=j/\r=(Yw (gt a k) (gt a ((k+1) % n)) q j)/\Cls w [(⟨d,0,none⟩,(gt a k).1),(⟨d,1,none⟩,(gt a k).2),(⟨d+1,0,none⟩,(gt a ((k+1) % n)).1),(⟨d+1,1,none⟩,(gt a ((k+1) % n)).2)] L) (fun _ i _=>nb-(intOf i).toNat)
  case atStart=>exact⟨0,aB,rfl,rfl,l.out⟩
  clear l m u v;obtain⟨j,O,rfl,rfl,s⟩:=hrel;have A:=s.2;simp only[AC]at A;have D:d<wr.heap.size:=Bi A.1;have E:d+1<wr.heap.size:=Bi A.2.2.1;by_cases o:j<nb
  ·obtain⟨N,R,rfl,H,g⟩:=(z.keep s.1).at_ o;obtain⟨B,C⟩:=g j o;clear g
   go_wp2_with (go_at_call 150;refine aG (M5 _ _ _) ?_)
   exact⟨⟨j+1,aK,aP,by simp only[Yw,Bs]<;>congr 1<;>omega,s.call blA⟩,by simp[intOf]<;>omega⟩
  obtain rfl:nb=j:=aK
  go_wp2;exact⟨⟨k+1,aK,aP,by simp only[Ki]<;>congr 1<;>omega,s.1⟩,by simp[intOf]<;>omega⟩
 obtain rfl:n=k:=aK
 go_wp2;go_ret;exact⟨rfl,u⟩
theorem Wz(a d:LP)(j:n<=1000000)(k:nb<=1000000)(g:SpS w c n a)(i:SpS w t nb d):Calls prog 215 #[.slice c n b,.slice t nb h] w (Bz w (Nv a d)):=by
 have m:=Ar (show Nv a d=min (Ki a d n nb n) (Ki d a nb n nb) by unfold Nv ma;rw[g.1,i.1]);go_enter func215,ntmps215
 go_wp2_with (go_at_call 286;first|(refine rR (T5 d a k j (i.keep f) (g.keep f)) λp l=>?_)|(refine rR (T5 a d j k g i) λo f=>?_))
 all_goals go_ret
 all_goals exact⟨Bm (by rw[m.out]<;>omega),An f l⟩
def lt_(a:List LP)(k:Nat):LP:=a.getD k []
theorem O7(h:b<f.length):f[b]? = some (lt_ f b):=by
 unfold lt_;rw[List.getD,aW h];rfl
def Aeg(w:World)(A:Option Addr)(n:Nat)(a:List LP):Prop :=
 a.length=n/\(n=0\/∃b c,A=some ⟨b,c,none⟩/\∀k,k<n->∃d e,Cq w b (c+k) (.slice d (lt_ a k).length e)/\(lt_ a k).length<=e/\SpS w d (lt_ a k).length (lt_ a k)/\(d=none->e=0))
theorem Aeg.at_(h:Aeg w c b f){k:Nat}(n:k<b):∃e a d g,c=some ⟨e,a,none⟩/\e<w.heap.size/\Cq w e (a+k) (.slice d (lt_ f k).length g)/\(lt_ f k).length<=g/\SpS w d (lt_ f k).length (lt_ f k)/\(d=none->g=0):=by
 obtain⟨o,h⟩:=h;rcases h with rfl|⟨e,a,rfl,h⟩
 .omega
 let⟨d,g,i,j,l,m⟩:=h k n;exact⟨e,a,d,g,rfl,Bi i,i,j,l,m⟩
theorem Aeg.keep(h:Aeg w c b f)(e:Be w a):Aeg a c b f:=by
 refine⟨h.1,?_⟩;obtain⟨q,h⟩:=h;rcases h with rfl|⟨i,d,rfl,h⟩
 .exact .inl rfl
 refine .inr ⟨i,d,rfl,λk p=>?_⟩;let⟨g,j,l,m,n,o⟩:=h k p;exact⟨g,j,Aq e l,m,n.keep e,o⟩
theorem Iw.spss(h:Iw w b i f):∃A c,i=.slice A f.length c/\f.length<=c/\Aeg w A f.length f/\(A=none->c=0):=by
 obtain⟨j,n,a,D,y⟩:=h;rcases OwG.form n with⟨rfl,rfl⟩|⟨g,d,rfl,z,B,x,C⟩
 .have:f=[]:=bL (by rw[<-a];rfl);subst this;exact⟨none,0,rfl,aA,⟨rfl,.inl rfl⟩,λ_=>rfl⟩
 refine⟨_,d,by rw[<-a],by rw[<-a];exact x,⟨rfl,.inr ⟨g,0,rfl,λk o=>?_⟩⟩,λh=>by cases h⟩;have e:k<j.length:=by rw[a];exact o
 let⟨u,p⟩:∃u,j[k]? = some u:=⟨_,aW e⟩
 have l:=OwG.cells n k aK;have m:=Bu Ss j k 0 u p aK;rw[dM,bU]at m;rw[m]at l;obtain⟨q,r,rfl,s,t,v,_⟩:=y k u (lt_ f k) p (O7 o);exact⟨q,r,by rw[dB];exact l,s,t,v⟩
def U7(s:LP)(b:List LP)(a:Int):Nat->Int
 | 0=>a
 | k+1=>max (U7 s b a k) (Nv s (lt_ b k))
def M6(b a:List LP):Nat->Int
 | 0 => -1
 | k+1=>U7 (lt_ b k) a (M6 b a k) a.length
def Bb(l:LP):Int×List LP :=
 if Bg l l.length=0 then (match De (Ct l l.length).length (Ct l l.length) [] with|none=>(11,[])|some ts=>(0,ts)) else (Bg l l.length,[])
def wg(w:World)(r:Int×List LP)(e:Ending)(a:World):Prop :=
 ∃v,e=.returned (.tuple #[v,r.1])/\Iw a w v r.2/\Be w a
theorem Ei(l:LP)(k:h<=9223372036854775807)(g:h<=b)(d:SpS w c h l):Calls prog 214 #[.slice c h b] w (wg w (Bb l)):=by
 refine(ka c b h l w k g d).mono ?_;rintro e n ⟨i,⟨a,rfl⟩|⟨a,f,rfl⟩|⟨a,m,v,f,rfl,j⟩⟩
 .refine⟨.slice none 0 0,?_,?_,i⟩
  .unfold Bb;rw[d.1,if_neg a]
  unfold Bb;rw[d.1,if_neg a];exact Iw.nil
 .refine⟨.slice none 0 0,?_,?_,i⟩
  .unfold Bb;rw[d.1,if_pos a,f]
  unfold Bb;rw[d.1,if_pos a,f];exact Iw.nil
 refine⟨v,?_,?_,i⟩
 .unfold Bb;rw[d.1,if_pos a,f]
 unfold Bb;rw[d.1,if_pos a,f];exact j
theorem Tp:∀(f:Nat) (a:LP) (b r:List LP),a.length<=f+3->(∀t∈b,t.length<=3)->De f a b=some r->r.length<=b.length+f+1/\∀t∈r,t.length<=3:=by
 intro f;induction f with
 | zero =>
   intro a b r m c h;rw[show De 0 a b=some (b++[a]) from rfl] at h;injection h with h;subst h
   refine⟨aL,λt h=>?_⟩;rcases bD.1 h with h|h
   .exact c t h
   simp at h;subst h;omega
 | succ f ih =>
   intro a b r m c h;by_cases e:a.length<=3
   .rw[Qq e]at h;injection h with h;subst h
    refine⟨aL,λt h=>?_⟩;rcases bD.1 h with h|h
    .exact c t h
    simp at h;subst h;omega
   rcases Ik (Tl a a.length) a.length with d|⟨i,l,d⟩
   .rcases Ik (Gp a a.length) a.length with k|⟨i,l,k⟩
    .rw[Ob rfl e (by rw[d];omega) (by rw[k];omega)] at h;cases h
    rw[Qr rfl (h:=e) (by rw[d];omega) k] at h
    let⟨g,j⟩:=ih _ _ _ (by rw[List.length_eraseIdx_of_lt l];omega) (λt h=>by
     rcases bD.1 h with h|h
     .exact c t h
     simp at h;subst h;simp[Ac6]) h
    refine⟨by rw[bA]at g;simp at g;omega,j⟩
   rw[Qp rfl (h:=e) d]at h;let⟨g,j⟩:=ih _ _ _ (by rw[List.length_eraseIdx_of_lt l];omega) c h;exact⟨aK,j⟩
theorem Dg(l:LP):(Bb l).2.length<=41/\∀t∈(Bb l).2,t.length<=3:=by
 unfold Bb;by_cases a:Bg l l.length=0
 .rw[if_pos a];cases h:De (Ct l l.length).length (Ct l l.length) [] with
  | none=>simp
  | some ts =>
    have b:=Tp _ _ _ _ aK aL h;have c:=qh l l.length;have d:=El a;refine⟨?_,b.2⟩;have:=b.1;simp at this
    show ts.length<=41
    omega
 rw[if_neg a];simp
theorem I9{ls:List LP}{k:Nat}(h:k<ls.length):lt_ ls k∈ls:=List.mem_of_getElem? (O7 h)
def Ty(a b:LP):Int×Int :=
 if (Bb a).1≠0 then (0,(Bb a).1) else if (Bb b).1≠0 then (0,(Bb b).1) else (M6 (Bb a).2 (Bb b).2 (Bb a).2.length,0)
def Gm(a b:LP):Bool×Int:=((Ty a b).2 == 0&&(Ty a b).1 == 1,(Ty a b).2)
theorem Ai6{b:LP}(h:¬(Bb e).1=0):Ty e b=(0,(Bb e).1):=by unfold Ty;rw[if_pos h]
theorem Ai5{b:LP}(h:(Bb e).1=0)(a:¬(Bb b).1=0):Ty e b=(0,(Bb b).1):=by unfold Ty;rw[if_neg (by simpa using h),if_pos a]
theorem Ai4{b:LP}(h:(Bb e).1=0)(a:(Bb b).1=0):Ty e b=(M6 (Bb e).2 (Bb b).2 (Bb e).2.length,0):=by unfold Ty;rw[if_neg (by simpa using h),if_neg (by simpa using a)]
theorem Mt(a m:LP)(x:n<=9223372036854775807)(M:nb<=9223372036854775807)(v:n<=b)(J:nb<=h)(A:SpS w c n a)(N:SpS w t nb m):Calls prog 153 #[.slice c n b,.slice t nb h] w (Bz w (.tuple #[(Ty a m).1,(Ty a m).2])):=by
 by_cases P:(Bb a).1=0
 ·by_cases S:(Bb m).1=0
  ·have f:=Ar (Ai4 P S);have O:=Dg a;have sB:=Dg m;have HA:=Ar O.2;have HB:=Ar sB.2;replace O:=O.1;replace sB:=sB.1;obtain⟨g,B⟩:∃g,(Bb a).2=g:=⟨_,rfl⟩
   obtain⟨l,C⟩:∃l,(Bb m).2=l:=⟨_,rfl⟩
   rw[B]at f HA O;rw[C]at f HB sB;have Q:=Ar B;have R:=Ar C;clear B C;go_in
   go_upto_region 8 with (go_at_call 214;first|(refine aF (Ei m M J (N.keep d)) λw2 v2 u o=>?_;rw[R.out]at u)|(refine aF (Ei a x v A) λw1 v1 p d=>?_;rw[Q.out]at p))
   obtain⟨A1,c1,rfl,U,H,-⟩:=(p.keep o).spss;obtain⟨A2,c2,rfl,V,I,-⟩:=u.spss;have hb:=An d o;clear p u d o;obtain⟨E,y⟩:∃E,g.length=E:=⟨_,rfl⟩
   obtain⟨D,z⟩:∃D,l.length=D:=⟨_,rfl⟩
   rw[y]at H U O ⊢;rw[z]at I V sB ⊢;have F:=Ar y;have G:=Ar z;clear y z;go_wp2;go_loopw [9,32] (fun r i wr=>∃k:Nat,k<=E/\i=k/\r=(M6 g l k)/\Be w2 wr) (fun _ i _=>E-(intOf i).toNat)
   case atStart=>exact⟨0,aB,rfl,rfl,bl0⟩
   obtain⟨k,hk,rfl,rfl,q⟩:=hrel;by_cases L:k<E
   ·obtain⟨b1,o1,Ak,ck,rfl,b7,e1,e2,e3,e4⟩:=(H.keep q).at_ L;have l1:(lt_ g k).length<=3:=HA.out _ (I9 (by rw[F.out];exact L));generalize X:(lt_ g k).length=nk at e1 e2 e3 l1;clear X;go_wp2;clear e1;obtain⟨Z,rfl⟩:∃Z:World,Z=wr:=⟨_,rfl⟩
    go_loopw [9,38] (fun r i wx=>∃j:Nat,j<=D/\i=j/\r=(U7 (lt_ g k) l (M6 g l k) j)/\Be Z wx) (fun _ i _=>D-(intOf i).toNat)
    case atStart=>exact⟨0,aB,rfl,rfl,bl0⟩
    obtain⟨j,hj,rfl,rfl,s⟩:=hrel;by_cases K:j<D
    ·obtain⟨b2,o2,Aj,cj,rfl,ai,g1,g2,g3,g4⟩:=(I.keep (An q s)).at_ K;have l2:(lt_ l j).length<=3:=HB.out _ (I9 (by rw[G.out];exact K));generalize W:(lt_ l j).length=nj at g1 g2 g3 l2;clear W
     go_wp2_with (go_at_call 215;refine(Wz (lt_ g k) (lt_ l j) aK aK (e3.keep s) g3).mono ?_;rintro e w5 ⟨rfl,T⟩)
     exact⟨⟨j+1,aK,aP,by simp only[U7]<;>congr 1<;>omega,An s T⟩,by simp[intOf]<;>omega⟩
    obtain rfl:D=j:=aK
    have e9:=Ar (show M6 g l (k+1)=U7 (lt_ g k) l (M6 g l k) D by simp only[M6];rw[G.out]);go_wp2;exact⟨⟨k+1,aK,aP,by rw[e9.out],An q s⟩,by simp[intOf]<;>omega⟩
   obtain rfl:E=k:=aK
   go_wp2
   go_ret2
   exact⟨by rw[f.out,F.out];rfl,An hb q⟩
  have Y:=Ar (Ai5 P S);have q2:((Bb m).1 != 0)=true:=by simpa using S
  go_in
  go_wp2_with (go_at_call 214;first|(refine aF (Ei m M J (N.keep d)) λw2 v2 u o=>?_)|(refine aF (Ei a x v A) λw1 v1 p d=>?_))
  go_ret2
  exact⟨by rw[Y.out];rfl,An d o⟩
 have Y:=Ar (Ai6 (b:=m) P);have q2:((Bb a).1 != 0)=true:=by simpa using P
 go_in
 go_wp2_with (go_at_call 214;refine aF (Ei a x v A) λw1 v1 p d=>?_)
 go_ret2
 exact⟨by rw[Y.out];rfl,d⟩
theorem Fu(a d:LP)(j:n<=9223372036854775807)(k:nb<=9223372036854775807)(g:n<=b)(i:nb<=h)(l:SpS w c n a)(m:SpS w t nb d):Calls prog 103 #[.slice c n b,.slice t nb h] w (Bz w (.tuple #[.bool (Gm a d).1,(Gm a d).2])):=by
 by_cases o:(Ty a d).2=0
 .have q:((Ty a d).2 == 0)=true:=by simpa using o
  have p:=Ar (show Gm a d=((Ty a d).1 == 1,(Ty a d).2) by unfold Gm;rw[q,Bool.true_and]);clear o;go_in
  go_wp2_with (go_at_call 153;refine rR (Mt a d j k g i l m) λr f=>?_)
  go_ret2
  exact⟨by rw[p.out];rfl,f⟩
 have q:((Ty a d).2 == 0)=false:=by simpa using o
 have p:=Ar (show Gm a d=(false,(Ty a d).2) by unfold Gm;rw[q,Bool.false_and]);clear o;go_in
 go_wp2_with (go_at_call 153;refine rR (Mt a d j k g i l m) λr f=>?_)
 go_ret2
 exact⟨by rw[p.out];rfl,f⟩
def Af7(r:LP)(n:Nat)(d:Int×Int)(i:Nat):Bool:=decide (0<Bs (gt r i) (gt r ((i+1) % n)) d)
def Hw(r:LP)(d:Int×Int):Bool:=Ix (Af7 r r.length d) r.length&&decide (0<r.length)
theorem Uq(l:LP)(C:h<=1000000)(q:SpS w c h l):Calls prog 336 #[.slice c h b,.agg #[x,g]] w (Bz w (.bool (Hw l (x,g)))):=by
 have o:=Ar (show Hw l (x,g)=(Ix (Af7 l h (x,g)) h&&decide (0<h)) by unfold Hw;rw[q.1]);go_enter func336,ntmps336;go_wp2;go_loopw [10] (λi wr=>∃k:Nat,k<=h/\i=k/\Hid (Ix (Af7 l h (x,g)) k=true)/\Cls w [(⟨w,0,none⟩,x),(⟨w,1,none⟩,g)] wr) λi _=>h-(intOf i).toNat
 case atStart=>exact⟨0,aB,rfl,Ix.zero _,(Ao (aV _ _)),aR⟩
 obtain⟨k,B,rfl,p,j⟩:=hrel;by_cases d:k<h
 .obtain⟨u,E,rfl,s,m⟩:=(q.keep j.1).at_ d;have n:(k+1) % h<h:=bE _ aK;let⟨v,y⟩:=m k d;let⟨z,A⟩:=m _ n;clear m;have r:=j.2;simp only[AC]at r;have t:w.heap.size<wr.heap.size:=Bi r.1;have D:=(Q6 ((k:Int)+1) (k+1) h).2;by_cases a:Bs ((gt l k).1,(gt l k).2) ((gt l ((k+1) % h)).1,(gt l ((k+1) % h)).2) (x,g)<=0
  .have f:=Ar a;clear a;have hq:=f.out;unfold Bs at hq;go_wp2;go_ret;have e:Af7 l h (x,g) k=false:=by unfold Af7;have:=f.out;simp at this ⊢;omega
   exact⟨Bn (by rw[o.out,Ix.no d e];rfl),Ao (Ao j.1)⟩
  have f:=Ar a;clear a;have hq:=f.out;unfold Bs at hq;go_wp2_with fail;have e:Af7 l h (x,g) k=true:=by unfold Af7;have:=f.out;simp at this ⊢;omega
  exact aE ⟨Ix.succ p.out e,j.call (Ao blA)⟩
 obtain rfl:h=k:=aK
 go_wp2;go_ret;exact⟨Bn (by rw[o.out,p.out];simp),j.1⟩
def Cs(a:List LP)(d:Int×Int):Bool:=!Cc 2097152 d&&Bp (λi=>Hw (lt_ a i) d) a.length
theorem Pw(a:List LP)(r:∀t∈a,t.length<=1000000)(p:Aeg w c h a)(J:h<=1000000:=by omega):Calls prog 263 #[.slice c h b,.agg #[x,g]] w (Bz w (.bool (Cs a (x,g)))):=by
 have o:=Ar (show Cs a (x,g)=(!Cc 2097152 (x,g)&&Bp (λi=>Hw (lt_ a i) (x,g)) h) by unfold Cs;rw[p.1]);have v:=Ar r;have y:=Ar p.1;clear r;by_cases f:Cc 2097152 (x,g)=true
 .have hq:=f;unfold Cc at hq;simp only[Bool.or_eq_true,decide_eq_true_eq]at hq;have n:=Ar f;clear f;go_enter func263,ntmps263;go_upto_region 3 with fail
  all_goals first
   | (go_ret;exact⟨Bn (by rw[o.out,n.out];rfl),blA⟩)
   | (exfalso;omega)
 have hq:=f;unfold Cc at hq;simp only[Bool.or_eq_true,decide_eq_true_eq,not_or]at hq;have n:=Ar (show Cc 2097152 (x,g)=false by simpa using f);clear f;go_enter func263,ntmps263;go_wp2;go_loopw [27] (λi wr=>∃k:Nat,k<=h/\i=k/\Hid (Bp (λi=>Hw (lt_ a i) (x,g)) k=false)/\Cls w [(⟨w,0,none⟩,x),(⟨w,1,none⟩,g)] wr) λi _=>h-(intOf i).toNat
 case atStart=>exact⟨0,aB,rfl,Bp.zero _,(Ao (aV _ _)),aR⟩
 obtain⟨k,I,rfl,s,j⟩:=hrel;by_cases d:k<h
 .obtain⟨F,K,E,G,rfl,B,z,A,q,H⟩:=(p.keep j.1).at_ d;have D:(lt_ a k).length<=1000000:=v.out _ (I9 (by rw[y.out];exact d));let⟨u,m⟩:=gN ((lt_ a k).length)
  rw[m]at z A q D;clear m;have C:=j.2;simp only[AC]at C
  go_wp2_with (go_at_call 336;refine rR (Uq (lt_ a k) aK q) λL l=>?_)
  .go_ret;exact⟨Bn (by rw[o.out,n.out,Bp.yes d aQ];rfl),An j.1 l⟩
  exact aE ⟨Bp.succ s.out (by simpa using ‹_›),j.call l⟩
 obtain rfl:h=k:=aK
 go_wp2;go_ret;exact⟨Bn (by rw[o.out,s.out];simp),j.1⟩
end Go.Proofs.YtboghahlhmnblaaGreat
