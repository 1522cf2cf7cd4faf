/- Lean texts of the claim. -/
import Derived.Test.YtlogblbfbihleaaGreatZr19
namespace Go.Proofs.YtlogblbfbihleaaGreat
set_option linter.all false
set_option maxRecDepth 100000
set_option maxHeartbeats 0
open Go.RowKit
variable{a:List Shp}{b:List Pt5}{e:Nat}{f:Bed4}{g:Int}{h:World}{i:List Trn}{j:List End6}{k:Nat->Bool}{l:Value}{m:Option Addr}{n:Pt5}{o:List Int}{p:List LP}{q:Bool}{r:LP}
def Alo (a b:End6):Int:=orI [Ey a.right b.right,Ey a.put.y b.put.y,Ey a.put.x b.put.x,Ey a.put.qu b.put.qu]
theorem or4(b:Nat) (c:TypeId) (x y z u:Int) (w:World) (h:Bf w b c #[x,y,z,u]) :
 Calls Tryz.prog 133 #[.slice (some ⟨b,0,none⟩) 4 4] w λe d=>e=.returned (.int .i64 (orI [x,y,z,u]))/\w=d :=
 Adq b 4 4 [x,y,z,u] w rfl (by omega) (λk v a=>by
  match k,a with
  | 0,a=>simp at a;subst a;exact h.cell 0
  | 1,a=>simp at a;subst a;exact h.cell 1
  | 2,a=>simp at a;subst a;exact h.cell 2
  | 3,a=>simp at a;subst a;exact h.cell 3)
theorem Zs(a b:End6) (w:World):Calls Tryz.prog 89 #[ez a,ez b] w (Bz w (Alo a b)):=by
 obtain⟨⟨c,d,f,g,h⟩,i⟩:=a;obtain⟨⟨j,k,l,m,n⟩,o⟩:=b;unfold ez;dsimp only;go_enter Tryz.func89,Tryz.ntmps89;go_wp2_with fail;refine Ck 32 (by kernel_rfl) (by kernel_rfl) ?_;simp only[List.take_succ_cons,List.take_zero,List.drop_succ_cons,List.drop_zero]
 repeat still_step
 still_call (Gu _ _ _)
 repeat still_step
 still_call (Gu _ _ _)
 repeat still_step
 still_call (Gu _ _ _)
 repeat still_step
 still_call (Gu _ _ _)
 refine wpStill_nil ?_
 go_wp2_with (go_at_call 133;refine(or4 _ _ _ _ _ _ _ (Bf.drew (Bf.new3 _ _ _ _ _))).mono ?_;rintro e p ⟨rfl,rfl⟩)
 go_ret;exact⟨rfl,Aw (Ao (Ao (Ao (Below.refl _ _) _) _) _)⟩
def ed (l:List End6) (k:Nat):End6:=l.getD k ⟨⟨0,false,0,0,0⟩,0⟩
def Es (l:List End6):Nat->End6
 | 0=>⟨⟨0,false,0,0,0⟩,0⟩
 | k+1=>if k=0\/Alo (ed l k) (Es l k)<0 then ed l k else Es l k
def EnS (w:World) (A:Option Addr) (n:Nat) (l:List End6):Prop:=l.length=n/\(n=0\/∃b,A=some ⟨b,0,none⟩/\∀k,k<n->∀i,i<6->w.cell? ⟨b,k*6+i,none⟩=(enE (ed l k))[i]?)
theorem EnS.keep{w:World}    (a:EnS w m e j) (f:Be w h):EnS h m e j:=by
 refine⟨a.1,?_⟩;obtain⟨_,a⟩:=a;rcases a with a|⟨b,rfl,a⟩
 .exact .inl a
 refine .inr ⟨b,rfl,λk g i d=>?_⟩;have c:=a k g i d;let⟨u,l⟩:∃u,(enE (ed j k))[i]? = some u:=⟨_,List.getElem?_eq_getElem (by rw[Ef];exact d)⟩
 rw[l]at c ⊢;exact Aq f c
theorem OwE.ens{w:World}    (h:OwG 158 6 enE w e l j):∃A c,l=.slice A j.length c/\EnS w A j.length j:=by
 rcases OwG.form h with⟨rfl,rfl⟩|⟨g,a,rfl,m,n,o,p⟩
 .exact⟨none,0,rfl,rfl,.inl rfl⟩
 refine⟨_,a,rfl,rfl,.inr ⟨g,rfl,λk f i d=>?_⟩⟩;have c0:=OwG.cells h (k*6+i) (by omega);have b:j[k]? = some (ed j k):=by unfold ed;rw[List.getD,List.getElem?_eq_getElem f];rfl
 rw[Bu Ef j k i _ b d]at c0;exact c0
theorem Um(A:Option Addr) (c n:Nat) (l:List End6) (w:World) (hn:n<=1000000) (hs:EnS w A n l) :
 Calls Tryz.prog 88 #[.slice A n c,.func (.func 89) #[] #[]] w (Bz w (.tuple #[ez (Es l n),.bool (decide (0<n))])):=by
 go_enter Tryz.func88,Tryz.ntmps88;go_wp2_with fail;go_loopw [11] (λi wr=>∃k:Nat,k<=n/\i=.int .i64 k/\Bf wr w.heap.size 158 (enE ⟨⟨0,false,0,0,0⟩,0⟩).toArray/\Bf wr (w.heap.size+1) 158 (enE (Es l k)).toArray/\Be w wr) λi _=>n-(intOf i).toNat
 case atStart=>exact⟨0,Nat.zero_le _,rfl,(Bf.new _ _ _).alloc _,Bf.new2 _ _ _ _,(Ao (Ao (Below.refl _ _) _) _)⟩
 obtain⟨k,hk,rfl,b,m,H⟩:=hrel;let⟨z,o⟩:=gN (Es l k)
 have a:=Ar (show Es l (k+1)=if k=0\/Alo (ed l k) z<0 then ed l k else z by rw[Es,o]);rw[o]at m;have J:=Ar o;clear o;obtain⟨⟨r,s,t,u,x⟩,y⟩:=z;let⟨m0,m1,m2,m3,m4,m5,m6⟩:=Bf.cells6 m;have n0:=m.frozen 0;have n1:=m.frozen 1;have n2:=m.frozen 2;have n3:=m.frozen 3;have n4:=m.frozen 4;have n5:=m.frozen 5;by_cases P:k<n
 .obtain⟨-,Q⟩:=hs.keep H;rcases Q with h|⟨U,rfl,S⟩
  .omega
  let⟨M,q⟩:=gN (ed l k)
  have g:=S k P;rw[q]at g a;have T:=Ar q;clear q S;obtain⟨⟨B,C,D,E,F⟩,G⟩:=M;have R:=g 0 (by omega);have V:=g 1 (by omega);have W:=g 2 (by omega);have X:=g 3 (by omega);have Y:=g 4 (by omega);have Z:=g 5 (by omega);simp only[enE,List.getElem?_cons_zero,List.getElem?_cons_succ,Nat.add_zero]at R V W X Y Z;have a1:U<wr.heap.size:=Bi R;clear g;by_cases j:k=0
  .rw[if_pos (.inl j)]at a;have q0:((k:Int) == 0)=true:=by rw[j];rfl
   clear j;go_wp2_with fail;exact⟨⟨k+1,by omega,by go_num,Bf.alloc (Bf.far (Bf.far (Bf.far (Bf.far (Bf.far (Bf.far b (p:=⟨w.heap.size+1,0,none⟩) (by simp) _) (p:=⟨w.heap.size+1,1,none⟩) (by simp) _) (p:=⟨w.heap.size+1,2,none⟩) (by simp) _) (p:=⟨w.heap.size+1,3,none⟩) (by simp) _) (p:=⟨w.heap.size+1,4,none⟩) (by simp) _) (p:=⟨w.heap.size+1,5,none⟩) (by simp) _) _,by rw[a.out];exact Bf.alloc (Bf.set_ (Bf.set_ (Bf.set_ (Bf.set_ (Bf.set_ (Bf.set_ m 0 _) 1 _) 2 _) 3 _) 4 _) 5 _) _,Ao (Ba (Ba (Ba (Ba (Ba (Ba H (p:=⟨w.heap.size+1,0,none⟩) (by simp) _) (p:=⟨w.heap.size+1,1,none⟩) (by simp) _) (p:=⟨w.heap.size+1,2,none⟩) (by simp) _) (p:=⟨w.heap.size+1,3,none⟩) (by simp) _) (p:=⟨w.heap.size+1,4,none⟩) (by simp) _) (p:=⟨w.heap.size+1,5,none⟩) (by simp) _) _⟩,by simp[intOf];omega⟩
  have q0:((k:Int) == 0)=false:=by simpa using j
  by_cases O:Alo ⟨⟨B,C,D,E,F⟩,G⟩ ⟨⟨r,s,t,u,x⟩,y⟩<0
  .rw[if_pos (.inr O)]at a;clear j;have I:=Ar ((m.alloc (.cells (enE ⟨⟨B,C,D,E,F⟩,G⟩).toArray 158)));have L:=Ar (Bf.new wr 158 (enE ⟨⟨B,C,D,E,F⟩,G⟩).toArray)
   go_wp2_with (go_at_call 89;refine rR (Zs ⟨⟨B,C,D,E,F⟩,G⟩ ⟨⟨r,s,t,u,x⟩,y⟩ _) λw5 f=>?_;have d:=I.out.keep f;have N:=L.out.keep f;let⟨p0,p1,p2,p3,p4,p5,p6⟩:=Bf.cells6 d;let⟨x0,x1,x2,x3,x4,x5,x6⟩:=Bf.cells6 N;have r0:=d.frozen 0;have r1:=d.frozen 1;have r2:=d.frozen 2;have r3:=d.frozen 3;have r4:=d.frozen 4;have r5:=d.frozen 5)
   exact⟨⟨k+1,by omega,by go_num,(Bf.far (Bf.far (Bf.far (Bf.far (Bf.far (Bf.far (Bf.keep (Bf.alloc b _) f) (p:=⟨w.heap.size+1,0,none⟩) (by simp) _) (p:=⟨w.heap.size+1,1,none⟩) (by simp) _) (p:=⟨w.heap.size+1,2,none⟩) (by simp) _) (p:=⟨w.heap.size+1,3,none⟩) (by simp) _) (p:=⟨w.heap.size+1,4,none⟩) (by simp) _) (p:=⟨w.heap.size+1,5,none⟩) (by simp) _),by rw[a.out];exact(Bf.set_ (Bf.set_ (Bf.set_ (Bf.set_ (Bf.set_ (Bf.set_ d 0 _) 1 _) 2 _) 3 _) 4 _) 5 _),(Ba (Ba (Ba (Ba (Ba (Ba (An (Ao H _) f) (p:=⟨w.heap.size+1,0,none⟩) (by simp) _) (p:=⟨w.heap.size+1,1,none⟩) (by simp) _) (p:=⟨w.heap.size+1,2,none⟩) (by simp) _) (p:=⟨w.heap.size+1,3,none⟩) (by simp) _) (p:=⟨w.heap.size+1,4,none⟩) (by simp) _) (p:=⟨w.heap.size+1,5,none⟩) (by simp) _)⟩,by simp[intOf];omega⟩
  rw[if_neg (by simp[j];omega)] at a;clear j
  go_wp2_with (go_at_call 89;refine rR (Zs ⟨⟨B,C,D,E,F⟩,G⟩ ⟨⟨r,s,t,u,x⟩,y⟩ _) λw5 f=>?_)
  exact⟨⟨k+1,by omega,by go_num,(b.alloc _).keep f,by rw[a.out];exact(m.alloc _).keep f,An (Ao H _) f⟩,by simp[intOf];omega⟩
 obtain rfl:n=k:=by omega
 let⟨z0,z1,z2,z3,z4,z5,z6⟩:=Bf.cells6 b;have y0:=b.frozen 0;have y1:=b.frozen 1;have y2:=b.frozen 2;have y3:=b.frozen 3;have y4:=b.frozen 4;have y5:=b.frozen 5;have e:ez (Es l n)=.agg #[r,.bool s,t,u,x,y]:=by rw[J.out];rfl
 have K:=Ar e;clear e;go_wp2_with fail;refine bodyPost_ret (v:=.tuple #[.agg #[r,.bool s,t,u,x,y],.bool (decide (0<n))]) (by simp[results,Tryz.results88,go_sem,z0,z1,z2,z3,z4,z5]) rfl ⟨by rw[K.out],by (repeat first|exact H|refine Ba ?_ (by dsimp only;omega) _)⟩
theorem qz{rx:Int} {s:Shp}  {e:Int}  (d:∀p∈r,okS p):∀k,k<=r.length->∀p∈Fk rx g s q e r k,okS p:=by
 intro k;induction k with
 | zero=>simp[Fk]
 | succ k ih =>
   intro f;rw[Fk];split
   .exact ih (by omega)
   rename_i a c;refine Xe (ih (by omega)) (by intro p b;simp at b;subst b;exact X9 (d _ (List.mem_of_getElem? (G3 (by omega)))) c)
theorem Ab7(b:Bed4) (s:Shp) (a:Bool) (c:Int) (l:LP) (pls:List LP):(Iz b s a c l pls).2.length<=2+1075840*pls.length/\∀p∈(Iz b s a c l pls).2,okS p:=by
 have h:=Qy b l pls;unfold Iz;split
 .simp
 refine⟨?_,λp d=>qz h.2 _ (Nat.le_refl _) p (List.mem_mergeSort.1 d)⟩
 show (Ez _).length<=_
 rw[Gx];exact Nat.le_trans (Mg _ _ _ _ _ _ _) h.1
def tr (a:List Trn) (k:Nat):Trn:=a.getD k (false,0)
def Wn (b:Bed4) (S:List Shp) (c:List Pt5) (sh:Int) (t:Trn) (a:Int×Int):Bool:=Ha b S c ⟨sh,t.1,t.2,a.1,a.2⟩ == 0
def Pg (b:Bed4) (S:List Shp) (c:List Pt5) (sh:Int) (t:Trn) (a:LP):Option Nat:=(List.range a.length).find? λi=>Wn b S c sh t (gt a i)
def td (sh:Int) (t:Trn) (r:LP) (a:Int×Int):End6:=⟨⟨sh,t.1,t.2,a.1,a.2⟩,wrap64 (wrap64 (a.1+loX r r.length)+wrap64 (hiX r r.length-loX r r.length))⟩
def I0 (b:Bed4) (S:List Shp) (c:List Pt5) (sh:Int) (pls:List LP) (a:List Trn):Nat->Int×List End6
 | 0=>(0,[])
 | k+1=>if (I0 b S c sh pls a k).1≠0 then I0 b S c sh pls a k
   else if (Br S ⟨sh,(tr a k).1,(tr a k).2,0,0⟩).1≠0 then ((Br S ⟨sh,(tr a k).1,(tr a k).2,0,0⟩).1,[])
   else if (Iz b (shp S sh.toNat) (tr a k).1 (tr a k).2 (Br S ⟨sh,(tr a k).1,(tr a k).2,0,0⟩).2 pls).1≠0 then ((Iz b (shp S sh.toNat) (tr a k).1 (tr a k).2 (Br S ⟨sh,(tr a k).1,(tr a k).2,0,0⟩).2 pls).1,[])
   else match Pg b S c sh (tr a k) (Iz b (shp S sh.toNat) (tr a k).1 (tr a k).2 (Br S ⟨sh,(tr a k).1,(tr a k).2,0,0⟩).2 pls).2 with
    | none=>(0,(I0 b S c sh pls a k).2)
    | some j=>(0,S9 (I0 b S c sh pls a k).2 [td sh (tr a k) (Br S ⟨sh,(tr a k).1,(tr a k).2,0,0⟩).2 (gt (Iz b (shp S sh.toNat) (tr a k).1 (tr a k).2 (Br S ⟨sh,(tr a k).1,(tr a k).2,0,0⟩).2 pls).2 j)] ⟨⟨0,false,0,0,0⟩,0⟩)
def I1:Pt5:=⟨0,false,0,0,0⟩
def J8 (r:Int×List End6):Int×Pt5:=if r.1≠0 then (r.1,I1) else if r.2.length=0 then (18,I1) else (0,(Es r.2 r.2.length).put)
def Gj (b:Bed4) (S:List Shp) (a:List Pt5) (sh:Int):Int×Pt5 :=
 if (Gl b S a sh false 0).1≠0 then ((Gl b S a sh false 0).1,I1)
 else J8 (I0 b S a sh (Gl b S a sh false 0).2.2 (vp (shp S sh.toNat).grain false) (vp (shp S sh.toNat).grain false).length)
theorem Xy{sh:Int} {pls:List LP}   {x:Int} (h:I0 f a b sh pls i e=(x,[])) (c:x≠0):∀m,I0 f a b sh pls i (e+m)=(x,[]):=by
 intro m;induction m with
 | zero=>exact h
 | succ m ih=>rw[<-Nat.add_assoc,I0,if_pos (by rw[ih];exact c)];exact ih
theorem Acj(L:List End6) (x:End6):(S9 L [x] ⟨⟨0,false,0,0,0⟩,0⟩).length<=L.length+1:=En _ _ _ _
theorem Xx{b:Bed4} {S:List Shp} {ps:List Pt5} {sh:Int} {pls:List LP} {ts:List Trn} (k:Nat):(I0 b S ps sh pls ts k).2.length<=k:=by
 induction k with
 | zero=>simp[I0]
 | succ k ih =>
   rw[I0];split
   .omega
   split
   .simp
   split
   .simp
   split
   .exact Nat.le_succ_of_le ih
   refine Nat.le_trans (Acj _ _) (by omega)
theorem Oo{S:List Shp} {p:Pt5} (h:(Br S p).1=0):Bg (Br S p).2 (Br S p).2.length=0:=by
 unfold Br at h ⊢;split at h
 .cases h
 rename_i c;rw[if_neg c];unfold La at h ⊢;split at h
 .rename_i b;exact absurd h b
 rename_i b;rw[if_neg b];split at h
 .rename_i a;exact absurd h a
 rename_i a;rw[if_neg a]
 show Bg (Yv _ _) (Yv _ _).length=0
 rw[Ld,E8];simpa using a
theorem zf{sh:Int}   (h:(Gl f a b sh q g).1=0):Gg f=false/\(Br a ⟨sh,q,g,0,0⟩).1=0/\(Gl f a b sh q g).2.2=(Dk a b b.length).2:=by
 unfold Gl at h ⊢;split at h
 .cases h
 rename_i e;rw[if_neg e];split at h
 .rename_i c;exact absurd h c
 rename_i c;rw[if_neg c];split at h
 .rename_i d;exact absurd h d
 rename_i d;rw[if_neg d];exact⟨by simpa using e,by simpa using c,rfl⟩
def TrS (w:World) (A:Option Addr) (n:Nat) (a:List Trn):Prop:=a.length=n/\(n=0\/∃b,A=some ⟨b,0,none⟩/\∀k,k<n->Cq w b (k*2) (.bool (tr a k).1)/\Cq w b (k*2+1) (tr a k).2)
theorem OwT.trs{w:World}    (h:OwG 59 2 enT w e l i):∃A c,l=.slice A i.length c/\TrS w A i.length i/\(0<i.length->∃g,A=some ⟨g,0,none⟩/\e<=g/\g<w.heap.size):=by
 rcases OwG.form h with⟨rfl,rfl⟩|⟨g,b,rfl,j,m,o,p⟩
 .exact⟨none,0,rfl,⟨rfl,.inl rfl⟩,λh=>absurd h (by simp)⟩
 refine⟨_,b,rfl,⟨rfl,.inr ⟨g,rfl,λk n=>?_⟩⟩,λ_=>⟨g,rfl,j,m⟩⟩;have a:i[k]? = some (tr i k):=by unfold tr;rw[List.getD,List.getElem?_eq_getElem n];rfl
 have c0:=OwG.cells h (k*2) (by omega);have d:=OwG.cells h (k*2+1) (by omega);have f:=Bu Wu i k 0 _ a (by omega);rw[Nat.add_zero]at f;rw[f]at c0;rw[Bu Wu i k 1 _ a (by omega)]at d;exact⟨c0,d⟩
theorem TrS.keepBlk{w:World} {n:Nat}  (g:TrS w (some ⟨e,0,none⟩) n i) (j:h.heap[e]? = w.heap[e]?):TrS h (some ⟨e,0,none⟩) n i:=by
 refine⟨g.1,?_⟩;obtain⟨_,c⟩:=g;rcases c with c|⟨b,f,c⟩
 .exact .inl c
 injection f with f
 injection f with e1
 subst e1;exact .inr ⟨e,rfl,λk d=>⟨(World.cell?_of_block (w:=w) (a:=⟨e,k*2,none⟩) j).trans (c k d).1,(World.cell?_of_block (w:=w) (a:=⟨e,k*2+1,none⟩) j).trans (c k d).2⟩⟩
theorem TrS.keep{w:World}    (c:TrS w m e i) (d:Be w h):TrS h m e i:=by
 refine⟨c.1,?_⟩;obtain⟨_,a⟩:=c;rcases a with a|⟨b,rfl,a⟩
 .exact .inl a
 exact .inr ⟨b,rfl,λk f=>⟨Aq d (a k f).1,Aq d (a k f).2⟩⟩
theorem Aci(g:Int) (m:Bool):∀k,∀t∈Ko g m k,t.1=m/\0<=t.2/\t.2<k:=by
 intro k;induction k with
 | zero=>simp[Ko]
 | succ k ih =>
   intro t ht;rw[Ko]at ht;rcases List.mem_append.1 ht with ht|ht
   .have:=ih t ht;exact⟨this.1,this.2.1,by omega⟩
   split at ht
   .simp at ht;subst ht;exact⟨rfl,by show (0:Int)<=(k:Int);omega,by show (k:Int)<((k+1:Nat):Int);omega⟩
   simp at ht
theorem Agk{n:Nat} (i:e<n) (h:Bp k e=false) (b:k e=true):(List.range n).find? k=some e:=by
 have a:List.range n=List.range e++(List.range' e (n-e)):=by
  have h:=List.range'_append_1 (s:=0) (m:=e) (n:=n-e);rw[List.range_eq_range',List.range_eq_range',show n=e+(n-e) by omega,<-h];simp
 rw[a,List.find?_append]
 have c:(List.range e).find? k=none:=by
  rw[List.find?_eq_none];intro x g d;exact(List.any_eq_false.1 h) x g d
 rw[c];let⟨m,f⟩:∃m,n-e=m+1:=⟨n-e-1,by omega⟩
 rw[f,List.range'_succ];simp[b]
theorem su(h:Bp k e=false):(List.range e).find? k=none:=by
 rw[List.find?_eq_none];intro x b a;exact(List.any_eq_false.1 h) x b a
theorem Bf.frz5{w:World}  {t:TypeId} {a:Array Value} (h:Bf w e t a):w.frozen? ⟨e,0,none⟩=false/\w.frozen? ⟨e,1,none⟩=false/\w.frozen? ⟨e,2,none⟩=false/\w.frozen? ⟨e,3,none⟩=false/\w.frozen? ⟨e,4,none⟩=false :=
 ⟨h.frozen 0,h.frozen 1,h.frozen 2,h.frozen 3,h.frozen 4⟩
def Xg (w:World) (r:Int×Pt5) (e:Ending) (a:World):Prop:=e=.returned (.tuple #[L7 r.2,r.1])/\Be w a
theorem yb(h i:Option Addr) (n o l g:Nat) (b:Bed4) (S:List Shp) (d:List Pt5) (sh:Int) (w:World) (C:g<=1000) (B:ShS w h l S) (j:PuS w i g d) (F:¬(Gl b S d sh false 0).1=0) :
 Calls Tryz.prog 52 #[Jw b,.slice h l n,.slice i g o,sh] w (Xg w ((Gl b S d sh false 0).1,I1)):=by
 have q:((Gl b S d sh false 0).1 != 0)=true:=by simpa using F
 generalize G:(Gl b S d sh false 0).1=x at q ⊢;have s:=Ar G;obtain⟨len,c,rx,m⟩:=b;unfold Jw;dsimp only;have a:=Ar (show Be w ((w.alloc (.cells #[len,c,rx,m] 57)).alloc (.cells #[.int .i64 0,.bool false,.int .i64 0,.int .i64 0,.int .i64 0] 92)) from (Ao (Ao (Below.refl _ _) _) _));have r:=Ar (Bf.new2 w (.cells #[len,c,rx,m] 57) 92 #[.int .i64 0,.bool false,.int .i64 0,.int .i64 0,.int .i64 0]);go_in
 go_wp2_with (go_at_call 82;refine(Yk h i n o l g ⟨len,c,rx,m⟩ S d sh false 0 _ (by omega) (B.keep a.out) (j.keep a.out)).mono ?_;rintro e P ⟨N,O,rfl,D,E,f⟩;rw[s.out];have p:=r.out.keep f;let⟨t,u,y,z,A,H⟩:=p.cells5;let⟨I,J,K,L,M⟩:=p.frz5)
 exact bR ⟨rfl,by have k:=An a.out f;(repeat first|exact k|refine Ba ?_ (by dsimp only;omega) _)⟩ rfl (by simp[results,Tryz.results52,go_sem,t,u,y,z,A,L7,I1])
theorem Aey(A1 A2:Option Addr) (c1 c2 n1 n2:Nat) (b:Bed4) (S:List Shp) (u:List Pt5) (sh:Int) (w:World) (vt:n2<=1000) (hS:ShS w A1 n1 S) (c9:PuS w A2 n2 u) (hp:(Gl b S u sh false 0).1=0) :
 Calls Tryz.prog 52 #[Jw b,.slice A1 n1 c1,.slice A2 n2 c2,sh] w (Xg w (J8 (I0 b S u sh (Gl b S u sh false 0).2.2 (vp (shp S sh.toNat).grain false) (vp (shp S sh.toNat).grain false).length))):=by
 let⟨ox,k5,gy⟩:=zf hp;let⟨k,hk,fc,fr⟩:=Yl k5;dsimp only at hk fc fr;have T:=Hd S u u.length;rw[fr];let⟨pls,bp⟩:=gN ((Gl b S u sh false 0).2.2)
 rw[bp]at gy ⊢;rw[<-gy,c9.1]at T;have k6:=T.1;have mx:=Ar (show ∀t∈pls,t.length<=1000 from λt ht=>Nat.le_trans (T.2 t ht) (by omega));have hy:=Ar bp;have HP:=Ar hp;clear bp gy k5 hp T fr ox;subst hk;have p8:k<n1:=by rw[<-hS.1];exact fc
 have sd:=hS.2.1;have vd:=Ar hS.1;clear fc;obtain⟨ba,oa,rfl,oy,kk⟩:=hS.at_ p8;have e8:=Ar kk;let⟨s,hs⟩:=gN (shp S k)
 rw[hs]at e8 ⊢;have my:=Ar hs;clear hs kk oy;let⟨H,bq⟩:=gN (vp s.grain false)
 rw[bq];have kz:H.length<=4:=by rw[<-bq];exact Px _ _ 4
 have mz:=Ar (show ∀t∈H,inR t.2 from λt ht=>by rw[<-bq]at ht;have:=Aci s.grain false 4 t ht;unfold inR;omega);have ih:=Ar bq;clear bq;let⟨G,gg⟩:=gN H.length
 rw[gg]at kz ⊢;have e0:=Ar gg;clear gg;obtain⟨len,c,rx,y⟩:=b;unfold Jw;dsimp only;have cg:=Ar (show Be w ((w.alloc (.cells #[len,c,rx,y] 57)).alloc (.cells #[.int .i64 0,.bool false,.int .i64 0,.int .i64 0,.int .i64 0] 92)) from (Ao (Ao (Below.refl _ _) _) _));have H0:=Ar ((Bf.new w 57 #[len,c,rx,y]).alloc (.cells #[.int .i64 0,.bool false,.int .i64 0,.int .i64 0,.int .i64 0] 92));have H1:=Ar (Bf.new2 w (.cells #[len,c,rx,y] 57) 92 #[.int .i64 0,.bool false,.int .i64 0,.int .i64 0,.int .i64 0]);go_enter Tryz.func52,Tryz.ntmps52
 go_upto_region 4 with (go_at_call 82;refine(Yk _ A2 c1 c2 n1 n2 ⟨len,c,rx,y⟩ S u (k:Int) false 0 _ (by omega) (hS.keep cg.out) (c9.keep cg.out)).mono ?_;rintro e w1 ⟨v1,v2,rfl,pe,gw,cb⟩;rw[hy.out]at gw;rw[HP.out])
 obtain⟨Ap,cp,rfl,p2,eo,-⟩:=gw.spss;have O:=An cg.out cb;have ca:=hS.keep O;have j2:=c9.keep O;have K0:=Ar (H0.out.keep cb);have K1:=Ar (H1.out.keep cb);have kl:=e8.out.keep O;clear pe gw cb cg H0 H1 hS c9 e8;let⟨np,k3⟩:=gN pls.length
 rw[k3]at eo p2 k6 ⊢;clear k3;obtain⟨cv,gr,mt,⟨ax,ay⟩⟩:=s;obtain⟨Ak,ck,g1,g2,g3,g4,g5,g6,g7,g8,g9⟩:=kl;dsimp only at g1 g2 g4 g6 g7 g8 g9 ih;let⟨nk,k0⟩:=gN cv.length
 rw[k0]at g1 g2 g4;clear k0 g2 g3 g4 g5;let⟨BB,ee⟩:∃BB,BB=w1.heap.size:=⟨_,rfl⟩
 have fa:=Ar (xc.new w1);rw[<-ee]at fa;have oe:Cq (w1.alloc (.cells #[.map none,.slice none 0 0] 147)) ba (oa+k*5+1) gr:=Aq blA g6
 go_upto_region 6 with (go_at_call 83;refine(Ag7 _ _ _).mono ?_;rintro e w2 ⟨v3,rfl,gx,cd⟩;rw[ih.out]at gx;obtain⟨At,ct,rfl,B,ec⟩:=OwT.trs gx;rw[e0.out]at B ec ⊢)
 rw[<-ee];have j0:w1.heap.size<=BB:=by omega
 have s6:BB<=w1.heap.size:=by omega
 have fb:=fa.out.keep cd;have j3:Be w1 w2:=An blA cd;have l1:=cd.size;simp at l1
 let⟨sb,h4⟩:∃sb,0<G->At=some ⟨sb,0,none⟩/\AvE w2 BB sb:=by
  rcases Nat.eq_zero_or_pos G with h0|h0
  .exact⟨0,λh=>by omega⟩
  obtain⟨g,rfl,q1,q2⟩:=ec h0;exact⟨g,λ_=>⟨rfl,fb.av (by simp at q1;omega) q2⟩⟩
 have hh:=Ar (show xc w2 BB w2.heap.size (I0 ⟨len,c,rx,y⟩ S u (k:Int) pls H 0).2 from fb.mono (by omega));clear fa fb cd gx ec oe l1 ee;go_loopw [46] (λi wr=>∃j:Nat,j<=G/\i=.int .i64 j/\Hid ((I0 ⟨len,c,rx,y⟩ S u (k:Int) pls H j).1=0)/\xc wr BB wr.heap.size (I0 ⟨len,c,rx,y⟩ S u (k:Int) pls H j).2/\TrS wr At G H/\(0<G->AvE wr BB sb)/\Be w1 wr) λi _=>G-(intOf i).toNat
 case atStart=>exact⟨0,Nat.zero_le _,rfl,Ar rfl,hh.out,B,λh=>(h4 h).2,j3⟩
 clear hh B j3;obtain⟨j,hj,rfl,hz,hg,B,Y,f⟩:=hrel;by_cases fv:j<G
 .obtain⟨rfl,-⟩:=h4 (by omega);have cx:=Y (by omega);obtain⟨-,b8⟩:=B;rcases b8 with h|⟨wa,b0,b8⟩
  .omega
  injection b0 with b0
  injection b0 with b0
  subst b0;let⟨d1,d2⟩:=b8 j fv;have B:TrS wr (some ⟨sb,0,none⟩) G H:=⟨e0.out,.inr ⟨sb,rfl,b8⟩⟩;have a:=Ar (show I0 ⟨len,c,rx,y⟩ S u (k:Int) pls H (j+1)=_ by rw[I0,if_neg (by rw[hz.out];simp)]);rw[Int.toNat_natCast,my.out]at a;have h5:inR (tr H j).2:=mz.out _ (by unfold tr;rw[List.getD,List.getElem?_eq_getElem (by rw[e0.out];exact fv)];exact List.getElem_mem _);let⟨tj,kp⟩:=gN (tr H j)
  rw[kp]at d1 d2 a h5;clear kp b8;obtain⟨z,A⟩:=tj;dsimp only at d1 d2 a h5;have pq:sb<wr.heap.size:=Bi d1;have J:=λh=>Oo (S:=S) (p:=⟨(k:Int),z,A,0,0⟩) h
  have h3:=F9 S ⟨(k:Int),z,A,0,0⟩;let⟨r,hr⟩:=gN (Br S ⟨(k:Int),z,A,0,0⟩)
  rw[hr]at a J h3;have HR:=Ar hr;clear hr;obtain⟨r1,r⟩:=r;dsimp only at a J h3;by_cases ad:r1=0
  .subst ad;have ev:=J rfl;have hc:=Ar ev;have p1:=El ev;rw[if_neg (by simp)]at a;clear J ev;let⟨d,gf⟩:=gN r.length
   rw[gf]at h3 hc p1;have hn:=Ar gf;clear gf
   go_upto_region 14 with (first|(go_at_call 34;refine(Cf _ _ _ S ⟨(k:Int),z,A,0,0⟩ _ (ca.keep (Ao f _))).mono ?_;rintro e w5 ⟨v5,rfl,cu,Z⟩;rw[HR.out]at cu ⊢;obtain⟨A5,c5,rfl,er,N,iy⟩:=OwS.sps cu;rw[hn.out]at N er iy ⊢;obtain⟨gb,rfl,j6,j7⟩:=iy (by omega))|(go_at_call 84;refine rR (Aec _ _ _ _ r _ (by omega) er N hc.out (by omega)) λw6 cf=>?_))
   let⟨U,b6⟩:∃U,U=wr.heap.size:=⟨_,rfl⟩
   let⟨c3,b7⟩:∃c3,c3=w6.heap.size:=⟨_,rfl⟩
   rw[<-b6,<-b7];have n:Be wr (w6.alloc (.cells #[(loX r d),(loY r d),(wrap64 (hiX r d-loX r d)),(wrap64 (hiY r d-loY r d))] 151)):=Ao (An (An blA Z) cf) _;have x1:Bf (w6.alloc (.cells #[(loX r d),(loY r d),(wrap64 (hiX r d-loX r d)),(wrap64 (hiY r d-loY r d))] 151)) U 59 #[.bool z,A]:=by rw[b6];exact(((Bf.new wr _ _).keep Z).keep cf).alloc _
   have x2:Bf (w6.alloc (.cells #[(loX r d),(loY r d),(wrap64 (hiX r d-loX r d)),(wrap64 (hiY r d-loY r d))] 151)) c3 151 #[(loX r d),(loY r d),(wrap64 (hiX r d-loX r d)),(wrap64 (hiY r d-loY r d))]:=by rw[b7];exact Bf.new _ _ _
   have V:BB<wr.heap.size:=by obtain⟨_,_,q,_⟩:=hg;exact q.lt
   refine Cu (λX=>Be w1 X/\Bf X U 59 #[.bool z,A]/\Bf X c3 151 #[(loX r d),(loY r d),(wrap64 (hiX r d-loX r d)),(wrap64 (hiY r d-loY r d))]/\SpS X (some ⟨gb,0,none⟩) d r/\xc X BB X.heap.size (I0 ⟨len,c,rx,y⟩ S u (k:Int) pls H j).2/\TrS X (some ⟨sb,0,none⟩) G H/\AvE X BB sb) ⟨An f n,x1,x2,(N.keep cf).keep blA,(hg.keep n).mono n.size,B.keep n,cx.keep V n⟩ ?_;clear x1 x2 n V hg B Y cx f N Z cf cu b6 b7 d1 d2 pq j6 j7;rintro X ⟨f,x1,x2,N,hg,B,Y⟩;let⟨a1,a2,a3,a4,a5⟩:=(K0.out.keep f).cells4;let⟨t1,t2,t3,t4,t5⟩:=x1.cells2;have s1:=Aq f g1;have s2:=Aq f g6;have s3:=Aq f g7;have s4:=Aq f g8;have s5:=Aq f g9;have K:=Ab7 ⟨len,c,rx,y⟩ ⟨cv,gr,mt,(ax,ay)⟩ z A r pls;let⟨cw,ey⟩:=gN (Iz ⟨len,c,rx,y⟩ ⟨cv,gr,mt,(ax,ay)⟩ z A r pls)
   rw[ey]at a K;have ml:=Ar ey;clear ey;obtain⟨e1,cs⟩:=cw;dsimp only at a K;go_cut [19,17] λq6 q5 wx=>q5=.int .i64 e1/\OwS wx X.heap.size q6 cs/\Be X wx
   case first =>
    go_region_held3 (λw'=>Cq w' w.heap.size 0 len/\Cq w' w.heap.size 1 c/\Cq w' w.heap.size 2 rx/\Cq w' w.heap.size 3 y/\Cq w' U 0 (.bool z)/\Cq w' U 1 A/\Cq w' ba (oa+k*5) (.slice Ak nk ck)/\Cq w' ba (oa+k*5+1) gr/\Cq w' ba (oa+k*5+2) (.bool mt)/\Cq w' ba (oa+k*5+3) ax/\Cq w' ba (oa+k*5+4) ay)
     (first
      | (go_keep;done)
      | exact⟨Aq l a1,Aq l a2,Aq l a3,Aq l a4,Aq l t1,Aq l t2,Aq l s1,Aq l s2,Aq l s3,Aq l s4,Aq l s5⟩)
     ((first
       | (go_at_call 85;refine(Ab6 _ _ Ak _ _ _ _ nk ck ⟨len,c,rx,y⟩ ⟨cv,gr,mt,(ax,ay)⟩ z A r pls _ (by omega) (by omega) mx.out er (N.keep blD) (eo.keep (Aw f))).mono ?_;rintro e w8 ⟨v8,rfl,k4,l⟩;rw[ml.out]at k4 ⊢)))
    all_goals go_wp2_with fail
    all_goals go_meet
    all_goals exact⟨rfl,k4,An blD l⟩
   obtain⟨rfl,ho,F⟩:=hcut;clear a1 a2 a3 a4 a5 t1 t2 t3 t4 t5 s1 s2 s3 s4 s5;by_cases a8:e1=0
   .subst a8;rw[if_neg (by simp)]at a;obtain⟨Ac,cc,rfl,p0,ek,-⟩:=OwS.sps ho;have hd:=Ar K.2;have cz:=K.1;let⟨nc,cn⟩:=gN cs.length
    rw[cn]at p0 ek cz ⊢;have mr:=Ar cn;have k9:=eo.1;rw[k9]at cz;have dc:=Ar (show Pg ⟨len,c,rx,y⟩ S u (k:Int) (z,A) cs=(List.range nc).find? λi=>Wn ⟨len,c,rx,y⟩ S u (k:Int) (z,A) (gt cs i) by unfold Pg;rw[cn]);clear cn k9 K ho;have n:=An f F;have y1:=x1.keep F;have y2:=x2.keep F;have ch:=(hg.keep F).mono F.size;have b9:=B.keep F;have j1:BB<X.heap.size:=by obtain⟨_,_,q,_⟩:=hg;exact q.lt
    have bb:=Y.keep j1 F;clear x1 x2 hg B Y N f j1;let⟨wo,l0⟩:∃wo:World,wo=wc:=⟨_,rfl⟩
    rw[<-l0]at F ek n y1 y2 ch b9 bb ⊢;clear l0 F;have V:BB<wo.heap.size:=by obtain⟨_,_,q,_⟩:=ch;exact q.lt
    have Y1:=Ar y1;have Y2:=Ar y2;clear y1 y2;go_wp2_with fail;go_loopw [89] (λi wx=>∃m:Nat,m<=nc/\i=.int .i64 m/\Hid (Bp (λi=>Wn ⟨len,c,rx,y⟩ S u (k:Int) (z,A) (gt cs i)) m=false)/\Be wo wx) λi _=>nc-(intOf i).toNat
    case atStart=>exact⟨0,Nat.zero_le _,rfl,Ar (Bp.zero _),bl0⟩
    obtain⟨m,hm,rfl,hf,o⟩:=hrel;by_cases cj:m<nc
    .obtain⟨bc,oc,rfl,s7,cy⟩:=(ek.keep o).at_ cj;let⟨d1,d2⟩:=cy m cj;clear cy;have bm:okS (gt cs m):=hd.out _ (List.mem_of_getElem? (G3 (by rw[mr.out];exact cj)));let⟨a1,a2,a3,a4,a5⟩:=(K0.out.keep (An n o)).cells4;let⟨t1,t2,t3,t4,t5⟩:=(Y1.out.keep o).cells2;let⟨C,h2⟩:=gN (gt cs m)
     rw[h2]at d1 d2 bm;have e7:=Ar h2;clear h2;obtain⟨C,Q⟩:=C;dsimp only at d1 d2;by_cases R:Ha ⟨len,c,rx,y⟩ S u ⟨(k:Int),z,A,C,Q⟩=0
     .have q9:(Ha ⟨len,c,rx,y⟩ S u ⟨(k:Int),z,A,C,Q⟩ == 0)=true:=by simpa using R
      rw[dc.out,Agk cj hf.out (show Wn ⟨len,c,rx,y⟩ S u (k:Int) (z,A) (gt cs m)=true by rw[e7.out];exact q9)] at a;dsimp only at a;rw[e7.out]at a;have j4:td (k:Int) (z,A) r (C,Q)=⟨⟨(k:Int),z,A,C,Q⟩,wrap64 (wrap64 (C+loX r d)+wrap64 (hiX r d-loX r d))⟩:=by unfold td;rw[hn.out]
      rw[j4]at a;clear j4 R
      go_upto_region 22 with (go_at_call 86;refine rR (Sq _ _ _ _ _ _ ⟨len,c,rx,y⟩ S u ⟨(k:Int),z,A,C,Q⟩ _ (by omega) (ca.keep (Ao (Ao (An n o) _) _)) (j2.keep (Ao (Ao (An n o) _) _))) λw9 a7=>?_)
      have I:Be wo w9:=An (Ao (Ao o _) _) a7;let⟨z1,z2,z3,z4,z5⟩:=(Y2.out.keep I).cells4;let⟨m1,m2,m3,m4,m5⟩:=(((Bf.new wr 60 #[C,Q]).alloc (.cells #[(k:Int),.bool z,A,C,Q] 92)).keep a7).cells2;let⟨o1,o2,o3,o4,o5,o6⟩:=((Bf.new2 wr (.cells #[C,Q] 60) 92 #[(k:Int),.bool z,A,C,Q]).keep a7).cells5;have bl:Be w9 (w9.alloc (.cells #[(k:Int),.bool z,A,C,Q,(wrap64 (wrap64 (C+loX r d)+wrap64 (hiX r d-loX r d)))] 158)):=blA;have og:BB<w9.heap.size:=Nat.lt_of_lt_of_le V I.size;have p5:=Ar (((ch.keep I).mono I.size).keep bl);have ow:=Ar ((bb.keep V I).keep og bl);have ou:=Ar ((b9.keep I).keep bl);have ov:=Ar (Bf.new w9 158 #[(k:Int),.bool z,A,C,Q,(wrap64 (wrap64 (C+loX r d)+wrap64 (hiX r d-loX r d)))]);have p7:(I0 ⟨len,c,rx,y⟩ S u (k:Int) pls H j).2.length<=1000000000000:=Nat.le_trans (Xx j) (by omega);have mf:=Ar (An n (An I bl))
      have db:∀x∈[(⟨⟨(k:Int),z,A,C,Q⟩,wrap64 (wrap64 (C+loX r d)+wrap64 (hiX r d-loX r d))⟩:End6)],okE x:=by
       intro x hx;simp at hx;subst hx;exact⟨by show inR (k:Int);unfold inR;omega,h5,bm.1,bm.2,Gi _⟩
      have hv:=Ar db;clear bl a7 o I db
      go_wp2_with (go_at_call 87;refine rR (Ack BB w9.heap.size w9.heap.size 1 1 (I0 ⟨len,c,rx,y⟩ S u (k:Int) pls H j).2 [⟨⟨(k:Int),z,A,C,Q⟩,wrap64 (wrap64 (C+loX r d)+wrap64 (hiX r d-loX r d))⟩] _ rfl (by omega) p7 ov.out (Nat.le_refl _) hv.out p5.out sb ow.out) λw8⟨p4,l,vz,p6,pv⟩=>?_)
      exact⟨⟨j+1,by omega,by go_num,Ar (by rw[a.out]),by rw[a.out];exact p4,ou.out.keepBlk p6,λ_=>pv,mf.out.trans (l.mono j0)⟩,by simp[intOf];omega⟩
     have q9:(Ha ⟨len,c,rx,y⟩ S u ⟨(k:Int),z,A,C,Q⟩ == 0)=false:=by simpa using R
     have j5:=Bp.succ hf.out (show Wn ⟨len,c,rx,y⟩ S u (k:Int) (z,A) (gt cs m)=false by rw[e7.out];exact q9);have mo:=Ar j5;clear j5 R
     go_wp2_with (go_at_call 86;refine rR (Sq _ _ _ _ _ _ ⟨len,c,rx,y⟩ S u ⟨(k:Int),z,A,C,Q⟩ _ (by omega) (ca.keep (Ao (Ao (An n o) _) _)) (j2.keep (Ao (Ao (An n o) _) _))) λw9 a7=>?_)
     exact⟨⟨m+1,by omega,by go_num,mo,An (Ao (Ao o _) _) a7⟩,by simp[intOf];omega⟩
    obtain rfl:nc=m:=by omega
    rw[dc.out,su hf.out]at a;dsimp only at a;go_wp2_with fail;exact⟨⟨j+1,by omega,by go_num,Ar (by rw[a.out]),by rw[a.out];exact(ch.keep o).mono o.size,b9.keep o,λ_=>bb.keep V o,An n o⟩,by simp[intOf];omega⟩
   have qo:(e1 != 0)=true:=by simpa using a8
   rw[if_pos a8]at a;have E:=Xy a.out a8 (G-(j+1));rw[show j+1+(G-(j+1))=G by omega]at E;have HF:=Ar (show J8 (I0 ⟨len,c,rx,y⟩ S u (k:Int) pls H G)=(e1,I1) by rw[E];unfold J8;rw[if_pos a8]);clear E a8;have k1:=K1.out.keep (An f F);let⟨a1,a2,a3,a4,a5,a6⟩:=k1.cells5;let⟨f1,f2,f3,f4,f5⟩:=k1.frz5;go_wp2_with fail;exact bodyPost_ret (v:=.tuple #[L7 I1,e1]) (by simp[results,Tryz.results52,go_sem,a1,a2,a3,a4,a5,L7,I1]) rfl ⟨by rw[HF.out],by have P:=An O (An f F);(repeat first|exact P|refine Ba ?_ (by dsimp only;omega) _)⟩
  have qo:(r1 != 0)=true:=by simpa using ad
  rw[if_pos ad]at a;have E:=Xy a.out ad (G-(j+1));rw[show j+1+(G-(j+1))=G by omega]at E;have HF:=Ar (show J8 (I0 ⟨len,c,rx,y⟩ S u (k:Int) pls H G)=(r1,I1) by rw[E];unfold J8;rw[if_pos ad]);clear E ad J
  go_wp2_with (go_at_call 34;refine(Cf _ _ _ S ⟨(k:Int),z,A,0,0⟩ _ (ca.keep (Ao f _))).mono ?_;rintro e w5 ⟨v5,rfl,cu,Z⟩;rw[HR.out];have k1:=K1.out.keep (An (Ao f _) Z);let⟨a1,a2,a3,a4,a5,a6⟩:=k1.cells5;let⟨f1,f2,f3,f4,f5⟩:=k1.frz5)
  exact bodyPost_ret (v:=.tuple #[L7 I1,r1]) (by simp[results,Tryz.results52,go_sem,a1,a2,a3,a4,a5,L7,I1]) rfl ⟨by rw[HF.out],by have P:=An O (An (Ao f _) Z);(repeat first|exact P|refine Ba ?_ (by dsimp only;omega) _)⟩
 obtain rfl:G=j:=by omega
 obtain⟨mv,sv,k1,k2,-,-,-⟩:=hg;obtain⟨A7,c7,rfl,W⟩:=OwE.ens k2;have j8:=Xx (b:=⟨len,c,rx,y⟩) (S:=S) (ps:=u) (sh:=(k:Int)) (pls:=pls) (ts:=H) G;let⟨L,hL⟩:=gN ((I0 ⟨len,c,rx,y⟩ S u (k:Int) pls H G).2)
 have HF:=Ar (show J8 (I0 ⟨len,c,rx,y⟩ S u (k:Int) pls H G)=if L.length=0 then (18,I1) else (0,(Es L L.length).put) by unfold J8;rw[if_neg (by rw[hz.out];simp),hL]);rw[hL]at k1 W j8;clear hL k2 h4 B Y fv;let⟨n7,j9⟩:=gN L.length
 rw[j9]at k1 W j8 HF;clear j9;let⟨b1,b2,b3,b4,b5⟩:=k1.cells2;let⟨le,fs⟩:=gN (Es L n7)
 rw[fs]at HF;have hl:=Ar fs;clear fs;obtain⟨⟨e1,e2,e3,e4,e5⟩,e6⟩:=le;dsimp only at HF;have K2:=Ar (K1.out.keep f);by_cases h7:n7=0
 .rw[if_pos h7]at HF;have q7:decide (0<n7)=false:=by simp[h7]
  clear h7
  go_upto_region 26 with (go_at_call 88;refine rR (Um A7 _ n7 L _ (by omega) W) λw8 l=>?_;rw[hl.out];unfold ez;dsimp only)
  let⟨M,D⟩:∃M,M=w8.heap.size:=⟨_,rfl⟩
  rw[<-D];refine Cu (λX=>Be w X/\Bf X M 158 #[e1,.bool e2,e3,e4,e5,e6]/\Bf X (w.heap.size+1) 92 #[.int .i64 0,.bool false,.int .i64 0,.int .i64 0,.int .i64 0]) ⟨Ao (An O (An f l)) _,by rw[D];exact Bf.new _ _ _,(K2.out.keep l).alloc _⟩ ?_;clear D l b1 b2 b3 b4 b5 W k1 f;rintro X ⟨bd,kX,bt⟩;let⟨a1,a2,a3,a4,a5,a6⟩:=bt.cells5;let⟨f1,f2,f3,f4,f5⟩:=bt.frz5;let⟨n5,n9,na,nb,nd,nf,ng⟩:=kX.cells6;have dy:=Ar bd;clear bd;go_wp2_with fail;exact bodyPost_ret (v:=.tuple #[L7 I1,.int .i64 18]) (by simp[results,Tryz.results52,go_sem,a1,a2,a3,a4,a5,L7,I1]) rfl ⟨by rw[HF.out],by have P:=dy.out;(repeat first|exact P|refine Ba ?_ (by dsimp only;omega) _)⟩
 rw[if_neg h7]at HF;have q7:decide (0<n7)=true:=by simp;omega
 clear h7
 go_upto_region 26 with (go_at_call 88;refine rR (Um A7 _ n7 L _ (by omega) W) λw8 l=>?_;rw[hl.out];unfold ez;dsimp only)
 let⟨M,D⟩:∃M,M=w8.heap.size:=⟨_,rfl⟩
 rw[<-D];refine Cu (λX=>Be w X/\Bf X M 158 #[e1,.bool e2,e3,e4,e5,e6]/\Bf X (w.heap.size+1) 92 #[.int .i64 0,.bool false,.int .i64 0,.int .i64 0,.int .i64 0]) ⟨Ao (An O (An f l)) _,by rw[D];exact Bf.new _ _ _,(K2.out.keep l).alloc _⟩ ?_;clear D l b1 b2 b3 b4 b5 W k1 f;rintro X ⟨bd,kX,bt⟩;let⟨a1,a2,a3,a4,a5,a6⟩:=bt.cells5;let⟨f1,f2,f3,f4,f5⟩:=bt.frz5;let⟨n5,n9,na,nb,nd,nf,ng⟩:=kX.cells6;have dy:=Ar bd;clear bd;go_wp2_with fail;exact bodyPost_ret (v:=.tuple #[L7 ⟨e1,e2,e3,e4,e5⟩,.int .i64 0]) (by simp[results,Tryz.results52,go_sem,a1,a2,a3,a4,a5,L7,I1]) rfl ⟨by rw[HF.out],by have P:=dy.out;(repeat first|exact P|refine Ba ?_ (by dsimp only;omega) _)⟩
theorem Xw(f g:Option Addr) (j k i d:Nat) (b:Bed4) (S:List Shp) (e:List Pt5) (sh:Int) (w:World) (c:d<=1000) (l:ShS w f i S) (a:PuS w g d e) :
 Calls Tryz.prog 52 #[Jw b,.slice f i j,.slice g d k,sh] w (Xg w (Gj b S e sh)):=by
 unfold Gj;by_cases h:(Gl b S e sh false 0).1=0
 .rw[if_neg (by simp[h])];exact Aey f g j k i d b S e sh w c l a h
 rw[if_pos h];exact yb f g j k i d b S e sh w c l a h
theorem OwP.pus{w:World}    (h:OwG 92 5 enP w e l b):∃A c,l=.slice A b.length c/\PuS w A b.length b:=by
 rcases OwG.form h with⟨rfl,rfl⟩|⟨g,d,rfl,p,q,r,s⟩
 .exact⟨none,0,rfl,rfl,.inl rfl⟩
 refine⟨_,d,rfl,rfl,.inr ⟨g,0,rfl,λk o=>?_⟩⟩;have a:b[k]? = some (pt b k):=by unfold pt;rw[List.getD,List.getElem?_eq_getElem o];rfl
 have c0:=OwG.cells h (k*5) (by omega);have f:=OwG.cells h (k*5+1) (by omega);have i:=OwG.cells h (k*5+2) (by omega);have j:=OwG.cells h (k*5+3) (by omega);have m:=OwG.cells h (k*5+4) (by omega);have n:=Bu Kl b k 0 _ a (by omega);rw[Nat.add_zero]at n;rw[n]at c0;rw[Bu Kl b k 1 _ a (by omega)]at f;rw[Bu Kl b k 2 _ a (by omega)]at i;rw[Bu Kl b k 3 _ a (by omega)]at j;rw[Bu Kl b k 4 _ a (by omega)]at m;rw[Nat.zero_add];exact⟨c0,f,i,j,m⟩
def Cp (b:Bed4) (S:List Shp) (a:List Int):Nat->Int×List Pt5
 | 0=>(0,[])
 | k+1=>if (Cp b S a k).1≠0 then Cp b S a k
   else if (Gj b S (Cp b S a k).2 (gi a k)).1≠0 then ((Gj b S (Cp b S a k).2 (gi a k)).1,[])
   else (0,(Cp b S a k).2++[(Gj b S (Cp b S a k).2 (gi a k)).2])
def Jz (b:Bed4) (S:List Shp) (a:List Int):Int×List Pt5:=if 60<a.length then (5,[]) else Cp b S a a.length
theorem ll{x:Int} (h:Cp f a o e=(x,[])) (b:x≠0):∀m,Cp f a o (e+m)=(x,[]):=by
 intro m;induction m with
 | zero=>exact h
 | succ m ih=>rw[<-Nat.add_assoc,Cp,if_pos (by rw[ih];exact b)];exact ih
theorem lj{b:Bed4} {S:List Shp} {os:List Int} (k:Nat):(Cp b S os k).2.length<=k:=by
 induction k with
 | zero=>simp[Cp]
 | succ k ih =>
   rw[Cp];split
   .omega
   split
   .simp
   simp;omega
theorem Aj4:(Tryz.prog.info? 92).map (λi=>(i.zero,i.size,i.bytes))=some (some (.agg #[.int .i64 0,.bool false,.int .i64 0,.int .i64 0,.int .i64 0]),5,40):=by kernel_rfl
def Aeh (w:World) (r:Int×List Pt5) (e:Ending) (a:World):Prop:=∃v,e=.returned (.tuple #[v,r.1])/\OwG 92 5 enP a w.heap.size v r.2/\Be w a
theorem Ae8(K L:Option Addr) (W Y R h:Nat) (b:Bed4) (S:List Shp) (f:List Int) (w:World) (Z:h<=9223372036854775807) (O:ShS w K R S) (D:InS w L h f) :
 Calls Tryz.prog 30 #[Jw b,.slice K R W,.slice L h Y] w (Aeh w (Jz b S f)):=by
 have t:=Ar (Bf.new w 57 #[b.len,b.wid,b.rx,b.ry]);have d:=Ar (show Be w (w.alloc (.cells #[b.len,b.wid,b.rx,b.ry] 57)) from (Ao (Below.refl _ _) _));obtain⟨len,c,rx,j⟩:=b;unfold Jw;dsimp only at t d ⊢;have C:=D.1;by_cases y:60<h
 .have o:=Ar (show Jz ⟨len,c,rx,j⟩ S f=(5,[]) by unfold Jz;rw[C,if_pos y]);clear C;go_enter Tryz.func30,Tryz.ntmps30;go_wp2_with fail;exact bR ⟨_,by rw[o.out],by rw[o.out];exact OwG.nil,d.out⟩ rfl (by simp[results,Tryz.results30,go_sem])
 have o:=Ar (show Jz ⟨len,c,rx,j⟩ S f=Cp ⟨len,c,rx,j⟩ S f h by unfold Jz;rw[C,if_neg y]);clear C;go_enter Tryz.func30,Tryz.ntmps30;go_wp2_with fail;refine Cu (λX=>Be w X/\Bf X w.heap.size 57 #[len,c,rx,j]) ⟨d.out,t.out⟩ ?_;clear d t;rintro X ⟨d,t⟩;have z:=O.keep d;have E:=D.keep d;have V:=Ar t;clear O D t;go_loopw [8,18] (λv i wr=>∃k:Nat,k<=h/\i=.int .i64 k/\Hid ((Cp ⟨len,c,rx,j⟩ S f k).1=0)/\OwG 92 5 enP wr X.heap.size v (Cp ⟨len,c,rx,j⟩ S f k).2/\Be X wr) λ_ i _=>h-(intOf i).toNat
 case atStart=>exact⟨0,Nat.zero_le _,rfl,Ar rfl,OwG.nil,bl0⟩
 obtain⟨k,hk,rfl,Q,u,n⟩:=hrel;by_cases G:k<h
 .obtain⟨ba,oa,rfl,d1⟩:=(E.keep n).at_ G;have a:=Ar (show Cp ⟨len,c,rx,j⟩ S f (k+1)=_ by rw[Cp,if_neg (by rw[Q.out];simp)]);have A:=lj (b:=⟨len,c,rx,j⟩) (S:=S) (os:=f) k;let⟨s,B⟩:=gN ((Cp ⟨len,c,rx,j⟩ S f k).2)
  rw[B]at a A u;clear B;obtain⟨Ap,cp,rfl,p⟩:=OwP.pus u;let⟨r,I⟩:=gN (Gj ⟨len,c,rx,j⟩ S s (gi f k))
  rw[I]at a;have N:=Ar I;clear I;let⟨T,q⟩:=gN s.length
  rw[q]at p A u ⊢;have x:=Ar q;clear q;let⟨a1,a2,a3,a4,a5⟩:=(V.out.keep n).cells4;obtain⟨J,⟨p1,p2,p3,p4,p5⟩⟩:=r;dsimp only at a;by_cases m:J=0
  .subst m;rw[if_neg (by simp)]at a
   go_wp2_with (first|(go_at_call 52;refine rR (Xw _ _ _ _ _ _ ⟨len,c,rx,j⟩ S s (gi f k) _ (by omega) (z.keep n) p) λU g=>?_;rw[N.out];unfold L7;dsimp only)|(at_builtin;refine Co rfl _ _ 87 rfl enP X.heap.size 92 (.agg #[.int .i64 0,.bool false,.int .i64 0,.int .i64 0,.int .i64 0]) 5 40 Tryz.underlying87 Aj4 rfl (by omega) Kl tg _ s rfl (((u.keep g).alloc _).alloc _) (U.heap.size+1) 1 ⟨p1,p2,p3,p4,p5⟩ 92 rfl (Bf.new2 _ _ _ _) (by rw[x.out];unfold maxLen;omega) (by rw[x.out];omega) (Ao (Ao (An n g) _) _).size ?_;intro v' w2 H F P))
   exact⟨⟨k+1,by omega,by go_num,Ar (by rw[a.out]),by rw[a.out];exact H,Bk (Ao (Ao (An n g) _) _) (((u.keep g).alloc _).alloc _) F⟩,by simp[intOf];omega⟩
  have qo:(J != 0)=true:=by simpa using m
  rw[if_pos m]at a;have l:=ll a.out m (h-(k+1));rw[show k+1+(h-(k+1))=h by omega]at l;have M:=Ar l;clear l m
  go_wp2_with (go_at_call 52;refine rR (Xw _ _ _ _ _ _ ⟨len,c,rx,j⟩ S s (gi f k) _ (by omega) (z.keep n) p) λU g=>?_;rw[N.out];unfold L7;dsimp only)
  exact bR ⟨_,by rw[o.out,M.out],by rw[o.out,M.out];exact OwG.nil,An d (Ao (An n g) _)⟩ rfl (by simp[results,Tryz.results30,go_sem])
 obtain rfl:h=k:=by omega
 go_wp2_with fail;exact bR ⟨_,by rw[o.out,Q.out],by rw[o.out];exact u.lower d.size,An d n⟩ rfl (by simp[results,Tryz.results30,go_sem])
def Sr (f:Bool) (l:LP) (e:Int):Nat->Int
 | 0=>e
 | k+1=>if (f&&decide (k=0))=true\/Sr f l e k<(gt l k).1 then (gt l k).1 else Sr f l e k
def J4 (S:List Shp) (a:List Pt5):Nat->Int×Int
 | 0=>(0,0)
 | k+1=>if (J4 S a k).1≠0 then J4 S a k
   else if (Br S (pt a k)).1≠0 then ((Br S (pt a k)).1,0)
   else (0,Sr (decide (k=0)) (Br S (pt a k)).2 (J4 S a k).2 (Br S (pt a k)).2.length)
def Vn (S:List Shp) (a:List Pt5):Int×Int:=J4 S a a.length
theorem s8{x:Int} (h:J4 a b e=(x,0)) (c:x≠0):∀m,J4 a b (e+m)=(x,0):=by
 intro m;induction m with
 | zero=>exact h
 | succ m ih=>rw[<-Nat.add_assoc,J4,if_pos (by rw[ih];exact c)];exact ih
theorem gj(T U:Option Addr) (c1 c2 n1 d:Nat) (S:List Shp) (l:List Pt5) (w:World) (b1:d<=1000000) (hS:ShS w T n1 S) (B:PuS w U d l) :
 Calls Tryz.prog 31 #[.slice T n1 c1,.slice U d c2] w (Bz w (.tuple #[(Vn S l).2,(Vn S l).1])):=by
 have W:=Ar (show Vn S l=J4 S l d by unfold Vn;rw[B.1]);go_in;go_wp2;go_loopw [6,15] (λv i wr=>∃k:Nat,k<=d/\i=.int .i64 k/\Hid ((J4 S l k).1=0)/\v=.int .i64 (J4 S l k).2/\Be w wr) λ_ i _=>d-(intOf i).toNat
 case atStart=>exact⟨0,Nat.zero_le _,rfl,Ar rfl,rfl,bl0⟩
 obtain⟨k,hk,rfl,hz,rfl,A⟩:=hrel;by_cases Q:k<d
 .obtain⟨-,n⟩:=B.keep A;rcases n with h|⟨ba,oa,rfl,n⟩
  .omega
  let⟨X,Y,Z,d4,d5⟩:=n k Q;clear n;have b:=Ar (show J4 S l (k+1)=_ by rw[J4,if_neg (by rw[hz.out];simp)]);generalize hp:pt l k=p at X Y Z d4 d5 b;clear hp;obtain⟨H,I,J,K,L⟩:=p;dsimp only at X Y Z d4 d5;have u:=F9 S ⟨H,I,J,K,L⟩;generalize hr:Br S ⟨H,I,J,K,L⟩=r at b u;have V:=Ar hr;clear hr;obtain⟨R,r⟩:=r;dsimp only at b u;generalize P:(J4 S l k).2=x at b ⊢;clear P;by_cases g:R=0
  .subst g;rw[if_neg (by simp)]at b;generalize F:r.length=G at b u;have M:=Ar F;clear F
   go_upto_region 8 with (go_at_call 34;refine(Cf _ _ _ S ⟨H,I,J,K,L⟩ _ (hS.keep (Ao A _))).mono ?_;rintro e w5 ⟨v5,rfl,q,o⟩;rw[V.out]at q ⊢;obtain⟨A5,c5,rfl,O,C,-⟩:=OwS.sps q;rw[M.out]at C O ⊢)
   have D:=An (Ao A _) o;clear o q;go_wp2;go_loopw [6,31] (λv i wr=>∃j:Nat,j<=G/\i=.int .i64 j/\v=.int .i64 (Sr (decide (k=0)) r x j)/\Be w5 wr) λ_ i _=>G-(intOf i).toNat
   case atStart=>exact⟨0,Nat.zero_le _,rfl,rfl,bl0⟩
   obtain⟨j,hj,rfl,rfl,c⟩:=hrel;by_cases E:j<G
   .obtain⟨bc,oc,rfl,a8,t⟩:=(C.keep c).at_ E;let⟨x1,x2⟩:=t j E;clear t;have a:Sr (decide (k=0)) r x (j+1)=if (decide (k=0)&&decide (j=0))=true\/Sr (decide (k=0)) r x j<(gt r j).1 then (gt r j).1 else Sr (decide (k=0)) r x j:=rfl
    by_cases s:k=0
    .have q0:((k:Int) == 0)=true:=by simp[s]
     by_cases y:j=0
     .have q1:((j:Int) == 0)=true:=by simp[y]
      rw[if_pos (by simp[s,y])] at a;have m:=Ar a;clear a s y;go_wp2;exact⟨⟨j+1,by omega,by go_num,by rw[m.out],Ao c _⟩,by simp[intOf];omega⟩
     have q1:((j:Int) == 0)=false:=by simp;omega
     by_cases z:Sr (decide (k=0)) r x j<(gt r j).1
     .rw[if_pos (.inr z)]at a;have m:=Ar a;clear a s y;go_wp2;exact⟨⟨j+1,by omega,by go_num,by rw[m.out],Ao c _⟩,by simp[intOf];omega⟩
     rw[if_neg (by simp[y];omega)] at a;have m:=Ar a;have N:=Int.not_lt.1 z;clear a s y;go_wp2;exact⟨⟨j+1,by omega,by go_num,by rw[m.out],Ao c _⟩,by simp[intOf];omega⟩
    have q0:((k:Int) == 0)=false:=by simp;omega
    by_cases z:Sr (decide (k=0)) r x j<(gt r j).1
    .rw[if_pos (.inr z)]at a;have m:=Ar a;clear a s;go_wp2;exact⟨⟨j+1,by omega,by go_num,by rw[m.out],Ao c _⟩,by simp[intOf];omega⟩
    rw[if_neg (by simp[s]at z ⊢;omega)] at a;have m:=Ar a;have N:=Int.not_lt.1 z;clear a s;go_wp2;exact⟨⟨j+1,by omega,by go_num,by rw[m.out],Ao c _⟩,by simp[intOf];omega⟩
   obtain rfl:G=j:=by omega
   go_wp2;exact⟨⟨k+1,by omega,by go_num,Ar (by rw[b.out]),by rw[b.out],An D c⟩,by simp[intOf];omega⟩
  have qo:(R != 0)=true:=by simpa using g
  rw[if_pos g]at b;have f:=s8 b.out g (d-(k+1));rw[show k+1+(d-(k+1))=d by omega]at f;have HF:=Ar f;clear f g
  go_wp2_with (go_at_call 34;refine(Cf _ _ _ S ⟨H,I,J,K,L⟩ _ (hS.keep (Ao A _))).mono ?_;rintro e w5 ⟨v5,rfl,q,o⟩;rw[V.out])
  exact bodyPost_ret (v:=.tuple #[.int .i64 0,R]) (by simp[results,Tryz.results31,go_sem]) rfl ⟨by rw[W.out,HF.out],An (Ao A _) o⟩
 obtain rfl:d=k:=by omega
 go_wp2;exact bodyPost_ret (v:=.tuple #[(J4 S l d).2,.int .i64 0]) (by simp[results,Tryz.results31,go_sem]) rfl ⟨by rw[W.out,hz.out],A⟩
section
section
variable {α : Type}
def Ajy (lt:α->α->Bool) (x:α):List α->List α
 | []=>[x]
 | y::ys=>if lt y x then y::Ajy lt x ys else x::y::ys
def Mz (lt:α->α->Bool):List α->List α
 | []=>[]
 | x::xs=>Ajy lt x (Mz lt xs)
theorem Ur (lt:α->α->Bool) (x:α) (l:List α):(Ajy lt x l).Perm (x::l):=by
 induction l with
 | nil=>exact List.Perm.refl _
 | cons y ys ih =>
   unfold Ajy;split
   ·exact(List.Perm.cons y ih).trans (List.Perm.swap x y ys)
   ·exact List.Perm.refl _
theorem Wl (lt:α->α->Bool) (l:List α):(Mz lt l).Perm l:=by
 induction l with
 | nil=>exact List.Perm.refl _
 | cons x xs ih=>exact(Ur lt x _).trans (List.Perm.cons x ih)
variable {lt : α -> α -> Bool} (hi : ∀ x, lt x x = false) (ht : ∀ x y z, lt x y = true -> lt y z = true -> lt x z = true) (hu : ∀ x y, lt x y = false -> lt y x = false -> x = y)
include hi ht hu
omit hi in
theorem Un (x y z:α) (h1:(!lt y x)=true) (h2:(!lt z y)=true):(!lt z x)=true:=by
 simp only[Bool.not_eq_true'] at *
 by_cases h:lt z x=true
 ·by_cases h3:lt x y=true
  ·rw[ht z x y h h3] at h2;cases h2
  ·have:=hu x y (by simpa using h3) h1
   subst this;rw[h] at h2;cases h2
 ·simpa using h
omit hu in
theorem qi (x y:α):(!lt y x || !lt x y)=true:=by
 by_cases h:lt y x=true
 ·by_cases h2:lt x y=true
  ·have:=ht x y x h2 h;rw[hi] at this;cases this
  ·simp[h2]
 ·simp[h]
theorem Sg (l:List α):(Mz lt l).Pairwise fun x y=>(!lt y x)=true:=by
 induction l with
 | nil=>exact List.Pairwise.nil
 | cons x xs ih =>
   unfold Mz;generalize Mz lt xs=ys at ih;induction ys with
   | nil=>exact List.pairwise_singleton _ _
   | cons y ys ih2 =>
     unfold Ajy;rw[List.pairwise_cons] at ih;split
     ·rename_i hyx
      rw[List.pairwise_cons];refine⟨fun z hz=>?_,ih2 ih.2⟩
      rcases List.mem_cons.1 ((Ur lt x ys).mem_iff.1 hz) with rfl|hz
      ·by_cases h:lt z y=true
       ·have:=ht z y z h hyx;rw[hi] at this;cases this
       ·simpa using h
      ·exact ih.1 z hz
     ·rename_i hyx
      rw[List.pairwise_cons];refine⟨fun z hz=>?_,List.pairwise_cons.2 ih⟩
      have hxy:(!lt y x)=true:=by simpa using hyx
      rcases List.mem_cons.1 hz with rfl|hz
      ·exact hxy
      ·exact Un ht hu x y z hxy (ih.1 z hz)
theorem O0 (l:List α):l.mergeSort (fun x y=>!lt y x)=Mz lt l :=
 List.Perm.eq_of_pairwise (le:=fun x y=>(!lt y x)=true) (fun x y _ _ h1 h2=>hu x y (by simpa using h2) (by simpa using h1))
  (List.pairwise_mergeSort (le:=fun x y=>!lt y x) (fun x y z=>Un ht hu x y z) (fun x y=>qi hi ht x y) l)
  (Sg hi ht hu l) ((List.mergeSort_perm _ _).trans (Wl lt l).symm)
end
def kd (l:LP):LP:=Mz G0 l
theorem Rt(l:LP):Ez l=kd l:=by
 have e:ltOf H6=G0:=by funext p q;exact ltS p q
 unfold Ez kd;have h:=O0 (lt:=ltOf H6) Ano.irrefl Ano.trans Aij l;rw[h,e]
def Adb (l:List LP):List LP:=Mz (λx y=>decide (Hm x y<0)) l
theorem kc(l:List LP):Gy l=Adb l :=
 O0 (lt:=ltOf Hm) (x9 id).irrefl (x9 id).trans Ann l
def Alj (p:Int×Int):Nat->LP->LP
 | 0,r=>r
 | f+1,r=>if 1<r.length/\Bs (gt r (r.length-2)) (gt r (r.length-1)) p<=0 then Alj p f (r.take (r.length-1)) else r
theorem Afe(p:Int×Int):∀(f:Nat) (r:LP),r.length<=f->Wa p r=Alj p f r:=by
 intro f;induction f with
 | zero=>intro r a;rw[Wa,if_neg (by omega)];rfl
 | succ f ih =>
   intro r a;rw[Wa,Alj];split
   .exact ih _ (by rw[List.length_take];omega)
   rfl
def Zy (l:LP):Nat->LP
 | 0=>[]
 | k+1=>Alj (gt l k) k (Zy l k)++[gt l k]
theorem Ab9(l:LP):∀k,Jh l k=Zy l k:=by
 intro k;induction k with
 | zero=>rfl
 | succ k ih=>rw[Jh,Zy,Afe (gt l k) k _ (Lo l k),ih]
def Ahr (l:LP):LP:=(Zy l l.length).dropLast
theorem uy(l:LP):Pv l=Ahr l:=by
 unfold Pv Ahr;rw[Ab9,List.dropLast_eq_take]
def Ad0 (s:LP):Option LP :=
 if s.length<3 then none else if (Ahr s++Ahr s.reverse).length<3 then none else some (Ahr s++Ahr s.reverse)
def Aav (l:LP):Option LP:=Ad0 (Eg eqS (0,0) (kd l))
theorem Zb(l:LP):G2 l=Aav l:=by
 unfold G2 Aav Ad0;rw[Rt,uy,uy]
def Aco (l:LP):Int×LP :=
 if l.length > 160 then (5,[]) else if Bp (λi=>Cc 4194304 (gt l i)) l.length then (3,[]) else match Aav l with|none=>(11,[])|some r=>(0,r)
theorem Z8(l:LP):Dr l=Aco l:=by
 unfold Dr Aco;rw[Zb];rfl
def Ak2 (r:LP):Int×LP :=
 if Bp (λi=>Cc 4194304 (gt r i)) r.length then (3,[]) else if r.length > 160 then (5,[]) else (0,r)
def Anh (a b:LP):Int×LP :=
 match Aco a with
 | (x,p)=>if x≠0 then (x,[]) else match Aco b with
   | (y,q)=>if y≠0 then (y,[]) else Ak2 ((Aav (Gw p q p.length)).getD [])
theorem Aha(a b:LP):Nz a b=Anh a b:=by
 unfold Nz Anh Ak2;rw[Z8,Z8,Zb]
def Yh (s:LP) (b a:List LP):Nat->Int×List LP
 | 0=>(0,a)
 | j+1=>match Yh s b a j with
   | (x,r)=>if x≠0 then (x,r) else match Anh s (Qf (lt_ b j)) with
     | (y,t)=>if y≠0 then (y,[]) else (0,r++[t])
theorem zd(s:LP) (b a:List LP):∀j,Gk s b a j=Yh s b a j:=by
 intro j;induction j with
 | zero=>rfl
 | succ j ih=>rw[Gk,Yh,ih,Aha]
def Yg (b a:List LP):Nat->Int×List LP
 | 0=>(0,[])
 | k+1=>match Yg b a k with
   | (x,r)=>if x≠0 then (x,r) else Yh (lt_ b k) a r a.length
theorem y9(a b:List LP):∀k,Df a b k=Yg a b k:=by
 intro k;induction k with
 | zero=>rfl
 | succ k ih=>rw[Df,Yg,ih,zd]
def Tz (r:Int×List LP):Int×List LP :=
 match r with
 | (x,l)=>if x≠0 then (x,[]) else (0,Eg eqL [] (Adb l))
def Rv (a b:LP):Int×List LP :=
 match Bb a with
 | (x,ss)=>if x≠0 then (x,[]) else match Bb b with
   | (y,ts)=>if y≠0 then (y,[]) else Tz (Yg ss ts ss.length)
theorem V9(a b:LP):Cl a b=Rv a b:=by
 unfold Cl Rv Tz;rw[y9,kc]
def jw (r:Int×List LP):Int×LP :=
 match r with
 | (x,l)=>if x≠0 then (x,[]) else (0,kd ((uniq l.flatten).filter λp=>!Cs l p))
def jx (a b:LP):Int×LP:=jw (Rv a b)
theorem jv(a b:LP):Eh a b=jx a b:=by
 unfold Eh jx jw Rs;rw[V9,Rt]
end
def Ym (l:LP) (a b c:Int) (pls:List LP):Nat->Int×LP
 | 0=>(0,S9 [] [(a,b),(a,c)] (0,0))
 | k+1=>match Ym l a b c pls k with
   | (x,r)=>if x≠0 then (x,r) else match jx (lt_ pls k) l with
     | (y,sp)=>if y≠0 then (y,[]) else (0,Ma a b c sp r sp.length)
theorem zn(l:LP) (a b c:Int) (pls:List LP):∀k,Ft l a b c pls k=Ym l a b c pls k:=by
 intro k;induction k with
 | zero=>rfl
 | succ k ih=>rw[Ft,Ym,ih,jv]
def Wb (b:Bed4) (l:LP) (pls:List LP):Int×LP :=
 if Bg l l.length≠0 then (Bg l l.length,[])
 else Ym l (wrap64 (-loX l l.length)) (wrap64 (-loY l l.length)) (wrap64 (wrap64 (b.wid-loY l l.length)-wrap64 (hiY l l.length-loY l l.length))) pls pls.length
theorem dj(b:Bed4) (l:LP) (pls:List LP):Dh b l pls=Wb b l pls:=by
 unfold Dh Wb;rw[zn]
def Ag0 (b:Bed4) (s:Shp) (a:Bool) (c:Int) (l:LP) (pls:List LP):Int×LP :=
 match Wb b l pls with
 | (x,r)=>if x≠0 then (x,[]) else (0,kd (Fk b.rx b.ry s a c r r.length))
theorem Ab8(b:Bed4) (s:Shp) (a:Bool) (c:Int) (l:LP) (pls:List LP):Iz b s a c l pls=Ag0 b s a c l pls:=by
 unfold Iz Ag0;rw[dj,Rt]
def Aog (b:Bed4) (S:List Shp) (a:List Pt5) (sh:Int) (t:Trn) (E:List End6) (l:LP) (c:Int×LP):Int×List End6 :=
 match c with
 | (y,cs)=>if y≠0 then (y,[]) else match Pg b S a sh t cs with
   | none=>(0,E)
   | some j=>(0,S9 E [td sh t l (gt cs j)] ⟨⟨0,false,0,0,0⟩,0⟩)
def Aoh (b:Bed4) (S:List Shp) (a:List Pt5) (sh:Int) (pls:List LP) (t:Trn) (E:List End6) (q:Int×LP):Int×List End6 :=
 match q with
 | (x,l)=>if x≠0 then (x,[]) else Aog b S a sh t E l (Ag0 b (shp S sh.toNat) t.1 t.2 l pls)
def yd (b:Bed4) (S:List Shp) (c:List Pt5) (sh:Int) (pls:List LP) (a:List Trn):Nat->Int×List End6
 | 0=>(0,[])
 | k+1=>match yd b S c sh pls a k with
   | (e,E)=>if e≠0 then (e,E) else Aoh b S c sh pls (tr a k) E (Br S ⟨sh,(tr a k).1,(tr a k).2,0,0⟩)
theorem Aez(b:Bed4) (S:List Shp) (a:List Pt5) (sh:Int) (pls:List LP) (c:List Trn):∀k,I0 b S a sh pls c k=yd b S a sh pls c k:=by
 intro k;induction k with
 | zero=>rfl
 | succ k ih=>rw[I0,yd,ih,Ab8];rfl
def Ac8 (b:Bed4) (S:List Shp) (c:List Pt5) (sh:Int) (a:List Trn) (r:Int×LP×List LP):Int×Pt5 :=
 match r with
 | (x,_,pls)=>if x≠0 then (x,I1) else J8 (yd b S c sh pls a a.length)
def Aim (b:Bed4) (S:List Shp) (a:List Pt5) (sh:Int):Int×Pt5:=Ac8 b S a sh (vp (shp S sh.toNat).grain false) (Gl b S a sh false 0)
theorem Nk(b:Bed4) (S:List Shp) (a:List Pt5) (sh:Int):Gj b S a sh=Aim b S a sh:=by
 unfold Gj Aim Ac8;rw[Aez]
theorem p9{a:Type} [DecidableEq a] {L b:List a} {d:a}:∀{k:Nat},k<=b.length->∀{x:a},x∈Bo L b d k->x∈L\/x∈b:=by
 intro k;induction k with
 | zero=>intro _ x h;exact .inl h
 | succ k ih =>
   intro c x h;rw[Bo]at h;split at h
   .exact ih (by omega) h
   rcases List.mem_append.1 h with h|h
   .exact ih (by omega) h
   simp at h;right;rw[h,List.getElem?_eq_getElem (by omega)];exact List.getElem_mem _
theorem Aah{a:Type} [DecidableEq a] {L b:List a} {d x:a} (h:x∈S9 L b d):x∈L\/x∈b:=p9 (Nat.le_refl _) h
theorem vq{a:Type} [DecidableEq a] {L b:List a} {d:a}:∀{k:Nat} {x:a},x∈L->x∈Bo L b d k:=by
 intro k;induction k with
 | zero=>intro x h;exact h
 | succ k ih =>
   intro x h;rw[Bo];split
   .exact ih h
   exact List.mem_append.2 (.inl (ih h))
theorem vr{a:Type} [DecidableEq a] {L xs:List a} {d:a}:∀{k i:Nat},i<k->k<=xs.length->xs.getD i d∈Bo L xs d k:=by
 intro k;induction k with
 | zero=>intro i h;omega
 | succ k ih =>
   intro i b c;rw[Bo];by_cases h:i<k
   .split
    .exact ih h (by omega)
    exact List.mem_append.2 (.inl (ih h (by omega)))
   obtain rfl:i=k:=by omega
   split
   .assumption
   exact List.mem_append.2 (.inr (by simp))
theorem Uk{b:Type} [DecidableEq b] {L a:List b} {d x:b}:x∈S9 L a d↔x∈L\/x∈a:=by
 refine⟨Aah,λh=>?_⟩;rcases h with h|h
 .exact vq h
 obtain⟨i,c,rfl⟩:=List.getElem_of_mem h;have:=vr (L:=L) (xs:=a) (d:=d) c (Nat.le_refl _);rw[List.getD,List.getElem?_eq_getElem c]at this;exact this
theorem gh{j:Nat} (h:(List.range e).find? k=some j):j<e/\k j=true/\∀i,i<j->k i=false:=by
 have g:=List.mem_of_find?_eq_some h;have o:=List.find?_some h;refine⟨by simpa using g,o,λi p=>?_⟩;have u:j<e:=by simpa using g
 cases hf:k i with
 | false=>rfl
 | true =>
   exfalso
   -- the first index at which k holds is at most i
   have d:∃m,m<e/\k m=true/\∀q,q<m->k q=false:=by
    have:∀N,(∃m,m<=N/\k m=true)->∃m,m<=N/\k m=true/\∀q,q<m->k q=false:=by
     intro N;induction N with
     | zero =>
       rintro⟨m,b,a⟩;obtain rfl:m=0:=by omega
       exact⟨0,b,a,λq hq=>absurd hq (by omega)⟩
     | succ N ih =>
       rintro⟨m,b,a⟩;by_cases l:∃m,m<=N/\k m=true
       .obtain⟨q,v,r,s⟩:=ih l;exact⟨q,by omega,r,s⟩
       refine⟨m,b,a,λq hq=>?_⟩;cases hq2:k q with
       | false=>rfl
       | true=>exact absurd ⟨q,by omega,hq2⟩ l
    let⟨m,n,f,c⟩:=this i ⟨i,Nat.le_refl _,hf⟩;exact⟨m,by omega,f,c⟩
   obtain⟨m,n,f,c⟩:=d;have b:Db k e=m:=Hf n (by unfold Bp;rw[List.any_eq_false];intro q hq;simp at hq;simp[c q hq]) f;unfold Db at b;rw[h]at b;have:j=m:=by have t:((j:Nat):Int)=(m:Int):=b;omega
   subst this;rw[c i p]at hf;cases hf
theorem Wi:∀{n:Nat},0<n->n<=j.length->Es j n∈j:=by
 intro n;induction n with
 | zero=>intro h;omega
 | succ k ih =>
   intro _ a;rw[Es];split
   .unfold ed;rw[List.getD,List.getElem?_eq_getElem (by omega)];exact List.getElem_mem _
   rename_i h;exact ih (by omega) (by omega)
def StE (b:Bed4) (S:List Shp) (c:List Pt5) (sh:Int) (pls:List LP) (a:List Trn) (i j:Nat):Prop :=
 (Br S ⟨sh,(tr a i).1,(tr a i).2,0,0⟩).1=0/\(Iz b (shp S sh.toNat) (tr a i).1 (tr a i).2 (Br S ⟨sh,(tr a i).1,(tr a i).2,0,0⟩).2 pls).1=0 /\
 Pg b S c sh (tr a i) (Iz b (shp S sh.toNat) (tr a i).1 (tr a i).2 (Br S ⟨sh,(tr a i).1,(tr a i).2,0,0⟩).2 pls).2=some j
def Alz (b:Bed4) (S:List Shp) (sh:Int) (pls:List LP) (a:List Trn) (i j:Nat):End6 :=
 td sh (tr a i) (Br S ⟨sh,(tr a i).1,(tr a i).2,0,0⟩).2 (gt (Iz b (shp S sh.toNat) (tr a i).1 (tr a i).2 (Br S ⟨sh,(tr a i).1,(tr a i).2,0,0⟩).2 pls).2 j)
theorem yc{sh:Int} {pls:List LP} :∀{k:Nat},(I0 f a b sh pls i k).1=0 ->
 (∀c,c<k->(Br a ⟨sh,(tr i c).1,(tr i c).2,0,0⟩).1=0/\(Iz f (shp a sh.toNat) (tr i c).1 (tr i c).2 (Br a ⟨sh,(tr i c).1,(tr i c).2,0,0⟩).2 pls).1=0) /\
 ∀e,e∈(I0 f a b sh pls i k).2↔∃c j,c<k/\StE f a b sh pls i c j/\e=Alz f a sh pls i c j:=by
 intro k;induction k with
 | zero=>intro _;exact⟨λc y=>absurd y (by omega),λe=>by simp[I0]⟩
 | succ k ih =>
   intro h;rw[I0]at h;rw[I0];split at h
   .rename_i r;exact absurd h r
   rename_i r;rw[if_neg r];have v:(I0 f a b sh pls i k).1=0:=by simpa using r
   let⟨w,q⟩:=ih v;split at h
   .rename_i s;exact absurd h s
   rename_i s;rw[if_neg s];split at h
   .rename_i t;exact absurd h t
   rename_i t;rw[if_neg t];have o:(Br a ⟨sh,(tr i k).1,(tr i k).2,0,0⟩).1=0:=by simpa using s
   have p:(Iz f (shp a sh.toNat) (tr i k).1 (tr i k).2 (Br a ⟨sh,(tr i k).1,(tr i k).2,0,0⟩).2 pls).1=0:=by simpa using t
   refine⟨λc y=>?_,λe=>?_⟩
   .by_cases d:c<k
    .exact w c d
    obtain rfl:c=k:=by omega
    exact⟨o,p⟩
   cases hf:Pg f a b sh (tr i k) (Iz f (shp a sh.toNat) (tr i k).1 (tr i k).2 (Br a ⟨sh,(tr i k).1,(tr i k).2,0,0⟩).2 pls).2 with
   | none =>
     show e∈(I0 f a b sh pls i k).2↔_
     rw[q e];constructor
     .rintro⟨c,j,u,l,m⟩;exact⟨c,j,by omega,l,m⟩
     rintro⟨c,j,u,l,m⟩;refine⟨c,j,?_,l,m⟩;by_cases d:c<k
     .exact d
     obtain rfl:c=k:=by omega
     obtain⟨_,_,n⟩:=l;rw[hf]at n;cases n
   | some j =>
     show e∈S9 (I0 f a b sh pls i k).2 _ _↔_
     rw[Uk,q e];constructor
     .rintro(⟨c,x,u,l,m⟩|g)
      .exact⟨c,x,by omega,l,m⟩
      simp at g;exact⟨k,j,by omega,⟨o,p,hf⟩,g⟩
     rintro⟨c,x,u,l,m⟩;by_cases d:c<k
     .exact .inl ⟨c,x,d,l,m⟩
     obtain rfl:c=k:=by omega
     obtain⟨_,_,n⟩:=l;rw[hf]at n;injection n with n
     subst n;exact .inr (by simp;exact m)
theorem Ws{sh:Int} {t:Trn}   (h:Pg f a b sh t r=some e) :
 e<r.length/\Ha f a b ⟨sh,t.1,t.2,(gt r e).1,(gt r e).2⟩=0/\∀i,i<e->Ha f a b ⟨sh,t.1,t.2,(gt r i).1,(gt r i).2⟩≠0:=by
 let⟨c,d,g⟩:=gh h;refine⟨c,by simpa[Wn] using d,λi j=>?_⟩;have:=g i j;simpa[Wn] using this
theorem jr{sh:Int}  (h:Gj f a b sh=(0,n)) :
 (Gl f a b sh false 0).1=0/\(I0 f a b sh (Gl f a b sh false 0).2.2 (vp (shp a sh.toNat).grain false) (vp (shp a sh.toNat).grain false).length).1=0 /\
 ∃E,(I0 f a b sh (Gl f a b sh false 0).2.2 (vp (shp a sh.toNat).grain false) (vp (shp a sh.toNat).grain false).length).2=E/\E≠[]/\n=(Es E E.length).put/\Es E E.length∈E:=by
 unfold Gj at h;split at h
 .rename_i g;injection h with d c
  exact absurd d g
 rename_i g;refine⟨by simpa using g,?_⟩;unfold J8 at h;split at h
 .rename_i d;injection h with c h3
  exact absurd c d
 rename_i d;split at h
 .injection h with c h3;cases c
 rename_i c;injection h with h3 h4
 refine⟨by simpa using d,_,rfl,?_,h4.symm,Wi (by omega) (Nat.le_refl _)⟩;intro e;rw[e]at c;exact c rfl
theorem js{sh:Int}  (h:Gj f a b sh=(0,n)):Ha f a b n=0/\n.sh=sh:=by
 let⟨_,g,E,d,_,l,e⟩:=jr h;rw[<-d]at e;let⟨i,j,m,c,k⟩:=((yc g).2 _).1 e;rw[l,<-d,k];exact⟨(Ws c.2.2).2.1,rfl⟩
theorem sk(h:Ha f a b n=0):Gg f=false/\(Br a n).1=0/\so f a b n (shp a n.sh.toNat) (Br a n).2=0:=by
 unfold Ha at h;split at h
 .cases h
 rename_i d;split at h
 .rename_i c;exact absurd h c
 rename_i c;exact⟨by simpa using d,by simpa using c,h⟩
theorem yz:∀{k:Nat},(Cp f a o k).1=0->(Cp f a o k).2.length=k /\
 ∀i,i<k->(Cp f a o i)=(0,(Cp f a o k).2.take i)/\Gj f a ((Cp f a o k).2.take i) (gi o i)=(0,pt (Cp f a o k).2 i):=by
 intro k;induction k with
 | zero=>intro _;exact⟨rfl,λi p=>absurd p (by omega)⟩
 | succ k ih =>
   intro h;rw[Cp]at h;split at h
   .rename_i d;exact absurd h d
   rename_i d;have b:(Cp f a o k).1=0:=by simpa using d
   split at h
   .rename_i e;exact absurd h e
   rename_i e;have l:(Gj f a (Cp f a o k).2 (gi o k)).1=0:=by simpa using e
   let⟨c,n⟩:=ih b;have t:Cp f a o (k+1)=(0,(Cp f a o k).2++[(Gj f a (Cp f a o k).2 (gi o k)).2]):=by rw[Cp,if_neg d,if_neg e]
   have s:((Cp f a o k).2++[(Gj f a (Cp f a o k).2 (gi o k)).2]).length=k+1:=by rw[List.length_append,c];rfl
   rw[t];refine⟨s,λi p=>?_⟩;by_cases m:i<k
   .obtain⟨q,r⟩:=n i m
    have g:(((Cp f a o k).2++[(Gj f a (Cp f a o k).2 (gi o k)).2]).take i)=(Cp f a o k).2.take i:=by
     rw[List.take_append_of_le_length (by omega)]
    have j:pt ((Cp f a o k).2++[(Gj f a (Cp f a o k).2 (gi o k)).2]) i=pt (Cp f a o k).2 i:=by
     unfold pt;rw[List.getD,List.getD,List.getElem?_append_left (by omega)]
    rw[g,j];exact⟨q,r⟩
   obtain rfl:i=k:=by omega
   have g:(((Cp f a o i).2++[(Gj f a (Cp f a o i).2 (gi o i)).2]).take i)=(Cp f a o i).2:=by
    rw[List.take_append_of_le_length (by omega),List.take_of_length_le (by omega)]
   have j:pt ((Cp f a o i).2++[(Gj f a (Cp f a o i).2 (gi o i)).2]) i=(Gj f a (Cp f a o i).2 (gi o i)).2:=by
    unfold pt;rw[List.getD,List.getElem?_append_right (by omega),c,Nat.sub_self];rfl
   dsimp only;rw[g,j];refine⟨Prod.ext b rfl,Prod.ext l rfl⟩
theorem lh{b:Bed4} {S:List Shp} {os:List Int} (h:(Jz b S os).1=0):os.length<=60/\Jz b S os=Cp b S os os.length/\(Jz b S os).2.length=os.length /\
 ∀i,i<os.length->Ha b S ((Jz b S os).2.take i) (pt (Jz b S os).2 i)=0/\(pt (Jz b S os).2 i).sh=gi os i:=by
 unfold Jz at h ⊢;split at h
 .cases h
 rename_i a;rw[if_neg a];let⟨c,d⟩:=yz h;exact⟨by omega,rfl,c,λi e=>js (d i e).2⟩
theorem Aba:∀{k:Nat},(∀i,i<k->(Br a (pt b i)).1=0)->(J4 a b k).1=0:=by
 intro k;induction k with
 | zero=>intro _;rfl
 | succ k ih =>
   intro h;have c:=ih λi d=>h i (by omega)
   rw[J4,if_neg (by rw[c];simp),if_neg (by rw[h k (by omega)];simp)]
theorem az{b:Bed4} {S:List Shp} {os:List Int} (h:(Jz b S os).1=0):(Vn S (Jz b S os).2).1=0:=by
 let⟨_,_,a,c⟩:=lh h;unfold Vn;rw[a];exact Aba λi d=>(sk (c i d).1).2.1
end Go.Proofs.YtlogblbfbihleaaGreat
